/- The row of TapExact, out of its law by the reckoner: for every argument that reads as data the call returns true and leaves the argument as it was. -/
import Derived.Test.YtonelbidndjhdaaGreatZT140d
import Derived.Test.YtonelbidndjhdaaGreatRows
import Derived.WalkKit
import Derived.ProofKit
import Derived.OpenShut
import Derived.ShutString
import Derived.ChangeOld
import Derived.Below
import Derived.SizedLaws
import Derived.Carry
section
set_option linter.unusedVariables false
set_option linter.unusedSimpArgs false
namespace Go.Proofs.YtonelbidndjhdaaGreat.Wh
open Go RowKit YtonelbidndjhdaaGreatW.PrintWords YtonelbidndjhdaaGreatW.PrintMore YtonelbidndjhdaaGreatW.Aid YtonelbidndjhdaaGreatW.Big YtonelbidndjhdaaGreatW.Sx YtonelbidndjhdaaGreat.BitsWalk YtonelbidndjhdaaGreat.Limbs YtonelbidndjhdaaGreat.Whole YtonelbidndjhdaaGreat.R90 YtonelbidndjhdaaGreat.QN90 YtonelbidndjhdaaGreat.FxWalk Go.Proofs
abbrev tRat (x d:Int):TV := .agg [.neg x,.mag x,.mag d]
def gcdI (n d:Int):Int:=((Nat.gcd n.natAbs d.natAbs:Nat):Int)
theorem nn_eq2 {p q:Int × Int} (h:p=q):(some (CR.tv (tNN p.1 p.2)):Option CR)=some (CR.tv (tNN q.1 q.2)):=by rw [h]
theorem rat_eq {x d x' d':Int} (h:x=x') (h':d=d'):(some (CR.tv (tRat x d)):Option CR)=some (CR.tv (tRat x' d')):=by rw [h,h']
theorem ofS_false {d:Int} (h:0≤d):ofS false d.natAbs=d:=by
  show ((d.natAbs:Nat):Int)=d
  omega
theorem gcd_pos (n:Nat) {d:Int} (h:0<d):0<Nat.gcd n d.natAbs:=Nat.gcd_pos_of_pos_right _ (by omega)
theorem gcdI_pos (n:Int) {d:Int} (h:0<d):0<gcdI n d:=by
  have:=gcd_pos n.natAbs h
  unfold gcdI;omega
theorem make_num {n:Int} {g:Nat} (h:g∣n.natAbs) (hg:0<g):ofS (sgn n) (n.natAbs/g)=n/(g:Int):=by
  obtain ⟨q,hq⟩:=h
  rw [hq,Nat.mul_div_cancel_left _ hg]
  cases hs:sgn n with
  | true =>
    have hn:=sgn_t hs
    have e:n=(g:Int)*(-(q:Int)):=by rw [Int.mul_neg,← Int.natCast_mul,← hq];omega
    rw [e,Int.mul_ediv_cancel_left _ (by omega)]
    rfl
  | false =>
    have hn:=sgn_f hs
    have e:n=(g:Int)*(q:Int):=by rw [← Int.natCast_mul,← hq];omega
    rw [e,Int.mul_ediv_cancel_left _ (by omega)]
    rfl
theorem make_den {d:Int} {g:Nat} (h:0≤d):((d.natAbs/g:Nat):Int)=d/(g:Int):=by rw [Int.natCast_ediv,Int.natAbs_of_nonneg h]
theorem gcdI_n (n d:Int):∃ q,n=gcdI n d*q:=by
  obtain ⟨q,hq⟩:=Nat.gcd_dvd_left n.natAbs d.natAbs
  rcases Int.le_total 0 n with h|h
  · exact ⟨q,by unfold gcdI;rw [← Int.natCast_mul,← hq];omega⟩
  · exact ⟨-(q:Int),by unfold gcdI;rw [Int.mul_neg,← Int.natCast_mul,← hq];omega⟩
theorem gcdI_d (n:Int) {d:Int} (h:0≤d):∃ q,d=gcdI n d*q:=by
  obtain ⟨q,hq⟩:=Nat.gcd_dvd_right n.natAbs d.natAbs
  exact ⟨q,by unfold gcdI;rw [← Int.natCast_mul,← hq];omega⟩
theorem round_gcd (n:Int) {d:Int} (h:0<d):roundP (n/gcdI n d) (d/gcdI n d)=roundP n d∧0<d/gcdI n d:=by
  have hg:=gcdI_pos n h
  obtain ⟨q,hq⟩:=gcdI_n n d
  obtain ⟨r,hr⟩:=gcdI_d n (Int.le_of_lt h)
  generalize gcdI n d=g at *
  subst hq hr
  rw [Int.mul_ediv_cancel_left _ (by omega),Int.mul_ediv_cancel_left _ (by omega)]
  have hr0:0<r:=by
    by_cases h1:0<r
    · exact h1
    · have:=Int.mul_le_mul_of_nonneg_left (show r≤0 by omega) (Int.le_of_lt hg)
      rw [Int.mul_zero] at this;omega
  exact ⟨(roundP_scale hg hr0).symm,hr0⟩
theorem cmpI_zero {x y:Int}:cmpI x y=0↔x=y:=by
  unfold cmpI
  split
  · constructor<;>intro h<;>omega
  · split
    · constructor<;>intro h<;>omega
    · constructor<;>intro h<;>omega
theorem den_mul {d e:Int} (hd:0<d) (he:0<e):((d.natAbs*e.natAbs:Nat):Int)=d*e:=by
  rw [Int.natCast_mul,Int.natAbs_of_nonneg (Int.le_of_lt hd),Int.natAbs_of_nonneg (Int.le_of_lt he)]
theorem may_eq (v:Int):(bif decide (v > -35184372088832) then decide (v<35184372088832) else false)=wd v:=by
  rw [Bool.eq_iff_iff,wd_iff]
  by_cases h:v > -35184372088832
  · rw [decide_eq_true h];simp;omega
  · rw [decide_eq_false h];simp;omega
theorem gtold0 {x:Int} (h:(bif !(smallI x).2 then true else !wd (smallI x).1)=true):((0:Int),(2:Int))=toldR x:=by
  cases hs:(smallI x).2 with
  | false=>have:=told0 (x:=x) (by rw [hs];rfl);exact this
  | true =>
    rw [hs] at h
    have h2:wd (smallI x).1=false:=by simpa using h
    have e:(smallI x).1=x:=by
      unfold smallI at hs ⊢
      split
      · rfl
      · rename_i hc;rw [if_neg hc] at hs;cases hs
    rw [e] at h2
    unfold toldR;rw [h2];rfl
theorem gtold1 {x:Int} (h:(bif !(smallI x).2 then true else !wd (smallI x).1)=false):((smallI x).1,(0:Int))=toldR x:=by
  cases hs:(smallI x).2 with
  | false=>rw [hs] at h;cases h
  | true =>
    rw [hs] at h
    have h2:wd (smallI x).1=true:=by simpa using h
    have e:(smallI x).1=x:=by
      unfold smallI at hs ⊢
      split
      · rfl
      · rename_i hc;rw [if_neg hc] at hs;cases hs
    rw [e] at h2 ⊢
    unfold toldR;rw [h2];rfl
def rootL (a:Int):LI (Int × Int) where
  gs:=fun v=>[(1,tN .i64 2),(2,.ptr 2 0),(4,.ptr 4 0),(5,.ptr 5 0),(6,tN .i64 v.2)]
  bs:=fun v=>[(2,56,[.neg a,.mag a]),(4,56,[.neg 0,.mag 0]),(5,56,[.neg v.1,.mag v.1])]
  I:=fun v => -1≤v.2∧v.2≤501∧0≤v.1∧v.1*v.1≤a∧a<(v.1+2 ^ (v.2+1).toNat)*(v.1+2 ^ (v.2+1).toNat)
  μ:=fun v=>(v.2+1).toNat
theorem wrap_id {x:Int} (h : -1000000≤x) (h':x≤1000000):IntKind.i64.wrap x=x:=by rw [i64_wrap];exact wrap64_id (by omega) (by omega)
theorem root_start {a:Int} (h0:0≤a) (hx:BI 1000 a):(rootL a).I (0,IntKind.i64.wrap (IntKind.i64.wrap (Int.tdiv (bitsN a.natAbs:Int) 2)+1)):=by
  have hb:=bits_le hx
  have hl:=bits_lt a.natAbs
  clear hx
  rw [Int.tdiv_eq_ediv_of_nonneg (by omega),wrap_id (x:=(bitsN a.natAbs:Int)/2) (by omega) (by omega),wrap_id (by omega) (by omega)]
  refine ⟨by show (-1:Int)≤_/2+1;omega,by show (_:Int)/2+1≤501;omega,by show (0:Int)≤0;omega,by show (0:Int)*0≤a;omega,?_⟩
  show a<(0+2 ^ ((bitsN a.natAbs:Int)/2+1+1).toNat)*(0+2 ^ ((bitsN a.natAbs:Int)/2+1+1).toNat)
  rw [Int.zero_add,← Int.pow_add]
  have h1:bitsN a.natAbs≤((bitsN a.natAbs:Int)/2+1+1).toNat+((bitsN a.natAbs:Int)/2+1+1).toNat:=by omega
  generalize ((bitsN a.natAbs:Int)/2+1+1).toNat+((bitsN a.natAbs:Int)/2+1+1).toNat=N at *
  have h2:2 ^ bitsN a.natAbs≤2 ^ N:=Nat.pow_le_pow_right (by omega) h1
  have h3:((2 ^ N:Nat):Int)=2 ^ N:=by norm_cast
  omega
theorem root_pow {k:Int} (h:0≤k):(2:Int) ^ (k+1).toNat=2 ^ k.toNat+2 ^ k.toNat:=by
  rw [show (k+1).toNat=k.toNat+1 by omega,Int.pow_succ];omega
theorem root_yes {a:Int} {v:Int × Int} (h:(rootL a).I v) (hk:decide (v.2≥0)=true) (hc:decide (cmpI ((v.1+1*2 ^ v.2.toNat)*(v.1+1*2 ^ v.2.toNat)) a≤0)=true) :
    (rootL a).μ (v.1+1*2 ^ v.2.toNat,IntKind.i64.wrap (v.2-1))<(rootL a).μ v∧(rootL a).I (v.1+1*2 ^ v.2.toNat,IntKind.i64.wrap (v.2-1)):=by
  obtain ⟨r,k⟩:=v
  obtain ⟨h1,h2,h3,h4,h5⟩:=h
  have hk:=of_decide_eq_true hk
  have hc:=of_decide_eq_true hc
  simp only at *
  have hp:(0:Int)<2 ^ k.toNat:=Int.pow_pos (by omega)
  rw [Int.one_mul] at *
  rw [wrap_id (by omega) (by omega)]
  refine ⟨by show (k-1+1).toNat<(k+1).toNat;omega,by show -1≤k-1;omega,by show k-1≤501;omega,by show 0≤r+2 ^ k.toNat;omega,?_,?_⟩
  · show (r+2 ^ k.toNat)*(r+2 ^ k.toNat)≤a
    unfold cmpI at hc
    split at hc
    · omega
    · split at hc
      · omega
      · omega
  · show a<(r+2 ^ k.toNat+2 ^ (k-1+1).toNat)*(r+2 ^ k.toNat+2 ^ (k-1+1).toNat)
    rw [show k-1+1=k by omega]
    rw [root_pow hk,← Int.add_assoc] at h5
    exact h5
theorem root_no {a:Int} {v:Int × Int} (h:(rootL a).I v) (hk:decide (v.2≥0)=true) (hc:decide (cmpI ((v.1+1*2 ^ v.2.toNat)*(v.1+1*2 ^ v.2.toNat)) a≤0)=false) :
    (rootL a).μ (v.1,IntKind.i64.wrap (v.2-1))<(rootL a).μ v∧(rootL a).I (v.1,IntKind.i64.wrap (v.2-1)):=by
  obtain ⟨r,k⟩:=v
  obtain ⟨h1,h2,h3,h4,h5⟩:=h
  have hk:=of_decide_eq_true hk
  have hc:=of_decide_eq_false hc
  simp only at *
  rw [Int.one_mul] at *
  rw [wrap_id (by omega) (by omega)]
  refine ⟨by show (k-1+1).toNat<(k+1).toNat;omega,by show -1≤k-1;omega,by show k-1≤501;omega,h3,h4,?_⟩
  show a<(r+2 ^ (k-1+1).toNat)*(r+2 ^ (k-1+1).toNat)
  rw [show k-1+1=k by omega]
  unfold cmpI at hc
  split at hc
  · omega
  · split at hc
    · assumption
    · omega
theorem root_done {a:Int} {v:Int × Int} (h:(rootL a).I v) (hk:decide (v.2≥0)=false):v.1=isq a:=by
  obtain ⟨r,k⟩:=v
  obtain ⟨h1,h2,h3,h4,h5⟩:=h
  have hk:=of_decide_eq_false hk
  simp only at *
  have:k = -1:=by omega
  subst this
  exact (isq_uniq h3 h4 h5).symm
theorem pow_be {k:Int} {e:Nat} (hk:k.toNat<e):BI e ((2:Int) ^ k.toNat):=by
  show ((2:Int) ^ k.toNat).natAbs<2 ^ e
  rw [Int.natAbs_pow]
  exact Nat.pow_lt_pow_right (by decide) hk
theorem root_bd {a:Int} {v:Int × Int} (hx:BI 1000 a) (h:(rootL a).I v):BI 1000 v.1∧BI 502 ((1:Int)*2 ^ v.2.toNat)∧v.2≤6400:=by
  obtain ⟨r,k⟩:=v
  obtain ⟨h1,h2,h3,h4,h5⟩:=h
  simp only at *
  refine ⟨B.le hx ?_,?_,by omega⟩
  · by_cases hr:r=0
    · omega
    · have:=Int.mul_le_mul_of_nonneg_left (show 1≤r by omega) h3
      omega
  · rw [Int.one_mul]
    exact pow_be (by omega)
theorem gcd_odd (k:Int) (h:0≤k):gcdI (k*2 ^ Int.toNat 1+1) 2=1:=by
  have h2:(2:Int) ^ Int.toNat 1=2:=rfl
  rw [h2]
  obtain ⟨m,rfl⟩:∃ m:Nat,k=(m:Int):=⟨k.toNat,by omega⟩
  unfold gcdI
  rw [show ((m:Int)*2+1).natAbs=1+2*m by omega,show (2:Int).natAbs=2 from rfl,Nat.gcd_comm,Nat.gcd_rec,Nat.add_mul_mod_self_left]
  rfl
theorem gcd_odd2 (k:Int) (h:0≤k):gcdI ((k*2 ^ Int.toNat 1+1)*(k*2 ^ Int.toNat 1+1)) (2*2)=1:=by
  have h2:(2:Int) ^ Int.toNat 1=2:=rfl
  rw [h2]
  obtain ⟨m,rfl⟩:∃ m:Nat,k=(m:Int):=⟨k.toNat,by omega⟩
  have e:((m:Int)*2+1)*((m:Int)*2+1)=((1+4*(m*m+m):Nat):Int):=by
    rw [Int.mul_add,Int.add_mul,Int.natCast_add,Int.natCast_mul,Int.natCast_add,Int.natCast_mul]
    rw [show (m:Int)*2*((m:Int)*2)=4*((m:Int)*(m:Int)) by rw [Int.mul_assoc,Int.mul_comm 2,Int.mul_assoc,← Int.mul_assoc];omega]
    omega
  unfold gcdI
  rw [e,Int.natAbs_natCast,show ((2:Int)*2).natAbs=4 from rfl,Nat.gcd_comm,Nat.gcd_rec,Nat.add_mul_mod_self_left]
  rfl
abbrev rnA (k:Int):Int:=(k*2 ^ Int.toNat 1+1)/gcdI (k*2 ^ Int.toNat 1+1) ((Int.toNat 2:Nat):Int)
abbrev rnE (k:Int):Int:=((Int.toNat 2:Nat):Int)/gcdI (k*2 ^ Int.toNat 1+1) ((Int.toNat 2:Nat):Int)
abbrev rnC (k:Int):Int:=rnA k*rnA k/gcdI (rnA k*rnA k) (rnE k*rnE k)
abbrev rnD (k:Int):Int:=rnE k*rnE k/gcdI (rnA k*rnA k) (rnE k*rnE k)
theorem rn_vals {k:Int} (h:0≤k):rnA k=k*2 ^ Int.toNat 1+1∧rnE k=2∧rnC k=(k*2 ^ Int.toNat 1+1)*(k*2 ^ Int.toNat 1+1)∧rnD k=4:=by
  have g:=gcd_odd k h
  have h1:rnA k=k*2 ^ Int.toNat 1+1:=by
    show (k*2 ^ Int.toNat 1+1)/gcdI (k*2 ^ Int.toNat 1+1) 2=_
    rw [g,Int.ediv_one]
  have h2:rnE k=2:=by
    show (2:Int)/gcdI (k*2 ^ Int.toNat 1+1) 2=_
    rw [g,Int.ediv_one]
  have h3:rnC k=(k*2 ^ Int.toNat 1+1)*(k*2 ^ Int.toNat 1+1):=by
    show rnA k*rnA k/gcdI (rnA k*rnA k) (rnE k*rnE k)=_
    rw [h1,h2,gcd_odd2 k h,Int.ediv_one]
  have h4:rnD k=4:=by
    show rnE k*rnE k/gcdI (rnA k*rnA k) (rnE k*rnE k)=_
    rw [h1,h2,gcd_odd2 k h,Int.ediv_one];rfl
  exact ⟨h1,h2,h3,h4⟩
def rnBool (x d k:Int):Bool:=bif decide (cmpI (rnC k*d) (x*rnD k)<0) then true else bif cmpI (rnC k*d) (x*rnD k) == 0 then cmpI (k/2 ^ Int.toNat 1*2 ^ Int.toNat 1) k != 0 else false
theorem rnB_eq {x d k:Int} (h:0≤k):rnBool x d k=nearB x d k:=by
  obtain ⟨_,_,h3,h4⟩:=rn_vals h
  have e:(cmpI (k/2 ^ Int.toNat 1*2 ^ Int.toNat 1) k != 0)=!decide (k%2=0):=by
    have h2:(2:Int) ^ Int.toNat 1=2:=rfl
    rw [h2,Bool.eq_iff_iff]
    simp only [bne_iff_ne,ne_eq,cmpI_zero,Bool.not_eq_true',decide_eq_false_iff_not]
    omega
  unfold rnBool nearB
  rw [e,show rnC k*d=(k*2 ^ Int.toNat 1+1)*(k*2 ^ Int.toNat 1+1)*d by rw [h3],show x*rnD k=x*2 ^ Int.toNat 2 by rw [h4];rfl]
theorem rn_yes {x d:Int} (hx:0≤x) (hd:0<d) (h:rnBool x d (isq (x/d))=true):isq (x/d)+1=nearR x d:=near1 (by rw [← rnB_eq (isq_spec (Int.ediv_nonneg hx (Int.le_of_lt hd))).1];exact h)
theorem rn_no {x d:Int} (hx:0≤x) (hd:0<d) (h:rnBool x d (isq (x/d))=false):isq (x/d)=nearR x d:=near0 (by rw [← rnB_eq (isq_spec (Int.ediv_nonneg hx (Int.le_of_lt hd))).1];exact h)
theorem isq_self {n:Int} (h:0≤n):isq n≤n:=by
  obtain ⟨a,b,c⟩:=isq_spec h
  by_cases hz:isq n=0
  · omega
  · have:=Int.mul_le_mul_of_nonneg_left (show 1≤isq n by omega) a
    omega
theorem b22:BI 2 2:=by show (2:Int).natAbs<2 ^ 2;decide
section
set_option maxRecDepth 100000
set_option maxHeartbeats 1000000
def rPow:Con Tryz.prog where
  f:=89
  sem:=fun xs=>match xs with
    | [.agg [.neg x,.mag x'],.sc (.v (.int .i64 n))]=>some (x'=x∧n=2∧BI 5000 x,.tv (tI (x*x)))
    | _=>none
  ok := by
    intro xs p r' h hp
    refine ⟨⟨_,Tryz.func89,by kernel_rfl,rfl⟩,fun us w ha=>?_⟩
    split at h
    · rename_i x x' n
      cases h
      obtain ⟨rfl,rfl,hx⟩:=hp
      refine fn_ret (cxOk Tryz.prog intsR_ok [] [rFrom,rTimes]) follows Tryz.func89 rfl 100 _ rfl (by simp) ?_ ha
      repeat' first
        | exact trivial
        | (refine And.intro (show regChk _ _ _ _ _=true from by kernel_rfl) (And.intro ?_ ?_))
        | (refine And.intro (fun _=>?_) (fun h=>absurd (show true=false from h) (by decide)))
        | (refine And.intro (fun h=>absurd (show false=true from h) (by decide)) (fun _=>?_))
        | (refine And.intro (fun hb=>?_) (fun hb'=>?_))
        | refine And.intro ?_ ?_
        | intro _
      all_goals first
        | (show (_:Int)=(_:Int);rfl)
        | (show (_:Bool)=(_:Bool);first|assumption|exact beq_iff_eq.2 (by assumption)|exact g2 (by assumption) (by assumption))
        | (show BI 20000 _;first|exact hx.mono (by decide)|exact BI.one.mono (by decide)|exact BI.mul (e:=1) (f:=5000) BI.one hx (by decide))
        | (show (-9223372036854775808:Int)≤1;decide)
        | (show (1:Int)<9223372036854775808;decide)
        | (show some (CR.tv (tI _))=some (CR.tv (tI _));exact wh_eq (by rw [Int.one_mul]))
        -- PVC
    · cases h
def rRoot:Con Tryz.prog where
  f:=62
  sem:=fun xs=>match xs with
    | [.agg [.neg a,.mag a'],.sc (.v (.int .i64 n))]=>some (a'=a∧n=2∧0≤a∧BI 1000 a,.tv (tI (isq a)))
    | _=>none
  ok := by
    intro xs p r' h hp
    refine ⟨⟨_,Tryz.func62,by kernel_rfl,rfl⟩,fun us w ha=>?_⟩
    split at h
    · rename_i a a' n
      cases h
      obtain ⟨rfl,rfl,h0,hx⟩:=hp
      refine fnl_ret (rootL a') (cxOk Tryz.prog intsR_ok [] [rFrom,rLen,rLeft,rPlus,rPow,rCmp]) follows Tryz.func62 rfl 100 _ rfl (by simp) ?_ ha
      repeat' first
        | exact trivial
        | (refine And.intro (show regChk _ _ _ _ _=true from by kernel_rfl) (And.intro ?_ ?_))
        | (refine And.intro (fun _=>?_) (fun h=>absurd (show true=false from h) (by decide)))
        | (refine And.intro (fun h=>absurd (show false=true from h) (by decide)) (fun _=>?_))
        | (refine And.intro (fun hb=>?_) (fun hb'=>?_))
        | refine And.intro ?_ ?_
        | intro _
      all_goals first
        | (show (_:Int)=(_:Int);rfl)
        | (show (_:Bool)=(_:Bool);first|assumption|exact beq_iff_eq.2 (by assumption)|exact g2 (by assumption) (by assumption))
        | (show (-9223372036854775808:Int)≤0;decide)
        | (show (-9223372036854775808:Int)≤1;decide)
        | (show (0:Int)<9223372036854775808;decide)
        | (show (1:Int)<9223372036854775808;decide)
        | (show (0:Int)≤1;decide)
        | (show (1:Int)≤6400;decide)
        | (show (1:Int)<18446744073709551616;decide)
        | (show (0:Int)≤2;decide)
        | (show (2:Int)<18446744073709551616;decide)
        | (show (0:Int)≤30;decide)
        | (show (30:Int)≤6400;decide)
        | (show (2:Int)=2;rfl)
        | (show (_:Nat)=(_:Nat);rfl)
        | (show False;omega)
        | (show wfB _ _=true;rfl)
        | (show (∃ v,atL (rootL a') v _);exact ⟨_,root_start h0 hx,⟨rfl,rfl,rfl,rfl,rfl,trivial⟩,⟨rfl,⟨rfl,rfl,trivial⟩,rfl,⟨rfl,rfl,trivial⟩,rfl,⟨rfl,rfl,trivial⟩,trivial⟩⟩)
        | (show (∃ v',(rootL a').μ v'<(rootL a').μ _∧atL (rootL a') v' _);first|exact ⟨_,(root_yes (by assumption) (by assumption) (by assumption)).1,(root_yes (by assumption) (by assumption) (by assumption)).2,⟨rfl,rfl,rfl,rfl,rfl,trivial⟩,⟨rfl,⟨rfl,rfl,trivial⟩,rfl,⟨rfl,rfl,trivial⟩,rfl,⟨rfl,rfl,trivial⟩,trivial⟩⟩|exact ⟨_,(root_no (by assumption) (by assumption) (by assumption)).1,(root_no (by assumption) (by assumption) (by assumption)).2,⟨rfl,rfl,rfl,rfl,rfl,trivial⟩,⟨rfl,⟨rfl,rfl,trivial⟩,rfl,⟨rfl,rfl,trivial⟩,rfl,⟨rfl,rfl,trivial⟩,trivial⟩⟩)
        | (show BI _ _;first|exact BI.mono hx (by decide)|exact BI.mono BI.one (by decide)|exact BI.mono (root_bd hx (by assumption)).1 (by decide)|exact BI.mono (root_bd hx (by assumption)).2.1 (by decide)|exact BI.mono (BI.add (e:=1000) (g:=1001) (root_bd hx (by assumption)).1 (BI.mono (root_bd hx (by assumption)).2.1 (by decide)) (by decide)) (by decide)|exact BI.mul (e:=1001) (f:=1001) (BI.add (e:=1000) (g:=1001) (root_bd hx (by assumption)).1 (BI.mono (root_bd hx (by assumption)).2.1 (by decide)) (by decide)) (BI.add (e:=1000) (g:=1001) (root_bd hx (by assumption)).1 (BI.mono (root_bd hx (by assumption)).2.1 (by decide)) (by decide)) (by decide))
        | (show (0:Int)≤_;exact of_decide_eq_true (by assumption))
        | (show (_:Int)≤6400;exact (root_bd hx (by assumption)).2.2)
        | (show some (CR.tv (tI _))=some (CR.tv (tI _));exact wh_eq (root_done (by assumption) (by assumption)))
        -- PVC
    · cases h
def qMake:Con Tryz.prog where
  f:=40
  sem:=fun xs=>match xs with
    | [.agg [.neg n,.mag n'],.sc (.mag d)]=>some (n'=n∧0<d∧BI 8000 n∧BI 8000 d,.tv (tRat (n/gcdI n d) (d/gcdI n d)))
    | _=>none
  ok := by
    intro xs p r' h hp
    refine ⟨⟨_,Tryz.func40,by kernel_rfl,rfl⟩,fun us w ha=>?_⟩
    split at h
    · rename_i n n' d
      cases h
      obtain ⟨rfl,h0,hn,hd⟩:=hp
      have gp:=gcd_pos n'.natAbs h0
      have gl:B 8000 (Nat.gcd n'.natAbs d.natAbs):=B.le hd (Nat.gcd_le_right _ (by omega))
      refine fn_ret (cxOk Tryz.prog intsR_ok [] [cNGcd,cNDivide,rMade]) follows Tryz.func40 rfl 100 _ rfl (by simp) ?_ ha
      repeat' first
        | exact trivial
        | (refine And.intro (show regChk _ _ _ _ _=true from by kernel_rfl) (And.intro ?_ ?_))
        | (refine And.intro (fun _=>?_) (fun h=>absurd (show true=false from h) (by decide)))
        | (refine And.intro (fun h=>absurd (show false=true from h) (by decide)) (fun _=>?_))
        | (refine And.intro (fun hb=>?_) (fun hb'=>?_))
        | refine And.intro ?_ ?_
        | intro _
      all_goals first
        | (show (_:Int)=(_:Int);rfl)
        | (show (_:Bool)=(_:Bool);first|assumption|exact beq_iff_eq.2 (by assumption)|exact g2 (by assumption) (by assumption))
        | (show B _ _;first|exact B.mono hn (by decide)|exact B.mono hd (by decide)|exact B.mono gl (by decide))
        | (show 0<Int.natAbs _;exact gp)
        | (show some (CR.tv (tRat _ _))=some (CR.tv (tRat _ _));exact rat_eq (by simp only [Int.natAbs_natCast];exact make_num (Nat.gcd_dvd_left _ _) gp) (by simp only [Int.natAbs_natCast];exact make_den (Int.le_of_lt h0)))
        -- PVC
    · cases h
def qden:Con Tryz.prog where
  f:=91
  sem:=fun xs=>match xs with
    | [.agg [.neg x,.mag x',.mag d]]=>some (0≤d,.tv (tI d))
    | _=>none
  ok := by
    intro xs p r' h hp
    refine ⟨⟨_,Tryz.func91,by kernel_rfl,rfl⟩,fun us w ha=>?_⟩
    split at h
    · rename_i x x' d
      cases h
      refine fn_ret (cxOk Tryz.prog intsR_ok [] [rMade]) follows Tryz.func91 rfl 100 _ rfl (by simp) ?_ ha
      repeat' first
        | exact trivial
        | (refine And.intro (show regChk _ _ _ _ _=true from by kernel_rfl) (And.intro ?_ ?_))
        | (refine And.intro (fun _=>?_) (fun h=>absurd (show true=false from h) (by decide)))
        | (refine And.intro (fun h=>absurd (show false=true from h) (by decide)) (fun _=>?_))
        | (refine And.intro (fun hb=>?_) (fun hb'=>?_))
        | refine And.intro ?_ ?_
        | intro _
      all_goals first
        | (show (_:Int)=(_:Int);rfl)
        | (show (_:Bool)=(_:Bool);first|assumption|exact beq_iff_eq.2 (by assumption)|exact g2 (by assumption) (by assumption))
        | (show some (CR.tv (tI _))=some (CR.tv (tI _));exact wh_eq (ofS_false hp))
        -- PVC
    · cases h
def qFloor:Con Tryz.prog where
  f:=63
  sem:=fun xs=>match xs with
    | [.agg [.neg x,.mag x',.mag d]]=>some (x'=x∧0<d∧BI 8000 x∧BI 8000 d,.tv (tI (x/d)))
    | _=>none
  ok := by
    intro xs p r' h hp
    refine ⟨⟨_,Tryz.func63,by kernel_rfl,rfl⟩,fun us w ha=>?_⟩
    split at h
    · rename_i x x' d
      cases h
      obtain ⟨rfl,h0,hn,hd⟩:=hp
      refine fn_ret (cxOk Tryz.prog intsR_ok [] [qden,rDivide]) follows Tryz.func63 rfl 100 _ rfl (by simp) ?_ ha
      repeat' first
        | exact trivial
        | (refine And.intro (show regChk _ _ _ _ _=true from by kernel_rfl) (And.intro ?_ ?_))
        | (refine And.intro (fun _=>?_) (fun h=>absurd (show true=false from h) (by decide)))
        | (refine And.intro (fun h=>absurd (show false=true from h) (by decide)) (fun _=>?_))
        | (refine And.intro (fun hb=>?_) (fun hb'=>?_))
        | refine And.intro ?_ ?_
        | intro _
      all_goals first
        | (show (_:Int)=(_:Int);rfl)
        | (show (_:Bool)=(_:Bool);first|assumption|exact beq_iff_eq.2 (by assumption)|exact g2 (by assumption) (by assumption))
        | (show BI _ _;first|exact BI.mono hn (by decide)|exact BI.mono hd (by decide))
        | (show (0:Int)≤d;exact Int.le_of_lt h0)
        | (show (0:Int)<d;exact h0)
        | (show some (CR.tv (tI _))=some (CR.tv (tI _));rfl)
        -- PVC
    · cases h
def qCmp:Con Tryz.prog where
  f:=66
  sem:=fun xs=>match xs with
    | [.agg [.neg x,.mag x',.mag d],.agg [.neg y,.mag y',.mag e]]=>some (x'=x∧y'=y∧0≤d∧0≤e∧BI 4000 x∧BI 4000 d∧BI 4000 y∧BI 4000 e,.tv (tN .i64 (cmpI (x*e) (y*d))))
    | _=>none
  ok := by
    intro xs p r' h hp
    refine ⟨⟨_,Tryz.func66,by kernel_rfl,rfl⟩,fun us w ha=>?_⟩
    split at h
    · rename_i x x' d y y' e
      cases h
      obtain ⟨rfl,rfl,h0,h1,hx,hd,hy,he⟩:=hp
      refine fn_ret (cxOk Tryz.prog intsR_ok [] [qden,rTimes,rCmp]) follows Tryz.func66 rfl 100 _ rfl (by simp) ?_ ha
      repeat' first
        | exact trivial
        | (refine And.intro (show regChk _ _ _ _ _=true from by kernel_rfl) (And.intro ?_ ?_))
        | (refine And.intro (fun _=>?_) (fun h=>absurd (show true=false from h) (by decide)))
        | (refine And.intro (fun h=>absurd (show false=true from h) (by decide)) (fun _=>?_))
        | (refine And.intro (fun hb=>?_) (fun hb'=>?_))
        | refine And.intro ?_ ?_
        | intro _
      all_goals first
        | (show (_:Int)=(_:Int);rfl)
        | (show (_:Bool)=(_:Bool);first|assumption|exact beq_iff_eq.2 (by assumption)|exact g2 (by assumption) (by assumption))
        | (show BI _ _;first|exact BI.mono hx (by decide)|exact BI.mono hd (by decide)|exact BI.mono hy (by decide)|exact BI.mono he (by decide)|exact BI.mono (BI.mul hx he (Nat.le_refl _)) (by decide)|exact BI.mono (BI.mul hy hd (Nat.le_refl _)) (by decide))
        | (show (0:Int)≤d;exact h0)
        | (show (0:Int)≤e;exact h1)
        | (show some (CR.tv (tN _ _))=some (CR.tv (tN _ _));rfl)
        -- PVC
    · cases h
def qTimes:Con Tryz.prog where
  f:=67
  sem:=fun xs=>match xs with
    | [.agg [.neg x,.mag x',.mag d],.agg [.neg y,.mag y',.mag e]]=>some (x'=x∧y'=y∧0<d∧0<e∧BI 4000 x∧BI 4000 d∧BI 4000 y∧BI 4000 e,.tv (tRat (x*y/gcdI (x*y) (d*e)) (d*e/gcdI (x*y) (d*e))))
    | _=>none
  ok := by
    intro xs p r' h hp
    refine ⟨⟨_,Tryz.func67,by kernel_rfl,rfl⟩,fun us w ha=>?_⟩
    split at h
    · rename_i x x' d y y' e
      cases h
      obtain ⟨rfl,rfl,h0,h1,hx,hd,hy,he⟩:=hp
      have hde:=den_mul h0 h1
      have b1:BI 8000 (((d.natAbs*e.natAbs:Nat):Int)):=by rw [hde];exact BI.mul hd he (Nat.le_refl _)
      refine fn_ret (cxOk Tryz.prog intsR_ok [] [qMake,rTimes,cNTimes]) follows Tryz.func67 rfl 100 _ rfl (by simp) ?_ ha
      repeat' first
        | exact trivial
        | (refine And.intro (show regChk _ _ _ _ _=true from by kernel_rfl) (And.intro ?_ ?_))
        | (refine And.intro (fun _=>?_) (fun h=>absurd (show true=false from h) (by decide)))
        | (refine And.intro (fun h=>absurd (show false=true from h) (by decide)) (fun _=>?_))
        | (refine And.intro (fun hb=>?_) (fun hb'=>?_))
        | refine And.intro ?_ ?_
        | intro _
      all_goals first
        | (show (_:Int)=(_:Int);rfl)
        | (show (_:Bool)=(_:Bool);first|assumption|exact beq_iff_eq.2 (by assumption)|exact g2 (by assumption) (by assumption))
        | (show BI _ _;first|exact BI.mono hx (by decide)|exact BI.mono hd (by decide)|exact BI.mono hy (by decide)|exact BI.mono he (by decide)|exact BI.mono (BI.mul hx hy (Nat.le_refl _)) (by decide)|exact BI.mono b1 (by decide))
        | (show B _ _;first|exact B.mono hx (by decide)|exact B.mono hd (by decide)|exact B.mono hy (by decide)|exact B.mono he (by decide))
        | (show (0:Int)<((_*_:Nat):Int);rw [hde];exact Int.mul_pos h0 h1)
        | (show some (CR.tv (tRat _ _))=some (CR.tv (tRat _ _));exact rat_eq (by rw [hde]) (by rw [hde]))
        -- PVC
    · cases h
def gMay:Con Tryz.prog where
  f:=11
  sem:=fun xs=>match xs with
    | [.sc (.v (.int .i64 v))]=>some (True,.tv (tB (wd v)))
    | _=>none
  ok := by
    intro xs p r' h hp
    refine ⟨⟨_,Tryz.func11,by kernel_rfl,rfl⟩,fun us w ha=>?_⟩
    split at h
    · rename_i v
      cases h
      refine fn_ret (cxOk Tryz.prog intsR_ok [] []) follows Tryz.func11 rfl 100 _ rfl (by simp) ?_ ha
      repeat' first
        | exact trivial
        | (refine And.intro (show regChk _ _ _ _ _=true from by kernel_rfl) (And.intro ?_ ?_))
        | (refine And.intro (fun _=>?_) (fun h=>absurd (show true=false from h) (by decide)))
        | (refine And.intro (fun h=>absurd (show false=true from h) (by decide)) (fun _=>?_))
        | (refine And.intro (fun hb=>?_) (fun hb'=>?_))
        | refine And.intro ?_ ?_
        | intro _
      all_goals first
        | (show (_:Int)=(_:Int);rfl)
        | (show (_:Bool)=(_:Bool);first|assumption|exact beq_iff_eq.2 (by assumption)|exact g2 (by assumption) (by assumption))
        | (show some (CR.tv (tB _))=some (CR.tv (tB _));exact tB_eq (may_eq v))
        -- PVC
    · cases h
def gWord:Con Tryz.prog where
  f:=22
  sem:=fun xs=>match xs with
    | [.agg [.neg x,.mag x']]=>some (x'=x,.tv (tNN (toldR x).1 (toldR x).2))
    | _=>none
  ok := by
    intro xs p r' h hp
    refine ⟨⟨_,Tryz.func22,by kernel_rfl,rfl⟩,fun us w ha=>?_⟩
    split at h
    · rename_i x x'
      cases h
      obtain rfl:=hp
      refine fn_ret (cxOk Tryz.prog intsR_ok [] [rSmall,gMay]) follows Tryz.func22 rfl 100 _ rfl (by simp) ?_ ha
      repeat' first
        | exact trivial
        | (refine And.intro (show regChk _ _ _ _ _=true from by kernel_rfl) (And.intro ?_ ?_))
        | (refine And.intro (fun _=>?_) (fun h=>absurd (show true=false from h) (by decide)))
        | (refine And.intro (fun h=>absurd (show false=true from h) (by decide)) (fun _=>?_))
        | (refine And.intro (fun hb=>?_) (fun hb'=>?_))
        | refine And.intro ?_ ?_
        | intro _
      all_goals first
        | (show (_:Int)=(_:Int);rfl)
        | (show (_:Bool)=(_:Bool);first|assumption|exact beq_iff_eq.2 (by assumption)|exact g2 (by assumption) (by assumption))
        | (show some (CR.tv (tNN _ _))=some (CR.tv (tNN _ _));first|exact nn_eq (gtold0 (by assumption))|exact nn_eq (gtold1 (by assumption)))
        -- PVC
    · cases h
def gProd:Con Tryz.prog where
  f:=44
  sem:=fun xs=>match xs with
    | [.sc (.v (.int .i64 a)),.sc (.v (.int .i64 b))]=>some ((-9223372036854775808≤a∧a<9223372036854775808)∧(-9223372036854775808≤b∧b<9223372036854775808),.tv (tI (a*b)))
    | _=>none
  ok := by
    intro xs p r' h hp
    refine ⟨⟨_,Tryz.func44,by kernel_rfl,rfl⟩,fun us w ha=>?_⟩
    split at h
    · rename_i a b
      cases h
      obtain ⟨pa,pb⟩:=hp
      refine fn_ret (cxOk Tryz.prog intsR_ok [] [rFrom,rTimes]) follows Tryz.func44 rfl 100 _ rfl (by simp) ?_ ha
      repeat' first
        | exact trivial
        | (refine And.intro (show regChk _ _ _ _ _=true from by kernel_rfl) (And.intro ?_ ?_))
        | (refine And.intro (fun _=>?_) (fun h=>absurd (show true=false from h) (by decide)))
        | (refine And.intro (fun h=>absurd (show false=true from h) (by decide)) (fun _=>?_))
        | (refine And.intro (fun hb=>?_) (fun hb'=>?_))
        | refine And.intro ?_ ?_
        | intro _
      all_goals first
        | (show (_:Int)=(_:Int);rfl)
        | (show (_:Bool)=(_:Bool);first|assumption|exact beq_iff_eq.2 (by assumption)|exact g2 (by assumption) (by assumption))
        | (with_reducible exact pa.1)
        | (with_reducible exact pa.2)
        | (with_reducible exact pb.1)
        | (with_reducible exact pb.2)
        | (show BI _ _;first|exact BI.mono (BI.i64 pa) (by decide)|exact BI.mono (BI.i64 pb) (by decide))
        | (show some (CR.tv (tI _))=some (CR.tv (tI _));rfl)
        -- PVC
    · cases h
def gAdd:Con Tryz.prog where
  f:=36
  sem:=fun xs=>match xs with
    | [.sc (.v (.int .i64 a)),.sc (.v (.int .i64 b))]=>some ((-9223372036854775808≤a∧a<9223372036854775808)∧(-9223372036854775808≤b∧b<9223372036854775808),.tv (tNN (toldR (a+b)).1 (toldR (a+b)).2))
    | _=>none
  ok := by
    intro xs p r' h hp
    refine ⟨⟨_,Tryz.func36,by kernel_rfl,rfl⟩,fun us w ha=>?_⟩
    split at h
    · rename_i a b
      cases h
      obtain ⟨pa,pb⟩:=hp
      refine fn_ret (cxOk Tryz.prog intsR_ok [] [rFrom,rPlus,gWord]) follows Tryz.func36 rfl 100 _ rfl (by simp) ?_ ha
      repeat' first
        | exact trivial
        | (refine And.intro (show regChk _ _ _ _ _=true from by kernel_rfl) (And.intro ?_ ?_))
        | (refine And.intro (fun _=>?_) (fun h=>absurd (show true=false from h) (by decide)))
        | (refine And.intro (fun h=>absurd (show false=true from h) (by decide)) (fun _=>?_))
        | (refine And.intro (fun hb=>?_) (fun hb'=>?_))
        | refine And.intro ?_ ?_
        | intro _
      all_goals first
        | (show (_:Int)=(_:Int);rfl)
        | (show (_:Bool)=(_:Bool);first|assumption|exact beq_iff_eq.2 (by assumption)|exact g2 (by assumption) (by assumption))
        | (with_reducible exact pa.1)
        | (with_reducible exact pa.2)
        | (with_reducible exact pb.1)
        | (with_reducible exact pb.2)
        | (show BI _ _;first|exact BI.mono (BI.i64 pa) (by decide)|exact BI.mono (BI.i64 pb) (by decide))
        | (show some (CR.tv (tNN _ _))=some (CR.tv (tNN _ _));rfl)
        -- PVC
    · cases h
def gRootNear:Con Tryz.prog where
  f:=39
  sem:=fun xs=>match xs with
    | [.agg [.neg x,.mag x',.mag d]]=>some (x'=x∧0≤x∧0<d∧BI 900 x∧BI 900 d,.tv (tI (nearR x d)))
    | _=>none
  ok := by
    intro xs p r' h hp
    refine ⟨⟨_,Tryz.func39,by kernel_rfl,rfl⟩,fun us w ha=>?_⟩
    split at h
    · rename_i x x' d
      cases h
      obtain ⟨rfl,h0,hd0,hn,hd⟩:=hp
      have hq:0≤x'/d:=Int.ediv_nonneg h0 (Int.le_of_lt hd0)
      have hk:=(isq_spec hq).1
      obtain ⟨hA,hE,hC,hD⟩:=rn_vals hk
      have b1:BI 900 (isq (x'/d)):=B.le (hn.div d) (by have:=isq_self hq;omega)
      have b2:BI 901 ((isq (x'/d))*2 ^ Int.toNat 1):=BI.shl 1 b1 (by decide)
      have b3:BI 902 ((isq (x'/d))*2 ^ Int.toNat 1+1):=BI.add b2 (BI.one.mono (by decide)) (by decide)
      have bA:BI 902 (rnA (isq (x'/d))):=by rw [hA];exact b3
      have bE:BI 902 (rnE (isq (x'/d))):=by rw [hE];exact b22.mono (by decide)
      have bC:BI 1804 (rnC (isq (x'/d))):=by rw [hC];exact BI.mul b3 b3 (by decide)
      have bD:BI 902 (rnD (isq (x'/d))):=by rw [hD];exact BI.mono (e:=3) (show (4:Int).natAbs<2 ^ 3 by decide) (by decide)
      have b4:BI 900 ((isq (x'/d))/2 ^ Int.toNat 1):=b1.div _
      have b5:BI 901 ((isq (x'/d))/2 ^ Int.toNat 1*2 ^ Int.toNat 1):=BI.shl 1 b4 (by decide)
      have hE':rnE (isq (x'/d))=2:=hE
      have hD':rnD (isq (x'/d))=4:=hD
      refine fn_ret (cxOk Tryz.prog intsR_ok [] [qFloor,rRoot,rLeft,rFrom,rPlus,cNOf,qMake,qTimes,qCmp,rCmp,rRight]) follows Tryz.func39 rfl 100 _ rfl (by simp) ?_ ha
      repeat' first
        | exact trivial
        | (refine And.intro (show regChk _ _ _ _ _=true from by kernel_rfl) (And.intro ?_ ?_))
        | (refine And.intro (fun _=>?_) (fun h=>absurd (show true=false from h) (by decide)))
        | (refine And.intro (fun h=>absurd (show false=true from h) (by decide)) (fun _=>?_))
        | (refine And.intro (fun hb=>?_) (fun hb'=>?_))
        | refine And.intro ?_ ?_
        | intro _
      all_goals first
        | (show (_:Int)=(_:Int);rfl)
        | (show (_:Bool)=(_:Bool);first|assumption|exact beq_iff_eq.2 (by assumption)|exact g2 (by assumption) (by assumption))
        | (show (-9223372036854775808:Int)≤0;decide)
        | (show (-9223372036854775808:Int)≤1;decide)
        | (show (0:Int)<9223372036854775808;decide)
        | (show (1:Int)<9223372036854775808;decide)
        | (show (0:Int)≤1;decide)
        | (show (1:Int)≤6400;decide)
        | (show (1:Int)<18446744073709551616;decide)
        | (show (0:Int)≤2;decide)
        | (show (2:Int)<18446744073709551616;decide)
        | (show (0:Int)≤30;decide)
        | (show (30:Int)≤6400;decide)
        | (show (2:Int)=2;rfl)
        | (show (_:Nat)=(_:Nat);rfl)
        | (show (0:Int)<d;exact hd0)
        | (show (0:Int)≤d;exact Int.le_of_lt hd0)
        | (show (0:Int)≤x'/d;exact hq)
        | (show (0:Int)<((Int.toNat 2:Nat):Int);decide)
        | (show (0:Int)<rnE (isq (x'/d));rw [hE];decide)
        | (show (0:Int)≤rnD (isq (x'/d));rw [hD];decide)
        | (show BI _ _;first|exact BI.mono hn (by decide)|exact BI.mono hd (by decide)|exact BI.mono (hn.div d) (by decide)|exact BI.mono b1 (by decide)|exact BI.mono b2 (by decide)|exact BI.mono b3 (by decide)|exact BI.mono BI.one (by decide)|exact BI.mono bA (by decide)|exact BI.mono bE (by decide)|exact BI.mono bC (by decide)|exact BI.mono bD (by decide)|exact BI.mono b4 (by decide)|exact BI.mono b5 (by decide)|exact BI.mono (show BI 2 ((Int.toNat 2:Nat):Int) from b22) (by decide))
        | (show some (CR.tv (tI _))=some (CR.tv (tI _));first|exact wh_eq (rn_yes h0 hd0 (by assumption))|exact wh_eq (rn_no h0 hd0 (by assumption)))
        -- PVC
    · cases h
end
end Go.Proofs.YtonelbidndjhdaaGreat.Wh
end
section
set_option linter.unusedVariables false
set_option linter.unusedSimpArgs false
namespace Go.Proofs.YtonelbidndjhdaaGreat.Wh
open Go RowKit YtonelbidndjhdaaGreatW.PrintWords YtonelbidndjhdaaGreatW.PrintMore YtonelbidndjhdaaGreatW.Aid YtonelbidndjhdaaGreatW.Big YtonelbidndjhdaaGreatW.Sx YtonelbidndjhdaaGreat.BitsWalk YtonelbidndjhdaaGreat.Limbs YtonelbidndjhdaaGreat.Whole YtonelbidndjhdaaGreat.FxWalk Go.Proofs
def thR (x e y f v g:Int):Int × Int × Int × Int:=bif bif bif e != 0 then true else f != 0 then true else g != 0 then ((0:Int),(0:Int),(0:Int),(2:Int)) else (x,y,v,(0:Int))
theorem thR_0 {x e y f v g:Int} (h0:(bif bif e != 0 then true else f != 0 then true else g != 0)=true):(((0:Int),(0:Int),(0:Int),(2:Int)))=thR x e y f v g:=by
  unfold thR
  rw [h0]
  rfl
theorem thR_1 {x e y f v g:Int} (h0:(bif bif e != 0 then true else f != 0 then true else g != 0)=false):((x,y,v,(0:Int)))=thR x e y f v g:=by
  unfold thR
  rw [h0]
  rfl
theorem thR_told (a b c:Int):thR (toldR a).1 (toldR a).2 (toldR b).1 (toldR b).2 (toldR c).1 (toldR c).2=vT a b c:=by
  unfold thR toldR vT
  cases wd a<;>cases wd b<;>cases wd c<;>rfl
section
set_option maxRecDepth 100000
set_option maxHeartbeats 4000000
def g3Three:Con Tryz.prog where
  f:=37
  sem:=fun xs=>match xs with
    | [.sc (.v (.int .i64 x)),.sc (.v (.int .i64 e)),.sc (.v (.int .i64 y)),.sc (.v (.int .i64 f)),.sc (.v (.int .i64 v)),.sc (.v (.int .i64 g))]=>some (True,.tv (tV4 (thR x e y f v g)))
    | _=>none
  ok := by
    intro xs p r' h hp
    refine ⟨⟨_,Tryz.func37,by kernel_rfl,rfl⟩,fun us w ha=>?_⟩
    split at h
    · rename_i x e y f v g
      cases h
      refine fn_ret (cxOk Tryz.prog ints_ok [] []) follows Tryz.func37 rfl 100 _ rfl (by simp) ?_ ha
      repeat' first
        | exact trivial
        | (refine And.intro (show regChk _ _ _ _ _=true from by kernel_rfl) (And.intro ?_ ?_))
        | (refine And.intro (fun _=>?_) (fun h=>absurd (show true=false from h) (by decide)))
        | (refine And.intro (fun h=>absurd (show false=true from h) (by decide)) (fun _=>?_))
        | (refine And.intro (fun hb=>?_) (fun hb'=>?_))
        | refine And.intro ?_ ?_
        | intro _
      all_goals first
        | (show some (CR.tv (.tup _))=some (CR.tv (tV4 _));first|exact v4_eq (thR_0 (by assumption))|exact v4_eq (thR_1 (by assumption)))
        | (show (_:Bool)=(_:Bool);first|assumption|exact beq_iff_eq.2 (by assumption)|(exact and_tt (by first|assumption|exact beq_iff_eq.2 (by assumption)) (by first|assumption|exact beq_iff_eq.2 (by assumption))))
        | (show (_:Nat)=(_:Nat);rfl)
        | (show (_:Nat)≤1000;decide)
        | (show (_:Int)=(_:Int);rfl)
        | (show (_:Int)≤_;decide)
        | (show (_:Int)<_;decide)
        -- PVC
    · cases h
def g3Add:Con Tryz.prog where
  f:=20
  sem:=fun xs=>match xs with
    | [.agg [.v (.int .i64 a),.v (.int .i64 b),.v (.int .i64 c)],.agg [.v (.int .i64 d),.v (.int .i64 e),.v (.int .i64 f)]]=>some (gV a b c=true∧gV d e f=true,.tv (tV4 (vT (a+d) (b+e) (c+f))))
    | _=>none
  ok := by
    intro xs p r' h hp
    refine ⟨⟨_,Tryz.func20,by kernel_rfl,rfl⟩,fun us w ha=>?_⟩
    split at h
    · rename_i a b c d e f
      cases h
      obtain ⟨ha',hd'⟩:=hp
      have b1:=gV_bd ha'
      have b2:=gV_bd hd'
      refine fn_ret (cxOk Tryz.prog intsR_ok [] [gAdd,g3Three]) follows Tryz.func20 rfl 100 _ rfl (by simp) ?_ ha
      repeat' first
        | exact trivial
        | (refine And.intro (show regChk _ _ _ _ _=true from by kernel_rfl) (And.intro ?_ ?_))
        | (refine And.intro (fun _=>?_) (fun h=>absurd (show true=false from h) (by decide)))
        | (refine And.intro (fun h=>absurd (show false=true from h) (by decide)) (fun _=>?_))
        | (refine And.intro (fun hb=>?_) (fun hb'=>?_))
        | refine And.intro ?_ ?_
      all_goals first
        | (show (_:Int)≤_;omega)
        | (show (_:Int)<_;omega)
        | (show some (CR.tv (.tup _))=some (CR.tv (tV4 _));exact v4_eq (thR_told _ _ _))
        | (show (_:Nat)=(_:Nat);rfl)
        | (show (_:Nat)≤1000;decide)
        | (show (_:Int)=(_:Int);rfl)
        | (show (_:Int)≤_;decide)
        | (show (_:Int)<_;decide)
        -- PVC
    · cases h
theorem gV_neg {d e f:Int} (h:gV d e f=true):gV (-d) (-e) (-f)=true:=by
  have hb:=gV_bd h
  exact gV_iff.2 ⟨by rw [wd_iff];omega,by rw [wd_iff];omega,by rw [wd_iff];omega⟩
def g3Sub:Con Tryz.prog where
  f:=12
  sem:=fun xs=>match xs with
    | [.agg [.v (.int .i64 a),.v (.int .i64 b),.v (.int .i64 c)],.agg [.v (.int .i64 d),.v (.int .i64 e),.v (.int .i64 f)]]=>some (gV a b c=true∧gV d e f=true,.tv (tV4 (vT (a-d) (b-e) (c-f))))
    | _=>none
  ok := by
    intro xs p r' h hp
    refine ⟨⟨_,Tryz.func12,by kernel_rfl,rfl⟩,fun us w ha=>?_⟩
    split at h
    · rename_i a b c d e f
      cases h
      obtain ⟨ha',hd'⟩:=hp
      have b1:=gV_bd ha'
      have b2:=gV_bd hd'
      refine fn_ret (cxOk Tryz.prog intsR_ok [] [g3Add,cR3Neg]) follows Tryz.func12 rfl 100 _ rfl (by simp) ?_ ha
      repeat' first
        | exact trivial
        | (refine And.intro (show regChk _ _ _ _ _=true from by kernel_rfl) (And.intro ?_ ?_))
        | (refine And.intro (fun _=>?_) (fun h=>absurd (show true=false from h) (by decide)))
        | (refine And.intro (fun h=>absurd (show false=true from h) (by decide)) (fun _=>?_))
        | (refine And.intro (fun hb=>?_) (fun hb'=>?_))
        | refine And.intro ?_ ?_
      all_goals first
        | exact ha'
        | exact hd'
        | (show gV (-d) (-e) (-f)=true;exact gV_neg hd')
        | (show some (CR.tv (.tup _))=some (CR.tv (tV4 _));exact v4_eq rfl)
        | (show (_:Nat)=(_:Nat);rfl)
        | (show (_:Nat)≤1000;decide)
        | (show (_:Int)=(_:Int);rfl)
        | (show (_:Int)≤_;decide)
        | (show (_:Int)<_;decide)
        -- PVC
    · cases h
end
end Go.Proofs.YtonelbidndjhdaaGreat.Wh
end
section
set_option linter.unusedVariables false
set_option linter.unusedSimpArgs false
namespace Go.Proofs.YtonelbidndjhdaaGreat.Wh
open Go RowKit YtonelbidndjhdaaGreatW.PrintWords YtonelbidndjhdaaGreatW.PrintMore YtonelbidndjhdaaGreatW.Aid YtonelbidndjhdaaGreatW.Big YtonelbidndjhdaaGreatW.Sx YtonelbidndjhdaaGreat.BitsWalk YtonelbidndjhdaaGreat.Limbs YtonelbidndjhdaaGreat.Whole YtonelbidndjhdaaGreat.FxWalk Go.Proofs
theorem bip {a b:Int} (ha:wd a=true) (hb:wd b=true):BI 128 (a*b):=BI.mul (BI.i64 (i64_wd ha)) (BI.i64 (i64_wd hb)) (by decide)
theorem biD {a b c d e f:Int} (h:gV a b c=true) (h':gV d e f=true):BI 130 (dot3 a b c d e f):=by
  obtain ⟨a1,a2,a3⟩:=gV_iff.1 h
  obtain ⟨d1,d2,d3⟩:=gV_iff.1 h'
  exact BI.add (BI.add (bip a1 d1) (bip a2 d2) (show 128+1≤129 by decide)) (BI.mono (bip a3 d3) (by decide)) (by decide)
section
set_option maxRecDepth 100000
set_option maxHeartbeats 4000000
def g3dot:Con Tryz.prog where
  f:=24
  sem:=fun xs=>match xs with
    | [.agg [.v (.int .i64 a),.v (.int .i64 b),.v (.int .i64 c)],.agg [.v (.int .i64 d),.v (.int .i64 e),.v (.int .i64 f)]]=>some (gV a b c=true∧gV d e f=true,.tv (tI (dot3 a b c d e f)))
    | _=>none
  ok := by
    intro xs p r' h hp
    refine ⟨⟨_,Tryz.func24,by kernel_rfl,rfl⟩,fun us w ha=>?_⟩
    split at h
    · rename_i a b c d e f
      cases h
      obtain ⟨ha',hd'⟩:=hp
      have b1:=gV_bd ha'
      have b2:=gV_bd hd'
      obtain ⟨a1,a2,a3⟩:=gV_iff.1 ha'
      obtain ⟨d1,d2,d3⟩:=gV_iff.1 hd'
      refine fn_ret (cxOk Tryz.prog intsR_ok [] [gProd,rPlus]) follows Tryz.func24 rfl 100 _ rfl (by simp) ?_ ha
      repeat' first
        | exact trivial
        | (refine And.intro (show regChk _ _ _ _ _=true from by kernel_rfl) (And.intro ?_ ?_))
        | (refine And.intro (fun _=>?_) (fun h=>absurd (show true=false from h) (by decide)))
        | (refine And.intro (fun h=>absurd (show false=true from h) (by decide)) (fun _=>?_))
        | (refine And.intro (fun hb=>?_) (fun hb'=>?_))
        | refine And.intro ?_ ?_
      all_goals first
        | (show (_:Int)≤_;omega)
        | (show (_:Int)<_;omega)
        | (show BI 20000 (_*_);first|exact BI.mono (bip a1 d1) (by decide)|exact BI.mono (bip a2 d2) (by decide)|exact BI.mono (bip a3 d3) (by decide))
        | (show BI 20000 (_+_);exact BI.mono (BI.add (bip a1 d1) (bip a2 d2) (show 128+1≤129 by decide)) (by decide))
        | (show some (CR.tv (tI _))=some (CR.tv (tI _));rfl)
        | (show (_:Nat)=(_:Nat);rfl)
        | (show (_:Nat)≤1000;decide)
        | (show (_:Int)=(_:Int);rfl)
        | (show (_:Int)≤_;decide)
        | (show (_:Int)<_;decide)
        -- PVC
    · cases h
end
end Go.Proofs.YtonelbidndjhdaaGreat.Wh
end
section
set_option linter.unusedVariables false
set_option linter.unusedSimpArgs false
namespace Go.Proofs.YtonelbidndjhdaaGreat.Wh
open Go RowKit YtonelbidndjhdaaGreatW.PrintWords YtonelbidndjhdaaGreatW.PrintMore YtonelbidndjhdaaGreatW.Aid YtonelbidndjhdaaGreatW.Big YtonelbidndjhdaaGreatW.Sx YtonelbidndjhdaaGreat.BitsWalk YtonelbidndjhdaaGreat.Limbs YtonelbidndjhdaaGreat.Whole YtonelbidndjhdaaGreat.FxWalk Go.Proofs
theorem cmp_scale {g a b:Int} (hg:0<g):cmpI (g*a) (g*b)=cmpI a b:=by
  have h1:g*a<g*b↔a<b:=Int.mul_lt_mul_left hg
  have h2:g*b<g*a↔b<a:=Int.mul_lt_mul_left hg
  unfold cmpI
  by_cases h:a<b
  · rw [if_pos h,if_pos (h1.2 h)]
  · rw [if_neg h,if_neg (fun hk=>h (h1.1 hk))]
    by_cases h':b<a
    · rw [if_pos h',if_pos (h2.2 h')]
    · rw [if_neg h',if_neg (fun hk=>h' (h2.1 hk))]
theorem near_scale {g x d:Int} (hg:0<g):nearR (g*x) (g*d)=nearR x d:=by
  have e1:g*x/(g*d)=x/d:=Int.mul_ediv_mul_of_pos x d hg
  have e2:∀ k,nearB (g*x) (g*d) k=nearB x d k:=fun k=>by
    unfold nearB
    rw [show (k*2 ^ Int.toNat 1+1)*(k*2 ^ Int.toNat 1+1)*(g*d)=g*((k*2 ^ Int.toNat 1+1)*(k*2 ^ Int.toNat 1+1)*d) from Int.mul_left_comm _ _ _,show g*x*2 ^ Int.toNat 2=g*(x*2 ^ Int.toNat 2) from Int.mul_assoc _ _ _,cmp_scale hg]
  unfold nearR
  rw [e1,e2]
theorem near_gcd (n:Int) {d:Int} (h:0<d):nearR (n/gcdI n d) (d/gcdI n d)=nearR n d:=by
  have hg:=gcdI_pos n h
  obtain ⟨q,hq⟩:=gcdI_n n d
  obtain ⟨r,hr⟩:=gcdI_d n (Int.le_of_lt h)
  generalize gcdI n d=g at *
  subst hq hr
  rw [Int.mul_ediv_cancel_left _ (by omega),Int.mul_ediv_cancel_left _ (by omega)]
  exact (near_scale hg).symm
def ovrR (a c:Int):Int:=bif sgn a then -nearR (a*a) c else nearR (a*a) c
theorem ovr_1 {a c:Int} (h:sgn a=true) : -nearR (a*a) c=ovrR a c:=by unfold ovrR;rw [h];rfl
theorem ovr_0 {a c:Int} (h:sgn a=false):nearR (a*a) c=ovrR a c:=by unfold ovrR;rw [h];rfl
def oneI (n:Int):Int:=bif n == 0 then 1 else n
theorem one_1 {n:Int} (h:n=0):1=oneI n:=by unfold oneI;rw [h];rfl
theorem one_0 {n:Int} (h:n≠0):n=oneI n:=by unfold oneI;rw [show (n == 0)=false by simpa using h];rfl
theorem one_pos {n:Int} (h:0≤n):0<oneI n:=by
  unfold oneI
  by_cases h0:n=0
  · subst h0;decide
  · rw [show (n == 0)=false by simpa using h0];show 0<n;omega
theorem ovr_norm {n:Int} (h:0≤n):ovrR n (oneI n)=nearR n 1:=by
  unfold ovrR
  rw [show sgn n=false from decide_eq_false (by omega)]
  by_cases h0:n=0
  · subst h0;rfl
  · rw [← one_0 h0]
    show nearR (n*n) n=nearR n 1
    have:=near_scale (g:=n) (x:=n) (d:=1) (by omega)
    rwa [Int.mul_one] at this
theorem bi_one {e:Nat} {n:Int} (h:BI e n) (he:1≤e):BI e (oneI n):=by
  unfold oneI
  by_cases h0:n=0
  · subst h0;exact BI.mono BI.one he
  · rw [show (n == 0)=false by simpa using h0];exact h
section
set_option maxRecDepth 100000
set_option maxHeartbeats 4000000
def gOverRoot:Con Tryz.prog where
  f:=23
  sem:=fun xs=>match xs with
    | [.agg [.neg a,.mag a'],.agg [.neg c,.mag c']]=>some (a'=a∧c'=c∧0<c∧BI 400 a∧BI 400 c,.tv (tI (ovrR a c)))
    | _=>none
  ok := by
    intro xs p r' h hp
    refine ⟨⟨_,Tryz.func23,by kernel_rfl,rfl⟩,fun us w ha=>?_⟩
    split at h
    · rename_i a a' c c'
      cases h
      obtain ⟨rfl,rfl,h0,ha',hc'⟩:=hp
      have b1:BI 800 (a'*a'):=BI.mul ha' ha' (by decide)
      have g0:=gcdI_pos (a'*a') h0
      have q1:=(round_gcd (a'*a') h0).2
      have q0:0≤a'*a'/gcdI (a'*a') c':=Int.ediv_nonneg (sq_nn a') (Int.le_of_lt g0)
      refine fn_ret (cxOk Tryz.prog intsR_ok [] [rTimes,qMake,gRootNear,rNeg]) follows Tryz.func23 rfl 100 _ rfl (by simp) ?_ ha
      repeat' first
        | exact trivial
        | (refine And.intro (show regChk _ _ _ _ _=true from by kernel_rfl) (And.intro ?_ ?_))
        | (refine And.intro (fun _=>?_) (fun h=>absurd (show true=false from h) (by decide)))
        | (refine And.intro (fun h=>absurd (show false=true from h) (by decide)) (fun _=>?_))
        | (refine And.intro (fun hb=>?_) (fun hb'=>?_))
        | refine And.intro ?_ ?_
      all_goals first
        | (show BI _ (_/_);first|exact BI.mono (b1.div _) (by decide)|exact BI.mono (hc'.div _) (by decide))
        | (show BI _ _;first|exact BI.mono ha' (by decide)|exact BI.mono hc' (by decide)|exact BI.mono b1 (by decide))
        | exact h0
        | exact q1
        | exact q0
        | (show some (CR.tv (tI _))=some (CR.tv (tI _));first|exact wh_eq (by rw [near_gcd _ h0];exact ovr_1 (by assumption))|exact wh_eq (by rw [near_gcd _ h0];exact ovr_0 (by assumption)))
        | (show (_:Nat)=(_:Nat);rfl)
        | (show (_:Nat)≤1000;decide)
        | (show (_:Int)=(_:Int);rfl)
        | (show (_:Int)≤_;decide)
        | (show (_:Int)<_;decide)
        -- PVC
    · cases h
def g3one:Con Tryz.prog where
  f:=25
  sem:=fun xs=>match xs with
    | [.agg [.neg n,.mag n']]=>some (n'=n,.tv (tI (oneI n)))
    | _=>none
  ok := by
    intro xs p r' h hp
    refine ⟨⟨_,Tryz.func25,by kernel_rfl,rfl⟩,fun us w ha=>?_⟩
    split at h
    · rename_i n n'
      cases h
      obtain rfl:=hp
      refine fn_ret (cxOk Tryz.prog intsR_ok [] [rZero,rFrom]) follows Tryz.func25 rfl 100 _ rfl (by simp) ?_ ha
      repeat' first
        | exact trivial
        | (refine And.intro (show regChk _ _ _ _ _=true from by kernel_rfl) (And.intro ?_ ?_))
        | (refine And.intro (fun _=>?_) (fun h=>absurd (show true=false from h) (by decide)))
        | (refine And.intro (fun h=>absurd (show false=true from h) (by decide)) (fun _=>?_))
        | (refine And.intro (fun hb=>?_) (fun hb'=>?_))
        | refine And.intro ?_ ?_
      all_goals first
        | (show (_:Int)≤1;decide)
        | (show (1:Int)<_;decide)
        | (show some (CR.tv (tI _))=some (CR.tv (tI _));first|exact wh_eq (one_1 (of_decide_eq_true (by assumption)))|exact wh_eq (one_0 (of_decide_eq_false (by assumption))))
        | (show (_:Nat)=(_:Nat);rfl)
        | (show (_:Nat)≤1000;decide)
        | (show (_:Int)=(_:Int);rfl)
        | (show (_:Int)≤_;decide)
        | (show (_:Int)<_;decide)
        -- PVC
    · cases h
def g3Norm:Con Tryz.prog where
  f:=13
  sem:=fun xs=>match xs with
    | [.agg [.v (.int .i64 a),.v (.int .i64 b),.v (.int .i64 c)]]=>some (gV a b c=true,.tv (tNN (toldR (nearR (dot3 a b c a b c) 1)).1 (toldR (nearR (dot3 a b c a b c) 1)).2))
    | _=>none
  ok := by
    intro xs p r' h hp
    refine ⟨⟨_,Tryz.func13,by kernel_rfl,rfl⟩,fun us w ha=>?_⟩
    split at h
    · rename_i a b c
      cases h
      have bD:=biD hp hp
      have h0:0≤dot3 a b c a b c:=dot_self
      refine fn_ret (cxOk Tryz.prog intsR_ok [] [g3dot,g3one,gOverRoot,gWord]) follows Tryz.func13 rfl 100 _ rfl (by simp) ?_ ha
      repeat' first
        | exact trivial
        | (refine And.intro (show regChk _ _ _ _ _=true from by kernel_rfl) (And.intro ?_ ?_))
        | (refine And.intro (fun _=>?_) (fun h=>absurd (show true=false from h) (by decide)))
        | (refine And.intro (fun h=>absurd (show false=true from h) (by decide)) (fun _=>?_))
        | (refine And.intro (fun hb=>?_) (fun hb'=>?_))
        | refine And.intro ?_ ?_
      all_goals first
        | exact hp
        | (show 0<oneI _;exact one_pos h0)
        | (show BI _ (oneI _);exact BI.mono (bi_one bD (by decide)) (by decide))
        | (show BI _ _;exact BI.mono bD (by decide))
        | (show some (CR.tv (tNN _ _))=some (CR.tv (tNN _ _));exact nn_eq2 (congrArg toldR (ovr_norm h0)))
        | (show (_:Nat)=(_:Nat);rfl)
        | (show (_:Nat)≤1000;decide)
        | (show (_:Int)=(_:Int);rfl)
        | (show (_:Int)≤_;decide)
        | (show (_:Int)<_;decide)
        -- PVC
    · cases h
end
end Go.Proofs.YtonelbidndjhdaaGreat.Wh
end
section
set_option linter.unusedVariables false
set_option linter.unusedSimpArgs false
namespace Go.Proofs.YtonelbidndjhdaaGreat.Wh
open Go RowKit YtonelbidndjhdaaGreatW.PrintWords YtonelbidndjhdaaGreatW.PrintMore YtonelbidndjhdaaGreatW.Aid YtonelbidndjhdaaGreatW.Big YtonelbidndjhdaaGreatW.Sx YtonelbidndjhdaaGreat.BitsWalk YtonelbidndjhdaaGreat.Limbs YtonelbidndjhdaaGreat.Whole YtonelbidndjhdaaGreat.FxWalk Go.Proofs
def mayTp (o:Bool) (x y z s p:Int):Bool:=bif bif !o then !eqL (c6p o x y z s p) (c6p false 0 0 0 0 0) else false then false else bif bif bif bif gV x y z then decide (s≥0) else false then decide (s≤1099511627777) else false then decide (p≥0) else false then decide (p≤1099511627777) else false
theorem mayTp_0 {o:Bool} {x y z s p:Int} (h0:(bif !o then !eqL (c6p o x y z s p) (c6p false 0 0 0 0 0) else false)=true):(false)=mayTp o x y z s p:=by
  unfold mayTp
  rw [h0]
  rfl
theorem mayTp_1 {o:Bool} {x y z s p:Int} (h0:(bif !o then !eqL (c6p o x y z s p) (c6p false 0 0 0 0 0) else false)=false):(bif bif bif bif gV x y z then decide (s≥0) else false then decide (s≤1099511627777) else false then decide (p≥0) else false then decide (p≤1099511627777) else false)=mayTp o x y z s p:=by
  unfold mayTp
  rw [h0]
  rfl
def tapG (o:Bool) (x y z s p a b c now:Int):(Bool × Int × Int × Int × Int × Int) × Int × Int:=bif !o then ((true,a,b,c,(0:Int),(0:Int)),(0:Int),(0:Int)) else bif (vT (a-x) (b-y) (c-z)).2.2.2 != 0 then ((false,(0:Int),(0:Int),(0:Int),(0:Int),(0:Int)),(0:Int),(vT (a-x) (b-y) (c-z)).2.2.2) else bif (toldR (nearR (dot3 (vT (a-x) (b-y) (c-z)).1 (vT (a-x) (b-y) (c-z)).2.1 (vT (a-x) (b-y) (c-z)).2.2.1 (vT (a-x) (b-y) (c-z)).1 (vT (a-x) (b-y) (c-z)).2.1 (vT (a-x) (b-y) (c-z)).2.2.1) 1)).2 != 0 then ((false,(0:Int),(0:Int),(0:Int),(0:Int),(0:Int)),(0:Int),(toldR (nearR (dot3 (vT (a-x) (b-y) (c-z)).1 (vT (a-x) (b-y) (c-z)).2.1 (vT (a-x) (b-y) (c-z)).2.2.1 (vT (a-x) (b-y) (c-z)).1 (vT (a-x) (b-y) (c-z)).2.1 (vT (a-x) (b-y) (c-z)).2.2.1) 1)).2) else bif decide ((toldR (nearR (dot3 (vT (a-x) (b-y) (c-z)).1 (vT (a-x) (b-y) (c-z)).2.1 (vT (a-x) (b-y) (c-z)).2.2.1 (vT (a-x) (b-y) (c-z)).1 (vT (a-x) (b-y) (c-z)).2.1 (vT (a-x) (b-y) (c-z)).2.2.1) 1)).1>9806650) then bif s == 0 then ((o,a,b,c,(IntKind.i64.wrap (now+1)),p),(0:Int),(0:Int)) else ((o,a,b,c,s,p),(0:Int),(0:Int)) else bif bif decide (s>0) then decide (IntKind.i64.wrap ((IntKind.i64.wrap (now+1))-s)≤60) else false then bif bif decide (p>0) then decide (IntKind.i64.wrap ((IntKind.i64.wrap (now+1))-p)≤300) else false then ((o,a,b,c,(0:Int),(0:Int)),(2:Int),(0:Int)) else ((o,a,b,c,(0:Int),(IntKind.i64.wrap (now+1))),(1:Int),(0:Int)) else ((o,a,b,c,(0:Int),p),(0:Int),(0:Int))
theorem tapG_0 {o:Bool} {x y z s p a b c now:Int} (h0:(!o)=true):(((true,a,b,c,(0:Int),(0:Int)),(0:Int),(0:Int)))=tapG o x y z s p a b c now:=by
  unfold tapG
  rw [h0]
  rfl
theorem tapG_1 {o:Bool} {x y z s p a b c now:Int} (h0:(!o)=false) (h1:((vT (a-x) (b-y) (c-z)).2.2.2 != 0)=true):(((false,(0:Int),(0:Int),(0:Int),(0:Int),(0:Int)),(0:Int),(vT (a-x) (b-y) (c-z)).2.2.2))=tapG o x y z s p a b c now:=by
  unfold tapG
  rw [h0]
  rw [h1]
  rfl
theorem tapG_2 {o:Bool} {x y z s p a b c now:Int} (h0:(!o)=false) (h1:((vT (a-x) (b-y) (c-z)).2.2.2 != 0)=false) (h2:((toldR (nearR (dot3 (vT (a-x) (b-y) (c-z)).1 (vT (a-x) (b-y) (c-z)).2.1 (vT (a-x) (b-y) (c-z)).2.2.1 (vT (a-x) (b-y) (c-z)).1 (vT (a-x) (b-y) (c-z)).2.1 (vT (a-x) (b-y) (c-z)).2.2.1) 1)).2 != 0)=true):(((false,(0:Int),(0:Int),(0:Int),(0:Int),(0:Int)),(0:Int),(toldR (nearR (dot3 (vT (a-x) (b-y) (c-z)).1 (vT (a-x) (b-y) (c-z)).2.1 (vT (a-x) (b-y) (c-z)).2.2.1 (vT (a-x) (b-y) (c-z)).1 (vT (a-x) (b-y) (c-z)).2.1 (vT (a-x) (b-y) (c-z)).2.2.1) 1)).2))=tapG o x y z s p a b c now:=by
  unfold tapG
  rw [h0]
  rw [h1]
  rw [h2]
  rfl
theorem tapG_3 {o:Bool} {x y z s p a b c now:Int} (h0:(!o)=false) (h1:((vT (a-x) (b-y) (c-z)).2.2.2 != 0)=false) (h2:((toldR (nearR (dot3 (vT (a-x) (b-y) (c-z)).1 (vT (a-x) (b-y) (c-z)).2.1 (vT (a-x) (b-y) (c-z)).2.2.1 (vT (a-x) (b-y) (c-z)).1 (vT (a-x) (b-y) (c-z)).2.1 (vT (a-x) (b-y) (c-z)).2.2.1) 1)).2 != 0)=false) (h3:(decide ((toldR (nearR (dot3 (vT (a-x) (b-y) (c-z)).1 (vT (a-x) (b-y) (c-z)).2.1 (vT (a-x) (b-y) (c-z)).2.2.1 (vT (a-x) (b-y) (c-z)).1 (vT (a-x) (b-y) (c-z)).2.1 (vT (a-x) (b-y) (c-z)).2.2.1) 1)).1>9806650))=true) (h4:(s == 0)=true):(((o,a,b,c,(IntKind.i64.wrap (now+1)),p),(0:Int),(0:Int)))=tapG o x y z s p a b c now:=by
  unfold tapG
  rw [h0]
  rw [h1]
  rw [h2]
  rw [h3]
  rw [h4]
  rfl
theorem tapG_4 {o:Bool} {x y z s p a b c now:Int} (h0:(!o)=false) (h1:((vT (a-x) (b-y) (c-z)).2.2.2 != 0)=false) (h2:((toldR (nearR (dot3 (vT (a-x) (b-y) (c-z)).1 (vT (a-x) (b-y) (c-z)).2.1 (vT (a-x) (b-y) (c-z)).2.2.1 (vT (a-x) (b-y) (c-z)).1 (vT (a-x) (b-y) (c-z)).2.1 (vT (a-x) (b-y) (c-z)).2.2.1) 1)).2 != 0)=false) (h3:(decide ((toldR (nearR (dot3 (vT (a-x) (b-y) (c-z)).1 (vT (a-x) (b-y) (c-z)).2.1 (vT (a-x) (b-y) (c-z)).2.2.1 (vT (a-x) (b-y) (c-z)).1 (vT (a-x) (b-y) (c-z)).2.1 (vT (a-x) (b-y) (c-z)).2.2.1) 1)).1>9806650))=true) (h4:(s == 0)=false):(((o,a,b,c,s,p),(0:Int),(0:Int)))=tapG o x y z s p a b c now:=by
  unfold tapG
  rw [h0]
  rw [h1]
  rw [h2]
  rw [h3]
  rw [h4]
  rfl
theorem tapG_5 {o:Bool} {x y z s p a b c now:Int} (h0:(!o)=false) (h1:((vT (a-x) (b-y) (c-z)).2.2.2 != 0)=false) (h2:((toldR (nearR (dot3 (vT (a-x) (b-y) (c-z)).1 (vT (a-x) (b-y) (c-z)).2.1 (vT (a-x) (b-y) (c-z)).2.2.1 (vT (a-x) (b-y) (c-z)).1 (vT (a-x) (b-y) (c-z)).2.1 (vT (a-x) (b-y) (c-z)).2.2.1) 1)).2 != 0)=false) (h3:(decide ((toldR (nearR (dot3 (vT (a-x) (b-y) (c-z)).1 (vT (a-x) (b-y) (c-z)).2.1 (vT (a-x) (b-y) (c-z)).2.2.1 (vT (a-x) (b-y) (c-z)).1 (vT (a-x) (b-y) (c-z)).2.1 (vT (a-x) (b-y) (c-z)).2.2.1) 1)).1>9806650))=false) (h4:(bif decide (s>0) then decide (IntKind.i64.wrap ((IntKind.i64.wrap (now+1))-s)≤60) else false)=true) (h5:(bif decide (p>0) then decide (IntKind.i64.wrap ((IntKind.i64.wrap (now+1))-p)≤300) else false)=true):(((o,a,b,c,(0:Int),(0:Int)),(2:Int),(0:Int)))=tapG o x y z s p a b c now:=by
  unfold tapG
  rw [h0]
  rw [h1]
  rw [h2]
  rw [h3]
  rw [h4]
  rw [h5]
  rfl
theorem tapG_6 {o:Bool} {x y z s p a b c now:Int} (h0:(!o)=false) (h1:((vT (a-x) (b-y) (c-z)).2.2.2 != 0)=false) (h2:((toldR (nearR (dot3 (vT (a-x) (b-y) (c-z)).1 (vT (a-x) (b-y) (c-z)).2.1 (vT (a-x) (b-y) (c-z)).2.2.1 (vT (a-x) (b-y) (c-z)).1 (vT (a-x) (b-y) (c-z)).2.1 (vT (a-x) (b-y) (c-z)).2.2.1) 1)).2 != 0)=false) (h3:(decide ((toldR (nearR (dot3 (vT (a-x) (b-y) (c-z)).1 (vT (a-x) (b-y) (c-z)).2.1 (vT (a-x) (b-y) (c-z)).2.2.1 (vT (a-x) (b-y) (c-z)).1 (vT (a-x) (b-y) (c-z)).2.1 (vT (a-x) (b-y) (c-z)).2.2.1) 1)).1>9806650))=false) (h4:(bif decide (s>0) then decide (IntKind.i64.wrap ((IntKind.i64.wrap (now+1))-s)≤60) else false)=true) (h5:(bif decide (p>0) then decide (IntKind.i64.wrap ((IntKind.i64.wrap (now+1))-p)≤300) else false)=false):(((o,a,b,c,(0:Int),(IntKind.i64.wrap (now+1))),(1:Int),(0:Int)))=tapG o x y z s p a b c now:=by
  unfold tapG
  rw [h0]
  rw [h1]
  rw [h2]
  rw [h3]
  rw [h4]
  rw [h5]
  rfl
theorem tapG_7 {o:Bool} {x y z s p a b c now:Int} (h0:(!o)=false) (h1:((vT (a-x) (b-y) (c-z)).2.2.2 != 0)=false) (h2:((toldR (nearR (dot3 (vT (a-x) (b-y) (c-z)).1 (vT (a-x) (b-y) (c-z)).2.1 (vT (a-x) (b-y) (c-z)).2.2.1 (vT (a-x) (b-y) (c-z)).1 (vT (a-x) (b-y) (c-z)).2.1 (vT (a-x) (b-y) (c-z)).2.2.1) 1)).2 != 0)=false) (h3:(decide ((toldR (nearR (dot3 (vT (a-x) (b-y) (c-z)).1 (vT (a-x) (b-y) (c-z)).2.1 (vT (a-x) (b-y) (c-z)).2.2.1 (vT (a-x) (b-y) (c-z)).1 (vT (a-x) (b-y) (c-z)).2.1 (vT (a-x) (b-y) (c-z)).2.2.1) 1)).1>9806650))=false) (h4:(bif decide (s>0) then decide (IntKind.i64.wrap ((IntKind.i64.wrap (now+1))-s)≤60) else false)=false):(((o,a,b,c,(0:Int),p),(0:Int),(0:Int)))=tapG o x y z s p a b c now:=by
  unfold tapG
  rw [h0]
  rw [h1]
  rw [h2]
  rw [h3]
  rw [h4]
  rfl
theorem mayTp_eq (o:Bool) (x y z s p:Int):mayTp o x y z s p=goodTp o x y z s p:=by
  unfold mayTp goodTp mkB
  cases gV x y z<;>cases decide (s≥0)<;>cases decide (s≤1099511627777)<;>cases decide (p≥0)<;>cases decide (p≤1099511627777)<;>cases o<;>simp
abbrev okTp (o:Bool) (x y z s p a b c now:Int):Bool:=bif bif bif bif mayTp o x y z s p then gV a b c else false then tmB now else false then decide (IntKind.i64.wrap (now+1)≥s) else false then decide (IntKind.i64.wrap (now+1)≥p) else false
theorem okTp_eq (o:Bool) (x y z s p a b c now:Int):badTp o x y z s p a b c now=!okTp o x y z s p a b c now:=by
  unfold okTp badTp
  rw [mayTp_eq]
  have e:∀ k:Int,decide (IntKind.i64.wrap (now+1)<k)=!decide (IntKind.i64.wrap (now+1)≥k):=fun k=>by by_cases h:IntKind.i64.wrap (now+1)<k<;>simp [h]<;>omega
  rw [e,e]
  cases goodTp o x y z s p<;>cases gV a b c<;>cases tmB now<;>cases decide (IntKind.i64.wrap (now+1)≥s)<;>cases decide (IntKind.i64.wrap (now+1)≥p)<;>rfl
theorem okTp_w {o:Bool} {x y z s p a b c now:Int} (h:okTp o x y z s p a b c now=true):gV x y z=true∧gV a b c=true∧0≤s∧0≤p:=by
  unfold okTp at h
  rw [mayTp_eq] at h
  unfold goodTp mkB at h
  by_cases h3:s≥0<;>by_cases h4:p≥0<;>cases h1:gV x y z<;>cases h2:gV a b c<;>simp [h1,h2,h3,h4] at h ⊢<;>omega
theorem vT_gV (x y z:Int):gV (vT x y z).1 (vT x y z).2.1 (vT x y z).2.2.1=true:=by
  unfold vT
  split
  · rename_i hc;simp only [Bool.and_eq_true] at hc;exact gV_iff.2 ⟨hc.1,hc.2.1,hc.2.2⟩
  · rfl
theorem tapX_eq {o:Bool} {x y z s p a b c now:Int} (h:okTp o x y z s p a b c now=true):tapR o x y z s p a b c now=tapG o x y z s p a b c now:=by
  have hbad:badTp o x y z s p a b c now=false:=by rw [okTp_eq,h];rfl
  obtain ⟨g1,g2,s0,p0⟩:=okTp_w h
  have hsub:subV a b c x y z=vT (a-x) (b-y) (c-z):=by unfold subV guard2;rw [if_pos ⟨g2,g1⟩]
  have hn:=vT_gV (a-x) (b-y) (c-z)
  unfold tapR tapG
  rw [hbad,hsub]
  generalize vT (a-x) (b-y) (c-z)=D at *
  have hj:normR D.1 D.2.1 D.2.2.1=toldR (nearR (dot3 D.1 D.2.1 D.2.2.1 D.1 D.2.1 D.2.2.1) 1):=by unfold normR;rw [if_pos hn]
  rw [hj]
  generalize toldR (nearR (dot3 D.1 D.2.1 D.2.2.1 D.1 D.2.1 D.2.2.1) 1)=J at *
  have eq0:∀ k:Int,0≤k→(k != 0)=decide (k>0):=fun k hk=>by
    by_cases h0:k=0
    · subst h0;rfl
    · rw [decide_eq_true (show k>0 by omega)];simpa using h0
  have es:=eq0 s s0
  have ep:=eq0 p p0
  have e0:(s == 0)=!decide (s>0):=by rw [← es];unfold bne;cases (s == 0)<;>rfl
  unfold tdR
  rw [es,ep,e0]
  cases o
  · rfl
  · cases (D.2.2.2 != 0)
    · cases (J.2 != 0)
      · cases decide (J.1>9806650)
        · by_cases hs:s>0
          · rw [decide_eq_true hs]
            cases decide (IntKind.i64.wrap (IntKind.i64.wrap (now+1)-s)≤60)
            · rfl
            · cases (bif decide (p>0) then decide (IntKind.i64.wrap (IntKind.i64.wrap (now+1)-p)≤300) else false)<;>rfl
          · obtain rfl:s=0:=by omega
            rw [decide_eq_false hs];rfl
        · rfl
      · rfl
    · rfl
theorem tapX_off {o:Bool} {x y z s p a b c now:Int} (h:okTp o x y z s p a b c now=false):tapR o x y z s p a b c now=((false,0,0,0,0,0),0,1) :=
  (tapR_0 (by rw [okTp_eq,h];rfl)).symm
abbrev ckP (p:(Bool × Int × Int × Int × Int × Int) × Int × Int) (q:Bool × Int × Int × Int × Int × Int) (k bad:Int):Bool:=bif bif p.2.2 != bad then true else !eqL (c6p p.1.1 p.1.2.1 p.1.2.2.1 p.1.2.2.2.1 p.1.2.2.2.2.1 p.1.2.2.2.2.2) (c6p q.1 q.2.1 q.2.2.1 q.2.2.2.1 q.2.2.2.2.1 q.2.2.2.2.2) then true else p.2.1 != k
theorem tq_1 {o:Bool} {x y z s p a b c now:Int} (h:okTp o x y z s p a b c now=true):ckP (tapR o x y z s p a b c now) (tapG o x y z s p a b c now).1 (tapG o x y z s p a b c now).2.1 (tapG o x y z s p a b c now).2.2=false:=by rw [tapX_eq h];simp [ckP,eqL,eqV]
theorem tq_0 {o:Bool} {x y z s p a b c now:Int} (h:okTp o x y z s p a b c now=false):ckP (tapR o x y z s p a b c now) (false,0,0,0,0,0) 0 1=false:=by rw [tapX_off h];rfl
section
set_option maxRecDepth 100000
set_option maxHeartbeats 4000000
def g0TimeP:Con Tryz.prog where
  f:=6
  sem:=fun xs=>match xs with
    | [.sc (.v (.int .i64 t))]=>some (True,.tv (tB (tmB t)))
    | _=>none
  ok := by
    intro xs p r' h hp
    refine ⟨⟨_,Tryz.func6,by kernel_rfl,rfl⟩,fun us w ha=>?_⟩
    split at h
    · rename_i t
      cases h
      refine fn_ret (cxOk Tryz.prog ints_ok [] []) follows Tryz.func6 rfl 100 _ rfl (by simp) ?_ ha
      repeat' first
        | exact trivial
        | (refine And.intro (show regChk _ _ _ _ _=true from by kernel_rfl) (And.intro ?_ ?_))
        | (refine And.intro (fun _=>?_) (fun h=>absurd (show true=false from h) (by decide)))
        | (refine And.intro (fun h=>absurd (show false=true from h) (by decide)) (fun _=>?_))
        | (refine And.intro (fun hb=>?_) (fun hb'=>?_))
        | refine And.intro ?_ ?_
        | intro _
      all_goals first
        | (show some (CR.tv (tB _))=some (CR.tv (tB _));exact tB_eq rfl)
        | (show (_:Bool)=(_:Bool);first|assumption|exact beq_iff_eq.2 (by assumption)|(exact and_tt (by first|assumption|exact beq_iff_eq.2 (by assumption)) (by first|assumption|exact beq_iff_eq.2 (by assumption))))
        | (show (_:Nat)=(_:Nat);rfl)
        | (show (_:Nat)≤1000;decide)
        | (show (_:Int)=(_:Int);rfl)
        | (show (_:Int)≤_;decide)
        | (show (_:Int)<_;decide)
        -- PVC
    · cases h
def g15MayTap:Con Tryz.prog where
  f:=4
  sem:=fun xs=>match xs with
    | [.agg [.v (.bool o),.v (.int .i64 x),.v (.int .i64 y),.v (.int .i64 z),.v (.int .i64 s),.v (.int .i64 p)]]=>some (True,.tv (tB (mayTp o x y z s p)))
    | _=>none
  ok := by
    intro xs p r' h hp
    refine ⟨⟨_,Tryz.func4,by kernel_rfl,rfl⟩,fun us w ha=>?_⟩
    split at h
    · rename_i o x y z s p
      cases h
      refine fn_ret (cxOk Tryz.prog ints_ok [eqTap] [cR3May]) follows Tryz.func4 rfl 100 _ rfl (by simp) ?_ ha
      repeat' first
        | exact trivial
        | (refine And.intro (show regChk _ _ _ _ _=true from by kernel_rfl) (And.intro ?_ ?_))
        | (refine And.intro (fun _=>?_) (fun h=>absurd (show true=false from h) (by decide)))
        | (refine And.intro (fun h=>absurd (show false=true from h) (by decide)) (fun _=>?_))
        | (refine And.intro (fun hb=>?_) (fun hb'=>?_))
        | refine And.intro ?_ ?_
        | intro _
      all_goals first
        | (show some (CR.tv (tB _))=some (CR.tv (tB _));first|exact tB_eq (mayTp_0 (by assumption))|exact tB_eq (mayTp_1 (by assumption)))
        | (show (_:Bool)=(_:Bool);first|assumption|exact beq_iff_eq.2 (by assumption)|(exact and_tt (by first|assumption|exact beq_iff_eq.2 (by assumption)) (by first|assumption|exact beq_iff_eq.2 (by assumption))))
        | (show (_:Nat)=(_:Nat);rfl)
        | (show (_:Nat)≤1000;decide)
        | (show (_:Int)=(_:Int);rfl)
        | (show (_:Int)≤_;decide)
        | (show (_:Int)<_;decide)
        -- PVC
    · cases h
def g15Tap:Con Tryz.prog where
  f:=7
  sem:=fun xs=>match xs with
    | [.agg [.v (.bool o),.v (.int .i64 x),.v (.int .i64 y),.v (.int .i64 z),.v (.int .i64 s),.v (.int .i64 p)],.agg [.v (.int .i64 a),.v (.int .i64 b),.v (.int .i64 c)],.sc (.v (.int .i64 now))]=>some (gV x y z=true∧gV a b c=true,.tv (tTp (tapG o x y z s p a b c now)))
    | _=>none
  ok := by
    intro xs p r' h hp
    refine ⟨⟨_,Tryz.func7,by kernel_rfl,rfl⟩,fun us w ha=>?_⟩
    split at h
    · rename_i o x y z s p a b c now
      cases h
      refine fn_ret (cxOk Tryz.prog intsR_ok [] [g3Sub,g3Norm]) follows Tryz.func7 rfl 100 _ rfl (by simp) ?_ ha
      repeat' first
        | exact trivial
        | (refine And.intro (show regChk _ _ _ _ _=true from by kernel_rfl) (And.intro ?_ ?_))
        | (refine And.intro (fun _=>?_) (fun h=>absurd (show true=false from h) (by decide)))
        | (refine And.intro (fun h=>absurd (show false=true from h) (by decide)) (fun _=>?_))
        | (refine And.intro (fun hb=>?_) (fun hb'=>?_))
        | refine And.intro ?_ ?_
        | intro _
      all_goals first
        | exact hp.1
        | exact hp.2
        | (show gV (vT _ _ _).1 _ _=true;exact vT_gV _ _ _)
        | (show some (CR.tv (.tup _))=some (CR.tv (tTp _));first|exact tp_eq (tapG_0 (by assumption))|exact tp_eq (tapG_1 (by assumption) (by assumption))|exact tp_eq (tapG_2 (by assumption) (by assumption) (by assumption))|exact tp_eq (tapG_3 (by assumption) (by assumption) (by assumption) (by assumption) (by assumption))|exact tp_eq (tapG_4 (by assumption) (by assumption) (by assumption) (by assumption) (by assumption))|exact tp_eq (tapG_5 (by assumption) (by assumption) (by assumption) (by assumption) (by assumption) (by assumption))|exact tp_eq (tapG_6 (by assumption) (by assumption) (by assumption) (by assumption) (by assumption) (by assumption))|exact tp_eq (tapG_7 (by assumption) (by assumption) (by assumption) (by assumption) (by assumption)))
        | (show (_:Bool)=(_:Bool);first|assumption|exact beq_iff_eq.2 (by assumption)|(exact and_tt (by first|assumption|exact beq_iff_eq.2 (by assumption)) (by first|assumption|exact beq_iff_eq.2 (by assumption))))
        | (show (_:Nat)=(_:Nat);rfl)
        | (show (_:Nat)≤1000;decide)
        | (show (_:Int)=(_:Int);rfl)
        | (show (_:Int)≤_;decide)
        | (show (_:Int)<_;decide)
        -- PVC
    · cases h
abbrev row_tapExact (ob:Nat→Bool) (x y z s p a b c nw:Nat→Int):Nat→List A0:=fun j=>[.v (.bool (ob j)),.v (.int .i64 (x j)),.v (.int .i64 (y j)),.v (.int .i64 (z j)),.v (.int .i64 (s j)),.v (.int .i64 (p j)),.v (.int .i64 (a j)),.v (.int .i64 (b j)),.v (.int .i64 (c j)),.v (.int .i64 (nw j))]
theorem tapExact_law (n:Nat) (ob:Nat→Bool) (x y z s p a b c nw:Nat→Int) (hW:∀ j,I64 (x j)∧I64 (y j)∧I64 (z j)∧I64 (s j)∧I64 (p j)∧I64 (a j)∧I64 (b j)∧I64 (c j)∧I64 (nw j)) {us:List Value} {w:World} (hargs:All2 (TV.reads (fun _=>0) w.heap.size w) [.rowF n 10 (row_tapExact ob x y z s p a b c nw)] us):Ret Tryz.prog 3 us.toArray w (.tv (tB true)):=by
  refine fnl_ret (lawL 10 n (row_tapExact ob x y z s p a b c nw) 2) (cxOk Tryz.prog intsR_ok [eqTap] [g15MayTap,cR3May,g0TimeP,g15Tap,cTap,cNum18,cWakes18]) follows Tryz.func3 rfl 300 _ rfl (by simp) ?_ hargs
  repeat' first
    | exact trivial
    | (refine And.intro (show regChk _ _ _ _ _=true from by kernel_rfl) (And.intro ?_ ?_))
    | (refine And.intro (fun _=>?_) (fun h=>absurd (show true=false from h) (by decide)))
    | (refine And.intro (fun h=>absurd (show false=true from h) (by decide)) (fun _=>?_))
    | (have:=hA;refine And.intro (fun hb=>?_) (fun hb'=>?_))
    | (have:=hC;refine And.intro (fun hA=>?_) (fun hA=>?_))
    | refine And.intro (fun hC=>?_) (fun hC=>?_)
    | refine And.intro ?_ ?_
    | (intro v hv)
    | intro _
  all_goals first
    | (show wfB _ _=true;rfl)
    | (show (_:Bool)=true;assumption)
    | (show (_:Bool)=true;exact beq_iff_eq.2 (by assumption))
    | (show gV (x v.toNat) (y v.toNat) (z v.toNat)=true;exact (okTp_w (show okTp (ob v.toNat) (x v.toNat) (y v.toNat) (z v.toNat) (s v.toNat) (p v.toNat) (a v.toNat) (b v.toNat) (c v.toNat) (nw v.toNat)=true from hA)).1)
    | (show gV (a v.toNat) (b v.toNat) (c v.toNat)=true;exact (okTp_w (show okTp (ob v.toNat) (x v.toNat) (y v.toNat) (z v.toNat) (s v.toNat) (p v.toNat) (a v.toNat) (b v.toNat) (c v.toNat) (nw v.toNat)=true from hA)).2.1)
    | (show (0:Int)≤v;exact hv.1)
    | (show v<(n:Int);exact (hC1 hC).1)
    | (exact ⟨0,⟨Int.le_refl _,Int.natCast_nonneg _⟩,⟨rfl,rfl,rfl,trivial⟩,trivial⟩)
    | (exact ⟨IntKind.i64.wrap (v+1),(stepL hv hC (by decide)).1,(stepL hv hC (by decide)).2,⟨rfl,rfl,rfl,trivial⟩,trivial⟩)
    | (show some (CR.tv (tB true))=some (CR.tv (tB true));rfl)
    | (show some (CR.tv (tB false))=some (CR.tv (tB true));exfalso;first|exact no (tq_1 (o:=ob v.toNat) (x:=x v.toNat) (y:=y v.toNat) (z:=z v.toNat) (s:=s v.toNat) (p:=p v.toNat) (a:=a v.toNat) (b:=b v.toNat) (c:=c v.toNat) (now:=nw v.toNat) hA) (by assumption)|exact no (tq_0 (o:=ob v.toNat) (x:=x v.toNat) (y:=y v.toNat) (z:=z v.toNat) (s:=s v.toNat) (p:=p v.toNat) (a:=a v.toNat) (b:=b v.toNat) (c:=c v.toNat) (now:=nw v.toNat) hA) (by assumption))
    -- PVC
abbrev ks_tapExact:List (Option IntKind):=[none,some .i64,some .i64,some .i64,some .i64,some .i64,some .i64,some .i64,some .i64,some .i64]
theorem tapExact_row (n:Nat) (f:Nat→List Value) (hf:∀ j,okV ks_tapExact (f j)) {us:List Value} {w:World} (hargs:All2 (TV.reads (fun _=>0) w.heap.size w) [.rowF n 10 (fun j=>cellsG f j 0 ks_tapExact)] us):Ret Tryz.prog 3 us.toArray w (.tv (tB true)) :=
  tapExact_law n (gB f 0) (gI f 1) (gI f 2) (gI f 3) (gI f 4) (gI f 5) (gI f 6) (gI f 7) (gI f 8) (gI f 9) (fun j=>⟨gI_i64 (hf j) rfl,gI_i64 (hf j) rfl,gI_i64 (hf j) rfl,gI_i64 (hf j) rfl,gI_i64 (hf j) rfl,gI_i64 (hf j) rfl,gI_i64 (hf j) rfl,gI_i64 (hf j) rfl,gI_i64 (hf j) rfl⟩) hargs
end
end Go.Proofs.YtonelbidndjhdaaGreat.Wh
end
section
namespace Go.Proofs.YtonelbidndjhdaaGreat.tapExact
open Go.ChangeShapes Go.WideShapes Go.ChangeAt RowKit YtonelbidndjhdaaGreatW.PrintWords YtonelbidndjhdaaGreatW.Sx YtonelbidndjhdaaGreat.Wh
set_option linter.unusedVariables false
theorem own:ownKnob Tryz.prog.godebug=none:=by kernel_rfl
theorem laidOut:laidOutB Tryz.prog=true:=by kernel_rfl
theorem cells:lvs Tryz.prog true 30 28=some [none,some .i64,some .i64,some .i64,some .i64,some .i64,some .i64,some .i64,some .i64,some .i64]:=by kernel_rfl
set_option maxRecDepth 100000 in
theorem lifted (os:Os) (started:os.Started) (H:Type) (enc:TypeId × Value→H) :
    ReturnsInHanded {} Tryz.checked os 3 .any (Rows.tapExactSpec.pre6 enc Tryz.prog Tryz.f3 Rows.tapExactRow.domain false) (Rows.tapExactSpec.post enc Tryz.prog Tryz.f3 false true false false):=by
  refine returnsInHanded_of_change_sized (C:=Tryz.checked) own started (by kernel_rfl) Tryz.func3
    (ChangeSpec.witness6 (enc:=enc) (C:=Tryz.checked) false ⟨#[],#[.slice none 0 0],[]⟩ 8 (by kernel_rfl) (by kernel_rfl) (by kernel_rfl) (by kernel_rfl)) ?_
  intro W base args ds gs before hval0 hW hcnd hsz0 _
  have hval:∀ (j:Nat) t v,Tryz.f3.params[j]?=some t→args[j]?=some v→Value.okWide Tryz.prog W .any base t v:=hval0
  have hW':=hW
  obtain ⟨p,q,hA0,hV,rfl,hfz,hnd⟩:=hW
  have hA:DataW.TrodAll enc Tryz.prog W 0 (fun _=>true) true Tryz.f3.params.toList args.toList ds p:=hA0
  rw [Tryz.params3] at hA hval
  obtain ⟨v0,vs0,d0,ds0,p0,q0,hargs,rfl,rfl,h0,r0⟩:=trodAll_cons hA
  obtain ⟨rfl,rfl,rfl⟩:=trodAll_nil r0
  obtain rfl:args=#[v0]:=by cases args;simp_all
  obtain ⟨rfl,rfl⟩:=trodVars_none hV
  have k0:=h0
  have lt0:∀ x∈p0,x.block<W.heap.size:=by obtain ⟨m,hm⟩:=k0;exact DataW.trod_lt m _ _ _ hm
  have hv0:=hval 0 22 v0 rfl rfl
  obtain ⟨a0,len0,cap0,rfl⟩:=okWide_slice Tryz.underlying22 hv0
  obtain ⟨f,hf,hr⟩:=row_of Tryz.underlying22 cells (by decide) h0
  clear hA0 hval0 hsz0
  refine Calls.mono (tapExact_row len0 f hf (us:=[_]) (.cons (hr _) .nil)) fun e W' hpost=>?_
  obtain ⟨u,rfl,hu,bel⟩:=hpost
  obtain rfl:u = .bool true:=hu
  exact ⟨_,rfl,_,_,_,[],_,[],hW',trodAll_mk1 (shut_bool Tryz.underlying4 _),(trodAll_cons_mk (Below.trod laidOut (by kernel_rfl) (of_decide_eq_true (by kernel_rfl)) k0 bel lt0) trodAll_mk0),rfl,bel.frame _,fun h=>by cases h⟩
theorem over:Rows.tapExactRow.holds Tryz.pinned (OpenSpec.ofChange Rows.tapExactSpec) :=
  OpenClaim.holds_of_wide 3 Tryz.f3 rfl rfl rfl rfl rfl rfl rfl ⟨rfl,rfl,rfl,rfl,rfl⟩ rfl rfl rfl rfl rfl (by kernel_rfl) Tryz.func3 (by kernel_rfl)
    (of_decide_eq_true (by kernel_rfl)) (by unfold Func.isWrapper;first|(rw [if_pos (by decide +kernel)];kernel_rfl)|(rw [if_neg (by decide +kernel)];exact ⟨rfl,rfl⟩))
    (fun os started H enc _=>lifted os started H enc)
theorem proved:Rows.TapExactSaid:=over
end Go.Proofs.YtonelbidndjhdaaGreat.tapExact
namespace Go.Proofs.YtonelbidndjhdaaGreat
theorem tapExact_holds:Rows.TapExactSaid:=tapExact.proved
end Go.Proofs.YtonelbidndjhdaaGreat
end
