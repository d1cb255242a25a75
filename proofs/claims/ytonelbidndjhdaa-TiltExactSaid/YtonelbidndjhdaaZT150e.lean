/- The row of TiltExact, out of its law by the reckoner: for every argument that reads as data the call returns true and leaves the argument as it was. -/
import Derived.Test.YtonelbidndjhdaaZT150d
import Derived.Test.YtonelbidndjhdaaRows
import Derived.WalkKit
import Derived.ProofKit
import Derived.OpenShut
import Derived.ShutString
import Derived.ChangeOld
import Derived.Below
import Derived.SizedLaws
import Derived.Carry
section
set_option linter.unusedVariables false
set_option linter.unusedSimpArgs false
namespace Go.Proofs.Ytonelbidndjhdaa.Wh
open Go RowKit YtonelbidndjhdaaW.PrintWords YtonelbidndjhdaaW.PrintMore YtonelbidndjhdaaW.Aid YtonelbidndjhdaaW.Big YtonelbidndjhdaaW.Sx Ytonelbidndjhdaa.BitsWalk Ytonelbidndjhdaa.Limbs Ytonelbidndjhdaa.Whole Ytonelbidndjhdaa.R90 Ytonelbidndjhdaa.QN90 Ytonelbidndjhdaa.FxWalk Go.Proofs
abbrev tRat (x d:Int):TV := .agg [.neg x,.mag x,.mag d]
def gcdI (n d:Int):Int:=((Nat.gcd n.natAbs d.natAbs:Nat):Int)
theorem nn_eq2 {p q:Int × Int} (h:p=q):(some (CR.tv (tNN p.1 p.2)):Option CR)=some (CR.tv (tNN q.1 q.2)):=by rw [h]
theorem rat_eq {x d x' d':Int} (h:x=x') (h':d=d'):(some (CR.tv (tRat x d)):Option CR)=some (CR.tv (tRat x' d')):=by rw [h,h']
theorem ofS_false {d:Int} (h:0≤d):ofS false d.natAbs=d:=by
  show ((d.natAbs:Nat):Int)=d
  omega
theorem gcd_pos (n:Nat) {d:Int} (h:0<d):0<Nat.gcd n d.natAbs:=Nat.gcd_pos_of_pos_right _ (by omega)
theorem gcdI_pos (n:Int) {d:Int} (h:0<d):0<gcdI n d:=by
  have:=gcd_pos n.natAbs h
  unfold gcdI;omega
theorem make_num {n:Int} {g:Nat} (h:g∣n.natAbs) (hg:0<g):ofS (sgn n) (n.natAbs/g)=n/(g:Int):=by
  obtain ⟨q,hq⟩:=h
  rw [hq,Nat.mul_div_cancel_left _ hg]
  cases hs:sgn n with
  | true =>
    have hn:=sgn_t hs
    have e:n=(g:Int)*(-(q:Int)):=by rw [Int.mul_neg,← Int.natCast_mul,← hq];omega
    rw [e,Int.mul_ediv_cancel_left _ (by omega)]
    rfl
  | false =>
    have hn:=sgn_f hs
    have e:n=(g:Int)*(q:Int):=by rw [← Int.natCast_mul,← hq];omega
    rw [e,Int.mul_ediv_cancel_left _ (by omega)]
    rfl
theorem make_den {d:Int} {g:Nat} (h:0≤d):((d.natAbs/g:Nat):Int)=d/(g:Int):=by rw [Int.natCast_ediv,Int.natAbs_of_nonneg h]
theorem gcdI_n (n d:Int):∃ q,n=gcdI n d*q:=by
  obtain ⟨q,hq⟩:=Nat.gcd_dvd_left n.natAbs d.natAbs
  rcases Int.le_total 0 n with h|h
  · exact ⟨q,by unfold gcdI;rw [← Int.natCast_mul,← hq];omega⟩
  · exact ⟨-(q:Int),by unfold gcdI;rw [Int.mul_neg,← Int.natCast_mul,← hq];omega⟩
theorem gcdI_d (n:Int) {d:Int} (h:0≤d):∃ q,d=gcdI n d*q:=by
  obtain ⟨q,hq⟩:=Nat.gcd_dvd_right n.natAbs d.natAbs
  exact ⟨q,by unfold gcdI;rw [← Int.natCast_mul,← hq];omega⟩
theorem round_gcd (n:Int) {d:Int} (h:0<d):roundP (n/gcdI n d) (d/gcdI n d)=roundP n d∧0<d/gcdI n d:=by
  have hg:=gcdI_pos n h
  obtain ⟨q,hq⟩:=gcdI_n n d
  obtain ⟨r,hr⟩:=gcdI_d n (Int.le_of_lt h)
  generalize gcdI n d=g at *
  subst hq hr
  rw [Int.mul_ediv_cancel_left _ (by omega),Int.mul_ediv_cancel_left _ (by omega)]
  have hr0:0<r:=by
    by_cases h1:0<r
    · exact h1
    · have:=Int.mul_le_mul_of_nonneg_left (show r≤0 by omega) (Int.le_of_lt hg)
      rw [Int.mul_zero] at this;omega
  exact ⟨(roundP_scale hg hr0).symm,hr0⟩
theorem b30:BI 31 1073741824:=by show (1073741824:Int).natAbs<2 ^ 31;decide
theorem near_cases (x:Int) {d:Int} (hd:0<d):(2*(x%d)<d∧x*2/d=2*(x/d)∧x*2%d=2*(x%d))∨(d≤2*(x%d)∧x*2/d=2*(x/d)+1∧x*2%d=2*(x%d)-d):=by
  have e:=Int.emod_add_mul_ediv x d
  have h0:=Int.emod_nonneg x (by omega:d≠0)
  have h1:=Int.emod_lt_of_pos x hd
  generalize x%d=m at *
  generalize x/d=q at *
  by_cases h:2*m<d
  · left
    have e2:x*2=2*m+d*(2*q):=by rw [show d*(2*q)=2*(d*q) by rw [← Int.mul_assoc,Int.mul_comm d 2,Int.mul_assoc]];omega
    refine ⟨h,?_,?_⟩
    · rw [e2,Int.add_mul_ediv_left _ _ (by omega),Int.ediv_eq_zero_of_lt (by omega) h];omega
    · rw [e2,Int.add_mul_emod_self_left,Int.emod_eq_of_lt (by omega) h]
  · right
    have e2:x*2=(2*m-d)+d*(2*q+1):=by rw [Int.mul_add,show d*(2*q)=2*(d*q) by rw [← Int.mul_assoc,Int.mul_comm d 2,Int.mul_assoc]];omega
    refine ⟨by omega,?_,?_⟩
    · rw [e2,Int.add_mul_ediv_left _ _ (by omega),Int.ediv_eq_zero_of_lt (by omega) (by omega)];omega
    · rw [e2,Int.add_mul_emod_self_left,Int.emod_eq_of_lt (by omega) (by omega)]
theorem cmpI_zero {x y:Int}:cmpI x y=0↔x=y:=by
  unfold cmpI
  split
  · constructor<;>intro h<;>omega
  · split
    · constructor<;>intro h<;>omega
    · constructor<;>intro h<;>omega
theorem near_even {x d:Int} (hd:0<d) (h:(!(cmpI (x*2 ^ Int.toNat 1/ofS false d.natAbs/2 ^ Int.toNat 1*2 ^ Int.toNat 1) (x*2 ^ Int.toNat 1/ofS false d.natAbs) != 0))=true):x*2 ^ Int.toNat 1/ofS false d.natAbs/2 ^ Int.toNat 1=roundP x d:=by
  rw [ofS_false (Int.le_of_lt hd)] at *
  have h2:(2:Int) ^ Int.toNat 1=2:=rfl
  rw [h2] at *
  have h3:cmpI (x*2/d/2*2) (x*2/d)=0:=by simpa using h
  rw [cmpI_zero] at h3
  unfold roundP
  rcases near_cases x hd with ⟨a,b,c⟩|⟨a,b,c⟩
  · rw [b,if_neg (by omega)];omega
  · rw [b] at h3;omega
theorem near_up {x d:Int} (hd:0<d) (h:(!(cmpI (x*2 ^ Int.toNat 1/ofS false d.natAbs/2 ^ Int.toNat 1*2 ^ Int.toNat 1) (x*2 ^ Int.toNat 1/ofS false d.natAbs) != 0))=false) (hr:(!decide (x*2 ^ Int.toNat 1%ofS false d.natAbs=0))=true):x*2 ^ Int.toNat 1/ofS false d.natAbs/2 ^ Int.toNat 1+1=roundP x d:=by
  rw [ofS_false (Int.le_of_lt hd)] at *
  have h2:(2:Int) ^ Int.toNat 1=2:=rfl
  rw [h2] at *
  have h3:¬ cmpI (x*2/d/2*2) (x*2/d)=0:=by simpa using h
  rw [cmpI_zero] at h3
  have h4:¬ x*2%d=0:=by simpa using hr
  unfold roundP
  rcases near_cases x hd with ⟨a,b,c⟩|⟨a,b,c⟩
  · rw [b] at h3;omega
  · rw [b,if_pos (by omega)];omega
theorem near_tie {x d:Int} (hd:0<d) (h:(!(cmpI (x*2 ^ Int.toNat 1/ofS false d.natAbs/2 ^ Int.toNat 1*2 ^ Int.toNat 1) (x*2 ^ Int.toNat 1/ofS false d.natAbs) != 0))=false) (hr:(!decide (x*2 ^ Int.toNat 1%ofS false d.natAbs=0))=false) {b:Bool}
    (hc:(cmpI (x*2 ^ Int.toNat 1/ofS false d.natAbs/2 ^ Int.toNat 1/2 ^ Int.toNat 1*2 ^ Int.toNat 1) (x*2 ^ Int.toNat 1/ofS false d.natAbs/2 ^ Int.toNat 1) == 0)=b) :
    x*2 ^ Int.toNat 1/ofS false d.natAbs/2 ^ Int.toNat 1+(if b then 0 else 1)=roundP x d:=by
  rw [ofS_false (Int.le_of_lt hd)] at h hr hc ⊢
  have h2:(2:Int) ^ Int.toNat 1=2:=rfl
  simp only [h2] at h hr hc ⊢
  have h3:¬ cmpI (x*2/d/2*2) (x*2/d)=0:=by simpa using h
  rw [cmpI_zero] at h3
  have h4:x*2%d=0:=by simpa using hr
  unfold roundP
  rcases near_cases x hd with ⟨a,b',c⟩|⟨a,b',c⟩
  · rw [b'] at h3;omega
  · rw [b'] at hc ⊢
    have e:(2*(x/d)+1)/2=x/d:=by omega
    rw [e] at hc ⊢
    cases b with
    | true =>
      have h5:=cmpI_zero.1 (beq_iff_eq.1 hc)
      rw [if_pos rfl,if_neg (by omega)];omega
    | false =>
      have h5:¬ x/d/2*2=x/d:=fun e=>by
        have:=cmpI_zero.2 e
        rw [this] at hc;cases hc
      rw [if_neg (by decide),if_pos (by omega)]
theorem near_t1 {x d:Int} (hd:0<d) (h:(!(cmpI (x*2 ^ Int.toNat 1/ofS false d.natAbs/2 ^ Int.toNat 1*2 ^ Int.toNat 1) (x*2 ^ Int.toNat 1/ofS false d.natAbs) != 0))=false) (hr:(!decide (x*2 ^ Int.toNat 1%ofS false d.natAbs=0))=false)
    (hc:(cmpI (x*2 ^ Int.toNat 1/ofS false d.natAbs/2 ^ Int.toNat 1/2 ^ Int.toNat 1*2 ^ Int.toNat 1) (x*2 ^ Int.toNat 1/ofS false d.natAbs/2 ^ Int.toNat 1) == 0)=true) :
    x*2 ^ Int.toNat 1/ofS false d.natAbs/2 ^ Int.toNat 1=roundP x d:=by
  have:=near_tie hd h hr hc
  rwa [if_pos rfl,Int.add_zero] at this
theorem near_t0 {x d:Int} (hd:0<d) (h:(!(cmpI (x*2 ^ Int.toNat 1/ofS false d.natAbs/2 ^ Int.toNat 1*2 ^ Int.toNat 1) (x*2 ^ Int.toNat 1/ofS false d.natAbs) != 0))=false) (hr:(!decide (x*2 ^ Int.toNat 1%ofS false d.natAbs=0))=false)
    (hc:(cmpI (x*2 ^ Int.toNat 1/ofS false d.natAbs/2 ^ Int.toNat 1/2 ^ Int.toNat 1*2 ^ Int.toNat 1) (x*2 ^ Int.toNat 1/ofS false d.natAbs/2 ^ Int.toNat 1) == 0)=false) :
    x*2 ^ Int.toNat 1/ofS false d.natAbs/2 ^ Int.toNat 1+1=roundP x d:=by
  have:=near_tie hd h hr hc
  rwa [if_neg (by decide)] at this
theorem may_eq (v:Int):(bif decide (v > -35184372088832) then decide (v<35184372088832) else false)=wd v:=by
  rw [Bool.eq_iff_iff,wd_iff]
  by_cases h:v > -35184372088832
  · rw [decide_eq_true h];simp;omega
  · rw [decide_eq_false h];simp;omega
theorem gtold0 {x:Int} (h:(bif !(smallI x).2 then true else !wd (smallI x).1)=true):((0:Int),(2:Int))=toldR x:=by
  cases hs:(smallI x).2 with
  | false=>have:=told0 (x:=x) (by rw [hs];rfl);exact this
  | true =>
    rw [hs] at h
    have h2:wd (smallI x).1=false:=by simpa using h
    have e:(smallI x).1=x:=by
      unfold smallI at hs ⊢
      split
      · rfl
      · rename_i hc;rw [if_neg hc] at hs;cases hs
    rw [e] at h2
    unfold toldR;rw [h2];rfl
theorem gtold1 {x:Int} (h:(bif !(smallI x).2 then true else !wd (smallI x).1)=false):((smallI x).1,(0:Int))=toldR x:=by
  cases hs:(smallI x).2 with
  | false=>rw [hs] at h;cases h
  | true =>
    rw [hs] at h
    have h2:wd (smallI x).1=true:=by simpa using h
    have e:(smallI x).1=x:=by
      unfold smallI at hs ⊢
      split
      · rfl
      · rename_i hc;rw [if_neg hc] at hs;cases hs
    rw [e] at h2 ⊢
    unfold toldR;rw [h2];rfl
section
set_option maxRecDepth 100000
set_option maxHeartbeats 1000000
def qMake:Con Try.prog where
  f:=86
  sem:=fun xs=>match xs with
    | [.agg [.neg n,.mag n'],.sc (.mag d)]=>some (n'=n∧0<d∧BI 8000 n∧BI 8000 d,.tv (tRat (n/gcdI n d) (d/gcdI n d)))
    | _=>none
  ok := by
    intro xs p r' h hp
    refine ⟨⟨_,Try.func86,by kernel_rfl,rfl⟩,fun us w ha=>?_⟩
    split at h
    · rename_i n n' d
      cases h
      obtain ⟨rfl,h0,hn,hd⟩:=hp
      have gp:=gcd_pos n'.natAbs h0
      have gl:B 8000 (Nat.gcd n'.natAbs d.natAbs):=B.le hd (Nat.gcd_le_right _ (by omega))
      refine fn_ret (cxOk Try.prog intsR_ok [] [cNGcd,cNDivide,rMade]) follows Try.func86 rfl 100 _ rfl (by simp) ?_ ha
      repeat' first
        | exact trivial
        | (refine And.intro (show regChk _ _ _ _ _=true from by kernel_rfl) (And.intro ?_ ?_))
        | (refine And.intro (fun _=>?_) (fun h=>absurd (show true=false from h) (by decide)))
        | (refine And.intro (fun h=>absurd (show false=true from h) (by decide)) (fun _=>?_))
        | (refine And.intro (fun hb=>?_) (fun hb'=>?_))
        | refine And.intro ?_ ?_
        | intro _
      all_goals first
        | (show (_:Int)=(_:Int);rfl)
        | (show (_:Bool)=(_:Bool);first|assumption|exact beq_iff_eq.2 (by assumption)|exact g2 (by assumption) (by assumption))
        | (show B _ _;first|exact B.mono hn (by decide)|exact B.mono hd (by decide)|exact B.mono gl (by decide))
        | (show 0<Int.natAbs _;exact gp)
        | (show some (CR.tv (tRat _ _))=some (CR.tv (tRat _ _));exact rat_eq (by simp only [Int.natAbs_natCast];exact make_num (Nat.gcd_dvd_left _ _) gp) (by simp only [Int.natAbs_natCast];exact make_den (Int.le_of_lt h0)))
        -- PVC
    · cases h
def qNear:Con Try.prog where
  f:=112
  sem:=fun xs=>match xs with
    | [.agg [.neg x,.mag x',.mag d]]=>some (x'=x∧0<d∧BI 8000 x∧BI 8000 d,.tv (tI (roundP x d)))
    | _=>none
  ok := by
    intro xs p r' h hp
    refine ⟨⟨_,Try.func112,by kernel_rfl,rfl⟩,fun us w ha=>?_⟩
    split at h
    · rename_i x x' d
      cases h
      obtain ⟨rfl,h0,hn,hd⟩:=hp
      have b1:BI 8001 (x'*2 ^ Int.toNat 1):=BI.shl 1 hn (by decide)
      have b2:BI 8000 (ofS false d.natAbs):=by rw [ofS_false (Int.le_of_lt h0)];exact hd
      have b3:BI 8001 (x'*2 ^ Int.toNat 1/ofS false d.natAbs):=b1.div _
      have b4:BI 8001 (x'*2 ^ Int.toNat 1/ofS false d.natAbs/2 ^ Int.toNat 1):=b3.div _
      have b5:BI 8002 (x'*2 ^ Int.toNat 1/ofS false d.natAbs/2 ^ Int.toNat 1*2 ^ Int.toNat 1):=BI.shl 1 b4 (by decide)
      have b6:BI 8002 (x'*2 ^ Int.toNat 1/ofS false d.natAbs/2 ^ Int.toNat 1/2 ^ Int.toNat 1*2 ^ Int.toNat 1):=BI.shl 1 (b4.div _) (by decide)
      refine fn_ret (cxOk Try.prog intsR_ok [] [rMade,rDivide,rLeft,rRight,rCmp,rPlus,rFrom,rZero]) follows Try.func112 rfl 100 _ rfl (by simp) ?_ ha
      repeat' first
        | exact trivial
        | (refine And.intro (show regChk _ _ _ _ _=true from by kernel_rfl) (And.intro ?_ ?_))
        | (refine And.intro (fun _=>?_) (fun h=>absurd (show true=false from h) (by decide)))
        | (refine And.intro (fun h=>absurd (show false=true from h) (by decide)) (fun _=>?_))
        | (refine And.intro (fun hb=>?_) (fun hb'=>?_))
        | refine And.intro ?_ ?_
        | intro _
      all_goals first
        | (show (_:Int)=(_:Int);rfl)
        | (show (_:Bool)=(_:Bool);first|assumption|exact beq_iff_eq.2 (by assumption)|exact g2 (by assumption) (by assumption))
        | (show (-9223372036854775808:Int)≤0;decide)
        | (show (-9223372036854775808:Int)≤1;decide)
        | (show (0:Int)<9223372036854775808;decide)
        | (show (1:Int)<9223372036854775808;decide)
        | (show (0:Int)≤1;decide)
        | (show (1:Int)≤6400;decide)
        | (show (1:Int)<18446744073709551616;decide)
        | (show (0:Int)≤2;decide)
        | (show (2:Int)<18446744073709551616;decide)
        | (show (0:Int)≤30;decide)
        | (show (30:Int)≤6400;decide)
        | (show (2:Int)=2;rfl)
        | (show (_:Nat)=(_:Nat);rfl)
        | (show (0:Int)<ofS _ _;rw [ofS_false (Int.le_of_lt h0)];exact h0)
        | (show BI _ _;first|exact BI.mono hn (by decide)|exact BI.mono b2 (by decide)|exact BI.mono BI.one (by decide)|exact BI.mono b3 (by decide)|exact BI.mono b4 (by decide)|exact BI.mono b5 (by decide)|exact BI.mono (b4.div _) (by decide)|exact BI.mono b6 (by decide)|exact BI.mono b1 (by decide))
        | (show some (CR.tv (tI _))=some (CR.tv (tI _));first|exact wh_eq (near_even h0 (by assumption))|exact wh_eq (near_up h0 (by assumption) (by assumption))|exact wh_eq (near_t1 h0 (by assumption) (by assumption) (by assumption))|exact wh_eq (near_t0 h0 (by assumption) (by assumption) (by assumption)))
        -- PVC
    · cases h
def gMay:Con Try.prog where
  f:=26
  sem:=fun xs=>match xs with
    | [.sc (.v (.int .i64 v))]=>some (True,.tv (tB (wd v)))
    | _=>none
  ok := by
    intro xs p r' h hp
    refine ⟨⟨_,Try.func26,by kernel_rfl,rfl⟩,fun us w ha=>?_⟩
    split at h
    · rename_i v
      cases h
      refine fn_ret (cxOk Try.prog intsR_ok [] []) follows Try.func26 rfl 100 _ rfl (by simp) ?_ ha
      repeat' first
        | exact trivial
        | (refine And.intro (show regChk _ _ _ _ _=true from by kernel_rfl) (And.intro ?_ ?_))
        | (refine And.intro (fun _=>?_) (fun h=>absurd (show true=false from h) (by decide)))
        | (refine And.intro (fun h=>absurd (show false=true from h) (by decide)) (fun _=>?_))
        | (refine And.intro (fun hb=>?_) (fun hb'=>?_))
        | refine And.intro ?_ ?_
        | intro _
      all_goals first
        | (show (_:Int)=(_:Int);rfl)
        | (show (_:Bool)=(_:Bool);first|assumption|exact beq_iff_eq.2 (by assumption)|exact g2 (by assumption) (by assumption))
        | (show some (CR.tv (tB _))=some (CR.tv (tB _));exact tB_eq (may_eq v))
        -- PVC
    · cases h
def gWord:Con Try.prog where
  f:=111
  sem:=fun xs=>match xs with
    | [.agg [.neg x,.mag x']]=>some (x'=x,.tv (tNN (toldR x).1 (toldR x).2))
    | _=>none
  ok := by
    intro xs p r' h hp
    refine ⟨⟨_,Try.func111,by kernel_rfl,rfl⟩,fun us w ha=>?_⟩
    split at h
    · rename_i x x'
      cases h
      obtain rfl:=hp
      refine fn_ret (cxOk Try.prog intsR_ok [] [rSmall,gMay]) follows Try.func111 rfl 100 _ rfl (by simp) ?_ ha
      repeat' first
        | exact trivial
        | (refine And.intro (show regChk _ _ _ _ _=true from by kernel_rfl) (And.intro ?_ ?_))
        | (refine And.intro (fun _=>?_) (fun h=>absurd (show true=false from h) (by decide)))
        | (refine And.intro (fun h=>absurd (show false=true from h) (by decide)) (fun _=>?_))
        | (refine And.intro (fun hb=>?_) (fun hb'=>?_))
        | refine And.intro ?_ ?_
        | intro _
      all_goals first
        | (show (_:Int)=(_:Int);rfl)
        | (show (_:Bool)=(_:Bool);first|assumption|exact beq_iff_eq.2 (by assumption)|exact g2 (by assumption) (by assumption))
        | (show some (CR.tv (tNN _ _))=some (CR.tv (tNN _ _));first|exact nn_eq (gtold0 (by assumption))|exact nn_eq (gtold1 (by assumption)))
        -- PVC
    · cases h
def gNear:Con Try.prog where
  f:=85
  sem:=fun xs=>match xs with
    | [.agg [.neg x,.mag x',.mag d]]=>some (x'=x∧0<d∧BI 8000 x∧BI 8000 d,.tv (tNN (toldR (roundP x d)).1 (toldR (roundP x d)).2))
    | _=>none
  ok := by
    intro xs p r' h hp
    refine ⟨⟨_,Try.func85,by kernel_rfl,rfl⟩,fun us w ha=>?_⟩
    split at h
    · rename_i x x' d
      cases h
      obtain ⟨rfl,h0,hn,hd⟩:=hp
      refine fn_ret (cxOk Try.prog intsR_ok [] [qNear,gWord]) follows Try.func85 rfl 100 _ rfl (by simp) ?_ ha
      repeat' first
        | exact trivial
        | (refine And.intro (show regChk _ _ _ _ _=true from by kernel_rfl) (And.intro ?_ ?_))
        | (refine And.intro (fun _=>?_) (fun h=>absurd (show true=false from h) (by decide)))
        | (refine And.intro (fun h=>absurd (show false=true from h) (by decide)) (fun _=>?_))
        | (refine And.intro (fun hb=>?_) (fun hb'=>?_))
        | refine And.intro ?_ ?_
        | intro _
      all_goals first
        | (show (_:Int)=(_:Int);rfl)
        | (show (_:Bool)=(_:Bool);first|assumption|exact beq_iff_eq.2 (by assumption)|exact g2 (by assumption) (by assumption))
        | (show BI _ _;first|exact BI.mono hn (by decide)|exact BI.mono hd (by decide))
        | (show (0:Int)<d;exact h0)
        | (show some (CR.tv (tNN _ _))=some (CR.tv (tNN _ _));rfl)
        -- PVC
    · cases h
def gNearQ:Con Try.prog where
  f:=58
  sem:=fun xs=>match xs with
    | [.agg [.neg n,.mag n']]=>some (n'=n∧BI 4000 n,.tv (tNN (toldR (roundP n 1073741824)).1 (toldR (roundP n 1073741824)).2))
    | _=>none
  ok := by
    intro xs p r' h hp
    refine ⟨⟨_,Try.func58,by kernel_rfl,rfl⟩,fun us w ha=>?_⟩
    split at h
    · rename_i n n'
      cases h
      obtain ⟨rfl,hn⟩:=hp
      refine fn_ret (cxOk Try.prog intsR_ok [] [cNOf,cUp2,qMake,gNear]) follows Try.func58 rfl 100 _ rfl (by simp) ?_ ha
      repeat' first
        | exact trivial
        | (refine And.intro (show regChk _ _ _ _ _=true from by kernel_rfl) (And.intro ?_ ?_))
        | (refine And.intro (fun _=>?_) (fun h=>absurd (show true=false from h) (by decide)))
        | (refine And.intro (fun h=>absurd (show false=true from h) (by decide)) (fun _=>?_))
        | (refine And.intro (fun hb=>?_) (fun hb'=>?_))
        | refine And.intro ?_ ?_
        | intro _
      all_goals first
        | (show (_:Int)=(_:Int);rfl)
        | (show (_:Bool)=(_:Bool);first|assumption|exact beq_iff_eq.2 (by assumption)|exact g2 (by assumption) (by assumption))
        | (show (-9223372036854775808:Int)≤0;decide)
        | (show (-9223372036854775808:Int)≤1;decide)
        | (show (0:Int)<9223372036854775808;decide)
        | (show (1:Int)<9223372036854775808;decide)
        | (show (0:Int)≤1;decide)
        | (show (1:Int)≤6400;decide)
        | (show (1:Int)<18446744073709551616;decide)
        | (show (0:Int)≤2;decide)
        | (show (2:Int)<18446744073709551616;decide)
        | (show (0:Int)≤30;decide)
        | (show (30:Int)≤6400;decide)
        | (show (2:Int)=2;rfl)
        | (show (_:Nat)=(_:Nat);rfl)
        | (show BI _ _;first|exact BI.mono hn (by decide)|exact BI.mono b30 (by decide)|exact BI.mono (hn.div _) (by decide)|exact BI.mono (b30.div _) (by decide))
        | (show B _ _;exact B.mono (e:=1) (show (1:Nat)<2 ^ 1 by decide) (by decide))
        | (show (0:Int)<1073741824;decide)
        | (show (0:Int)<1073741824/gcdI _ _;exact (round_gcd n' (by decide)).2)
        | (show some (CR.tv (tNN _ _))=some (CR.tv (tNN _ _));exact nn_eq2 (congrArg toldR (round_gcd n' (by decide)).1))
        -- PVC
    · cases h
def gProd:Con Try.prog where
  f:=95
  sem:=fun xs=>match xs with
    | [.sc (.v (.int .i64 a)),.sc (.v (.int .i64 b))]=>some ((-9223372036854775808≤a∧a<9223372036854775808)∧(-9223372036854775808≤b∧b<9223372036854775808),.tv (tI (a*b)))
    | _=>none
  ok := by
    intro xs p r' h hp
    refine ⟨⟨_,Try.func95,by kernel_rfl,rfl⟩,fun us w ha=>?_⟩
    split at h
    · rename_i a b
      cases h
      obtain ⟨pa,pb⟩:=hp
      refine fn_ret (cxOk Try.prog intsR_ok [] [rFrom,rTimes]) follows Try.func95 rfl 100 _ rfl (by simp) ?_ ha
      repeat' first
        | exact trivial
        | (refine And.intro (show regChk _ _ _ _ _=true from by kernel_rfl) (And.intro ?_ ?_))
        | (refine And.intro (fun _=>?_) (fun h=>absurd (show true=false from h) (by decide)))
        | (refine And.intro (fun h=>absurd (show false=true from h) (by decide)) (fun _=>?_))
        | (refine And.intro (fun hb=>?_) (fun hb'=>?_))
        | refine And.intro ?_ ?_
        | intro _
      all_goals first
        | (show (_:Int)=(_:Int);rfl)
        | (show (_:Bool)=(_:Bool);first|assumption|exact beq_iff_eq.2 (by assumption)|exact g2 (by assumption) (by assumption))
        | (with_reducible exact pa.1)
        | (with_reducible exact pa.2)
        | (with_reducible exact pb.1)
        | (with_reducible exact pb.2)
        | (show BI _ _;first|exact BI.mono (BI.i64 pa) (by decide)|exact BI.mono (BI.i64 pb) (by decide))
        | (show some (CR.tv (tI _))=some (CR.tv (tI _));rfl)
        -- PVC
    · cases h
end
end Go.Proofs.Ytonelbidndjhdaa.Wh
end
section
set_option linter.unusedVariables false
set_option linter.unusedSimpArgs false
namespace Go.Proofs.Ytonelbidndjhdaa.Wh
open Go RowKit YtonelbidndjhdaaW.PrintWords YtonelbidndjhdaaW.PrintMore YtonelbidndjhdaaW.Aid YtonelbidndjhdaaW.Big YtonelbidndjhdaaW.Sx Ytonelbidndjhdaa.BitsWalk Ytonelbidndjhdaa.Limbs Ytonelbidndjhdaa.Whole Ytonelbidndjhdaa.FxWalk Go.Proofs
theorem bip {a b:Int} (ha:wd a=true) (hb:wd b=true):BI 128 (a*b):=BI.mul (BI.i64 (i64_wd ha)) (BI.i64 (i64_wd hb)) (by decide)
theorem biD {a b c d e f:Int} (h:gV a b c=true) (h':gV d e f=true):BI 130 (dot3 a b c d e f):=by
  obtain ⟨a1,a2,a3⟩:=gV_iff.1 h
  obtain ⟨d1,d2,d3⟩:=gV_iff.1 h'
  exact BI.add (BI.add (bip a1 d1) (bip a2 d2) (show 128+1≤129 by decide)) (BI.mono (bip a3 d3) (by decide)) (by decide)
section
set_option maxRecDepth 100000
set_option maxHeartbeats 4000000
def g3dot:Con Try.prog where
  f:=67
  sem:=fun xs=>match xs with
    | [.agg [.v (.int .i64 a),.v (.int .i64 b),.v (.int .i64 c)],.agg [.v (.int .i64 d),.v (.int .i64 e),.v (.int .i64 f)]]=>some (gV a b c=true∧gV d e f=true,.tv (tI (dot3 a b c d e f)))
    | _=>none
  ok := by
    intro xs p r' h hp
    refine ⟨⟨_,Try.func67,by kernel_rfl,rfl⟩,fun us w ha=>?_⟩
    split at h
    · rename_i a b c d e f
      cases h
      obtain ⟨ha',hd'⟩:=hp
      have b1:=gV_bd ha'
      have b2:=gV_bd hd'
      obtain ⟨a1,a2,a3⟩:=gV_iff.1 ha'
      obtain ⟨d1,d2,d3⟩:=gV_iff.1 hd'
      refine fn_ret (cxOk Try.prog intsR_ok [] [gProd,rPlus]) follows Try.func67 rfl 100 _ rfl (by simp) ?_ ha
      repeat' first
        | exact trivial
        | (refine And.intro (show regChk _ _ _ _ _=true from by kernel_rfl) (And.intro ?_ ?_))
        | (refine And.intro (fun _=>?_) (fun h=>absurd (show true=false from h) (by decide)))
        | (refine And.intro (fun h=>absurd (show false=true from h) (by decide)) (fun _=>?_))
        | (refine And.intro (fun hb=>?_) (fun hb'=>?_))
        | refine And.intro ?_ ?_
      all_goals first
        | (show (_:Int)≤_;omega)
        | (show (_:Int)<_;omega)
        | (show BI 20000 (_*_);first|exact BI.mono (bip a1 d1) (by decide)|exact BI.mono (bip a2 d2) (by decide)|exact BI.mono (bip a3 d3) (by decide))
        | (show BI 20000 (_+_);exact BI.mono (BI.add (bip a1 d1) (bip a2 d2) (show 128+1≤129 by decide)) (by decide))
        | (show some (CR.tv (tI _))=some (CR.tv (tI _));rfl)
        | (show (_:Nat)=(_:Nat);rfl)
        | (show (_:Nat)≤1000;decide)
        | (show (_:Int)=(_:Int);rfl)
        | (show (_:Int)≤_;decide)
        | (show (_:Int)<_;decide)
        -- PVC
    · cases h
def g3Dot:Con Try.prog where
  f:=40
  sem:=fun xs=>match xs with
    | [.agg [.v (.int .i64 a),.v (.int .i64 b),.v (.int .i64 c)],.agg [.v (.int .i64 d),.v (.int .i64 e),.v (.int .i64 f)]]=>some (gV a b c=true∧gV d e f=true,.tv (tNN (toldR (q30 (dot3 a b c d e f))).1 (toldR (q30 (dot3 a b c d e f))).2))
    | _=>none
  ok := by
    intro xs p r' h hp
    refine ⟨⟨_,Try.func40,by kernel_rfl,rfl⟩,fun us w ha=>?_⟩
    split at h
    · rename_i a b c d e f
      cases h
      obtain ⟨ha',hd'⟩:=hp
      refine fn_ret (cxOk Try.prog intsR_ok [] [g3dot,gNearQ]) follows Try.func40 rfl 100 _ rfl (by simp) ?_ ha
      repeat' first
        | exact trivial
        | (refine And.intro (show regChk _ _ _ _ _=true from by kernel_rfl) (And.intro ?_ ?_))
        | (refine And.intro (fun _=>?_) (fun h=>absurd (show true=false from h) (by decide)))
        | (refine And.intro (fun h=>absurd (show false=true from h) (by decide)) (fun _=>?_))
        | (refine And.intro (fun hb=>?_) (fun hb'=>?_))
        | refine And.intro ?_ ?_
      all_goals first
        | exact ha'
        | exact hd'
        | (show BI 4000 (dot3 _ _ _ _ _ _);exact BI.mono (biD ha' hd') (by decide))
        | (show some (CR.tv (tNN _ _))=some (CR.tv (tNN _ _));rfl)
        | (show (_:Nat)=(_:Nat);rfl)
        | (show (_:Nat)≤1000;decide)
        | (show (_:Int)=(_:Int);rfl)
        | (show (_:Int)≤_;decide)
        | (show (_:Int)<_;decide)
        -- PVC
    · cases h
end
end Go.Proofs.Ytonelbidndjhdaa.Wh
end
section
set_option linter.unusedVariables false
set_option linter.unusedSimpArgs false
namespace Go.Proofs.Ytonelbidndjhdaa.Wh
open Go RowKit YtonelbidndjhdaaW.PrintWords YtonelbidndjhdaaW.PrintMore YtonelbidndjhdaaW.Aid YtonelbidndjhdaaW.Big YtonelbidndjhdaaW.Sx Ytonelbidndjhdaa.BitsWalk Ytonelbidndjhdaa.Limbs Ytonelbidndjhdaa.Whole Ytonelbidndjhdaa.FxWalk Go.Proofs
abbrev tw (v:Int):Bool:=bif decide (v ≥ -2147483648) then decide (v≤2147483648) else false
abbrev wide3 (x y z:Int):Bool:=bif bif tw x then tw y else false then tw z else false
theorem wide_eq (x y z:Int):wide3 x y z=shT x y z:=by
  have w:∀ v:Int,tw v=!badW (-2147483648) 2147483648 v:=fun v=>by
    unfold tw badW
    by_cases h1:v ≥ -2147483648<;>by_cases h2:v≤2147483648<;>simp [h1,h2]<;>omega
  unfold wide3 shT wiT
  rw [w,w,w]
  cases badW (-2147483648) 2147483648 x<;>cases badW (-2147483648) 2147483648 y<;>cases badW (-2147483648) 2147483648 z<;>rfl
theorem wide_bd {x y z:Int} (h:wide3 x y z=true):(-2147483648≤x∧x≤2147483648)∧(-2147483648≤y∧y≤2147483648)∧(-2147483648≤z∧z≤2147483648):=by
  unfold wide3 tw at h
  by_cases a1:x ≥ -2147483648<;>by_cases a2:x≤2147483648<;>by_cases b1:y ≥ -2147483648<;>by_cases b2:y≤2147483648<;>by_cases c1:z ≥ -2147483648<;>by_cases c2:z≤2147483648<;>simp [a1,a2,b1,b2,c1,c2] at h<;>omega
def mayTi (o:Bool) (x y z s:Int) (aw:Bool):Bool:=bif bif (bif !o then !eqL (c6 o x y z s aw) (c6 false 0 0 0 0 false) else false) then true else (bif !aw then s != 0 else false) then false else bif wide3 x y z then tmB s else false
theorem mayTi_0 {o:Bool} {x y z s:Int} {aw:Bool} (h0:(bif (bif !o then !eqL (c6 o x y z s aw) (c6 false 0 0 0 0 false) else false) then true else (bif !aw then s != 0 else false))=true):(false)=mayTi o x y z s aw:=by
  unfold mayTi
  rw [h0]
  rfl
theorem mayTi_1 {o:Bool} {x y z s:Int} {aw:Bool} (h0:(bif (bif !o then !eqL (c6 o x y z s aw) (c6 false 0 0 0 0 false) else false) then true else (bif !aw then s != 0 else false))=false):(bif wide3 x y z then tmB s else false)=mayTi o x y z s aw:=by
  unfold mayTi
  rw [h0]
  rfl
theorem mayTi_eq (o:Bool) (x y z s:Int) (aw:Bool):mayTi o x y z s aw=goodTi o x y z s aw:=by
  unfold mayTi goodTi
  rw [wide_eq]
  have e:(s != 0)=!(s == 0):=rfl
  rw [e]
  cases shT x y z<;>cases tmB s<;>cases o<;>cases aw<;>cases (s == 0)<;>simp
abbrev okTx (o:Bool) (x y z s:Int) (aw:Bool) (a b c now:Int):Bool:=bif bif bif mayTi o x y z s aw then wide3 a b c else false then tmB now else false then decide (now≥s) else false
theorem okTx_eq (o:Bool) (x y z s:Int) (aw:Bool) (a b c now:Int):badTi o x y z s aw a b c now=!okTx o x y z s aw a b c now:=by
  unfold okTx badTi
  rw [mayTi_eq,wide_eq]
  have e:decide (now<s)=!decide (now≥s):=by by_cases h:now<s<;>simp [h]<;>omega
  rw [e]
  cases goodTi o x y z s aw<;>cases shT a b c<;>cases tmB now<;>cases decide (now≥s)<;>rfl
def tiltG (o:Bool) (x y z s:Int) (aw:Bool) (a b c now:Int):(Bool × Int × Int × Int × Int × Bool) × Bool:=bif !o then ((true,a,b,c,(0:Int),false),false) else bif decide ((toldR (q30 (dot3 x y z a b c))).1≥879557810) then ((true,x,y,z,(0:Int),false),false) else bif !aw then ((true,x,y,z,now,true),false) else bif decide (IntKind.i64.wrap (now-s)≥2000) then ((true,a,b,c,(0:Int),false),true) else ((o,x,y,z,s,aw),false)
theorem tiltG_0 {o:Bool} {x y z s:Int} {aw:Bool} {a b c now:Int} (h0:(!o)=true):(((true,a,b,c,(0:Int),false),false))=tiltG o x y z s aw a b c now:=by
  unfold tiltG
  rw [h0]
  rfl
theorem tiltG_1 {o:Bool} {x y z s:Int} {aw:Bool} {a b c now:Int} (h0:(!o)=false) (h1:(decide ((toldR (q30 (dot3 x y z a b c))).1≥879557810))=true):(((true,x,y,z,(0:Int),false),false))=tiltG o x y z s aw a b c now:=by
  unfold tiltG
  rw [h0]
  rw [h1]
  rfl
theorem tiltG_2 {o:Bool} {x y z s:Int} {aw:Bool} {a b c now:Int} (h0:(!o)=false) (h1:(decide ((toldR (q30 (dot3 x y z a b c))).1≥879557810))=false) (h2:(!aw)=true):(((true,x,y,z,now,true),false))=tiltG o x y z s aw a b c now:=by
  unfold tiltG
  rw [h0]
  rw [h1]
  rw [h2]
  rfl
theorem tiltG_3 {o:Bool} {x y z s:Int} {aw:Bool} {a b c now:Int} (h0:(!o)=false) (h1:(decide ((toldR (q30 (dot3 x y z a b c))).1≥879557810))=false) (h2:(!aw)=false) (h3:(decide (IntKind.i64.wrap (now-s)≥2000))=true):(((true,a,b,c,(0:Int),false),true))=tiltG o x y z s aw a b c now:=by
  unfold tiltG
  rw [h0]
  rw [h1]
  rw [h2]
  rw [h3]
  rfl
theorem tiltG_4 {o:Bool} {x y z s:Int} {aw:Bool} {a b c now:Int} (h0:(!o)=false) (h1:(decide ((toldR (q30 (dot3 x y z a b c))).1≥879557810))=false) (h2:(!aw)=false) (h3:(decide (IntKind.i64.wrap (now-s)≥2000))=false):(((o,x,y,z,s,aw),false))=tiltG o x y z s aw a b c now:=by
  unfold tiltG
  rw [h0]
  rw [h1]
  rw [h2]
  rw [h3]
  rfl
theorem tg_eq {o:Bool} {x y z s:Int} {aw t:Bool} {p:(Bool × Int × Int × Int × Int × Bool) × Bool} (h:((o,x,y,z,s,aw),t)=p):(some (CR.tv (.tup [(true,[.v (.bool o),.v (.int .i64 x),.v (.int .i64 y),.v (.int .i64 z),.v (.int .i64 s),.v (.bool aw)]),(false,[.v (.bool t)])])):Option CR)=some (CR.tv (.tup [(true,[.v (.bool p.1.1),.v (.int .i64 p.1.2.1),.v (.int .i64 p.1.2.2.1),.v (.int .i64 p.1.2.2.2.1),.v (.int .i64 p.1.2.2.2.2.1),.v (.bool p.1.2.2.2.2.2)]),(false,[.v (.bool p.2)])])):=by rw [← h]
theorem okTx_w {o:Bool} {x y z s:Int} {aw:Bool} {a b c now:Int} (h:okTx o x y z s aw a b c now=true):wide3 x y z=true∧wide3 a b c=true:=by
  unfold okTx at h
  rw [mayTi_eq] at h
  unfold goodTi at h
  rw [wide_eq,wide_eq]
  rw [wide_eq] at h
  cases h1:shT x y z<;>cases h2:shT a b c<;>simp [h1,h2] at h ⊢
theorem wide_gV {x y z:Int} (h:wide3 x y z=true):gV x y z=true:=by
  have:=wide_bd h
  exact gV_iff.2 ⟨by rw [wd_iff];omega,by rw [wd_iff];omega,by rw [wd_iff];omega⟩
theorem pW {x y:Int} (hx : -2147483648≤x∧x≤2147483648) (hy : -2147483648≤y∧y≤2147483648) : -4611686018427387904≤x*y∧x*y≤4611686018427387904:=by
  have h1:x.natAbs≤2147483648:=by omega
  have h2:y.natAbs≤2147483648:=by omega
  have h3:(x*y).natAbs≤2147483648*2147483648:=by rw [Int.natAbs_mul];exact Nat.mul_le_mul h1 h2
  omega
theorem dotW {x y z a b c:Int} (h:wide3 x y z=true) (h':wide3 a b c=true):dotR x y z a b c=((toldR (q30 (dot3 x y z a b c))).1,0):=by
  obtain ⟨x1,x2,x3⟩:=wide_bd h
  obtain ⟨a1,a2,a3⟩:=wide_bd h'
  have p1:=pW x1 a1
  have p2:=pW x2 a2
  have p3:=pW x3 a3
  have hw:wd (q30 (dot3 x y z a b c))=true:=by
    have l : -12884901888≤q30 (dot3 x y z a b c):=le_rp (by decide) (by unfold dot3;omega)
    have u:q30 (dot3 x y z a b c)≤12884901888:=rp_le (by decide) (by unfold dot3;omega)
    rw [wd_iff];omega
  rw [dot_y (wide_gV h) (wide_gV h') hw,tldOk hw]
theorem tx_on {o:Bool} {x y z s:Int} {aw:Bool} {a b c now:Int} (h:okTx o x y z s aw a b c now=true):tiltR o x y z s aw a b c now=((tiltG o x y z s aw a b c now).1,(tiltG o x y z s aw a b c now).2,0):=by
  have hbad:badTi o x y z s aw a b c now=false:=by rw [okTx_eq,h];rfl
  obtain ⟨w1,w2⟩:=okTx_w h
  have hd:=dotW w1 w2
  cases o with
  | false=>rw [← tiltR_1 hbad rfl,← tiltG_0 rfl]
  | true =>
    have e0:((dotR x y z a b c).2 != 0)=false:=by rw [hd];rfl
    cases hl:decide ((toldR (q30 (dot3 x y z a b c))).1≥879557810) with
    | true=>rw [← tiltR_3 hbad rfl e0 (by rw [hd];exact hl),← tiltG_1 rfl hl]
    | false =>
      cases aw with
      | false=>rw [← tiltR_4 hbad rfl e0 (by rw [hd];exact hl) rfl,← tiltG_2 rfl hl rfl]
      | true =>
        cases ht:decide (IntKind.i64.wrap (now-s)≥2000) with
        | true=>rw [← tiltR_5 hbad rfl e0 (by rw [hd];exact hl) rfl ht,← tiltG_3 rfl hl rfl ht]
        | false=>rw [← tiltR_6 hbad rfl e0 (by rw [hd];exact hl) rfl ht,← tiltG_4 rfl hl rfl ht]
theorem tx_off {o:Bool} {x y z s:Int} {aw:Bool} {a b c now:Int} (h:okTx o x y z s aw a b c now=false):tiltR o x y z s aw a b c now=((false,0,0,0,0,false),false,1) :=
  (tiltR_0 (by rw [okTx_eq,h];rfl)).symm
abbrev ckT (p:(Bool × Int × Int × Int × Int × Bool) × Bool × Int) (q:Bool × Int × Int × Int × Int × Bool) (so:Bool) (bad:Int):Bool:=bif bif p.2.2 != bad then true else !eqL (c6 p.1.1 p.1.2.1 p.1.2.2.1 p.1.2.2.2.1 p.1.2.2.2.2.1 p.1.2.2.2.2.2) (c6 q.1 q.2.1 q.2.2.1 q.2.2.2.1 q.2.2.2.2.1 q.2.2.2.2.2) then true else !(p.2.1 == so)
theorem te_1 {o:Bool} {x y z s:Int} {aw:Bool} {a b c now:Int} (h:okTx o x y z s aw a b c now=true):ckT (tiltR o x y z s aw a b c now) (tiltG o x y z s aw a b c now).1 (tiltG o x y z s aw a b c now).2 0=false:=by rw [tx_on h];simp [ckT,eqL,eqV]
theorem te_0 {o:Bool} {x y z s:Int} {aw:Bool} {a b c now:Int} (h:okTx o x y z s aw a b c now=false):ckT (tiltR o x y z s aw a b c now) (false,0,0,0,0,false) false 1=false:=by rw [tx_off h];rfl
section
set_option maxRecDepth 100000
set_option maxHeartbeats 4000000
def g15two:Con Try.prog where
  f:=39
  sem:=fun xs=>match xs with
    | [.sc (.v (.int .i64 v))]=>some (True,.tv (tB (tw v)))
    | _=>none
  ok := by
    intro xs p r' h hp
    refine ⟨⟨_,Try.func39,by kernel_rfl,rfl⟩,fun us w ha=>?_⟩
    split at h
    · rename_i v
      cases h
      refine fn_ret (cxOk Try.prog ints_ok [] []) follows Try.func39 rfl 100 _ rfl (by simp) ?_ ha
      repeat' first
        | exact trivial
        | (refine And.intro (show regChk _ _ _ _ _=true from by kernel_rfl) (And.intro ?_ ?_))
        | (refine And.intro (fun _=>?_) (fun h=>absurd (show true=false from h) (by decide)))
        | (refine And.intro (fun h=>absurd (show false=true from h) (by decide)) (fun _=>?_))
        | (refine And.intro (fun hb=>?_) (fun hb'=>?_))
        | refine And.intro ?_ ?_
        | intro _
      all_goals first
        | (show some (CR.tv (tB _))=some (CR.tv (tB _));exact tB_eq rfl)
        | (show (_:Bool)=(_:Bool);first|assumption|exact beq_iff_eq.2 (by assumption)|(exact and_tt (by first|assumption|exact beq_iff_eq.2 (by assumption)) (by first|assumption|exact beq_iff_eq.2 (by assumption))))
        | (show (_:Nat)=(_:Nat);rfl)
        | (show (_:Nat)≤1000;decide)
        | (show (_:Int)=(_:Int);rfl)
        | (show (_:Int)≤_;decide)
        | (show (_:Int)<_;decide)
        -- PVC
    · cases h
def g15Wide:Con Try.prog where
  f:=18
  sem:=fun xs=>match xs with
    | [.agg [.v (.int .i64 x),.v (.int .i64 y),.v (.int .i64 z)]]=>some (True,.tv (tB (wide3 x y z)))
    | _=>none
  ok := by
    intro xs p r' h hp
    refine ⟨⟨_,Try.func18,by kernel_rfl,rfl⟩,fun us w ha=>?_⟩
    split at h
    · rename_i x y z
      cases h
      refine fn_ret (cxOk Try.prog ints_ok [] [g15two]) follows Try.func18 rfl 100 _ rfl (by simp) ?_ ha
      repeat' first
        | exact trivial
        | (refine And.intro (show regChk _ _ _ _ _=true from by kernel_rfl) (And.intro ?_ ?_))
        | (refine And.intro (fun _=>?_) (fun h=>absurd (show true=false from h) (by decide)))
        | (refine And.intro (fun h=>absurd (show false=true from h) (by decide)) (fun _=>?_))
        | (refine And.intro (fun hb=>?_) (fun hb'=>?_))
        | refine And.intro ?_ ?_
        | intro _
      all_goals first
        | (show some (CR.tv (tB _))=some (CR.tv (tB _));exact tB_eq rfl)
        | (show (_:Bool)=(_:Bool);first|assumption|exact beq_iff_eq.2 (by assumption)|(exact and_tt (by first|assumption|exact beq_iff_eq.2 (by assumption)) (by first|assumption|exact beq_iff_eq.2 (by assumption))))
        | (show (_:Nat)=(_:Nat);rfl)
        | (show (_:Nat)≤1000;decide)
        | (show (_:Int)=(_:Int);rfl)
        | (show (_:Int)≤_;decide)
        | (show (_:Int)<_;decide)
        -- PVC
    · cases h
def g0Time:Con Try.prog where
  f:=19
  sem:=fun xs=>match xs with
    | [.sc (.v (.int .i64 t))]=>some (True,.tv (tB (tmB t)))
    | _=>none
  ok := by
    intro xs p r' h hp
    refine ⟨⟨_,Try.func19,by kernel_rfl,rfl⟩,fun us w ha=>?_⟩
    split at h
    · rename_i t
      cases h
      refine fn_ret (cxOk Try.prog ints_ok [] []) follows Try.func19 rfl 100 _ rfl (by simp) ?_ ha
      repeat' first
        | exact trivial
        | (refine And.intro (show regChk _ _ _ _ _=true from by kernel_rfl) (And.intro ?_ ?_))
        | (refine And.intro (fun _=>?_) (fun h=>absurd (show true=false from h) (by decide)))
        | (refine And.intro (fun h=>absurd (show false=true from h) (by decide)) (fun _=>?_))
        | (refine And.intro (fun hb=>?_) (fun hb'=>?_))
        | refine And.intro ?_ ?_
        | intro _
      all_goals first
        | (show some (CR.tv (tB _))=some (CR.tv (tB _));exact tB_eq rfl)
        | (show (_:Bool)=(_:Bool);first|assumption|exact beq_iff_eq.2 (by assumption)|(exact and_tt (by first|assumption|exact beq_iff_eq.2 (by assumption)) (by first|assumption|exact beq_iff_eq.2 (by assumption))))
        | (show (_:Nat)=(_:Nat);rfl)
        | (show (_:Nat)≤1000;decide)
        | (show (_:Int)=(_:Int);rfl)
        | (show (_:Int)≤_;decide)
        | (show (_:Int)<_;decide)
        -- PVC
    · cases h
def g15May:Con Try.prog where
  f:=17
  sem:=fun xs=>match xs with
    | [.agg [.v (.bool o),.v (.int .i64 x),.v (.int .i64 y),.v (.int .i64 z),.v (.int .i64 s),.v (.bool aw)]]=>some (True,.tv (tB (mayTi o x y z s aw)))
    | _=>none
  ok := by
    intro xs p r' h hp
    refine ⟨⟨_,Try.func17,by kernel_rfl,rfl⟩,fun us w ha=>?_⟩
    split at h
    · rename_i o x y z s aw
      cases h
      refine fn_ret (cxOk Try.prog ints_ok [eqTilt] [g15Wide,g0Time]) follows Try.func17 rfl 100 _ rfl (by simp) ?_ ha
      repeat' first
        | exact trivial
        | (refine And.intro (show regChk _ _ _ _ _=true from by kernel_rfl) (And.intro ?_ ?_))
        | (refine And.intro (fun _=>?_) (fun h=>absurd (show true=false from h) (by decide)))
        | (refine And.intro (fun h=>absurd (show false=true from h) (by decide)) (fun _=>?_))
        | (refine And.intro (fun hb=>?_) (fun hb'=>?_))
        | refine And.intro ?_ ?_
        | intro _
      all_goals first
        | (show some (CR.tv (tB _))=some (CR.tv (tB _));first|exact tB_eq (mayTi_0 (by assumption))|exact tB_eq (mayTi_1 (by assumption)))
        | (show (_:Bool)=(_:Bool);first|assumption|exact beq_iff_eq.2 (by assumption)|(exact and_tt (by first|assumption|exact beq_iff_eq.2 (by assumption)) (by first|assumption|exact beq_iff_eq.2 (by assumption))))
        | (show (_:Nat)=(_:Nat);rfl)
        | (show (_:Nat)≤1000;decide)
        | (show (_:Int)=(_:Int);rfl)
        | (show (_:Int)≤_;decide)
        | (show (_:Int)<_;decide)
        -- PVC
    · cases h
def g15Tilt:Con Try.prog where
  f:=20
  sem:=fun xs=>match xs with
    | [.agg [.v (.bool o),.v (.int .i64 x),.v (.int .i64 y),.v (.int .i64 z),.v (.int .i64 s),.v (.bool aw)],.agg [.v (.int .i64 a),.v (.int .i64 b),.v (.int .i64 c)],.sc (.v (.int .i64 now))]=>some (gV x y z=true∧gV a b c=true,.tv (.tup [(true,[.v (.bool (tiltG o x y z s aw a b c now).1.1),.v (.int .i64 (tiltG o x y z s aw a b c now).1.2.1),.v (.int .i64 (tiltG o x y z s aw a b c now).1.2.2.1),.v (.int .i64 (tiltG o x y z s aw a b c now).1.2.2.2.1),.v (.int .i64 (tiltG o x y z s aw a b c now).1.2.2.2.2.1),.v (.bool (tiltG o x y z s aw a b c now).1.2.2.2.2.2)]),(false,[.v (.bool (tiltG o x y z s aw a b c now).2)])]))
    | _=>none
  ok := by
    intro xs p r' h hp
    refine ⟨⟨_,Try.func20,by kernel_rfl,rfl⟩,fun us w ha=>?_⟩
    split at h
    · rename_i o x y z s aw a b c now
      cases h
      refine fn_ret (cxOk Try.prog intsR_ok [] [g3Dot]) follows Try.func20 rfl 100 _ rfl (by simp) ?_ ha
      repeat' first
        | exact trivial
        | (refine And.intro (show regChk _ _ _ _ _=true from by kernel_rfl) (And.intro ?_ ?_))
        | (refine And.intro (fun _=>?_) (fun h=>absurd (show true=false from h) (by decide)))
        | (refine And.intro (fun h=>absurd (show false=true from h) (by decide)) (fun _=>?_))
        | (refine And.intro (fun hb=>?_) (fun hb'=>?_))
        | refine And.intro ?_ ?_
      all_goals first
        | exact hp.1
        | exact hp.2
        | (show some (CR.tv (.tup _))=some (CR.tv (.tup _));first|exact tg_eq (tiltG_0 (by assumption))|exact tg_eq (tiltG_1 (by assumption) (by assumption))|exact tg_eq (tiltG_2 (by assumption) (by assumption) (by assumption))|exact tg_eq (tiltG_3 (by assumption) (by assumption) (by assumption) (by assumption))|exact tg_eq (tiltG_4 (by assumption) (by assumption) (by assumption) (by assumption)))
        | (show (_:Nat)=(_:Nat);rfl)
        | (show (_:Nat)≤1000;decide)
        | (show (_:Int)=(_:Int);rfl)
        | (show (_:Int)≤_;decide)
        | (show (_:Int)<_;decide)
        -- PVC
    · cases h
abbrev row_tiltExact (ob aw:Nat→Bool) (x y z s a b c nw:Nat→Int):Nat→List A0:=fun j=>[.v (.bool (ob j)),.v (.int .i64 (x j)),.v (.int .i64 (y j)),.v (.int .i64 (z j)),.v (.int .i64 (s j)),.v (.bool (aw j)),.v (.int .i64 (a j)),.v (.int .i64 (b j)),.v (.int .i64 (c j)),.v (.int .i64 (nw j))]
theorem tiltExact_law (n:Nat) (ob aw:Nat→Bool) (x y z s a b c nw:Nat→Int) (hW:∀ j,I64 (x j)∧I64 (y j)∧I64 (z j)∧I64 (s j)∧I64 (a j)∧I64 (b j)∧I64 (c j)∧I64 (nw j)) {us:List Value} {w:World} (hargs:All2 (TV.reads (fun _=>0) w.heap.size w) [.rowF n 10 (row_tiltExact ob aw x y z s a b c nw)] us):Ret Try.prog 4 us.toArray w (.tv (tB true)):=by
  refine fnl_ret (lawL 10 n (row_tiltExact ob aw x y z s a b c nw) 2) (cxOk Try.prog intsR_ok [eqTilt] [g15May,g15Wide,g0Time,g15Tilt,cTilt,cNum19,cWakes19]) follows Try.func4 rfl 300 _ rfl (by simp) ?_ hargs
  repeat' first
    | exact trivial
    | (refine And.intro (show regChk _ _ _ _ _=true from by kernel_rfl) (And.intro ?_ ?_))
    | (refine And.intro (fun _=>?_) (fun h=>absurd (show true=false from h) (by decide)))
    | (refine And.intro (fun h=>absurd (show false=true from h) (by decide)) (fun _=>?_))
    | (have:=hA;refine And.intro (fun hb=>?_) (fun hb'=>?_))
    | (have:=hC;refine And.intro (fun hA=>?_) (fun hA=>?_))
    | refine And.intro (fun hC=>?_) (fun hC=>?_)
    | refine And.intro ?_ ?_
    | (intro v hv)
    | intro _
  all_goals first
    | (show wfB _ _=true;rfl)
    | (show (_:Bool)=true;assumption)
    | (show (_:Bool)=true;exact beq_iff_eq.2 (by assumption))
    | (show gV (x v.toNat) (y v.toNat) (z v.toNat)=true;exact wide_gV (okTx_w (show okTx (ob v.toNat) (x v.toNat) (y v.toNat) (z v.toNat) (s v.toNat) (aw v.toNat) (a v.toNat) (b v.toNat) (c v.toNat) (nw v.toNat)=true from hA)).1)
    | (show gV (a v.toNat) (b v.toNat) (c v.toNat)=true;exact wide_gV (okTx_w (show okTx (ob v.toNat) (x v.toNat) (y v.toNat) (z v.toNat) (s v.toNat) (aw v.toNat) (a v.toNat) (b v.toNat) (c v.toNat) (nw v.toNat)=true from hA)).2)
    | (show (0:Int)≤v;exact hv.1)
    | (show v<(n:Int);exact (hC1 hC).1)
    | (exact ⟨0,⟨Int.le_refl _,Int.natCast_nonneg _⟩,⟨rfl,rfl,rfl,trivial⟩,trivial⟩)
    | (exact ⟨IntKind.i64.wrap (v+1),(stepL hv hC (by decide)).1,(stepL hv hC (by decide)).2,⟨rfl,rfl,rfl,trivial⟩,trivial⟩)
    | (show some (CR.tv (tB true))=some (CR.tv (tB true));rfl)
    | (show some (CR.tv (tB false))=some (CR.tv (tB true));exfalso;first|exact no (te_1 (o:=ob v.toNat) (x:=x v.toNat) (y:=y v.toNat) (z:=z v.toNat) (s:=s v.toNat) (aw:=aw v.toNat) (a:=a v.toNat) (b:=b v.toNat) (c:=c v.toNat) (now:=nw v.toNat) hA) (by assumption)|exact no (te_0 (o:=ob v.toNat) (x:=x v.toNat) (y:=y v.toNat) (z:=z v.toNat) (s:=s v.toNat) (aw:=aw v.toNat) (a:=a v.toNat) (b:=b v.toNat) (c:=c v.toNat) (now:=nw v.toNat) hA) (by assumption))
    -- PVC
abbrev ks_tiltExact:List (Option IntKind):=[none,some .i64,some .i64,some .i64,some .i64,none,some .i64,some .i64,some .i64,some .i64]
theorem tiltExact_row (n:Nat) (f:Nat→List Value) (hf:∀ j,okV ks_tiltExact (f j)) {us:List Value} {w:World} (hargs:All2 (TV.reads (fun _=>0) w.heap.size w) [.rowF n 10 (fun j=>cellsG f j 0 ks_tiltExact)] us):Ret Try.prog 4 us.toArray w (.tv (tB true)) :=
  tiltExact_law n (gB f 0) (gB f 5) (gI f 1) (gI f 2) (gI f 3) (gI f 4) (gI f 6) (gI f 7) (gI f 8) (gI f 9) (fun j=>⟨gI_i64 (hf j) rfl,gI_i64 (hf j) rfl,gI_i64 (hf j) rfl,gI_i64 (hf j) rfl,gI_i64 (hf j) rfl,gI_i64 (hf j) rfl,gI_i64 (hf j) rfl,gI_i64 (hf j) rfl⟩) hargs
end
end Go.Proofs.Ytonelbidndjhdaa.Wh
end
section
namespace Go.Proofs.Ytonelbidndjhdaa.tiltExact
open Go.ChangeShapes Go.WideShapes Go.ChangeAt RowKit YtonelbidndjhdaaW.PrintWords YtonelbidndjhdaaW.Sx Ytonelbidndjhdaa.Wh
set_option linter.unusedVariables false
theorem own:ownKnob Try.prog.godebug=none:=by kernel_rfl
theorem laidOut:laidOutB Try.prog=true:=by kernel_rfl
theorem cells:lvs Try.prog true 30 29=some [none,some .i64,some .i64,some .i64,some .i64,none,some .i64,some .i64,some .i64,some .i64]:=by kernel_rfl
set_option maxRecDepth 100000 in
theorem lifted (os:Os) (started:os.Started) (H:Type) (enc:TypeId × Value→H) :
    ReturnsInHanded {} Try.checked os 4 .any (Rows.tiltExactSpec.pre6 enc Try.prog Try.f4 Rows.tiltExactRow.domain false) (Rows.tiltExactSpec.post enc Try.prog Try.f4 false true false false):=by
  refine returnsInHanded_of_change_sized (C:=Try.checked) own started (by kernel_rfl) Try.func4
    (ChangeSpec.witness6 (enc:=enc) (C:=Try.checked) false ⟨#[],#[.slice none 0 0],[]⟩ 8 (by kernel_rfl) (by kernel_rfl) (by kernel_rfl) (by kernel_rfl)) ?_
  intro W base args ds gs before hval0 hW hcnd hsz0 _
  have hval:∀ (j:Nat) t v,Try.f4.params[j]?=some t→args[j]?=some v→Value.okWide Try.prog W .any base t v:=hval0
  have hW':=hW
  obtain ⟨p,q,hA0,hV,rfl,hfz,hnd⟩:=hW
  have hA:DataW.TrodAll enc Try.prog W 0 (fun _=>true) true Try.f4.params.toList args.toList ds p:=hA0
  rw [Try.params4] at hA hval
  obtain ⟨v0,vs0,d0,ds0,p0,q0,hargs,rfl,rfl,h0,r0⟩:=trodAll_cons hA
  obtain ⟨rfl,rfl,rfl⟩:=trodAll_nil r0
  obtain rfl:args=#[v0]:=by cases args;simp_all
  obtain ⟨rfl,rfl⟩:=trodVars_none hV
  have k0:=h0
  have lt0:∀ x∈p0,x.block<W.heap.size:=by obtain ⟨m,hm⟩:=k0;exact DataW.trod_lt m _ _ _ hm
  have hv0:=hval 0 22 v0 rfl rfl
  obtain ⟨a0,len0,cap0,rfl⟩:=okWide_slice Try.underlying22 hv0
  obtain ⟨f,hf,hr⟩:=row_of Try.underlying22 cells (by decide) h0
  clear hA0 hval0 hsz0
  refine Calls.mono (tiltExact_row len0 f hf (us:=[_]) (.cons (hr _) .nil)) fun e W' hpost=>?_
  obtain ⟨u,rfl,hu,bel⟩:=hpost
  obtain rfl:u = .bool true:=hu
  exact ⟨_,rfl,_,_,_,[],_,[],hW',trodAll_mk1 (shut_bool Try.underlying4 _),(trodAll_cons_mk (Below.trod laidOut (by kernel_rfl) (of_decide_eq_true (by kernel_rfl)) k0 bel lt0) trodAll_mk0),rfl,bel.frame _,fun h=>by cases h⟩
theorem over:Rows.tiltExactRow.holds Try.pinned (OpenSpec.ofChange Rows.tiltExactSpec) :=
  OpenClaim.holds_of_wide 4 Try.f4 rfl rfl rfl rfl rfl rfl rfl ⟨rfl,rfl,rfl,rfl,rfl⟩ rfl rfl rfl rfl rfl (by kernel_rfl) Try.func4 (by kernel_rfl)
    (of_decide_eq_true (by kernel_rfl)) (by unfold Func.isWrapper;first|(rw [if_pos (by decide +kernel)];kernel_rfl)|(rw [if_neg (by decide +kernel)];exact ⟨rfl,rfl⟩))
    (fun os started H enc _=>lifted os started H enc)
theorem proved:Rows.TiltExactSaid:=over
end Go.Proofs.Ytonelbidndjhdaa.tiltExact
namespace Go.Proofs.Ytonelbidndjhdaa
theorem tiltExact_holds:Rows.TiltExactSaid:=tiltExact.proved
end Go.Proofs.Ytonelbidndjhdaa
end
