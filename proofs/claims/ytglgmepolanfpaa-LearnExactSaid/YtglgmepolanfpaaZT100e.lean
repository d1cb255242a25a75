/- The row of LearnExact, out of its law by the reckoner: for every argument that reads as data the call returns true and leaves the argument as it was. -/
import Derived.Test.YtglgmepolanfpaaZT100d
import Derived.Test.YtglgmepolanfpaaRows
import Derived.WalkKit
import Derived.ProofKit
import Derived.OpenShut
import Derived.ShutString
import Derived.ChangeOld
import Derived.Below
import Derived.SizedLaws
import Derived.Carry
section
set_option linter.unusedVariables false
set_option linter.unusedSimpArgs false
namespace Go.Proofs.Ytglgmepolanfpaa.Wh
open Go Go.RowKit Go.Proofs.YtglgmepolanfpaaW.PrintWords Go.Proofs.YtglgmepolanfpaaW.PrintMore Go.Proofs.YtglgmepolanfpaaW.Aid Go.Proofs.YtglgmepolanfpaaW.Big Go.Proofs.YtglgmepolanfpaaW.Sx Go.Proofs.Ytglgmepolanfpaa.BitsWalk Go.Proofs.Ytglgmepolanfpaa.Limbs Go.Proofs.Ytglgmepolanfpaa.Whole Go.Proofs.Ytglgmepolanfpaa.R90 Go.Proofs.Ytglgmepolanfpaa.QN90 Go.Proofs.Ytglgmepolanfpaa.FxWalk Go.Proofs
abbrev tRat (x d:Int):TV := .agg [.neg x,.mag x,.mag d]
def gcdI (n d:Int):Int:=((Nat.gcd n.natAbs d.natAbs:Nat):Int)
theorem rat_eq {x d x' d':Int} (h:x=x') (h':d=d'):(some (CR.tv (tRat x d)):Option CR)=some (CR.tv (tRat x' d')):=by rw [h,h']
theorem ofS_false {d:Int} (h:0≤d):ofS false d.natAbs=d:=by
  show ((d.natAbs:Nat):Int)=d
  omega
theorem gcd_pos (n:Nat) {d:Int} (h:0<d):0<Nat.gcd n d.natAbs:=Nat.gcd_pos_of_pos_right _ (by omega)
theorem gcdI_pos (n:Int) {d:Int} (h:0<d):0<gcdI n d:=by
  have:=gcd_pos n.natAbs h
  unfold gcdI;omega
theorem make_num {n:Int} {g:Nat} (h:g∣n.natAbs) (hg:0<g):ofS (sgn n) (n.natAbs/g)=n/(g:Int):=by
  obtain ⟨q,hq⟩:=h
  rw [hq,Nat.mul_div_cancel_left _ hg]
  cases hs:sgn n with
  | true =>
    have hn:=sgn_t hs
    have e:n=(g:Int)*(-(q:Int)):=by rw [Int.mul_neg,← Int.natCast_mul,← hq];omega
    rw [e,Int.mul_ediv_cancel_left _ (by omega)]
    rfl
  | false =>
    have hn:=sgn_f hs
    have e:n=(g:Int)*(q:Int):=by rw [← Int.natCast_mul,← hq];omega
    rw [e,Int.mul_ediv_cancel_left _ (by omega)]
    rfl
theorem make_den {d:Int} {g:Nat} (h:0≤d):((d.natAbs/g:Nat):Int)=d/(g:Int):=by rw [Int.natCast_ediv,Int.natAbs_of_nonneg h]
theorem gcdI_n (n d:Int):∃ q,n=gcdI n d*q:=by
  obtain ⟨q,hq⟩:=Nat.gcd_dvd_left n.natAbs d.natAbs
  rcases Int.le_total 0 n with h|h
  · exact ⟨q,by unfold gcdI;rw [← Int.natCast_mul,← hq];omega⟩
  · exact ⟨-(q:Int),by unfold gcdI;rw [Int.mul_neg,← Int.natCast_mul,← hq];omega⟩
theorem gcdI_d (n:Int) {d:Int} (h:0≤d):∃ q,d=gcdI n d*q:=by
  obtain ⟨q,hq⟩:=Nat.gcd_dvd_right n.natAbs d.natAbs
  exact ⟨q,by unfold gcdI;rw [← Int.natCast_mul,← hq];omega⟩
theorem round_gcd (n:Int) {d:Int} (h:0<d):roundP (n/gcdI n d) (d/gcdI n d)=roundP n d∧0<d/gcdI n d:=by
  have hg:=gcdI_pos n h
  obtain ⟨q,hq⟩:=gcdI_n n d
  obtain ⟨r,hr⟩:=gcdI_d n (Int.le_of_lt h)
  generalize gcdI n d=g at *
  subst hq hr
  rw [Int.mul_ediv_cancel_left _ (by omega),Int.mul_ediv_cancel_left _ (by omega)]
  have hr0:0<r:=by
    by_cases h1:0<r
    · exact h1
    · have:=Int.mul_le_mul_of_nonneg_left (show r≤0 by omega) (Int.le_of_lt hg)
      rw [Int.mul_zero] at this;omega
  exact ⟨(roundP_scale hg hr0).symm,hr0⟩
theorem near_cases (x:Int) {d:Int} (hd:0<d):(2*(x%d)<d∧x*2/d=2*(x/d)∧x*2%d=2*(x%d))∨(d≤2*(x%d)∧x*2/d=2*(x/d)+1∧x*2%d=2*(x%d)-d):=by
  have e:=Int.emod_add_mul_ediv x d
  have h0:=Int.emod_nonneg x (by omega:d≠0)
  have h1:=Int.emod_lt_of_pos x hd
  generalize x%d=m at *
  generalize x/d=q at *
  by_cases h:2*m<d
  · left
    have e2:x*2=2*m+d*(2*q):=by rw [show d*(2*q)=2*(d*q) by rw [← Int.mul_assoc,Int.mul_comm d 2,Int.mul_assoc]];omega
    refine ⟨h,?_,?_⟩
    · rw [e2,Int.add_mul_ediv_left _ _ (by omega),Int.ediv_eq_zero_of_lt (by omega) h];omega
    · rw [e2,Int.add_mul_emod_self_left,Int.emod_eq_of_lt (by omega) h]
  · right
    have e2:x*2=(2*m-d)+d*(2*q+1):=by rw [Int.mul_add,show d*(2*q)=2*(d*q) by rw [← Int.mul_assoc,Int.mul_comm d 2,Int.mul_assoc]];omega
    refine ⟨by omega,?_,?_⟩
    · rw [e2,Int.add_mul_ediv_left _ _ (by omega),Int.ediv_eq_zero_of_lt (by omega) (by omega)];omega
    · rw [e2,Int.add_mul_emod_self_left,Int.emod_eq_of_lt (by omega) (by omega)]
theorem cmpI_zero {x y:Int}:cmpI x y=0↔x=y:=by
  unfold cmpI
  split
  · constructor<;>intro h<;>omega
  · split
    · constructor<;>intro h<;>omega
    · constructor<;>intro h<;>omega
theorem near_even {x d:Int} (hd:0<d) (h:(!(cmpI (x*2 ^ Int.toNat 1/ofS false d.natAbs/2 ^ Int.toNat 1*2 ^ Int.toNat 1) (x*2 ^ Int.toNat 1/ofS false d.natAbs) != 0))=true):x*2 ^ Int.toNat 1/ofS false d.natAbs/2 ^ Int.toNat 1=roundP x d:=by
  rw [ofS_false (Int.le_of_lt hd)] at *
  have h2:(2:Int) ^ Int.toNat 1=2:=rfl
  rw [h2] at *
  have h3:cmpI (x*2/d/2*2) (x*2/d)=0:=by simpa using h
  rw [cmpI_zero] at h3
  unfold roundP
  rcases near_cases x hd with ⟨a,b,c⟩|⟨a,b,c⟩
  · rw [b,if_neg (by omega)];omega
  · rw [b] at h3;omega
theorem near_up {x d:Int} (hd:0<d) (h:(!(cmpI (x*2 ^ Int.toNat 1/ofS false d.natAbs/2 ^ Int.toNat 1*2 ^ Int.toNat 1) (x*2 ^ Int.toNat 1/ofS false d.natAbs) != 0))=false) (hr:(!decide (x*2 ^ Int.toNat 1%ofS false d.natAbs=0))=true):x*2 ^ Int.toNat 1/ofS false d.natAbs/2 ^ Int.toNat 1+1=roundP x d:=by
  rw [ofS_false (Int.le_of_lt hd)] at *
  have h2:(2:Int) ^ Int.toNat 1=2:=rfl
  rw [h2] at *
  have h3:¬ cmpI (x*2/d/2*2) (x*2/d)=0:=by simpa using h
  rw [cmpI_zero] at h3
  have h4:¬ x*2%d=0:=by simpa using hr
  unfold roundP
  rcases near_cases x hd with ⟨a,b,c⟩|⟨a,b,c⟩
  · rw [b] at h3;omega
  · rw [b,if_pos (by omega)];omega
theorem near_tie {x d:Int} (hd:0<d) (h:(!(cmpI (x*2 ^ Int.toNat 1/ofS false d.natAbs/2 ^ Int.toNat 1*2 ^ Int.toNat 1) (x*2 ^ Int.toNat 1/ofS false d.natAbs) != 0))=false) (hr:(!decide (x*2 ^ Int.toNat 1%ofS false d.natAbs=0))=false) {b:Bool}
    (hc:(cmpI (x*2 ^ Int.toNat 1/ofS false d.natAbs/2 ^ Int.toNat 1/2 ^ Int.toNat 1*2 ^ Int.toNat 1) (x*2 ^ Int.toNat 1/ofS false d.natAbs/2 ^ Int.toNat 1) == 0)=b) :
    x*2 ^ Int.toNat 1/ofS false d.natAbs/2 ^ Int.toNat 1+(if b then 0 else 1)=roundP x d:=by
  rw [ofS_false (Int.le_of_lt hd)] at h hr hc ⊢
  have h2:(2:Int) ^ Int.toNat 1=2:=rfl
  simp only [h2] at h hr hc ⊢
  have h3:¬ cmpI (x*2/d/2*2) (x*2/d)=0:=by simpa using h
  rw [cmpI_zero] at h3
  have h4:x*2%d=0:=by simpa using hr
  unfold roundP
  rcases near_cases x hd with ⟨a,b',c⟩|⟨a,b',c⟩
  · rw [b'] at h3;omega
  · rw [b'] at hc ⊢
    have e:(2*(x/d)+1)/2=x/d:=by omega
    rw [e] at hc ⊢
    cases b with
    | true =>
      have h5:=cmpI_zero.1 (beq_iff_eq.1 hc)
      rw [if_pos rfl,if_neg (by omega)];omega
    | false =>
      have h5:¬ x/d/2*2=x/d:=fun e=>by
        have:=cmpI_zero.2 e
        rw [this] at hc;cases hc
      rw [if_neg (by decide),if_pos (by omega)]
theorem near_t1 {x d:Int} (hd:0<d) (h:(!(cmpI (x*2 ^ Int.toNat 1/ofS false d.natAbs/2 ^ Int.toNat 1*2 ^ Int.toNat 1) (x*2 ^ Int.toNat 1/ofS false d.natAbs) != 0))=false) (hr:(!decide (x*2 ^ Int.toNat 1%ofS false d.natAbs=0))=false)
    (hc:(cmpI (x*2 ^ Int.toNat 1/ofS false d.natAbs/2 ^ Int.toNat 1/2 ^ Int.toNat 1*2 ^ Int.toNat 1) (x*2 ^ Int.toNat 1/ofS false d.natAbs/2 ^ Int.toNat 1) == 0)=true) :
    x*2 ^ Int.toNat 1/ofS false d.natAbs/2 ^ Int.toNat 1=roundP x d:=by
  have:=near_tie hd h hr hc
  rwa [if_pos rfl,Int.add_zero] at this
theorem near_t0 {x d:Int} (hd:0<d) (h:(!(cmpI (x*2 ^ Int.toNat 1/ofS false d.natAbs/2 ^ Int.toNat 1*2 ^ Int.toNat 1) (x*2 ^ Int.toNat 1/ofS false d.natAbs) != 0))=false) (hr:(!decide (x*2 ^ Int.toNat 1%ofS false d.natAbs=0))=false)
    (hc:(cmpI (x*2 ^ Int.toNat 1/ofS false d.natAbs/2 ^ Int.toNat 1/2 ^ Int.toNat 1*2 ^ Int.toNat 1) (x*2 ^ Int.toNat 1/ofS false d.natAbs/2 ^ Int.toNat 1) == 0)=false) :
    x*2 ^ Int.toNat 1/ofS false d.natAbs/2 ^ Int.toNat 1+1=roundP x d:=by
  have:=near_tie hd h hr hc
  rwa [if_neg (by decide)] at this
section
set_option maxRecDepth 100000
set_option maxHeartbeats 1000000
def qMake:Con Try.prog where
  f:=63
  sem:=fun xs=>match xs with
    | [.agg [.neg n,.mag n'],.sc (.mag d)]=>some (n'=n∧0<d∧BI 8000 n∧BI 8000 d,.tv (tRat (n/gcdI n d) (d/gcdI n d)))
    | _=>none
  ok := by
    intro xs p r' h hp
    refine ⟨⟨_,Try.func63,by kernel_rfl,rfl⟩,fun us w ha=>?_⟩
    split at h
    · rename_i n n' d
      cases h
      obtain ⟨rfl,h0,hn,hd⟩:=hp
      have gp:=gcd_pos n'.natAbs h0
      have gl:B 8000 (Nat.gcd n'.natAbs d.natAbs):=B.le hd (Nat.gcd_le_right _ (by omega))
      refine fn_ret (cxOk Try.prog intsR_ok [] [cNGcd,cNDivide,rMade]) follows Try.func63 rfl 100 _ rfl (by simp) ?_ ha
      repeat' first
        | exact trivial
        | (refine And.intro (show regChk _ _ _ _ _=true from by kernel_rfl) (And.intro ?_ ?_))
        | (refine And.intro (fun _=>?_) (fun h=>absurd (show true=false from h) (by decide)))
        | (refine And.intro (fun h=>absurd (show false=true from h) (by decide)) (fun _=>?_))
        | (refine And.intro (fun hb=>?_) (fun hb'=>?_))
        | refine And.intro ?_ ?_
        | intro _
      all_goals first
        | (show (_:Int)=(_:Int);rfl)
        | (show (_:Bool)=(_:Bool);first|assumption|exact beq_iff_eq.2 (by assumption)|exact g2 (by assumption) (by assumption))
        | (show B _ _;first|exact B.mono hn (by decide)|exact B.mono hd (by decide)|exact B.mono gl (by decide))
        | (show 0<Int.natAbs _;exact gp)
        | (show some (CR.tv (tRat _ _))=some (CR.tv (tRat _ _));exact rat_eq (by simp only [Int.natAbs_natCast];exact make_num (Nat.gcd_dvd_left _ _) gp) (by simp only [Int.natAbs_natCast];exact make_den (Int.le_of_lt h0)))
        -- PVC
    · cases h
def qNear:Con Try.prog where
  f:=62
  sem:=fun xs=>match xs with
    | [.agg [.neg x,.mag x',.mag d]]=>some (x'=x∧0<d∧BI 8000 x∧BI 8000 d,.tv (tI (roundP x d)))
    | _=>none
  ok := by
    intro xs p r' h hp
    refine ⟨⟨_,Try.func62,by kernel_rfl,rfl⟩,fun us w ha=>?_⟩
    split at h
    · rename_i x x' d
      cases h
      obtain ⟨rfl,h0,hn,hd⟩:=hp
      have b1:BI 8001 (x'*2 ^ Int.toNat 1):=BI.shl 1 hn (by decide)
      have b2:BI 8000 (ofS false d.natAbs):=by rw [ofS_false (Int.le_of_lt h0)];exact hd
      have b3:BI 8001 (x'*2 ^ Int.toNat 1/ofS false d.natAbs):=b1.div _
      have b4:BI 8001 (x'*2 ^ Int.toNat 1/ofS false d.natAbs/2 ^ Int.toNat 1):=b3.div _
      have b5:BI 8002 (x'*2 ^ Int.toNat 1/ofS false d.natAbs/2 ^ Int.toNat 1*2 ^ Int.toNat 1):=BI.shl 1 b4 (by decide)
      have b6:BI 8002 (x'*2 ^ Int.toNat 1/ofS false d.natAbs/2 ^ Int.toNat 1/2 ^ Int.toNat 1*2 ^ Int.toNat 1):=BI.shl 1 (b4.div _) (by decide)
      refine fn_ret (cxOk Try.prog intsR_ok [] [rMade,rDivide,rLeft,rRight,rCmp,rPlus,rFrom,rZero]) follows Try.func62 rfl 100 _ rfl (by simp) ?_ ha
      repeat' first
        | exact trivial
        | (refine And.intro (show regChk _ _ _ _ _=true from by kernel_rfl) (And.intro ?_ ?_))
        | (refine And.intro (fun _=>?_) (fun h=>absurd (show true=false from h) (by decide)))
        | (refine And.intro (fun h=>absurd (show false=true from h) (by decide)) (fun _=>?_))
        | (refine And.intro (fun hb=>?_) (fun hb'=>?_))
        | refine And.intro ?_ ?_
        | intro _
      all_goals first
        | (show (_:Int)=(_:Int);rfl)
        | (show (_:Bool)=(_:Bool);first|assumption|exact beq_iff_eq.2 (by assumption)|exact g2 (by assumption) (by assumption))
        | (show (-9223372036854775808:Int)≤0;decide)
        | (show (-9223372036854775808:Int)≤1;decide)
        | (show (0:Int)<9223372036854775808;decide)
        | (show (1:Int)<9223372036854775808;decide)
        | (show (0:Int)≤1;decide)
        | (show (1:Int)≤6400;decide)
        | (show (1:Int)<18446744073709551616;decide)
        | (show (0:Int)≤2;decide)
        | (show (2:Int)<18446744073709551616;decide)
        | (show (0:Int)≤30;decide)
        | (show (30:Int)≤6400;decide)
        | (show (2:Int)=2;rfl)
        | (show (_:Nat)=(_:Nat);rfl)
        | (show (0:Int)<ofS _ _;rw [ofS_false (Int.le_of_lt h0)];exact h0)
        | (show BI _ _;first|exact BI.mono hn (by decide)|exact BI.mono b2 (by decide)|exact BI.mono BI.one (by decide)|exact BI.mono b3 (by decide)|exact BI.mono b4 (by decide)|exact BI.mono b5 (by decide)|exact BI.mono (b4.div _) (by decide)|exact BI.mono b6 (by decide)|exact BI.mono b1 (by decide))
        | (show some (CR.tv (tI _))=some (CR.tv (tI _));first|exact wh_eq (near_even h0 (by assumption))|exact wh_eq (near_up h0 (by assumption) (by assumption))|exact wh_eq (near_t1 h0 (by assumption) (by assumption) (by assumption))|exact wh_eq (near_t0 h0 (by assumption) (by assumption) (by assumption)))
        -- PVC
    · cases h
end
end Go.Proofs.Ytglgmepolanfpaa.Wh
end
section
set_option linter.unusedVariables false
set_option linter.unusedSimpArgs false
namespace Go.Proofs.Ytglgmepolanfpaa.Wh
open Go Go.RowKit Go.Proofs.YtglgmepolanfpaaW.PrintWords Go.Proofs.YtglgmepolanfpaaW.PrintMore Go.Proofs.YtglgmepolanfpaaW.Aid Go.Proofs.YtglgmepolanfpaaW.Big Go.Proofs.YtglgmepolanfpaaW.Sx Go.Proofs.Ytglgmepolanfpaa.BitsWalk Go.Proofs.Ytglgmepolanfpaa.Limbs Go.Proofs.Ytglgmepolanfpaa.Whole Go.Proofs.Ytglgmepolanfpaa.FxWalk Go.Proofs
abbrev wiG (v m:Int):Bool:=bif decide (v>IntKind.i64.wrap (0-m)) then decide (v<m) else false
abbrev allG (x y z m:Int):Bool:=bif bif wiG x m then wiG y m else false then wiG z m else false
abbrev nrM (n:Int):Int:=(((IntKind.u64.wrap n).toNat:Nat):Int)
theorem nrM_eq {n:Int} (h:0<n) (h':n<9223372036854775808):nrM n=n:=by unfold nrM;rw [u64_id (by omega) (by omega)];omega
theorem near_res {s n:Int} (hs:I64 s) (h:0<n) (h':n<9223372036854775808):(smallI (roundP (s/gcdI s (nrM n)) (nrM n/gcdI s (nrM n)))).1=roundI s n:=by
  rw [nrM_eq h h',(round_gcd s h).1,ri_p h]
  have h1:roundP s n≤9223372036854775807:=rp_le h (by
    have:=Int.mul_le_mul_of_nonneg_right (show 1≤n by omega) (show (0:Int)≤9223372036854775807 by decide)
    have:=hs.2;omega)
  have h2 : -9223372036854775808≤roundP s n:=le_rp h (by
    have:=Int.mul_le_mul_of_nonneg_right (show 1≤n by omega) (show (0:Int)≤9223372036854775808 by decide)
    rw [Int.mul_neg]
    have:=hs.1;omega)
  rw [small_yes ⟨h2,h1⟩]
section
set_option maxRecDepth 100000
set_option maxHeartbeats 4000000
def g10within:Con Try.prog where
  f:=72
  sem:=fun xs=>match xs with
    | [.sc (.v (.int .i64 v)),.sc (.v (.int .i64 m))]=>some (True,.tv (tB (wiG v m)))
    | _=>none
  ok := by
    intro xs p r' h hp
    refine ⟨⟨_,Try.func72,by kernel_rfl,rfl⟩,fun us w ha=>?_⟩
    split at h
    · rename_i v m
      cases h
      refine fn_ret (cxOk Try.prog ints_ok [] []) follows Try.func72 rfl 100 _ rfl (by simp) ?_ ha
      repeat' first
        | exact trivial
        | (refine And.intro (show regChk _ _ _ _ _=true from by kernel_rfl) (And.intro ?_ ?_))
        | (refine And.intro (fun _=>?_) (fun h=>absurd (show true=false from h) (by decide)))
        | (refine And.intro (fun h=>absurd (show false=true from h) (by decide)) (fun _=>?_))
        | (refine And.intro (fun hb=>?_) (fun hb'=>?_))
        | refine And.intro ?_ ?_
        | intro _
      all_goals first
        | (show some (CR.tv (tB _))=some (CR.tv (tB _));exact tB_eq rfl)
        | (show (_:Bool)=(_:Bool);first|assumption|exact beq_iff_eq.2 (by assumption)|(exact and_tt (by first|assumption|exact beq_iff_eq.2 (by assumption)) (by first|assumption|exact beq_iff_eq.2 (by assumption))))
        | (show (_:Nat)=(_:Nat);rfl)
        | (show (_:Nat)≤1000;decide)
        | (show (_:Int)=(_:Int);rfl)
        | (show (_:Int)≤_;decide)
        | (show (_:Int)<_;decide)
        -- PVC
    · cases h
def g10all:Con Try.prog where
  f:=41
  sem:=fun xs=>match xs with
    | [.agg [.v (.int .i64 x),.v (.int .i64 y),.v (.int .i64 z)],.sc (.v (.int .i64 m))]=>some (True,.tv (tB (allG x y z m)))
    | _=>none
  ok := by
    intro xs p r' h hp
    refine ⟨⟨_,Try.func41,by kernel_rfl,rfl⟩,fun us w ha=>?_⟩
    split at h
    · rename_i x y z m
      cases h
      refine fn_ret (cxOk Try.prog ints_ok [] [g10within]) follows Try.func41 rfl 100 _ rfl (by simp) ?_ ha
      repeat' first
        | exact trivial
        | (refine And.intro (show regChk _ _ _ _ _=true from by kernel_rfl) (And.intro ?_ ?_))
        | (refine And.intro (fun _=>?_) (fun h=>absurd (show true=false from h) (by decide)))
        | (refine And.intro (fun h=>absurd (show false=true from h) (by decide)) (fun _=>?_))
        | (refine And.intro (fun hb=>?_) (fun hb'=>?_))
        | refine And.intro ?_ ?_
        | intro _
      all_goals first
        | (show some (CR.tv (tB _))=some (CR.tv (tB _));exact tB_eq rfl)
        | (show (_:Bool)=(_:Bool);first|assumption|exact beq_iff_eq.2 (by assumption)|(exact and_tt (by first|assumption|exact beq_iff_eq.2 (by assumption)) (by first|assumption|exact beq_iff_eq.2 (by assumption))))
        | (show (_:Nat)=(_:Nat);rfl)
        | (show (_:Nat)≤1000;decide)
        | (show (_:Int)=(_:Int);rfl)
        | (show (_:Int)≤_;decide)
        | (show (_:Int)<_;decide)
        -- PVC
    · cases h
def g10plus:Con Try.prog where
  f:=43
  sem:=fun xs=>match xs with
    | [.agg [.v (.int .i64 x),.v (.int .i64 y),.v (.int .i64 z)],.agg [.v (.int .i64 a),.v (.int .i64 b),.v (.int .i64 c)]]=>some (True,.tv (.agg [.v (.int .i64 (IntKind.i64.wrap (x+a))),.v (.int .i64 (IntKind.i64.wrap (y+b))),.v (.int .i64 (IntKind.i64.wrap (z+c)))]))
    | _=>none
  ok := by
    intro xs p r' h hp
    refine ⟨⟨_,Try.func43,by kernel_rfl,rfl⟩,fun us w ha=>?_⟩
    split at h
    · rename_i x y z a b c
      cases h
      refine fn_ret (cxOk Try.prog ints_ok [] []) follows Try.func43 rfl 100 _ rfl (by simp) ?_ ha
      repeat' first
        | exact trivial
        | (refine And.intro (show regChk _ _ _ _ _=true from by kernel_rfl) (And.intro ?_ ?_))
        | (refine And.intro (fun _=>?_) (fun h=>absurd (show true=false from h) (by decide)))
        | (refine And.intro (fun h=>absurd (show false=true from h) (by decide)) (fun _=>?_))
        | (refine And.intro (fun hb=>?_) (fun hb'=>?_))
        | refine And.intro ?_ ?_
      all_goals first
        | (show some (CR.tv (.agg _))=some (CR.tv (.agg _));rfl)
        | (show (_:Nat)=(_:Nat);rfl)
        | (show (_:Nat)≤1000;decide)
        | (show (_:Int)=(_:Int);rfl)
        | (show (_:Int)≤_;decide)
        | (show (_:Int)<_;decide)
        -- PVC
    · cases h
def g10near:Con Try.prog where
  f:=73
  sem:=fun xs=>match xs with
    | [.sc (.v (.int .i64 s)),.sc (.v (.int .i64 n))]=>some (I64 s∧0<n∧n<9223372036854775808,.tv (tN .i64 (roundI s n)))
    | _=>none
  ok := by
    intro xs p r' h hp
    refine ⟨⟨_,Try.func73,by kernel_rfl,rfl⟩,fun us w ha=>?_⟩
    split at h
    · rename_i s n
      cases h
      obtain ⟨hs,h0,h1⟩:=hp
      have hm:=nrM_eq h0 h1
      have bs:=BI.mono (BI.i64 hs) (show 64≤8000 by decide)
      have bn:BI 8000 (nrM n):=by rw [hm];exact BI.mono (BI.i64 (by omega)) (by decide)
      refine fn_ret (cxOk Try.prog intsR_ok [] [rFrom,cNOf,qMake,qNear,rSmall]) follows Try.func73 rfl 100 _ rfl (by simp) ?_ ha
      repeat' first
        | exact trivial
        | (refine And.intro (show regChk _ _ _ _ _=true from by kernel_rfl) (And.intro ?_ ?_))
        | (refine And.intro (fun _=>?_) (fun h=>absurd (show true=false from h) (by decide)))
        | (refine And.intro (fun h=>absurd (show false=true from h) (by decide)) (fun _=>?_))
        | (refine And.intro (fun hb=>?_) (fun hb'=>?_))
        | refine And.intro ?_ ?_
      all_goals first
        | (show some (CR.tv (tN _ _))=some (CR.tv (tN _ _));exact tN_eq (near_res hs h0 h1))
        | exact hs.1
        | exact hs.2
        | (show (0:Int)≤IntKind.u64.wrap n;rw [u64_id (by omega) (by omega)];omega)
        | (show IntKind.u64.wrap n<(_:Int);rw [u64_id (by omega) (by omega)];omega)
        | (show 0<nrM n;rw [hm];exact h0)
        | (show 0<nrM n/gcdI s (nrM n);rw [hm];exact (round_gcd s h0).2)
        | (show BI 8000 s;exact bs)
        | (show BI 8000 (nrM n);exact bn)
        | (show BI 8000 (s/_);exact bs.div _)
        | (show BI 8000 (nrM n/_);exact bn.div _)
        | (show (_:Nat)=(_:Nat);rfl)
        | (show (_:Nat)≤1000;decide)
        | (show (_:Int)=(_:Int);rfl)
        | (show (_:Int)≤_;decide)
        | (show (_:Int)<_;decide)
        -- PVC
    · cases h
def g10mean:Con Try.prog where
  f:=44
  sem:=fun xs=>match xs with
    | [.agg [.v (.int .i64 x),.v (.int .i64 y),.v (.int .i64 z)],.sc (.v (.int .i64 n))]=>some ((I64 x∧I64 y∧I64 z)∧0<n∧n<9223372036854775808,.tv (.agg [.v (.int .i64 (roundI x n)),.v (.int .i64 (roundI y n)),.v (.int .i64 (roundI z n))]))
    | _=>none
  ok := by
    intro xs p r' h hp
    refine ⟨⟨_,Try.func44,by kernel_rfl,rfl⟩,fun us w ha=>?_⟩
    split at h
    · rename_i x y z n
      cases h
      obtain ⟨⟨hx,hy,hz⟩,h0,h1⟩:=hp
      refine fn_ret (cxOk Try.prog intsR_ok [] [g10near]) follows Try.func44 rfl 100 _ rfl (by simp) ?_ ha
      repeat' first
        | exact trivial
        | (refine And.intro (show regChk _ _ _ _ _=true from by kernel_rfl) (And.intro ?_ ?_))
        | (refine And.intro (fun _=>?_) (fun h=>absurd (show true=false from h) (by decide)))
        | (refine And.intro (fun h=>absurd (show false=true from h) (by decide)) (fun _=>?_))
        | (refine And.intro (fun hb=>?_) (fun hb'=>?_))
        | refine And.intro ?_ ?_
      all_goals first
        | (show some (CR.tv (.agg _))=some (CR.tv (.agg _));rfl)
        | exact hx.1
        | exact hx.2
        | exact hy.1
        | exact hy.2
        | exact hz.1
        | exact hz.2
        | exact h0
        | exact h1
        | (show (_:Nat)=(_:Nat);rfl)
        | (show (_:Nat)≤1000;decide)
        | (show (_:Int)=(_:Int);rfl)
        | (show (_:Int)≤_;decide)
        | (show (_:Int)<_;decide)
        -- PVC
    · cases h
end
end Go.Proofs.Ytglgmepolanfpaa.Wh
end
section
set_option linter.unusedVariables false
set_option linter.unusedSimpArgs false
namespace Go.Proofs.Ytglgmepolanfpaa.Wh
open Go Go.RowKit Go.Proofs.YtglgmepolanfpaaW.PrintWords Go.Proofs.YtglgmepolanfpaaW.PrintMore Go.Proofs.YtglgmepolanfpaaW.Aid Go.Proofs.YtglgmepolanfpaaW.Big Go.Proofs.YtglgmepolanfpaaW.Sx Go.Proofs.Ytglgmepolanfpaa.BitsWalk Go.Proofs.Ytglgmepolanfpaa.Limbs Go.Proofs.Ytglgmepolanfpaa.Whole Go.Proofs.Ytglgmepolanfpaa.FxWalk Go.Proofs
abbrev mayLe (a b c x y z n:Int):Bool:=bif bif bif bif gV a b c then decide (n≥0) else false then decide (n<32) else false then allG x y z 2251799813685248 else false then (bif decide (n>0) then true else eqL (cells3 x y z) (cells3 0 0 0)) else false
theorem allG_wi {x y z:Int}:allG x y z 2251799813685248=wi3 x y z 2251799813685247:=by
  have w:∀ v:Int,wiG v 2251799813685248=!badL 2251799813685247 v:=fun v=>by
    unfold wiG badL
    rw [show IntKind.i64.wrap (0-2251799813685248) = -2251799813685248 by decide,show IntKind.i64.wrap (0-2251799813685247) = -2251799813685247 by decide]
    by_cases h1:v > -2251799813685248<;>by_cases h2:v<2251799813685248<;>simp [h1,h2]<;>omega
  unfold allG wi3
  rw [w,w,w]
  cases badL 2251799813685247 x<;>cases badL 2251799813685247 y<;>cases badL 2251799813685247 z<;>rfl
theorem mayLe_eq (a b c x y z n:Int):mayLe a b c x y z n=goodLe a b c x y z n:=by
  unfold mayLe goodLe;rw [allG_wi]
  cases gV a b c<;>cases decide (n≥0)<;>cases decide (n<32)<;>cases wi3 x y z 2251799813685247<;>cases decide (n>0)<;>rfl
abbrev cl2 (a b:Int):Bool:=bif decide (IntKind.i64.wrap (a-b)≤1048576) then decide (IntKind.i64.wrap (b-a)≤1048576) else false
theorem wr_s {x y:Int} (hx : -35184372088832<x∧x<35184372088832) (hy : -35184372088832<y∧y<35184372088832):IntKind.i64.wrap (x-y)=x-y:=by rw [i64_wrap];exact wrap64_id (by omega) (by omega)
theorem far_eq {a b c u v t:Int} (h:gV a b c=true) (h2:gV u v t=true):(bif bif !cl2 u a then true else !cl2 v b then true else !cl2 t c)=farLe a b c u v t:=by
  obtain ⟨a1,a2,a3⟩:=gV_bd h
  obtain ⟨b1,b2,b3⟩:=gV_bd h2
  unfold farLe
  have w:=wi3_iff (x:=IntKind.i64.wrap (u-a)) (y:=IntKind.i64.wrap (v-b)) (z:=IntKind.i64.wrap (t-c)) (m:=1048576) (by decide) (by decide)
  unfold cl2
  rw [wr_s b1 a1,wr_s a1 b1,wr_s b2 a2,wr_s a2 b2,wr_s b3 a3,wr_s a3 b3] at *
  by_cases hw:wi3 (u-a) (v-b) (t-c) 1048576=true
  · have:=w.1 hw
    rw [hw,decide_eq_true (show u-a≤1048576 by omega),decide_eq_true (show a-u≤1048576 by omega),decide_eq_true (show v-b≤1048576 by omega),decide_eq_true (show b-v≤1048576 by omega),decide_eq_true (show t-c≤1048576 by omega),decide_eq_true (show c-t≤1048576 by omega)];rfl
  · rw [Bool.eq_false_iff.2 hw]
    by_cases k1:u-a≤1048576<;>by_cases k2:a-u≤1048576<;>by_cases k3:v-b≤1048576<;>by_cases k4:b-v≤1048576<;>by_cases k5:t-c≤1048576<;>by_cases k6:c-t≤1048576<;>simp [k1,k2,k3,k4,k5,k6]
    exact hw (w.2 (by omega))
def leG (a b c x y z n u v t:Int):((Int × Int × Int) × (Int × Int × Int) × Int) × Bool × Int:=bif bif bif !cl2 u a then true else !cl2 v b then true else !cl2 t c then (((a,b,c),((0:Int),(0:Int),(0:Int)),(0:Int)),false,(0:Int)) else bif decide ((IntKind.i64.wrap (n+1))<32) then (((a,b,c),((IntKind.i64.wrap (x+u)),(IntKind.i64.wrap (y+v)),(IntKind.i64.wrap (z+t))),(IntKind.i64.wrap (n+1))),false,(0:Int)) else bif !gV (roundI (IntKind.i64.wrap (x+u)) 32) (roundI (IntKind.i64.wrap (y+v)) 32) (roundI (IntKind.i64.wrap (z+t)) 32) then ((((0:Int),(0:Int),(0:Int)),((0:Int),(0:Int),(0:Int)),(0:Int)),false,(2:Int)) else ((((roundI (IntKind.i64.wrap (x+u)) 32),(roundI (IntKind.i64.wrap (y+v)) 32),(roundI (IntKind.i64.wrap (z+t)) 32)),((0:Int),(0:Int),(0:Int)),(0:Int)),true,(0:Int))
theorem leG_0 {a b c x y z n u v t:Int} (h0:(bif bif !cl2 u a then true else !cl2 v b then true else !cl2 t c)=true):((((a,b,c),((0:Int),(0:Int),(0:Int)),(0:Int)),false,(0:Int)))=leG a b c x y z n u v t:=by
  unfold leG
  rw [h0]
  rfl
theorem leG_1 {a b c x y z n u v t:Int} (h0:(bif bif !cl2 u a then true else !cl2 v b then true else !cl2 t c)=false) (h1:(decide ((IntKind.i64.wrap (n+1))<32))=true):((((a,b,c),((IntKind.i64.wrap (x+u)),(IntKind.i64.wrap (y+v)),(IntKind.i64.wrap (z+t))),(IntKind.i64.wrap (n+1))),false,(0:Int)))=leG a b c x y z n u v t:=by
  unfold leG
  rw [h0]
  rw [h1]
  rfl
theorem leG_2 {a b c x y z n u v t:Int} (h0:(bif bif !cl2 u a then true else !cl2 v b then true else !cl2 t c)=false) (h1:(decide ((IntKind.i64.wrap (n+1))<32))=false) (h2:(!gV (roundI (IntKind.i64.wrap (x+u)) 32) (roundI (IntKind.i64.wrap (y+v)) 32) (roundI (IntKind.i64.wrap (z+t)) 32))=true):(((((0:Int),(0:Int),(0:Int)),((0:Int),(0:Int),(0:Int)),(0:Int)),false,(2:Int)))=leG a b c x y z n u v t:=by
  unfold leG
  rw [h0]
  rw [h1]
  rw [h2]
  rfl
theorem leG_3 {a b c x y z n u v t:Int} (h0:(bif bif !cl2 u a then true else !cl2 v b then true else !cl2 t c)=false) (h1:(decide ((IntKind.i64.wrap (n+1))<32))=false) (h2:(!gV (roundI (IntKind.i64.wrap (x+u)) 32) (roundI (IntKind.i64.wrap (y+v)) 32) (roundI (IntKind.i64.wrap (z+t)) 32))=false):(((((roundI (IntKind.i64.wrap (x+u)) 32),(roundI (IntKind.i64.wrap (y+v)) 32),(roundI (IntKind.i64.wrap (z+t)) 32)),((0:Int),(0:Int),(0:Int)),(0:Int)),true,(0:Int)))=leG a b c x y z n u v t:=by
  unfold leG
  rw [h0]
  rw [h1]
  rw [h2]
  rfl
theorem goodLe_n {a b c x y z n:Int} (h:goodLe a b c x y z n=true):gV a b c=true∧0≤n∧n<32∧wi3 x y z 2251799813685247=true∧(n=0→x=0∧y=0∧z=0):=by
  unfold goodLe at h
  cases h1:gV a b c<;>cases h2:wi3 x y z 2251799813685247<;>by_cases h3:n≥0<;>by_cases h4:n<32<;>by_cases h5:n>0<;>simp [h1,h2,h3,h4,h5,eqL,eqV] at h ⊢<;>omega
theorem leX {a b c x y z n u v t:Int} (h:goodLe a b c x y z n=true) (h2:gV u v t=true):leR a b c x y z n u v t=leG a b c x y z n u v t:=by
  obtain ⟨g1,g2,g3,g4,g5⟩:=goodLe_n h
  unfold leR leG
  rw [far_eq g1 h2]
  have hb:badLe a b c x y z n u v t=false:=by unfold badLe;rw [h,h2];rfl
  have hw:IntKind.i64.wrap (n+1)=n+1:=by rw [i64_wrap];exact wrap64_id (by omega) (by omega)
  have e1:(!(IntKind.i64.wrap (n+1) == 32))=decide (IntKind.i64.wrap (n+1)<32):=by
    rw [hw]
    by_cases hk:n+1<32
    · rw [decide_eq_true hk,show (n+1 == 32)=false by simp;omega];rfl
    · rw [decide_eq_false hk,show (n+1 == 32)=true by simp;omega];rfl
  rw [hb,e1]
  cases farLe a b c u v t
  · cases decide (IntKind.i64.wrap (n+1)<32)
    · show (bif _ then _ else _)=(bif _ then _ else _)
      unfold vT
      by_cases hg:gV (roundI (IntKind.i64.wrap (x+u)) 32) (roundI (IntKind.i64.wrap (y+v)) 32) (roundI (IntKind.i64.wrap (z+t)) 32)=true
      · obtain ⟨q1,q2,q3⟩:=gV_iff.1 hg
        rw [hg,q1,q2,q3];rfl
      · have hc:¬ (wd (roundI (IntKind.i64.wrap (x+u)) 32)&&(wd (roundI (IntKind.i64.wrap (y+v)) 32)&&wd (roundI (IntKind.i64.wrap (z+t)) 32)))=true:=fun hh=>hg (by simp only [Bool.and_eq_true] at hh;exact gV_iff.2 ⟨hh.1,hh.2.1,hh.2.2⟩)
        rw [if_neg hc,Bool.eq_false_iff.2 hg];rfl
    · rfl
  · rfl
theorem le_off {a b c x y z n u v t:Int} (h:badLe a b c x y z n u v t=true):leR a b c x y z n u v t=(((0,0,0),(0,0,0),0),false,1):=(leR_0 h).symm
abbrev c7 (a b c x y z n:Int):List Value:=[.int .i64 a,.int .i64 b,.int .i64 c,.int .i64 x,.int .i64 y,.int .i64 z,.int .i64 n]
abbrev ckLe (g:Bool) (p:((Int × Int × Int) × (Int × Int × Int) × Int) × Bool × Int) (check bad:Int) (so:Bool) (q:(Int × Int × Int) × (Int × Int × Int) × Int):Bool :=
  bif bif bif (bif g then 0 else 1:Int) != check then true else p.2.2 != bad then true else !(p.2.1 == so) then true else !eqL (c7 p.1.1.1 p.1.1.2.1 p.1.1.2.2 p.1.2.1.1 p.1.2.1.2.1 p.1.2.1.2.2 p.1.2.2) (c7 q.1.1 q.1.2.1 q.1.2.2 q.2.1.1 q.2.1.2.1 q.2.1.2.2 q.2.2)
theorem lx_11 {a b c x y z n u v t:Int} (h:(!mayLe a b c x y z n)=false) (h2:(!gV u v t)=false):ckLe (goodLe a b c x y z n) (leR a b c x y z n u v t) 0 (leG a b c x y z n u v t).2.2 (leG a b c x y z n u v t).2.1 (leG a b c x y z n u v t).1=false:=by
  have g:=nbf h
  rw [mayLe_eq] at g
  rw [leX g (nbf h2),g];simp [ckLe,eqL,eqV]
theorem lx_10 {a b c x y z n u v t:Int} (h:(!mayLe a b c x y z n)=false) (h2:(!gV u v t)=true):ckLe (goodLe a b c x y z n) (leR a b c x y z n u v t) 0 1 false ((0,0,0),(0,0,0),0)=false:=by
  have g:=nbf h
  rw [mayLe_eq] at g
  rw [le_off (by unfold badLe;rw [g,h2];rfl),g];rfl
theorem lx_0 {a b c x y z n u v t:Int} (h:(!mayLe a b c x y z n)=true):ckLe (goodLe a b c x y z n) (leR a b c x y z n u v t) 1 1 false ((0,0,0),(0,0,0),0)=false:=by
  rw [mayLe_eq] at h
  have g:goodLe a b c x y z n=false:=by simpa using h
  rw [le_off (by unfold badLe;rw [g];rfl),g];rfl
section
set_option maxRecDepth 100000
set_option maxHeartbeats 8000000
def g10MayLearn:Con Try.prog where
  f:=31
  sem:=fun xs=>match xs with
    | [.agg [.v (.int .i64 a),.v (.int .i64 b),.v (.int .i64 c),.v (.int .i64 x),.v (.int .i64 y),.v (.int .i64 z),.v (.int .i64 n)]]=>some (True,.tv (tB (mayLe a b c x y z n)))
    | _=>none
  ok := by
    intro xs p r' h hp
    refine ⟨⟨_,Try.func31,by kernel_rfl,rfl⟩,fun us w ha=>?_⟩
    split at h
    · rename_i a b c x y z n
      cases h
      refine fn_ret (cxOk Try.prog ints_ok [eqVec] [cR3May,g10all]) follows Try.func31 rfl 100 _ rfl (by simp) ?_ ha
      repeat' first
        | exact trivial
        | (refine And.intro (show regChk _ _ _ _ _=true from by kernel_rfl) (And.intro ?_ ?_))
        | (refine And.intro (fun _=>?_) (fun h=>absurd (show true=false from h) (by decide)))
        | (refine And.intro (fun h=>absurd (show false=true from h) (by decide)) (fun _=>?_))
        | (refine And.intro (fun hb=>?_) (fun hb'=>?_))
        | refine And.intro ?_ ?_
        | intro _
      all_goals first
        | (show some (CR.tv (tB _))=some (CR.tv (tB _));exact tB_eq rfl)
        | (show (_:Bool)=(_:Bool);first|assumption|exact beq_iff_eq.2 (by assumption)|(exact and_tt (by first|assumption|exact beq_iff_eq.2 (by assumption)) (by first|assumption|exact beq_iff_eq.2 (by assumption))))
        | (show (_:Nat)=(_:Nat);rfl)
        | (show (_:Nat)≤1000;decide)
        | (show (_:Int)=(_:Int);rfl)
        | (show (_:Int)≤_;decide)
        | (show (_:Int)<_;decide)
        -- PVC
    · cases h
def g10close:Con Try.prog where
  f:=57
  sem:=fun xs=>match xs with
    | [.sc (.v (.int .i64 a)),.sc (.v (.int .i64 b))]=>some (True,.tv (tB (cl2 a b)))
    | _=>none
  ok := by
    intro xs p r' h hp
    refine ⟨⟨_,Try.func57,by kernel_rfl,rfl⟩,fun us w ha=>?_⟩
    split at h
    · rename_i a b
      cases h
      refine fn_ret (cxOk Try.prog ints_ok [] []) follows Try.func57 rfl 100 _ rfl (by simp) ?_ ha
      repeat' first
        | exact trivial
        | (refine And.intro (show regChk _ _ _ _ _=true from by kernel_rfl) (And.intro ?_ ?_))
        | (refine And.intro (fun _=>?_) (fun h=>absurd (show true=false from h) (by decide)))
        | (refine And.intro (fun h=>absurd (show false=true from h) (by decide)) (fun _=>?_))
        | (refine And.intro (fun hb=>?_) (fun hb'=>?_))
        | refine And.intro ?_ ?_
        | intro _
      all_goals first
        | (show some (CR.tv (tB _))=some (CR.tv (tB _));exact tB_eq rfl)
        | (show (_:Bool)=(_:Bool);first|assumption|exact beq_iff_eq.2 (by assumption)|(exact and_tt (by first|assumption|exact beq_iff_eq.2 (by assumption)) (by first|assumption|exact beq_iff_eq.2 (by assumption))))
        | (show (_:Nat)=(_:Nat);rfl)
        | (show (_:Nat)≤1000;decide)
        | (show (_:Int)=(_:Int);rfl)
        | (show (_:Int)≤_;decide)
        | (show (_:Int)<_;decide)
        -- PVC
    · cases h
def g10Learn:Con Try.prog where
  f:=32
  sem:=fun xs=>match xs with
    | [.agg [.v (.int .i64 a),.v (.int .i64 b),.v (.int .i64 c),.v (.int .i64 x),.v (.int .i64 y),.v (.int .i64 z),.v (.int .i64 n)],.agg [.v (.int .i64 u),.v (.int .i64 v),.v (.int .i64 t)]]=>some (True,.tv (tLe (leG a b c x y z n u v t)))
    | _=>none
  ok := by
    intro xs p r' h hp
    refine ⟨⟨_,Try.func32,by kernel_rfl,rfl⟩,fun us w ha=>?_⟩
    split at h
    · rename_i a b c x y z n u v t
      cases h
      refine fn_ret (cxOk Try.prog intsR_ok [] [g10close,g10plus,g10mean,cR3May]) follows Try.func32 rfl 100 _ rfl (by simp) ?_ ha
      repeat' first
        | exact trivial
        | (refine And.intro (show regChk _ _ _ _ _=true from by kernel_rfl) (And.intro ?_ ?_))
        | (refine And.intro (fun _=>?_) (fun h=>absurd (show true=false from h) (by decide)))
        | (refine And.intro (fun h=>absurd (show false=true from h) (by decide)) (fun _=>?_))
        | (refine And.intro (fun hb=>?_) (fun hb'=>?_))
        | refine And.intro ?_ ?_
        | intro _
      all_goals first
        | (show some (CR.tv (.tup _))=some (CR.tv (tLe _));first|exact le_eq (leG_0 (by assumption))|exact le_eq (leG_1 (by assumption) (by assumption))|exact le_eq (leG_2 (by assumption) (by assumption) (by assumption))|exact le_eq (leG_3 (by assumption) (by assumption) (by assumption)))
        | (show (_:Int)≤IntKind.i64.wrap _;exact (wI' _).1)
        | (show IntKind.i64.wrap _<(_:Int);exact (wI' _).2)
        | (show (0:Int)<32;decide)
        | (show (32:Int)<_;decide)
        | (show (_:Bool)=(_:Bool);first|assumption|exact beq_iff_eq.2 (by assumption)|(exact and_tt (by first|assumption|exact beq_iff_eq.2 (by assumption)) (by first|assumption|exact beq_iff_eq.2 (by assumption))))
        | (show (_:Nat)=(_:Nat);rfl)
        | (show (_:Nat)≤1000;decide)
        | (show (_:Int)=(_:Int);rfl)
        | (show (_:Int)≤_;decide)
        | (show (_:Int)<_;decide)
        -- PVC
    · cases h
abbrev row_learnExact (a b c x y z n1 p q r:Nat→Int):Nat→List A0:=fun j=>[.v (.int .i64 (a j)),.v (.int .i64 (b j)),.v (.int .i64 (c j)),.v (.int .i64 (x j)),.v (.int .i64 (y j)),.v (.int .i64 (z j)),.v (.int .i64 (n1 j)),.v (.int .i64 (p j)),.v (.int .i64 (q j)),.v (.int .i64 (r j))]
theorem learnExact_law (n:Nat) (a b c x y z n1 p q r:Nat→Int) (hW:∀ j,I64 (a j)∧I64 (b j)∧I64 (c j)∧I64 (x j)∧I64 (y j)∧I64 (z j)∧I64 (n1 j)∧I64 (p j)∧I64 (q j)∧I64 (r j)) {us:List Value} {w:World} (hargs:All2 (TV.reads (fun _=>0) w.heap.size w) [.rowF n 10 (row_learnExact a b c x y z n1 p q r)] us):Ret Try.prog 11 us.toArray w (.tv (tB true)):=by
  refine fnl_ret (lawL 10 n (row_learnExact a b c x y z n1 p q r) 2) (cxOk Try.prog intsR_ok [eqLearn] [g10MayLearn,cR3May,g10Learn,cLeCheck,cLearn,cNum11,cWakes11]) follows Try.func11 rfl 300 _ rfl (by simp) ?_ hargs
  repeat' first
    | exact trivial
    | (refine And.intro (show regChk _ _ _ _ _=true from by kernel_rfl) (And.intro ?_ ?_))
    | (refine And.intro (fun _=>?_) (fun h=>absurd (show true=false from h) (by decide)))
    | (refine And.intro (fun h=>absurd (show false=true from h) (by decide)) (fun _=>?_))
    | (have:=hA;refine And.intro (fun hb=>?_) (fun hb'=>?_))
    | (have:=hC;refine And.intro (fun hA=>?_) (fun hA=>?_))
    | refine And.intro (fun hC=>?_) (fun hC=>?_)
    | refine And.intro ?_ ?_
    | (intro v hv)
    | intro _
  all_goals first
    | (show wfB _ _=true;rfl)
    | (show (_:Bool)=true;assumption)
    | (show (_:Bool)=true;exact beq_iff_eq.2 (by assumption))
    | (show (0:Int)≤v;exact hv.1)
    | (show v<(n:Int);exact (hC1 hC).1)
    | (exact ⟨0,⟨Int.le_refl _,Int.natCast_nonneg _⟩,⟨rfl,rfl,rfl,trivial⟩,trivial⟩)
    | (exact ⟨IntKind.i64.wrap (v+1),(stepL hv hC (by decide)).1,(stepL hv hC (by decide)).2,⟨rfl,rfl,rfl,trivial⟩,trivial⟩)
    | (show some (CR.tv (tB true))=some (CR.tv (tB true));rfl)
    | (show some (CR.tv (tB false))=some (CR.tv (tB true));exfalso;first|exact no (lx_11 (a:=a v.toNat) (b:=b v.toNat) (c:=c v.toNat) (x:=x v.toNat) (y:=y v.toNat) (z:=z v.toNat) (n:=n1 v.toNat) (u:=p v.toNat) (v:=q v.toNat) (t:=r v.toNat) hA (by assumption)) (by assumption)|exact no (lx_10 (a:=a v.toNat) (b:=b v.toNat) (c:=c v.toNat) (x:=x v.toNat) (y:=y v.toNat) (z:=z v.toNat) (n:=n1 v.toNat) (u:=p v.toNat) (v:=q v.toNat) (t:=r v.toNat) hA (by assumption)) (by assumption)|exact no (lx_0 (a:=a v.toNat) (b:=b v.toNat) (c:=c v.toNat) (x:=x v.toNat) (y:=y v.toNat) (z:=z v.toNat) (n:=n1 v.toNat) (u:=p v.toNat) (v:=q v.toNat) (t:=r v.toNat) hA) (by assumption))
    -- PVC
abbrev ks_learnExact:List (Option IntKind):=[some .i64,some .i64,some .i64,some .i64,some .i64,some .i64,some .i64,some .i64,some .i64,some .i64]
theorem learnExact_row (n:Nat) (f:Nat→List Value) (hf:∀ j,okV ks_learnExact (f j)) {us:List Value} {w:World} (hargs:All2 (TV.reads (fun _=>0) w.heap.size w) [.rowF n 10 (fun j=>cellsG f j 0 ks_learnExact)] us):Ret Try.prog 11 us.toArray w (.tv (tB true)) :=
  learnExact_law n (gI f 0) (gI f 1) (gI f 2) (gI f 3) (gI f 4) (gI f 5) (gI f 6) (gI f 7) (gI f 8) (gI f 9) (fun j=>⟨gI_i64 (hf j) rfl,gI_i64 (hf j) rfl,gI_i64 (hf j) rfl,gI_i64 (hf j) rfl,gI_i64 (hf j) rfl,gI_i64 (hf j) rfl,gI_i64 (hf j) rfl,gI_i64 (hf j) rfl,gI_i64 (hf j) rfl,gI_i64 (hf j) rfl⟩) hargs
end
end Go.Proofs.Ytglgmepolanfpaa.Wh
end
section
namespace Go.Proofs.Ytglgmepolanfpaa.learnExact
open Go.ChangeShapes Go.WideShapes Go.ChangeAt Go.RowKit Go.Proofs.YtglgmepolanfpaaW.PrintWords Go.Proofs.YtglgmepolanfpaaW.Sx Go.Proofs.Ytglgmepolanfpaa.Wh
set_option linter.unusedVariables false
theorem own:ownKnob Try.prog.godebug=none:=by kernel_rfl
theorem laidOut:laidOutB Try.prog=true:=by kernel_rfl
theorem cells:lvs Try.prog true 30 62=some [some .i64,some .i64,some .i64,some .i64,some .i64,some .i64,some .i64,some .i64,some .i64,some .i64]:=by kernel_rfl
set_option maxRecDepth 100000 in
theorem lifted (os:Os) (started:os.Started) (H:Type) (enc:TypeId × Value→H) :
    ReturnsInHanded {} Try.checked os 11 .any (Rows.learnExactSpec.pre6 enc Try.prog Try.f11 Rows.learnExactRow.domain false) (Rows.learnExactSpec.post enc Try.prog Try.f11 false true false false):=by
  refine returnsInHanded_of_change_sized (C:=Try.checked) own started (by kernel_rfl) Try.func11
    (ChangeSpec.witness6 (enc:=enc) (C:=Try.checked) false ⟨#[],#[.slice none 0 0],[]⟩ 8 (by kernel_rfl) (by kernel_rfl) (by kernel_rfl) (by kernel_rfl)) ?_
  intro W base args ds gs before hval0 hW hcnd hsz0 _
  have hval:∀ (j:Nat) t v,Try.f11.params[j]?=some t→args[j]?=some v→Value.okWide Try.prog W .any base t v:=hval0
  have hW':=hW
  obtain ⟨p,q,hA0,hV,rfl,hfz,hnd⟩:=hW
  have hA:DataW.TrodAll enc Try.prog W 0 (fun _=>true) true Try.f11.params.toList args.toList ds p:=hA0
  rw [Try.params11] at hA hval
  obtain ⟨v0,vs0,d0,ds0,p0,q0,hargs,rfl,rfl,h0,r0⟩:=trodAll_cons hA
  obtain ⟨rfl,rfl,rfl⟩:=trodAll_nil r0
  obtain rfl:args=#[v0]:=by cases args;simp_all
  obtain ⟨rfl,rfl⟩:=trodVars_none hV
  have k0:=h0
  have lt0:∀ x∈p0,x.block<W.heap.size:=by obtain ⟨m,hm⟩:=k0;exact DataW.trod_lt m _ _ _ hm
  have hv0:=hval 0 60 v0 rfl rfl
  obtain ⟨a0,len0,cap0,rfl⟩:=okWide_slice Try.underlying60 hv0
  obtain ⟨f,hf,hr⟩:=row_of Try.underlying60 cells (by decide) h0
  clear hA0 hval0 hsz0
  refine Calls.mono (learnExact_row len0 f hf (us:=[_]) (.cons (hr _) .nil)) fun e W' hpost=>?_
  obtain ⟨u,rfl,hu,bel⟩:=hpost
  obtain rfl:u = .bool true:=hu
  exact ⟨_,rfl,_,_,_,[],_,[],hW',trodAll_mk1 (shut_bool Try.underlying4 _),(trodAll_cons_mk (Below.trod laidOut (by kernel_rfl) (of_decide_eq_true (by kernel_rfl)) k0 bel lt0) trodAll_mk0),rfl,bel.frame _,fun h=>by cases h⟩
theorem over:Rows.learnExactRow.holds Try.pinned (OpenSpec.ofChange Rows.learnExactSpec) :=
  OpenClaim.holds_of_wide 11 Try.f11 rfl rfl rfl rfl rfl rfl rfl ⟨rfl,rfl,rfl,rfl,rfl⟩ rfl rfl rfl rfl rfl (by kernel_rfl) Try.func11 (by kernel_rfl)
    (of_decide_eq_true (by kernel_rfl)) (by unfold Func.isWrapper;first|(rw [if_pos (by decide +kernel)];kernel_rfl)|(rw [if_neg (by decide +kernel)];exact ⟨rfl,rfl⟩))
    (fun os started H enc _=>lifted os started H enc)
theorem proved:Rows.LearnExactSaid:=over
end Go.Proofs.Ytglgmepolanfpaa.learnExact
namespace Go.Proofs.Ytglgmepolanfpaa
theorem learnExact_holds:Rows.LearnExactSaid:=learnExact.proved
end Go.Proofs.Ytglgmepolanfpaa
end
