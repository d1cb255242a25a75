/- The row of CalExact, out of its law by the reckoner: for every argument that reads as data the call returns true and leaves the argument as it was. -/
import Derived.Test.YtonelbidndjhdaaZT220e
import Derived.Test.YtonelbidndjhdaaRows
import Derived.WalkKit
import Derived.ProofKit
import Derived.OpenShut
import Derived.ShutString
import Derived.ChangeOld
import Derived.Below
import Derived.SizedLaws
import Derived.Carry
section
set_option linter.unusedVariables false
set_option linter.unusedSimpArgs false
namespace Go.Proofs.Ytonelbidndjhdaa.Wh
open Go RowKit YtonelbidndjhdaaW.PrintWords YtonelbidndjhdaaW.PrintMore YtonelbidndjhdaaW.Aid YtonelbidndjhdaaW.Big YtonelbidndjhdaaW.Sx Ytonelbidndjhdaa.BitsWalk Ytonelbidndjhdaa.Limbs Ytonelbidndjhdaa.Whole Ytonelbidndjhdaa.R90 Ytonelbidndjhdaa.QN90 Go.Proofs
theorem Ret.conv {f:FuncId} {us:Array Value} {w:World} {r r':CR} (h:Ret Try.prog f us w r) (hc:∀ w' u,r.told w w' u→r'.told w w' u):Ret Try.prog f us w r' :=
  h.mono fun _ _ ⟨u,he,ht,hb⟩=>⟨u,he,hc _ _ ht,hb⟩
theorem told_made {b:Bool} {m z:Int} {w w':World} {u:Value} (h:(CR.tv (.agg [.v (.bool b),.mag m])).told w w' u) (hb:b=sgn z) (hm:lm m=lm z):(CR.tv (tI z)).told w w' u:=by
  obtain ⟨us,rfl,h⟩:=h
  cases h with
  | cons h1 h2 =>
    cases h2 with
    | cons h2 h3 =>
      cases h3
      obtain ⟨A,c,rfl,hr⟩:=h2
      refine ⟨_,rfl,.cons ?_ (.cons ⟨A,c,by rw [hm],by rw [← hm];exact hr⟩ .nil)⟩
      show _=Value.bool (sgn z)
      rw [show _=Value.bool b from h1,hb]
abbrev tMade (b:Bool) (m:Int):CR := .tv (.agg [.v (.bool b),.mag m])
theorem ncmp_ge {x y:Int} (h:decide (cmpN x.natAbs y.natAbs≥0)=true):y.natAbs≤x.natAbs:=by
  have h:=of_decide_eq_true h
  unfold cmpN at h
  split at h
  · omega
  · omega
theorem ncmp_lt {x y:Int} (h:decide (cmpN x.natAbs y.natAbs≥0)=false):x.natAbs≤y.natAbs:=by
  have h:=of_decide_eq_false h
  unfold cmpN at h
  split at h
  · omega
  · split at h<;>omega
theorem sign_p {x:Int} (h:sgn x=false) (h':decide (((lm x).length:Int)>0)=true):1=cmpI x 0:=by
  have h1:=sgn_f h
  have h2:=lm_pos.1 h'
  unfold cmpI;rw [if_neg (by omega),if_pos (by omega)]
theorem sign_z {x:Int} (h:sgn x=false) (h':decide (((lm x).length:Int)>0)=false):0=cmpI x 0:=by
  have h1:=sgn_f h
  have h2:x=0:=by
    by_cases hz:x=0
    · exact hz
    · rw [lm_pos.2 hz] at h';cases h'
  unfold cmpI;rw [if_neg (by omega),if_neg (by omega)]
theorem div_pow_cases (x:Int) (k:Nat) (hx:x<0):(x.natAbs/2 ^ k*2 ^ k=x.natAbs∧x/2 ^ k = -((x.natAbs/2 ^ k:Nat):Int))∨(x.natAbs/2 ^ k*2 ^ k<x.natAbs∧x/2 ^ k = -((x.natAbs/2 ^ k:Nat):Int)-1):=by
  have hp:0<2 ^ k:=Nat.two_pow_pos k
  have hpi:((2 ^ k:Nat):Int)=2 ^ k:=by norm_cast
  obtain ⟨Q,R,e1,e2,h⟩:=div_cases (x:=x) (y:=((2 ^ k:Nat):Int)) (by omega)
  rw [Int.natAbs_natCast] at e1 e2
  rw [hpi] at h
  have e3:=Nat.div_add_mod x.natAbs (2 ^ k)
  rw [e1,e2] at e3
  rw [e1]
  rw [Nat.mul_comm] at e3
  rcases h with h|h|h
  · omega
  · left;exact ⟨by omega,h.2.2.1⟩
  · right;exact ⟨by omega,h.2.2.1⟩
theorem right_up {x:Int} {k:Nat} (h:(bif sgn x then cmpN (((((x.natAbs/2 ^ k:Nat):Int).natAbs*2 ^ k:Nat):Int)).natAbs x.natAbs != 0 else false)=true) :
    ofS (sgn x) (((((x.natAbs/2 ^ k:Nat):Int).natAbs+(((1:Int).toNat:Nat):Int).natAbs:Nat):Int)).natAbs=x/2 ^ k:=by
  have h1:=and1 h
  have h2:=and2 h
  have hx:=sgn_t h1
  rw [Int.natAbs_natCast,Int.natAbs_natCast] at h2
  simp only [Int.natAbs_natCast]
  rw [h1]
  rcases div_pow_cases x k hx with ⟨e1,e2⟩|⟨e1,e2⟩
  · rw [e1] at h2
    unfold cmpN at h2
    simp at h2
  · rw [e2]
    show -(((x.natAbs/2 ^ k+1:Nat)):Int)=_
    omega
theorem right_dn {x:Int} {k:Nat} (h:(bif sgn x then cmpN (((((x.natAbs/2 ^ k:Nat):Int).natAbs*2 ^ k:Nat):Int)).natAbs x.natAbs != 0 else false)=false) :
    ofS (sgn x) ((x.natAbs/2 ^ k:Nat):Int).natAbs=x/2 ^ k:=by
  rw [Int.natAbs_natCast]
  by_cases h1:sgn x=true
  · have h2:=and3 h h1
    have hx:=sgn_t h1
    rw [Int.natAbs_natCast,Int.natAbs_natCast] at h2
    rw [h1]
    rcases div_pow_cases x k hx with ⟨e1,e2⟩|⟨e1,e2⟩
    · rw [e2];rfl
    · unfold cmpN at h2
      rw [if_pos e1] at h2
      simp at h2
  · have hs:sgn x=false:=by simpa using h1
    rw [hs]
    have hx:=sgn_f hs
    show ((x.natAbs/2 ^ k:Nat):Int)=_
    have hpi:((2 ^ k:Nat):Int)=2 ^ k:=by norm_cast
    rw [Int.natCast_ediv,hpi,Int.natAbs_of_nonneg hx]
theorem bif_comm {a b:Bool}:(bif a then b else false)=(bif b then a else false):=by cases a<;>cases b<;>rfl
theorem rdv1 {x y:Int} (hy:0<y) (hb:(bif !(sgn x == sgn y) then decide (((lm ((x.natAbs%y.natAbs:Nat):Int)).length:Int)>0) else false)=true) :
    ofS (!(sgn x == sgn y)) ((x.natAbs/y.natAbs:Nat):Int).natAbs-1=x/y∧x-(ofS (!(sgn x == sgn y)) ((x.natAbs/y.natAbs:Nat):Int).natAbs-1)*y=x%y:=by
  rw [bif_comm] at hb
  have h:=(dv1 hy hb).1
  refine ⟨h,?_⟩
  rw [h,Int.emod_def,Int.mul_comm]
theorem rdv2 {x y:Int} (hy:0<y) (hb:(bif !(sgn x == sgn y) then decide (((lm ((x.natAbs%y.natAbs:Nat):Int)).length:Int)>0) else false)=false) :
    ofS (!(sgn x == sgn y)) ((x.natAbs/y.natAbs:Nat):Int).natAbs=x/y∧x-ofS (!(sgn x == sgn y)) ((x.natAbs/y.natAbs:Nat):Int).natAbs*y=x%y:=by
  rw [bif_comm] at hb
  have h:=(dv2 hy hb).1
  refine ⟨h,?_⟩
  rw [h,Int.emod_def,Int.mul_comm]
theorem small_bits {x:Int} (h0:(((lm x).length:Int) == 0)=false) {b:Bool} (h:(bif (bif decide (((lm x).length:Int)>1) then true else bif sgn x then decide (rd (lm x) 0>9223372036854775808) else false) then true else bif !(sgn x) then decide (rd (lm x) 0≥9223372036854775808) else false)=b) :
    (b=true→¬ (-9223372036854775808≤x∧x≤9223372036854775807))∧(b=false→(-9223372036854775808≤x∧x≤9223372036854775807)∧rd (lm x) 0=(x.natAbs:Int)):=by
  have hz:x≠0:=by
    rintro rfl
    rw [lm_zero] at h0;cases h0
  by_cases h1:((lm x).length:Int)>1
  · have hm:=low_many h1
    rw [decide_eq_true h1] at h
    simp only [cond_true] at h
    subst h
    exact ⟨fun _=>(by omega),fun h=>(by cases h)⟩
  · have hw:=low_word hz h1
    rw [decide_eq_false h1,hw] at h
    simp only [cond_false] at h
    cases hs:sgn x with
    | true =>
      have hx:=sgn_t hs
      rw [hs] at h
      simp only [cond_true,Bool.not_true,cond_false] at h
      by_cases h2:(x.natAbs:Int)>9223372036854775808
      · rw [decide_eq_true h2] at h
        simp only [cond_true] at h
        subst h
        exact ⟨fun _=>(by omega),fun h=>(by cases h)⟩
      · rw [decide_eq_false h2] at h
        simp only [cond_false] at h
        subst h
        exact ⟨fun h=>(by cases h),fun _=>⟨by omega,hw⟩⟩
    | false =>
      have hx:=sgn_f hs
      rw [hs] at h
      simp only [cond_true,Bool.not_false,cond_false] at h
      by_cases h2:(x.natAbs:Int)≥9223372036854775808
      · rw [decide_eq_true h2] at h
        subst h
        exact ⟨fun _=>(by omega),fun h=>(by cases h)⟩
      · rw [decide_eq_false h2] at h
        subst h
        exact ⟨fun h=>(by cases h),fun _=>⟨by omega,hw⟩⟩
theorem rsmall1 {x:Int} (h0:(((lm x).length:Int) == 0)=false) (h:(bif (bif decide (((lm x).length:Int)>1) then true else bif sgn x then decide (rd (lm x) 0>9223372036854775808) else false) then true else bif !(sgn x) then decide (rd (lm x) 0≥9223372036854775808) else false)=true) :
    ((0:Int),false)=((smallI x).1,(smallI x).2):=by
  rw [small_no ((small_bits h0 h).1 rfl)]
theorem rsmall2 {x:Int} (h0:(((lm x).length:Int) == 0)=false) (h:(bif (bif decide (((lm x).length:Int)>1) then true else bif sgn x then decide (rd (lm x) 0>9223372036854775808) else false) then true else bif !(sgn x) then decide (rd (lm x) 0≥9223372036854775808) else false)=false) (hs:sgn x=true) :
    (IntKind.i64.wrap (IntKind.u64.wrap (0-rd (lm x) 0)),true)=((smallI x).1,(smallI x).2):=by
  obtain ⟨h1,h2⟩:=(small_bits h0 h).2 rfl
  have hx:=sgn_t hs
  rw [small_yes h1,h2,u64_wrap,i64_wrap]
  unfold wrap64
  have:((0-(x.natAbs:Int))%18446744073709551616+9223372036854775808)%18446744073709551616-9223372036854775808=x:=by omega
  rw [this]
theorem rsmall3 {x:Int} (h0:(((lm x).length:Int) == 0)=false) (h:(bif (bif decide (((lm x).length:Int)>1) then true else bif sgn x then decide (rd (lm x) 0>9223372036854775808) else false) then true else bif !(sgn x) then decide (rd (lm x) 0≥9223372036854775808) else false)=false) (hs:sgn x=false) :
    (IntKind.i64.wrap (rd (lm x) 0),true)=((smallI x).1,(smallI x).2):=by
  obtain ⟨h1,h2⟩:=(small_bits h0 h).2 rfl
  have hx:=sgn_f hs
  rw [small_yes h1,h2,i64_wrap]
  unfold wrap64
  have:((x.natAbs:Int)+9223372036854775808)%18446744073709551616-9223372036854775808=x:=by omega
  rw [this]
theorem cmp_sub (x y:Int):cmpI (x-y) 0=cmpI x y:=by
  unfold cmpI
  by_cases h:x<y
  · rw [if_pos (by omega),if_pos h]
  · rw [if_neg (by omega),if_neg h]
    by_cases h2:y<x
    · rw [if_pos (by omega),if_pos h2]
    · rw [if_neg (by omega),if_neg h2]
section
set_option maxRecDepth 100000
set_option maxHeartbeats 1000000
def rMade:Con Try.prog:=conOf 78 (fun b m => .tv (tI (ofS b m))) ⟨_,Try.func78,by kernel_rfl,rfl⟩ (fun b m A c w hr=>by
  refine Ret.conv (r:=tMade (bif b then decide (((lm (m:Int)).length:Int)>0) else false) (m:Int)) ?_ (fun w' u h=>told_made h ?_ (by rw [lm_ofS,lm_nat]))
  · refine fn_ret (cxOk Try.prog intsR_ok [] refK) follows Try.func78 rfl 100 _ rfl (by simp) ?_ (xs:=[tB b,tM m]) (.cons rfl (.cons ⟨A,c,by rw [lm_nat],by rw [lm_nat];exact hr⟩ .nil))
    repeat' first
      | exact trivial
      | (refine And.intro (show regChk _ _ _ _ _=true from by kernel_rfl) (And.intro ?_ ?_))
      | (refine And.intro (fun hb=>?_) (fun hb'=>?_))
      | refine And.intro ?_ ?_
      | intro _
    all_goals first
      | assumption
      | exact beq_iff_eq.2 (by assumption)
      | (show some (CR.tv _)=some (CR.tv _);rfl)
      -- PVC
  · rw [sgn_ofS,lm_nat]
    cases b
    · rfl
    · rw [Bool.true_and,Bool.eq_iff_iff]
      simp only [cond_true,decide_eq_true_eq]
      omega)
def rSize:Con Try.prog:=conN 80 I64 (fun n => .tv (tN .u64 n.natAbs)) ⟨_,Try.func80,by kernel_rfl,rfl⟩ (fun n w hl=>by
  refine fn_ret (cxOk Try.prog intsR_ok [] refK) follows Try.func80 rfl 100 _ rfl (by simp) ?_ (xs:=[tN .i64 n]) (.cons rfl .nil)
  repeat' first
    | exact trivial
    | (refine And.intro (show regChk _ _ _ _ _=true from by kernel_rfl) (And.intro ?_ ?_))
    | (refine And.intro (fun hb=>?_) (fun hb'=>?_))
    | refine And.intro ?_ ?_
    | intro _
  all_goals first
    | (show some (CR.tv (tN _ _))=some (CR.tv (tN _ _));refine tN_eq ?_;rw [u64_wrap];(try rw [u64_wrap]);have:=hl;unfold I64 at this;(first|(have h0:n<0:=of_decide_eq_true (by assumption);omega)|(have h0:¬ n<0:=of_decide_eq_false (by assumption);omega)))
    -- PVC
  )
def rFrom:Con Try.prog:=conN 55 I64 (fun n => .tv (tI n)) ⟨_,Try.func55,by kernel_rfl,rfl⟩ (fun n w hl=>by
  have hl1 : -9223372036854775808≤n∧n<9223372036854775808:=hl
  refine fn_ret (cxOk Try.prog intsR_ok [] [rMade,rSize,cNOf]) follows Try.func55 rfl 100 _ rfl (by simp) ?_ (xs:=[tN .i64 n]) (.cons rfl .nil)
  repeat' first
    | exact trivial
    | (refine And.intro (show regChk _ _ _ _ _=true from by kernel_rfl) (And.intro ?_ ?_))
    | (refine And.intro (fun hb=>?_) (fun hb'=>?_))
    | refine And.intro ?_ ?_
    | intro _
  all_goals first
    | (show (_:Int)=(_:Int);rfl)
    | (show (_:Bool)=(_:Bool);first|assumption|exact beq_iff_eq.2 (by assumption)|exact g2 (by assumption) (by assumption))
    | (with_reducible exact hl1.1)
    | (with_reducible exact hl1.2)
    | (with_reducible exact Int.natCast_nonneg _)
    | (show ((n.natAbs:Nat):Int)<_;have:=hl;unfold I64 at this;omega)
    | (show some (CR.tv (tI _))=some (CR.tv (tI _));(refine wh_eq ?_;show ofS (decide (n<0)) n.natAbs=n;unfold ofS;split<;>simp_all<;>omega))
    -- PVC
  )
def rSign:Con Try.prog:=con1 145 (fun _=>True) (fun x => .tv (tN .i64 (cmpI x 0))) ⟨_,Try.func145,by kernel_rfl,rfl⟩ (fun x A c w hl hr=>by
  refine fn_ret (cxOk Try.prog intsR_ok [] []) follows Try.func145 rfl 100 _ rfl (by simp) ?_ (args1 hr)
  repeat' first
    | exact trivial
    | (refine And.intro (show regChk _ _ _ _ _=true from by kernel_rfl) (And.intro ?_ ?_))
    | (refine And.intro (fun hb=>?_) (fun hb'=>?_))
    | refine And.intro ?_ ?_
    | intro _
  all_goals first
    | (show (_:Int)=(_:Int);rfl)
    | (show (_:Bool)=(_:Bool);first|assumption|exact beq_iff_eq.2 (by assumption)|exact g2 (by assumption) (by assumption))
    | (show some (CR.tv (tN _ _))=some (CR.tv (tN _ _));first|exact tN_eq (cmpI_np (sgn_t (by assumption)) (Int.le_refl 0))|exact tN_eq (sign_p (by assumption) (by assumption))|exact tN_eq (sign_z (by assumption) (by assumption)))
    -- PVC
  )
def rNeg:Con Try.prog:=con1 106 (fun _=>True) (fun x => .tv (tI (-x))) ⟨_,Try.func106,by kernel_rfl,rfl⟩ (fun x A c w hl hr=>by
  refine fn_ret (cxOk Try.prog intsR_ok [] [rMade]) follows Try.func106 rfl 100 _ rfl (by simp) ?_ (args1 hr)
  repeat' first
    | exact trivial
    | (refine And.intro (show regChk _ _ _ _ _=true from by kernel_rfl) (And.intro ?_ ?_))
    | (refine And.intro (fun hb=>?_) (fun hb'=>?_))
    | refine And.intro ?_ ?_
    | intro _
  all_goals first
    | (show (_:Int)=(_:Int);rfl)
    | (show (_:Bool)=(_:Bool);first|assumption|exact beq_iff_eq.2 (by assumption)|exact g2 (by assumption) (by assumption))
    | (show some (CR.tv (tI _))=some (CR.tv (tI _));exact wh_eq (ofS_neg' x))
    -- PVC
  )
def rZero:Con Try.prog:=con1 130 (fun _=>True) (fun x => .tv (tB (decide (x=0)))) ⟨_,Try.func130,by kernel_rfl,rfl⟩ (fun x A c w hl hr=>by
  refine fn_ret (cxOk Try.prog intsR_ok [] []) follows Try.func130 rfl 100 _ rfl (by simp) ?_ (args1 hr)
  repeat' first
    | exact trivial
    | (refine And.intro (show regChk _ _ _ _ _=true from by kernel_rfl) (And.intro ?_ ?_))
    | (refine And.intro (fun hb=>?_) (fun hb'=>?_))
    | refine And.intro ?_ ?_
    | intro _
  all_goals first
    | (show (_:Int)=(_:Int);rfl)
    | (show (_:Bool)=(_:Bool);first|assumption|exact beq_iff_eq.2 (by assumption)|exact g2 (by assumption) (by assumption))
    | (show some (CR.tv (tB _))=some (CR.tv (tB _));exact tB_eq (show (((lm x).length:Int) == 0)=_ by rw [Bool.eq_iff_iff];simp only [beq_iff_eq,decide_eq_true_eq];have:=lm_nil' (x:=x);omega))
    -- PVC
  )
def rPlus:Con Try.prog:=con2 56 (fun x y=>BI 20000 x∧BI 20000 y) (fun x y => .tv (tI (x+y))) ⟨_,Try.func56,by kernel_rfl,rfl⟩ (fun x y A A' c c' w hl hr hr'=>by
  refine fn_ret (cxOk Try.prog intsR_ok [] [rMade,cNPlus,cNLess,cNCmp]) follows Try.func56 rfl 100 _ rfl (by simp) ?_ (args2 hr hr')
  repeat' first
    | exact trivial
    | (refine And.intro (show regChk _ _ _ _ _=true from by kernel_rfl) (And.intro ?_ ?_))
    | (refine And.intro (fun hb=>?_) (fun hb'=>?_))
    | refine And.intro ?_ ?_
    | intro _
  all_goals first
    | (show (_:Int)=(_:Int);rfl)
    | (show (_:Bool)=(_:Bool);first|assumption|exact beq_iff_eq.2 (by assumption)|exact g2 (by assumption) (by assumption))
    | exact hl.1
    | exact hl.2
    | (show (_:Nat)≤(_:Nat);first|exact ncmp_ge (by assumption)|exact ncmp_lt (by assumption))
    | (show some (CR.tv (tI _))=some (CR.tv (tI _));(first|exact wh_eq (ofS_add' (by assumption))|exact wh_eq (ofS_sub' (by assumption) (ncmp_ge (by assumption)))|exact wh_eq ((ofS_sub' (x:=y) (y:=x) (by rw [show (sgn y == sgn x)=(sgn x == sgn y) from Bool.beq_comm];assumption) (ncmp_lt (by assumption))).trans (Int.add_comm _ _))))
    -- PVC
  )
def rLess:Con Try.prog:=con2 77 (fun x y=>BI 20000 x∧BI 20000 y) (fun x y => .tv (tI (x-y))) ⟨_,Try.func77,by kernel_rfl,rfl⟩ (fun x y A A' c c' w hl hr hr'=>by
  refine fn_ret (cxOk Try.prog intsR_ok [] [rPlus,rNeg]) follows Try.func77 rfl 100 _ rfl (by simp) ?_ (args2 hr hr')
  repeat' first
    | exact trivial
    | (refine And.intro (show regChk _ _ _ _ _=true from by kernel_rfl) (And.intro ?_ ?_))
    | (refine And.intro (fun hb=>?_) (fun hb'=>?_))
    | refine And.intro ?_ ?_
    | intro _
  all_goals first
    | (show (_:Int)=(_:Int);rfl)
    | (show (_:Bool)=(_:Bool);first|assumption|exact beq_iff_eq.2 (by assumption)|exact g2 (by assumption) (by assumption))
    | exact hl.1
    | (show BI 20000 (-y);exact hl.2.neg)
    | (show some (CR.tv (tI _))=some (CR.tv (tI _));exact wh_eq (by omega))
    -- PVC
  )
def rTimes:Con Try.prog:=con2 57 (fun x y=>BI 20000 x∧BI 20000 y) (fun x y => .tv (tI (x*y))) ⟨_,Try.func57,by kernel_rfl,rfl⟩ (fun x y A A' c c' w hl hr hr'=>by
  refine fn_ret (cxOk Try.prog intsR_ok [] [rMade,cNTimes]) follows Try.func57 rfl 100 _ rfl (by simp) ?_ (args2 hr hr')
  repeat' first
    | exact trivial
    | (refine And.intro (show regChk _ _ _ _ _=true from by kernel_rfl) (And.intro ?_ ?_))
    | (refine And.intro (fun hb=>?_) (fun hb'=>?_))
    | refine And.intro ?_ ?_
    | intro _
  all_goals first
    | (show (_:Int)=(_:Int);rfl)
    | (show (_:Bool)=(_:Bool);first|assumption|exact beq_iff_eq.2 (by assumption)|exact g2 (by assumption) (by assumption))
    | exact hl.1
    | exact hl.2
    | (show some (CR.tv (tI _))=some (CR.tv (tI _));exact wh_eq (ofS_prod' x y))
    -- PVC
  )
def rCmp:Con Try.prog:=con2 129 (fun x y=>BI 20000 x∧BI 20000 y) (fun x y => .tv (tN .i64 (cmpI x y))) ⟨_,Try.func129,by kernel_rfl,rfl⟩ (fun x y A A' c c' w hl hr hr'=>by
  refine fn_ret (cxOk Try.prog intsR_ok [] [rSign,rLess]) follows Try.func129 rfl 100 _ rfl (by simp) ?_ (args2 hr hr')
  repeat' first
    | exact trivial
    | (refine And.intro (show regChk _ _ _ _ _=true from by kernel_rfl) (And.intro ?_ ?_))
    | (refine And.intro (fun hb=>?_) (fun hb'=>?_))
    | refine And.intro ?_ ?_
    | intro _
  all_goals first
    | (show (_:Int)=(_:Int);rfl)
    | (show (_:Bool)=(_:Bool);first|assumption|exact beq_iff_eq.2 (by assumption)|exact g2 (by assumption) (by assumption))
    | exact hl.1
    | exact hl.2
    | (show some (CR.tv (tN _ _))=some (CR.tv (tN _ _));exact tN_eq (cmp_sub x y))
    -- PVC
  )
def rLeft:Con Try.prog:=con1n 127 (fun x n=>BI 20000 x∧0≤n∧n≤6400) (fun x n => .tv (tI (x*2 ^ n.toNat))) ⟨_,Try.func127,by kernel_rfl,rfl⟩ (fun x n A c w hl hr=>by
  have e:=ofS_mul' x (2 ^ n.toNat)
  rw [Int.natCast_pow] at e
  refine fn_ret (cxOk Try.prog intsR_ok [] [rMade,cUp2]) follows Try.func127 rfl 100 _ rfl (by simp) ?_ (args1n hr)
  repeat' first
    | exact trivial
    | (refine And.intro (show regChk _ _ _ _ _=true from by kernel_rfl) (And.intro ?_ ?_))
    | (refine And.intro (fun hb=>?_) (fun hb'=>?_))
    | refine And.intro ?_ ?_
    | intro _
  all_goals first
    | (show (_:Int)=(_:Int);rfl)
    | (show (_:Bool)=(_:Bool);first|assumption|exact beq_iff_eq.2 (by assumption)|exact g2 (by assumption) (by assumption))
    | exact hl.1
    | exact hl.2.1
    | exact hl.2.2
    | (show some (CR.tv (tI _))=some (CR.tv (tI _));exact wh_eq e)
    -- PVC
  )
def rRight:Con Try.prog:=con1n 128 (fun x n=>BI 10000 x∧0≤n∧n≤6400) (fun x n => .tv (tI (x/2 ^ n.toNat))) ⟨_,Try.func128,by kernel_rfl,rfl⟩ (fun x n A c w hl hr=>by
  refine fn_ret (cxOk Try.prog intsR_ok [] [rMade,cUp2,cDown2,cNCmp,cNPlus,cNOf]) follows Try.func128 rfl 100 _ rfl (by simp) ?_ (args1n hr)
  repeat' first
    | exact trivial
    | (refine And.intro (show regChk _ _ _ _ _=true from by kernel_rfl) (And.intro ?_ ?_))
    | (refine And.intro (fun hb=>?_) (fun hb'=>?_))
    | refine And.intro ?_ ?_
    | intro _
  all_goals first
    | (show (_:Int)=(_:Int);rfl)
    | (show (_:Bool)=(_:Bool);first|assumption|exact beq_iff_eq.2 (by assumption)|exact g2 (by assumption) (by assumption))
    | (show B 20000 (_:Nat);first|exact hl.1.mono (by decide)|exact (B.div hl.1 _).mono (by decide)|exact ((B.le hl.1 (Nat.div_mul_le_self _ _)).mono (by decide))|exact B.mono (e:=1) (show (1:Nat)<2 ^ 1 by decide) (by decide))
    | exact hl.2.1
    | exact hl.2.2
    | (show (0:Int)≤1;decide)
    | (show (1:Int)<18446744073709551616;decide)
    | (show some (CR.tv (tI _))=some (CR.tv (tI _));(first|exact wh_eq (right_up (by assumption))|exact wh_eq (right_dn (by assumption))))
    -- PVC
  )
def rDivide:Con Try.prog:=con2 126 (fun x y=>BI 9000 x∧BI 9000 y∧0<y) (fun x y => .tv (tQR (x/y) (x%y))) ⟨_,Try.func126,by kernel_rfl,rfl⟩ (fun x y A A' c c' w hl hr hr'=>by
  refine fn_ret (cxOk Try.prog intsR_ok [] [rMade,cNDivide,rLess,rFrom,rTimes]) follows Try.func126 rfl 100 _ rfl (by simp) ?_ (args2 hr hr')
  repeat' first
    | exact trivial
    | (refine And.intro (show regChk _ _ _ _ _=true from by kernel_rfl) (And.intro ?_ ?_))
    | (refine And.intro (fun hb=>?_) (fun hb'=>?_))
    | refine And.intro ?_ ?_
    | intro _
  all_goals first
    | (show (_:Int)=(_:Int);rfl)
    | (show (_:Bool)=(_:Bool);first|assumption|exact beq_iff_eq.2 (by assumption)|exact g2 (by assumption) (by assumption))
    | (show B 20000 (_:Nat);first|exact hl.1.mono (by decide)|exact hl.2.1.mono (by decide))
    | (show 0<y.natAbs;have:=hl.2.2;omega)
    | (show (-9223372036854775808:Int)≤1;decide)
    | (show (1:Int)<9223372036854775808;decide)
    | (show BI 20000 _;first|exact BI.one.mono (by decide)|exact hl.1.mono (by decide)|exact hl.2.1.mono (by decide)|exact (BI.ofS _ (B.div hl.1 _)).mono (by decide)|exact BI.sub (e:=9000) (BI.ofS _ (B.div hl.1 _)) (BI.one.mono (by decide)) (by decide)|exact BI.mul (e:=9001) (f:=9000) (BI.sub (e:=9000) (BI.ofS _ (B.div hl.1 _)) (BI.one.mono (by decide)) (by decide)) hl.2.1 (by decide)|exact BI.mul (e:=9000) (f:=9000) (BI.ofS _ (B.div hl.1 _)) hl.2.1 (by decide))
    | (show some (CR.tv (tQR _ _))=some (CR.tv (tQR _ _));first|exact qr_eq (rdv1 hl.2.2 (by assumption)).1 (rdv1 hl.2.2 (by assumption)).2|exact qr_eq (rdv2 hl.2.2 (by assumption)).1 (rdv2 hl.2.2 (by assumption)).2)
    -- PVC
  )
def rSmall:Con Try.prog:=con1 125 (fun _=>True) (fun x => .tv (tNB (smallI x).1 (smallI x).2)) ⟨_,Try.func125,by kernel_rfl,rfl⟩ (fun x A c w hl hr=>by
  refine fn_ret (cxOk Try.prog intsR_ok [] []) follows Try.func125 rfl 100 _ rfl (by simp) ?_ (args1 hr)
  repeat' first
    | exact trivial
    | (refine And.intro (show regChk _ _ _ _ _=true from by kernel_rfl) (And.intro ?_ ?_))
    | (refine And.intro (fun hb=>?_) (fun hb'=>?_))
    | refine And.intro ?_ ?_
    | intro _
  all_goals first
    | (show (_:Int)=(_:Int);rfl)
    | (show (_:Bool)=(_:Bool);first|assumption|exact beq_iff_eq.2 (by assumption)|exact g2 (by assumption) (by assumption))
    | (show (0:Int)<((lm x).length:Int);exact len_gt (by assumption))
    | (show (0:Int)≤0;decide)
    | (show (0:Int)<_;exact len_gt (by assumption))
    | (show some (CR.tv (tNB _ _))=some (CR.tv (tNB _ _));first|exact nb_eq (small0 (by assumption))|exact nb_eq (rsmall1 (by assumption) (by assumption))|exact nb_eq (rsmall2 (by assumption) (by assumption) (by assumption))|exact nb_eq (rsmall3 (by assumption) (by assumption) (by assumption)))
    -- PVC
  )
end
end Go.Proofs.Ytonelbidndjhdaa.Wh
end
section
set_option linter.unusedVariables false
set_option linter.unusedSimpArgs false
namespace Go.Proofs.Ytonelbidndjhdaa.Wh
open Go RowKit YtonelbidndjhdaaW.PrintWords YtonelbidndjhdaaW.PrintMore YtonelbidndjhdaaW.Aid YtonelbidndjhdaaW.Big YtonelbidndjhdaaW.Sx Ytonelbidndjhdaa.BitsWalk Ytonelbidndjhdaa.Limbs Ytonelbidndjhdaa.Whole Ytonelbidndjhdaa.R90 Ytonelbidndjhdaa.QN90 Ytonelbidndjhdaa.FxWalk Go.Proofs
abbrev tRat (x d:Int):TV := .agg [.neg x,.mag x,.mag d]
def gcdI (n d:Int):Int:=((Nat.gcd n.natAbs d.natAbs:Nat):Int)
theorem nn_eq2 {p q:Int × Int} (h:p=q):(some (CR.tv (tNN p.1 p.2)):Option CR)=some (CR.tv (tNN q.1 q.2)):=by rw [h]
theorem rat_eq {x d x' d':Int} (h:x=x') (h':d=d'):(some (CR.tv (tRat x d)):Option CR)=some (CR.tv (tRat x' d')):=by rw [h,h']
theorem ofS_false {d:Int} (h:0≤d):ofS false d.natAbs=d:=by
  show ((d.natAbs:Nat):Int)=d
  omega
theorem gcd_pos (n:Nat) {d:Int} (h:0<d):0<Nat.gcd n d.natAbs:=Nat.gcd_pos_of_pos_right _ (by omega)
theorem gcdI_pos (n:Int) {d:Int} (h:0<d):0<gcdI n d:=by
  have:=gcd_pos n.natAbs h
  unfold gcdI;omega
theorem make_num {n:Int} {g:Nat} (h:g∣n.natAbs) (hg:0<g):ofS (sgn n) (n.natAbs/g)=n/(g:Int):=by
  obtain ⟨q,hq⟩:=h
  rw [hq,Nat.mul_div_cancel_left _ hg]
  cases hs:sgn n with
  | true =>
    have hn:=sgn_t hs
    have e:n=(g:Int)*(-(q:Int)):=by rw [Int.mul_neg,← Int.natCast_mul,← hq];omega
    rw [e,Int.mul_ediv_cancel_left _ (by omega)]
    rfl
  | false =>
    have hn:=sgn_f hs
    have e:n=(g:Int)*(q:Int):=by rw [← Int.natCast_mul,← hq];omega
    rw [e,Int.mul_ediv_cancel_left _ (by omega)]
    rfl
theorem make_den {d:Int} {g:Nat} (h:0≤d):((d.natAbs/g:Nat):Int)=d/(g:Int):=by rw [Int.natCast_ediv,Int.natAbs_of_nonneg h]
theorem gcdI_n (n d:Int):∃ q,n=gcdI n d*q:=by
  obtain ⟨q,hq⟩:=Nat.gcd_dvd_left n.natAbs d.natAbs
  rcases Int.le_total 0 n with h|h
  · exact ⟨q,by unfold gcdI;rw [← Int.natCast_mul,← hq];omega⟩
  · exact ⟨-(q:Int),by unfold gcdI;rw [Int.mul_neg,← Int.natCast_mul,← hq];omega⟩
theorem gcdI_d (n:Int) {d:Int} (h:0≤d):∃ q,d=gcdI n d*q:=by
  obtain ⟨q,hq⟩:=Nat.gcd_dvd_right n.natAbs d.natAbs
  exact ⟨q,by unfold gcdI;rw [← Int.natCast_mul,← hq];omega⟩
theorem round_gcd (n:Int) {d:Int} (h:0<d):roundP (n/gcdI n d) (d/gcdI n d)=roundP n d∧0<d/gcdI n d:=by
  have hg:=gcdI_pos n h
  obtain ⟨q,hq⟩:=gcdI_n n d
  obtain ⟨r,hr⟩:=gcdI_d n (Int.le_of_lt h)
  generalize gcdI n d=g at *
  subst hq hr
  rw [Int.mul_ediv_cancel_left _ (by omega),Int.mul_ediv_cancel_left _ (by omega)]
  have hr0:0<r:=by
    by_cases h1:0<r
    · exact h1
    · have:=Int.mul_le_mul_of_nonneg_left (show r≤0 by omega) (Int.le_of_lt hg)
      rw [Int.mul_zero] at this;omega
  exact ⟨(roundP_scale hg hr0).symm,hr0⟩
theorem b30:BI 31 1073741824:=by show (1073741824:Int).natAbs<2 ^ 31;decide
theorem near_cases (x:Int) {d:Int} (hd:0<d):(2*(x%d)<d∧x*2/d=2*(x/d)∧x*2%d=2*(x%d))∨(d≤2*(x%d)∧x*2/d=2*(x/d)+1∧x*2%d=2*(x%d)-d):=by
  have e:=Int.emod_add_mul_ediv x d
  have h0:=Int.emod_nonneg x (by omega:d≠0)
  have h1:=Int.emod_lt_of_pos x hd
  generalize x%d=m at *
  generalize x/d=q at *
  by_cases h:2*m<d
  · left
    have e2:x*2=2*m+d*(2*q):=by rw [show d*(2*q)=2*(d*q) by rw [← Int.mul_assoc,Int.mul_comm d 2,Int.mul_assoc]];omega
    refine ⟨h,?_,?_⟩
    · rw [e2,Int.add_mul_ediv_left _ _ (by omega),Int.ediv_eq_zero_of_lt (by omega) h];omega
    · rw [e2,Int.add_mul_emod_self_left,Int.emod_eq_of_lt (by omega) h]
  · right
    have e2:x*2=(2*m-d)+d*(2*q+1):=by rw [Int.mul_add,show d*(2*q)=2*(d*q) by rw [← Int.mul_assoc,Int.mul_comm d 2,Int.mul_assoc]];omega
    refine ⟨by omega,?_,?_⟩
    · rw [e2,Int.add_mul_ediv_left _ _ (by omega),Int.ediv_eq_zero_of_lt (by omega) (by omega)];omega
    · rw [e2,Int.add_mul_emod_self_left,Int.emod_eq_of_lt (by omega) (by omega)]
theorem cmpI_zero {x y:Int}:cmpI x y=0↔x=y:=by
  unfold cmpI
  split
  · constructor<;>intro h<;>omega
  · split
    · constructor<;>intro h<;>omega
    · constructor<;>intro h<;>omega
theorem near_even {x d:Int} (hd:0<d) (h:(!(cmpI (x*2 ^ Int.toNat 1/ofS false d.natAbs/2 ^ Int.toNat 1*2 ^ Int.toNat 1) (x*2 ^ Int.toNat 1/ofS false d.natAbs) != 0))=true):x*2 ^ Int.toNat 1/ofS false d.natAbs/2 ^ Int.toNat 1=roundP x d:=by
  rw [ofS_false (Int.le_of_lt hd)] at *
  have h2:(2:Int) ^ Int.toNat 1=2:=rfl
  rw [h2] at *
  have h3:cmpI (x*2/d/2*2) (x*2/d)=0:=by simpa using h
  rw [cmpI_zero] at h3
  unfold roundP
  rcases near_cases x hd with ⟨a,b,c⟩|⟨a,b,c⟩
  · rw [b,if_neg (by omega)];omega
  · rw [b] at h3;omega
theorem near_up {x d:Int} (hd:0<d) (h:(!(cmpI (x*2 ^ Int.toNat 1/ofS false d.natAbs/2 ^ Int.toNat 1*2 ^ Int.toNat 1) (x*2 ^ Int.toNat 1/ofS false d.natAbs) != 0))=false) (hr:(!decide (x*2 ^ Int.toNat 1%ofS false d.natAbs=0))=true):x*2 ^ Int.toNat 1/ofS false d.natAbs/2 ^ Int.toNat 1+1=roundP x d:=by
  rw [ofS_false (Int.le_of_lt hd)] at *
  have h2:(2:Int) ^ Int.toNat 1=2:=rfl
  rw [h2] at *
  have h3:¬ cmpI (x*2/d/2*2) (x*2/d)=0:=by simpa using h
  rw [cmpI_zero] at h3
  have h4:¬ x*2%d=0:=by simpa using hr
  unfold roundP
  rcases near_cases x hd with ⟨a,b,c⟩|⟨a,b,c⟩
  · rw [b] at h3;omega
  · rw [b,if_pos (by omega)];omega
theorem near_tie {x d:Int} (hd:0<d) (h:(!(cmpI (x*2 ^ Int.toNat 1/ofS false d.natAbs/2 ^ Int.toNat 1*2 ^ Int.toNat 1) (x*2 ^ Int.toNat 1/ofS false d.natAbs) != 0))=false) (hr:(!decide (x*2 ^ Int.toNat 1%ofS false d.natAbs=0))=false) {b:Bool}
    (hc:(cmpI (x*2 ^ Int.toNat 1/ofS false d.natAbs/2 ^ Int.toNat 1/2 ^ Int.toNat 1*2 ^ Int.toNat 1) (x*2 ^ Int.toNat 1/ofS false d.natAbs/2 ^ Int.toNat 1) == 0)=b) :
    x*2 ^ Int.toNat 1/ofS false d.natAbs/2 ^ Int.toNat 1+(if b then 0 else 1)=roundP x d:=by
  rw [ofS_false (Int.le_of_lt hd)] at h hr hc ⊢
  have h2:(2:Int) ^ Int.toNat 1=2:=rfl
  simp only [h2] at h hr hc ⊢
  have h3:¬ cmpI (x*2/d/2*2) (x*2/d)=0:=by simpa using h
  rw [cmpI_zero] at h3
  have h4:x*2%d=0:=by simpa using hr
  unfold roundP
  rcases near_cases x hd with ⟨a,b',c⟩|⟨a,b',c⟩
  · rw [b'] at h3;omega
  · rw [b'] at hc ⊢
    have e:(2*(x/d)+1)/2=x/d:=by omega
    rw [e] at hc ⊢
    cases b with
    | true =>
      have h5:=cmpI_zero.1 (beq_iff_eq.1 hc)
      rw [if_pos rfl,if_neg (by omega)];omega
    | false =>
      have h5:¬ x/d/2*2=x/d:=fun e=>by
        have:=cmpI_zero.2 e
        rw [this] at hc;cases hc
      rw [if_neg (by decide),if_pos (by omega)]
theorem near_t1 {x d:Int} (hd:0<d) (h:(!(cmpI (x*2 ^ Int.toNat 1/ofS false d.natAbs/2 ^ Int.toNat 1*2 ^ Int.toNat 1) (x*2 ^ Int.toNat 1/ofS false d.natAbs) != 0))=false) (hr:(!decide (x*2 ^ Int.toNat 1%ofS false d.natAbs=0))=false)
    (hc:(cmpI (x*2 ^ Int.toNat 1/ofS false d.natAbs/2 ^ Int.toNat 1/2 ^ Int.toNat 1*2 ^ Int.toNat 1) (x*2 ^ Int.toNat 1/ofS false d.natAbs/2 ^ Int.toNat 1) == 0)=true) :
    x*2 ^ Int.toNat 1/ofS false d.natAbs/2 ^ Int.toNat 1=roundP x d:=by
  have:=near_tie hd h hr hc
  rwa [if_pos rfl,Int.add_zero] at this
theorem near_t0 {x d:Int} (hd:0<d) (h:(!(cmpI (x*2 ^ Int.toNat 1/ofS false d.natAbs/2 ^ Int.toNat 1*2 ^ Int.toNat 1) (x*2 ^ Int.toNat 1/ofS false d.natAbs) != 0))=false) (hr:(!decide (x*2 ^ Int.toNat 1%ofS false d.natAbs=0))=false)
    (hc:(cmpI (x*2 ^ Int.toNat 1/ofS false d.natAbs/2 ^ Int.toNat 1/2 ^ Int.toNat 1*2 ^ Int.toNat 1) (x*2 ^ Int.toNat 1/ofS false d.natAbs/2 ^ Int.toNat 1) == 0)=false) :
    x*2 ^ Int.toNat 1/ofS false d.natAbs/2 ^ Int.toNat 1+1=roundP x d:=by
  have:=near_tie hd h hr hc
  rwa [if_neg (by decide)] at this
theorem may_eq (v:Int):(bif decide (v > -35184372088832) then decide (v<35184372088832) else false)=wd v:=by
  rw [Bool.eq_iff_iff,wd_iff]
  by_cases h:v > -35184372088832
  · rw [decide_eq_true h];simp;omega
  · rw [decide_eq_false h];simp;omega
theorem gtold0 {x:Int} (h:(bif !(smallI x).2 then true else !wd (smallI x).1)=true):((0:Int),(2:Int))=toldR x:=by
  cases hs:(smallI x).2 with
  | false=>have:=told0 (x:=x) (by rw [hs];rfl);exact this
  | true =>
    rw [hs] at h
    have h2:wd (smallI x).1=false:=by simpa using h
    have e:(smallI x).1=x:=by
      unfold smallI at hs ⊢
      split
      · rfl
      · rename_i hc;rw [if_neg hc] at hs;cases hs
    rw [e] at h2
    unfold toldR;rw [h2];rfl
theorem gtold1 {x:Int} (h:(bif !(smallI x).2 then true else !wd (smallI x).1)=false):((smallI x).1,(0:Int))=toldR x:=by
  cases hs:(smallI x).2 with
  | false=>rw [hs] at h;cases h
  | true =>
    rw [hs] at h
    have h2:wd (smallI x).1=true:=by simpa using h
    have e:(smallI x).1=x:=by
      unfold smallI at hs ⊢
      split
      · rfl
      · rename_i hc;rw [if_neg hc] at hs;cases hs
    rw [e] at h2 ⊢
    unfold toldR;rw [h2];rfl
section
set_option maxRecDepth 100000
set_option maxHeartbeats 1000000
def qMake:Con Try.prog where
  f:=86
  sem:=fun xs=>match xs with
    | [.agg [.neg n,.mag n'],.sc (.mag d)]=>some (n'=n∧0<d∧BI 8000 n∧BI 8000 d,.tv (tRat (n/gcdI n d) (d/gcdI n d)))
    | _=>none
  ok := by
    intro xs p r' h hp
    refine ⟨⟨_,Try.func86,by kernel_rfl,rfl⟩,fun us w ha=>?_⟩
    split at h
    · rename_i n n' d
      cases h
      obtain ⟨rfl,h0,hn,hd⟩:=hp
      have gp:=gcd_pos n'.natAbs h0
      have gl:B 8000 (Nat.gcd n'.natAbs d.natAbs):=B.le hd (Nat.gcd_le_right _ (by omega))
      refine fn_ret (cxOk Try.prog intsR_ok [] [cNGcd,cNDivide,rMade]) follows Try.func86 rfl 100 _ rfl (by simp) ?_ ha
      repeat' first
        | exact trivial
        | (refine And.intro (show regChk _ _ _ _ _=true from by kernel_rfl) (And.intro ?_ ?_))
        | (refine And.intro (fun _=>?_) (fun h=>absurd (show true=false from h) (by decide)))
        | (refine And.intro (fun h=>absurd (show false=true from h) (by decide)) (fun _=>?_))
        | (refine And.intro (fun hb=>?_) (fun hb'=>?_))
        | refine And.intro ?_ ?_
        | intro _
      all_goals first
        | (show (_:Int)=(_:Int);rfl)
        | (show (_:Bool)=(_:Bool);first|assumption|exact beq_iff_eq.2 (by assumption)|exact g2 (by assumption) (by assumption))
        | (show B _ _;first|exact B.mono hn (by decide)|exact B.mono hd (by decide)|exact B.mono gl (by decide))
        | (show 0<Int.natAbs _;exact gp)
        | (show some (CR.tv (tRat _ _))=some (CR.tv (tRat _ _));exact rat_eq (by simp only [Int.natAbs_natCast];exact make_num (Nat.gcd_dvd_left _ _) gp) (by simp only [Int.natAbs_natCast];exact make_den (Int.le_of_lt h0)))
        -- PVC
    · cases h
def qNear:Con Try.prog where
  f:=112
  sem:=fun xs=>match xs with
    | [.agg [.neg x,.mag x',.mag d]]=>some (x'=x∧0<d∧BI 8000 x∧BI 8000 d,.tv (tI (roundP x d)))
    | _=>none
  ok := by
    intro xs p r' h hp
    refine ⟨⟨_,Try.func112,by kernel_rfl,rfl⟩,fun us w ha=>?_⟩
    split at h
    · rename_i x x' d
      cases h
      obtain ⟨rfl,h0,hn,hd⟩:=hp
      have b1:BI 8001 (x'*2 ^ Int.toNat 1):=BI.shl 1 hn (by decide)
      have b2:BI 8000 (ofS false d.natAbs):=by rw [ofS_false (Int.le_of_lt h0)];exact hd
      have b3:BI 8001 (x'*2 ^ Int.toNat 1/ofS false d.natAbs):=b1.div _
      have b4:BI 8001 (x'*2 ^ Int.toNat 1/ofS false d.natAbs/2 ^ Int.toNat 1):=b3.div _
      have b5:BI 8002 (x'*2 ^ Int.toNat 1/ofS false d.natAbs/2 ^ Int.toNat 1*2 ^ Int.toNat 1):=BI.shl 1 b4 (by decide)
      have b6:BI 8002 (x'*2 ^ Int.toNat 1/ofS false d.natAbs/2 ^ Int.toNat 1/2 ^ Int.toNat 1*2 ^ Int.toNat 1):=BI.shl 1 (b4.div _) (by decide)
      refine fn_ret (cxOk Try.prog intsR_ok [] [rMade,rDivide,rLeft,rRight,rCmp,rPlus,rFrom,rZero]) follows Try.func112 rfl 100 _ rfl (by simp) ?_ ha
      repeat' first
        | exact trivial
        | (refine And.intro (show regChk _ _ _ _ _=true from by kernel_rfl) (And.intro ?_ ?_))
        | (refine And.intro (fun _=>?_) (fun h=>absurd (show true=false from h) (by decide)))
        | (refine And.intro (fun h=>absurd (show false=true from h) (by decide)) (fun _=>?_))
        | (refine And.intro (fun hb=>?_) (fun hb'=>?_))
        | refine And.intro ?_ ?_
        | intro _
      all_goals first
        | (show (_:Int)=(_:Int);rfl)
        | (show (_:Bool)=(_:Bool);first|assumption|exact beq_iff_eq.2 (by assumption)|exact g2 (by assumption) (by assumption))
        | (show (-9223372036854775808:Int)≤0;decide)
        | (show (-9223372036854775808:Int)≤1;decide)
        | (show (0:Int)<9223372036854775808;decide)
        | (show (1:Int)<9223372036854775808;decide)
        | (show (0:Int)≤1;decide)
        | (show (1:Int)≤6400;decide)
        | (show (1:Int)<18446744073709551616;decide)
        | (show (0:Int)≤2;decide)
        | (show (2:Int)<18446744073709551616;decide)
        | (show (0:Int)≤30;decide)
        | (show (30:Int)≤6400;decide)
        | (show (2:Int)=2;rfl)
        | (show (_:Nat)=(_:Nat);rfl)
        | (show (0:Int)<ofS _ _;rw [ofS_false (Int.le_of_lt h0)];exact h0)
        | (show BI _ _;first|exact BI.mono hn (by decide)|exact BI.mono b2 (by decide)|exact BI.mono BI.one (by decide)|exact BI.mono b3 (by decide)|exact BI.mono b4 (by decide)|exact BI.mono b5 (by decide)|exact BI.mono (b4.div _) (by decide)|exact BI.mono b6 (by decide)|exact BI.mono b1 (by decide))
        | (show some (CR.tv (tI _))=some (CR.tv (tI _));first|exact wh_eq (near_even h0 (by assumption))|exact wh_eq (near_up h0 (by assumption) (by assumption))|exact wh_eq (near_t1 h0 (by assumption) (by assumption) (by assumption))|exact wh_eq (near_t0 h0 (by assumption) (by assumption) (by assumption)))
        -- PVC
    · cases h
def gMay:Con Try.prog where
  f:=26
  sem:=fun xs=>match xs with
    | [.sc (.v (.int .i64 v))]=>some (True,.tv (tB (wd v)))
    | _=>none
  ok := by
    intro xs p r' h hp
    refine ⟨⟨_,Try.func26,by kernel_rfl,rfl⟩,fun us w ha=>?_⟩
    split at h
    · rename_i v
      cases h
      refine fn_ret (cxOk Try.prog intsR_ok [] []) follows Try.func26 rfl 100 _ rfl (by simp) ?_ ha
      repeat' first
        | exact trivial
        | (refine And.intro (show regChk _ _ _ _ _=true from by kernel_rfl) (And.intro ?_ ?_))
        | (refine And.intro (fun _=>?_) (fun h=>absurd (show true=false from h) (by decide)))
        | (refine And.intro (fun h=>absurd (show false=true from h) (by decide)) (fun _=>?_))
        | (refine And.intro (fun hb=>?_) (fun hb'=>?_))
        | refine And.intro ?_ ?_
        | intro _
      all_goals first
        | (show (_:Int)=(_:Int);rfl)
        | (show (_:Bool)=(_:Bool);first|assumption|exact beq_iff_eq.2 (by assumption)|exact g2 (by assumption) (by assumption))
        | (show some (CR.tv (tB _))=some (CR.tv (tB _));exact tB_eq (may_eq v))
        -- PVC
    · cases h
def gWord:Con Try.prog where
  f:=111
  sem:=fun xs=>match xs with
    | [.agg [.neg x,.mag x']]=>some (x'=x,.tv (tNN (toldR x).1 (toldR x).2))
    | _=>none
  ok := by
    intro xs p r' h hp
    refine ⟨⟨_,Try.func111,by kernel_rfl,rfl⟩,fun us w ha=>?_⟩
    split at h
    · rename_i x x'
      cases h
      obtain rfl:=hp
      refine fn_ret (cxOk Try.prog intsR_ok [] [rSmall,gMay]) follows Try.func111 rfl 100 _ rfl (by simp) ?_ ha
      repeat' first
        | exact trivial
        | (refine And.intro (show regChk _ _ _ _ _=true from by kernel_rfl) (And.intro ?_ ?_))
        | (refine And.intro (fun _=>?_) (fun h=>absurd (show true=false from h) (by decide)))
        | (refine And.intro (fun h=>absurd (show false=true from h) (by decide)) (fun _=>?_))
        | (refine And.intro (fun hb=>?_) (fun hb'=>?_))
        | refine And.intro ?_ ?_
        | intro _
      all_goals first
        | (show (_:Int)=(_:Int);rfl)
        | (show (_:Bool)=(_:Bool);first|assumption|exact beq_iff_eq.2 (by assumption)|exact g2 (by assumption) (by assumption))
        | (show some (CR.tv (tNN _ _))=some (CR.tv (tNN _ _));first|exact nn_eq (gtold0 (by assumption))|exact nn_eq (gtold1 (by assumption)))
        -- PVC
    · cases h
def gNear:Con Try.prog where
  f:=85
  sem:=fun xs=>match xs with
    | [.agg [.neg x,.mag x',.mag d]]=>some (x'=x∧0<d∧BI 8000 x∧BI 8000 d,.tv (tNN (toldR (roundP x d)).1 (toldR (roundP x d)).2))
    | _=>none
  ok := by
    intro xs p r' h hp
    refine ⟨⟨_,Try.func85,by kernel_rfl,rfl⟩,fun us w ha=>?_⟩
    split at h
    · rename_i x x' d
      cases h
      obtain ⟨rfl,h0,hn,hd⟩:=hp
      refine fn_ret (cxOk Try.prog intsR_ok [] [qNear,gWord]) follows Try.func85 rfl 100 _ rfl (by simp) ?_ ha
      repeat' first
        | exact trivial
        | (refine And.intro (show regChk _ _ _ _ _=true from by kernel_rfl) (And.intro ?_ ?_))
        | (refine And.intro (fun _=>?_) (fun h=>absurd (show true=false from h) (by decide)))
        | (refine And.intro (fun h=>absurd (show false=true from h) (by decide)) (fun _=>?_))
        | (refine And.intro (fun hb=>?_) (fun hb'=>?_))
        | refine And.intro ?_ ?_
        | intro _
      all_goals first
        | (show (_:Int)=(_:Int);rfl)
        | (show (_:Bool)=(_:Bool);first|assumption|exact beq_iff_eq.2 (by assumption)|exact g2 (by assumption) (by assumption))
        | (show BI _ _;first|exact BI.mono hn (by decide)|exact BI.mono hd (by decide))
        | (show (0:Int)<d;exact h0)
        | (show some (CR.tv (tNN _ _))=some (CR.tv (tNN _ _));rfl)
        -- PVC
    · cases h
def gNearQ:Con Try.prog where
  f:=58
  sem:=fun xs=>match xs with
    | [.agg [.neg n,.mag n']]=>some (n'=n∧BI 4000 n,.tv (tNN (toldR (roundP n 1073741824)).1 (toldR (roundP n 1073741824)).2))
    | _=>none
  ok := by
    intro xs p r' h hp
    refine ⟨⟨_,Try.func58,by kernel_rfl,rfl⟩,fun us w ha=>?_⟩
    split at h
    · rename_i n n'
      cases h
      obtain ⟨rfl,hn⟩:=hp
      refine fn_ret (cxOk Try.prog intsR_ok [] [cNOf,cUp2,qMake,gNear]) follows Try.func58 rfl 100 _ rfl (by simp) ?_ ha
      repeat' first
        | exact trivial
        | (refine And.intro (show regChk _ _ _ _ _=true from by kernel_rfl) (And.intro ?_ ?_))
        | (refine And.intro (fun _=>?_) (fun h=>absurd (show true=false from h) (by decide)))
        | (refine And.intro (fun h=>absurd (show false=true from h) (by decide)) (fun _=>?_))
        | (refine And.intro (fun hb=>?_) (fun hb'=>?_))
        | refine And.intro ?_ ?_
        | intro _
      all_goals first
        | (show (_:Int)=(_:Int);rfl)
        | (show (_:Bool)=(_:Bool);first|assumption|exact beq_iff_eq.2 (by assumption)|exact g2 (by assumption) (by assumption))
        | (show (-9223372036854775808:Int)≤0;decide)
        | (show (-9223372036854775808:Int)≤1;decide)
        | (show (0:Int)<9223372036854775808;decide)
        | (show (1:Int)<9223372036854775808;decide)
        | (show (0:Int)≤1;decide)
        | (show (1:Int)≤6400;decide)
        | (show (1:Int)<18446744073709551616;decide)
        | (show (0:Int)≤2;decide)
        | (show (2:Int)<18446744073709551616;decide)
        | (show (0:Int)≤30;decide)
        | (show (30:Int)≤6400;decide)
        | (show (2:Int)=2;rfl)
        | (show (_:Nat)=(_:Nat);rfl)
        | (show BI _ _;first|exact BI.mono hn (by decide)|exact BI.mono b30 (by decide)|exact BI.mono (hn.div _) (by decide)|exact BI.mono (b30.div _) (by decide))
        | (show B _ _;exact B.mono (e:=1) (show (1:Nat)<2 ^ 1 by decide) (by decide))
        | (show (0:Int)<1073741824;decide)
        | (show (0:Int)<1073741824/gcdI _ _;exact (round_gcd n' (by decide)).2)
        | (show some (CR.tv (tNN _ _))=some (CR.tv (tNN _ _));exact nn_eq2 (congrArg toldR (round_gcd n' (by decide)).1))
        -- PVC
    · cases h
end
end Go.Proofs.Ytonelbidndjhdaa.Wh
end
section
set_option linter.unusedVariables false
set_option linter.unusedSimpArgs false
namespace Go.Proofs.YtonelbidndjhdaaW.Sx
open Go RowKit YtonelbidndjhdaaW.PrintWords YtonelbidndjhdaaW.PrintMore YtonelbidndjhdaaW.Aid YtonelbidndjhdaaW.Big
def guardBool (s:St) (ops:List Oper) (j:Nat):Option (Nat × Bool) :=
  match ops[j]? with
  | some oj=>match oj.dst with
    | some t=>match s.g t with
      | some (.sc c)=>match c.val? with
        | some (.bool b)=>some (t,b)
        | _=>none
      | _=>none
    | none=>none
  | none=>none
def St.lit (s:St) (t:Nat) (b:Bool):St:={ s with g:=upd s.g t (some (.sc (.v (.bool b)))) }
def St.skip (s:St) (dst:Option Tmp):St :=
  match dst with
  | some d=>{ s with g:=upd s.g d (some (.cond false (.sc (.v (.bool true))))) }
  | none=>s
def stepChk (X:Cx) (n:Nat) (s:St) (o:Oper) (e:Eff):Bool:=srcOk X o.op&&dstOk n o&&newB s o e
def stp (X:Cx) (n:Nat) (o:Oper) (next:St→Prop) (s:St):Prop :=
  match absR X s o with
  | some e=>stepChk X n s o e=true∧e.pre∧next (s.app o.dst e)
  | none=>False
def dstB (n:Nat) (dst:Option Tmp):Bool:=match dst with
  | some d=>decide (d<n)
  | none=>true
def vops (X:Cx) (n:Nat) (ops:List Oper) (kn:St→Prop):List Oper→St→Prop
  | [],s=>kn s
  | o :: r, s => match o.guard with
    | none=>stp X n o (vops X n ops kn r) s
    | some (j,true)=>match guardBool s ops j with
      | some (t,b)=>(b=true→stp X n o (vops X n ops kn r) (s.lit t true))∧(b=false→dstB n o.dst=true∧vops X n ops kn r ((s.lit t false).skip o.dst))
      | none=>match gcond s ops j true with
        | some false=>dstB n o.dst=true∧vops X n ops kn r (s.skip o.dst)
        | _=>False
    | some (j,false)=>match guardBool s ops j with
      | some (t,b)=>(b=false→stp X n o (vops X n ops kn r) (s.lit t false))∧(b=true→dstB n o.dst=true∧vops X n ops kn r ((s.lit t true).skip o.dst))
      | none=>match gcond s ops j false with
        | some false=>dstB n o.dst=true∧vops X n ops kn r (s.skip o.dst)
        | _=>False
section
variable {P:Program} {X:Cx} {base:Nat} {w0:World} {n:Nat} {s s':St} {a:Act} {w:World} {Q:Exit→Act→World→Prop} {ops:List Oper}
def allocs:Code→List Nat
  | .region _ ops _=>ops.toList.filterMap fun o=>match o.op with
    | .alloc _=>o.dst
    | _=>none
  | .seq a b=>allocs a++allocs b
  | .cond _ a b=>allocs a++allocs b
  | .block _ c=>allocs c
  | .loop c=>allocs c
  | _=>[]
def vcg (X:Cx) (n:Nat) (ts:List Nat):Nat→Code→(St→Prop)→(Nat→St→Prop)→(St→Prop)→St→Prop
  | 0,_,_,_,_,_=>False
  | f+1,.skip,kn,_,_,s=>kn s
  | f+1,.seq x y,kn,ke,kr,s=>vcg X n ts f x (vcg X n ts f y kn ke kr) ke kr s
  | f+1,.region _ ops false,kn,_,_,s=>vops X n ops.toList kn ops.toList s
  | f+1,.region _ ops true,kn,_,_,s=>match effs X ops.toList ops.toList s with
    | some (es,s')=>regChk X n ops.toList true es=true∧pres es∧kn s'
    | none=>False
  | f+1,.cond c x y,kn,ke,kr,s=>match boolOf (getv s.g c) with
    | some b=>(b=true→vcg X n ts f x kn ke kr s)∧(b=false→vcg X n ts f y kn ke kr s)
    | none=>False
  | f+1,.block id c,kn,ke,kr,s=>vcg X n ts f c kn (fun id' s=>if id'=id then kn s else ke id' s) kr s
  | f+1,.loop c,kn,ke,kr,s=>vcg X n ts f c (vcg X n ts f (.loop c) kn ke kr) ke kr (s.keep (ts.filter fun d=>!(allocs c).contains d))
  | f+1,.exit id,_,ke,_,s=>ke id s
  | f+1,.ret,_,_,kr,s=>kr s
  | _+1,_,_,_,_,_=>False
def vcd (X:Cx) (n:Nat) (ts:List Nat):Nat→Code→(St→Prop)→(Nat→St→Prop)→(St→Prop)→St→Prop
  | 0,_,_,_,_,_=>False
  | f+1,.skip,kn,_,_,s=>kn s
  | f+1,.seq x y,kn,ke,kr,s=>vcd X n ts f x (vcd X n ts f y kn ke kr) ke kr s
  | f+1,.region _ ops draw,kn,_,_,s=>match effs X ops.toList ops.toList s with
    | some (es,s')=>regChk X n ops.toList draw es=true∧pres es∧kn s'
    | none=>False
  | f+1,.cond c x y,kn,ke,kr,s=>match boolOf (getv s.g c) with
    | some b=>(b=true→vcd X n ts f x kn ke kr s)∧(b=false→vcd X n ts f y kn ke kr s)
    | none=>False
  | f+1,.block id c,kn,ke,kr,s=>vcd X n ts f c kn (fun id' s=>if id'=id then kn s else ke id' s) kr s
  | f+1,.loop c,kn,ke,kr,s=>vcd X n ts f c (vcd X n ts f (.loop c) kn ke kr) ke kr (s.keep (ts.filter fun d=>!(allocs c).contains d))
  | f+1,.exit id,_,ke,_,s=>ke id s
  | f+1,.ret,_,_,kr,s=>kr s
  | _+1,_,_,_,_,_=>False
theorem vcd_both (ok:CxOk2 P X) (hmo:P.follows .mixedOrders=true) (ts:List Nat):∀ (f:Nat),(∀ (c:Code) (kn:St→Prop) (ke:Nat→St→Prop) (kr:St→Prop) (s:St) (a:Act) (w:World) (Q:Exit→Act→World→Prop),vcd X n ts f c kn ke kr s→SatE base w0 n s a w →
    (∀ s a w,kn s→SatE base w0 n s a w→Q .normal a w)→(∀ id s a w,ke id s→SatE base w0 n s a w→Q (.exit id) a w)→(∀ s a w,kr s→SatE base w0 n s a w→Q .ret a w)→c.wp P Q a w) ∧
    (∀ (c:Code) (kn:St→Prop) (ke:Nat→St→Prop) (kr:St→Prop) (s:St) (a:Act) (w:World) (Q:Exit→Act→World→Prop),vcd X n ts f (.loop c) kn ke kr s→SatE base w0 n s a w →
    (∀ id s a w,ke id s→SatE base w0 n s a w→Q (.exit id) a w)→(∀ s a w,kr s→SatE base w0 n s a w→Q .ret a w)→Code.rounds P c Q f a w):=by
  intro f
  induction f with
  | zero=>exact ⟨(fun c kn ke kr s a w Q h=>by cases h),(fun c kn ke kr s a w Q h=>by cases h)⟩
  | succ f ih =>
    obtain ⟨ihA,ihB⟩:=ih
    have hB:∀ (c:Code) (kn:St→Prop) (ke:Nat→St→Prop) (kr:St→Prop) (s:St) (a:Act) (w:World) (Q:Exit→Act→World→Prop),vcd X n ts (f+1) (.loop c) kn ke kr s→SatE base w0 n s a w →
        (∀ id s a w,ke id s→SatE base w0 n s a w→Q (.exit id) a w)→(∀ s a w,kr s→SatE base w0 n s a w→Q .ret a w)→Code.rounds P c Q (f+1) a w:=by
      intro c kn ke kr s a w Q h hS he hr
      obtain ⟨β,hS⟩:=hS
      exact ihA c _ ke kr _ a w _ h ⟨β,hS.keep _⟩ (fun s a w hk hS=>ihB c kn ke kr s a w Q hk hS he hr) (fun id s a w hk hS=>he id s a w hk hS) (fun s a w hk hS=>hr s a w hk hS)
    refine ⟨?_,hB⟩
    intro c kn ke kr s a w Q h hS hn he hr
    cases c with
    | skip=>exact wp_skip (hn s a w h hS)
    | seq x y =>
      refine wp_seq (ihA x _ ke kr s a w _ h hS (fun s a w hk hS=>ihA y kn ke kr s a w Q hk hS hn he hr) (fun id s a w hk hS=>he id s a w hk hS) (fun s a w hk hS=>hr s a w hk hS))
    | region id ops draw =>
      simp only [vcd] at h
      split at h
      · rename_i es s' heff
        exact region_sound ok hmo heff h.1 h.2.1 hS (fun a w hS'=>hn s' a w h.2.2 hS')
      · cases h
    | cond c x y =>
      simp only [vcd] at h
      split at h
      · rename_i b hb
        refine wp_cond (boolOf_eq hS hb) ?_
        cases b with
        | true=>exact ihA x kn ke kr s a w Q (h.1 rfl) hS hn he hr
        | false=>exact ihA y kn ke kr s a w Q (h.2 rfl) hS hn he hr
      · cases h
    | block id c =>
      refine wp_block (ihA c kn _ kr s a w _ h hS (fun s a w hk hS=>hn s a w hk hS) (fun id' s a w hk hS=>?_) (fun s a w hk hS=>hr s a w hk hS))
      show if id'=id then Q .normal a w else Q (.exit id') a w
      split
      · rename_i e;rw [if_pos e] at hk;exact hn s a w hk hS
      · rename_i e;rw [if_neg e] at hk;exact he id' s a w hk hS
    | loop c=>exact wp_loop_rounds (f+1) (hB c kn ke kr s a w Q h hS he hr)
    | exit id=>exact wp_exit (he id s a w h hS)
    | ret=>exact wp_ret (hr s a w h hS)
    | rangeFunc _ _ _ _=>cases h
    | scope _=>cases h
    | label _=>cases h
    | goto _=>cases h
    | refuse _=>cases h
end
end Go.Proofs.YtonelbidndjhdaaW.Sx
end
section
set_option linter.unusedVariables false
set_option linter.unusedSimpArgs false
namespace Go.Proofs.YtonelbidndjhdaaW.Sx
open Go RowKit YtonelbidndjhdaaW.PrintWords YtonelbidndjhdaaW.PrintMore YtonelbidndjhdaaW.Aid YtonelbidndjhdaaW.Big
def partAt:Code→List Bool→Option Code
  | c,[]=>some c
  | .seq a b,d::p=>if d=true then partAt b p else partAt a p
  | .cond _ a b,d::p=>if d=true then partAt b p else partAt a p
  | .block _ c,_::p=>partAt c p
  | .loop c,_::p=>partAt c p
  | _,_=>none
def bodyAt (fn:Func) (p:List Bool):Option Code:=match fn.body with
  | some c=>partAt c p
  | none=>none
section
variable {P:Program} {X:Cx} {n base:Nat} {w0:World} {c c' x y:Code} {kn kx kn':St→Prop} {ke ke':Nat→St→Prop} {kr kr':St→Prop} {s:St}
def SpecC (P:Program) (n base:Nat) (w0:World) (c:Code) (kn:St→Prop) (ke:Nat→St→Prop) (kr:St→Prop) (s:St):Prop :=
  ∀ (a:Act) (w:World) (Q:Exit→Act→World→Prop),SatE base w0 n s a w→(∀ s a w,kn s→SatE base w0 n s a w→Q .normal a w)→(∀ id s a w,ke id s→SatE base w0 n s a w→Q (.exit id) a w)→(∀ s a w,kr s→SatE base w0 n s a w→Q .ret a w)→c.wp P Q a w
def SpecR (P:Program) (n base:Nat) (w0:World) (c:Code) (ke:Nat→St→Prop) (kr:St→Prop) (m:Nat) (s:St):Prop :=
  ∀ (a:Act) (w:World) (Q:Exit→Act→World→Prop),SatE base w0 n s a w→(∀ id s a w,ke id s→SatE base w0 n s a w→Q (.exit id) a w)→(∀ s a w,kr s→SatE base w0 n s a w→Q .ret a w)→Code.rounds P c Q m a w
theorem spec_of {o:Option Code} (h:o=some c) (h':o=some c') (k:SpecC P n base w0 c' kn ke kr s):SpecC P n base w0 c kn ke kr s:=by
  rw [h] at h';cases h';exact k
theorem spec_vcd (ok:CxOk2 P X) (hmo:P.follows .mixedOrders=true) (ts:List Nat) (f:Nat) (h:vcd X n ts f c kn ke kr s):SpecC P n base w0 c kn ke kr s :=
  fun a w Q hS hn he hr=>(vcd_both ok hmo ts f).1 c kn ke kr s a w Q h hS hn he hr
theorem spec_seq (h:SpecC P n base w0 x kx ke kr s) (h2:∀ s',kx s'→SpecC P n base w0 y kn ke kr s'):SpecC P n base w0 (.seq x y) kn ke kr s :=
  fun a w Q hS hn he hr=>wp_seq (h a w _ hS (fun s a w hk hS=>h2 s hk a w Q hS hn he hr) (fun id s a w hk hS=>he id s a w hk hS) (fun s a w hk hS=>hr s a w hk hS))
theorem spec_block {id:Nat} (h:SpecC P n base w0 c kn (fun id' s=>if id'=id then kn s else ke id' s) kr s):SpecC P n base w0 (.block id c) kn ke kr s:=by
  intro a w Q hS hn he hr
  refine wp_block (h a w _ hS (fun s a w hk hS=>hn s a w hk hS) (fun id' s a w hk hS=>?_) (fun s a w hk hS=>hr s a w hk hS))
  show if id'=id then Q .normal a w else Q (.exit id') a w
  split
  · rename_i e;exact hn s a w (by simpa [e] using hk) hS
  · rename_i e;exact he id' s a w (by simpa [e] using hk) hS
theorem spec_le {gs:List (Nat × TV)} {bs:List (Nat × TypeId × List A0)} (hg:leG s gs) (hb:leB s bs) (hw:wfB gs bs=true) (h:SpecC P n base w0 c kn ke kr (stB gs bs)):SpecC P n base w0 c kn ke kr s:=by
  rintro a w Q ⟨β,hS⟩ hn he hr
  exact h a w Q ⟨β,sat_le hS hg hb hw⟩ hn he hr
theorem specR_succ {m:Nat} (h:SpecC P n base w0 c kx ke kr s) (h2:∀ s',kx s'→SpecR P n base w0 c ke kr m s'):SpecR P n base w0 c ke kr (m+1) s :=
  fun a w Q hS he hr=>h a w _ hS (fun s a w hk hS=>h2 s hk a w Q hS he hr) (fun id s a w hk hS=>he id s a w hk hS) (fun s a w hk hS=>hr s a w hk hS)
theorem specR_le {m:Nat} {gs:List (Nat × TV)} {bs:List (Nat × TypeId × List A0)} (hg:leG s gs) (hb:leB s bs) (hw:wfB gs bs=true) (h:SpecR P n base w0 c ke kr m (stB gs bs)):SpecR P n base w0 c ke kr m s:=by
  rintro a w Q ⟨β,hS⟩ he hr
  exact h a w Q ⟨β,sat_le hS hg hb hw⟩ he hr
theorem spec_loopR (m:Nat) (h:SpecR P n base w0 c ke kr m s):SpecC P n base w0 (.loop c) kn ke kr s :=
  fun a w Q hS hn he hr=>wp_loop_rounds m (h a w Q hS he hr)
def vch (X:Cx) (n:Nat) (ts:List Nat) (f:Nat) (K:St→Prop) (ke:Nat→St→Prop) (kr:St→Prop):Nat→Code→St→Prop
  | 0,_,s=>K s
  | k+1,.seq x y,s=>vcd X n ts f x (vch X n ts f K ke kr k y) ke kr s
  | _+1,_,_=>False
def restOf:Nat→Code→Code
  | 0,c=>c
  | k+1,.seq _ y=>restOf k y
  | _+1,c=>c
theorem spec_vch (ok:CxOk2 P X) (hmo:P.follows .mixedOrders=true) (ts:List Nat) (f:Nat):∀ (k:Nat) (c:Code) (s:St),vch X n ts f kx ke kr k c s→(∀ s',kx s'→SpecC P n base w0 (restOf k c) kn ke kr s')→SpecC P n base w0 c kn ke kr s:=by
  intro k
  induction k with
  | zero=>intro c s h h2;exact h2 s h
  | succ k ih =>
    intro c s h h2
    cases c with
    | seq x y=>exact spec_seq (spec_vcd ok hmo ts f h) (fun s' hk=>ih y s' hk h2)
    | _=>cases h
theorem spec_cut (ok:CxOk2 P X) (hmo:P.follows .mixedOrders=true) (ts:List Nat) (f k:Nat) (gs:List (Nat × TV)) (bs:List (Nat × TypeId × List A0)) (hw:wfB gs bs=true) (h:vch X n ts f (fun s=>leG s gs∧leB s bs) ke kr k c s) (h2:SpecC P n base w0 (restOf k c) kn ke kr (stB gs bs)):SpecC P n base w0 c kn ke kr s :=
  spec_vch ok hmo ts f k c s h (fun s' hk=>spec_le hk.1 hk.2 hw h2)
theorem fns_ret (ok:CxOk2 P X) {fid:FuncId} {fn:Func} (hf:P.funcs[fid]?=some fn) (hb:fn.body=some c) {xs:List TV} {us:List Value} {w:World} (r:CR)
    (hr:xs.all (fun x=>x.refs.isEmpty)=true) (hn:xs.length≤fn.ntmps) (h:SpecC P fn.ntmps w.heap.size w c (fun s=>resCR X fn.results.toList s=some r) (fun _ _=>False) (fun s=>resCR X fn.results.toList s=some r) (st0 xs))
    (hargs:All2 (TV.reads (fun _=>0) w.heap.size w) xs us):Ret P fid us.toArray w r:=by
  refine calls_of_wp hf hb ?_
  have hS:=sat0 hargs hr (n:=fn.ntmps) (by rw [← All2.length hargs];exact hn)
  have fin:∀ (s:St) (a:Act) (w':World),resCR X fn.results.toList s=some r→SatE w.heap.size w fn.ntmps s a w'→a.defers=[]∧∃ v,(results fn a.tmps).run P w' = .ok v w'∧∃ u,Ending.returned v = .returned u∧r.told w w' u∧Below w.heap.size w w':=by
    rintro s a w' hr1 ⟨β,hS⟩
    obtain ⟨u,h1,h2⟩:=res_run ok.toCxOk hS hr1
    exact ⟨hS.defers,u,h1,u,rfl,h2,hS.below⟩
  exact h _ _ _ hS (fun s a w' hk hS=>fin s a w' hk hS) (fun id s a w' hk=>hk.elim) (fun s a w' hk hS=>fin s a w' hk hS)
end
end Go.Proofs.YtonelbidndjhdaaW.Sx
end
section
set_option linter.unusedVariables false
set_option linter.unusedSimpArgs false
namespace Go.Proofs.Ytonelbidndjhdaa.Wh
open Go RowKit YtonelbidndjhdaaW.PrintWords YtonelbidndjhdaaW.PrintMore YtonelbidndjhdaaW.Aid YtonelbidndjhdaaW.Big YtonelbidndjhdaaW.Sx Ytonelbidndjhdaa.BitsWalk Ytonelbidndjhdaa.Limbs Ytonelbidndjhdaa.Whole Ytonelbidndjhdaa.FxWalk Go.Proofs
theorem mayC_eq (b1 b2 b3 k1 k2 k3 rf m0 m1 m2 m3 m4 m5 m6 m7 m8:Int):mayC b1 b2 b3 k1 k2 k3 rf m0 m1 m2 m3 m4 m5 m6 m7 m8=goodC b1 b2 b3 k1 k2 k3 rf m0 m1 m2 m3 m4 m5 m6 m7 m8:=by
  unfold mayC goodC
  simp only [allw]
  cases wd m0<;>cases wd m1<;>cases wd m2<;>cases wd m3<;>cases wd m4<;>cases wd m5<;>cases wd m6<;>cases wd m7<;>cases wd m8<;>simp
theorem raw_eq (x y z t:Int):rawB x y z t=graw x y z t:=by
  rw [Bool.eq_iff_iff,rawB_iff,graw_iff]
theorem ap_e0 {a b c:Int} (h:((toldR a).2 != 0)=true):((0:Int),(0:Int),(0:Int),(toldR a).2)=vT a b c:=by
  cases h1:wd a with
  | false=>simp [toldR,vT,h1]
  | true=>simp [toldR,h1] at h
theorem ap_e1 {a b c:Int} (h0:((toldR a).2 != 0)=false) (h:((toldR b).2 != 0)=true):((0:Int),(0:Int),(0:Int),(toldR b).2)=vT a b c:=by
  cases h1:wd b with
  | false=>simp [toldR,vT,h1]
  | true=>simp [toldR,h1] at h
theorem ap_e2 {a b c:Int} (h0:((toldR a).2 != 0)=false) (h1:((toldR b).2 != 0)=false) (h:((toldR c).2 != 0)=true):((0:Int),(0:Int),(0:Int),(toldR c).2)=vT a b c:=by
  cases h1:wd c with
  | false=>simp [toldR,vT,h1]
  | true=>simp [toldR,h1] at h
theorem told_yes {a:Int} (h:((toldR a).2 != 0)=false):wd a=true:=by
  cases h1:wd a with
  | true=>rfl
  | false=>simp [toldR,h1] at h
theorem ap_y {a b c:Int} (h0:((toldR a).2 != 0)=false) (h1:((toldR b).2 != 0)=false) (h:((toldR c).2 != 0)=false):((toldR a).1,(toldR b).1,(toldR c).1,(0:Int))=vT a b c:=by
  simp [toldR,vT,told_yes h0,told_yes h1,told_yes h]
theorem rpd (a b c d e f:Int):roundP (0+a*d+b*e+c*f) 1073741824=q30 (dot3 a b c d e f):=by rw [dot3_eq];rfl
theorem cal_fin {b1 b2 b3 k1 k2 k3 rf m0 m1 m2 m3 m4 m5 m6 m7 m8 x y z t:Int} (h:CalOk b1 b2 b3 k1 k2 k3 rf m0 m1 m2 m3 m4 m5 m6 m7 m8 x y z t):vT (roundP (0+m0*calU x b1 k1 (IntKind.i64.wrap (t-rf))+m1*calU y b2 k2 (IntKind.i64.wrap (t-rf))+m2*calU z b3 k3 (IntKind.i64.wrap (t-rf))) 1073741824) (roundP (0+m3*calU x b1 k1 (IntKind.i64.wrap (t-rf))+m4*calU y b2 k2 (IntKind.i64.wrap (t-rf))+m5*calU z b3 k3 (IntKind.i64.wrap (t-rf))) 1073741824) (roundP (0+m6*calU x b1 k1 (IntKind.i64.wrap (t-rf))+m7*calU y b2 k2 (IntKind.i64.wrap (t-rf))+m8*calU z b3 k3 (IntKind.i64.wrap (t-rf))) 1073741824)=calR b1 b2 b3 k1 k2 k3 rf m0 m1 m2 m3 m4 m5 m6 m7 m8 x y z t:=by
  obtain ⟨g1,g2,g3,g4⟩:=goodC_iff.1 h.1
  obtain ⟨r1,r2,r3,r4⟩:=graw_iff.1 h.2
  have hw:IntKind.i64.wrap (t-rf)=t-rf:=wr (by omega) (by omega)
  rw [hw,rpd,rpd,rpd]
  exact (if_pos h).symm
theorem b10:BI 1 0:=by show (0:Int).natAbs<2 ^ 1;decide
theorem bU {x b h d:Int} (hx : -32768≤x∧x≤32767) (hb:I64 b) (hh:I64 h) (hd:I64 d):BI 130 (calU x b h d) :=
  BI.sub (g:=130) (BI.mono (BI.sub (BI.i64 (show I64 (1024*x) from ⟨by omega,by omega⟩)) (BI.i64 hb) (show 64+1≤65 by decide)) (show 65≤129 by decide)) (BI.mono (BI.mul (BI.i64 hh) (BI.i64 hd) (show 64+64≤128 by decide)) (by decide)) (show 129+1≤130 by decide)
abbrev ckC (g:Bool) (p q:Int × Int × Int × Int) (check bad:Int):Bool:=bif bif bif (bif g then 0 else 1:Int) != check then true else p.2.2.2 != bad then true else !eqL (cells3 p.1 p.2.1 p.2.2.1) (cells3 q.1 q.2.1 q.2.2.1) then true else !true
theorem cx_11 {b1 b2 b3 k1 k2 k3 rf m0 m1 m2 m3 m4 m5 m6 m7 m8 x y z t:Int} (h:(!mayC b1 b2 b3 k1 k2 k3 rf m0 m1 m2 m3 m4 m5 m6 m7 m8)=false) (h2:(!rawB x y z t)=false):ckC (goodC b1 b2 b3 k1 k2 k3 rf m0 m1 m2 m3 m4 m5 m6 m7 m8) (calR b1 b2 b3 k1 k2 k3 rf m0 m1 m2 m3 m4 m5 m6 m7 m8 x y z t) (calR b1 b2 b3 k1 k2 k3 rf m0 m1 m2 m3 m4 m5 m6 m7 m8 x y z t) 0 (calR b1 b2 b3 k1 k2 k3 rf m0 m1 m2 m3 m4 m5 m6 m7 m8 x y z t).2.2.2=false:=by
  have g:=nbf h
  rw [mayC_eq] at g
  rw [g];simp [ckC,eqL,eqV]
theorem cal_n {b1 b2 b3 k1 k2 k3 rf m0 m1 m2 m3 m4 m5 m6 m7 m8 x y z t:Int} (h:¬ (goodC b1 b2 b3 k1 k2 k3 rf m0 m1 m2 m3 m4 m5 m6 m7 m8=true∧graw x y z t=true)):calR b1 b2 b3 k1 k2 k3 rf m0 m1 m2 m3 m4 m5 m6 m7 m8 x y z t=(0,0,0,1):=by
  exact if_neg h
theorem cx_10 {b1 b2 b3 k1 k2 k3 rf m0 m1 m2 m3 m4 m5 m6 m7 m8 x y z t:Int} (h:(!mayC b1 b2 b3 k1 k2 k3 rf m0 m1 m2 m3 m4 m5 m6 m7 m8)=false) (h2:(!rawB x y z t)=true):ckC (goodC b1 b2 b3 k1 k2 k3 rf m0 m1 m2 m3 m4 m5 m6 m7 m8) (calR b1 b2 b3 k1 k2 k3 rf m0 m1 m2 m3 m4 m5 m6 m7 m8 x y z t) (0,0,0,0) 0 1=false:=by
  have g:=nbf h
  rw [mayC_eq] at g
  rw [raw_eq] at h2
  rw [cal_n (fun hk=>by rw [hk.2] at h2;cases h2),g];rfl
theorem cx_0 {b1 b2 b3 k1 k2 k3 rf m0 m1 m2 m3 m4 m5 m6 m7 m8 x y z t:Int} (h:(!mayC b1 b2 b3 k1 k2 k3 rf m0 m1 m2 m3 m4 m5 m6 m7 m8)=true):ckC (goodC b1 b2 b3 k1 k2 k3 rf m0 m1 m2 m3 m4 m5 m6 m7 m8) (calR b1 b2 b3 k1 k2 k3 rf m0 m1 m2 m3 m4 m5 m6 m7 m8 x y z t) (0,0,0,0) 1 1=false:=by
  rw [mayC_eq] at h
  have g:goodC b1 b2 b3 k1 k2 k3 rf m0 m1 m2 m3 m4 m5 m6 m7 m8=false:=by cases hg:goodC b1 b2 b3 k1 k2 k3 rf m0 m1 m2 m3 m4 m5 m6 m7 m8<;>simp_all
  rw [cal_n (fun hk=>by rw [hk.1] at g;cases g),g];rfl
theorem cal_ok' {b1 b2 b3 k1 k2 k3 rf m0 m1 m2 m3 m4 m5 m6 m7 m8 x y z t:Int} (h:(!mayC b1 b2 b3 k1 k2 k3 rf m0 m1 m2 m3 m4 m5 m6 m7 m8)=false) (h2:(!rawB x y z t)=false):CalOk b1 b2 b3 k1 k2 k3 rf m0 m1 m2 m3 m4 m5 m6 m7 m8 x y z t:=by
  have g:=nbf h
  have g2:=nbf h2
  rw [mayC_eq] at g
  rw [raw_eq] at g2
  exact ⟨g,g2⟩
def plV:List Value:=[.int .i64 0,.int .i64 0,.int .i64 0,.int .i64 0,.int .i64 0,.int .i64 0,.int .i64 0,.int .i64 1073741824,.int .i64 0,.int .i64 0,.int .i64 0,.int .i64 1073741824,.int .i64 0,.int .i64 0,.int .i64 0,.int .i64 1073741824]
def ksC:List (Option IntKind):=List.replicate 16 (some .i64)
theorem eqL_eq:∀ {ks:List (Option IntKind)} {a b:List Value},isKs ks a=true→isKs ks b=true→eqL a b=true→a=b
  | [],[],[],_,_,_=>rfl
  | k :: ks, x :: xs, y :: ys, h, h', e => by
    simp only [isKs,Bool.and_eq_true] at h h'
    have hl:=(isKs_len h.2).trans (isKs_len h'.2).symm
    rw [eqL_cons _ _ _ _ hl,Bool.and_eq_true] at e
    have e1 : x = y := by
      have hx:=h.1
      have hy:=h'.1
      have he:=e.1
      cases k with
      | some k => cases x <;> simp only [isK] at hx <;> try cases hx
                  cases y<;>simp only [isK] at hy<;>try cases hy
                  simp only [eqV,beq_iff_eq] at he
                  rw [of_decide_eq_true hx,of_decide_eq_true hy,he]
      | none => cases x <;> simp only [isK] at hx <;> try cases hx
                cases y<;>simp only [isK] at hy<;>try cases hy
                simp only [eqV,beq_iff_eq] at he
                rw [he]
    rw [e1,eqL_eq h.2 h'.2 e.2]
section
set_option maxRecDepth 100000
set_option maxHeartbeats 8000000
def eqPlain:EqT Try.prog where
  T:=45
  f := fun xs ys => match valsOf xs, valsOf ys with
    | some a,some b=>match isKs ksC a&&isKs ksC b&&eqL a plV&&eqL b plV with
      | true=>some true
      | false=>none
    | _,_=>none
  ok := by
    intro xs ys z hz us vs w x y hx hy
    split at hz
    · rename_i a b ha hb
      split at hz
      · rename_i hc
        cases hz
        simp only [Bool.and_eq_true] at hc
        obtain ⟨⟨⟨h1,h2⟩,h3⟩,h4⟩:=hc
        obtain rfl:=valsOf_eq ha hx
        obtain rfl:=valsOf_eq hb hy
        have k:isKs ksC plV=true:=by decide +kernel
        rw [eqL_eq h1 k h3,eqL_eq h2 k h4]
        exact ⟨run_eqGuard_agg w .eql _ x y _ _ (by kernel_rfl),run_eqGuard_agg w .neq _ x y _ _ (by kernel_rfl),by kernel_rfl⟩
      · cases hz
    · cases hz
def g10left:Con Try.prog where
  f:=54
  sem:=fun xs=>match xs with
    | [.sc (.v (.int .i64 x)),.sc (.v (.int .i64 b)),.sc (.v (.int .i64 h)),.sc (.v (.int .i64 d))]=>some ((-32768≤x∧x≤32767)∧I64 b∧I64 h∧I64 d,.tv (tI (calU x b h d)))
    | _=>none
  ok := by
    intro xs p r' h hp
    refine ⟨⟨_,Try.func54,by kernel_rfl,rfl⟩,fun us w ha=>?_⟩
    split at h
    · rename_i x b h d
      cases h
      obtain ⟨hx,hb,hh,hd⟩:=hp
      have hw:IntKind.i64.wrap (1024*x)=1024*x:=wr (by omega) (by omega)
      have b1:BI 64 (IntKind.i64.wrap (1024*x)):=BI.i64 (wI _)
      have b2:=BI.i64 hb
      have b3:=BI.i64 hh
      have b4:=BI.i64 hd
      have b5:BI 65 (IntKind.i64.wrap (1024*x)-b):=BI.sub b1 b2 (by decide)
      have b6:BI 128 (h*d):=BI.mul b3 b4 (by decide)
      refine fn_ret (cxOk Try.prog intsR_ok [] [rFrom,rLess,rTimes]) follows Try.func54 rfl 100 _ rfl (by simp) ?_ ha
      repeat' first
        | exact trivial
        | (refine And.intro (show regChk _ _ _ _ _=true from by kernel_rfl) (And.intro ?_ ?_))
        | (refine And.intro (fun _=>?_) (fun h=>absurd (show true=false from h) (by decide)))
        | (refine And.intro (fun h=>absurd (show false=true from h) (by decide)) (fun _=>?_))
        | (refine And.intro (fun hb=>?_) (fun hb'=>?_))
        | refine And.intro ?_ ?_
      all_goals first
        | (show (_:Int)≤IntKind.i64.wrap _;exact (wI _).1)
        | (show IntKind.i64.wrap _<(_:Int);exact (wI _).2)
        | exact hb.1
        | exact hb.2
        | exact hh.1
        | exact hh.2
        | exact hd.1
        | exact hd.2
        | (show BI _ _;first|exact BI.mono b1 (by decide)|exact BI.mono b2 (by decide)|exact BI.mono b3 (by decide)|exact BI.mono b4 (by decide)|exact BI.mono b5 (by decide)|exact BI.mono b6 (by decide))
        | (show some (CR.tv (tI _))=some (CR.tv (tI _));exact wh_eq (by rw [hw];rfl))
        | (show (_:Nat)=(_:Nat);rfl)
        | (show (_:Nat)≤1000;decide)
        | (show (_:Int)=(_:Int);rfl)
        | (show (_:Int)≤_;decide)
        | (show (_:Int)<_;decide)
        -- PVC
    · cases h
theorem g10row0 {b1 b2 b3 k1 k2 k3 rf m0 m1 m2 m3 m4 m5 m6 m7 m8 x y z t:Int} (hp:CalOk b1 b2 b3 k1 k2 k3 rf m0 m1 m2 m3 m4 m5 m6 m7 m8 x y z t)  {c:Code} (hc:bodyAt Try.f28 [true,true,true,true,false,true,true,true]=some c) (base:Nat) (w0:World) (ke:Nat→St→Prop):SpecC Try.prog Try.f28.ntmps base w0 c (fun s=>((toldR (roundP (0+m0*calU x b1 k1 (IntKind.i64.wrap (t-rf))+m1*calU y b2 k2 (IntKind.i64.wrap (t-rf))+m2*calU z b3 k3 (IntKind.i64.wrap (t-rf))) 1073741824)).2 != 0)=false∧leG s [(2,.ptr 2 0),(4,.ptr 4 0),(5,.sc (.v (.int .i64 0))),(7,.ptr 7 0),(8,.ptr 8 0),(9,.sc (.v (.int .i64 1)))]∧leB s [(2,45,[.v (.int .i64 b1),.v (.int .i64 b2),.v (.int .i64 b3),.v (.int .i64 k1),.v (.int .i64 k2),.v (.int .i64 k3),.v (.int .i64 rf),.v (.int .i64 m0),.v (.int .i64 m1),.v (.int .i64 m2),.v (.int .i64 m3),.v (.int .i64 m4),.v (.int .i64 m5),.v (.int .i64 m6),.v (.int .i64 m7),.v (.int .i64 m8)]),(4,24,[.v (.int .i64 0),.v (.int .i64 0),.v (.int .i64 0)]),(7,93,[.neg (calU x b1 k1 (IntKind.i64.wrap (t-rf))),.mag (calU x b1 k1 (IntKind.i64.wrap (t-rf))),.neg (calU y b2 k2 (IntKind.i64.wrap (t-rf))),.mag (calU y b2 k2 (IntKind.i64.wrap (t-rf))),.neg (calU z b3 k3 (IntKind.i64.wrap (t-rf))),.mag (calU z b3 k3 (IntKind.i64.wrap (t-rf)))]),(8,94,[.v (.int .i64 (toldR (roundP (0+m0*calU x b1 k1 (IntKind.i64.wrap (t-rf))+m1*calU y b2 k2 (IntKind.i64.wrap (t-rf))+m2*calU z b3 k3 (IntKind.i64.wrap (t-rf))) 1073741824)).1),.v (.int .i64 0),.v (.int .i64 0)])]) ke (fun s=>resCR (cxOf Try.prog intsR [] [g10left,rFrom,rPlus,rTimes,gNearQ]) Try.f28.results.toList s=some (.tv (tV4 (calR b1 b2 b3 k1 k2 k3 rf m0 m1 m2 m3 m4 m5 m6 m7 m8 x y z t)))) (stB [(2,.ptr 2 0),(4,.ptr 4 0),(5,.sc (.v (.int .i64 0))),(7,.ptr 7 0),(8,.ptr 8 0),(9,.sc (.v (.int .i64 0)))] [(2,45,[.v (.int .i64 b1),.v (.int .i64 b2),.v (.int .i64 b3),.v (.int .i64 k1),.v (.int .i64 k2),.v (.int .i64 k3),.v (.int .i64 rf),.v (.int .i64 m0),.v (.int .i64 m1),.v (.int .i64 m2),.v (.int .i64 m3),.v (.int .i64 m4),.v (.int .i64 m5),.v (.int .i64 m6),.v (.int .i64 m7),.v (.int .i64 m8)]),(4,24,[.v (.int .i64 0),.v (.int .i64 0),.v (.int .i64 0)]),(7,93,[.neg (calU x b1 k1 (IntKind.i64.wrap (t-rf))),.mag (calU x b1 k1 (IntKind.i64.wrap (t-rf))),.neg (calU y b2 k2 (IntKind.i64.wrap (t-rf))),.mag (calU y b2 k2 (IntKind.i64.wrap (t-rf))),.neg (calU z b3 k3 (IntKind.i64.wrap (t-rf))),.mag (calU z b3 k3 (IntKind.i64.wrap (t-rf)))]),(8,94,[.v (.int .i64 0),.v (.int .i64 0),.v (.int .i64 0)])]):=by
  obtain ⟨g1,g2,g3,g4⟩:=goodC_iff.1 hp.1
  obtain ⟨r1,r2,r3,r4⟩:=graw_iff.1 hp.2
  obtain ⟨a1,a2,a3⟩:=gV_iff.1 g1
  obtain ⟨a4,a5,a6⟩:=gV_iff.1 g2
  have hm:=calm (badC_f.2 hp)
  obtain ⟨hm0,hm1,hm2,hm3,hm4,hm5,hm6,hm7,hm8⟩:=hm
  have u0:=bU r1 (i64_wd a1) (i64_wd a4) (wI (t-rf))
  have u1:=bU r2 (i64_wd a2) (i64_wd a5) (wI (t-rf))
  have u2:=bU r3 (i64_wd a3) (i64_wd a6) (wI (t-rf))
  have p0:BI 194 (m0*calU x b1 k1 (IntKind.i64.wrap (t-rf))):=BI.mul (BI.i64 hm0) u0 (by decide)
  have p1:BI 194 (m1*calU y b2 k2 (IntKind.i64.wrap (t-rf))):=BI.mul (BI.i64 hm1) u1 (by decide)
  have p2:BI 194 (m2*calU z b3 k3 (IntKind.i64.wrap (t-rf))):=BI.mul (BI.i64 hm2) u2 (by decide)
  have s0:=BI.add (g:=195) (BI.mono b10 (show 1≤194 by decide)) p0 (by decide)
  have s1:=BI.add (g:=196) s0 (BI.mono p1 (show 194≤195 by decide)) (by decide)
  have s2:=BI.add (g:=197) s1 (BI.mono p2 (show 194≤196 by decide)) (by decide)
  have p3:BI 194 (m3*calU x b1 k1 (IntKind.i64.wrap (t-rf))):=BI.mul (BI.i64 hm3) u0 (by decide)
  have p4:BI 194 (m4*calU y b2 k2 (IntKind.i64.wrap (t-rf))):=BI.mul (BI.i64 hm4) u1 (by decide)
  have p5:BI 194 (m5*calU z b3 k3 (IntKind.i64.wrap (t-rf))):=BI.mul (BI.i64 hm5) u2 (by decide)
  have s3:=BI.add (g:=195) (BI.mono b10 (show 1≤194 by decide)) p3 (by decide)
  have s4:=BI.add (g:=196) s3 (BI.mono p4 (show 194≤195 by decide)) (by decide)
  have s5:=BI.add (g:=197) s4 (BI.mono p5 (show 194≤196 by decide)) (by decide)
  have p6:BI 194 (m6*calU x b1 k1 (IntKind.i64.wrap (t-rf))):=BI.mul (BI.i64 hm6) u0 (by decide)
  have p7:BI 194 (m7*calU y b2 k2 (IntKind.i64.wrap (t-rf))):=BI.mul (BI.i64 hm7) u1 (by decide)
  have p8:BI 194 (m8*calU z b3 k3 (IntKind.i64.wrap (t-rf))):=BI.mul (BI.i64 hm8) u2 (by decide)
  have s6:=BI.add (g:=195) (BI.mono b10 (show 1≤194 by decide)) p6 (by decide)
  have s7:=BI.add (g:=196) s6 (BI.mono p7 (show 194≤195 by decide)) (by decide)
  have s8:=BI.add (g:=197) s7 (BI.mono p8 (show 194≤196 by decide)) (by decide)
  refine spec_of hc rfl ?_
  refine spec_vcd (cxOk Try.prog intsR_ok [] [g10left,rFrom,rPlus,rTimes,gNearQ]) follows [2,4,5,7,8,9,10,11] 100 ?_
  repeat' first
    | exact trivial
    | (refine And.intro (show regChk _ _ _ _ _=true from by kernel_rfl) (And.intro ?_ ?_))
    | (refine And.intro (fun _=>?_) (fun h=>absurd (show true=false from h) (by decide)))
    | (refine And.intro (fun h=>absurd (show false=true from h) (by decide)) (fun _=>?_))
    | (refine And.intro (fun hb=>?_) (fun hb'=>?_))
    | refine And.intro ?_ ?_
  all_goals first
    | (show some (CR.tv (.tup _))=some (CR.tv (tV4 _));exact v4_eq ((ap_e0 (by assumption)).trans (cal_fin hp)))
    | (show (_:Bool)=(_:Bool);assumption)
    | exact hp
    | (show (0:Int)≤_;decide)
    | (show (-9223372036854775808:Int)≤_;first|exact hm0.1|exact hm1.1|exact hm2.1|exact hm3.1|exact hm4.1|exact hm5.1|exact hm6.1|exact hm7.1|exact hm8.1|exact (i64_wd a1).1|exact (i64_wd a2).1|exact (i64_wd a3).1|exact (i64_wd a4).1|exact (i64_wd a5).1|exact (i64_wd a6).1|exact (wI _).1|decide)
    | (show _<(9223372036854775808:Int);first|exact hm0.2|exact hm1.2|exact hm2.2|exact hm3.2|exact hm4.2|exact hm5.2|exact hm6.2|exact hm7.2|exact hm8.2|exact (i64_wd a1).2|exact (i64_wd a2).2|exact (i64_wd a3).2|exact (i64_wd a4).2|exact (i64_wd a5).2|exact (i64_wd a6).2|exact (wI _).2|decide)
    | (show BI _ _;first|exact BI.mono b10 (by decide)|exact BI.mono u0 (by decide)|exact BI.mono u1 (by decide)|exact BI.mono u2 (by decide)|exact BI.mono (BI.i64 hm0) (by decide)|exact BI.mono (BI.i64 hm1) (by decide)|exact BI.mono (BI.i64 hm2) (by decide)|exact BI.mono (BI.i64 hm3) (by decide)|exact BI.mono (BI.i64 hm4) (by decide)|exact BI.mono (BI.i64 hm5) (by decide)|exact BI.mono (BI.i64 hm6) (by decide)|exact BI.mono (BI.i64 hm7) (by decide)|exact BI.mono (BI.i64 hm8) (by decide)|exact BI.mono p0 (by decide)|exact BI.mono p1 (by decide)|exact BI.mono p2 (by decide)|exact BI.mono s0 (by decide)|exact BI.mono s1 (by decide)|exact BI.mono s2 (by decide)|exact BI.mono p3 (by decide)|exact BI.mono p4 (by decide)|exact BI.mono p5 (by decide)|exact BI.mono s3 (by decide)|exact BI.mono s4 (by decide)|exact BI.mono s5 (by decide)|exact BI.mono p6 (by decide)|exact BI.mono p7 (by decide)|exact BI.mono p8 (by decide)|exact BI.mono s6 (by decide)|exact BI.mono s7 (by decide)|exact BI.mono s8 (by decide))
    | exact r1.1
    | exact r1.2
    | exact r2.1
    | exact r2.2
    | exact r3.1
    | exact r3.2
    | (show (-32768:Int)≤_;first|exact r1.1|exact r2.1|exact r3.1)
    | (show _≤(32767:Int);first|exact r1.2|exact r2.2|exact r3.2)
    | (show (_:Nat)=(_:Nat);rfl)
    | (show (_:Nat)≤1000;decide)
    | (show (_:Int)=(_:Int);rfl)
    | (show (_:Int)≤_;decide)
    | (show (_:Int)<_;decide)
    | (show _=_;rfl)
    -- PVC
theorem g10row1 {b1 b2 b3 k1 k2 k3 rf m0 m1 m2 m3 m4 m5 m6 m7 m8 x y z t:Int} (hp:CalOk b1 b2 b3 k1 k2 k3 rf m0 m1 m2 m3 m4 m5 m6 m7 m8 x y z t) (h0:((toldR (roundP (0+m0*calU x b1 k1 (IntKind.i64.wrap (t-rf))+m1*calU y b2 k2 (IntKind.i64.wrap (t-rf))+m2*calU z b3 k3 (IntKind.i64.wrap (t-rf))) 1073741824)).2 != 0)=false) {c:Code} (hc:bodyAt Try.f28 [true,true,true,true,false,true,true,true]=some c) (base:Nat) (w0:World) (ke:Nat→St→Prop):SpecC Try.prog Try.f28.ntmps base w0 c (fun s=>((toldR (roundP (0+m3*calU x b1 k1 (IntKind.i64.wrap (t-rf))+m4*calU y b2 k2 (IntKind.i64.wrap (t-rf))+m5*calU z b3 k3 (IntKind.i64.wrap (t-rf))) 1073741824)).2 != 0)=false∧leG s [(2,.ptr 2 0),(4,.ptr 4 0),(5,.sc (.v (.int .i64 0))),(7,.ptr 7 0),(8,.ptr 8 0),(9,.sc (.v (.int .i64 2)))]∧leB s [(2,45,[.v (.int .i64 b1),.v (.int .i64 b2),.v (.int .i64 b3),.v (.int .i64 k1),.v (.int .i64 k2),.v (.int .i64 k3),.v (.int .i64 rf),.v (.int .i64 m0),.v (.int .i64 m1),.v (.int .i64 m2),.v (.int .i64 m3),.v (.int .i64 m4),.v (.int .i64 m5),.v (.int .i64 m6),.v (.int .i64 m7),.v (.int .i64 m8)]),(4,24,[.v (.int .i64 0),.v (.int .i64 0),.v (.int .i64 0)]),(7,93,[.neg (calU x b1 k1 (IntKind.i64.wrap (t-rf))),.mag (calU x b1 k1 (IntKind.i64.wrap (t-rf))),.neg (calU y b2 k2 (IntKind.i64.wrap (t-rf))),.mag (calU y b2 k2 (IntKind.i64.wrap (t-rf))),.neg (calU z b3 k3 (IntKind.i64.wrap (t-rf))),.mag (calU z b3 k3 (IntKind.i64.wrap (t-rf)))]),(8,94,[.v (.int .i64 (toldR (roundP (0+m0*calU x b1 k1 (IntKind.i64.wrap (t-rf))+m1*calU y b2 k2 (IntKind.i64.wrap (t-rf))+m2*calU z b3 k3 (IntKind.i64.wrap (t-rf))) 1073741824)).1),.v (.int .i64 (toldR (roundP (0+m3*calU x b1 k1 (IntKind.i64.wrap (t-rf))+m4*calU y b2 k2 (IntKind.i64.wrap (t-rf))+m5*calU z b3 k3 (IntKind.i64.wrap (t-rf))) 1073741824)).1),.v (.int .i64 0)])]) ke (fun s=>resCR (cxOf Try.prog intsR [] [g10left,rFrom,rPlus,rTimes,gNearQ]) Try.f28.results.toList s=some (.tv (tV4 (calR b1 b2 b3 k1 k2 k3 rf m0 m1 m2 m3 m4 m5 m6 m7 m8 x y z t)))) (stB [(2,.ptr 2 0),(4,.ptr 4 0),(5,.sc (.v (.int .i64 0))),(7,.ptr 7 0),(8,.ptr 8 0),(9,.sc (.v (.int .i64 1)))] [(2,45,[.v (.int .i64 b1),.v (.int .i64 b2),.v (.int .i64 b3),.v (.int .i64 k1),.v (.int .i64 k2),.v (.int .i64 k3),.v (.int .i64 rf),.v (.int .i64 m0),.v (.int .i64 m1),.v (.int .i64 m2),.v (.int .i64 m3),.v (.int .i64 m4),.v (.int .i64 m5),.v (.int .i64 m6),.v (.int .i64 m7),.v (.int .i64 m8)]),(4,24,[.v (.int .i64 0),.v (.int .i64 0),.v (.int .i64 0)]),(7,93,[.neg (calU x b1 k1 (IntKind.i64.wrap (t-rf))),.mag (calU x b1 k1 (IntKind.i64.wrap (t-rf))),.neg (calU y b2 k2 (IntKind.i64.wrap (t-rf))),.mag (calU y b2 k2 (IntKind.i64.wrap (t-rf))),.neg (calU z b3 k3 (IntKind.i64.wrap (t-rf))),.mag (calU z b3 k3 (IntKind.i64.wrap (t-rf)))]),(8,94,[.v (.int .i64 (toldR (roundP (0+m0*calU x b1 k1 (IntKind.i64.wrap (t-rf))+m1*calU y b2 k2 (IntKind.i64.wrap (t-rf))+m2*calU z b3 k3 (IntKind.i64.wrap (t-rf))) 1073741824)).1),.v (.int .i64 0),.v (.int .i64 0)])]):=by
  obtain ⟨g1,g2,g3,g4⟩:=goodC_iff.1 hp.1
  obtain ⟨r1,r2,r3,r4⟩:=graw_iff.1 hp.2
  obtain ⟨a1,a2,a3⟩:=gV_iff.1 g1
  obtain ⟨a4,a5,a6⟩:=gV_iff.1 g2
  have hm:=calm (badC_f.2 hp)
  obtain ⟨hm0,hm1,hm2,hm3,hm4,hm5,hm6,hm7,hm8⟩:=hm
  have u0:=bU r1 (i64_wd a1) (i64_wd a4) (wI (t-rf))
  have u1:=bU r2 (i64_wd a2) (i64_wd a5) (wI (t-rf))
  have u2:=bU r3 (i64_wd a3) (i64_wd a6) (wI (t-rf))
  have p0:BI 194 (m0*calU x b1 k1 (IntKind.i64.wrap (t-rf))):=BI.mul (BI.i64 hm0) u0 (by decide)
  have p1:BI 194 (m1*calU y b2 k2 (IntKind.i64.wrap (t-rf))):=BI.mul (BI.i64 hm1) u1 (by decide)
  have p2:BI 194 (m2*calU z b3 k3 (IntKind.i64.wrap (t-rf))):=BI.mul (BI.i64 hm2) u2 (by decide)
  have s0:=BI.add (g:=195) (BI.mono b10 (show 1≤194 by decide)) p0 (by decide)
  have s1:=BI.add (g:=196) s0 (BI.mono p1 (show 194≤195 by decide)) (by decide)
  have s2:=BI.add (g:=197) s1 (BI.mono p2 (show 194≤196 by decide)) (by decide)
  have p3:BI 194 (m3*calU x b1 k1 (IntKind.i64.wrap (t-rf))):=BI.mul (BI.i64 hm3) u0 (by decide)
  have p4:BI 194 (m4*calU y b2 k2 (IntKind.i64.wrap (t-rf))):=BI.mul (BI.i64 hm4) u1 (by decide)
  have p5:BI 194 (m5*calU z b3 k3 (IntKind.i64.wrap (t-rf))):=BI.mul (BI.i64 hm5) u2 (by decide)
  have s3:=BI.add (g:=195) (BI.mono b10 (show 1≤194 by decide)) p3 (by decide)
  have s4:=BI.add (g:=196) s3 (BI.mono p4 (show 194≤195 by decide)) (by decide)
  have s5:=BI.add (g:=197) s4 (BI.mono p5 (show 194≤196 by decide)) (by decide)
  have p6:BI 194 (m6*calU x b1 k1 (IntKind.i64.wrap (t-rf))):=BI.mul (BI.i64 hm6) u0 (by decide)
  have p7:BI 194 (m7*calU y b2 k2 (IntKind.i64.wrap (t-rf))):=BI.mul (BI.i64 hm7) u1 (by decide)
  have p8:BI 194 (m8*calU z b3 k3 (IntKind.i64.wrap (t-rf))):=BI.mul (BI.i64 hm8) u2 (by decide)
  have s6:=BI.add (g:=195) (BI.mono b10 (show 1≤194 by decide)) p6 (by decide)
  have s7:=BI.add (g:=196) s6 (BI.mono p7 (show 194≤195 by decide)) (by decide)
  have s8:=BI.add (g:=197) s7 (BI.mono p8 (show 194≤196 by decide)) (by decide)
  refine spec_of hc rfl ?_
  refine spec_vcd (cxOk Try.prog intsR_ok [] [g10left,rFrom,rPlus,rTimes,gNearQ]) follows [2,4,5,7,8,9,10,11] 100 ?_
  repeat' first
    | exact trivial
    | (refine And.intro (show regChk _ _ _ _ _=true from by kernel_rfl) (And.intro ?_ ?_))
    | (refine And.intro (fun _=>?_) (fun h=>absurd (show true=false from h) (by decide)))
    | (refine And.intro (fun h=>absurd (show false=true from h) (by decide)) (fun _=>?_))
    | (refine And.intro (fun hb=>?_) (fun hb'=>?_))
    | refine And.intro ?_ ?_
  all_goals first
    | (show some (CR.tv (.tup _))=some (CR.tv (tV4 _));exact v4_eq ((ap_e1 h0 (by assumption)).trans (cal_fin hp)))
    | (show (_:Bool)=(_:Bool);assumption)
    | exact hp
    | (show (0:Int)≤_;decide)
    | (show (-9223372036854775808:Int)≤_;first|exact hm0.1|exact hm1.1|exact hm2.1|exact hm3.1|exact hm4.1|exact hm5.1|exact hm6.1|exact hm7.1|exact hm8.1|exact (i64_wd a1).1|exact (i64_wd a2).1|exact (i64_wd a3).1|exact (i64_wd a4).1|exact (i64_wd a5).1|exact (i64_wd a6).1|exact (wI _).1|decide)
    | (show _<(9223372036854775808:Int);first|exact hm0.2|exact hm1.2|exact hm2.2|exact hm3.2|exact hm4.2|exact hm5.2|exact hm6.2|exact hm7.2|exact hm8.2|exact (i64_wd a1).2|exact (i64_wd a2).2|exact (i64_wd a3).2|exact (i64_wd a4).2|exact (i64_wd a5).2|exact (i64_wd a6).2|exact (wI _).2|decide)
    | (show BI _ _;first|exact BI.mono b10 (by decide)|exact BI.mono u0 (by decide)|exact BI.mono u1 (by decide)|exact BI.mono u2 (by decide)|exact BI.mono (BI.i64 hm0) (by decide)|exact BI.mono (BI.i64 hm1) (by decide)|exact BI.mono (BI.i64 hm2) (by decide)|exact BI.mono (BI.i64 hm3) (by decide)|exact BI.mono (BI.i64 hm4) (by decide)|exact BI.mono (BI.i64 hm5) (by decide)|exact BI.mono (BI.i64 hm6) (by decide)|exact BI.mono (BI.i64 hm7) (by decide)|exact BI.mono (BI.i64 hm8) (by decide)|exact BI.mono p0 (by decide)|exact BI.mono p1 (by decide)|exact BI.mono p2 (by decide)|exact BI.mono s0 (by decide)|exact BI.mono s1 (by decide)|exact BI.mono s2 (by decide)|exact BI.mono p3 (by decide)|exact BI.mono p4 (by decide)|exact BI.mono p5 (by decide)|exact BI.mono s3 (by decide)|exact BI.mono s4 (by decide)|exact BI.mono s5 (by decide)|exact BI.mono p6 (by decide)|exact BI.mono p7 (by decide)|exact BI.mono p8 (by decide)|exact BI.mono s6 (by decide)|exact BI.mono s7 (by decide)|exact BI.mono s8 (by decide))
    | exact r1.1
    | exact r1.2
    | exact r2.1
    | exact r2.2
    | exact r3.1
    | exact r3.2
    | (show (-32768:Int)≤_;first|exact r1.1|exact r2.1|exact r3.1)
    | (show _≤(32767:Int);first|exact r1.2|exact r2.2|exact r3.2)
    | (show (_:Nat)=(_:Nat);rfl)
    | (show (_:Nat)≤1000;decide)
    | (show (_:Int)=(_:Int);rfl)
    | (show (_:Int)≤_;decide)
    | (show (_:Int)<_;decide)
    | (show _=_;rfl)
    -- PVC
theorem g10row2 {b1 b2 b3 k1 k2 k3 rf m0 m1 m2 m3 m4 m5 m6 m7 m8 x y z t:Int} (hp:CalOk b1 b2 b3 k1 k2 k3 rf m0 m1 m2 m3 m4 m5 m6 m7 m8 x y z t) (h0:((toldR (roundP (0+m0*calU x b1 k1 (IntKind.i64.wrap (t-rf))+m1*calU y b2 k2 (IntKind.i64.wrap (t-rf))+m2*calU z b3 k3 (IntKind.i64.wrap (t-rf))) 1073741824)).2 != 0)=false) (h1:((toldR (roundP (0+m3*calU x b1 k1 (IntKind.i64.wrap (t-rf))+m4*calU y b2 k2 (IntKind.i64.wrap (t-rf))+m5*calU z b3 k3 (IntKind.i64.wrap (t-rf))) 1073741824)).2 != 0)=false) {c:Code} (hc:bodyAt Try.f28 [true,true,true,true,false,true,true,true]=some c) (base:Nat) (w0:World) (ke:Nat→St→Prop):SpecC Try.prog Try.f28.ntmps base w0 c (fun s=>((toldR (roundP (0+m6*calU x b1 k1 (IntKind.i64.wrap (t-rf))+m7*calU y b2 k2 (IntKind.i64.wrap (t-rf))+m8*calU z b3 k3 (IntKind.i64.wrap (t-rf))) 1073741824)).2 != 0)=false∧leG s [(2,.ptr 2 0),(4,.ptr 4 0),(5,.sc (.v (.int .i64 0))),(7,.ptr 7 0),(8,.ptr 8 0),(9,.sc (.v (.int .i64 3)))]∧leB s [(2,45,[.v (.int .i64 b1),.v (.int .i64 b2),.v (.int .i64 b3),.v (.int .i64 k1),.v (.int .i64 k2),.v (.int .i64 k3),.v (.int .i64 rf),.v (.int .i64 m0),.v (.int .i64 m1),.v (.int .i64 m2),.v (.int .i64 m3),.v (.int .i64 m4),.v (.int .i64 m5),.v (.int .i64 m6),.v (.int .i64 m7),.v (.int .i64 m8)]),(4,24,[.v (.int .i64 0),.v (.int .i64 0),.v (.int .i64 0)]),(7,93,[.neg (calU x b1 k1 (IntKind.i64.wrap (t-rf))),.mag (calU x b1 k1 (IntKind.i64.wrap (t-rf))),.neg (calU y b2 k2 (IntKind.i64.wrap (t-rf))),.mag (calU y b2 k2 (IntKind.i64.wrap (t-rf))),.neg (calU z b3 k3 (IntKind.i64.wrap (t-rf))),.mag (calU z b3 k3 (IntKind.i64.wrap (t-rf)))]),(8,94,[.v (.int .i64 (toldR (roundP (0+m0*calU x b1 k1 (IntKind.i64.wrap (t-rf))+m1*calU y b2 k2 (IntKind.i64.wrap (t-rf))+m2*calU z b3 k3 (IntKind.i64.wrap (t-rf))) 1073741824)).1),.v (.int .i64 (toldR (roundP (0+m3*calU x b1 k1 (IntKind.i64.wrap (t-rf))+m4*calU y b2 k2 (IntKind.i64.wrap (t-rf))+m5*calU z b3 k3 (IntKind.i64.wrap (t-rf))) 1073741824)).1),.v (.int .i64 (toldR (roundP (0+m6*calU x b1 k1 (IntKind.i64.wrap (t-rf))+m7*calU y b2 k2 (IntKind.i64.wrap (t-rf))+m8*calU z b3 k3 (IntKind.i64.wrap (t-rf))) 1073741824)).1)])]) ke (fun s=>resCR (cxOf Try.prog intsR [] [g10left,rFrom,rPlus,rTimes,gNearQ]) Try.f28.results.toList s=some (.tv (tV4 (calR b1 b2 b3 k1 k2 k3 rf m0 m1 m2 m3 m4 m5 m6 m7 m8 x y z t)))) (stB [(2,.ptr 2 0),(4,.ptr 4 0),(5,.sc (.v (.int .i64 0))),(7,.ptr 7 0),(8,.ptr 8 0),(9,.sc (.v (.int .i64 2)))] [(2,45,[.v (.int .i64 b1),.v (.int .i64 b2),.v (.int .i64 b3),.v (.int .i64 k1),.v (.int .i64 k2),.v (.int .i64 k3),.v (.int .i64 rf),.v (.int .i64 m0),.v (.int .i64 m1),.v (.int .i64 m2),.v (.int .i64 m3),.v (.int .i64 m4),.v (.int .i64 m5),.v (.int .i64 m6),.v (.int .i64 m7),.v (.int .i64 m8)]),(4,24,[.v (.int .i64 0),.v (.int .i64 0),.v (.int .i64 0)]),(7,93,[.neg (calU x b1 k1 (IntKind.i64.wrap (t-rf))),.mag (calU x b1 k1 (IntKind.i64.wrap (t-rf))),.neg (calU y b2 k2 (IntKind.i64.wrap (t-rf))),.mag (calU y b2 k2 (IntKind.i64.wrap (t-rf))),.neg (calU z b3 k3 (IntKind.i64.wrap (t-rf))),.mag (calU z b3 k3 (IntKind.i64.wrap (t-rf)))]),(8,94,[.v (.int .i64 (toldR (roundP (0+m0*calU x b1 k1 (IntKind.i64.wrap (t-rf))+m1*calU y b2 k2 (IntKind.i64.wrap (t-rf))+m2*calU z b3 k3 (IntKind.i64.wrap (t-rf))) 1073741824)).1),.v (.int .i64 (toldR (roundP (0+m3*calU x b1 k1 (IntKind.i64.wrap (t-rf))+m4*calU y b2 k2 (IntKind.i64.wrap (t-rf))+m5*calU z b3 k3 (IntKind.i64.wrap (t-rf))) 1073741824)).1),.v (.int .i64 0)])]):=by
  obtain ⟨g1,g2,g3,g4⟩:=goodC_iff.1 hp.1
  obtain ⟨r1,r2,r3,r4⟩:=graw_iff.1 hp.2
  obtain ⟨a1,a2,a3⟩:=gV_iff.1 g1
  obtain ⟨a4,a5,a6⟩:=gV_iff.1 g2
  have hm:=calm (badC_f.2 hp)
  obtain ⟨hm0,hm1,hm2,hm3,hm4,hm5,hm6,hm7,hm8⟩:=hm
  have u0:=bU r1 (i64_wd a1) (i64_wd a4) (wI (t-rf))
  have u1:=bU r2 (i64_wd a2) (i64_wd a5) (wI (t-rf))
  have u2:=bU r3 (i64_wd a3) (i64_wd a6) (wI (t-rf))
  have p0:BI 194 (m0*calU x b1 k1 (IntKind.i64.wrap (t-rf))):=BI.mul (BI.i64 hm0) u0 (by decide)
  have p1:BI 194 (m1*calU y b2 k2 (IntKind.i64.wrap (t-rf))):=BI.mul (BI.i64 hm1) u1 (by decide)
  have p2:BI 194 (m2*calU z b3 k3 (IntKind.i64.wrap (t-rf))):=BI.mul (BI.i64 hm2) u2 (by decide)
  have s0:=BI.add (g:=195) (BI.mono b10 (show 1≤194 by decide)) p0 (by decide)
  have s1:=BI.add (g:=196) s0 (BI.mono p1 (show 194≤195 by decide)) (by decide)
  have s2:=BI.add (g:=197) s1 (BI.mono p2 (show 194≤196 by decide)) (by decide)
  have p3:BI 194 (m3*calU x b1 k1 (IntKind.i64.wrap (t-rf))):=BI.mul (BI.i64 hm3) u0 (by decide)
  have p4:BI 194 (m4*calU y b2 k2 (IntKind.i64.wrap (t-rf))):=BI.mul (BI.i64 hm4) u1 (by decide)
  have p5:BI 194 (m5*calU z b3 k3 (IntKind.i64.wrap (t-rf))):=BI.mul (BI.i64 hm5) u2 (by decide)
  have s3:=BI.add (g:=195) (BI.mono b10 (show 1≤194 by decide)) p3 (by decide)
  have s4:=BI.add (g:=196) s3 (BI.mono p4 (show 194≤195 by decide)) (by decide)
  have s5:=BI.add (g:=197) s4 (BI.mono p5 (show 194≤196 by decide)) (by decide)
  have p6:BI 194 (m6*calU x b1 k1 (IntKind.i64.wrap (t-rf))):=BI.mul (BI.i64 hm6) u0 (by decide)
  have p7:BI 194 (m7*calU y b2 k2 (IntKind.i64.wrap (t-rf))):=BI.mul (BI.i64 hm7) u1 (by decide)
  have p8:BI 194 (m8*calU z b3 k3 (IntKind.i64.wrap (t-rf))):=BI.mul (BI.i64 hm8) u2 (by decide)
  have s6:=BI.add (g:=195) (BI.mono b10 (show 1≤194 by decide)) p6 (by decide)
  have s7:=BI.add (g:=196) s6 (BI.mono p7 (show 194≤195 by decide)) (by decide)
  have s8:=BI.add (g:=197) s7 (BI.mono p8 (show 194≤196 by decide)) (by decide)
  refine spec_of hc rfl ?_
  refine spec_vcd (cxOk Try.prog intsR_ok [] [g10left,rFrom,rPlus,rTimes,gNearQ]) follows [2,4,5,7,8,9,10,11] 100 ?_
  repeat' first
    | exact trivial
    | (refine And.intro (show regChk _ _ _ _ _=true from by kernel_rfl) (And.intro ?_ ?_))
    | (refine And.intro (fun _=>?_) (fun h=>absurd (show true=false from h) (by decide)))
    | (refine And.intro (fun h=>absurd (show false=true from h) (by decide)) (fun _=>?_))
    | (refine And.intro (fun hb=>?_) (fun hb'=>?_))
    | refine And.intro ?_ ?_
  all_goals first
    | (show some (CR.tv (.tup _))=some (CR.tv (tV4 _));exact v4_eq ((ap_e2 h0 h1 (by assumption)).trans (cal_fin hp)))
    | (show (_:Bool)=(_:Bool);assumption)
    | exact hp
    | (show (0:Int)≤_;decide)
    | (show (-9223372036854775808:Int)≤_;first|exact hm0.1|exact hm1.1|exact hm2.1|exact hm3.1|exact hm4.1|exact hm5.1|exact hm6.1|exact hm7.1|exact hm8.1|exact (i64_wd a1).1|exact (i64_wd a2).1|exact (i64_wd a3).1|exact (i64_wd a4).1|exact (i64_wd a5).1|exact (i64_wd a6).1|exact (wI _).1|decide)
    | (show _<(9223372036854775808:Int);first|exact hm0.2|exact hm1.2|exact hm2.2|exact hm3.2|exact hm4.2|exact hm5.2|exact hm6.2|exact hm7.2|exact hm8.2|exact (i64_wd a1).2|exact (i64_wd a2).2|exact (i64_wd a3).2|exact (i64_wd a4).2|exact (i64_wd a5).2|exact (i64_wd a6).2|exact (wI _).2|decide)
    | (show BI _ _;first|exact BI.mono b10 (by decide)|exact BI.mono u0 (by decide)|exact BI.mono u1 (by decide)|exact BI.mono u2 (by decide)|exact BI.mono (BI.i64 hm0) (by decide)|exact BI.mono (BI.i64 hm1) (by decide)|exact BI.mono (BI.i64 hm2) (by decide)|exact BI.mono (BI.i64 hm3) (by decide)|exact BI.mono (BI.i64 hm4) (by decide)|exact BI.mono (BI.i64 hm5) (by decide)|exact BI.mono (BI.i64 hm6) (by decide)|exact BI.mono (BI.i64 hm7) (by decide)|exact BI.mono (BI.i64 hm8) (by decide)|exact BI.mono p0 (by decide)|exact BI.mono p1 (by decide)|exact BI.mono p2 (by decide)|exact BI.mono s0 (by decide)|exact BI.mono s1 (by decide)|exact BI.mono s2 (by decide)|exact BI.mono p3 (by decide)|exact BI.mono p4 (by decide)|exact BI.mono p5 (by decide)|exact BI.mono s3 (by decide)|exact BI.mono s4 (by decide)|exact BI.mono s5 (by decide)|exact BI.mono p6 (by decide)|exact BI.mono p7 (by decide)|exact BI.mono p8 (by decide)|exact BI.mono s6 (by decide)|exact BI.mono s7 (by decide)|exact BI.mono s8 (by decide))
    | exact r1.1
    | exact r1.2
    | exact r2.1
    | exact r2.2
    | exact r3.1
    | exact r3.2
    | (show (-32768:Int)≤_;first|exact r1.1|exact r2.1|exact r3.1)
    | (show _≤(32767:Int);first|exact r1.2|exact r2.2|exact r3.2)
    | (show (_:Nat)=(_:Nat);rfl)
    | (show (_:Nat)≤1000;decide)
    | (show (_:Int)=(_:Int);rfl)
    | (show (_:Int)≤_;decide)
    | (show (_:Int)<_;decide)
    | (show _=_;rfl)
    -- PVC
theorem g10body {b1 b2 b3 k1 k2 k3 rf m0 m1 m2 m3 m4 m5 m6 m7 m8 x y z t:Int} (hp:CalOk b1 b2 b3 k1 k2 k3 rf m0 m1 m2 m3 m4 m5 m6 m7 m8 x y z t) {c:Code} (hc:bodyAt Try.f28 []=some c) (base:Nat) (w0:World):SpecC Try.prog Try.f28.ntmps base w0 c (fun s=>resCR (cxOf Try.prog intsR [] [g10left,rFrom,rPlus,rTimes,gNearQ]) Try.f28.results.toList s=some (.tv (tV4 (calR b1 b2 b3 k1 k2 k3 rf m0 m1 m2 m3 m4 m5 m6 m7 m8 x y z t)))) (fun _ _=>False) (fun s=>resCR (cxOf Try.prog intsR [] [g10left,rFrom,rPlus,rTimes,gNearQ]) Try.f28.results.toList s=some (.tv (tV4 (calR b1 b2 b3 k1 k2 k3 rf m0 m1 m2 m3 m4 m5 m6 m7 m8 x y z t)))) (st0 [.agg [.v (.int .i64 b1),.v (.int .i64 b2),.v (.int .i64 b3),.v (.int .i64 k1),.v (.int .i64 k2),.v (.int .i64 k3),.v (.int .i64 rf),.v (.int .i64 m0),.v (.int .i64 m1),.v (.int .i64 m2),.v (.int .i64 m3),.v (.int .i64 m4),.v (.int .i64 m5),.v (.int .i64 m6),.v (.int .i64 m7),.v (.int .i64 m8)],.agg [.v (.int .i64 x),.v (.int .i64 y),.v (.int .i64 z),.v (.int .i64 t)]]):=by
  obtain ⟨g1,g2,g3,g4⟩:=goodC_iff.1 hp.1
  obtain ⟨r1,r2,r3,r4⟩:=graw_iff.1 hp.2
  obtain ⟨a1,a2,a3⟩:=gV_iff.1 g1
  obtain ⟨a4,a5,a6⟩:=gV_iff.1 g2
  have hm:=calm (badC_f.2 hp)
  obtain ⟨hm0,hm1,hm2,hm3,hm4,hm5,hm6,hm7,hm8⟩:=hm
  have u0:=bU r1 (i64_wd a1) (i64_wd a4) (wI (t-rf))
  have u1:=bU r2 (i64_wd a2) (i64_wd a5) (wI (t-rf))
  have u2:=bU r3 (i64_wd a3) (i64_wd a6) (wI (t-rf))
  have p0:BI 194 (m0*calU x b1 k1 (IntKind.i64.wrap (t-rf))):=BI.mul (BI.i64 hm0) u0 (by decide)
  have p1:BI 194 (m1*calU y b2 k2 (IntKind.i64.wrap (t-rf))):=BI.mul (BI.i64 hm1) u1 (by decide)
  have p2:BI 194 (m2*calU z b3 k3 (IntKind.i64.wrap (t-rf))):=BI.mul (BI.i64 hm2) u2 (by decide)
  have s0:=BI.add (g:=195) (BI.mono b10 (show 1≤194 by decide)) p0 (by decide)
  have s1:=BI.add (g:=196) s0 (BI.mono p1 (show 194≤195 by decide)) (by decide)
  have s2:=BI.add (g:=197) s1 (BI.mono p2 (show 194≤196 by decide)) (by decide)
  have p3:BI 194 (m3*calU x b1 k1 (IntKind.i64.wrap (t-rf))):=BI.mul (BI.i64 hm3) u0 (by decide)
  have p4:BI 194 (m4*calU y b2 k2 (IntKind.i64.wrap (t-rf))):=BI.mul (BI.i64 hm4) u1 (by decide)
  have p5:BI 194 (m5*calU z b3 k3 (IntKind.i64.wrap (t-rf))):=BI.mul (BI.i64 hm5) u2 (by decide)
  have s3:=BI.add (g:=195) (BI.mono b10 (show 1≤194 by decide)) p3 (by decide)
  have s4:=BI.add (g:=196) s3 (BI.mono p4 (show 194≤195 by decide)) (by decide)
  have s5:=BI.add (g:=197) s4 (BI.mono p5 (show 194≤196 by decide)) (by decide)
  have p6:BI 194 (m6*calU x b1 k1 (IntKind.i64.wrap (t-rf))):=BI.mul (BI.i64 hm6) u0 (by decide)
  have p7:BI 194 (m7*calU y b2 k2 (IntKind.i64.wrap (t-rf))):=BI.mul (BI.i64 hm7) u1 (by decide)
  have p8:BI 194 (m8*calU z b3 k3 (IntKind.i64.wrap (t-rf))):=BI.mul (BI.i64 hm8) u2 (by decide)
  have s6:=BI.add (g:=195) (BI.mono b10 (show 1≤194 by decide)) p6 (by decide)
  have s7:=BI.add (g:=196) s6 (BI.mono p7 (show 194≤195 by decide)) (by decide)
  have s8:=BI.add (g:=197) s7 (BI.mono p8 (show 194≤196 by decide)) (by decide)
  refine spec_of hc rfl ?_
  refine spec_cut (cxOk Try.prog intsR_ok [] [g10left,rFrom,rPlus,rTimes,gNearQ]) follows [] 60 4 [(2,.ptr 2 0),(4,.ptr 4 0),(5,.sc (.v (.int .i64 0))),(7,.ptr 7 0),(8,.ptr 8 0)] [(2,45,[.v (.int .i64 b1),.v (.int .i64 b2),.v (.int .i64 b3),.v (.int .i64 k1),.v (.int .i64 k2),.v (.int .i64 k3),.v (.int .i64 rf),.v (.int .i64 m0),.v (.int .i64 m1),.v (.int .i64 m2),.v (.int .i64 m3),.v (.int .i64 m4),.v (.int .i64 m5),.v (.int .i64 m6),.v (.int .i64 m7),.v (.int .i64 m8)]),(4,24,[.v (.int .i64 0),.v (.int .i64 0),.v (.int .i64 0)]),(7,93,[.neg (calU x b1 k1 (IntKind.i64.wrap (t-rf))),.mag (calU x b1 k1 (IntKind.i64.wrap (t-rf))),.neg (calU y b2 k2 (IntKind.i64.wrap (t-rf))),.mag (calU y b2 k2 (IntKind.i64.wrap (t-rf))),.neg (calU z b3 k3 (IntKind.i64.wrap (t-rf))),.mag (calU z b3 k3 (IntKind.i64.wrap (t-rf)))]),(8,94,[.v (.int .i64 0),.v (.int .i64 0),.v (.int .i64 0)])] rfl ?_ ?_
  · skip
    repeat' first
      | exact trivial
      | (refine And.intro (show regChk _ _ _ _ _=true from by kernel_rfl) (And.intro ?_ ?_))
      | (refine And.intro (fun _=>?_) (fun h=>absurd (show true=false from h) (by decide)))
      | (refine And.intro (fun h=>absurd (show false=true from h) (by decide)) (fun _=>?_))
      | (refine And.intro (fun hb=>?_) (fun hb'=>?_))
      | refine And.intro ?_ ?_
    all_goals first
      | exact hp
      | (show (0:Int)≤_;decide)
      | (show (-9223372036854775808:Int)≤_;first|exact hm0.1|exact hm1.1|exact hm2.1|exact hm3.1|exact hm4.1|exact hm5.1|exact hm6.1|exact hm7.1|exact hm8.1|exact (i64_wd a1).1|exact (i64_wd a2).1|exact (i64_wd a3).1|exact (i64_wd a4).1|exact (i64_wd a5).1|exact (i64_wd a6).1|exact (wI _).1|decide)
      | (show _<(9223372036854775808:Int);first|exact hm0.2|exact hm1.2|exact hm2.2|exact hm3.2|exact hm4.2|exact hm5.2|exact hm6.2|exact hm7.2|exact hm8.2|exact (i64_wd a1).2|exact (i64_wd a2).2|exact (i64_wd a3).2|exact (i64_wd a4).2|exact (i64_wd a5).2|exact (i64_wd a6).2|exact (wI _).2|decide)
      | (show BI _ _;first|exact BI.mono b10 (by decide)|exact BI.mono u0 (by decide)|exact BI.mono u1 (by decide)|exact BI.mono u2 (by decide)|exact BI.mono (BI.i64 hm0) (by decide)|exact BI.mono (BI.i64 hm1) (by decide)|exact BI.mono (BI.i64 hm2) (by decide)|exact BI.mono (BI.i64 hm3) (by decide)|exact BI.mono (BI.i64 hm4) (by decide)|exact BI.mono (BI.i64 hm5) (by decide)|exact BI.mono (BI.i64 hm6) (by decide)|exact BI.mono (BI.i64 hm7) (by decide)|exact BI.mono (BI.i64 hm8) (by decide)|exact BI.mono p0 (by decide)|exact BI.mono p1 (by decide)|exact BI.mono p2 (by decide)|exact BI.mono s0 (by decide)|exact BI.mono s1 (by decide)|exact BI.mono s2 (by decide)|exact BI.mono p3 (by decide)|exact BI.mono p4 (by decide)|exact BI.mono p5 (by decide)|exact BI.mono s3 (by decide)|exact BI.mono s4 (by decide)|exact BI.mono s5 (by decide)|exact BI.mono p6 (by decide)|exact BI.mono p7 (by decide)|exact BI.mono p8 (by decide)|exact BI.mono s6 (by decide)|exact BI.mono s7 (by decide)|exact BI.mono s8 (by decide))
      | exact r1.1
      | exact r1.2
      | exact r2.1
      | exact r2.2
      | exact r3.1
      | exact r3.2
      | (show (-32768:Int)≤_;first|exact r1.1|exact r2.1|exact r3.1)
      | (show _≤(32767:Int);first|exact r1.2|exact r2.2|exact r3.2)
      | (show (_:Nat)=(_:Nat);rfl)
      | (show (_:Nat)≤1000;decide)
      | (show (_:Int)=(_:Int);rfl)
      | (show (_:Int)≤_;decide)
      | (show (_:Int)<_;decide)
      | (show _=_;rfl)
      -- PVC

  · refine spec_seq (kx:=fun s=>((toldR (roundP (0+m0*calU x b1 k1 (IntKind.i64.wrap (t-rf))+m1*calU y b2 k2 (IntKind.i64.wrap (t-rf))+m2*calU z b3 k3 (IntKind.i64.wrap (t-rf))) 1073741824)).2 != 0)=false∧((toldR (roundP (0+m3*calU x b1 k1 (IntKind.i64.wrap (t-rf))+m4*calU y b2 k2 (IntKind.i64.wrap (t-rf))+m5*calU z b3 k3 (IntKind.i64.wrap (t-rf))) 1073741824)).2 != 0)=false∧((toldR (roundP (0+m6*calU x b1 k1 (IntKind.i64.wrap (t-rf))+m7*calU y b2 k2 (IntKind.i64.wrap (t-rf))+m8*calU z b3 k3 (IntKind.i64.wrap (t-rf))) 1073741824)).2 != 0)=false∧leG s [(2,.ptr 2 0),(4,.ptr 4 0),(5,.sc (.v (.int .i64 0))),(7,.ptr 7 0),(8,.ptr 8 0),(9,.sc (.v (.int .i64 3)))]∧leB s [(2,45,[.v (.int .i64 b1),.v (.int .i64 b2),.v (.int .i64 b3),.v (.int .i64 k1),.v (.int .i64 k2),.v (.int .i64 k3),.v (.int .i64 rf),.v (.int .i64 m0),.v (.int .i64 m1),.v (.int .i64 m2),.v (.int .i64 m3),.v (.int .i64 m4),.v (.int .i64 m5),.v (.int .i64 m6),.v (.int .i64 m7),.v (.int .i64 m8)]),(4,24,[.v (.int .i64 0),.v (.int .i64 0),.v (.int .i64 0)]),(7,93,[.neg (calU x b1 k1 (IntKind.i64.wrap (t-rf))),.mag (calU x b1 k1 (IntKind.i64.wrap (t-rf))),.neg (calU y b2 k2 (IntKind.i64.wrap (t-rf))),.mag (calU y b2 k2 (IntKind.i64.wrap (t-rf))),.neg (calU z b3 k3 (IntKind.i64.wrap (t-rf))),.mag (calU z b3 k3 (IntKind.i64.wrap (t-rf)))]),(8,94,[.v (.int .i64 (toldR (roundP (0+m0*calU x b1 k1 (IntKind.i64.wrap (t-rf))+m1*calU y b2 k2 (IntKind.i64.wrap (t-rf))+m2*calU z b3 k3 (IntKind.i64.wrap (t-rf))) 1073741824)).1),.v (.int .i64 (toldR (roundP (0+m3*calU x b1 k1 (IntKind.i64.wrap (t-rf))+m4*calU y b2 k2 (IntKind.i64.wrap (t-rf))+m5*calU z b3 k3 (IntKind.i64.wrap (t-rf))) 1073741824)).1),.v (.int .i64 (toldR (roundP (0+m6*calU x b1 k1 (IntKind.i64.wrap (t-rf))+m7*calU y b2 k2 (IntKind.i64.wrap (t-rf))+m8*calU z b3 k3 (IntKind.i64.wrap (t-rf))) 1073741824)).1)])]) ?_ (fun s' hk=>?_)
    · refine spec_cut (cxOk Try.prog intsR_ok [] [g10left,rFrom,rPlus,rTimes,gNearQ]) follows [] 60 1 [(2,.ptr 2 0),(4,.ptr 4 0),(5,.sc (.v (.int .i64 0))),(7,.ptr 7 0),(8,.ptr 8 0),(9,.sc (.v (.int .i64 0)))] [(2,45,[.v (.int .i64 b1),.v (.int .i64 b2),.v (.int .i64 b3),.v (.int .i64 k1),.v (.int .i64 k2),.v (.int .i64 k3),.v (.int .i64 rf),.v (.int .i64 m0),.v (.int .i64 m1),.v (.int .i64 m2),.v (.int .i64 m3),.v (.int .i64 m4),.v (.int .i64 m5),.v (.int .i64 m6),.v (.int .i64 m7),.v (.int .i64 m8)]),(4,24,[.v (.int .i64 0),.v (.int .i64 0),.v (.int .i64 0)]),(7,93,[.neg (calU x b1 k1 (IntKind.i64.wrap (t-rf))),.mag (calU x b1 k1 (IntKind.i64.wrap (t-rf))),.neg (calU y b2 k2 (IntKind.i64.wrap (t-rf))),.mag (calU y b2 k2 (IntKind.i64.wrap (t-rf))),.neg (calU z b3 k3 (IntKind.i64.wrap (t-rf))),.mag (calU z b3 k3 (IntKind.i64.wrap (t-rf)))]),(8,94,[.v (.int .i64 0),.v (.int .i64 0),.v (.int .i64 0)])] rfl ?_ ?_
      · skip
        repeat' first
          | exact trivial
          | (refine And.intro (show regChk _ _ _ _ _=true from by kernel_rfl) (And.intro ?_ ?_))
          | (refine And.intro (fun _=>?_) (fun h=>absurd (show true=false from h) (by decide)))
          | (refine And.intro (fun h=>absurd (show false=true from h) (by decide)) (fun _=>?_))
          | (refine And.intro (fun hb=>?_) (fun hb'=>?_))
          | refine And.intro ?_ ?_
        all_goals first
          | exact hp
          | (show (0:Int)≤_;decide)
          | (show (-9223372036854775808:Int)≤_;first|exact hm0.1|exact hm1.1|exact hm2.1|exact hm3.1|exact hm4.1|exact hm5.1|exact hm6.1|exact hm7.1|exact hm8.1|exact (i64_wd a1).1|exact (i64_wd a2).1|exact (i64_wd a3).1|exact (i64_wd a4).1|exact (i64_wd a5).1|exact (i64_wd a6).1|exact (wI _).1|decide)
          | (show _<(9223372036854775808:Int);first|exact hm0.2|exact hm1.2|exact hm2.2|exact hm3.2|exact hm4.2|exact hm5.2|exact hm6.2|exact hm7.2|exact hm8.2|exact (i64_wd a1).2|exact (i64_wd a2).2|exact (i64_wd a3).2|exact (i64_wd a4).2|exact (i64_wd a5).2|exact (i64_wd a6).2|exact (wI _).2|decide)
          | (show BI _ _;first|exact BI.mono b10 (by decide)|exact BI.mono u0 (by decide)|exact BI.mono u1 (by decide)|exact BI.mono u2 (by decide)|exact BI.mono (BI.i64 hm0) (by decide)|exact BI.mono (BI.i64 hm1) (by decide)|exact BI.mono (BI.i64 hm2) (by decide)|exact BI.mono (BI.i64 hm3) (by decide)|exact BI.mono (BI.i64 hm4) (by decide)|exact BI.mono (BI.i64 hm5) (by decide)|exact BI.mono (BI.i64 hm6) (by decide)|exact BI.mono (BI.i64 hm7) (by decide)|exact BI.mono (BI.i64 hm8) (by decide)|exact BI.mono p0 (by decide)|exact BI.mono p1 (by decide)|exact BI.mono p2 (by decide)|exact BI.mono s0 (by decide)|exact BI.mono s1 (by decide)|exact BI.mono s2 (by decide)|exact BI.mono p3 (by decide)|exact BI.mono p4 (by decide)|exact BI.mono p5 (by decide)|exact BI.mono s3 (by decide)|exact BI.mono s4 (by decide)|exact BI.mono s5 (by decide)|exact BI.mono p6 (by decide)|exact BI.mono p7 (by decide)|exact BI.mono p8 (by decide)|exact BI.mono s6 (by decide)|exact BI.mono s7 (by decide)|exact BI.mono s8 (by decide))
          | exact r1.1
          | exact r1.2
          | exact r2.1
          | exact r2.2
          | exact r3.1
          | exact r3.2
          | (show (-32768:Int)≤_;first|exact r1.1|exact r2.1|exact r3.1)
          | (show _≤(32767:Int);first|exact r1.2|exact r2.2|exact r3.2)
          | (show (_:Nat)=(_:Nat);rfl)
          | (show (_:Nat)≤1000;decide)
          | (show (_:Int)=(_:Int);rfl)
          | (show (_:Int)≤_;decide)
          | (show (_:Int)<_;decide)
          | (show _=_;rfl)
          -- PVC

      · refine spec_block (spec_loopR 4 ?_)
        refine specR_succ (g10row0 hp rfl _ _ _) (fun s' hk=>specR_le hk.2.1 hk.2.2 rfl ?_)
        have h0:=hk.1
        refine specR_succ (g10row1 hp h0 rfl _ _ _) (fun s' hk=>specR_le hk.2.1 hk.2.2 rfl ?_)
        have h1:=hk.1
        refine specR_succ (g10row2 hp h0 h1 rfl _ _ _) (fun s' hk=>specR_le hk.2.1 hk.2.2 rfl ?_)
        have h2:=hk.1
        refine specR_succ (kx:=fun _=>False) (spec_vcd (cxOk Try.prog intsR_ok [] [g10left,rFrom,rPlus,rTimes,gNearQ]) follows [] 60 ?_) (fun _ h=>h.elim)
        repeat' first
          | exact trivial
          | (refine And.intro (show regChk _ _ _ _ _=true from by kernel_rfl) (And.intro ?_ ?_))
          | (refine And.intro (fun _=>?_) (fun h=>absurd (show true=false from h) (by decide)))
          | (refine And.intro (fun h=>absurd (show false=true from h) (by decide)) (fun _=>?_))
          | (refine And.intro (fun hb=>?_) (fun hb'=>?_))
          | refine And.intro ?_ ?_
        all_goals first
          | (show (_:Bool)=(_:Bool);assumption)
          | (show (_:Nat)=(_:Nat);rfl)
          | (show (_:Nat)≤1000;decide)
          | (show (_:Int)=(_:Int);rfl)
          | (show (_:Int)≤_;decide)
          | (show (_:Int)<_;decide)
          | (show _=_;rfl)
          -- PVC

    · obtain ⟨h0,h1,h2,hg,hb⟩:=hk
      refine spec_le hg hb rfl (spec_vcd (cxOk Try.prog intsR_ok [] [g10left,rFrom,rPlus,rTimes,gNearQ]) follows [] 60 ?_)
      repeat' first
        | exact trivial
        | (refine And.intro (show regChk _ _ _ _ _=true from by kernel_rfl) (And.intro ?_ ?_))
        | (refine And.intro (fun _=>?_) (fun h=>absurd (show true=false from h) (by decide)))
        | (refine And.intro (fun h=>absurd (show false=true from h) (by decide)) (fun _=>?_))
        | (refine And.intro (fun hb=>?_) (fun hb'=>?_))
        | refine And.intro ?_ ?_
      all_goals first
        | (show some (CR.tv (.tup _))=some (CR.tv (tV4 _));exact v4_eq ((ap_y h0 h1 h2).trans (cal_fin hp)))
        | (show (_:Nat)=(_:Nat);rfl)
        | (show (_:Nat)≤1000;decide)
        | (show (_:Int)=(_:Int);rfl)
        | (show (_:Int)≤_;decide)
        | (show (_:Int)<_;decide)
        | (show _=_;rfl)
        -- PVC
def g10Apply:Con Try.prog where
  f:=28
  sem:=fun xs=>match xs with
    | [.agg [.v (.int .i64 b1),.v (.int .i64 b2),.v (.int .i64 b3),.v (.int .i64 k1),.v (.int .i64 k2),.v (.int .i64 k3),.v (.int .i64 rf),.v (.int .i64 m0),.v (.int .i64 m1),.v (.int .i64 m2),.v (.int .i64 m3),.v (.int .i64 m4),.v (.int .i64 m5),.v (.int .i64 m6),.v (.int .i64 m7),.v (.int .i64 m8)],.agg [.v (.int .i64 x),.v (.int .i64 y),.v (.int .i64 z),.v (.int .i64 t)]]=>some (CalOk b1 b2 b3 k1 k2 k3 rf m0 m1 m2 m3 m4 m5 m6 m7 m8 x y z t,.tv (tV4 (calR b1 b2 b3 k1 k2 k3 rf m0 m1 m2 m3 m4 m5 m6 m7 m8 x y z t)))
    | _=>none
  ok:=by
    intro xs p r' h hp
    refine ⟨⟨_,Try.func28,by kernel_rfl,rfl⟩,fun us w ha=>?_⟩
    split at h
    · rename_i b1 b2 b3 k1 k2 k3 rf m0 m1 m2 m3 m4 m5 m6 m7 m8 x y z t
      cases h
      exact fns_ret (cxOk Try.prog intsR_ok [] [g10left,rFrom,rPlus,rTimes,gNearQ]) Try.func28 rfl _ rfl (by simp) (g10body hp rfl _ _) ha
    · cases h
def g10Plain:Con Try.prog where
  f:=30
  sem:=fun xs=>match xs with
    | []=>some (True,.tv (.agg [.v (.int .i64 0),.v (.int .i64 0),.v (.int .i64 0),.v (.int .i64 0),.v (.int .i64 0),.v (.int .i64 0),.v (.int .i64 0),.v (.int .i64 1073741824),.v (.int .i64 0),.v (.int .i64 0),.v (.int .i64 0),.v (.int .i64 1073741824),.v (.int .i64 0),.v (.int .i64 0),.v (.int .i64 0),.v (.int .i64 1073741824)]))
    | _=>none
  ok := by
    intro xs p r' h hp
    refine ⟨⟨_,Try.func30,by kernel_rfl,rfl⟩,fun us w ha=>?_⟩
    split at h
    · skip
      cases h
      refine fn_ret (cxOk Try.prog ints_ok [] []) follows Try.func30 rfl 100 _ rfl (by simp) ?_ ha
      repeat' first
        | exact trivial
        | (refine And.intro (show regChk _ _ _ _ _=true from by kernel_rfl) (And.intro ?_ ?_))
        | (refine And.intro (fun _=>?_) (fun h=>absurd (show true=false from h) (by decide)))
        | (refine And.intro (fun h=>absurd (show false=true from h) (by decide)) (fun _=>?_))
        | (refine And.intro (fun hb=>?_) (fun hb'=>?_))
        | refine And.intro ?_ ?_
      all_goals first
        | (show some (CR.tv (.agg _))=some (CR.tv (.agg _));rfl)
        | (show (_:Nat)=(_:Nat);rfl)
        | (show (_:Nat)≤1000;decide)
        | (show (_:Int)=(_:Int);rfl)
        | (show (_:Int)≤_;decide)
        | (show (_:Int)<_;decide)
        -- PVC
    · cases h
theorem ckc_t {c:Bool} (h:c=true):(0:Int)=bif c then 0 else 1:=by rw [h];rfl
theorem ckc_f {c:Bool} (h:c=false):(1:Int)=bif c then 0 else 1:=by rw [h];rfl
def cCalCheck:Con Try.prog where
  f:=29
  sem:=fun xs=>match xs with
    | [.agg [.v (.int .i64 b1),.v (.int .i64 b2),.v (.int .i64 b3),.v (.int .i64 k1),.v (.int .i64 k2),.v (.int .i64 k3),.v (.int .i64 rf),.v (.int .i64 m0),.v (.int .i64 m1),.v (.int .i64 m2),.v (.int .i64 m3),.v (.int .i64 m4),.v (.int .i64 m5),.v (.int .i64 m6),.v (.int .i64 m7),.v (.int .i64 m8)]]=>some (True,.tv (tN .i64 (bif goodC b1 b2 b3 k1 k2 k3 rf m0 m1 m2 m3 m4 m5 m6 m7 m8 then 0 else 1)))
    | _=>none
  ok := by
    intro xs p r' h hp
    refine ⟨⟨_,Try.func29,by kernel_rfl,rfl⟩,fun us w ha=>?_⟩
    split at h
    · rename_i b1 b2 b3 k1 k2 k3 rf m0 m1 m2 m3 m4 m5 m6 m7 m8
      cases h
      refine fn_ret (cxOk Try.prog ints_ok [] [cCalGood]) follows Try.func29 rfl 100 _ rfl (by simp) ?_ ha
      repeat' first
        | exact trivial
        | (refine And.intro (show regChk _ _ _ _ _=true from by kernel_rfl) (And.intro ?_ ?_))
        | (refine And.intro (fun _=>?_) (fun h=>absurd (show true=false from h) (by decide)))
        | (refine And.intro (fun h=>absurd (show false=true from h) (by decide)) (fun _=>?_))
        | (refine And.intro (fun hb=>?_) (fun hb'=>?_))
        | refine And.intro ?_ ?_
      all_goals first
        | (show some (CR.tv (tN _ _))=some (CR.tv (tN _ _));first|exact tN_eq (ckc_t (by assumption))|exact tN_eq (ckc_f (by assumption)))
        | (show (_:Nat)=(_:Nat);rfl)
        | (show (_:Nat)≤1000;decide)
        | (show (_:Int)=(_:Int);rfl)
        | (show (_:Int)≤_;decide)
        | (show (_:Int)<_;decide)
        -- PVC
    · cases h
abbrev row_calExact (b1 b2 b3 k1 k2 k3 rf m0 m1 m2 m3 m4 m5 m6 m7 m8 x y z t:Nat→Int):Nat→List A0:=fun j=>[.v (.int .i64 (b1 j)),.v (.int .i64 (b2 j)),.v (.int .i64 (b3 j)),.v (.int .i64 (k1 j)),.v (.int .i64 (k2 j)),.v (.int .i64 (k3 j)),.v (.int .i64 (rf j)),.v (.int .i64 (m0 j)),.v (.int .i64 (m1 j)),.v (.int .i64 (m2 j)),.v (.int .i64 (m3 j)),.v (.int .i64 (m4 j)),.v (.int .i64 (m5 j)),.v (.int .i64 (m6 j)),.v (.int .i64 (m7 j)),.v (.int .i64 (m8 j)),.v (.int .i64 (x j)),.v (.int .i64 (y j)),.v (.int .i64 (z j)),.v (.int .i64 (t j))]
theorem calExact_law (n:Nat) (b1 b2 b3 k1 k2 k3 rf m0 m1 m2 m3 m4 m5 m6 m7 m8 x y z t:Nat→Int) (hW:∀ j,I64 (b1 j)∧I64 (b2 j)∧I64 (b3 j)∧I64 (k1 j)∧I64 (k2 j)∧I64 (k3 j)∧I64 (rf j)∧I64 (m0 j)∧I64 (m1 j)∧I64 (m2 j)∧I64 (m3 j)∧I64 (m4 j)∧I64 (m5 j)∧I64 (m6 j)∧I64 (m7 j)∧I64 (m8 j)∧I64 (x j)∧I64 (y j)∧I64 (z j)∧I64 (t j)) {us:List Value} {w:World} (hargs:All2 (TV.reads (fun _=>0) w.heap.size w) [.rowF n 20 (row_calExact b1 b2 b3 k1 k2 k3 rf m0 m1 m2 m3 m4 m5 m6 m7 m8 x y z t)] us):Ret Try.prog 9 us.toArray w (.tv (tB true)):=by
  refine fnl_ret (lawL 20 n (row_calExact b1 b2 b3 k1 k2 k3 rf m0 m1 m2 m3 m4 m5 m6 m7 m8 x y z t) 2) (cxOk Try.prog intsR_ok [eqVec,eqPlain] [cMayCal,cMayRaw,g10Apply,cCal,cCalCheck,cPlain,g10Plain,cNum10,cWakes10]) follows Try.func9 rfl 300 _ rfl (by simp) ?_ hargs
  repeat' first
    | exact trivial
    | (refine And.intro (show regChk _ _ _ _ _=true from by kernel_rfl) (And.intro ?_ ?_))
    | (refine And.intro (fun _=>?_) (fun h=>absurd (show true=false from h) (by decide)))
    | (refine And.intro (fun h=>absurd (show false=true from h) (by decide)) (fun _=>?_))
    | (have:=hA;refine And.intro (fun hb=>?_) (fun hb'=>?_))
    | (have:=hC;refine And.intro (fun hA=>?_) (fun hA=>?_))
    | refine And.intro (fun hC=>?_) (fun hC=>?_)
    | refine And.intro ?_ ?_
    | (intro v hv)
    | intro _
  all_goals first
    | (show wfB _ _=true;rfl)
    | (show (_:Bool)=true;assumption)
    | (show (_:Bool)=true;exact beq_iff_eq.2 (by assumption))
    | (show (0:Int)≤v;exact hv.1)
    | (show v<(n:Int);exact (hC1 hC).1)
    | (exact ⟨0,⟨Int.le_refl _,Int.natCast_nonneg _⟩,⟨rfl,rfl,rfl,trivial⟩,trivial⟩)
    | (exact ⟨IntKind.i64.wrap (v+1),(stepL hv hC (by decide)).1,(stepL hv hC (by decide)).2,⟨rfl,rfl,rfl,trivial⟩,trivial⟩)
    | (show some (CR.tv (tB true))=some (CR.tv (tB true));rfl)
    | (show goodC _ _ _ _ _ _ _ _ _ _ _ _ _ _ _ _=true;exact (cal_ok' (b1:=b1 v.toNat) (b2:=b2 v.toNat) (b3:=b3 v.toNat) (k1:=k1 v.toNat) (k2:=k2 v.toNat) (k3:=k3 v.toNat) (rf:=rf v.toNat) (m0:=m0 v.toNat) (m1:=m1 v.toNat) (m2:=m2 v.toNat) (m3:=m3 v.toNat) (m4:=m4 v.toNat) (m5:=m5 v.toNat) (m6:=m6 v.toNat) (m7:=m7 v.toNat) (m8:=m8 v.toNat) (x:=x v.toNat) (y:=y v.toNat) (z:=z v.toNat) (t:=t v.toNat) hA (by assumption)).1)
    | (show graw _ _ _ _=true;exact (cal_ok' (b1:=b1 v.toNat) (b2:=b2 v.toNat) (b3:=b3 v.toNat) (k1:=k1 v.toNat) (k2:=k2 v.toNat) (k3:=k3 v.toNat) (rf:=rf v.toNat) (m0:=m0 v.toNat) (m1:=m1 v.toNat) (m2:=m2 v.toNat) (m3:=m3 v.toNat) (m4:=m4 v.toNat) (m5:=m5 v.toNat) (m6:=m6 v.toNat) (m7:=m7 v.toNat) (m8:=m8 v.toNat) (x:=x v.toNat) (y:=y v.toNat) (z:=z v.toNat) (t:=t v.toNat) hA (by assumption)).2)
    | (show some (CR.tv (tB false))=some (CR.tv (tB true));exfalso;first|exact no (cx_11 (b1:=b1 v.toNat) (b2:=b2 v.toNat) (b3:=b3 v.toNat) (k1:=k1 v.toNat) (k2:=k2 v.toNat) (k3:=k3 v.toNat) (rf:=rf v.toNat) (m0:=m0 v.toNat) (m1:=m1 v.toNat) (m2:=m2 v.toNat) (m3:=m3 v.toNat) (m4:=m4 v.toNat) (m5:=m5 v.toNat) (m6:=m6 v.toNat) (m7:=m7 v.toNat) (m8:=m8 v.toNat) (x:=x v.toNat) (y:=y v.toNat) (z:=z v.toNat) (t:=t v.toNat) hA (by assumption)) (by assumption)|exact no (cx_10 (b1:=b1 v.toNat) (b2:=b2 v.toNat) (b3:=b3 v.toNat) (k1:=k1 v.toNat) (k2:=k2 v.toNat) (k3:=k3 v.toNat) (rf:=rf v.toNat) (m0:=m0 v.toNat) (m1:=m1 v.toNat) (m2:=m2 v.toNat) (m3:=m3 v.toNat) (m4:=m4 v.toNat) (m5:=m5 v.toNat) (m6:=m6 v.toNat) (m7:=m7 v.toNat) (m8:=m8 v.toNat) (x:=x v.toNat) (y:=y v.toNat) (z:=z v.toNat) (t:=t v.toNat) hA (by assumption)) (by assumption)|exact no (cx_0 (b1:=b1 v.toNat) (b2:=b2 v.toNat) (b3:=b3 v.toNat) (k1:=k1 v.toNat) (k2:=k2 v.toNat) (k3:=k3 v.toNat) (rf:=rf v.toNat) (m0:=m0 v.toNat) (m1:=m1 v.toNat) (m2:=m2 v.toNat) (m3:=m3 v.toNat) (m4:=m4 v.toNat) (m5:=m5 v.toNat) (m6:=m6 v.toNat) (m7:=m7 v.toNat) (m8:=m8 v.toNat) (x:=x v.toNat) (y:=y v.toNat) (z:=z v.toNat) (t:=t v.toNat) hA) (by assumption))
    -- PVC
abbrev ks_calExact:List (Option IntKind):=[some .i64,some .i64,some .i64,some .i64,some .i64,some .i64,some .i64,some .i64,some .i64,some .i64,some .i64,some .i64,some .i64,some .i64,some .i64,some .i64,some .i64,some .i64,some .i64,some .i64]
theorem calExact_row (n:Nat) (f:Nat→List Value) (hf:∀ j,okV ks_calExact (f j)) {us:List Value} {w:World} (hargs:All2 (TV.reads (fun _=>0) w.heap.size w) [.rowF n 20 (fun j=>cellsG f j 0 ks_calExact)] us):Ret Try.prog 9 us.toArray w (.tv (tB true)) :=
  calExact_law n (gI f 0) (gI f 1) (gI f 2) (gI f 3) (gI f 4) (gI f 5) (gI f 6) (gI f 7) (gI f 8) (gI f 9) (gI f 10) (gI f 11) (gI f 12) (gI f 13) (gI f 14) (gI f 15) (gI f 16) (gI f 17) (gI f 18) (gI f 19) (fun j=>⟨gI_i64 (hf j) rfl,gI_i64 (hf j) rfl,gI_i64 (hf j) rfl,gI_i64 (hf j) rfl,gI_i64 (hf j) rfl,gI_i64 (hf j) rfl,gI_i64 (hf j) rfl,gI_i64 (hf j) rfl,gI_i64 (hf j) rfl,gI_i64 (hf j) rfl,gI_i64 (hf j) rfl,gI_i64 (hf j) rfl,gI_i64 (hf j) rfl,gI_i64 (hf j) rfl,gI_i64 (hf j) rfl,gI_i64 (hf j) rfl,gI_i64 (hf j) rfl,gI_i64 (hf j) rfl,gI_i64 (hf j) rfl,gI_i64 (hf j) rfl⟩) hargs
end
end Go.Proofs.Ytonelbidndjhdaa.Wh
end
section
namespace Go.Proofs.Ytonelbidndjhdaa.calExact
open Go.ChangeShapes Go.WideShapes Go.ChangeAt RowKit YtonelbidndjhdaaW.PrintWords YtonelbidndjhdaaW.Sx Ytonelbidndjhdaa.Wh
set_option linter.unusedVariables false
theorem own:ownKnob Try.prog.godebug=none:=by kernel_rfl
theorem laidOut:laidOutB Try.prog=true:=by kernel_rfl
theorem cells:lvs Try.prog true 30 49=some [some .i64,some .i64,some .i64,some .i64,some .i64,some .i64,some .i64,some .i64,some .i64,some .i64,some .i64,some .i64,some .i64,some .i64,some .i64,some .i64,some .i64,some .i64,some .i64,some .i64]:=by kernel_rfl
set_option maxRecDepth 100000 in
theorem lifted (os:Os) (started:os.Started) (H:Type) (enc:TypeId × Value→H) :
    ReturnsInHanded {} Try.checked os 9 .any (Rows.calExactSpec.pre6 enc Try.prog Try.f9 Rows.calExactRow.domain false) (Rows.calExactSpec.post enc Try.prog Try.f9 false true false false):=by
  refine returnsInHanded_of_change_sized (C:=Try.checked) own started (by kernel_rfl) Try.func9
    (ChangeSpec.witness6 (enc:=enc) (C:=Try.checked) false ⟨#[],#[.slice none 0 0],[]⟩ 8 (by kernel_rfl) (by kernel_rfl) (by kernel_rfl) (by kernel_rfl)) ?_
  intro W base args ds gs before hval0 hW hcnd hsz0 _
  have hval:∀ (j:Nat) t v,Try.f9.params[j]?=some t→args[j]?=some v→Value.okWide Try.prog W .any base t v:=hval0
  have hW':=hW
  obtain ⟨p,q,hA0,hV,rfl,hfz,hnd⟩:=hW
  have hA:DataW.TrodAll enc Try.prog W 0 (fun _=>true) true Try.f9.params.toList args.toList ds p:=hA0
  rw [Try.params9] at hA hval
  obtain ⟨v0,vs0,d0,ds0,p0,q0,hargs,rfl,rfl,h0,r0⟩:=trodAll_cons hA
  obtain ⟨rfl,rfl,rfl⟩:=trodAll_nil r0
  obtain rfl:args=#[v0]:=by cases args;simp_all
  obtain ⟨rfl,rfl⟩:=trodVars_none hV
  have k0:=h0
  have lt0:∀ x∈p0,x.block<W.heap.size:=by obtain ⟨m,hm⟩:=k0;exact DataW.trod_lt m _ _ _ hm
  have hv0:=hval 0 42 v0 rfl rfl
  obtain ⟨a0,len0,cap0,rfl⟩:=okWide_slice Try.underlying42 hv0
  obtain ⟨f,hf,hr⟩:=row_of Try.underlying42 cells (by decide) h0
  clear hA0 hval0 hsz0
  refine Calls.mono (calExact_row len0 f hf (us:=[_]) (.cons (hr _) .nil)) fun e W' hpost=>?_
  obtain ⟨u,rfl,hu,bel⟩:=hpost
  obtain rfl:u = .bool true:=hu
  exact ⟨_,rfl,_,_,_,[],_,[],hW',trodAll_mk1 (shut_bool Try.underlying4 _),(trodAll_cons_mk (Below.trod laidOut (by kernel_rfl) (of_decide_eq_true (by kernel_rfl)) k0 bel lt0) trodAll_mk0),rfl,bel.frame _,fun h=>by cases h⟩
theorem over:Rows.calExactRow.holds Try.pinned (OpenSpec.ofChange Rows.calExactSpec) :=
  OpenClaim.holds_of_wide 9 Try.f9 rfl rfl rfl rfl rfl rfl rfl ⟨rfl,rfl,rfl,rfl,rfl⟩ rfl rfl rfl rfl rfl (by kernel_rfl) Try.func9 (by kernel_rfl)
    (of_decide_eq_true (by kernel_rfl)) (by unfold Func.isWrapper;first|(rw [if_pos (by decide +kernel)];kernel_rfl)|(rw [if_neg (by decide +kernel)];exact ⟨rfl,rfl⟩))
    (fun os started H enc _=>lifted os started H enc)
theorem proved:Rows.CalExactSaid:=over
end Go.Proofs.Ytonelbidndjhdaa.calExact
namespace Go.Proofs.Ytonelbidndjhdaa
theorem calExact_holds:Rows.CalExactSaid:=calExact.proved
end Go.Proofs.Ytonelbidndjhdaa
end
