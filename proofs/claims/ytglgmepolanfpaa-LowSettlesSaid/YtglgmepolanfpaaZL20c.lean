/- The row of LowSettles, out of its law by the reckoner: for every argument that reads as data the call returns true and leaves the argument as it was. -/
import Derived.Test.YtglgmepolanfpaaZL20b
import Derived.Deep.Slices
import Derived.OpenShut
import Derived.SizedLaws
import Derived.Test.YtglgmepolanfpaaRows
import Derived.WalkKit
import Derived.ProofKit
import Derived.ShutString
import Derived.ChangeOld
import Derived.Below
import Derived.Carry
section
set_option linter.unusedVariables false
set_option linter.unusedSimpArgs false
namespace Go.Proofs.Ytglgmepolanfpaa.Wh
open Go Go.RowKit Go.Proofs.YtglgmepolanfpaaW.PrintWords Go.Proofs.YtglgmepolanfpaaW.PrintMore Go.Proofs.YtglgmepolanfpaaW.Aid Go.Proofs.YtglgmepolanfpaaW.Big Go.Proofs.YtglgmepolanfpaaW.Sx Go.Proofs.Ytglgmepolanfpaa.BitsWalk Go.Proofs.Ytglgmepolanfpaa.Limbs Go.Proofs.Ytglgmepolanfpaa.Whole Go.Proofs.Ytglgmepolanfpaa.FxWalk Go.Proofs
abbrev tV4 (p:Int × Int × Int × Int):TV := .tup [(true,[.v (.int .i64 p.1),.v (.int .i64 p.2.1),.v (.int .i64 p.2.2.1)]),(false,[.v (.int .i64 p.2.2.2)])]
theorem v4_eq {x y z e:Int} {p:Int × Int × Int × Int} (h:(x,y,z,e)=p):(some (CR.tv (.tup [(true,[.v (.int .i64 x),.v (.int .i64 y),.v (.int .i64 z)]),(false,[.v (.int .i64 e)])])):Option CR)=some (CR.tv (tV4 p)):=by rw [← h]
def vT (a b c:Int):Int × Int × Int × Int:=if (wd a&&(wd b&&wd c))=true then (a,b,c,0) else (0,0,0,2)
theorem tR_bad {a:Int} (h:((toldR a).2 != 0)=true):wd a=false∧(toldR a).2=2:=by
  unfold toldR at *
  by_cases hw:wd a=true
  · rw [if_pos hw] at h;exact absurd (show ((0:Int) != 0)=true from h) (by decide)
  · rw [if_neg hw];exact ⟨by simpa using hw,rfl⟩
theorem tR_ok {a:Int} (h:((toldR a).2 != 0)=false):wd a=true∧(toldR a).1=a:=by
  unfold toldR at *
  by_cases hw:wd a=true
  · rw [if_pos hw];exact ⟨hw,rfl⟩
  · rw [if_neg hw] at h;exact absurd (show ((2:Int) != 0)=false from h) (by decide)
theorem vT_1 {a b c:Int} (h:((toldR a).2 != 0)=true):((0:Int),(0:Int),(0:Int),(toldR a).2)=vT a b c:=by
  obtain ⟨h1,h2⟩:=tR_bad h
  unfold vT;rw [h2,if_neg (by simp [h1])]
theorem vT_2 {a b c:Int} (h:((toldR b).2 != 0)=true):((0:Int),(0:Int),(0:Int),(toldR b).2)=vT a b c:=by
  obtain ⟨h1,h2⟩:=tR_bad h
  unfold vT;rw [h2,if_neg (by simp [h1])]
theorem vT_3 {a b c:Int} (h:((toldR c).2 != 0)=true):((0:Int),(0:Int),(0:Int),(toldR c).2)=vT a b c:=by
  obtain ⟨h1,h2⟩:=tR_bad h
  unfold vT;rw [h2,if_neg (by simp [h1])]
theorem vT_4 {a b c:Int} (h:((toldR a).2 != 0)=false) (h':((toldR b).2 != 0)=false) (h'':((toldR c).2 != 0)=false):((toldR a).1,(toldR b).1,(toldR c).1,(0:Int))=vT a b c:=by
  obtain ⟨h1,h2⟩:=tR_ok h
  obtain ⟨h3,h4⟩:=tR_ok h'
  obtain ⟨h5,h6⟩:=tR_ok h''
  unfold vT;rw [h2,h4,h6,if_pos (by simp [h1,h3,h5])]
abbrev gV (x y z:Int):Bool:=allw [x,y,z]
theorem gV_iff {x y z:Int}:gV x y z=true↔wd x=true∧wd y=true∧wd z=true:=by simp [gV,allw]
section
set_option maxRecDepth 100000
set_option maxHeartbeats 4000000
def cVOf:Con Try.prog where
  f:=38
  sem:=fun xs=>match xs with
    | [.agg [.v (.int .i64 x),.v (.int .i64 y),.v (.int .i64 z)]]=>some (True,.new 2 3 1 [.v (.int .i64 x),.v (.int .i64 y),.v (.int .i64 z)])
    | _=>none
  ok := by
    intro xs p r' h hp
    refine ⟨⟨_,Try.func38,by kernel_rfl,rfl⟩,fun us w ha=>?_⟩
    split at h
    · rename_i x y z
      cases h
      refine fn_ret (cxOk Try.prog ints_ok [] []) follows Try.func38 rfl 100 _ rfl (by simp) ?_ ha
      repeat' first
        | exact trivial
        | (refine And.intro (show regChk _ _ _ _ _=true from by kernel_rfl) (And.intro ?_ ?_))
        | (refine And.intro (fun _=>?_) (fun h=>absurd (show true=false from h) (by decide)))
        | (refine And.intro (fun h=>absurd (show false=true from h) (by decide)) (fun _=>?_))
        | (refine And.intro (fun hb=>?_) (fun hb'=>?_))
        | refine And.intro ?_ ?_
      all_goals first
        | (show some (CR.new _ _ _ _)=some (CR.new _ _ _ _);rfl)
        | (show (_:Nat)=(_:Nat);rfl)
        | (show (_:Nat)≤1000;decide)
        | (show (_:Int)=(_:Int);rfl)
        | (show (_:Int)≤_;decide)
        | (show (_:Int)<_;decide)
        -- PVC
    · cases h
def cVGood:Con Try.prog where
  f:=35
  sem:=fun xs=>match xs with
    | [.agg [.v (.int .i64 x),.v (.int .i64 y),.v (.int .i64 z)]]=>some (True,.tv (tB (gV x y z)))
    | _=>none
  ok := by
    intro xs p r' h hp
    refine ⟨⟨_,Try.func35,by kernel_rfl,rfl⟩,fun us w ha=>?_⟩
    split at h
    · rename_i x y z
      cases h
      refine fn_ret (cxOk Try.prog ints_ok [] [cAll]) follows Try.func35 rfl 100 _ rfl (by simp) ?_ ha
      repeat' first
        | exact trivial
        | (refine And.intro (show regChk _ _ _ _ _=true from by kernel_rfl) (And.intro ?_ ?_))
        | (refine And.intro (fun _=>?_) (fun h=>absurd (show true=false from h) (by decide)))
        | (refine And.intro (fun h=>absurd (show false=true from h) (by decide)) (fun _=>?_))
        | (refine And.intro (fun hb=>?_) (fun hb'=>?_))
        | refine And.intro ?_ ?_
      all_goals first
        | (show some (CR.tv (tB _))=some (CR.tv (tB _));exact tB_eq rfl)
        | (show (_:Nat)=(_:Nat);rfl)
        | (show (_:Nat)≤1000;decide)
        | (show (_:Int)=(_:Int);rfl)
        | (show (_:Int)≤_;decide)
        | (show (_:Int)<_;decide)
        -- PVC
    · cases h
def cVTold:Con Try.prog where
  f:=36
  sem:=fun xs=>match xs with
    | [.row 3 [.neg a,.mag a',.neg b,.mag b',.neg c,.mag c']]=>some (a'=a∧b'=b∧c'=c,.tv (tV4 (vT a b c)))
    | _=>none
  ok := by
    intro xs p r' h hp
    refine ⟨⟨_,Try.func36,by kernel_rfl,rfl⟩,fun us w ha=>?_⟩
    split at h
    · rename_i a a' b b' c c'
      cases h
      obtain ⟨rfl,rfl,rfl⟩:=hp
      refine fnu_ret (cxOk Try.prog ints_ok [] [cTold]) follows [0,2,3,4,9,10,11] Try.func36 rfl 100 _ rfl (by simp) ?_ ha
      repeat' first
        | exact trivial
        | (refine And.intro (show regChk _ _ _ _ _=true from by kernel_rfl) (And.intro ?_ ?_))
        | (refine And.intro (fun _=>?_) (fun h=>absurd (show true=false from h) (by decide)))
        | (refine And.intro (fun h=>absurd (show false=true from h) (by decide)) (fun _=>?_))
        | (refine And.intro (fun hb=>?_) (fun hb'=>?_))
        | refine And.intro ?_ ?_
      all_goals first
        | (show some (CR.tv (.tup _))=some (CR.tv (tV4 _));first|exact v4_eq (vT_1 (by assumption))|exact v4_eq (vT_2 (by assumption))|exact v4_eq (vT_3 (by assumption))|exact v4_eq (vT_4 (by assumption) (by assumption) (by assumption)))
        | (show (_:Nat)=(_:Nat);rfl)
        | (show (_:Nat)≤1000;decide)
        | (show (_:Int)=(_:Int);rfl)
        | (show (_:Int)≤_;decide)
        | (show (_:Int)<_;decide)
        -- PVC
    · cases h
end
end Go.Proofs.Ytglgmepolanfpaa.Wh
end
section
set_option linter.unusedVariables false
set_option linter.unusedSimpArgs false
namespace Go.Proofs.Ytglgmepolanfpaa.Wh
open Go Go.RowKit Go.Proofs.YtglgmepolanfpaaW.PrintWords Go.Proofs.YtglgmepolanfpaaW.PrintMore Go.Proofs.YtglgmepolanfpaaW.Aid Go.Proofs.YtglgmepolanfpaaW.Big Go.Proofs.YtglgmepolanfpaaW.Sx Go.Proofs.Ytglgmepolanfpaa.BitsWalk Go.Proofs.Ytglgmepolanfpaa.Limbs Go.Proofs.Ytglgmepolanfpaa.Whole Go.Proofs.Ytglgmepolanfpaa.FxWalk Go.Proofs
def partR (y v s:Int):Int:=roundI (y*2 ^ s.toNat-y+v) (2 ^ s.toNat)
theorem pow_pos' (s:Int):(0:Int)<2 ^ s.toNat:=Int.pow_pos (by decide)
theorem pow15 {s:Int} (h0:0≤s) (h:s≤15):(2:Int) ^ s.toNat≤32768:=by
  obtain ⟨n,rfl⟩:=Int.eq_ofNat_of_zero_le h0
  have hn:n≤15:=by omega
  have:(2:Int) ^ (15:Nat)=32768:=by decide
  rw [← this]
  have h2:(2:Nat) ^ n≤2 ^ 15:=Nat.pow_le_pow_right (by decide) hn
  have h3:((2 ^ n:Nat):Int)≤((2 ^ 15:Nat):Int):=Int.ofNat_le.2 h2
  rw [Int.natCast_pow,Int.natCast_pow] at h3
  exact h3
theorem mul_bd {y d:Int} (hy : -9223372036854775808≤y∧y<9223372036854775808) (h0:0<d) (hd:d≤32768) : -9223372036854775808*32768≤y*d∧y*d≤9223372036854775808*32768:=by
  constructor
  · have h1 : -9223372036854775808*d≤y*d:=Int.mul_le_mul_of_nonneg_right hy.1 (Int.le_of_lt h0)
    omega
  · have h1:y*d≤9223372036854775808*d:=Int.mul_le_mul_of_nonneg_right (by omega) (Int.le_of_lt h0)
    omega
theorem len_om {x:Int} (h : -1000000000000000000000000000000000000000000000000000000000000000≤x) (h':x≤1000000000000000000000000000000000000000000000000000000000000000):Len0 x:=len_big (k:=4) (by decide) (Nat.lt_of_le_of_lt (show x.natAbs≤1000000000000000000000000000000000000000000000000000000000000000 by omega) (by decide +kernel))
section
set_option maxRecDepth 100000
set_option maxHeartbeats 4000000
def cPart:Con Try.prog where
  f:=40
  sem:=fun xs=>match xs with
    | [.sc (.v (.int .i64 y)),.sc (.v (.int .i64 v)),.sc (.v (.int .i64 s))]=>some ((-9223372036854775808≤y∧y<9223372036854775808)∧(-9223372036854775808≤v∧v<9223372036854775808)∧0≤s∧s≤15,.tv (tI (partR y v s)))
    | _=>none
  ok := by
    intro xs p r' h hp
    refine ⟨⟨_,Try.func40,by kernel_rfl,rfl⟩,fun us w ha=>?_⟩
    split at h
    · rename_i y v s
      cases h
      obtain ⟨hy,hv,hs0,hs1⟩:=hp
      have p0:=pow_pos' s
      have p1:=pow15 hs0 hs1
      have p2:=mul_bd hy p0 p1
      refine fn_ret (cxOk Try.prog ints_ok [] [cSub,cLeft,cFrom,cRound,cAdd,cPower]) follows Try.func40 rfl 100 _ rfl (by simp) ?_ ha
      repeat' first
        | exact trivial
        | (refine And.intro (show regChk _ _ _ _ _=true from by kernel_rfl) (And.intro ?_ ?_))
        | (refine And.intro (fun _=>?_) (fun h=>absurd (show true=false from h) (by decide)))
        | (refine And.intro (fun h=>absurd (show false=true from h) (by decide)) (fun _=>?_))
        | (refine And.intro (fun hb=>?_) (fun hb'=>?_))
        | refine And.intro ?_ ?_
      all_goals first
        | (show Len0 _;exact len_om (by omega) (by omega))
        | (show (_:Int)≠0;omega)
        | (show Int.natAbs _<(_:Nat);omega)
        | (show (_:Int)≤_;first|exact hy.1|exact hv.1|omega)
        | (show (_:Int)<_;first|exact hy.2|exact hv.2|omega)
        | (show some (CR.tv (tI _))=some (CR.tv (tI _));rfl)
        | (show (_:Nat)=(_:Nat);rfl)
        | (show (_:Nat)≤1000;decide)
        | (show (_:Int)=(_:Int);rfl)
        | (show (_:Int)≤_;decide)
        | (show (_:Int)<_;decide)
        -- PVC
    · cases h
def cLowClo:Con Try.prog where
  f:=39
  sem:=fun xs=>match xs with
    | [.sc (.v (.int .i64 y)),.sc (.v (.int .i64 v)),.rptr [.v (.int .i64 s)]]=>some ((-9223372036854775808≤y∧y<9223372036854775808)∧(-9223372036854775808≤v∧v<9223372036854775808)∧0≤s∧s≤15,.tv (tI (partR y v s)))
    | _=>none
  ok := by
    intro xs p r' h hp
    refine ⟨⟨_,Try.func39,by kernel_rfl,rfl⟩,fun us w ha=>?_⟩
    split at h
    · rename_i y v s
      cases h
      obtain ⟨hy,hv,hs0,hs1⟩:=hp
      refine fn_ret (cxOk Try.prog ints_ok [] [cPart]) follows Try.func39 rfl 100 _ rfl (by simp) ?_ ha
      repeat' first
        | exact trivial
        | (refine And.intro (show regChk _ _ _ _ _=true from by kernel_rfl) (And.intro ?_ ?_))
        | (refine And.intro (fun _=>?_) (fun h=>absurd (show true=false from h) (by decide)))
        | (refine And.intro (fun h=>absurd (show false=true from h) (by decide)) (fun _=>?_))
        | (refine And.intro (fun hb=>?_) (fun hb'=>?_))
        | refine And.intro ?_ ?_
      all_goals first
        | (show (_:Int)≤_;first|exact hy.1|exact hv.1|omega)
        | (show (_:Int)<_;first|exact hy.2|exact hv.2|omega)
        | (show some (CR.tv (tI _))=some (CR.tv (tI _));rfl)
        | (show (_:Nat)=(_:Nat);rfl)
        | (show (_:Nat)≤1000;decide)
        | (show (_:Int)=(_:Int);rfl)
        | (show (_:Int)≤_;decide)
        | (show (_:Int)<_;decide)
        -- PVC
    · cases h
def cEachLow:Con Try.prog where
  f:=37
  sem:=fun xs=>match xs with
    | [.row 3 [.v (.int .i64 a),.v (.int .i64 b),.v (.int .i64 c)],.row 3 [.v (.int .i64 d),.v (.int .i64 e),.v (.int .i64 f)],.clo g [[.v (.int .i64 s)]]]=>if g=39 then some ((-9223372036854775808≤a∧a<9223372036854775808)∧(-9223372036854775808≤b∧b<9223372036854775808)∧(-9223372036854775808≤c∧c<9223372036854775808)∧(-9223372036854775808≤d∧d<9223372036854775808)∧(-9223372036854775808≤e∧e<9223372036854775808)∧(-9223372036854775808≤f∧f<9223372036854775808)∧0≤s∧s≤15,.new 77 3 2 [.neg (partR a d s),.mag (partR a d s),.neg (partR b e s),.mag (partR b e s),.neg (partR c f s),.mag (partR c f s)]) else none
    | _=>none
  ok := by
    intro xs p r' h hp
    refine ⟨⟨_,Try.func37,by kernel_rfl,rfl⟩,fun us w ha=>?_⟩
    split at h
    · rename_i a b c d e f g s
      split at h
      case isFalse=>cases h
      rename_i hf
      subst hf
      cases h
      obtain ⟨h1,h2,h3,h4,h5,h6,hs0,hs1⟩:=hp
      refine fnu_ret (cxOk Try.prog ints_ok [] [cLowClo]) follows [0,1,2,6,9,10,11] Try.func37 rfl 100 _ rfl (by simp) ?_ ha
      repeat' first
        | exact trivial
        | (refine And.intro (show regChk _ _ _ _ _=true from by kernel_rfl) (And.intro ?_ ?_))
        | (refine And.intro (fun _=>?_) (fun h=>absurd (show true=false from h) (by decide)))
        | (refine And.intro (fun h=>absurd (show false=true from h) (by decide)) (fun _=>?_))
        | (refine And.intro (fun hb=>?_) (fun hb'=>?_))
        | refine And.intro ?_ ?_
      all_goals first
        | (show some (CR.new _ _ _ _)=some (CR.new _ _ _ _);rfl)
        | (show (_:Int)≤_;first|exact h1.1|exact h2.1|exact h3.1|exact h4.1|exact h5.1|exact h6.1|exact hs0|exact hs1|decide)
        | (show (_:Int)<_;first|exact h1.2|exact h2.2|exact h3.2|exact h4.2|exact h5.2|exact h6.2|decide)
        | (show (_:Nat)=(_:Nat);rfl)
        | (show (_:Nat)≤1000;decide)
        | (show (_:Int)=(_:Int);rfl)
        | (show (_:Int)≤_;decide)
        | (show (_:Int)<_;decide)
        -- PVC
    · cases h
abbrev tLow (p:Bool × Int × Int × Int × Int):TV := .tup [(true,[.v (.bool p.1),.v (.int .i64 p.2.1),.v (.int .i64 p.2.2.1),.v (.int .i64 p.2.2.2.1)]),(false,[.v (.int .i64 p.2.2.2.2)])]
theorem low_eq {o:Bool} {x y z e:Int} {p:Bool × Int × Int × Int × Int} (h':(o,x,y,z,e)=p):(some (CR.tv (.tup [(true,[.v (.bool o),.v (.int .i64 x),.v (.int .i64 y),.v (.int .i64 z)]),(false,[.v (.int .i64 e)])])):Option CR)=some (CR.tv (tLow p)):=by rw [← h']
def LowOk (a b c s d e f:Int):Prop:=gV a b c=true∧gV d e f=true∧0≤s∧s≤15
instance (a b c s d e f:Int):Decidable (LowOk a b c s d e f):=inferInstanceAs (Decidable (_∧_))
def lowR (o:Bool) (a b c s d e f:Int):Bool × Int × Int × Int × Int :=
  if LowOk a b c s d e f then (if o=true then (if (vT (partR a d s) (partR b e s) (partR c f s)).2.2.2=0 then (true,(vT (partR a d s) (partR b e s) (partR c f s)).1,(vT (partR a d s) (partR b e s) (partR c f s)).2.1,(vT (partR a d s) (partR b e s) (partR c f s)).2.2.1,0) else (false,0,0,0,(vT (partR a d s) (partR b e s) (partR c f s)).2.2.2)) else (true,d,e,f,0)) else (false,0,0,0,1)
abbrev lowC (a b c s d e f:Int):Bool:=bif bif bif !gV a b c then true else !gV d e f then true else decide (s<0) then true else decide (s>15)
theorem lowC_iff {a b c s d e f:Int}:lowC a b c s d e f=false↔LowOk a b c s d e f:=by
  unfold lowC LowOk
  cases gV a b c<;>cases gV d e f<;>by_cases h3:s<0<;>by_cases h4:s>15<;>simp [h3,h4]<;>omega
theorem low_n {o:Bool} {a b c s d e f:Int} (h:lowC a b c s d e f=true):(false,(0:Int),(0:Int),(0:Int),(1:Int))=lowR o a b c s d e f:=by
  unfold lowR;rw [if_neg (fun hk=>by rw [lowC_iff.2 hk] at h;cases h)]
theorem low_o {o:Bool} {a b c s d e f:Int} (h:lowC a b c s d e f=false) (ho:(!o)=true):(true,d,e,f,(0:Int))=lowR o a b c s d e f:=by
  unfold lowR;rw [if_pos (lowC_iff.1 h),if_neg (by cases o<;>simp_all)]
theorem low_e {o:Bool} {a b c s d e f:Int} (h:lowC a b c s d e f=false) (ho:(!o)=false) (he:((vT (partR a d s) (partR b e s) (partR c f s)).2.2.2 != 0)=true):(false,(0:Int),(0:Int),(0:Int),(vT (partR a d s) (partR b e s) (partR c f s)).2.2.2)=lowR o a b c s d e f:=by
  unfold lowR;rw [if_pos (lowC_iff.1 h),if_pos (by cases o<;>simp_all),if_neg (by simpa using he)]
theorem low_y {o:Bool} {a b c s d e f:Int} (h:lowC a b c s d e f=false) (ho:(!o)=false) (he:((vT (partR a d s) (partR b e s) (partR c f s)).2.2.2 != 0)=false):(true,(vT (partR a d s) (partR b e s) (partR c f s)).1,(vT (partR a d s) (partR b e s) (partR c f s)).2.1,(vT (partR a d s) (partR b e s) (partR c f s)).2.2.1,(0:Int))=lowR o a b c s d e f:=by
  unfold lowR;rw [if_pos (lowC_iff.1 h),if_pos (by cases o<;>simp_all),if_pos (by simpa using he)]
theorem gV_bd {a b c:Int} (h:gV a b c=true):(-35184372088832<a∧a<35184372088832)∧(-35184372088832<b∧b<35184372088832)∧(-35184372088832<c∧c<35184372088832):=by
  obtain ⟨h1,h2,h3⟩:=gV_iff.1 h
  exact ⟨wd_iff.1 h1,wd_iff.1 h2,wd_iff.1 h3⟩
theorem low_bd {a b c s d e f:Int} (h:lowC a b c s d e f=false):((-35184372088832<a∧a<35184372088832)∧(-35184372088832<b∧b<35184372088832)∧(-35184372088832<c∧c<35184372088832))∧((-35184372088832<d∧d<35184372088832)∧(-35184372088832<e∧e<35184372088832)∧(-35184372088832<f∧f<35184372088832))∧0≤s∧s≤15 :=
  ⟨gV_bd (lowC_iff.1 h).1,gV_bd (lowC_iff.1 h).2.1,(lowC_iff.1 h).2.2⟩
def cLowTake:Con Try.prog where
  f:=14
  sem:=fun xs=>match xs with
    | [.agg [.v (.bool o),.v (.int .i64 a),.v (.int .i64 b),.v (.int .i64 c)],.sc (.v (.int .i64 s)),.agg [.v (.int .i64 d),.v (.int .i64 e),.v (.int .i64 f)]]=>some (True,.tv (tLow (lowR o a b c s d e f)))
    | _=>none
  ok := by
    intro xs p r' h hp
    refine ⟨⟨_,Try.func14,by kernel_rfl,rfl⟩,fun us w ha=>?_⟩
    split at h
    · rename_i o a b c s d e f
      cases h
      refine fn_ret (cxOk Try.prog ints_ok [] [cVGood,cVOf,cEachLow,cVTold]) follows Try.func14 rfl 100 _ rfl (by simp) ?_ ha
      repeat' first
        | exact trivial
        | (refine And.intro (show regChk _ _ _ _ _=true from by kernel_rfl) (And.intro ?_ ?_))
        | (refine And.intro (fun _=>?_) (fun h=>absurd (show true=false from h) (by decide)))
        | (refine And.intro (fun h=>absurd (show false=true from h) (by decide)) (fun _=>?_))
        | (refine And.intro (fun hb=>?_) (fun hb'=>?_))
        | refine And.intro ?_ ?_
        | intro _
      all_goals first
        | (show some (CR.tv (.tup _))=some (CR.tv (tLow _));first|exact low_eq (low_n (by assumption))|exact low_eq (low_o (by assumption) (by assumption))|exact low_eq (low_e (by assumption) (by assumption) (by assumption))|exact low_eq (low_y (by assumption) (by assumption) (by assumption)))
        | (show (_:Int)≤_;have hk:=low_bd (show lowC a b c s d e f=false from by assumption);omega)
        | (show (_:Int)<_;have hk:=low_bd (show lowC a b c s d e f=false from by assumption);omega)
        | (show (_:Bool)=(_:Bool);first|assumption|exact beq_iff_eq.2 (by assumption))
        | (show (_:Nat)=(_:Nat);rfl)
        | (show (_:Nat)≤1000;decide)
        | (show (_:Int)=(_:Int);rfl)
        | (show (_:Int)≤_;decide)
        | (show (_:Int)<_;decide)
        -- PVC
    · cases h
end
end Go.Proofs.Ytglgmepolanfpaa.Wh
end
section
set_option linter.unusedVariables false
set_option linter.unusedSimpArgs false
namespace Go.Proofs.Ytglgmepolanfpaa.Wh
open Go Go.RowKit Go.Proofs.YtglgmepolanfpaaW.PrintWords Go.Proofs.YtglgmepolanfpaaW.PrintMore Go.Proofs.YtglgmepolanfpaaW.Aid Go.Proofs.YtglgmepolanfpaaW.Big Go.Proofs.YtglgmepolanfpaaW.Sx Go.Proofs.Ytglgmepolanfpaa.BitsWalk Go.Proofs.Ytglgmepolanfpaa.Limbs Go.Proofs.Ytglgmepolanfpaa.Whole Go.Proofs.Ytglgmepolanfpaa.FxWalk Go.Proofs
theorem wd_bif (v:Int):(bif decide (v > -35184372088832) then decide (v<35184372088832) else false)=wd v:=by
  unfold wd
  have e:decide (v > -35184372088832)=decide (-35184372088832<v):=rfl
  rw [e]
  cases decide (-35184372088832<v)<;>rfl
theorem gV_bif (x y z:Int):(bif bif wd x then wd y else false then wd z else false)=gV x y z:=by
  unfold gV
  simp only [allw]
  cases wd x<;>cases wd y<;>cases wd z<;>rfl
section
set_option maxRecDepth 100000
set_option maxHeartbeats 4000000
def cR1May:Con Try.prog where
  f:=42
  sem:=fun xs=>match xs with
    | [.sc (.v (.int .i64 v))]=>some (True,.tv (tB (wd v)))
    | _=>none
  ok := by
    intro xs p r' h hp
    refine ⟨⟨_,Try.func42,by kernel_rfl,rfl⟩,fun us w ha=>?_⟩
    split at h
    · rename_i v
      cases h
      refine fn_ret (cxOk Try.prog ints_ok [] []) follows Try.func42 rfl 100 _ rfl (by simp) ?_ ha
      repeat' first
        | exact trivial
        | (refine And.intro (show regChk _ _ _ _ _=true from by kernel_rfl) (And.intro ?_ ?_))
        | (refine And.intro (fun _=>?_) (fun h=>absurd (show true=false from h) (by decide)))
        | (refine And.intro (fun h=>absurd (show false=true from h) (by decide)) (fun _=>?_))
        | (refine And.intro (fun hb=>?_) (fun hb'=>?_))
        | refine And.intro ?_ ?_
        | intro _
      all_goals first
        | (show some (CR.tv (tB _))=some (CR.tv (tB _));exact tB_eq (wd_bif v))
        | (show (_:Bool)=(_:Bool);first|assumption|exact beq_iff_eq.2 (by assumption))
        | (show (_:Nat)=(_:Nat);rfl)
        | (show (_:Nat)≤1000;decide)
        | (show (_:Int)=(_:Int);rfl)
        | (show (_:Int)≤_;decide)
        | (show (_:Int)<_;decide)
        -- PVC
    · cases h
def cR3May:Con Try.prog where
  f:=21
  sem:=fun xs=>match xs with
    | [.agg [.v (.int .i64 x),.v (.int .i64 y),.v (.int .i64 z)]]=>some (True,.tv (tB (gV x y z)))
    | _=>none
  ok := by
    intro xs p r' h hp
    refine ⟨⟨_,Try.func21,by kernel_rfl,rfl⟩,fun us w ha=>?_⟩
    split at h
    · rename_i x y z
      cases h
      refine fn_ret (cxOk Try.prog ints_ok [] [cR1May]) follows Try.func21 rfl 100 _ rfl (by simp) ?_ ha
      repeat' first
        | exact trivial
        | (refine And.intro (show regChk _ _ _ _ _=true from by kernel_rfl) (And.intro ?_ ?_))
        | (refine And.intro (fun _=>?_) (fun h=>absurd (show true=false from h) (by decide)))
        | (refine And.intro (fun h=>absurd (show false=true from h) (by decide)) (fun _=>?_))
        | (refine And.intro (fun hb=>?_) (fun hb'=>?_))
        | refine And.intro ?_ ?_
        | intro _
      all_goals first
        | (show some (CR.tv (tB _))=some (CR.tv (tB _));exact tB_eq (gV_bif x y z))
        | (show (_:Bool)=(_:Bool);first|assumption|exact beq_iff_eq.2 (by assumption))
        | (show (_:Nat)=(_:Nat);rfl)
        | (show (_:Nat)≤1000;decide)
        | (show (_:Int)=(_:Int);rfl)
        | (show (_:Int)≤_;decide)
        | (show (_:Int)<_;decide)
        -- PVC
    · cases h
def cNum12:Con Try.prog where
  f:=15
  sem:=fun xs=>match xs with
    | [.sc (.v (.int .i64 v))]=>some (True,.tv (tN .i64 v))
    | _=>none
  ok := by
    intro xs p r' h hp
    refine ⟨⟨_,Try.func15,by kernel_rfl,rfl⟩,fun us w ha=>?_⟩
    split at h
    · rename_i v
      cases h
      refine fn_ret (cxOk Try.prog ints_ok [] []) follows Try.func15 rfl 100 _ rfl (by simp) ?_ ha
      repeat' first
        | exact trivial
        | (refine And.intro (show regChk _ _ _ _ _=true from by kernel_rfl) (And.intro ?_ ?_))
        | (refine And.intro (fun _=>?_) (fun h=>absurd (show true=false from h) (by decide)))
        | (refine And.intro (fun h=>absurd (show false=true from h) (by decide)) (fun _=>?_))
        | (refine And.intro (fun hb=>?_) (fun hb'=>?_))
        | refine And.intro ?_ ?_
      all_goals first
        | (show some (CR.tv (tN _ _))=some (CR.tv (tN _ _));rfl)
        | (show (_:Nat)=(_:Nat);rfl)
        | (show (_:Nat)≤1000;decide)
        | (show (_:Int)=(_:Int);rfl)
        | (show (_:Int)≤_;decide)
        | (show (_:Int)<_;decide)
        -- PVC
    · cases h
end
end Go.Proofs.Ytglgmepolanfpaa.Wh
end
section
set_option linter.unusedVariables false
set_option linter.unusedSimpArgs false
namespace Go.Proofs.YtglgmepolanfpaaW.Sx
open Go Go.RowKit Go.Proofs.YtglgmepolanfpaaW.PrintWords Go.Proofs.YtglgmepolanfpaaW.PrintMore Go.Proofs.YtglgmepolanfpaaW.Aid Go.Proofs.YtglgmepolanfpaaW.Big
def wfV:Value→Bool
  | .int k n=>(Lit.int k n).wf
  | _=>true
def okV (ks:List (Option IntKind)) (xs:List Value):Prop:=isKs ks xs=true∧∀ x∈xs,wfV x=true
theorem isKs_app:∀ {ks ks':List (Option IntKind)} {xs ys:List Value},isKs ks xs=true→isKs ks' ys=true→isKs (ks++ks') (xs++ys)=true
  | [],ks',[],ys,_,h=>h
  | k::ks,ks',x::xs,ys,h,h'=>by
    simp only [isKs,Bool.and_eq_true] at h
    simp only [List.cons_append,isKs,h.1,isKs_app h.2 h',Bool.and_self]
  | [],_,_::_,_,h,_=>by cases h
  | _::_,_,[],_,h,_=>by cases h
theorem okV_app {ks ks':List (Option IntKind)} {xs ys:List Value} (h:okV ks xs) (h':okV ks' ys):okV (ks++ks') (xs++ys) :=
  ⟨isKs_app h.1 h'.1,fun x hx=>(List.mem_append.1 hx).elim (h.2 x) (h'.2 x)⟩
section
variable {H:Type} {enc:TypeId × Value→H} {P:Program} {w:World} {base:Nat} {spare:Nat→Bool} {held:Bool}
theorem rep_take (ks:List (Option IntKind)):∀ (n:Nat) (xs:List Value),xs.length=(rep ks n).length→(∀ i,i<n→okV ks ((xs.drop (i*ks.length)).take ks.length))→okV (rep ks n) xs
  | 0,xs,hl,_=>by
    cases xs with
    | nil=>exact ⟨rfl,fun _ h=>by cases h⟩
    | cons _ _=>simp [rep] at hl
  | n + 1, xs, hl, h => by
    have h0:=h 0 (by omega)
    rw [Nat.zero_mul,List.drop_zero] at h0
    have hl':xs.length=ks.length+(rep ks n).length:=by rw [hl,rep,List.length_append]
    have ih:=rep_take ks n (xs.drop ks.length) (by rw [List.length_drop];omega) (fun i hi=>by
      have:=h (i+1) (by omega)
      rw [List.drop_drop,show ks.length+i*ks.length=(i+1)*ks.length by rw [Nat.add_mul,Nat.one_mul];omega]
      exact this)
    have:=okV_app h0 ih
    rw [List.take_append_drop] at this
    exact this
theorem flat_trod (arr:Bool):∀ (d:Nat),(∀ (T:TypeId) (ks:List (Option IntKind)) (fuel:Nat) (cs:List Value) (x:DataW H × List MemPlace),lvs P arr d T=some ks→DataW.trod enc P w base spare held fuel T cs=some x→okV ks cs) ∧
    (∀ (fs:List Field) (off:Nat) (ks:List (Option IntKind)) (n:Nat) (cs:List Value) (ys:List (DataW H × List MemPlace)),lvsF P arr d fs off=some ks→cs.length=off+ks.length→ys.length=fs.length →
      (∀ (i:Nat) (f:Field),fs[i]?=some f→DataW.trod enc P w base spare held n f.type ((cs.drop f.offset).take (P.cellsOf f.type))=ys[i]?)→okV ks (cs.drop off)):=by
  intro d
  induction d with
  | zero =>
    refine ⟨fun T ks fuel cs x h=>(by cases h),fun fs off ks n cs ys h hl hy _=>?_⟩
    cases fs with
    | nil =>
      cases h
      rw [List.drop_of_length_le (by simp at hl;omega)]
      exact ⟨rfl,fun _ h=>by cases h⟩
    | cons f fs=>cases h
  | succ d ih =>
    obtain ⟨ih1,ih2⟩:=ih
    constructor
    · intro T ks fuel cs x h hx
      rw [lvs] at h
      split at h
      · rename_i k inf hu hi
        split at h
        case isFalse=>cases h
        cases h
        obtain ⟨n,rfl,_,hw⟩:=DataW.trod_int hu hx
        exact ⟨by simp [isKs,isK],fun y hy=>by rw [List.mem_singleton.1 hy];exact hw⟩
      · rename_i inf hu hi
        split at h
        case isFalse=>cases h
        cases h
        obtain ⟨n,rfl,_⟩:=DataW.trod_bool hu hx
        exact ⟨rfl,fun y hy=>by rw [List.mem_singleton.1 hy];rfl⟩
      · rename_i fs inf hu hi
        split at h
        · cases h
        · split at h
          · rename_i ks' hf
            split at h
            · rename_i hs
              cases h
              obtain ⟨ys,n,_,rfl,hcl,hyl,hg⟩:=DataW.trod_struct hu hx
              have hcl':cs.length=0+ks.length:=by
                rw [hcl];unfold Program.cellsOf;rw [hi];simpa using hs
              have:=ih2 fs.toList 0 ks n cs ys hf hcl' (by simpa using hyl) (fun i f hf=>hg i f (by simpa using hf))
              rwa [List.drop_zero] at this
            · cases h
          · cases h
      · rename_i n e inf hu hi
        split at h
        · split at h
          · rename_i ks' he
            split at h
            · rename_i hs
              cases h
              obtain ⟨ys,m,_,rfl,hcl,hyl,hg⟩:=DataW.trod_array hu hx
              have hce:=lvs_cells he
              rw [hce] at hg
              refine rep_take ks' n cs (by rw [hcl];unfold Program.cellsOf;rw [hi];simpa using hs) (fun i hi=>?_)
              obtain ⟨y,hy⟩:∃ y,ys[i]?=some y:=⟨ys[i],by simp⟩
              exact ih1 e ks' m _ y he (by rw [hg i hi,hy])
            · cases h
          · cases h
        · cases h
      · cases h
    · intro fs off ks n cs ys h hl hy hg
      cases fs with
      | nil =>
        cases h
        rw [List.drop_of_length_le (by simp at hl;omega)]
        exact ⟨rfl,fun _ h=>by cases h⟩
      | cons f fs =>
        rw [lvsF] at h
        split at h
        · cases h
        · rename_i hc
          have hoff:f.offset=off:=Decidable.byContradiction fun e=>hc (Or.inr e)
          split at h
          · rename_i k ks1 hl1
            split at h
            · rename_i r hr
              cases h
              match ys,hy with
              | y::ys,hy =>
                have h1:=hg 0 f rfl
                rw [hoff,lvs_cells hl1] at h1
                have g1:=ih1 f.type _ n _ y hl1 h1
                have g2:=ih2 fs (off+(k::ks1).length) r n cs ys hr (by rw [hl];simp;omega) (by simpa using hy) (fun i f' hf=>hg (i+1) f' (by simpa using hf))
                have:=okV_app g1 g2
                rw [← List.drop_drop,List.take_append_drop] at this
                exact this
            · cases h
          · cases h
def gI (f:Nat→List Value) (i j:Nat):Int:=match (f j)[i]? with
  | some (.int _ n)=>n
  | _=>0
def gB (f:Nat→List Value) (i j:Nat):Bool:=match (f j)[i]? with
  | some (.bool b)=>b
  | _=>false
def cellsG (f:Nat→List Value) (j:Nat):Nat→List (Option IntKind)→List A0
  | _,[]=>[]
  | i,some k::ks => .v (.int k (gI f i j))::cellsG f j (i+1) ks
  | i,none::ks => .v (.bool (gB f i j))::cellsG f j (i+1) ks
theorem cellsG_eq (f:Nat→List Value) (j:Nat):∀ (ks:List (Option IntKind)) (i:Nat),isKs ks ((f j).drop i)=true→cellsG f j i ks=((f j).drop i).map A0.v
  | [],i,h=>by
    cases hx:(f j).drop i with
    | nil=>rfl
    | cons _ _=>rw [hx] at h;cases h
  | k :: ks, i, h => by
    cases hx:(f j).drop i with
    | nil=>rw [hx] at h;cases h
    | cons x xs =>
      have h0:(f j)[i]?=some x:=by rw [← List.head?_drop,hx];rfl
      have h1:(f j).drop (i+1)=xs:=by rw [← List.tail_drop,hx];rfl
      rw [hx] at h
      simp only [isKs,Bool.and_eq_true] at h
      have ih:=cellsG_eq f j ks (i+1) (by rw [h1];exact h.2)
      rw [h1] at ih
      cases k with
      | some k =>
        cases x<;>simp only [isK] at h<;>try (exact absurd h.1 (by decide))
        rename_i k' n
        obtain rfl:=of_decide_eq_true h.1
        simp only [cellsG,gI,h0,List.map_cons,ih]
      | none =>
        cases x<;>simp only [isK] at h<;>try (exact absurd h.1 (by decide))
        simp only [cellsG,gB,h0,List.map_cons,ih]
def zv:Option IntKind→Value
  | some k => .int k 0
  | none => .bool false
theorem zs_ok:∀ ks:List (Option IntKind),okV ks (ks.map zv)
  | []=>⟨rfl,fun _ h=>by cases h⟩
  | k :: ks => by
    obtain ⟨h1,h2⟩:=zs_ok ks
    refine ⟨?_,fun x hx=>?_⟩
    · simp only [List.map_cons,isKs,h1,Bool.and_true]
      cases k<;>simp [zv,isK]
    · rcases List.mem_cons.1 hx with rfl|hx
      · cases k with
        | none=>rfl
        | some k=>cases k<;>decide
      · exact h2 x hx
theorem rowF_congr {n sz:Nat} {f g:Nat→List A0} {β:Nat→Nat} {base:Nat} {w:World} {u:Value} (h:∀ j,f j=g j) (hr:TV.reads β base w (.rowF n sz f) u):TV.reads β base w (.rowF n sz g) u:=by
  rw [show g=f from funext fun j=>(h j).symm];exact hr
theorem row_of {t e:TypeId} {arr:Bool} {d:Nat} {ks:List (Option IntKind)} (hu:P.underlying t=some (.slice e)) (hl:lvs P arr d e=some ks) (hk:0<ks.length) {A1:Option Addr} {n0 c0:Nat} {x:DataW H} {ps:List MemPlace} (h:DataW.Trod enc P w base spare held t (.slice A1 n0 c0) x ps) :
    ∃ f:Nat→List Value,(∀ j,okV ks (f j))∧∀ β:Nat→Nat,TV.reads β w.heap.size w (.rowF n0 ks.length (fun j=>cellsG f j 0 ks)) (.slice A1 n0 c0):=by
  obtain ⟨fuel,hf⟩:=h
  have hcell:(Value.slice A1 n0 c0).cells.toList=[.slice A1 n0 c0]:=rfl
  rw [hcell] at hf
  rcases Go.Deep.open_slice hu hf with ⟨h1,_⟩|⟨a,len,cap,m,n,D,Pl,h1,hb,hle,hm,hmm,_,hi⟩
  · cases h1
    exact ⟨fun _=>ks.map zv,fun j=>zs_ok ks,fun β=>⟨none,0,rfl,Nat.le_refl _,fun h=>absurd h (by omega)⟩⟩
  · cases h1
    have hlm:n0≤m:=by rw [hmm];split<;>omega
    have hch:∀ j,∃ l:List Value,okV ks l∧(j<n0→∀ i u,l[i]?=some u→w.cell? ((a.add (j*ks.length)).add i)=some u):=by
      intro j
      by_cases hj:j<n0
      · obtain ⟨cs',h2,h3⟩:=hi j (by omega)
        obtain ⟨_,hcl,hat⟩:=World.cells?_some h2
        have ok:=(flat_trod (enc:=enc) (P:=P) (w:=w) (base:=base) (spare:=spare) (held:=held) arr d).1 e ks n cs' _ hl h3
        refine ⟨cs',ok,fun _ i u hu=>?_⟩
        have hil:i<cs'.length:=(List.getElem?_eq_some_iff.1 hu).1
        have h4:=hat i (by omega)
        rw [hu,lvs_cells hl] at h4
        exact h4
      · exact ⟨ks.map zv,zs_ok ks,fun h=>absurd h hj⟩
    obtain ⟨f,hf⟩:=Classical.axiomOfChoice hch
    refine ⟨f,fun j=>(hf j).1,fun β=>?_⟩
    refine rowF_congr (f:=fun j=>(f j).map A0.v) (fun j=>?_) ⟨some a,c0,rfl,hle,fun h0=>⟨a,rfl,?_,fun i hi=>?_⟩⟩
    · have:=cellsG_eq f j ks 0 (by rw [List.drop_zero];exact (hf j).1.1)
      rw [this,List.drop_zero]
    · have h5:=(hf 0).1.1
      have h6:=isKs_len h5
      have h7:=(hf 0).2 h0 0 ((f 0)[0]'(by omega)) (by simp)
      have:=World.block_lt_of_cell? w _ h7
      rw [Nat.zero_mul] at this
      exact this
    · intro q c hq
      rw [List.getElem?_map,Option.map_eq_some_iff] at hq
      obtain ⟨u,hu,rfl⟩:=hq
      exact ⟨u,(hf i).2 hi q u hu,rfl⟩
end
end Go.Proofs.YtglgmepolanfpaaW.Sx
end
section
set_option linter.unusedVariables false
set_option linter.unusedSimpArgs false
namespace Go.Proofs.Ytglgmepolanfpaa.Wh
open Go Go.RowKit Go.Proofs.YtglgmepolanfpaaW.PrintWords Go.Proofs.YtglgmepolanfpaaW.PrintMore Go.Proofs.YtglgmepolanfpaaW.Aid Go.Proofs.YtglgmepolanfpaaW.Big Go.Proofs.YtglgmepolanfpaaW.Sx Go.Proofs.Ytglgmepolanfpaa.BitsWalk Go.Proofs.Ytglgmepolanfpaa.Limbs Go.Proofs.Ytglgmepolanfpaa.Whole Go.Proofs.Ytglgmepolanfpaa.FxWalk Go.Proofs
theorem part_eq (y v s:Int):partR y v s=roundP (y*2 ^ s.toNat-y+v) (2 ^ s.toNat):=ri_p (pow_pos' s)
theorem one_le (s:Int):(1:Int)≤2 ^ s.toNat:=by have:=pow_pos' s;omega
theorem part_up {y v:Int} (s:Int) (h:y≤v):y≤partR y v s∧partR y v s≤v:=by
  rw [part_eq]
  have h1:=pow_pos' s
  have h2:=one_le s
  generalize (2:Int) ^ s.toNat=d at *
  have h3:=Int.mul_nonneg (show 0≤d-1 by omega) (show 0≤v-y by omega)
  rw [Int.sub_mul,Int.mul_sub,Int.one_mul] at h3
  have e1:=Int.mul_comm d y
  exact ⟨le_rp h1 (by omega),rp_le h1 (by omega)⟩
theorem part_dn {y v:Int} (s:Int) (h:v≤y):v≤partR y v s∧partR y v s≤y:=by
  rw [part_eq]
  have h1:=pow_pos' s
  have h2:=one_le s
  generalize (2:Int) ^ s.toNat=d at *
  have h3:=Int.mul_nonneg (show 0≤d-1 by omega) (show 0≤y-v by omega)
  rw [Int.sub_mul,Int.mul_sub,Int.one_mul] at h3
  have e1:=Int.mul_comm d y
  exact ⟨le_rp h1 (by omega),rp_le h1 (by omega)⟩
theorem part_wd {y v:Int} (s:Int) (hy:wd y=true) (hv:wd v=true):wd (partR y v s)=true:=by
  rw [wd_iff] at *
  rcases Int.le_total y v with h|h
  · have:=part_up s h;omega
  · have:=part_dn s h;omega
theorem vT_ok {x y z:Int} (h:wd x=true) (h2:wd y=true) (h3:wd z=true):vT x y z=(x,y,z,0):=by unfold vT;rw [if_pos (by simp [h,h2,h3])]
theorem low_on {a b c s d e f:Int} (h:LowOk a b c s d e f):lowR true a b c s d e f=(true,partR a d s,partR b e s,partR c f s,0):=by
  obtain ⟨h1,h2,h3⟩:=id h
  obtain ⟨a1,a2,a3⟩:=gV_iff.1 h1
  obtain ⟨b1,b2,b3⟩:=gV_iff.1 h2
  unfold lowR
  rw [if_pos h,if_pos rfl,vT_ok (part_wd s a1 b1) (part_wd s a2 b2) (part_wd s a3 b3)]
  rfl
theorem no {c:Bool} (h:c=false) (hb:c=true):False:=by rw [h] at hb;exact absurd hb (by decide)
theorem cel {c x:Bool} (h:c=false) (h2:x=false):(bif c then true else x)=false:=by rw [h,h2];rfl
abbrev maywL (a b c s d e f:Int):Bool:=bif bif bif gV a b c then gV d e f else false then decide (s≥0) else false then decide (s≤15) else false
theorem mayw_ok {a b c s d e f:Int} (h:(!maywL a b c s d e f)=false):LowOk a b c s d e f:=by
  unfold maywL at h
  unfold LowOk
  cases h1:gV a b c<;>cases h2:gV d e f<;>simp_all
def lawL (m n:Nat) (r:Nat→List A0) (q:Nat):LI Int where
  gs:=fun i=>[(0,.rowF n m r),(q,tB false),(q+1,tN .i64 i)]
  bs:=fun i=>[]
  I:=fun i=>0≤i∧i≤(n:Int)
  μ:=fun i=>((n:Int)-i).toNat
theorem wrap1 {i:Int} (h0:0≤i) (h:i≤100000000000000000):IntKind.i64.wrap (i+1)=i+1:=by rw [i64_wrap];exact wrap64_id (by omega) (by omega)
theorem hC1 {v k:Int} {n:Nat} (h:(bif decide (v<(n:Int)) then decide (v<k) else false)=true):v<n∧v<k:=by
  by_cases h1:v<(n:Int)
  · rw [decide_eq_true h1] at h;exact ⟨h1,of_decide_eq_true h⟩
  · rw [decide_eq_false h1] at h;exact absurd (show false=true from h) (by decide)
theorem stepL {m n q:Nat} {r:Nat→List A0} {v k:Int} (hv:(lawL m n r q).I v) (hC:(bif decide (v<(n:Int)) then decide (v<k) else false)=true) (hk:k≤1000):(lawL m n r q).μ (IntKind.i64.wrap (v+1))<(lawL m n r q).μ v∧(lawL m n r q).I (IntKind.i64.wrap (v+1)):=by
  have h1:=hC1 hC
  have h0:0≤v∧v≤(n:Int):=hv
  rw [wrap1 h0.1 (by omega)]
  exact ⟨show ((n:Int)-(v+1)).toNat<((n:Int)-v).toNat by omega,show 0≤v+1∧v+1≤(n:Int) by omega⟩
section
set_option maxRecDepth 100000
set_option maxHeartbeats 4000000
abbrev eqVec:EqT Try.prog:=eqS Try.prog 24 [some .i64,some .i64,some .i64] (by kernel_rfl)
abbrev eqLow:EqT Try.prog:=eqS Try.prog 26 [none,some .i64,some .i64,some .i64] (by kernel_rfl)
def cMay12:Con Try.prog where
  f:=12
  sem:=fun xs=>match xs with
    | [.agg [.v (.bool o),.v (.int .i64 a),.v (.int .i64 b),.v (.int .i64 c),.v (.int .i64 s),.v (.int .i64 d),.v (.int .i64 e),.v (.int .i64 f)]]=>some (True,.tv (tB (maywL a b c s d e f)))
    | _=>none
  ok := by
    intro xs p r' h hp
    refine ⟨⟨_,Try.func12,by kernel_rfl,rfl⟩,fun us w ha=>?_⟩
    split at h
    · rename_i o a b c s d e f
      cases h
      refine fn_ret (cxOk Try.prog ints_ok [] [cR3May]) follows Try.func12 rfl 100 _ rfl (by simp) ?_ ha
      repeat' first
        | exact trivial
        | (refine And.intro (show regChk _ _ _ _ _=true from by kernel_rfl) (And.intro ?_ ?_))
        | (refine And.intro (fun _=>?_) (fun h=>absurd (show true=false from h) (by decide)))
        | (refine And.intro (fun h=>absurd (show false=true from h) (by decide)) (fun _=>?_))
        | (refine And.intro (fun hb=>?_) (fun hb'=>?_))
        | refine And.intro ?_ ?_
        | intro _
      all_goals first
        | (show some (CR.tv (tB _))=some (CR.tv (tB _));exact tB_eq rfl)
        | (show (_:Bool)=(_:Bool);first|assumption|exact beq_iff_eq.2 (by assumption))
        | (show (_:Nat)=(_:Nat);rfl)
        | (show (_:Nat)≤1000;decide)
        | (show (_:Int)=(_:Int);rfl)
        | (show (_:Int)≤_;decide)
        | (show (_:Int)<_;decide)
        -- PVC
    · cases h
def cWakes12:Con Try.prog where
  f:=16
  sem:=fun xs=>match xs with
    | []=>some (True,.tv (tB true))
    | _=>none
  ok := by
    intro xs p r' h hp
    refine ⟨⟨_,Try.func16,by kernel_rfl,rfl⟩,fun us w ha=>?_⟩
    split at h
    · skip
      cases h
      refine fn_ret (cxOk Try.prog ints_ok [eqLow] [cLowTake,cNum12]) follows Try.func16 rfl 100 _ rfl (by simp) ?_ ha
      repeat' first
        | exact trivial
        | (refine And.intro (show regChk _ _ _ _ _=true from by kernel_rfl) (And.intro ?_ ?_))
        | (refine And.intro (fun _=>?_) (fun h=>absurd (show true=false from h) (by decide)))
        | (refine And.intro (fun h=>absurd (show false=true from h) (by decide)) (fun _=>?_))
        | (refine And.intro (fun hb=>?_) (fun hb'=>?_))
        | refine And.intro ?_ ?_
        | intro _
      all_goals first
        | (show some (CR.tv (tB _))=some (CR.tv (tB _));exact tB_eq (by decide +kernel))
        | (show (_:Bool)=(_:Bool);first|assumption|exact beq_iff_eq.2 (by assumption))
        | (show (_:Nat)=(_:Nat);rfl)
        | (show (_:Nat)≤1000;decide)
        | (show (_:Int)=(_:Int);rfl)
        | (show (_:Int)≤_;decide)
        | (show (_:Int)<_;decide)
        -- PVC
    · cases h
abbrev row8 (o:Nat→Bool) (a b c s d e f:Nat→Int):Nat→List A0:=fun j=>[.v (.bool (o j)),.v (.int .i64 (a j)),.v (.int .i64 (b j)),.v (.int .i64 (c j)),.v (.int .i64 (s j)),.v (.int .i64 (d j)),.v (.int .i64 (e j)),.v (.int .i64 (f j))]
abbrev ks12:List (Option IntKind):=[none,some .i64,some .i64,some .i64,some .i64,some .i64,some .i64,some .i64]
end
end Go.Proofs.Ytglgmepolanfpaa.Wh
end
section
set_option linter.unusedVariables false
set_option linter.unusedSimpArgs false
namespace Go.Proofs.YtglgmepolanfpaaW.Sx
open Go Go.RowKit Go.Proofs.YtglgmepolanfpaaW.PrintWords Go.Proofs.YtglgmepolanfpaaW.PrintMore Go.Proofs.YtglgmepolanfpaaW.Aid Go.Proofs.YtglgmepolanfpaaW.Big
section
variable {P:Program} {X:Cx} {base:Nat} {w0:World} {n:Nat} {s s':St} {a:Act} {w:World} {Q:Exit→Act→World→Prop}
def lpN {α β:Type} (X:Cx) (n:Nat) (L:LI α) (L2:α→LI β) (f:Nat) (c:Code) (ke:Nat→St→Prop) (kr:St→Prop) (s:St):Prop :=
  (∃ v,atL L v s)∧∀ v,L.I v→wfB (L.gs v) (L.bs v)=true∧vcl X n (L2 v) f c (fun s'=>∃ v',L.μ v'<L.μ v∧atL L v' s') ke kr (stB (L.gs v) (L.bs v))
theorem lpN_sound {α β:Type} (ok:CxOk2 P X) (hmo:P.follows .mixedOrders=true) (L:LI α) (L2:α→LI β) (f:Nat) (c:Code) (ke:Nat→St→Prop) (kr:St→Prop) (h:lpN X n L L2 f c ke kr s) (hS:SatE base w0 n s a w)
    (he:∀ id s a w,ke id s→SatE base w0 n s a w→Q (.exit id) a w) (hr:∀ s a w,kr s→SatE base w0 n s a w→Q .ret a w):(Code.loop c).wp P Q a w:=by
  obtain ⟨⟨v,hv⟩,hI⟩:=h
  have key:∀ m v s a w,L.μ v<m→atL L v s→SatE base w0 n s a w→Code.rounds P c Q m a w:=by
    intro m
    induction m with
    | zero=>intro v s a w h;exact absurd h (Nat.not_lt_zero _)
    | succ m ih =>
      intro v s a w hm hv hS
      obtain ⟨β,hS⟩:=hS
      have hw:=(hI v hv.1).1
      have hS':SatE base w0 n (stB (L.gs v) (L.bs v)) a w:=⟨β,sat_le hS hv.2.1 hv.2.2 hw⟩
      exact vcl_sound ok hmo (L2 v) f c _ _ _ _ _ _ _ (hI v hv.1).2 hS' (fun s a w hk hS=>by obtain ⟨v',h1,h2⟩:=hk;exact ih v' s a w (by omega) h2 hS) (fun id s a w hk hS=>he id s a w hk hS) (fun s a w hk hS=>hr s a w hk hS)
  exact wp_loop_rounds (L.μ v+1) (key _ v s a w (by omega) hv hS)
def vcn {α β:Type} (X:Cx) (n:Nat) (L:LI α) (L2:α→LI β):Nat→Code→(St→Prop)→(Nat→St→Prop)→(St→Prop)→St→Prop
  | 0,_,_,_,_,_=>False
  | f+1,.skip,kn,_,_,s=>kn s
  | f+1,.seq x y,kn,ke,kr,s=>vcn X n L L2 f x (vcn X n L L2 f y kn ke kr) ke kr s
  | f+1,.region _ ops draw,kn,_,_,s=>match effs X ops.toList ops.toList s with
    | some (es,s')=>regChk X n ops.toList draw es=true∧pres es∧kn s'
    | none=>False
  | f+1,.cond c x y,kn,ke,kr,s=>match boolOf (getv s.g c) with
    | some b=>(b=true→vcn X n L L2 f x kn ke kr s)∧(b=false→vcn X n L L2 f y kn ke kr s)
    | none=>False
  | f+1,.block id c,kn,ke,kr,s=>vcn X n L L2 f c kn (fun id' s=>if id'=id then kn s else ke id' s) kr s
  | f+1,.loop c,_,ke,kr,s=>lpN X n L L2 f c ke kr s
  | f+1,.exit id,_,ke,_,s=>ke id s
  | f+1,.ret,_,_,kr,s=>kr s
  | _+1,_,_,_,_,_=>False
theorem vcn_sound {α β:Type} (ok:CxOk2 P X) (hmo:P.follows .mixedOrders=true) (L:LI α) (L2:α→LI β):∀ (f:Nat) (c:Code) (kn:St→Prop) (ke:Nat→St→Prop) (kr:St→Prop) (s:St) (a:Act) (w:World) (Q:Exit→Act→World→Prop),vcn X n L L2 f c kn ke kr s→SatE base w0 n s a w →
    (∀ s a w,kn s→SatE base w0 n s a w→Q .normal a w)→(∀ id s a w,ke id s→SatE base w0 n s a w→Q (.exit id) a w)→(∀ s a w,kr s→SatE base w0 n s a w→Q .ret a w)→c.wp P Q a w:=by
  intro f
  induction f with
  | zero=>intro c kn ke kr s a w Q h;cases h
  | succ f ih =>
    intro c kn ke kr s a w Q h hS hn he hr
    cases c with
    | skip=>exact wp_skip (hn s a w h hS)
    | seq x y =>
      refine wp_seq (ih x _ ke kr s a w _ h hS (fun s a w hk hS=>ih y kn ke kr s a w Q hk hS hn he hr) (fun id s a w hk hS=>he id s a w hk hS) (fun s a w hk hS=>hr s a w hk hS))
    | region id ops draw =>
      simp only [vcn] at h
      split at h
      · rename_i es s' heff
        exact region_sound ok hmo heff h.1 h.2.1 hS (fun a w hS'=>hn s' a w h.2.2 hS')
      · cases h
    | cond c x y =>
      simp only [vcn] at h
      split at h
      · rename_i b hb
        refine wp_cond (boolOf_eq hS hb) ?_
        cases b with
        | true=>exact ih x kn ke kr s a w Q (h.1 rfl) hS hn he hr
        | false=>exact ih y kn ke kr s a w Q (h.2 rfl) hS hn he hr
      · cases h
    | block id c =>
      refine wp_block (ih c kn _ kr s a w _ h hS (fun s a w hk hS=>hn s a w hk hS) (fun id' s a w hk hS=>?_) (fun s a w hk hS=>hr s a w hk hS))
      show if id'=id then Q .normal a w else Q (.exit id') a w
      split
      · rename_i e;rw [if_pos e] at hk;exact hn s a w hk hS
      · rename_i e;rw [if_neg e] at hk;exact he id' s a w hk hS
    | loop c=>exact lpN_sound ok hmo L L2 f c ke kr h hS he hr
    | exit id=>exact wp_exit (he id s a w h hS)
    | ret=>exact wp_ret (hr s a w h hS)
    | rangeFunc _ _ _ _=>cases h
    | scope _=>cases h
    | label _=>cases h
    | goto _=>cases h
    | refuse _=>cases h
theorem fnn_ret {α β:Type} (L:LI α) (L2:α→LI β) (ok:CxOk2 P X) (hmo:P.follows .mixedOrders=true) {fid:FuncId} {fn:Func} {c:Code} (hf:P.funcs[fid]?=some fn) (hb:fn.body=some c) {xs:List TV} {us:List Value} {w:World} (f:Nat) (r:CR)
    (hr:xs.all (fun x=>x.refs.isEmpty)=true) (hn:xs.length≤fn.ntmps) (h:vcn X fn.ntmps L L2 f c (fun s=>resCR X fn.results.toList s=some r) (fun _ _=>False) (fun s=>resCR X fn.results.toList s=some r) (st0 xs))
    (hargs:All2 (TV.reads (fun _=>0) w.heap.size w) xs us):Ret P fid us.toArray w r:=by
  refine calls_of_wp hf hb ?_
  have hS:=sat0 hargs hr (n:=fn.ntmps) (by rw [← All2.length hargs];exact hn)
  have fin:∀ (s:St) (a:Act) (w':World),resCR X fn.results.toList s=some r→SatE w.heap.size w fn.ntmps s a w'→a.defers=[]∧∃ v,(results fn a.tmps).run P w' = .ok v w'∧∃ u,Ending.returned v = .returned u∧r.told w w' u∧Below w.heap.size w w':=by
    rintro s a w' hr1 ⟨β,hS⟩
    obtain ⟨u,h1,h2⟩:=res_run ok.toCxOk hS hr1
    exact ⟨hS.defers,u,h1,u,rfl,h2,hS.below⟩
  exact vcn_sound ok hmo L L2 f c _ _ _ _ _ _ _ h hS (fun s a w' hk hS=>fin s a w' hk hS) (fun id s a w' hk=>hk.elim) (fun s a w' hk hS=>fin s a w' hk hS)
end
end Go.Proofs.YtglgmepolanfpaaW.Sx
end
section
set_option linter.unusedVariables false
set_option linter.unusedSimpArgs false
namespace Go.Proofs.Ytglgmepolanfpaa.Wh
open Go Go.RowKit Go.Proofs.YtglgmepolanfpaaW.PrintWords Go.Proofs.YtglgmepolanfpaaW.PrintMore Go.Proofs.YtglgmepolanfpaaW.Aid Go.Proofs.YtglgmepolanfpaaW.Big Go.Proofs.YtglgmepolanfpaaW.Sx Go.Proofs.Ytglgmepolanfpaa.BitsWalk Go.Proofs.Ytglgmepolanfpaa.Limbs Go.Proofs.Ytglgmepolanfpaa.Whole Go.Proofs.Ytglgmepolanfpaa.FxWalk Go.Proofs
def it63:Nat→Nat→Nat
  | 0,x=>x
  | n+1,x=>it63 n (x*63/64)
def A63:Nat→Nat
  | 0=>140737488355328
  | n+1=>A63 n*63/64
theorem it_add (n:Nat):∀ (m x:Nat),it63 (m+n) x=it63 n (it63 m x)
  | 0,x=>by rw [Nat.zero_add];rfl
  | m+1,x=>by rw [show m+1+n=(m+n)+1 by omega];exact it_add n m _
theorem it_succ:∀ (n x:Nat),it63 (n+1) x=it63 n x*63/64
  | 0,x=>rfl
  | n+1,x=>it_succ n (x*63/64)
theorem A_it:∀ n,A63 n=it63 n 140737488355328
  | 0=>rfl
  | n+1=>by rw [it_succ,← A_it n];rfl
theorem it_0:it63 500 140737488355328=53542362591:=by decide +kernel
theorem it_1:it63 500 53542362591=20369698:=by decide +kernel
theorem it_2:it63 500 20369698=7719:=by decide +kernel
theorem it_3:it63 500 7719=0:=by decide +kernel
theorem it_4:it63 500 0=0:=by decide +kernel
theorem it_5:it63 500 0=0:=by decide +kernel
theorem A_3000:A63 3000=0:=by
  rw [A_it,show 3000=500+2500 from rfl,it_add,it_0,show 2500=500+2000 from rfl,it_add,it_1,show 2000=500+1500 from rfl,it_add,it_2,show 1500=500+1000 from rfl,it_add,it_3,show 1000=500+500 from rfl,it_add,it_4,it_5]
def absd (a b:Int):Int:=if b-a>a-b then b-a else a-b
theorem s7 {s:Int} (h0:0≤s) (h:s≤6):s=0∨s=1∨s=2∨s=3∨s=4∨s=5∨s=6:=by omega
theorem settle {x v s:Int} {A:Nat} (h0:0≤s) (h:s≤6) (hA:2*absd x v-2 ^ s.toNat≤(A:Int)):2*absd (partR x v s) v-2 ^ s.toNat≤((A*63/64:Nat):Int)∧absd (partR x v s) v≤absd x v:=by
  have h1:=pow_pos' s
  have h2:=rp_spec (x*2 ^ s.toNat-x+v) h1
  rw [← part_eq] at h2
  have h3:absd (partR x v s) v≤absd x v:=by
    unfold absd
    rcases Int.le_total x v with hl|hl
    · have:=part_up s hl
      generalize partR x v s=q at *
      split<;>split<;>omega
    · have:=part_dn s hl
      generalize partR x v s=q at *
      split<;>split<;>omega
  refine ⟨?_,h3⟩
  clear h3
  generalize partR x v s=q at *
  obtain ⟨h4,h5,_⟩:=h2
  unfold absd at *
  rcases s7 h0 h with rfl|rfl|rfl|rfl|rfl|rfl|rfl<;>simp at *<;>split at hA<;>split<;>omega
abbrev far63 (x v s:Int):Bool:=decide (absd x v>IntKind.i64.wrap (1*2 ^ min s.toNat IntKind.i64.bits))
theorem shl_s {s:Int} (h0:0≤s) (h:s≤6):IntKind.i64.wrap (1*2 ^ min s.toNat IntKind.i64.bits)=2 ^ s.toNat:=by
  rcases s7 h0 h with rfl|rfl|rfl|rfl|rfl|rfl|rfl<;>decide
def In12 (s d e f:Int) (v:Int × Bool × Int × Int × Int):Prop:=0≤v.1∧v.1≤3000∧v.2.1=true∧LowOk v.2.2.1 v.2.2.2.1 v.2.2.2.2 s d e f∧2*absd v.2.2.1 d-2 ^ s.toNat≤(A63 v.1.toNat:Int)
theorem stS {a b c s d e f:Int} (h:(bif !maywL a b c s d e f then true else decide (s>6))=false):LowOk a b c s d e f∧s≤6:=by
  cases h1:(!maywL a b c s d e f) with
  | true=>rw [h1] at h;cases h
  | false =>
    rw [h1] at h
    have:¬ s>6:=of_decide_eq_false h
    exact ⟨mayw_ok h1,by omega⟩
theorem absd_bd {a b:Int} (ha:wd a=true) (hb:wd b=true):0≤absd a b∧absd a b<70368744177664:=by
  rw [wd_iff] at *
  unfold absd
  split<;>omega
theorem in_0 {a b c s d e f:Int} (h:LowOk a b c s d e f):In12 s d e f (0,true,a,b,c):=by
  refine ⟨Int.le_refl _,(by decide:(0:Int)≤3000),rfl,h,?_⟩
  have h1:=absd_bd (gV_iff.1 h.1).1 (gV_iff.1 h.2.1).1
  have h2:=pow_pos' s
  show 2*absd a d-2 ^ s.toNat≤((140737488355328:Nat):Int)
  omega
theorem kk {k:Int} {b:Bool} (h:(bif decide (k<3000) then b else false)=true):k<3000:=by
  by_cases h1:k<3000
  · exact h1
  · rw [decide_eq_false h1] at h;cases h
theorem in_step {s d e f k x y z:Int} {o:Bool} (hs:s≤6) (h:In12 s d e f (k,o,x,y,z)) (hk:k<3000):In12 s d e f (IntKind.i64.wrap (k+1),(lowR o x y z s d e f).1,(lowR o x y z s d e f).2.1,(lowR o x y z s d e f).2.2.1,(lowR o x y z s d e f).2.2.2.1):=by
  obtain ⟨h1,h2,h3,h4,h5⟩:=h
  dsimp only at h1 h2 h3 h4 h5
  subst h3
  rw [low_on h4]
  have hw:IntKind.i64.wrap (k+1)=k+1:=by rw [i64_wrap];exact wrap64_id (by omega) (by omega)
  obtain ⟨a1,a2,a3⟩:=gV_iff.1 h4.1
  obtain ⟨b1,b2,b3⟩:=gV_iff.1 h4.2.1
  have h6:=settle h4.2.2.1 hs h5
  refine ⟨by rw [hw];dsimp only;omega,by rw [hw];dsimp only;omega,rfl,⟨gV_iff.2 ⟨part_wd s a1 b1,part_wd s a2 b2,part_wd s a3 b3⟩,h4.2⟩,?_⟩
  dsimp only
  rw [hw,show (k+1).toNat=k.toNat+1 by omega]
  exact h6.1
theorem in_mu {s d e f:Int} {v:Int × Bool × Int × Int × Int} {o':Bool} {x' y' z':Int} (h:In12 s d e f v) (hk:v.1<3000):(3000-(IntKind.i64.wrap (v.1+1),o',x',y',z').1).toNat<(3000-v.1).toNat:=by
  obtain ⟨h1,_⟩:=h
  have hw:IntKind.i64.wrap (v.1+1)=v.1+1:=by rw [i64_wrap];exact wrap64_id (by omega) (by omega)
  dsimp only
  rw [hw];omega
theorem in_ok {s d e f k x y z:Int} {o:Bool} (hs:s≤6) (h:In12 s d e f (k,o,x,y,z)):(bif (lowR o x y z s d e f).2.2.2.2 != 0 then true else decide (absd (lowR o x y z s d e f).2.1 d>absd x d))=false:=by
  obtain ⟨h1,h2,h3,h4,h5⟩:=h
  dsimp only at h1 h2 h3 h4 h5
  subst h3
  have h6:=settle h4.2.2.1 hs h5
  rw [low_on h4]
  have:¬ absd (partR x d s) d>absd x d:=by omega
  exact cel rfl (decide_eq_false this)
theorem in_end {s d e f k x y z:Int} {o:Bool} (hs:s≤6) (h:In12 s d e f (k,o,x,y,z)) (hk:(bif decide (k<3000) then far63 x d s else false)=false):far63 x d s=false:=by
  obtain ⟨h1,h2,h3,h4,h5⟩:=h
  dsimp only at h1 h2 h3 h4 h5
  by_cases hlt:k<3000
  · rw [decide_eq_true hlt] at hk;exact hk
  · have:k=3000:=by omega
    subst this
    rw [show (3000:Int).toNat=3000 from rfl,A_3000] at h5
    apply decide_eq_false
    rw [shl_s h4.2.2.1 hs]
    have:=pow_pos' s
    omega
theorem in_wd {s d e f k x y z:Int} {o:Bool} (h:In12 s d e f (k,o,x,y,z)):wd x=true∧wd d=true∧wd (lowR o x y z s d e f).2.1=true:=by
  obtain ⟨h1,h2,h3,h4,h5⟩:=h
  dsimp only at h1 h2 h3 h4 h5
  subst h3
  rw [low_on h4]
  obtain ⟨a1,a2,a3⟩:=gV_iff.1 h4.1
  obtain ⟨b1,b2,b3⟩:=gV_iff.1 h4.2.1
  exact ⟨a1,b1,part_wd s a1 b1⟩
theorem abs_w {a b:Int} (ha:wd a=true) (hb:wd b=true):(if IntKind.i64.wrap (b-a)>IntKind.i64.wrap (a-b) then IntKind.i64.wrap (b-a) else IntKind.i64.wrap (a-b))=absd a b:=by
  rw [wd_iff] at ha hb
  have e1:IntKind.i64.wrap (b-a)=b-a:=by rw [i64_wrap];exact wrap64_id (by omega) (by omega)
  have e2:IntKind.i64.wrap (a-b)=a-b:=by rw [i64_wrap];exact wrap64_id (by omega) (by omega)
  rw [e1,e2];rfl
section
set_option maxRecDepth 100000
set_option maxHeartbeats 4000000
def cAway:Con Try.prog where
  f:=19
  sem:=fun xs=>match xs with
    | [.sc (.v (.int .i64 a)),.sc (.v (.int .i64 b))]=>some (wd a=true∧wd b=true,.tv (tN .i64 (absd a b)))
    | _=>none
  ok := by
    intro xs p r' h hp
    refine ⟨⟨_,Try.func19,by kernel_rfl,rfl⟩,fun us w ha=>?_⟩
    split at h
    · rename_i a b
      cases h
      refine fn_ret (cxOk Try.prog ints_ok [] []) follows Try.func19 rfl 100 _ rfl (by simp) ?_ ha
      repeat' first
        | exact trivial
        | (refine And.intro (show regChk _ _ _ _ _=true from by kernel_rfl) (And.intro ?_ ?_))
        | (refine And.intro (fun _=>?_) (fun h=>absurd (show true=false from h) (by decide)))
        | (refine And.intro (fun h=>absurd (show false=true from h) (by decide)) (fun _=>?_))
        | (refine And.intro (fun hb=>?_) (fun hb'=>?_))
        | refine And.intro ?_ ?_
      all_goals first
        | (show some (CR.tv (tN _ _))=some (CR.tv (tN _ _));exact tN_eq (abs_w hp.1 hp.2))
        | (show (_:Nat)=(_:Nat);rfl)
        | (show (_:Nat)≤1000;decide)
        | (show (_:Int)=(_:Int);rfl)
        | (show (_:Int)≤_;decide)
        | (show (_:Int)<_;decide)
        -- PVC
    · cases h
def lawS (n:Nat) (o:Nat→Bool) (a b c s d e f:Nat→Int) (i:Int):LI (Int × Bool × Int × Int × Int) where
  gs:=fun v=>[(0,.rowF n 8 (row8 o a b c s d e f)),(2,tB false),(3,tN .i64 i),(4,.ptr 4 0),(5,.ptr 5 0),(6,tN .i64 (absd v.2.2.1 (d i.toNat))),(7,tN .i64 v.1)]
  bs:=fun v=>[(4,28,row8 o a b c s d e f i.toNat),(5,26,[.v (.bool v.2.1),.v (.int .i64 v.2.2.1),.v (.int .i64 v.2.2.2.1),.v (.int .i64 v.2.2.2.2)])]
  I:=fun v=>In12 (s i.toNat) (d i.toNat) (e i.toNat) (f i.toNat) v
  μ:=fun v=>(3000-v.1).toNat
theorem settles_law (n:Nat) (o:Nat→Bool) (a b c s d e f:Nat→Int) {us:List Value} {w:World} (hargs:All2 (TV.reads (fun _=>0) w.heap.size w) [.rowF n 8 (row8 o a b c s d e f)] us):Ret Try.prog 5 us.toArray w (.tv (tB true)):=by
  refine fnn_ret (lawL 8 n (row8 o a b c s d e f) 2) (lawS n o a b c s d e f) (cxOk Try.prog ints_ok [eqVec,eqLow] [cMay12,cLowTake,cAway,cNum12,cWakes12]) follows Try.func5 rfl 300 _ rfl (by simp) ?_ hargs
  repeat' first
    | exact trivial
    | (refine And.intro (show regChk _ _ _ _ _=true from by kernel_rfl) (And.intro ?_ ?_))
    | (refine And.intro (fun _=>?_) (fun h=>absurd (show true=false from h) (by decide)))
    | (refine And.intro (fun h=>absurd (show false=true from h) (by decide)) (fun _=>?_))
    | (have:=hE;refine And.intro (fun hF=>?_) (fun hF=>?_))
    | (have:=hK;refine And.intro (fun hE=>?_) (fun hE=>?_))
    | (have:=hJ;refine And.intro (fun hK=>?_) (fun hK=>?_))
    | (have:=hA;refine And.intro ?_ ?_)
    | (have:=hC;refine And.intro (fun hA=>?_) (fun hA=>?_))
    | refine And.intro (fun hC=>?_) (fun hC=>?_)
    | refine And.intro ?_ ?_
    | (have:=hA;intro v2 hJ)
    | (intro v hv)
    | intro _
  all_goals first
    | (show wfB _ _=true;rfl)
    | (show (_:Bool)=true;assumption)
    | (show (_:Bool)=true;exact beq_iff_eq.2 (by assumption))
    | (show (0:Int)≤v;exact hv.1)
    | (show v<(n:Int);exact (hC1 hC).1)
    | (show (0:Int)≤s v.toNat;exact (stS (a:=a v.toNat) (b:=b v.toNat) (c:=c v.toNat) (s:=s v.toNat) (d:=d v.toNat) (e:=e v.toNat) (f:=f v.toNat) hA).1.2.2.1)
    | (show wd (lowR _ _ _ _ _ _ _ _).2.1=true;exact (in_wd (k:=v2.1) (o:=v2.2.1) (x:=v2.2.2.1) (y:=v2.2.2.2.1) (z:=v2.2.2.2.2) (s:=s v.toNat) (d:=d v.toNat) (e:=e v.toNat) (f:=f v.toNat) hJ).2.2)
    | (show wd (d v.toNat)=true;exact (gV_iff.1 (stS (a:=a v.toNat) (b:=b v.toNat) (c:=c v.toNat) (s:=s v.toNat) (d:=d v.toNat) (e:=e v.toNat) (f:=f v.toNat) hA).1.2.1).1)
    | (show wd (a v.toNat)=true;exact (gV_iff.1 (stS (a:=a v.toNat) (b:=b v.toNat) (c:=c v.toNat) (s:=s v.toNat) (d:=d v.toNat) (e:=e v.toNat) (f:=f v.toNat) hA).1.1).1)
    | (exact ⟨0,⟨Int.le_refl _,Int.natCast_nonneg _⟩,⟨rfl,rfl,rfl,trivial⟩,trivial⟩)
    | (exact ⟨IntKind.i64.wrap (v+1),(stepL hv hC (by decide)).1,(stepL hv hC (by decide)).2,⟨rfl,rfl,rfl,trivial⟩,trivial⟩)
    | (exact ⟨(0,true,a v.toNat,b v.toNat,c v.toNat),in_0 (stS (a:=a v.toNat) (b:=b v.toNat) (c:=c v.toNat) (s:=s v.toNat) (d:=d v.toNat) (e:=e v.toNat) (f:=f v.toNat) hA).1,⟨rfl,rfl,rfl,rfl,rfl,rfl,rfl,trivial⟩,⟨rfl,⟨rfl,rfl,rfl,rfl,rfl,rfl,rfl,rfl,trivial⟩,rfl,⟨rfl,rfl,rfl,rfl,trivial⟩,trivial⟩⟩)
    | (exact ⟨_,in_mu hJ (kk hK),in_step (k:=v2.1) (o:=v2.2.1) (x:=v2.2.2.1) (y:=v2.2.2.2.1) (z:=v2.2.2.2.2) (s:=s v.toNat) (d:=d v.toNat) (e:=e v.toNat) (f:=f v.toNat) (stS (a:=a v.toNat) (b:=b v.toNat) (c:=c v.toNat) (s:=s v.toNat) (d:=d v.toNat) (e:=e v.toNat) (f:=f v.toNat) hA).2 hJ (kk hK),⟨rfl,rfl,rfl,rfl,rfl,rfl,rfl,trivial⟩,⟨rfl,⟨rfl,rfl,rfl,rfl,rfl,rfl,rfl,rfl,trivial⟩,rfl,⟨rfl,rfl,rfl,rfl,trivial⟩,trivial⟩⟩)
    | (show some (CR.tv (tB true))=some (CR.tv (tB true));rfl)
    | (show some (CR.tv (tB false))=some (CR.tv (tB true));exfalso;first
        | exact no (in_ok (k:=v2.1) (o:=v2.2.1) (x:=v2.2.2.1) (y:=v2.2.2.2.1) (z:=v2.2.2.2.2) (s:=s v.toNat) (d:=d v.toNat) (e:=e v.toNat) (f:=f v.toNat) (stS (a:=a v.toNat) (b:=b v.toNat) (c:=c v.toNat) (s:=s v.toNat) (d:=d v.toNat) (e:=e v.toNat) (f:=f v.toNat) hA).2 hJ) (by assumption)
        | exact no (in_end (k:=v2.1) (o:=v2.2.1) (x:=v2.2.2.1) (y:=v2.2.2.2.1) (z:=v2.2.2.2.2) (s:=s v.toNat) (d:=d v.toNat) (e:=e v.toNat) (f:=f v.toNat) (stS (a:=a v.toNat) (b:=b v.toNat) (c:=c v.toNat) (s:=s v.toNat) (d:=d v.toNat) (e:=e v.toNat) (f:=f v.toNat) hA).2 hJ (by assumption)) (by assumption))
    -- PVC
theorem lowSettles (n:Nat) (f:Nat→List Value) (hf:∀ j,okV ks12 (f j)) {us:List Value} {w:World} (hargs:All2 (TV.reads (fun _=>0) w.heap.size w) [.rowF n 8 (fun j=>cellsG f j 0 ks12)] us):Ret Try.prog 5 us.toArray w (.tv (tB true)) :=
  settles_law n (gB f 0) (gI f 1) (gI f 2) (gI f 3) (gI f 4) (gI f 5) (gI f 6) (gI f 7) hargs
end
end Go.Proofs.Ytglgmepolanfpaa.Wh
end
section
namespace Go.Proofs.Ytglgmepolanfpaa.lowSettles
open Go.ChangeShapes Go.WideShapes Go.ChangeAt Go.RowKit Go.Proofs.YtglgmepolanfpaaW.PrintWords Go.Proofs.YtglgmepolanfpaaW.Sx Go.Proofs.Ytglgmepolanfpaa.Wh
set_option linter.unusedVariables false
theorem own:ownKnob Try.prog.godebug=none:=by kernel_rfl
theorem laidOut:laidOutB Try.prog=true:=by kernel_rfl
theorem cells:lvs Try.prog true 30 28=some [none,some .i64,some .i64,some .i64,some .i64,some .i64,some .i64,some .i64]:=by kernel_rfl
set_option maxRecDepth 100000 in
theorem lifted (os:Os) (started:os.Started) (H:Type) (enc:TypeId × Value→H) :
    ReturnsInHanded {} Try.checked os 5 .any (Rows.lowSettlesSpec.pre6 enc Try.prog Try.f5 Rows.lowSettlesRow.domain false) (Rows.lowSettlesSpec.post enc Try.prog Try.f5 false true false false):=by
  refine returnsInHanded_of_change_sized (C:=Try.checked) own started (by kernel_rfl) Try.func5
    (ChangeSpec.witness6 (enc:=enc) (C:=Try.checked) false ⟨#[],#[.slice none 0 0],[]⟩ 8 (by kernel_rfl) (by kernel_rfl) (by kernel_rfl) (by kernel_rfl)) ?_
  intro W base args ds gs before hval0 hW hcnd hsz0 _
  have hval:∀ (j:Nat) t v,Try.f5.params[j]?=some t→args[j]?=some v→Value.okWide Try.prog W .any base t v:=hval0
  have hW':=hW
  obtain ⟨p,q,hA0,hV,rfl,hfz,hnd⟩:=hW
  have hA:DataW.TrodAll enc Try.prog W 0 (fun _=>true) true Try.f5.params.toList args.toList ds p:=hA0
  rw [Try.params5] at hA hval
  obtain ⟨v0,vs0,d0,ds0,p0,q0,hargs,rfl,rfl,h0,r0⟩:=trodAll_cons hA
  obtain ⟨rfl,rfl,rfl⟩:=trodAll_nil r0
  obtain rfl:args=#[v0]:=by cases args;simp_all
  obtain ⟨rfl,rfl⟩:=trodVars_none hV
  have k0:=h0
  have lt0:∀ x∈p0,x.block<W.heap.size:=by obtain ⟨m,hm⟩:=k0;exact DataW.trod_lt m _ _ _ hm
  have hv0:=hval 0 22 v0 rfl rfl
  obtain ⟨a0,len0,cap0,rfl⟩:=okWide_slice Try.underlying22 hv0
  obtain ⟨f,hf,hr⟩:=row_of Try.underlying22 cells (by decide) h0
  clear hA0 hval0 hsz0
  refine Calls.mono (lowSettles len0 f hf (us:=[_]) (.cons (hr _) .nil)) fun e W' hpost=>?_
  obtain ⟨u,rfl,hu,bel⟩:=hpost
  obtain rfl:u = .bool true:=hu
  exact ⟨_,rfl,_,_,_,[],_,[],hW',trodAll_mk1 (shut_bool Try.underlying4 _),(trodAll_cons_mk (Below.trod laidOut (by kernel_rfl) (of_decide_eq_true (by kernel_rfl)) k0 bel lt0) trodAll_mk0),rfl,bel.frame _,fun h=>by cases h⟩
theorem over:Rows.lowSettlesRow.holds Try.pinned (OpenSpec.ofChange Rows.lowSettlesSpec) :=
  OpenClaim.holds_of_wide 5 Try.f5 rfl rfl rfl rfl rfl rfl rfl ⟨rfl,rfl,rfl,rfl,rfl⟩ rfl rfl rfl rfl rfl (by kernel_rfl) Try.func5 (by kernel_rfl)
    (of_decide_eq_true (by kernel_rfl)) (by unfold Func.isWrapper;first|(rw [if_pos (by decide +kernel)];kernel_rfl)|(rw [if_neg (by decide +kernel)];exact ⟨rfl,rfl⟩))
    (fun os started H enc _=>lifted os started H enc)
theorem proved:Rows.LowSettlesSaid:=over
end Go.Proofs.Ytglgmepolanfpaa.lowSettles
namespace Go.Proofs.Ytglgmepolanfpaa
theorem lowSettles_holds:Rows.LowSettlesSaid:=lowSettles.proved
end Go.Proofs.Ytglgmepolanfpaa
end
