/- The row of TiltAway, out of its law by the reckoner: for every argument that reads as data the call returns true and leaves the argument as it was. -/
import Derived.Test.YtonelbidndjhdaaZI20b
import Derived.Deep.Slices
import Derived.OpenShut
import Derived.SizedLaws
import Derived.Test.YtonelbidndjhdaaRows
import Derived.WalkKit
import Derived.ProofKit
import Derived.ShutString
import Derived.ChangeOld
import Derived.Below
import Derived.Carry
section
set_option linter.unusedVariables false
set_option linter.unusedSimpArgs false
namespace Go.Proofs.Ytonelbidndjhdaa.Wh
open Go Go.RowKit Go.Proofs.YtonelbidndjhdaaW.PrintWords Go.Proofs.YtonelbidndjhdaaW.PrintMore Go.Proofs.YtonelbidndjhdaaW.Aid Go.Proofs.YtonelbidndjhdaaW.Big Go.Proofs.YtonelbidndjhdaaW.Sx Go.Proofs.Ytonelbidndjhdaa.BitsWalk Go.Proofs.Ytonelbidndjhdaa.Limbs Go.Proofs.Ytonelbidndjhdaa.Whole Go.Proofs.Ytonelbidndjhdaa.FxWalk Go.Proofs
abbrev tV4 (p:Int × Int × Int × Int):TV := .tup [(true,[.v (.int .i64 p.1),.v (.int .i64 p.2.1),.v (.int .i64 p.2.2.1)]),(false,[.v (.int .i64 p.2.2.2)])]
theorem v4_eq {x y z e:Int} {p:Int × Int × Int × Int} (h:(x,y,z,e)=p):(some (CR.tv (.tup [(true,[.v (.int .i64 x),.v (.int .i64 y),.v (.int .i64 z)]),(false,[.v (.int .i64 e)])])):Option CR)=some (CR.tv (tV4 p)):=by rw [← h]
def vT (a b c:Int):Int × Int × Int × Int:=if (wd a&&(wd b&&wd c))=true then (a,b,c,0) else (0,0,0,2)
theorem tR_bad {a:Int} (h:((toldR a).2 != 0)=true):wd a=false∧(toldR a).2=2:=by
  unfold toldR at *
  by_cases hw:wd a=true
  · rw [if_pos hw] at h;exact absurd (show ((0:Int) != 0)=true from h) (by decide)
  · rw [if_neg hw];exact ⟨by simpa using hw,rfl⟩
theorem tR_ok {a:Int} (h:((toldR a).2 != 0)=false):wd a=true∧(toldR a).1=a:=by
  unfold toldR at *
  by_cases hw:wd a=true
  · rw [if_pos hw];exact ⟨hw,rfl⟩
  · rw [if_neg hw] at h;exact absurd (show ((2:Int) != 0)=false from h) (by decide)
theorem vT_1 {a b c:Int} (h:((toldR a).2 != 0)=true):((0:Int),(0:Int),(0:Int),(toldR a).2)=vT a b c:=by
  obtain ⟨h1,h2⟩:=tR_bad h
  unfold vT;rw [h2,if_neg (by simp [h1])]
theorem vT_2 {a b c:Int} (h:((toldR b).2 != 0)=true):((0:Int),(0:Int),(0:Int),(toldR b).2)=vT a b c:=by
  obtain ⟨h1,h2⟩:=tR_bad h
  unfold vT;rw [h2,if_neg (by simp [h1])]
theorem vT_3 {a b c:Int} (h:((toldR c).2 != 0)=true):((0:Int),(0:Int),(0:Int),(toldR c).2)=vT a b c:=by
  obtain ⟨h1,h2⟩:=tR_bad h
  unfold vT;rw [h2,if_neg (by simp [h1])]
theorem vT_4 {a b c:Int} (h:((toldR a).2 != 0)=false) (h':((toldR b).2 != 0)=false) (h'':((toldR c).2 != 0)=false):((toldR a).1,(toldR b).1,(toldR c).1,(0:Int))=vT a b c:=by
  obtain ⟨h1,h2⟩:=tR_ok h
  obtain ⟨h3,h4⟩:=tR_ok h'
  obtain ⟨h5,h6⟩:=tR_ok h''
  unfold vT;rw [h2,h4,h6,if_pos (by simp [h1,h3,h5])]
abbrev gV (x y z:Int):Bool:=allw [x,y,z]
theorem gV_iff {x y z:Int}:gV x y z=true↔wd x=true∧wd y=true∧wd z=true:=by simp [gV,allw]
theorem gV_bd {a b c:Int} (h:gV a b c=true):(-35184372088832<a∧a<35184372088832)∧(-35184372088832<b∧b<35184372088832)∧(-35184372088832<c∧c<35184372088832):=by
  obtain ⟨h1,h2,h3⟩:=gV_iff.1 h
  exact ⟨wd_iff.1 h1,wd_iff.1 h2,wd_iff.1 h3⟩
theorem and_tt {a b:Bool} (h:a=true) (h':b=true):(a&&b)=true:=by rw [h,h'];rfl
section
set_option maxRecDepth 100000
set_option maxHeartbeats 4000000
def cVOf:Con Try.prog where
  f:=46
  sem:=fun xs=>match xs with
    | [.agg [.v (.int .i64 x),.v (.int .i64 y),.v (.int .i64 z)]]=>some (True,.new 2 3 1 [.v (.int .i64 x),.v (.int .i64 y),.v (.int .i64 z)])
    | _=>none
  ok := by
    intro xs p r' h hp
    refine ⟨⟨_,Try.func46,by kernel_rfl,rfl⟩,fun us w ha=>?_⟩
    split at h
    · rename_i x y z
      cases h
      refine fn_ret (cxOk Try.prog ints_ok [] []) follows Try.func46 rfl 100 _ rfl (by simp) ?_ ha
      repeat' first
        | exact trivial
        | (refine And.intro (show regChk _ _ _ _ _=true from by kernel_rfl) (And.intro ?_ ?_))
        | (refine And.intro (fun _=>?_) (fun h=>absurd (show true=false from h) (by decide)))
        | (refine And.intro (fun h=>absurd (show false=true from h) (by decide)) (fun _=>?_))
        | (refine And.intro (fun hb=>?_) (fun hb'=>?_))
        | refine And.intro ?_ ?_
      all_goals first
        | (show some (CR.new _ _ _ _)=some (CR.new _ _ _ _);rfl)
        | (show (_:Nat)=(_:Nat);rfl)
        | (show (_:Nat)≤1000;decide)
        | (show (_:Int)=(_:Int);rfl)
        | (show (_:Int)≤_;decide)
        | (show (_:Int)<_;decide)
        -- PVC
    · cases h
def cVGood:Con Try.prog where
  f:=60
  sem:=fun xs=>match xs with
    | [.agg [.v (.int .i64 x),.v (.int .i64 y),.v (.int .i64 z)]]=>some (True,.tv (tB (gV x y z)))
    | _=>none
  ok := by
    intro xs p r' h hp
    refine ⟨⟨_,Try.func60,by kernel_rfl,rfl⟩,fun us w ha=>?_⟩
    split at h
    · rename_i x y z
      cases h
      refine fn_ret (cxOk Try.prog ints_ok [] [cAll]) follows Try.func60 rfl 100 _ rfl (by simp) ?_ ha
      repeat' first
        | exact trivial
        | (refine And.intro (show regChk _ _ _ _ _=true from by kernel_rfl) (And.intro ?_ ?_))
        | (refine And.intro (fun _=>?_) (fun h=>absurd (show true=false from h) (by decide)))
        | (refine And.intro (fun h=>absurd (show false=true from h) (by decide)) (fun _=>?_))
        | (refine And.intro (fun hb=>?_) (fun hb'=>?_))
        | refine And.intro ?_ ?_
      all_goals first
        | (show some (CR.tv (tB _))=some (CR.tv (tB _));exact tB_eq rfl)
        | (show (_:Nat)=(_:Nat);rfl)
        | (show (_:Nat)≤1000;decide)
        | (show (_:Int)=(_:Int);rfl)
        | (show (_:Int)≤_;decide)
        | (show (_:Int)<_;decide)
        -- PVC
    · cases h
def cVTold:Con Try.prog where
  f:=52
  sem:=fun xs=>match xs with
    | [.row 3 [.neg a,.mag a',.neg b,.mag b',.neg c,.mag c']]=>some (a'=a∧b'=b∧c'=c,.tv (tV4 (vT a b c)))
    | _=>none
  ok := by
    intro xs p r' h hp
    refine ⟨⟨_,Try.func52,by kernel_rfl,rfl⟩,fun us w ha=>?_⟩
    split at h
    · rename_i a a' b b' c c'
      cases h
      obtain ⟨rfl,rfl,rfl⟩:=hp
      refine fnu_ret (cxOk Try.prog ints_ok [] [cTold]) follows [0,2,3,4,9,10,11] Try.func52 rfl 100 _ rfl (by simp) ?_ ha
      repeat' first
        | exact trivial
        | (refine And.intro (show regChk _ _ _ _ _=true from by kernel_rfl) (And.intro ?_ ?_))
        | (refine And.intro (fun _=>?_) (fun h=>absurd (show true=false from h) (by decide)))
        | (refine And.intro (fun h=>absurd (show false=true from h) (by decide)) (fun _=>?_))
        | (refine And.intro (fun hb=>?_) (fun hb'=>?_))
        | refine And.intro ?_ ?_
      all_goals first
        | (show some (CR.tv (.tup _))=some (CR.tv (tV4 _));first|exact v4_eq (vT_1 (by assumption))|exact v4_eq (vT_2 (by assumption))|exact v4_eq (vT_3 (by assumption))|exact v4_eq (vT_4 (by assumption) (by assumption) (by assumption)))
        | (show (_:Nat)=(_:Nat);rfl)
        | (show (_:Nat)≤1000;decide)
        | (show (_:Int)=(_:Int);rfl)
        | (show (_:Int)≤_;decide)
        | (show (_:Int)<_;decide)
        -- PVC
    · cases h
end
end Go.Proofs.Ytonelbidndjhdaa.Wh
end
section
set_option linter.unusedVariables false
set_option linter.unusedSimpArgs false
namespace Go.Proofs.Ytonelbidndjhdaa.Wh
open Go Go.RowKit Go.Proofs.YtonelbidndjhdaaW.PrintWords Go.Proofs.YtonelbidndjhdaaW.PrintMore Go.Proofs.YtonelbidndjhdaaW.Aid Go.Proofs.YtonelbidndjhdaaW.Big Go.Proofs.YtonelbidndjhdaaW.Sx Go.Proofs.Ytonelbidndjhdaa.BitsWalk Go.Proofs.Ytonelbidndjhdaa.Limbs Go.Proofs.Ytonelbidndjhdaa.Whole Go.Proofs.Ytonelbidndjhdaa.FxWalk Go.Proofs
theorem len_b4 {x:Int} (h : -1000000000000000000000000000000000000000000000000000000000000000≤x) (h':x≤1000000000000000000000000000000000000000000000000000000000000000):Len0 x:=len_big (k:=4) (by decide) (Nat.lt_of_le_of_lt (show x.natAbs≤1000000000000000000000000000000000000000000000000000000000000000 by omega) (by decide +kernel))
theorem prod_bd {x y:Int} (hx:I64 x) (hy:I64 y) : -85070591730234615865843651857942052864≤x*y∧x*y≤85070591730234615865843651857942052864:=by
  have h1:x.natAbs≤9223372036854775808:=by unfold I64 at hx;omega
  have h2:y.natAbs≤9223372036854775808:=by unfold I64 at hy;omega
  have h3:(x*y).natAbs≤9223372036854775808*9223372036854775808:=by rw [Int.natAbs_mul];exact Nat.mul_le_mul h1 h2
  omega
theorem prodw {x y:Int} (hx:wd x=true) (hy:wd y=true) : -1237940039285380274899124224≤x*y∧x*y≤1237940039285380274899124224:=by
  rw [wd_iff] at hx hy
  have h1:x.natAbs≤35184372088832:=by omega
  have h2:y.natAbs≤35184372088832:=by omega
  have h3:(x*y).natAbs≤35184372088832*35184372088832:=by rw [Int.natAbs_mul];exact Nat.mul_le_mul h1 h2
  omega
theorem lm24 {x:Int} (h:I64 x):(lm x).length<24:=by have:=lm_one x (by unfold I64 at h;omega);omega
theorem len_I {x:Int} (h:I64 x):Len0 x:=len_i64 h.1 h.2
def q30 (n:Int):Int:=roundP n 1073741824
theorem q30_eq (n:Int):roundI n (2 ^ Int.toNat 30)=q30 n:=ri_p (by decide)
def dot3 (a b c d e f:Int):Int:=a*d+b*e+c*f
theorem dot3_eq (a b c d e f:Int):0+a*d+b*e+c*f=dot3 a b c d e f:=by unfold dot3;omega
theorem dot3_wd {a b c d e f:Int} (h:gV a b c=true) (h':gV d e f=true) : -3713820117856140824697372672≤dot3 a b c d e f∧dot3 a b c d e f≤3713820117856140824697372672:=by
  obtain ⟨a1,a2,a3⟩:=gV_iff.1 h
  obtain ⟨b1,b2,b3⟩:=gV_iff.1 h'
  have:=prodw a1 b1
  have:=prodw a2 b2
  have:=prodw a3 b3
  unfold dot3;omega
def guard2 (a b c d e f:Int) (p:Int × Int × Int × Int):Int × Int × Int × Int:=if gV a b c=true∧gV d e f=true then p else (0,0,0,1)
abbrev bad2 (a b c d e f:Int):Bool:=bif !gV a b c then true else !gV d e f
theorem bad2_iff {a b c d e f:Int}:bad2 a b c d e f=false↔gV a b c=true∧gV d e f=true:=by
  unfold bad2;cases gV a b c<;>cases gV d e f<;>simp
theorem g2_bad {a b c d e f:Int} {p:Int × Int × Int × Int} (h:bad2 a b c d e f=true):((0:Int),(0:Int),(0:Int),(1:Int))=guard2 a b c d e f p:=by
  unfold guard2;rw [if_neg (fun hk=>by rw [bad2_iff.2 hk] at h;cases h)]
theorem g2_ok {a b c d e f:Int} {p:Int × Int × Int × Int} (h:bad2 a b c d e f=false):(p.1,p.2.1,p.2.2.1,p.2.2.2)=guard2 a b c d e f p:=by
  unfold guard2;rw [if_pos (bad2_iff.1 h)]
theorem wrap_s {x y:Int} (hx:wd x=true) (hy:wd y=true):IntKind.i64.wrap (x-y)=x-y:=by
  rw [wd_iff] at hx hy;rw [i64_wrap];exact wrap64_id (by omega) (by omega)
theorem wrap_I (x:Int) : -9223372036854775808≤IntKind.i64.wrap x∧IntKind.i64.wrap x<9223372036854775808:=by rw [i64_wrap];unfold wrap64;omega
def dotR (a b c d e f:Int):Int × Int:=if gV a b c=true∧gV d e f=true then toldR (q30 (dot3 a b c d e f)) else (0,1)
theorem dot_bad {a b c d e f:Int} (h:bad2 a b c d e f=true):((0:Int),(1:Int))=((dotR a b c d e f).1,(dotR a b c d e f).2):=by
  unfold dotR;rw [if_neg (fun hk=>by rw [bad2_iff.2 hk] at h;cases h)]
theorem dot_ok {a b c d e f:Int} (h:bad2 a b c d e f=false):((toldR (q30 (dot3 a b c d e f))).1,(toldR (q30 (dot3 a b c d e f))).2)=((dotR a b c d e f).1,(dotR a b c d e f).2):=by
  unfold dotR;rw [if_pos (bad2_iff.1 h)]
def subV (a b c d e f:Int):Int × Int × Int × Int:=guard2 a b c d e f (vT (a-d) (b-e) (c-f))
theorem dot_len {x:Int} (h : -3713820117856140824697372672≤x∧x≤3713820117856140824697372672):Len0 x:=len_b4 (by omega) (by omega)
section
set_option maxRecDepth 100000
set_option maxHeartbeats 4000000
def cTimes:Con Try.prog where
  f:=76
  sem:=fun xs=>match xs with
    | [.sc (.v (.int .i64 x)),.sc (.v (.int .i64 y))]=>some (I64 x∧I64 y,.tv (tI (x*y)))
    | _=>none
  ok := by
    intro xs p r' h hp
    refine ⟨⟨_,Try.func76,by kernel_rfl,rfl⟩,fun us w ha=>?_⟩
    split at h
    · rename_i x y
      cases h
      obtain ⟨hx,hy⟩:=hp
      have hx1:=hx.1
      have hx2:=hx.2
      have hy1:=hy.1
      have hy2:=hy.2
      refine fn_ret (cxOk Try.prog ints_ok [] [cMul,cFrom]) follows Try.func76 rfl 100 _ rfl (by simp) ?_ ha
      repeat' first
        | exact trivial
        | (refine And.intro (show regChk _ _ _ _ _=true from by kernel_rfl) (And.intro ?_ ?_))
        | (refine And.intro (fun _=>?_) (fun h=>absurd (show true=false from h) (by decide)))
        | (refine And.intro (fun h=>absurd (show false=true from h) (by decide)) (fun _=>?_))
        | (refine And.intro (fun hb=>?_) (fun hb'=>?_))
        | refine And.intro ?_ ?_
      all_goals first
        | (show Len0 _;exact len_I hx)
        | exact lm24 hy
        | (show (_:Int)≤_;omega)
        | (show (_:Int)<_;omega)
        | exact hx.1
        | exact hx.2
        | exact hy.1
        | exact hy.2
        | (show some (CR.tv (tI _))=some (CR.tv (tI _));rfl)
        | (show (_:Nat)=(_:Nat);rfl)
        | (show (_:Nat)≤1000;decide)
        | (show (_:Int)=(_:Int);rfl)
        | (show (_:Int)≤_;decide)
        | (show (_:Int)<_;decide)
        -- PVC
    · cases h
def cShifted:Con Try.prog where
  f:=66
  sem:=fun xs=>match xs with
    | [.agg [.neg n,.mag n']]=>some (n'=n∧Len0 n,.tv (tI (q30 n)))
    | _=>none
  ok := by
    intro xs p r' h hp
    refine ⟨⟨_,Try.func66,by kernel_rfl,rfl⟩,fun us w ha=>?_⟩
    split at h
    · rename_i n n'
      cases h
      obtain ⟨rfl,hn⟩:=hp
      refine fn_ret (cxOk Try.prog ints_ok [] [cRound,cPower]) follows Try.func66 rfl 100 _ rfl (by simp) ?_ ha
      repeat' first
        | exact trivial
        | (refine And.intro (show regChk _ _ _ _ _=true from by kernel_rfl) (And.intro ?_ ?_))
        | (refine And.intro (fun _=>?_) (fun h=>absurd (show true=false from h) (by decide)))
        | (refine And.intro (fun h=>absurd (show false=true from h) (by decide)) (fun _=>?_))
        | (refine And.intro (fun hb=>?_) (fun hb'=>?_))
        | refine And.intro ?_ ?_
      all_goals first
        | (show Len0 _;exact hn)
        | (show (_:Int)≠0;decide)
        | (show Int.natAbs _<(_:Nat);decide)
        | (show some (CR.tv (tI _))=some (CR.tv (tI _));exact wh_eq (q30_eq _))
        | (show (_:Nat)=(_:Nat);rfl)
        | (show (_:Nat)≤1000;decide)
        | (show (_:Int)=(_:Int);rfl)
        | (show (_:Int)≤_;decide)
        | (show (_:Int)<_;decide)
        -- PVC
    · cases h
def cCloSub:Con Try.prog where
  f:=90
  sem:=fun xs=>match xs with
    | [.sc (.v (.int .i64 x)),.sc (.v (.int .i64 y))]=>some (wd x=true∧wd y=true,.tv (tI (x-y)))
    | _=>none
  ok := by
    intro xs p r' h hp
    refine ⟨⟨_,Try.func90,by kernel_rfl,rfl⟩,fun us w ha=>?_⟩
    split at h
    · rename_i x y
      cases h
      obtain ⟨hx,hy⟩:=hp
      refine fn_ret (cxOk Try.prog ints_ok [] [cFrom]) follows Try.func90 rfl 100 _ rfl (by simp) ?_ ha
      repeat' first
        | exact trivial
        | (refine And.intro (show regChk _ _ _ _ _=true from by kernel_rfl) (And.intro ?_ ?_))
        | (refine And.intro (fun _=>?_) (fun h=>absurd (show true=false from h) (by decide)))
        | (refine And.intro (fun h=>absurd (show false=true from h) (by decide)) (fun _=>?_))
        | (refine And.intro (fun hb=>?_) (fun hb'=>?_))
        | refine And.intro ?_ ?_
      all_goals first
        | exact (wrap_I _).1
        | exact (wrap_I _).2
        | (show some (CR.tv (tI _))=some (CR.tv (tI _));exact wh_eq (wrap_s hx hy))
        | (show (_:Nat)=(_:Nat);rfl)
        | (show (_:Nat)≤1000;decide)
        | (show (_:Int)=(_:Int);rfl)
        | (show (_:Int)≤_;decide)
        | (show (_:Int)<_;decide)
        -- PVC
    · cases h
def cEachT:Con Try.prog where
  f:=75
  sem:=fun xs=>match xs with
    | [.row 3 [.v (.int .i64 a),.v (.int .i64 b),.v (.int .i64 c)],.row 3 [.v (.int .i64 d),.v (.int .i64 e),.v (.int .i64 f)],.clo g []]=>if g=76 then some ((I64 a∧I64 d)∧(I64 b∧I64 e)∧(I64 c∧I64 f),.new 84 3 2 [.neg (a*d),.mag (a*d),.neg (b*e),.mag (b*e),.neg (c*f),.mag (c*f)]) else none
    | _=>none
  ok := by
    intro xs p r' h hp
    refine ⟨⟨_,Try.func75,by kernel_rfl,rfl⟩,fun us w ha=>?_⟩
    split at h
    · rename_i a b c d e f g
      split at h
      case isFalse=>cases h
      rename_i hf
      subst hf
      cases h
      obtain ⟨⟨h1,h2⟩,⟨h3,h4⟩,h5,h6⟩:=hp
      have g11:=h1.1
      have g12:=h1.2
      have g21:=h2.1
      have g22:=h2.2
      have g31:=h3.1
      have g32:=h3.2
      have g41:=h4.1
      have g42:=h4.2
      have g51:=h5.1
      have g52:=h5.2
      have g61:=h6.1
      have g62:=h6.2
      refine fnu_ret (cxOk Try.prog ints_ok [] [cTimes]) follows [0,1,2,6,9,10,11] Try.func75 rfl 100 _ rfl (by simp) ?_ ha
      repeat' first
        | exact trivial
        | (refine And.intro (show regChk _ _ _ _ _=true from by kernel_rfl) (And.intro ?_ ?_))
        | (refine And.intro (fun _=>?_) (fun h=>absurd (show true=false from h) (by decide)))
        | (refine And.intro (fun h=>absurd (show false=true from h) (by decide)) (fun _=>?_))
        | (refine And.intro (fun hb=>?_) (fun hb'=>?_))
        | refine And.intro ?_ ?_
      all_goals first
        | (show (_:Int)≤_;first|omega|decide)
        | (show (_:Int)<_;first|omega|decide)
        | (show some (CR.new _ _ _ _)=some (CR.new _ _ _ _);rfl)
        | exact h1
        | exact h2
        | exact h3
        | exact h4
        | exact h5
        | exact h6
        | (show (_:Nat)=(_:Nat);rfl)
        | (show (_:Nat)≤1000;decide)
        | (show (_:Int)=(_:Int);rfl)
        | (show (_:Int)≤_;decide)
        | (show (_:Int)<_;decide)
        -- PVC
    · cases h
def cEachSub:Con Try.prog where
  f:=75
  sem:=fun xs=>match xs with
    | [.row 3 [.v (.int .i64 a),.v (.int .i64 b),.v (.int .i64 c)],.row 3 [.v (.int .i64 d),.v (.int .i64 e),.v (.int .i64 f)],.clo g []]=>if g=90 then some ((wd a=true∧wd d=true)∧(wd b=true∧wd e=true)∧(wd c=true∧wd f=true),.new 84 3 2 [.neg (a-d),.mag (a-d),.neg (b-e),.mag (b-e),.neg (c-f),.mag (c-f)]) else none
    | _=>none
  ok := by
    intro xs p r' h hp
    refine ⟨⟨_,Try.func75,by kernel_rfl,rfl⟩,fun us w ha=>?_⟩
    split at h
    · rename_i a b c d e f g
      split at h
      case isFalse=>cases h
      rename_i hf
      subst hf
      cases h
      obtain ⟨⟨h1,h2⟩,⟨h3,h4⟩,h5,h6⟩:=hp
      refine fnu_ret (cxOk Try.prog ints_ok [] [cCloSub]) follows [0,1,2,6,9,10,11] Try.func75 rfl 100 _ rfl (by simp) ?_ ha
      repeat' first
        | exact trivial
        | (refine And.intro (show regChk _ _ _ _ _=true from by kernel_rfl) (And.intro ?_ ?_))
        | (refine And.intro (fun _=>?_) (fun h=>absurd (show true=false from h) (by decide)))
        | (refine And.intro (fun h=>absurd (show false=true from h) (by decide)) (fun _=>?_))
        | (refine And.intro (fun hb=>?_) (fun hb'=>?_))
        | refine And.intro ?_ ?_
      all_goals first
        | (show some (CR.new _ _ _ _)=some (CR.new _ _ _ _);rfl)
        | exact h1
        | exact h2
        | exact h3
        | exact h4
        | exact h5
        | exact h6
        | (show (_:Nat)=(_:Nat);rfl)
        | (show (_:Nat)≤1000;decide)
        | (show (_:Int)=(_:Int);rfl)
        | (show (_:Int)≤_;decide)
        | (show (_:Int)<_;decide)
        -- PVC
    · cases h
def cTwoSub:Con Try.prog where
  f:=89
  sem:=fun xs=>match xs with
    | [.agg [.v (.int .i64 a),.v (.int .i64 b),.v (.int .i64 c)],.agg [.v (.int .i64 d),.v (.int .i64 e),.v (.int .i64 f)],.clo g []]=>if g=90 then some (True,.tv (tV4 (subV a b c d e f))) else none
    | _=>none
  ok := by
    intro xs p r' h hp
    refine ⟨⟨_,Try.func89,by kernel_rfl,rfl⟩,fun us w ha=>?_⟩
    split at h
    · rename_i a b c d e f g
      split at h
      case isFalse=>cases h
      rename_i hf
      subst hf
      cases h
      refine fn_ret (cxOk Try.prog ints_ok [] [cVGood,cVOf,cEachSub,cVTold]) follows Try.func89 rfl 100 _ rfl (by simp) ?_ ha
      repeat' first
        | exact trivial
        | (refine And.intro (show regChk _ _ _ _ _=true from by kernel_rfl) (And.intro ?_ ?_))
        | (refine And.intro (fun _=>?_) (fun h=>absurd (show true=false from h) (by decide)))
        | (refine And.intro (fun h=>absurd (show false=true from h) (by decide)) (fun _=>?_))
        | (refine And.intro (fun hb=>?_) (fun hb'=>?_))
        | refine And.intro ?_ ?_
        | intro _
      all_goals first
        | (show some (CR.tv (.tup _))=some (CR.tv (tV4 _));first|exact v4_eq (g2_bad (by assumption))|exact v4_eq (g2_ok (by assumption)))
        | (show wd _=true;have hk:=bad2_iff.1 (show bad2 a b c d e f=false from by assumption);first|exact (gV_iff.1 hk.1).1|exact (gV_iff.1 hk.1).2.1|exact (gV_iff.1 hk.1).2.2|exact (gV_iff.1 hk.2).1|exact (gV_iff.1 hk.2).2.1|exact (gV_iff.1 hk.2).2.2)
        | (show (_:Bool)=(_:Bool);first|assumption|exact beq_iff_eq.2 (by assumption)|(exact and_tt (by first|assumption|exact beq_iff_eq.2 (by assumption)) (by first|assumption|exact beq_iff_eq.2 (by assumption))))
        | (show (_:Nat)=(_:Nat);rfl)
        | (show (_:Nat)≤1000;decide)
        | (show (_:Int)=(_:Int);rfl)
        | (show (_:Int)≤_;decide)
        | (show (_:Int)<_;decide)
        -- PVC
    · cases h
def cVSub:Con Try.prog where
  f:=61
  sem:=fun xs=>match xs with
    | [.agg [.v (.int .i64 a),.v (.int .i64 b),.v (.int .i64 c)],.agg [.v (.int .i64 d),.v (.int .i64 e),.v (.int .i64 f)]]=>some (True,.tv (tV4 (subV a b c d e f)))
    | _=>none
  ok := by
    intro xs p r' h hp
    refine ⟨⟨_,Try.func61,by kernel_rfl,rfl⟩,fun us w ha=>?_⟩
    split at h
    · rename_i a b c d e f
      cases h
      refine fn_ret (cxOk Try.prog ints_ok [] [cTwoSub]) follows Try.func61 rfl 100 _ rfl (by simp) ?_ ha
      repeat' first
        | exact trivial
        | (refine And.intro (show regChk _ _ _ _ _=true from by kernel_rfl) (And.intro ?_ ?_))
        | (refine And.intro (fun _=>?_) (fun h=>absurd (show true=false from h) (by decide)))
        | (refine And.intro (fun h=>absurd (show false=true from h) (by decide)) (fun _=>?_))
        | (refine And.intro (fun hb=>?_) (fun hb'=>?_))
        | refine And.intro ?_ ?_
      all_goals first
        | (show some (CR.tv (.tup _))=some (CR.tv (tV4 _));rfl)
        | (show (_:Nat)=(_:Nat);rfl)
        | (show (_:Nat)≤1000;decide)
        | (show (_:Int)=(_:Int);rfl)
        | (show (_:Int)≤_;decide)
        | (show (_:Int)<_;decide)
        -- PVC
    · cases h
def cSum:Con Try.prog where
  f:=50
  sem:=fun xs=>match xs with
    | [.row 3 [.v (.int .i64 a),.v (.int .i64 b),.v (.int .i64 c)],.row 3 [.v (.int .i64 d),.v (.int .i64 e),.v (.int .i64 f)]]=>some ((I64 a∧I64 d)∧(I64 b∧I64 e)∧(I64 c∧I64 f),.tv (tI (dot3 a b c d e f)))
    | _=>none
  ok := by
    intro xs p r' h hp
    refine ⟨⟨_,Try.func50,by kernel_rfl,rfl⟩,fun us w ha=>?_⟩
    split at h
    · rename_i a b c d e f
      cases h
      obtain ⟨⟨h1,h2⟩,⟨h3,h4⟩,h5,h6⟩:=hp
      have p1:=prod_bd h1 h2
      have p2:=prod_bd h3 h4
      have p3:=prod_bd h5 h6
      have g11:=h1.1
      have g12:=h1.2
      have g21:=h2.1
      have g22:=h2.2
      have g31:=h3.1
      have g32:=h3.2
      have g41:=h4.1
      have g42:=h4.2
      have g51:=h5.1
      have g52:=h5.2
      have g61:=h6.1
      have g62:=h6.2
      refine fnu_ret (cxOk Try.prog ints_ok [] [cEachT,cAdd]) follows [4,9,10,11] Try.func50 rfl 100 _ rfl (by simp) ?_ ha
      repeat' first
        | exact trivial
        | (refine And.intro (show regChk _ _ _ _ _=true from by kernel_rfl) (And.intro ?_ ?_))
        | (refine And.intro (fun _=>?_) (fun h=>absurd (show true=false from h) (by decide)))
        | (refine And.intro (fun h=>absurd (show false=true from h) (by decide)) (fun _=>?_))
        | (refine And.intro (fun hb=>?_) (fun hb'=>?_))
        | refine And.intro ?_ ?_
      all_goals first
        | (show (_:Int)≤_;first|omega|decide)
        | (show (_:Int)<_;first|omega|decide)
        | exact h1
        | exact h2
        | exact h3
        | exact h4
        | exact h5
        | exact h6
        | (show Len0 _;exact len_b4 (by omega) (by omega))
        | (show some (CR.tv (tI _))=some (CR.tv (tI _));exact wh_eq (dot3_eq _ _ _ _ _ _))
        | (show (_:Nat)=(_:Nat);rfl)
        | (show (_:Nat)≤1000;decide)
        | (show (_:Int)=(_:Int);rfl)
        | (show (_:Int)≤_;decide)
        | (show (_:Int)<_;decide)
        -- PVC
    · cases h
def cDot:Con Try.prog where
  f:=38
  sem:=fun xs=>match xs with
    | [.agg [.v (.int .i64 a),.v (.int .i64 b),.v (.int .i64 c)],.agg [.v (.int .i64 d),.v (.int .i64 e),.v (.int .i64 f)]]=>some (True,.tv (tNN (dotR a b c d e f).1 (dotR a b c d e f).2))
    | _=>none
  ok := by
    intro xs p r' h hp
    refine ⟨⟨_,Try.func38,by kernel_rfl,rfl⟩,fun us w ha=>?_⟩
    split at h
    · rename_i a b c d e f
      cases h
      refine fn_ret (cxOk Try.prog ints_ok [] [cVGood,cVOf,cSum,cShifted,cTold]) follows Try.func38 rfl 100 _ rfl (by simp) ?_ ha
      repeat' first
        | exact trivial
        | (refine And.intro (show regChk _ _ _ _ _=true from by kernel_rfl) (And.intro ?_ ?_))
        | (refine And.intro (fun _=>?_) (fun h=>absurd (show true=false from h) (by decide)))
        | (refine And.intro (fun h=>absurd (show false=true from h) (by decide)) (fun _=>?_))
        | (refine And.intro (fun hb=>?_) (fun hb'=>?_))
        | refine And.intro ?_ ?_
        | intro _
      all_goals first
        | (show some (CR.tv (tNN _ _))=some (CR.tv (tNN _ _));first|exact nn_eq (dot_bad (by assumption))|exact nn_eq (dot_ok (by assumption)))
        | (show (_:Int)≤_;have hk:=bad2_iff.1 (show bad2 a b c d e f=false from by assumption);have hl:=gV_bd hk.1;have hr:=gV_bd hk.2;omega)
        | (show (_:Int)<_;have hk:=bad2_iff.1 (show bad2 a b c d e f=false from by assumption);have hl:=gV_bd hk.1;have hr:=gV_bd hk.2;omega)
        | (show Len0 _;have hk:=bad2_iff.1 (show bad2 a b c d e f=false from by assumption);exact dot_len (dot3_wd hk.1 hk.2))
        | (show (_:Bool)=(_:Bool);first|assumption|exact beq_iff_eq.2 (by assumption)|(exact and_tt (by first|assumption|exact beq_iff_eq.2 (by assumption)) (by first|assumption|exact beq_iff_eq.2 (by assumption))))
        | (show (_:Nat)=(_:Nat);rfl)
        | (show (_:Nat)≤1000;decide)
        | (show (_:Int)=(_:Int);rfl)
        | (show (_:Int)≤_;decide)
        | (show (_:Int)<_;decide)
        -- PVC
    · cases h
end
end Go.Proofs.Ytonelbidndjhdaa.Wh
end
section
set_option linter.unusedVariables false
set_option linter.unusedSimpArgs false
namespace Go.Proofs.YtonelbidndjhdaaW.Sx
open Go Go.RowKit Go.Proofs.YtonelbidndjhdaaW.PrintWords Go.Proofs.YtonelbidndjhdaaW.PrintMore Go.Proofs.YtonelbidndjhdaaW.Aid Go.Proofs.YtonelbidndjhdaaW.Big
def wfV:Value→Bool
  | .int k n=>(Lit.int k n).wf
  | _=>true
def okV (ks:List (Option IntKind)) (xs:List Value):Prop:=isKs ks xs=true∧∀ x∈xs,wfV x=true
theorem isKs_app:∀ {ks ks':List (Option IntKind)} {xs ys:List Value},isKs ks xs=true→isKs ks' ys=true→isKs (ks++ks') (xs++ys)=true
  | [],ks',[],ys,_,h=>h
  | k::ks,ks',x::xs,ys,h,h'=>by
    simp only [isKs,Bool.and_eq_true] at h
    simp only [List.cons_append,isKs,h.1,isKs_app h.2 h',Bool.and_self]
  | [],_,_::_,_,h,_=>by cases h
  | _::_,_,[],_,h,_=>by cases h
theorem okV_app {ks ks':List (Option IntKind)} {xs ys:List Value} (h:okV ks xs) (h':okV ks' ys):okV (ks++ks') (xs++ys) :=
  ⟨isKs_app h.1 h'.1,fun x hx=>(List.mem_append.1 hx).elim (h.2 x) (h'.2 x)⟩
section
variable {H:Type} {enc:TypeId × Value→H} {P:Program} {w:World} {base:Nat} {spare:Nat→Bool} {held:Bool}
theorem rep_take (ks:List (Option IntKind)):∀ (n:Nat) (xs:List Value),xs.length=(rep ks n).length→(∀ i,i<n→okV ks ((xs.drop (i*ks.length)).take ks.length))→okV (rep ks n) xs
  | 0,xs,hl,_=>by
    cases xs with
    | nil=>exact ⟨rfl,fun _ h=>by cases h⟩
    | cons _ _=>simp [rep] at hl
  | n + 1, xs, hl, h => by
    have h0:=h 0 (by omega)
    rw [Nat.zero_mul,List.drop_zero] at h0
    have hl':xs.length=ks.length+(rep ks n).length:=by rw [hl,rep,List.length_append]
    have ih:=rep_take ks n (xs.drop ks.length) (by rw [List.length_drop];omega) (fun i hi=>by
      have:=h (i+1) (by omega)
      rw [List.drop_drop,show ks.length+i*ks.length=(i+1)*ks.length by rw [Nat.add_mul,Nat.one_mul];omega]
      exact this)
    have:=okV_app h0 ih
    rw [List.take_append_drop] at this
    exact this
theorem flat_trod (arr:Bool):∀ (d:Nat),(∀ (T:TypeId) (ks:List (Option IntKind)) (fuel:Nat) (cs:List Value) (x:DataW H × List MemPlace),lvs P arr d T=some ks→DataW.trod enc P w base spare held fuel T cs=some x→okV ks cs) ∧
    (∀ (fs:List Field) (off:Nat) (ks:List (Option IntKind)) (n:Nat) (cs:List Value) (ys:List (DataW H × List MemPlace)),lvsF P arr d fs off=some ks→cs.length=off+ks.length→ys.length=fs.length →
      (∀ (i:Nat) (f:Field),fs[i]?=some f→DataW.trod enc P w base spare held n f.type ((cs.drop f.offset).take (P.cellsOf f.type))=ys[i]?)→okV ks (cs.drop off)):=by
  intro d
  induction d with
  | zero =>
    refine ⟨fun T ks fuel cs x h=>(by cases h),fun fs off ks n cs ys h hl hy _=>?_⟩
    cases fs with
    | nil =>
      cases h
      rw [List.drop_of_length_le (by simp at hl;omega)]
      exact ⟨rfl,fun _ h=>by cases h⟩
    | cons f fs=>cases h
  | succ d ih =>
    obtain ⟨ih1,ih2⟩:=ih
    constructor
    · intro T ks fuel cs x h hx
      rw [lvs] at h
      split at h
      · rename_i k inf hu hi
        split at h
        case isFalse=>cases h
        cases h
        obtain ⟨n,rfl,_,hw⟩:=DataW.trod_int hu hx
        exact ⟨by simp [isKs,isK],fun y hy=>by rw [List.mem_singleton.1 hy];exact hw⟩
      · rename_i inf hu hi
        split at h
        case isFalse=>cases h
        cases h
        obtain ⟨n,rfl,_⟩:=DataW.trod_bool hu hx
        exact ⟨rfl,fun y hy=>by rw [List.mem_singleton.1 hy];rfl⟩
      · rename_i fs inf hu hi
        split at h
        · cases h
        · split at h
          · rename_i ks' hf
            split at h
            · rename_i hs
              cases h
              obtain ⟨ys,n,_,rfl,hcl,hyl,hg⟩:=DataW.trod_struct hu hx
              have hcl':cs.length=0+ks.length:=by
                rw [hcl];unfold Program.cellsOf;rw [hi];simpa using hs
              have:=ih2 fs.toList 0 ks n cs ys hf hcl' (by simpa using hyl) (fun i f hf=>hg i f (by simpa using hf))
              rwa [List.drop_zero] at this
            · cases h
          · cases h
      · rename_i n e inf hu hi
        split at h
        · split at h
          · rename_i ks' he
            split at h
            · rename_i hs
              cases h
              obtain ⟨ys,m,_,rfl,hcl,hyl,hg⟩:=DataW.trod_array hu hx
              have hce:=lvs_cells he
              rw [hce] at hg
              refine rep_take ks' n cs (by rw [hcl];unfold Program.cellsOf;rw [hi];simpa using hs) (fun i hi=>?_)
              obtain ⟨y,hy⟩:∃ y,ys[i]?=some y:=⟨ys[i],by simp⟩
              exact ih1 e ks' m _ y he (by rw [hg i hi,hy])
            · cases h
          · cases h
        · cases h
      · cases h
    · intro fs off ks n cs ys h hl hy hg
      cases fs with
      | nil =>
        cases h
        rw [List.drop_of_length_le (by simp at hl;omega)]
        exact ⟨rfl,fun _ h=>by cases h⟩
      | cons f fs =>
        rw [lvsF] at h
        split at h
        · cases h
        · rename_i hc
          have hoff:f.offset=off:=Decidable.byContradiction fun e=>hc (Or.inr e)
          split at h
          · rename_i k ks1 hl1
            split at h
            · rename_i r hr
              cases h
              match ys,hy with
              | y::ys,hy =>
                have h1:=hg 0 f rfl
                rw [hoff,lvs_cells hl1] at h1
                have g1:=ih1 f.type _ n _ y hl1 h1
                have g2:=ih2 fs (off+(k::ks1).length) r n cs ys hr (by rw [hl];simp;omega) (by simpa using hy) (fun i f' hf=>hg (i+1) f' (by simpa using hf))
                have:=okV_app g1 g2
                rw [← List.drop_drop,List.take_append_drop] at this
                exact this
            · cases h
          · cases h
def gI (f:Nat→List Value) (i j:Nat):Int:=match (f j)[i]? with
  | some (.int _ n)=>n
  | _=>0
def gB (f:Nat→List Value) (i j:Nat):Bool:=match (f j)[i]? with
  | some (.bool b)=>b
  | _=>false
def cellsG (f:Nat→List Value) (j:Nat):Nat→List (Option IntKind)→List A0
  | _,[]=>[]
  | i,some k::ks => .v (.int k (gI f i j))::cellsG f j (i+1) ks
  | i,none::ks => .v (.bool (gB f i j))::cellsG f j (i+1) ks
theorem cellsG_eq (f:Nat→List Value) (j:Nat):∀ (ks:List (Option IntKind)) (i:Nat),isKs ks ((f j).drop i)=true→cellsG f j i ks=((f j).drop i).map A0.v
  | [],i,h=>by
    cases hx:(f j).drop i with
    | nil=>rfl
    | cons _ _=>rw [hx] at h;cases h
  | k :: ks, i, h => by
    cases hx:(f j).drop i with
    | nil=>rw [hx] at h;cases h
    | cons x xs =>
      have h0:(f j)[i]?=some x:=by rw [← List.head?_drop,hx];rfl
      have h1:(f j).drop (i+1)=xs:=by rw [← List.tail_drop,hx];rfl
      rw [hx] at h
      simp only [isKs,Bool.and_eq_true] at h
      have ih:=cellsG_eq f j ks (i+1) (by rw [h1];exact h.2)
      rw [h1] at ih
      cases k with
      | some k =>
        cases x<;>simp only [isK] at h<;>try (exact absurd h.1 (by decide))
        rename_i k' n
        obtain rfl:=of_decide_eq_true h.1
        simp only [cellsG,gI,h0,List.map_cons,ih]
      | none =>
        cases x<;>simp only [isK] at h<;>try (exact absurd h.1 (by decide))
        simp only [cellsG,gB,h0,List.map_cons,ih]
def zv:Option IntKind→Value
  | some k => .int k 0
  | none => .bool false
theorem zs_ok:∀ ks:List (Option IntKind),okV ks (ks.map zv)
  | []=>⟨rfl,fun _ h=>by cases h⟩
  | k :: ks => by
    obtain ⟨h1,h2⟩:=zs_ok ks
    refine ⟨?_,fun x hx=>?_⟩
    · simp only [List.map_cons,isKs,h1,Bool.and_true]
      cases k<;>simp [zv,isK]
    · rcases List.mem_cons.1 hx with rfl|hx
      · cases k with
        | none=>rfl
        | some k=>cases k<;>decide
      · exact h2 x hx
theorem rowF_congr {n sz:Nat} {f g:Nat→List A0} {β:Nat→Nat} {base:Nat} {w:World} {u:Value} (h:∀ j,f j=g j) (hr:TV.reads β base w (.rowF n sz f) u):TV.reads β base w (.rowF n sz g) u:=by
  rw [show g=f from funext fun j=>(h j).symm];exact hr
theorem row_of {t e:TypeId} {arr:Bool} {d:Nat} {ks:List (Option IntKind)} (hu:P.underlying t=some (.slice e)) (hl:lvs P arr d e=some ks) (hk:0<ks.length) {A1:Option Addr} {n0 c0:Nat} {x:DataW H} {ps:List MemPlace} (h:DataW.Trod enc P w base spare held t (.slice A1 n0 c0) x ps) :
    ∃ f:Nat→List Value,(∀ j,okV ks (f j))∧∀ β:Nat→Nat,TV.reads β w.heap.size w (.rowF n0 ks.length (fun j=>cellsG f j 0 ks)) (.slice A1 n0 c0):=by
  obtain ⟨fuel,hf⟩:=h
  have hcell:(Value.slice A1 n0 c0).cells.toList=[.slice A1 n0 c0]:=rfl
  rw [hcell] at hf
  rcases Go.Deep.open_slice hu hf with ⟨h1,_⟩|⟨a,len,cap,m,n,D,Pl,h1,hb,hle,hm,hmm,_,hi⟩
  · cases h1
    exact ⟨fun _=>ks.map zv,fun j=>zs_ok ks,fun β=>⟨none,0,rfl,Nat.le_refl _,fun h=>absurd h (by omega)⟩⟩
  · cases h1
    have hlm:n0≤m:=by rw [hmm];split<;>omega
    have hch:∀ j,∃ l:List Value,okV ks l∧(j<n0→∀ i u,l[i]?=some u→w.cell? ((a.add (j*ks.length)).add i)=some u):=by
      intro j
      by_cases hj:j<n0
      · obtain ⟨cs',h2,h3⟩:=hi j (by omega)
        obtain ⟨_,hcl,hat⟩:=World.cells?_some h2
        have ok:=(flat_trod (enc:=enc) (P:=P) (w:=w) (base:=base) (spare:=spare) (held:=held) arr d).1 e ks n cs' _ hl h3
        refine ⟨cs',ok,fun _ i u hu=>?_⟩
        have hil:i<cs'.length:=(List.getElem?_eq_some_iff.1 hu).1
        have h4:=hat i (by omega)
        rw [hu,lvs_cells hl] at h4
        exact h4
      · exact ⟨ks.map zv,zs_ok ks,fun h=>absurd h hj⟩
    obtain ⟨f,hf⟩:=Classical.axiomOfChoice hch
    refine ⟨f,fun j=>(hf j).1,fun β=>?_⟩
    refine rowF_congr (f:=fun j=>(f j).map A0.v) (fun j=>?_) ⟨some a,c0,rfl,hle,fun h0=>⟨a,rfl,?_,fun i hi=>?_⟩⟩
    · have:=cellsG_eq f j ks 0 (by rw [List.drop_zero];exact (hf j).1.1)
      rw [this,List.drop_zero]
    · have h5:=(hf 0).1.1
      have h6:=isKs_len h5
      have h7:=(hf 0).2 h0 0 ((f 0)[0]'(by omega)) (by simp)
      have:=World.block_lt_of_cell? w _ h7
      rw [Nat.zero_mul] at this
      exact this
    · intro q c hq
      rw [List.getElem?_map,Option.map_eq_some_iff] at hq
      obtain ⟨u,hu,rfl⟩:=hq
      exact ⟨u,(hf i).2 hi q u hu,rfl⟩
end
end Go.Proofs.YtonelbidndjhdaaW.Sx
end
section
set_option linter.unusedVariables false
set_option linter.unusedSimpArgs false
namespace Go.Proofs.Ytonelbidndjhdaa.Wh
open Go Go.RowKit Go.Proofs.YtonelbidndjhdaaW.PrintWords Go.Proofs.YtonelbidndjhdaaW.PrintMore Go.Proofs.YtonelbidndjhdaaW.Aid Go.Proofs.YtonelbidndjhdaaW.Big Go.Proofs.YtonelbidndjhdaaW.Sx Go.Proofs.Ytonelbidndjhdaa.BitsWalk Go.Proofs.Ytonelbidndjhdaa.Limbs Go.Proofs.Ytonelbidndjhdaa.Whole Go.Proofs.Ytonelbidndjhdaa.FxWalk Go.Proofs
theorem wd_bif (v:Int):(bif decide (v > -35184372088832) then decide (v<35184372088832) else false)=wd v:=by
  unfold wd
  have e:decide (v > -35184372088832)=decide (-35184372088832<v):=rfl
  rw [e]
  cases decide (-35184372088832<v)<;>rfl
def withinR (i n:Int):Int:=i%18446744073709551616%n
theorem within_bd (i:Int) {n:Int} (h:0<n):0≤withinR i n∧withinR i n<n:=⟨Int.emod_nonneg _ (by omega),Int.emod_lt_of_pos _ h⟩
theorem within_w {i n:Int} (h0:0<n) (h1:n<9223372036854775808):IntKind.i64.wrap ((IntKind.u64.wrap i).tmod (IntKind.u64.wrap n))=withinR i n:=by
  have e:IntKind.u64.wrap n=n:=u64_id (by omega) (by omega)
  rw [e,u64_wrap]
  rw [Int.tmod_eq_emod_of_nonneg (Int.emod_nonneg _ (by decide))]
  have:=within_bd i h0
  rw [i64_wrap]
  exact wrap64_id (by unfold withinR at this;omega) (by unfold withinR at this;omega)
theorem u64_nz {n:Int} (h0:0<n) (h1:n<9223372036854775808):IntKind.u64.wrap n≠0:=by rw [u64_id (by omega) (by omega)];omega
theorem no {c:Bool} (h:c=false) (hb:c=true):False:=by rw [h] at hb;exact absurd hb (by decide)
abbrev cells3 (x y z:Int):List Value:=[.int .i64 x,.int .i64 y,.int .i64 z]
theorem wrap1 {i:Int} (h0:0≤i) (h:i≤100000000000000000):IntKind.i64.wrap (i+1)=i+1:=by rw [i64_wrap];exact wrap64_id (by omega) (by omega)
theorem hC1 {v k:Int} {n:Nat} (h:(bif decide (v<(n:Int)) then decide (v<k) else false)=true):v<n∧v<k:=by
  by_cases h1:v<(n:Int)
  · rw [decide_eq_true h1] at h;exact ⟨h1,of_decide_eq_true h⟩
  · rw [decide_eq_false h1] at h;exact absurd (show false=true from h) (by decide)
section
set_option maxRecDepth 100000
set_option maxHeartbeats 4000000
abbrev eqVec:EqT Try.prog:=eqS Try.prog 24 [some .i64,some .i64,some .i64] (by kernel_rfl)
def cR1May:Con Try.prog where
  f:=26
  sem:=fun xs=>match xs with
    | [.sc (.v (.int .i64 v))]=>some (True,.tv (tB (wd v)))
    | _=>none
  ok := by
    intro xs p r' h hp
    refine ⟨⟨_,Try.func26,by kernel_rfl,rfl⟩,fun us w ha=>?_⟩
    split at h
    · rename_i v
      cases h
      refine fn_ret (cxOk Try.prog ints_ok [] []) follows Try.func26 rfl 100 _ rfl (by simp) ?_ ha
      repeat' first
        | exact trivial
        | (refine And.intro (show regChk _ _ _ _ _=true from by kernel_rfl) (And.intro ?_ ?_))
        | (refine And.intro (fun _=>?_) (fun h=>absurd (show true=false from h) (by decide)))
        | (refine And.intro (fun h=>absurd (show false=true from h) (by decide)) (fun _=>?_))
        | (refine And.intro (fun hb=>?_) (fun hb'=>?_))
        | refine And.intro ?_ ?_
        | intro _
      all_goals first
        | (show some (CR.tv (tB _))=some (CR.tv (tB _));exact tB_eq (wd_bif v))
        | (show (_:Bool)=(_:Bool);first|assumption|exact beq_iff_eq.2 (by assumption)|(exact and_tt (by first|assumption|exact beq_iff_eq.2 (by assumption)) (by first|assumption|exact beq_iff_eq.2 (by assumption))))
        | (show (_:Nat)=(_:Nat);rfl)
        | (show (_:Nat)≤1000;decide)
        | (show (_:Int)=(_:Int);rfl)
        | (show (_:Int)≤_;decide)
        | (show (_:Int)<_;decide)
        -- PVC
    · cases h
def cWithin:Con Try.prog where
  f:=12
  sem:=fun xs=>match xs with
    | [.sc (.v (.int .i64 i)),.sc (.v (.int .i64 n))]=>some (0<n∧n<9223372036854775808,.tv (tN .i64 (withinR i n)))
    | _=>none
  ok := by
    intro xs p r' h hp
    refine ⟨⟨_,Try.func12,by kernel_rfl,rfl⟩,fun us w ha=>?_⟩
    split at h
    · rename_i i n
      cases h
      refine fn_ret (cxOk Try.prog ints_ok [] []) follows Try.func12 rfl 100 _ rfl (by simp) ?_ ha
      repeat' first
        | exact trivial
        | (refine And.intro (show regChk _ _ _ _ _=true from by kernel_rfl) (And.intro ?_ ?_))
        | (refine And.intro (fun _=>?_) (fun h=>absurd (show true=false from h) (by decide)))
        | (refine And.intro (fun h=>absurd (show false=true from h) (by decide)) (fun _=>?_))
        | (refine And.intro (fun hb=>?_) (fun hb'=>?_))
        | refine And.intro ?_ ?_
      all_goals first
        | (show some (CR.tv (tN _ _))=some (CR.tv (tN _ _));exact tN_eq (within_w hp.1 hp.2))
        | (show (_:Int)≠_;exact u64_nz hp.1 hp.2)
        | (show (_:Nat)=(_:Nat);rfl)
        | (show (_:Nat)≤1000;decide)
        | (show (_:Int)=(_:Int);rfl)
        | (show (_:Int)≤_;decide)
        | (show (_:Int)<_;decide)
        -- PVC
    · cases h
def cNum19:Con Try.prog where
  f:=15
  sem:=fun xs=>match xs with
    | [.sc (.v (.int .i64 v))]=>some (True,.tv (tN .i64 v))
    | _=>none
  ok := by
    intro xs p r' h hp
    refine ⟨⟨_,Try.func15,by kernel_rfl,rfl⟩,fun us w ha=>?_⟩
    split at h
    · rename_i v
      cases h
      refine fn_ret (cxOk Try.prog ints_ok [] []) follows Try.func15 rfl 100 _ rfl (by simp) ?_ ha
      repeat' first
        | exact trivial
        | (refine And.intro (show regChk _ _ _ _ _=true from by kernel_rfl) (And.intro ?_ ?_))
        | (refine And.intro (fun _=>?_) (fun h=>absurd (show true=false from h) (by decide)))
        | (refine And.intro (fun h=>absurd (show false=true from h) (by decide)) (fun _=>?_))
        | (refine And.intro (fun hb=>?_) (fun hb'=>?_))
        | refine And.intro ?_ ?_
      all_goals first
        | (show some (CR.tv (tN _ _))=some (CR.tv (tN _ _));rfl)
        | (show (_:Nat)=(_:Nat);rfl)
        | (show (_:Nat)≤1000;decide)
        | (show (_:Int)=(_:Int);rfl)
        | (show (_:Int)≤_;decide)
        | (show (_:Int)<_;decide)
        -- PVC
    · cases h
end
end Go.Proofs.Ytonelbidndjhdaa.Wh
end
section
set_option linter.unusedVariables false
set_option linter.unusedSimpArgs false
namespace Go.Proofs.Ytonelbidndjhdaa.Wh
open Go Go.RowKit Go.Proofs.YtonelbidndjhdaaW.PrintWords Go.Proofs.YtonelbidndjhdaaW.PrintMore Go.Proofs.YtonelbidndjhdaaW.Aid Go.Proofs.YtonelbidndjhdaaW.Big Go.Proofs.YtonelbidndjhdaaW.Sx Go.Proofs.Ytonelbidndjhdaa.BitsWalk Go.Proofs.Ytonelbidndjhdaa.Limbs Go.Proofs.Ytonelbidndjhdaa.Whole Go.Proofs.Ytonelbidndjhdaa.FxWalk Go.Proofs
abbrev tmB (t:Int):Bool:=bif decide (t≥0) then decide (t≤1099511627776) else false
abbrev badW (lo hi v:Int):Bool:=bif decide (v<lo) then true else decide (v>hi)
def wiT (lo hi x y z:Int):Bool:=bif badW lo hi x then false else bif badW lo hi y then false else bif badW lo hi z then false else true
theorem wiT_0 {lo hi x y z:Int} (h0:(badW lo hi x)=true):false=wiT lo hi x y z:=by
  unfold wiT
  rw [h0]
  rfl
theorem wiT_1 {lo hi x y z:Int} (h0:(badW lo hi x)=false) (h1:(badW lo hi y)=true):false=wiT lo hi x y z:=by
  unfold wiT
  rw [h0]
  rw [h1]
  rfl
theorem wiT_2 {lo hi x y z:Int} (h0:(badW lo hi x)=false) (h1:(badW lo hi y)=false) (h2:(badW lo hi z)=true):false=wiT lo hi x y z:=by
  unfold wiT
  rw [h0]
  rw [h1]
  rw [h2]
  rfl
theorem wiT_3 {lo hi x y z:Int} (h0:(badW lo hi x)=false) (h1:(badW lo hi y)=false) (h2:(badW lo hi z)=false):true=wiT lo hi x y z:=by
  unfold wiT
  rw [h0]
  rw [h1]
  rw [h2]
  rfl
abbrev shT (x y z:Int):Bool:=wiT (-2147483648) 2147483648 x y z
abbrev c6 (o:Bool) (x y z s:Int) (a:Bool):List Value:=[.bool o,.int .i64 x,.int .i64 y,.int .i64 z,.int .i64 s,.bool a]
abbrev goodTi (o:Bool) (x y z s:Int) (a:Bool):Bool:=bif bif bif shT x y z then tmB s else false then (bif o then true else eqL (c6 o x y z s a) (c6 false 0 0 0 0 false)) else false then (bif a then true else s == 0) else false
abbrev badTi (o:Bool) (x y z s:Int) (aw:Bool) (a b c now:Int):Bool:=bif bif bif !goodTi o x y z s aw then true else !shT a b c then true else !tmB now then true else decide (now<s)
abbrev tTi (p:(Bool × Int × Int × Int × Int × Bool) × Bool × Int):TV := .tup [(true,[.v (.bool p.1.1),.v (.int .i64 p.1.2.1),.v (.int .i64 p.1.2.2.1),.v (.int .i64 p.1.2.2.2.1),.v (.int .i64 p.1.2.2.2.2.1),.v (.bool p.1.2.2.2.2.2)]),(false,[.v (.bool p.2.1)]),(false,[.v (.int .i64 p.2.2)])]
theorem ti_eq {o:Bool} {x y z s:Int} {aw t:Bool} {e:Int} {p:(Bool × Int × Int × Int × Int × Bool) × Bool × Int} (h:((o,x,y,z,s,aw),t,e)=p):(some (CR.tv (.tup [(true,[.v (.bool o),.v (.int .i64 x),.v (.int .i64 y),.v (.int .i64 z),.v (.int .i64 s),.v (.bool aw)]),(false,[.v (.bool t)]),(false,[.v (.int .i64 e)])])):Option CR)=some (CR.tv (tTi p)):=by rw [← h]
def tiltR (o:Bool) (x y z s:Int) (aw:Bool) (a b c now:Int):(Bool × Int × Int × Int × Int × Bool) × Bool × Int:=bif badTi o x y z s aw a b c now then ((false,(0:Int),(0:Int),(0:Int),(0:Int),false),false,(1:Int)) else bif !o then ((true,a,b,c,(0:Int),false),false,(0:Int)) else bif (dotR x y z a b c).2 != 0 then ((false,(0:Int),(0:Int),(0:Int),(0:Int),false),false,(dotR x y z a b c).2) else bif decide ((dotR x y z a b c).1≥879557810) then ((o,x,y,z,(0:Int),false),false,(0:Int)) else bif !aw then ((o,x,y,z,now,true),false,(0:Int)) else bif decide (IntKind.i64.wrap (now-s)≥2000) then ((true,a,b,c,(0:Int),false),true,(0:Int)) else ((o,x,y,z,s,aw),false,(0:Int))
theorem tiltR_0 {o:Bool} {x y z s:Int} {aw:Bool} {a b c now:Int} (h0:(badTi o x y z s aw a b c now)=true):((false,(0:Int),(0:Int),(0:Int),(0:Int),false),false,(1:Int))=tiltR o x y z s aw a b c now:=by
  unfold tiltR
  rw [h0]
  rfl
theorem tiltR_1 {o:Bool} {x y z s:Int} {aw:Bool} {a b c now:Int} (h0:(badTi o x y z s aw a b c now)=false) (h1:(!o)=true):((true,a,b,c,(0:Int),false),false,(0:Int))=tiltR o x y z s aw a b c now:=by
  unfold tiltR
  rw [h0]
  rw [h1]
  rfl
theorem tiltR_2 {o:Bool} {x y z s:Int} {aw:Bool} {a b c now:Int} (h0:(badTi o x y z s aw a b c now)=false) (h1:(!o)=false) (h2:((dotR x y z a b c).2 != 0)=true):((false,(0:Int),(0:Int),(0:Int),(0:Int),false),false,(dotR x y z a b c).2)=tiltR o x y z s aw a b c now:=by
  unfold tiltR
  rw [h0]
  rw [h1]
  rw [h2]
  rfl
theorem tiltR_3 {o:Bool} {x y z s:Int} {aw:Bool} {a b c now:Int} (h0:(badTi o x y z s aw a b c now)=false) (h1:(!o)=false) (h2:((dotR x y z a b c).2 != 0)=false) (h3:(decide ((dotR x y z a b c).1≥879557810))=true):((o,x,y,z,(0:Int),false),false,(0:Int))=tiltR o x y z s aw a b c now:=by
  unfold tiltR
  rw [h0]
  rw [h1]
  rw [h2]
  rw [h3]
  rfl
theorem tiltR_4 {o:Bool} {x y z s:Int} {aw:Bool} {a b c now:Int} (h0:(badTi o x y z s aw a b c now)=false) (h1:(!o)=false) (h2:((dotR x y z a b c).2 != 0)=false) (h3:(decide ((dotR x y z a b c).1≥879557810))=false) (h4:(!aw)=true):((o,x,y,z,now,true),false,(0:Int))=tiltR o x y z s aw a b c now:=by
  unfold tiltR
  rw [h0]
  rw [h1]
  rw [h2]
  rw [h3]
  rw [h4]
  rfl
theorem tiltR_5 {o:Bool} {x y z s:Int} {aw:Bool} {a b c now:Int} (h0:(badTi o x y z s aw a b c now)=false) (h1:(!o)=false) (h2:((dotR x y z a b c).2 != 0)=false) (h3:(decide ((dotR x y z a b c).1≥879557810))=false) (h4:(!aw)=false) (h5:(decide (IntKind.i64.wrap (now-s)≥2000))=true):((true,a,b,c,(0:Int),false),true,(0:Int))=tiltR o x y z s aw a b c now:=by
  unfold tiltR
  rw [h0]
  rw [h1]
  rw [h2]
  rw [h3]
  rw [h4]
  rw [h5]
  rfl
theorem tiltR_6 {o:Bool} {x y z s:Int} {aw:Bool} {a b c now:Int} (h0:(badTi o x y z s aw a b c now)=false) (h1:(!o)=false) (h2:((dotR x y z a b c).2 != 0)=false) (h3:(decide ((dotR x y z a b c).1≥879557810))=false) (h4:(!aw)=false) (h5:(decide (IntKind.i64.wrap (now-s)≥2000))=false):((o,x,y,z,s,aw),false,(0:Int))=tiltR o x y z s aw a b c now:=by
  unfold tiltR
  rw [h0]
  rw [h1]
  rw [h2]
  rw [h3]
  rw [h4]
  rw [h5]
  rfl
section
set_option maxRecDepth 100000
set_option maxHeartbeats 4000000
abbrev eqTilt:EqT Try.prog:=eqS Try.prog 26 [none,some .i64,some .i64,some .i64,some .i64,none] (by kernel_rfl)
def cTime:Con Try.prog where
  f:=37
  sem:=fun xs=>match xs with
    | [.sc (.v (.int .i64 t))]=>some (True,.tv (tB (tmB t)))
    | _=>none
  ok := by
    intro xs p r' h hp
    refine ⟨⟨_,Try.func37,by kernel_rfl,rfl⟩,fun us w ha=>?_⟩
    split at h
    · rename_i t
      cases h
      refine fn_ret (cxOk Try.prog ints_ok [] []) follows Try.func37 rfl 100 _ rfl (by simp) ?_ ha
      repeat' first
        | exact trivial
        | (refine And.intro (show regChk _ _ _ _ _=true from by kernel_rfl) (And.intro ?_ ?_))
        | (refine And.intro (fun _=>?_) (fun h=>absurd (show true=false from h) (by decide)))
        | (refine And.intro (fun h=>absurd (show false=true from h) (by decide)) (fun _=>?_))
        | (refine And.intro (fun hb=>?_) (fun hb'=>?_))
        | refine And.intro ?_ ?_
        | intro _
      all_goals first
        | (show some (CR.tv (tB _))=some (CR.tv (tB _));first|exact tB_eq rfl)
        | (show (_:Bool)=(_:Bool);first|assumption|exact beq_iff_eq.2 (by assumption)|(exact and_tt (by first|assumption|exact beq_iff_eq.2 (by assumption)) (by first|assumption|exact beq_iff_eq.2 (by assumption))))
        | (show (_:Nat)=(_:Nat);rfl)
        | (show (_:Nat)≤1000;decide)
        | (show (_:Int)=(_:Int);rfl)
        | (show (_:Int)≤_;decide)
        | (show (_:Int)<_;decide)
        -- PVC
    · cases h
def cTWithin:Con Try.prog where
  f:=64
  sem:=fun xs=>match xs with
    | [.row 3 [.v (.int .i64 x),.v (.int .i64 y),.v (.int .i64 z)],.sc (.v (.int .i64 lo)),.sc (.v (.int .i64 hi))]=>some (True,.tv (tB (wiT lo hi x y z)))
    | _=>none
  ok := by
    intro xs p r' h hp
    refine ⟨⟨_,Try.func64,by kernel_rfl,rfl⟩,fun us w ha=>?_⟩
    split at h
    · rename_i x y z lo hi
      cases h
      refine fnu_ret (cxOk Try.prog ints_ok [] []) follows [0,1,2,6,9,10,11] Try.func64 rfl 100 _ rfl (by simp) ?_ ha
      repeat' first
        | exact trivial
        | (refine And.intro (show regChk _ _ _ _ _=true from by kernel_rfl) (And.intro ?_ ?_))
        | (refine And.intro (fun _=>?_) (fun h=>absurd (show true=false from h) (by decide)))
        | (refine And.intro (fun h=>absurd (show false=true from h) (by decide)) (fun _=>?_))
        | (refine And.intro (fun hb=>?_) (fun hb'=>?_))
        | refine And.intro ?_ ?_
        | intro _
      all_goals first
        | (show some (CR.tv (tB _))=some (CR.tv (tB _));first|exact tB_eq (wiT_0 (by assumption))|exact tB_eq (wiT_1 (by assumption) (by assumption))|exact tB_eq (wiT_2 (by assumption) (by assumption) (by assumption))|exact tB_eq (wiT_3 (by assumption) (by assumption) (by assumption)))
        | (show (_:Bool)=(_:Bool);first|assumption|exact beq_iff_eq.2 (by assumption)|(exact and_tt (by first|assumption|exact beq_iff_eq.2 (by assumption)) (by first|assumption|exact beq_iff_eq.2 (by assumption))))
        | (show (_:Nat)=(_:Nat);rfl)
        | (show (_:Nat)≤1000;decide)
        | (show (_:Int)=(_:Int);rfl)
        | (show (_:Int)≤_;decide)
        | (show (_:Int)<_;decide)
        -- PVC
    · cases h
def cShort:Con Try.prog where
  f:=36
  sem:=fun xs=>match xs with
    | [.agg [.v (.int .i64 x),.v (.int .i64 y),.v (.int .i64 z)]]=>some (True,.tv (tB (shT x y z)))
    | _=>none
  ok := by
    intro xs p r' h hp
    refine ⟨⟨_,Try.func36,by kernel_rfl,rfl⟩,fun us w ha=>?_⟩
    split at h
    · rename_i x y z
      cases h
      refine fn_ret (cxOk Try.prog ints_ok [] [cVOf,cTWithin]) follows Try.func36 rfl 100 _ rfl (by simp) ?_ ha
      repeat' first
        | exact trivial
        | (refine And.intro (show regChk _ _ _ _ _=true from by kernel_rfl) (And.intro ?_ ?_))
        | (refine And.intro (fun _=>?_) (fun h=>absurd (show true=false from h) (by decide)))
        | (refine And.intro (fun h=>absurd (show false=true from h) (by decide)) (fun _=>?_))
        | (refine And.intro (fun hb=>?_) (fun hb'=>?_))
        | refine And.intro ?_ ?_
      all_goals first
        | (show some (CR.tv (tB _))=some (CR.tv (tB _));first|exact tB_eq rfl)
        | (show (_:Nat)=(_:Nat);rfl)
        | (show (_:Nat)≤1000;decide)
        | (show (_:Int)=(_:Int);rfl)
        | (show (_:Int)≤_;decide)
        | (show (_:Int)<_;decide)
        -- PVC
    · cases h
def cTiGood:Con Try.prog where
  f:=35
  sem:=fun xs=>match xs with
    | [.agg [.v (.bool o),.v (.int .i64 x),.v (.int .i64 y),.v (.int .i64 z),.v (.int .i64 s),.v (.bool aw)]]=>some (True,.tv (tB (goodTi o x y z s aw)))
    | _=>none
  ok := by
    intro xs p r' h hp
    refine ⟨⟨_,Try.func35,by kernel_rfl,rfl⟩,fun us w ha=>?_⟩
    split at h
    · rename_i o x y z s aw
      cases h
      refine fn_ret (cxOk Try.prog ints_ok [eqTilt] [cShort,cTime]) follows Try.func35 rfl 100 _ rfl (by simp) ?_ ha
      repeat' first
        | exact trivial
        | (refine And.intro (show regChk _ _ _ _ _=true from by kernel_rfl) (And.intro ?_ ?_))
        | (refine And.intro (fun _=>?_) (fun h=>absurd (show true=false from h) (by decide)))
        | (refine And.intro (fun h=>absurd (show false=true from h) (by decide)) (fun _=>?_))
        | (refine And.intro (fun hb=>?_) (fun hb'=>?_))
        | refine And.intro ?_ ?_
        | intro _
      all_goals first
        | (show some (CR.tv (tB _))=some (CR.tv (tB _));first|exact tB_eq rfl)
        | (show (_:Bool)=(_:Bool);first|assumption|exact beq_iff_eq.2 (by assumption)|(exact and_tt (by first|assumption|exact beq_iff_eq.2 (by assumption)) (by first|assumption|exact beq_iff_eq.2 (by assumption))))
        | (show (_:Nat)=(_:Nat);rfl)
        | (show (_:Nat)≤1000;decide)
        | (show (_:Int)=(_:Int);rfl)
        | (show (_:Int)≤_;decide)
        | (show (_:Int)<_;decide)
        -- PVC
    · cases h
def cTilt:Con Try.prog where
  f:=14
  sem:=fun xs=>match xs with
    | [.agg [.v (.bool o),.v (.int .i64 x),.v (.int .i64 y),.v (.int .i64 z),.v (.int .i64 s),.v (.bool aw)],.agg [.v (.int .i64 a),.v (.int .i64 b),.v (.int .i64 c)],.sc (.v (.int .i64 now))]=>some (True,.tv (tTi (tiltR o x y z s aw a b c now)))
    | _=>none
  ok := by
    intro xs p r' h hp
    refine ⟨⟨_,Try.func14,by kernel_rfl,rfl⟩,fun us w ha=>?_⟩
    split at h
    · rename_i o x y z s aw a b c now
      cases h
      refine fn_ret (cxOk Try.prog ints_ok [] [cTiGood,cShort,cTime,cDot]) follows Try.func14 rfl 100 _ rfl (by simp) ?_ ha
      repeat' first
        | exact trivial
        | (refine And.intro (show regChk _ _ _ _ _=true from by kernel_rfl) (And.intro ?_ ?_))
        | (refine And.intro (fun _=>?_) (fun h=>absurd (show true=false from h) (by decide)))
        | (refine And.intro (fun h=>absurd (show false=true from h) (by decide)) (fun _=>?_))
        | (refine And.intro (fun hb=>?_) (fun hb'=>?_))
        | refine And.intro ?_ ?_
        | intro _
      all_goals first
        | (show some (CR.tv (.tup _))=some (CR.tv (tTi _));first|exact ti_eq (tiltR_0 (by assumption))|exact ti_eq (tiltR_1 (by assumption) (by assumption))|exact ti_eq (tiltR_2 (by assumption) (by assumption) (by assumption))|exact ti_eq (tiltR_3 (by assumption) (by assumption) (by assumption) (by assumption))|exact ti_eq (tiltR_4 (by assumption) (by assumption) (by assumption) (by assumption) (by assumption))|exact ti_eq (tiltR_5 (by assumption) (by assumption) (by assumption) (by assumption) (by assumption) (by assumption))|exact ti_eq (tiltR_6 (by assumption) (by assumption) (by assumption) (by assumption) (by assumption) (by assumption)))
        | (show (_:Bool)=(_:Bool);first|assumption|exact beq_iff_eq.2 (by assumption)|(exact and_tt (by first|assumption|exact beq_iff_eq.2 (by assumption)) (by first|assumption|exact beq_iff_eq.2 (by assumption))))
        | (show (_:Nat)=(_:Nat);rfl)
        | (show (_:Nat)≤1000;decide)
        | (show (_:Int)=(_:Int);rfl)
        | (show (_:Int)≤_;decide)
        | (show (_:Int)<_;decide)
        -- PVC
    · cases h
def cWakes19:Con Try.prog where
  f:=16
  sem:=fun xs=>match xs with
    | []=>some (True,.tv (tB true))
    | _=>none
  ok := by
    intro xs p r' h hp
    refine ⟨⟨_,Try.func16,by kernel_rfl,rfl⟩,fun us w ha=>?_⟩
    split at h
    · skip
      cases h
      refine fn_ret (cxOk Try.prog ints_ok [eqTilt] [cTilt,cNum19]) follows Try.func16 rfl 100 _ rfl (by simp) ?_ ha
      repeat' first
        | exact trivial
        | (refine And.intro (show regChk _ _ _ _ _=true from by kernel_rfl) (And.intro ?_ ?_))
        | (refine And.intro (fun _=>?_) (fun h=>absurd (show true=false from h) (by decide)))
        | (refine And.intro (fun h=>absurd (show false=true from h) (by decide)) (fun _=>?_))
        | (refine And.intro (fun hb=>?_) (fun hb'=>?_))
        | refine And.intro ?_ ?_
        | intro _
      all_goals first
        | (show some (CR.tv (tB _))=some (CR.tv (tB _));exact tB_eq (by decide +kernel))
        | (show (_:Bool)=(_:Bool);first|assumption|exact beq_iff_eq.2 (by assumption)|(exact and_tt (by first|assumption|exact beq_iff_eq.2 (by assumption)) (by first|assumption|exact beq_iff_eq.2 (by assumption))))
        | (show (_:Nat)=(_:Nat);rfl)
        | (show (_:Nat)≤1000;decide)
        | (show (_:Int)=(_:Int);rfl)
        | (show (_:Int)≤_;decide)
        | (show (_:Int)<_;decide)
        -- PVC
    · cases h
end
end Go.Proofs.Ytonelbidndjhdaa.Wh
end
section
set_option linter.unusedVariables false
set_option linter.unusedSimpArgs false
namespace Go.Proofs.Ytonelbidndjhdaa.Wh
open Go Go.RowKit Go.Proofs.YtonelbidndjhdaaW.PrintWords Go.Proofs.YtonelbidndjhdaaW.PrintMore Go.Proofs.YtonelbidndjhdaaW.Aid Go.Proofs.YtonelbidndjhdaaW.Big Go.Proofs.YtonelbidndjhdaaW.Sx Go.Proofs.Ytonelbidndjhdaa.BitsWalk Go.Proofs.Ytonelbidndjhdaa.Limbs Go.Proofs.Ytonelbidndjhdaa.Whole Go.Proofs.Ytonelbidndjhdaa.FxWalk Go.Proofs
theorem tmB_ok {t:Int} (h:0≤t∧t≤1099511627776):tmB t=true:=by
  unfold tmB;rw [decide_eq_true (show t≥0 by omega),decide_eq_true h.2];rfl
theorem badTi_f {o:Bool} {x y z s:Int} {aw:Bool} {a b c now:Int} (h:shT x y z=true) (hs:0≤s∧s≤now) (hn:now≤1099511627776) (ho:o=true∨(x=0∧y=0∧z=0∧s=0∧aw=false)) (ha:aw=true∨s=0) (hv:shT a b c=true):badTi o x y z s aw a b c now=false:=by
  have g:goodTi o x y z s aw=true:=by
    unfold goodTi
    rw [h,tmB_ok (t:=s) (by omega)]
    rcases ho with rfl|⟨rfl,rfl,rfl,rfl,rfl⟩
    · rcases ha with rfl|rfl
      · rfl
      · cases aw<;>rfl
    · cases o<;>rfl
  unfold badTi
  rw [g,hv,tmB_ok (t:=now) (by omega),decide_eq_false (show ¬ now<s by omega)];rfl
section
set_option maxRecDepth 100000
set_option maxHeartbeats 8000000
end
end Go.Proofs.Ytonelbidndjhdaa.Wh
end
section
set_option linter.unusedVariables false
set_option linter.unusedSimpArgs false
namespace Go.Proofs.Ytonelbidndjhdaa.Wh
open Go Go.RowKit Go.Proofs.YtonelbidndjhdaaW.PrintWords Go.Proofs.YtonelbidndjhdaaW.PrintMore Go.Proofs.YtonelbidndjhdaaW.Aid Go.Proofs.YtonelbidndjhdaaW.Big Go.Proofs.YtonelbidndjhdaaW.Sx Go.Proofs.Ytonelbidndjhdaa.BitsWalk Go.Proofs.Ytonelbidndjhdaa.Limbs Go.Proofs.Ytonelbidndjhdaa.Whole Go.Proofs.Ytonelbidndjhdaa.FxWalk Go.Proofs
structure S19b where
  i:Int
  now:Int
  since:Int
  ax:Int
  ay:Int
  az:Int
  bx:Int
  byy:Int
  bz:Int
  o:Bool
  x:Int
  y:Int
  z:Int
  s:Int
  aw:Bool
def isZ (x y z:Int):Prop:=x=0∧y=0∧z=1073741824
def isY (x y z:Int):Prop:=x=0∧y=1073741824∧z=0
def I19b (N:Nat) (v:S19b):Prop:=(0≤v.i∧v.i≤(N:Int))∧(0≤v.now∧v.now≤900*v.i)∧((isZ v.ax v.ay v.az∧isY v.bx v.byy v.bz)∨(isY v.ax v.ay v.az∧isZ v.bx v.byy v.bz))∧(v.o=true∧v.x=v.ax∧v.y=v.ay∧v.z=v.az)∧((v.since = -1∧v.aw=false∧v.s=0)∨(0≤v.since∧v.since≤v.now∧v.aw=true∧v.s=v.since))
abbrev C19b (N:Nat) (v:S19b):Bool:=bif decide (v.i<(N:Int)) then decide (v.i<80) else false
theorem i19b {N:Nat} {v:S19b} (h:0≤v.i∧v.i≤(N:Int)) (hC:C19b N v=true):(0≤IntKind.i64.wrap (v.i+1)∧IntKind.i64.wrap (v.i+1)≤(N:Int))∧((N:Int)-IntKind.i64.wrap (v.i+1)).toNat<((N:Int)-v.i).toNat∧IntKind.i64.wrap (v.i+1)=v.i+1∧v.i<80:=by
  have h1:=hC1 hC
  rw [wrap1 h.1 (by omega)]
  omega
abbrev w19b (v:S19b) (m:Int):Int:=IntKind.i64.wrap (v.now+withinR m 900)
theorem now19b {N:Nat} {v:S19b} (hI:I19b N v) (hC:C19b N v=true) (m:Int):(v.now≤w19b v m∧w19b v m≤900*(v.i+1))∧0≤w19b v m∧w19b v m≤1099511627776:=by
  have h1:=i19b hI.1 hC
  have h2:=hI.2.1
  have h3:=within_bd m (n:=900) (by decide)
  have e:w19b v m=v.now+withinR m 900:=by unfold w19b;rw [i64_wrap];exact wrap64_id (by omega) (by omega)
  rw [e];omega
theorem dotZZ:dotR 0 0 1073741824 0 0 1073741824=(1073741824,0):=by decide +kernel
theorem dotYY:dotR 0 1073741824 0 0 1073741824 0=(1073741824,0):=by decide +kernel
theorem dotZY:dotR 0 0 1073741824 0 1073741824 0=(0,0):=by decide +kernel
theorem dotYZ:dotR 0 1073741824 0 0 0 1073741824=(0,0):=by decide +kernel
theorem dots {N:Nat} {v:S19b} (hI:I19b N v):dotR v.x v.y v.z v.ax v.ay v.az=(1073741824,0)∧dotR v.x v.y v.z v.bx v.byy v.bz=(0,0)∧shT v.x v.y v.z=true∧shT v.ax v.ay v.az=true∧shT v.bx v.byy v.bz=true:=by
  obtain ⟨_,_,h3,⟨_,h5,h6,h7⟩,_⟩:=hI
  rw [h5,h6,h7]
  rcases h3 with ⟨⟨a,b,c⟩,d,e,f⟩|⟨⟨a,b,c⟩,d,e,f⟩
  · rw [a,b,c,d,e,f];exact ⟨dotZZ,dotZY,by decide,by decide,by decide⟩
  · rw [a,b,c,d,e,f];exact ⟨dotYY,dotYZ,by decide,by decide,by decide⟩
theorem bad19b {N:Nat} {v:S19b} (hI:I19b N v) (hC:C19b N v=true) (m:Int) {a b c:Int} (hv:shT a b c=true):badTi v.o v.x v.y v.z v.s v.aw a b c (w19b v m)=false:=by
  have hn:=now19b hI hC m
  have hd:=dots hI
  obtain ⟨h1,h2,h3,h4,h5⟩:=hI
  refine badTi_f hd.2.2.1 ?_ hn.2.2 (Or.inl h4.1) ?_ hv
  · rcases h5 with h|h<;>omega
  · rcases h5 with h|h
    · exact Or.inr h.2.2
    · exact Or.inl h.2.2.1
theorem ansA {N:Nat} {v:S19b} (hI:I19b N v) (hC:C19b N v=true) (m:Int):(tiltR v.o v.x v.y v.z v.s v.aw v.ax v.ay v.az (w19b v m))=((true,v.ax,v.ay,v.az,0,false),false,0):=by
  have hd:=dots hI
  have e:=(tiltR_3 (bad19b hI hC m hd.2.2.2.1) (by rw [hI.2.2.2.1.1];rfl) (by rw [hd.1];rfl) (by rw [hd.1];rfl)).symm
  rw [e,hI.2.2.2.1.1,hI.2.2.2.1.2.1,hI.2.2.2.1.2.2.1,hI.2.2.2.1.2.2.2]
theorem ansB {N:Nat} {v:S19b} (hI:I19b N v) (hC:C19b N v=true) (m:Int) (hs:v.since<0):(tiltR v.o v.x v.y v.z v.s v.aw v.bx v.byy v.bz (w19b v m))=((true,v.ax,v.ay,v.az,w19b v m,true),false,0):=by
  have hd:=dots hI
  have ha:v.aw=false:=by rcases hI.2.2.2.2 with h|h;exact h.2.1;omega
  have e:=(tiltR_4 (bad19b hI hC m hd.2.2.2.2) (by rw [hI.2.2.2.1.1];rfl) (by rw [hd.2.1];rfl) (by rw [hd.2.1];rfl) (by rw [ha];rfl)).symm
  rw [e,hI.2.2.2.1.1,hI.2.2.2.1.2.1,hI.2.2.2.1.2.2.1,hI.2.2.2.1.2.2.2]
theorem sub19b {N:Nat} {v:S19b} (hI:I19b N v) (hC:C19b N v=true) (m:Int) (hs:¬ v.since<0):v.aw=true∧v.s=v.since∧IntKind.i64.wrap (w19b v m-v.since)=w19b v m-v.since:=by
  have hn:=now19b hI hC m
  rcases hI.2.2.2.2 with h|h
  · omega
  · exact ⟨h.2.2.1,h.2.2.2,by rw [i64_wrap];exact wrap64_id (by omega) (by omega)⟩
theorem ansC {N:Nat} {v:S19b} (hI:I19b N v) (hC:C19b N v=true) (m:Int) (hs:¬ v.since<0) (hl:IntKind.i64.wrap (w19b v m-v.since)≥2000):(tiltR v.o v.x v.y v.z v.s v.aw v.bx v.byy v.bz (w19b v m))=((true,v.bx,v.byy,v.bz,0,false),true,0):=by
  have hd:=dots hI
  have h1:=sub19b hI hC m hs
  exact (tiltR_5 (bad19b hI hC m hd.2.2.2.2) (by rw [hI.2.2.2.1.1];rfl) (by rw [hd.2.1];rfl) (by rw [hd.2.1];rfl) (by rw [h1.1];rfl) (decide_eq_true (by rw [h1.2.1];exact hl))).symm
theorem ansD {N:Nat} {v:S19b} (hI:I19b N v) (hC:C19b N v=true) (m:Int) (hs:¬ v.since<0) (hl:¬ IntKind.i64.wrap (w19b v m-v.since)≥2000):(tiltR v.o v.x v.y v.z v.s v.aw v.bx v.byy v.bz (w19b v m))=((true,v.ax,v.ay,v.az,v.s,true),false,0):=by
  have hd:=dots hI
  have h1:=sub19b hI hC m hs
  have e:=(tiltR_6 (bad19b hI hC m hd.2.2.2.2) (by rw [hI.2.2.2.1.1];rfl) (by rw [hd.2.1];rfl) (by rw [hd.2.1];rfl) (by rw [h1.1];rfl) (decide_eq_false (by rw [h1.2.1];exact hl))).symm
  rw [e,hI.2.2.2.1.1,hI.2.2.2.1.2.1,hI.2.2.2.1.2.2.1,hI.2.2.2.1.2.2.2,h1.1]
abbrev far19 (u:Int):Bool:=decide (withinR u 3>0)
abbrev want19 (far:Bool) (now since:Int):Bool:=bif (bif far then decide (since≥0) else false) then decide (IntKind.i64.wrap (now-since)≥2000) else false
theorem tw1 {N:Nat} {v:S19b} (hI:I19b N v) (hC:C19b N v=true) (m:Int) {u:Int} (hf:far19 u=false):(bif (tiltR v.o v.x v.y v.z v.s v.aw v.ax v.ay v.az (w19b v m)).2.2 != 0 then true else !((tiltR v.o v.x v.y v.z v.s v.aw v.ax v.ay v.az (w19b v m)).2.1 == want19 (far19 u) (w19b v m) v.since))=false:=by
  rw [ansA hI hC m,hf];rfl
theorem tw2 {N:Nat} {v:S19b} (hI:I19b N v) (hC:C19b N v=true) (m:Int) {u:Int} (hf:far19 u=true):(bif (tiltR v.o v.x v.y v.z v.s v.aw v.bx v.byy v.bz (w19b v m)).2.2 != 0 then true else !((tiltR v.o v.x v.y v.z v.s v.aw v.bx v.byy v.bz (w19b v m)).2.1 == want19 (far19 u) (w19b v m) v.since))=false:=by
  rw [hf]
  by_cases hs:v.since<0
  · rw [ansB hI hC m hs];unfold want19;rw [decide_eq_false (show ¬ v.since≥0 by omega)];rfl
  · by_cases hl:IntKind.i64.wrap (w19b v m-v.since)≥2000
    · rw [ansC hI hC m hs hl];unfold want19;rw [decide_eq_true (show v.since≥0 by omega),decide_eq_true hl];rfl
    · rw [ansD hI hC m hs hl];unfold want19;rw [decide_eq_true (show v.since≥0 by omega),decide_eq_false hl];rfl
theorem noA {N:Nat} {v:S19b} (hI:I19b N v) (hC:C19b N v=true) (m:Int) (ht:(tiltR v.o v.x v.y v.z v.s v.aw v.ax v.ay v.az (w19b v m)).2.1=true):False:=by rw [ansA hI hC m] at ht;cases ht
theorem toldB {N:Nat} {v:S19b} (hI:I19b N v) (hC:C19b N v=true) (m:Int) (ht:(tiltR v.o v.x v.y v.z v.s v.aw v.bx v.byy v.bz (w19b v m)).2.1=true):(tiltR v.o v.x v.y v.z v.s v.aw v.bx v.byy v.bz (w19b v m))=((true,v.bx,v.byy,v.bz,0,false),true,0):=by
  by_cases hs:v.since<0
  · rw [ansB hI hC m hs] at ht;cases ht
  · by_cases hl:IntKind.i64.wrap (w19b v m-v.since)≥2000
    · exact ansC hI hC m hs hl
    · rw [ansD hI hC m hs hl] at ht;cases ht
theorem tw3 {N:Nat} {v:S19b} (hI:I19b N v) (hC:C19b N v=true) (m:Int) (ht:(tiltR v.o v.x v.y v.z v.s v.aw v.bx v.byy v.bz (w19b v m)).2.1=true):(!eqL (cells3 (tiltR v.o v.x v.y v.z v.s v.aw v.bx v.byy v.bz (w19b v m)).1.2.1 (tiltR v.o v.x v.y v.z v.s v.aw v.bx v.byy v.bz (w19b v m)).1.2.2.1 (tiltR v.o v.x v.y v.z v.s v.aw v.bx v.byy v.bz (w19b v m)).1.2.2.2.1) (cells3 v.bx v.byy v.bz))=false:=by
  rw [toldB hI hC m ht];simp [eqL,eqV]
abbrev nx19 (v:S19b) (m since ax ay az bx byy bz:Int) (p:(Bool × Int × Int × Int × Int × Bool) × Bool × Int):S19b:=⟨IntKind.i64.wrap (v.i+1),w19b v m,since,ax,ay,az,bx,byy,bz,p.1.1,p.1.2.1,p.1.2.2.1,p.1.2.2.2.1,p.1.2.2.2.2.1,p.1.2.2.2.2.2⟩
theorem goA {N:Nat} {v:S19b} (hI:I19b N v) (hC:C19b N v=true) (m:Int) {u:Int} (hf:far19 u=false):I19b N (nx19 v m (-1) v.ax v.ay v.az v.bx v.byy v.bz (tiltR v.o v.x v.y v.z v.s v.aw v.ax v.ay v.az (w19b v m))):=by
  have hn:=now19b hI hC m
  have h1:=i19b hI.1 hC
  rw [ansA hI hC m]
  exact ⟨h1.1,⟨hn.2.1,by dsimp only;rw [h1.2.2.1];exact hn.1.2⟩,hI.2.2.1,⟨rfl,rfl,rfl,rfl⟩,Or.inl ⟨rfl,rfl,rfl⟩⟩
theorem goB {N:Nat} {v:S19b} (hI:I19b N v) (hC:C19b N v=true) (m:Int) {u:Int} (hf:far19 u=true) (hs:decide (v.since<0)=true):I19b N (nx19 v m (w19b v m) v.ax v.ay v.az v.bx v.byy v.bz (tiltR v.o v.x v.y v.z v.s v.aw v.bx v.byy v.bz (w19b v m))):=by
  have hn:=now19b hI hC m
  have h1:=i19b hI.1 hC
  rw [ansB hI hC m (of_decide_eq_true hs)]
  exact ⟨h1.1,⟨hn.2.1,by dsimp only;rw [h1.2.2.1];exact hn.1.2⟩,hI.2.2.1,⟨rfl,rfl,rfl,rfl⟩,Or.inr ⟨hn.2.1,Int.le_refl _,rfl,rfl⟩⟩
theorem goC {N:Nat} {v:S19b} (hI:I19b N v) (hC:C19b N v=true) (m:Int) {u:Int} (hf:far19 u=true) (ht:(tiltR v.o v.x v.y v.z v.s v.aw v.bx v.byy v.bz (w19b v m)).2.1=true):I19b N (nx19 v m (-1) v.bx v.byy v.bz v.ax v.ay v.az (tiltR v.o v.x v.y v.z v.s v.aw v.bx v.byy v.bz (w19b v m))):=by
  have hn:=now19b hI hC m
  have h1:=i19b hI.1 hC
  rw [toldB hI hC m ht]
  exact ⟨h1.1,⟨hn.2.1,by dsimp only;rw [h1.2.2.1];exact hn.1.2⟩,hI.2.2.1.elim (fun h=>Or.inr ⟨h.2,h.1⟩) (fun h=>Or.inl ⟨h.2,h.1⟩),⟨rfl,rfl,rfl,rfl⟩,Or.inl ⟨rfl,rfl,rfl⟩⟩
theorem goD {N:Nat} {v:S19b} (hI:I19b N v) (hC:C19b N v=true) (m:Int) {u:Int} (hf:far19 u=true) (ht:(tiltR v.o v.x v.y v.z v.s v.aw v.bx v.byy v.bz (w19b v m)).2.1=false) (hs:decide (v.since<0)=false):I19b N (nx19 v m v.since v.ax v.ay v.az v.bx v.byy v.bz (tiltR v.o v.x v.y v.z v.s v.aw v.bx v.byy v.bz (w19b v m))):=by
  have hn:=now19b hI hC m
  have h1:=i19b hI.1 hC
  have hs:=of_decide_eq_false hs
  have h2:=sub19b hI hC m hs
  have hl:¬ IntKind.i64.wrap (w19b v m-v.since)≥2000:=fun hl=>by rw [ansC hI hC m hs hl] at ht;cases ht
  have h5:=hI.2.2.2.2
  rw [ansD hI hC m hs hl]
  refine ⟨h1.1,⟨hn.2.1,by dsimp only;rw [h1.2.2.1];exact hn.1.2⟩,hI.2.2.1,⟨rfl,rfl,rfl,rfl⟩,Or.inr ⟨?_,?_,rfl,h2.2.1⟩⟩
  · dsimp only;omega
  · dsimp only;rcases h5 with h|h<;>omega
theorem in19b (N:Nat):I19b N ⟨0,0,-1,0,0,1073741824,0,1073741824,0,(tiltR false 0 0 0 0 false 0 0 1073741824 0).1.1,(tiltR false 0 0 0 0 false 0 0 1073741824 0).1.2.1,(tiltR false 0 0 0 0 false 0 0 1073741824 0).1.2.2.1,(tiltR false 0 0 0 0 false 0 0 1073741824 0).1.2.2.2.1,(tiltR false 0 0 0 0 false 0 0 1073741824 0).1.2.2.2.2.1,(tiltR false 0 0 0 0 false 0 0 1073741824 0).1.2.2.2.2.2⟩:=by
  have e:tiltR false 0 0 0 0 false 0 0 1073741824 0=((true,0,0,1073741824,0,false),false,0):=by decide +kernel
  rw [e]
  exact ⟨⟨Int.le_refl _,Int.natCast_nonneg _⟩,⟨Int.le_refl _,by decide⟩,Or.inl ⟨⟨rfl,rfl,rfl⟩,rfl,rfl,rfl⟩,⟨rfl,rfl,rfl,rfl⟩,Or.inl ⟨rfl,rfl,rfl⟩⟩
theorem con1 {b:Bool} (h:b=false) (h':(!b)=false):False:=by rw [h] at h';cases h'
theorem con2 {b:Bool} (h:b=true) (h':(!b)=true):False:=by rw [h] at h';cases h'
section
set_option maxRecDepth 100000
set_option maxHeartbeats 8000000
abbrev row_tiltAway (tb ta:Nat→Bool) (tx ty tz ts ux uy uz nw:Nat→Int):Nat→List A0:=fun j=>[.v (.bool (tb j)),.v (.int .i64 (tx j)),.v (.int .i64 (ty j)),.v (.int .i64 (tz j)),.v (.int .i64 (ts j)),.v (.bool (ta j)),.v (.int .i64 (ux j)),.v (.int .i64 (uy j)),.v (.int .i64 (uz j)),.v (.int .i64 (nw j))]
def st_tiltAway (n:Nat) (tb ta:Nat→Bool) (tx ty tz ts ux uy uz nw:Nat→Int):LI S19b where
  gs:=fun v=>[(0,.rowF n 10 (row_tiltAway tb ta tx ty tz ts ux uy uz nw)),(2,tB false),(3,.ptr 3 0),(4,.ptr 4 0),(5,.ptr 5 0),(8,tN .i64 v.now),(9,tN .i64 v.since),(10,tN .i64 v.i)]
  bs:=fun v=>[(3,24,[.v (.int .i64 v.ax),.v (.int .i64 v.ay),.v (.int .i64 v.az)]),(4,24,[.v (.int .i64 v.bx),.v (.int .i64 v.byy),.v (.int .i64 v.bz)]),(5,26,[.v (.bool v.o),.v (.int .i64 v.x),.v (.int .i64 v.y),.v (.int .i64 v.z),.v (.int .i64 v.s),.v (.bool v.aw)])]
  I:=fun v=>I19b n v
  μ:=fun v=>((n:Int)-v.i).toNat
theorem tiltAway_law (n:Nat) (tb ta:Nat→Bool) (tx ty tz ts ux uy uz nw:Nat→Int) {us:List Value} {w:World} (hargs:All2 (TV.reads (fun _=>0) w.heap.size w) [.rowF n 10 (row_tiltAway tb ta tx ty tz ts ux uy uz nw)] us):Ret Try.prog 5 us.toArray w (.tv (tB true)):=by
  refine fnl_ret (st_tiltAway n tb ta tx ty tz ts ux uy uz nw) (cxOk Try.prog ints_ok [eqVec] [cWithin,cTilt,cNum19,cWakes19]) follows Try.func5 rfl 300 _ rfl (by simp) ?_ hargs
  repeat' first
    | exact trivial
    | (refine And.intro (show regChk _ _ _ _ _=true from by kernel_rfl) (And.intro ?_ ?_))
    | (refine And.intro (fun _=>?_) (fun h=>absurd (show true=false from h) (by decide)))
    | (refine And.intro (fun h=>absurd (show false=true from h) (by decide)) (fun _=>?_))
    | (have:=hC;refine And.intro (fun hb=>?_) (fun hb'=>?_))
    | (have:=hv;refine And.intro (fun hC=>?_) (fun hC=>?_))
    | refine And.intro (fun hZ=>?_) (fun hZ=>?_)
    | refine And.intro ?_ ?_
    | (intro v hv)
    | intro _
  all_goals first
    | (show wfB _ _=true;rfl)
    | (show (_:Bool)=true;first|assumption|exact beq_iff_eq.2 (by assumption)|(exact and_tt (by first|assumption|exact beq_iff_eq.2 (by assumption)) (by first|assumption|exact beq_iff_eq.2 (by assumption))))
    | (show some (CR.tv (tB true))=some (CR.tv (tB true));rfl)
    | (show (0:Int)≤v.i;exact hv.1.1)
    | (show v.i<(n:Int);exact (hC1 hC).1)
    | (show (0:Int)≤_;decide)
    | (show (_:Int)<_;decide)
    | (exact ⟨_,in19b n,⟨rfl,rfl,rfl,rfl,rfl,rfl,rfl,rfl,trivial⟩,⟨rfl,⟨rfl,rfl,rfl,trivial⟩,rfl,⟨rfl,rfl,rfl,trivial⟩,rfl,⟨rfl,rfl,rfl,rfl,rfl,rfl,trivial⟩,trivial⟩⟩)
    | (refine ⟨_,?_,goA hv hC (nw v.i.toNat) (u:=ux v.i.toNat) (by assumption),⟨rfl,rfl,rfl,rfl,rfl,rfl,rfl,rfl,trivial⟩,⟨rfl,⟨rfl,rfl,rfl,trivial⟩,rfl,⟨rfl,rfl,rfl,trivial⟩,rfl,⟨rfl,rfl,rfl,rfl,rfl,rfl,trivial⟩,trivial⟩⟩;exact (i19b hv.1 hC).2.1)
    | (refine ⟨_,?_,goC hv hC (nw v.i.toNat) (u:=ux v.i.toNat) (by assumption) (by assumption),⟨rfl,rfl,rfl,rfl,rfl,rfl,rfl,rfl,trivial⟩,⟨rfl,⟨rfl,rfl,rfl,trivial⟩,rfl,⟨rfl,rfl,rfl,trivial⟩,rfl,⟨rfl,rfl,rfl,rfl,rfl,rfl,trivial⟩,trivial⟩⟩;exact (i19b hv.1 hC).2.1)
    | (refine ⟨_,?_,goB hv hC (nw v.i.toNat) (u:=ux v.i.toNat) (by assumption) (by assumption),⟨rfl,rfl,rfl,rfl,rfl,rfl,rfl,rfl,trivial⟩,⟨rfl,⟨rfl,rfl,rfl,trivial⟩,rfl,⟨rfl,rfl,rfl,trivial⟩,rfl,⟨rfl,rfl,rfl,rfl,rfl,rfl,trivial⟩,trivial⟩⟩;exact (i19b hv.1 hC).2.1)
    | (refine ⟨_,?_,goD hv hC (nw v.i.toNat) (u:=ux v.i.toNat) (by assumption) (by assumption) (by assumption),⟨rfl,rfl,rfl,rfl,rfl,rfl,rfl,rfl,trivial⟩,⟨rfl,⟨rfl,rfl,rfl,trivial⟩,rfl,⟨rfl,rfl,rfl,trivial⟩,rfl,⟨rfl,rfl,rfl,rfl,rfl,rfl,trivial⟩,trivial⟩⟩;exact (i19b hv.1 hC).2.1)
    | (show some (CR.tv (tB false))=some (CR.tv (tB true));exfalso;first|exact no (tw1 hv hC (nw v.i.toNat) (u:=ux v.i.toNat) (by assumption)) (by assumption)|exact no (tw2 hv hC (nw v.i.toNat) (u:=ux v.i.toNat) (by assumption)) (by assumption)|exact no (tw3 hv hC (nw v.i.toNat) (by assumption)) (by assumption)|exact noA hv hC (nw v.i.toNat) (by assumption)|exact no e0 (by assumption))
    | (exfalso;first|exact con1 (b:=far19 (ux v.i.toNat)) (by assumption) (by assumption)|exact con2 (b:=far19 (ux v.i.toNat)) (by assumption) (by assumption)|exact noA hv hC (nw v.i.toNat) (by assumption))
    -- PVC
abbrev ks_tiltAway:List (Option IntKind):=[none,some .i64,some .i64,some .i64,some .i64,none,some .i64,some .i64,some .i64,some .i64]
theorem tiltAway_row (n:Nat) (f:Nat→List Value) (hf:∀ j,okV ks_tiltAway (f j)) {us:List Value} {w:World} (hargs:All2 (TV.reads (fun _=>0) w.heap.size w) [.rowF n 10 (fun j=>cellsG f j 0 ks_tiltAway)] us):Ret Try.prog 5 us.toArray w (.tv (tB true)) :=
  tiltAway_law n (gB f 0) (gB f 5) (gI f 1) (gI f 2) (gI f 3) (gI f 4) (gI f 6) (gI f 7) (gI f 8) (gI f 9) hargs
end
end Go.Proofs.Ytonelbidndjhdaa.Wh
end
section
namespace Go.Proofs.Ytonelbidndjhdaa.tiltAway
open Go.ChangeShapes Go.WideShapes Go.ChangeAt Go.RowKit Go.Proofs.YtonelbidndjhdaaW.PrintWords Go.Proofs.YtonelbidndjhdaaW.Sx Go.Proofs.Ytonelbidndjhdaa.Wh
set_option linter.unusedVariables false
theorem own:ownKnob Try.prog.godebug=none:=by kernel_rfl
theorem laidOut:laidOutB Try.prog=true:=by kernel_rfl
theorem cells:lvs Try.prog true 30 29=some [none,some .i64,some .i64,some .i64,some .i64,none,some .i64,some .i64,some .i64,some .i64]:=by kernel_rfl
set_option maxRecDepth 100000 in
theorem lifted (os:Os) (started:os.Started) (H:Type) (enc:TypeId × Value→H) :
    ReturnsInHanded {} Try.checked os 5 .any (Rows.tiltAwaySpec.pre6 enc Try.prog Try.f5 Rows.tiltAwayRow.domain false) (Rows.tiltAwaySpec.post enc Try.prog Try.f5 false true false false):=by
  refine returnsInHanded_of_change_sized (C:=Try.checked) own started (by kernel_rfl) Try.func5
    (ChangeSpec.witness6 (enc:=enc) (C:=Try.checked) false ⟨#[],#[.slice none 0 0],[]⟩ 8 (by kernel_rfl) (by kernel_rfl) (by kernel_rfl) (by kernel_rfl)) ?_
  intro W base args ds gs before hval0 hW hcnd hsz0 _
  have hval:∀ (j:Nat) t v,Try.f5.params[j]?=some t→args[j]?=some v→Value.okWide Try.prog W .any base t v:=hval0
  have hW':=hW
  obtain ⟨p,q,hA0,hV,rfl,hfz,hnd⟩:=hW
  have hA:DataW.TrodAll enc Try.prog W 0 (fun _=>true) true Try.f5.params.toList args.toList ds p:=hA0
  rw [Try.params5] at hA hval
  obtain ⟨v0,vs0,d0,ds0,p0,q0,hargs,rfl,rfl,h0,r0⟩:=trodAll_cons hA
  obtain ⟨rfl,rfl,rfl⟩:=trodAll_nil r0
  obtain rfl:args=#[v0]:=by cases args;simp_all
  obtain ⟨rfl,rfl⟩:=trodVars_none hV
  have k0:=h0
  have lt0:∀ x∈p0,x.block<W.heap.size:=by obtain ⟨m,hm⟩:=k0;exact DataW.trod_lt m _ _ _ hm
  have hv0:=hval 0 22 v0 rfl rfl
  obtain ⟨a0,len0,cap0,rfl⟩:=okWide_slice Try.underlying22 hv0
  obtain ⟨f,hf,hr⟩:=row_of Try.underlying22 cells (by decide) h0
  clear hA0 hval0 hsz0
  refine Calls.mono (tiltAway_row len0 f hf (us:=[_]) (.cons (hr _) .nil)) fun e W' hpost=>?_
  obtain ⟨u,rfl,hu,bel⟩:=hpost
  obtain rfl:u = .bool true:=hu
  exact ⟨_,rfl,_,_,_,[],_,[],hW',trodAll_mk1 (shut_bool Try.underlying4 _),(trodAll_cons_mk (Below.trod laidOut (by kernel_rfl) (of_decide_eq_true (by kernel_rfl)) k0 bel lt0) trodAll_mk0),rfl,bel.frame _,fun h=>by cases h⟩
theorem over:Rows.tiltAwayRow.holds Try.pinned (OpenSpec.ofChange Rows.tiltAwaySpec) :=
  OpenClaim.holds_of_wide 5 Try.f5 rfl rfl rfl rfl rfl rfl rfl ⟨rfl,rfl,rfl,rfl,rfl⟩ rfl rfl rfl rfl rfl (by kernel_rfl) Try.func5 (by kernel_rfl)
    (of_decide_eq_true (by kernel_rfl)) (by unfold Func.isWrapper;first|(rw [if_pos (by decide +kernel)];kernel_rfl)|(rw [if_neg (by decide +kernel)];exact ⟨rfl,rfl⟩))
    (fun os started H enc _=>lifted os started H enc)
theorem proved:Rows.TiltAwaySaid:=over
end Go.Proofs.Ytonelbidndjhdaa.tiltAway
namespace Go.Proofs.Ytonelbidndjhdaa
theorem tiltAway_holds:Rows.TiltAwaySaid:=tiltAway.proved
end Go.Proofs.Ytonelbidndjhdaa
end
