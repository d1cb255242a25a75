/- The row of CalRows, out of its law by the reckoner: for every argument that reads as data the call returns true and leaves the argument as it was. -/
import Derived.Test.YtonelbidndjhdaaZC30b
import Derived.Deep.Slices
import Derived.OpenShut
import Derived.SizedLaws
import Derived.Test.YtonelbidndjhdaaRows
import Derived.WalkKit
import Derived.ProofKit
import Derived.ShutString
import Derived.ChangeOld
import Derived.Below
import Derived.Carry
section
set_option linter.unusedVariables false
set_option linter.unusedSimpArgs false
namespace Go.Proofs.Ytonelbidndjhdaa.Wh
open Go Go.RowKit Go.Proofs.YtonelbidndjhdaaW.PrintWords Go.Proofs.YtonelbidndjhdaaW.PrintMore Go.Proofs.YtonelbidndjhdaaW.Aid Go.Proofs.YtonelbidndjhdaaW.Big Go.Proofs.YtonelbidndjhdaaW.Sx Go.Proofs.Ytonelbidndjhdaa.BitsWalk Go.Proofs.Ytonelbidndjhdaa.Limbs Go.Proofs.Ytonelbidndjhdaa.Whole Go.Proofs.Ytonelbidndjhdaa.FxWalk Go.Proofs
abbrev tV4 (p:Int × Int × Int × Int):TV := .tup [(true,[.v (.int .i64 p.1),.v (.int .i64 p.2.1),.v (.int .i64 p.2.2.1)]),(false,[.v (.int .i64 p.2.2.2)])]
theorem v4_eq {x y z e:Int} {p:Int × Int × Int × Int} (h:(x,y,z,e)=p):(some (CR.tv (.tup [(true,[.v (.int .i64 x),.v (.int .i64 y),.v (.int .i64 z)]),(false,[.v (.int .i64 e)])])):Option CR)=some (CR.tv (tV4 p)):=by rw [← h]
def vT (a b c:Int):Int × Int × Int × Int:=if (wd a&&(wd b&&wd c))=true then (a,b,c,0) else (0,0,0,2)
theorem tR_bad {a:Int} (h:((toldR a).2 != 0)=true):wd a=false∧(toldR a).2=2:=by
  unfold toldR at *
  by_cases hw:wd a=true
  · rw [if_pos hw] at h;exact absurd (show ((0:Int) != 0)=true from h) (by decide)
  · rw [if_neg hw];exact ⟨by simpa using hw,rfl⟩
theorem tR_ok {a:Int} (h:((toldR a).2 != 0)=false):wd a=true∧(toldR a).1=a:=by
  unfold toldR at *
  by_cases hw:wd a=true
  · rw [if_pos hw];exact ⟨hw,rfl⟩
  · rw [if_neg hw] at h;exact absurd (show ((2:Int) != 0)=false from h) (by decide)
theorem vT_1 {a b c:Int} (h:((toldR a).2 != 0)=true):((0:Int),(0:Int),(0:Int),(toldR a).2)=vT a b c:=by
  obtain ⟨h1,h2⟩:=tR_bad h
  unfold vT;rw [h2,if_neg (by simp [h1])]
theorem vT_2 {a b c:Int} (h:((toldR b).2 != 0)=true):((0:Int),(0:Int),(0:Int),(toldR b).2)=vT a b c:=by
  obtain ⟨h1,h2⟩:=tR_bad h
  unfold vT;rw [h2,if_neg (by simp [h1])]
theorem vT_3 {a b c:Int} (h:((toldR c).2 != 0)=true):((0:Int),(0:Int),(0:Int),(toldR c).2)=vT a b c:=by
  obtain ⟨h1,h2⟩:=tR_bad h
  unfold vT;rw [h2,if_neg (by simp [h1])]
theorem vT_4 {a b c:Int} (h:((toldR a).2 != 0)=false) (h':((toldR b).2 != 0)=false) (h'':((toldR c).2 != 0)=false):((toldR a).1,(toldR b).1,(toldR c).1,(0:Int))=vT a b c:=by
  obtain ⟨h1,h2⟩:=tR_ok h
  obtain ⟨h3,h4⟩:=tR_ok h'
  obtain ⟨h5,h6⟩:=tR_ok h''
  unfold vT;rw [h2,h4,h6,if_pos (by simp [h1,h3,h5])]
abbrev gV (x y z:Int):Bool:=allw [x,y,z]
theorem gV_iff {x y z:Int}:gV x y z=true↔wd x=true∧wd y=true∧wd z=true:=by simp [gV,allw]
theorem gV_bd {a b c:Int} (h:gV a b c=true):(-35184372088832<a∧a<35184372088832)∧(-35184372088832<b∧b<35184372088832)∧(-35184372088832<c∧c<35184372088832):=by
  obtain ⟨h1,h2,h3⟩:=gV_iff.1 h
  exact ⟨wd_iff.1 h1,wd_iff.1 h2,wd_iff.1 h3⟩
section
set_option maxRecDepth 100000
set_option maxHeartbeats 4000000
def cVOf:Con Try.prog where
  f:=46
  sem:=fun xs=>match xs with
    | [.agg [.v (.int .i64 x),.v (.int .i64 y),.v (.int .i64 z)]]=>some (True,.new 2 3 1 [.v (.int .i64 x),.v (.int .i64 y),.v (.int .i64 z)])
    | _=>none
  ok := by
    intro xs p r' h hp
    refine ⟨⟨_,Try.func46,by kernel_rfl,rfl⟩,fun us w ha=>?_⟩
    split at h
    · rename_i x y z
      cases h
      refine fn_ret (cxOk Try.prog ints_ok [] []) follows Try.func46 rfl 100 _ rfl (by simp) ?_ ha
      repeat' first
        | exact trivial
        | (refine And.intro (show regChk _ _ _ _ _=true from by kernel_rfl) (And.intro ?_ ?_))
        | (refine And.intro (fun _=>?_) (fun h=>absurd (show true=false from h) (by decide)))
        | (refine And.intro (fun h=>absurd (show false=true from h) (by decide)) (fun _=>?_))
        | (refine And.intro (fun hb=>?_) (fun hb'=>?_))
        | refine And.intro ?_ ?_
      all_goals first
        | (show some (CR.new _ _ _ _)=some (CR.new _ _ _ _);rfl)
        | (show (_:Nat)=(_:Nat);rfl)
        | (show (_:Nat)≤1000;decide)
        | (show (_:Int)=(_:Int);rfl)
        | (show (_:Int)≤_;decide)
        | (show (_:Int)<_;decide)
        -- PVC
    · cases h
def cVGood:Con Try.prog where
  f:=60
  sem:=fun xs=>match xs with
    | [.agg [.v (.int .i64 x),.v (.int .i64 y),.v (.int .i64 z)]]=>some (True,.tv (tB (gV x y z)))
    | _=>none
  ok := by
    intro xs p r' h hp
    refine ⟨⟨_,Try.func60,by kernel_rfl,rfl⟩,fun us w ha=>?_⟩
    split at h
    · rename_i x y z
      cases h
      refine fn_ret (cxOk Try.prog ints_ok [] [cAll]) follows Try.func60 rfl 100 _ rfl (by simp) ?_ ha
      repeat' first
        | exact trivial
        | (refine And.intro (show regChk _ _ _ _ _=true from by kernel_rfl) (And.intro ?_ ?_))
        | (refine And.intro (fun _=>?_) (fun h=>absurd (show true=false from h) (by decide)))
        | (refine And.intro (fun h=>absurd (show false=true from h) (by decide)) (fun _=>?_))
        | (refine And.intro (fun hb=>?_) (fun hb'=>?_))
        | refine And.intro ?_ ?_
      all_goals first
        | (show some (CR.tv (tB _))=some (CR.tv (tB _));exact tB_eq rfl)
        | (show (_:Nat)=(_:Nat);rfl)
        | (show (_:Nat)≤1000;decide)
        | (show (_:Int)=(_:Int);rfl)
        | (show (_:Int)≤_;decide)
        | (show (_:Int)<_;decide)
        -- PVC
    · cases h
def cVTold:Con Try.prog where
  f:=52
  sem:=fun xs=>match xs with
    | [.row 3 [.neg a,.mag a',.neg b,.mag b',.neg c,.mag c']]=>some (a'=a∧b'=b∧c'=c,.tv (tV4 (vT a b c)))
    | _=>none
  ok := by
    intro xs p r' h hp
    refine ⟨⟨_,Try.func52,by kernel_rfl,rfl⟩,fun us w ha=>?_⟩
    split at h
    · rename_i a a' b b' c c'
      cases h
      obtain ⟨rfl,rfl,rfl⟩:=hp
      refine fnu_ret (cxOk Try.prog ints_ok [] [cTold]) follows [0,2,3,4,9,10,11] Try.func52 rfl 100 _ rfl (by simp) ?_ ha
      repeat' first
        | exact trivial
        | (refine And.intro (show regChk _ _ _ _ _=true from by kernel_rfl) (And.intro ?_ ?_))
        | (refine And.intro (fun _=>?_) (fun h=>absurd (show true=false from h) (by decide)))
        | (refine And.intro (fun h=>absurd (show false=true from h) (by decide)) (fun _=>?_))
        | (refine And.intro (fun hb=>?_) (fun hb'=>?_))
        | refine And.intro ?_ ?_
      all_goals first
        | (show some (CR.tv (.tup _))=some (CR.tv (tV4 _));first|exact v4_eq (vT_1 (by assumption))|exact v4_eq (vT_2 (by assumption))|exact v4_eq (vT_3 (by assumption))|exact v4_eq (vT_4 (by assumption) (by assumption) (by assumption)))
        | (show (_:Nat)=(_:Nat);rfl)
        | (show (_:Nat)≤1000;decide)
        | (show (_:Int)=(_:Int);rfl)
        | (show (_:Int)≤_;decide)
        | (show (_:Int)<_;decide)
        -- PVC
    · cases h
end
end Go.Proofs.Ytonelbidndjhdaa.Wh
end
section
set_option linter.unusedVariables false
set_option linter.unusedSimpArgs false
namespace Go.Proofs.Ytonelbidndjhdaa.Wh
open Go Go.RowKit Go.Proofs.YtonelbidndjhdaaW.PrintWords Go.Proofs.YtonelbidndjhdaaW.PrintMore Go.Proofs.YtonelbidndjhdaaW.Aid Go.Proofs.YtonelbidndjhdaaW.Big Go.Proofs.YtonelbidndjhdaaW.Sx Go.Proofs.Ytonelbidndjhdaa.BitsWalk Go.Proofs.Ytonelbidndjhdaa.Limbs Go.Proofs.Ytonelbidndjhdaa.Whole Go.Proofs.Ytonelbidndjhdaa.FxWalk Go.Proofs
theorem len_b4 {x:Int} (h : -1000000000000000000000000000000000000000000000000000000000000000≤x) (h':x≤1000000000000000000000000000000000000000000000000000000000000000):Len0 x:=len_big (k:=4) (by decide) (Nat.lt_of_le_of_lt (show x.natAbs≤1000000000000000000000000000000000000000000000000000000000000000 by omega) (by decide +kernel))
theorem prod_bd {x y:Int} (hx:I64 x) (hy:I64 y) : -85070591730234615865843651857942052864≤x*y∧x*y≤85070591730234615865843651857942052864:=by
  have h1:x.natAbs≤9223372036854775808:=by unfold I64 at hx;omega
  have h2:y.natAbs≤9223372036854775808:=by unfold I64 at hy;omega
  have h3:(x*y).natAbs≤9223372036854775808*9223372036854775808:=by rw [Int.natAbs_mul];exact Nat.mul_le_mul h1 h2
  omega
theorem i64_wd {x:Int} (h:wd x=true):I64 x:=by rw [wd_iff] at h;unfold I64;omega
theorem lm24 {x:Int} (h:I64 x):(lm x).length<24:=by have:=lm_one x (by unfold I64 at h;omega);omega
theorem len_I {x:Int} (h:I64 x):Len0 x:=len_i64 h.1 h.2
def q30 (n:Int):Int:=roundP n 1073741824
theorem q30_eq (n:Int):roundI n (2 ^ Int.toNat 30)=q30 n:=ri_p (by decide)
def dot3 (a b c d e f:Int):Int:=a*d+b*e+c*f
theorem dot3_eq (a b c d e f:Int):0+a*d+b*e+c*f=dot3 a b c d e f:=by unfold dot3;omega
theorem nbf {b:Bool} (h:(!b)=false):b=true:=by cases b with|true=>rfl|false=>cases h
section
set_option maxRecDepth 100000
set_option maxHeartbeats 4000000
def cTimes:Con Try.prog where
  f:=76
  sem:=fun xs=>match xs with
    | [.sc (.v (.int .i64 x)),.sc (.v (.int .i64 y))]=>some (I64 x∧I64 y,.tv (tI (x*y)))
    | _=>none
  ok := by
    intro xs p r' h hp
    refine ⟨⟨_,Try.func76,by kernel_rfl,rfl⟩,fun us w ha=>?_⟩
    split at h
    · rename_i x y
      cases h
      obtain ⟨hx,hy⟩:=hp
      have hx1:=hx.1
      have hx2:=hx.2
      have hy1:=hy.1
      have hy2:=hy.2
      refine fn_ret (cxOk Try.prog ints_ok [] [cMul,cFrom]) follows Try.func76 rfl 100 _ rfl (by simp) ?_ ha
      repeat' first
        | exact trivial
        | (refine And.intro (show regChk _ _ _ _ _=true from by kernel_rfl) (And.intro ?_ ?_))
        | (refine And.intro (fun _=>?_) (fun h=>absurd (show true=false from h) (by decide)))
        | (refine And.intro (fun h=>absurd (show false=true from h) (by decide)) (fun _=>?_))
        | (refine And.intro (fun hb=>?_) (fun hb'=>?_))
        | refine And.intro ?_ ?_
      all_goals first
        | (show Len0 _;exact len_I hx)
        | exact lm24 hy
        | (show (_:Int)≤_;omega)
        | (show (_:Int)<_;omega)
        | exact hx.1
        | exact hx.2
        | exact hy.1
        | exact hy.2
        | (show some (CR.tv (tI _))=some (CR.tv (tI _));rfl)
        | (show (_:Nat)=(_:Nat);rfl)
        | (show (_:Nat)≤1000;decide)
        | (show (_:Int)=(_:Int);rfl)
        | (show (_:Int)≤_;decide)
        | (show (_:Int)<_;decide)
        -- PVC
    · cases h
def cEachT:Con Try.prog where
  f:=75
  sem:=fun xs=>match xs with
    | [.row 3 [.v (.int .i64 a),.v (.int .i64 b),.v (.int .i64 c)],.row 3 [.v (.int .i64 d),.v (.int .i64 e),.v (.int .i64 f)],.clo g []]=>if g=76 then some ((I64 a∧I64 d)∧(I64 b∧I64 e)∧(I64 c∧I64 f),.new 84 3 2 [.neg (a*d),.mag (a*d),.neg (b*e),.mag (b*e),.neg (c*f),.mag (c*f)]) else none
    | _=>none
  ok := by
    intro xs p r' h hp
    refine ⟨⟨_,Try.func75,by kernel_rfl,rfl⟩,fun us w ha=>?_⟩
    split at h
    · rename_i a b c d e f g
      split at h
      case isFalse=>cases h
      rename_i hf
      subst hf
      cases h
      obtain ⟨⟨h1,h2⟩,⟨h3,h4⟩,h5,h6⟩:=hp
      have g11:=h1.1
      have g12:=h1.2
      have g21:=h2.1
      have g22:=h2.2
      have g31:=h3.1
      have g32:=h3.2
      have g41:=h4.1
      have g42:=h4.2
      have g51:=h5.1
      have g52:=h5.2
      have g61:=h6.1
      have g62:=h6.2
      refine fnu_ret (cxOk Try.prog ints_ok [] [cTimes]) follows [0,1,2,6,9,10,11] Try.func75 rfl 100 _ rfl (by simp) ?_ ha
      repeat' first
        | exact trivial
        | (refine And.intro (show regChk _ _ _ _ _=true from by kernel_rfl) (And.intro ?_ ?_))
        | (refine And.intro (fun _=>?_) (fun h=>absurd (show true=false from h) (by decide)))
        | (refine And.intro (fun h=>absurd (show false=true from h) (by decide)) (fun _=>?_))
        | (refine And.intro (fun hb=>?_) (fun hb'=>?_))
        | refine And.intro ?_ ?_
      all_goals first
        | (show (_:Int)≤_;first|omega|decide)
        | (show (_:Int)<_;first|omega|decide)
        | (show some (CR.new _ _ _ _)=some (CR.new _ _ _ _);rfl)
        | exact h1
        | exact h2
        | exact h3
        | exact h4
        | exact h5
        | exact h6
        | (show (_:Nat)=(_:Nat);rfl)
        | (show (_:Nat)≤1000;decide)
        | (show (_:Int)=(_:Int);rfl)
        | (show (_:Int)≤_;decide)
        | (show (_:Int)<_;decide)
        -- PVC
    · cases h
def cSum:Con Try.prog where
  f:=50
  sem:=fun xs=>match xs with
    | [.row 3 [.v (.int .i64 a),.v (.int .i64 b),.v (.int .i64 c)],.row 3 [.v (.int .i64 d),.v (.int .i64 e),.v (.int .i64 f)]]=>some ((I64 a∧I64 d)∧(I64 b∧I64 e)∧(I64 c∧I64 f),.tv (tI (dot3 a b c d e f)))
    | _=>none
  ok := by
    intro xs p r' h hp
    refine ⟨⟨_,Try.func50,by kernel_rfl,rfl⟩,fun us w ha=>?_⟩
    split at h
    · rename_i a b c d e f
      cases h
      obtain ⟨⟨h1,h2⟩,⟨h3,h4⟩,h5,h6⟩:=hp
      have p1:=prod_bd h1 h2
      have p2:=prod_bd h3 h4
      have p3:=prod_bd h5 h6
      have g11:=h1.1
      have g12:=h1.2
      have g21:=h2.1
      have g22:=h2.2
      have g31:=h3.1
      have g32:=h3.2
      have g41:=h4.1
      have g42:=h4.2
      have g51:=h5.1
      have g52:=h5.2
      have g61:=h6.1
      have g62:=h6.2
      refine fnu_ret (cxOk Try.prog ints_ok [] [cEachT,cAdd]) follows [4,9,10,11] Try.func50 rfl 100 _ rfl (by simp) ?_ ha
      repeat' first
        | exact trivial
        | (refine And.intro (show regChk _ _ _ _ _=true from by kernel_rfl) (And.intro ?_ ?_))
        | (refine And.intro (fun _=>?_) (fun h=>absurd (show true=false from h) (by decide)))
        | (refine And.intro (fun h=>absurd (show false=true from h) (by decide)) (fun _=>?_))
        | (refine And.intro (fun hb=>?_) (fun hb'=>?_))
        | refine And.intro ?_ ?_
      all_goals first
        | (show (_:Int)≤_;first|omega|decide)
        | (show (_:Int)<_;first|omega|decide)
        | exact h1
        | exact h2
        | exact h3
        | exact h4
        | exact h5
        | exact h6
        | (show Len0 _;exact len_b4 (by omega) (by omega))
        | (show some (CR.tv (tI _))=some (CR.tv (tI _));exact wh_eq (dot3_eq _ _ _ _ _ _))
        | (show (_:Nat)=(_:Nat);rfl)
        | (show (_:Nat)≤1000;decide)
        | (show (_:Int)=(_:Int);rfl)
        | (show (_:Int)≤_;decide)
        | (show (_:Int)<_;decide)
        -- PVC
    · cases h
end
end Go.Proofs.Ytonelbidndjhdaa.Wh
end
section
set_option linter.unusedVariables false
set_option linter.unusedSimpArgs false
namespace Go.Proofs.YtonelbidndjhdaaW.Sx
open Go Go.RowKit Go.Proofs.YtonelbidndjhdaaW.PrintWords Go.Proofs.YtonelbidndjhdaaW.PrintMore Go.Proofs.YtonelbidndjhdaaW.Aid Go.Proofs.YtonelbidndjhdaaW.Big
def wfV:Value→Bool
  | .int k n=>(Lit.int k n).wf
  | _=>true
def okV (ks:List (Option IntKind)) (xs:List Value):Prop:=isKs ks xs=true∧∀ x∈xs,wfV x=true
theorem isKs_app:∀ {ks ks':List (Option IntKind)} {xs ys:List Value},isKs ks xs=true→isKs ks' ys=true→isKs (ks++ks') (xs++ys)=true
  | [],ks',[],ys,_,h=>h
  | k::ks,ks',x::xs,ys,h,h'=>by
    simp only [isKs,Bool.and_eq_true] at h
    simp only [List.cons_append,isKs,h.1,isKs_app h.2 h',Bool.and_self]
  | [],_,_::_,_,h,_=>by cases h
  | _::_,_,[],_,h,_=>by cases h
theorem okV_app {ks ks':List (Option IntKind)} {xs ys:List Value} (h:okV ks xs) (h':okV ks' ys):okV (ks++ks') (xs++ys) :=
  ⟨isKs_app h.1 h'.1,fun x hx=>(List.mem_append.1 hx).elim (h.2 x) (h'.2 x)⟩
section
variable {H:Type} {enc:TypeId × Value→H} {P:Program} {w:World} {base:Nat} {spare:Nat→Bool} {held:Bool}
theorem rep_take (ks:List (Option IntKind)):∀ (n:Nat) (xs:List Value),xs.length=(rep ks n).length→(∀ i,i<n→okV ks ((xs.drop (i*ks.length)).take ks.length))→okV (rep ks n) xs
  | 0,xs,hl,_=>by
    cases xs with
    | nil=>exact ⟨rfl,fun _ h=>by cases h⟩
    | cons _ _=>simp [rep] at hl
  | n + 1, xs, hl, h => by
    have h0:=h 0 (by omega)
    rw [Nat.zero_mul,List.drop_zero] at h0
    have hl':xs.length=ks.length+(rep ks n).length:=by rw [hl,rep,List.length_append]
    have ih:=rep_take ks n (xs.drop ks.length) (by rw [List.length_drop];omega) (fun i hi=>by
      have:=h (i+1) (by omega)
      rw [List.drop_drop,show ks.length+i*ks.length=(i+1)*ks.length by rw [Nat.add_mul,Nat.one_mul];omega]
      exact this)
    have:=okV_app h0 ih
    rw [List.take_append_drop] at this
    exact this
theorem flat_trod (arr:Bool):∀ (d:Nat),(∀ (T:TypeId) (ks:List (Option IntKind)) (fuel:Nat) (cs:List Value) (x:DataW H × List MemPlace),lvs P arr d T=some ks→DataW.trod enc P w base spare held fuel T cs=some x→okV ks cs) ∧
    (∀ (fs:List Field) (off:Nat) (ks:List (Option IntKind)) (n:Nat) (cs:List Value) (ys:List (DataW H × List MemPlace)),lvsF P arr d fs off=some ks→cs.length=off+ks.length→ys.length=fs.length →
      (∀ (i:Nat) (f:Field),fs[i]?=some f→DataW.trod enc P w base spare held n f.type ((cs.drop f.offset).take (P.cellsOf f.type))=ys[i]?)→okV ks (cs.drop off)):=by
  intro d
  induction d with
  | zero =>
    refine ⟨fun T ks fuel cs x h=>(by cases h),fun fs off ks n cs ys h hl hy _=>?_⟩
    cases fs with
    | nil =>
      cases h
      rw [List.drop_of_length_le (by simp at hl;omega)]
      exact ⟨rfl,fun _ h=>by cases h⟩
    | cons f fs=>cases h
  | succ d ih =>
    obtain ⟨ih1,ih2⟩:=ih
    constructor
    · intro T ks fuel cs x h hx
      rw [lvs] at h
      split at h
      · rename_i k inf hu hi
        split at h
        case isFalse=>cases h
        cases h
        obtain ⟨n,rfl,_,hw⟩:=DataW.trod_int hu hx
        exact ⟨by simp [isKs,isK],fun y hy=>by rw [List.mem_singleton.1 hy];exact hw⟩
      · rename_i inf hu hi
        split at h
        case isFalse=>cases h
        cases h
        obtain ⟨n,rfl,_⟩:=DataW.trod_bool hu hx
        exact ⟨rfl,fun y hy=>by rw [List.mem_singleton.1 hy];rfl⟩
      · rename_i fs inf hu hi
        split at h
        · cases h
        · split at h
          · rename_i ks' hf
            split at h
            · rename_i hs
              cases h
              obtain ⟨ys,n,_,rfl,hcl,hyl,hg⟩:=DataW.trod_struct hu hx
              have hcl':cs.length=0+ks.length:=by
                rw [hcl];unfold Program.cellsOf;rw [hi];simpa using hs
              have:=ih2 fs.toList 0 ks n cs ys hf hcl' (by simpa using hyl) (fun i f hf=>hg i f (by simpa using hf))
              rwa [List.drop_zero] at this
            · cases h
          · cases h
      · rename_i n e inf hu hi
        split at h
        · split at h
          · rename_i ks' he
            split at h
            · rename_i hs
              cases h
              obtain ⟨ys,m,_,rfl,hcl,hyl,hg⟩:=DataW.trod_array hu hx
              have hce:=lvs_cells he
              rw [hce] at hg
              refine rep_take ks' n cs (by rw [hcl];unfold Program.cellsOf;rw [hi];simpa using hs) (fun i hi=>?_)
              obtain ⟨y,hy⟩:∃ y,ys[i]?=some y:=⟨ys[i],by simp⟩
              exact ih1 e ks' m _ y he (by rw [hg i hi,hy])
            · cases h
          · cases h
        · cases h
      · cases h
    · intro fs off ks n cs ys h hl hy hg
      cases fs with
      | nil =>
        cases h
        rw [List.drop_of_length_le (by simp at hl;omega)]
        exact ⟨rfl,fun _ h=>by cases h⟩
      | cons f fs =>
        rw [lvsF] at h
        split at h
        · cases h
        · rename_i hc
          have hoff:f.offset=off:=Decidable.byContradiction fun e=>hc (Or.inr e)
          split at h
          · rename_i k ks1 hl1
            split at h
            · rename_i r hr
              cases h
              match ys,hy with
              | y::ys,hy =>
                have h1:=hg 0 f rfl
                rw [hoff,lvs_cells hl1] at h1
                have g1:=ih1 f.type _ n _ y hl1 h1
                have g2:=ih2 fs (off+(k::ks1).length) r n cs ys hr (by rw [hl];simp;omega) (by simpa using hy) (fun i f' hf=>hg (i+1) f' (by simpa using hf))
                have:=okV_app g1 g2
                rw [← List.drop_drop,List.take_append_drop] at this
                exact this
            · cases h
          · cases h
def gI (f:Nat→List Value) (i j:Nat):Int:=match (f j)[i]? with
  | some (.int _ n)=>n
  | _=>0
def gB (f:Nat→List Value) (i j:Nat):Bool:=match (f j)[i]? with
  | some (.bool b)=>b
  | _=>false
def cellsG (f:Nat→List Value) (j:Nat):Nat→List (Option IntKind)→List A0
  | _,[]=>[]
  | i,some k::ks => .v (.int k (gI f i j))::cellsG f j (i+1) ks
  | i,none::ks => .v (.bool (gB f i j))::cellsG f j (i+1) ks
theorem cellsG_eq (f:Nat→List Value) (j:Nat):∀ (ks:List (Option IntKind)) (i:Nat),isKs ks ((f j).drop i)=true→cellsG f j i ks=((f j).drop i).map A0.v
  | [],i,h=>by
    cases hx:(f j).drop i with
    | nil=>rfl
    | cons _ _=>rw [hx] at h;cases h
  | k :: ks, i, h => by
    cases hx:(f j).drop i with
    | nil=>rw [hx] at h;cases h
    | cons x xs =>
      have h0:(f j)[i]?=some x:=by rw [← List.head?_drop,hx];rfl
      have h1:(f j).drop (i+1)=xs:=by rw [← List.tail_drop,hx];rfl
      rw [hx] at h
      simp only [isKs,Bool.and_eq_true] at h
      have ih:=cellsG_eq f j ks (i+1) (by rw [h1];exact h.2)
      rw [h1] at ih
      cases k with
      | some k =>
        cases x<;>simp only [isK] at h<;>try (exact absurd h.1 (by decide))
        rename_i k' n
        obtain rfl:=of_decide_eq_true h.1
        simp only [cellsG,gI,h0,List.map_cons,ih]
      | none =>
        cases x<;>simp only [isK] at h<;>try (exact absurd h.1 (by decide))
        simp only [cellsG,gB,h0,List.map_cons,ih]
theorem gI_i64 {f:Nat→List Value} {ks:List (Option IntKind)} {i j:Nat} (h:okV ks (f j)) (hk:ks[i]?=some (some .i64)) : -9223372036854775808≤gI f i j∧gI f i j<9223372036854775808:=by
  have key:∀ (ks:List (Option IntKind)) (xs:List Value) (i:Nat),isKs ks xs=true→ks[i]?=some (some .i64)→∃ n,xs[i]?=some (.int .i64 n):=by
    intro ks
    induction ks with
    | nil=>intro xs i _ h;simp at h
    | cons k ks ih =>
      intro xs i h hk
      cases xs with
      | nil=>cases h
      | cons x xs =>
        simp only [isKs,Bool.and_eq_true] at h
        cases i with
        | zero =>
          simp at hk;subst hk
          cases x<;>simp only [isK] at h<;>try (exact absurd h.1 (by decide))
          rename_i k' n
          rw [of_decide_eq_true h.1];exact ⟨n,rfl⟩
        | succ i=>simpa using ih xs i h.2 (by simpa using hk)
  obtain ⟨n,hn⟩:=key ks (f j) i h.1 hk
  have hw:=h.2 _ (List.mem_of_getElem? hn)
  unfold gI;rw [hn]
  have:=wf_i64 (x:=n) hw
  dsimp only
  omega
def zv:Option IntKind→Value
  | some k => .int k 0
  | none => .bool false
theorem zs_ok:∀ ks:List (Option IntKind),okV ks (ks.map zv)
  | []=>⟨rfl,fun _ h=>by cases h⟩
  | k :: ks => by
    obtain ⟨h1,h2⟩:=zs_ok ks
    refine ⟨?_,fun x hx=>?_⟩
    · simp only [List.map_cons,isKs,h1,Bool.and_true]
      cases k<;>simp [zv,isK]
    · rcases List.mem_cons.1 hx with rfl|hx
      · cases k with
        | none=>rfl
        | some k=>cases k<;>decide
      · exact h2 x hx
theorem rowF_congr {n sz:Nat} {f g:Nat→List A0} {β:Nat→Nat} {base:Nat} {w:World} {u:Value} (h:∀ j,f j=g j) (hr:TV.reads β base w (.rowF n sz f) u):TV.reads β base w (.rowF n sz g) u:=by
  rw [show g=f from funext fun j=>(h j).symm];exact hr
theorem row_of {t e:TypeId} {arr:Bool} {d:Nat} {ks:List (Option IntKind)} (hu:P.underlying t=some (.slice e)) (hl:lvs P arr d e=some ks) (hk:0<ks.length) {A1:Option Addr} {n0 c0:Nat} {x:DataW H} {ps:List MemPlace} (h:DataW.Trod enc P w base spare held t (.slice A1 n0 c0) x ps) :
    ∃ f:Nat→List Value,(∀ j,okV ks (f j))∧∀ β:Nat→Nat,TV.reads β w.heap.size w (.rowF n0 ks.length (fun j=>cellsG f j 0 ks)) (.slice A1 n0 c0):=by
  obtain ⟨fuel,hf⟩:=h
  have hcell:(Value.slice A1 n0 c0).cells.toList=[.slice A1 n0 c0]:=rfl
  rw [hcell] at hf
  rcases Go.Deep.open_slice hu hf with ⟨h1,_⟩|⟨a,len,cap,m,n,D,Pl,h1,hb,hle,hm,hmm,_,hi⟩
  · cases h1
    exact ⟨fun _=>ks.map zv,fun j=>zs_ok ks,fun β=>⟨none,0,rfl,Nat.le_refl _,fun h=>absurd h (by omega)⟩⟩
  · cases h1
    have hlm:n0≤m:=by rw [hmm];split<;>omega
    have hch:∀ j,∃ l:List Value,okV ks l∧(j<n0→∀ i u,l[i]?=some u→w.cell? ((a.add (j*ks.length)).add i)=some u):=by
      intro j
      by_cases hj:j<n0
      · obtain ⟨cs',h2,h3⟩:=hi j (by omega)
        obtain ⟨_,hcl,hat⟩:=World.cells?_some h2
        have ok:=(flat_trod (enc:=enc) (P:=P) (w:=w) (base:=base) (spare:=spare) (held:=held) arr d).1 e ks n cs' _ hl h3
        refine ⟨cs',ok,fun _ i u hu=>?_⟩
        have hil:i<cs'.length:=(List.getElem?_eq_some_iff.1 hu).1
        have h4:=hat i (by omega)
        rw [hu,lvs_cells hl] at h4
        exact h4
      · exact ⟨ks.map zv,zs_ok ks,fun h=>absurd h hj⟩
    obtain ⟨f,hf⟩:=Classical.axiomOfChoice hch
    refine ⟨f,fun j=>(hf j).1,fun β=>?_⟩
    refine rowF_congr (f:=fun j=>(f j).map A0.v) (fun j=>?_) ⟨some a,c0,rfl,hle,fun h0=>⟨a,rfl,?_,fun i hi=>?_⟩⟩
    · have:=cellsG_eq f j ks 0 (by rw [List.drop_zero];exact (hf j).1.1)
      rw [this,List.drop_zero]
    · have h5:=(hf 0).1.1
      have h6:=isKs_len h5
      have h7:=(hf 0).2 h0 0 ((f 0)[0]'(by omega)) (by simp)
      have:=World.block_lt_of_cell? w _ h7
      rw [Nat.zero_mul] at this
      exact this
    · intro q c hq
      rw [List.getElem?_map,Option.map_eq_some_iff] at hq
      obtain ⟨u,hu,rfl⟩:=hq
      exact ⟨u,(hf i).2 hi q u hu,rfl⟩
end
end Go.Proofs.YtonelbidndjhdaaW.Sx
end
section
set_option linter.unusedVariables false
set_option linter.unusedSimpArgs false
namespace Go.Proofs.Ytonelbidndjhdaa.Wh
open Go Go.RowKit Go.Proofs.YtonelbidndjhdaaW.PrintWords Go.Proofs.YtonelbidndjhdaaW.PrintMore Go.Proofs.YtonelbidndjhdaaW.Aid Go.Proofs.YtonelbidndjhdaaW.Big Go.Proofs.YtonelbidndjhdaaW.Sx Go.Proofs.Ytonelbidndjhdaa.BitsWalk Go.Proofs.Ytonelbidndjhdaa.Limbs Go.Proofs.Ytonelbidndjhdaa.Whole Go.Proofs.Ytonelbidndjhdaa.FxWalk Go.Proofs
theorem wd_bif (v:Int):(bif decide (v > -35184372088832) then decide (v<35184372088832) else false)=wd v:=by
  unfold wd
  have e:decide (v > -35184372088832)=decide (-35184372088832<v):=rfl
  rw [e]
  cases decide (-35184372088832<v)<;>rfl
theorem gV_bif (x y z:Int):(bif bif wd x then wd y else false then wd z else false)=gV x y z:=by
  unfold gV
  simp only [allw]
  cases wd x<;>cases wd y<;>cases wd z<;>rfl
theorem no {c:Bool} (h:c=false) (hb:c=true):False:=by rw [h] at hb;exact absurd hb (by decide)
abbrev cells3 (x y z:Int):List Value:=[.int .i64 x,.int .i64 y,.int .i64 z]
def lawL (m n:Nat) (r:Nat→List A0) (q:Nat):LI Int where
  gs:=fun i=>[(0,.rowF n m r),(q,tB false),(q+1,tN .i64 i)]
  bs:=fun i=>[]
  I:=fun i=>0≤i∧i≤(n:Int)
  μ:=fun i=>((n:Int)-i).toNat
theorem wrap1 {i:Int} (h0:0≤i) (h:i≤100000000000000000):IntKind.i64.wrap (i+1)=i+1:=by rw [i64_wrap];exact wrap64_id (by omega) (by omega)
theorem hC1 {v k:Int} {n:Nat} (h:(bif decide (v<(n:Int)) then decide (v<k) else false)=true):v<n∧v<k:=by
  by_cases h1:v<(n:Int)
  · rw [decide_eq_true h1] at h;exact ⟨h1,of_decide_eq_true h⟩
  · rw [decide_eq_false h1] at h;exact absurd (show false=true from h) (by decide)
theorem stepL {m n q:Nat} {r:Nat→List A0} {v k:Int} (hv:(lawL m n r q).I v) (hC:(bif decide (v<(n:Int)) then decide (v<k) else false)=true) (hk:k≤1000):(lawL m n r q).μ (IntKind.i64.wrap (v+1))<(lawL m n r q).μ v∧(lawL m n r q).I (IntKind.i64.wrap (v+1)):=by
  have h1:=hC1 hC
  have h0:0≤v∧v≤(n:Int):=hv
  rw [wrap1 h0.1 (by omega)]
  exact ⟨show ((n:Int)-(v+1)).toNat<((n:Int)-v).toNat by omega,show 0≤v+1∧v+1≤(n:Int) by omega⟩
section
set_option maxRecDepth 100000
set_option maxHeartbeats 4000000
abbrev eqVec:EqT Try.prog:=eqS Try.prog 24 [some .i64,some .i64,some .i64] (by kernel_rfl)
def cR1May:Con Try.prog where
  f:=26
  sem:=fun xs=>match xs with
    | [.sc (.v (.int .i64 v))]=>some (True,.tv (tB (wd v)))
    | _=>none
  ok := by
    intro xs p r' h hp
    refine ⟨⟨_,Try.func26,by kernel_rfl,rfl⟩,fun us w ha=>?_⟩
    split at h
    · rename_i v
      cases h
      refine fn_ret (cxOk Try.prog ints_ok [] []) follows Try.func26 rfl 100 _ rfl (by simp) ?_ ha
      repeat' first
        | exact trivial
        | (refine And.intro (show regChk _ _ _ _ _=true from by kernel_rfl) (And.intro ?_ ?_))
        | (refine And.intro (fun _=>?_) (fun h=>absurd (show true=false from h) (by decide)))
        | (refine And.intro (fun h=>absurd (show false=true from h) (by decide)) (fun _=>?_))
        | (refine And.intro (fun hb=>?_) (fun hb'=>?_))
        | refine And.intro ?_ ?_
        | intro _
      all_goals first
        | (show some (CR.tv (tB _))=some (CR.tv (tB _));exact tB_eq (wd_bif v))
        | (show (_:Bool)=(_:Bool);first|assumption|exact beq_iff_eq.2 (by assumption)|(exact and_tt (by first|assumption|exact beq_iff_eq.2 (by assumption)) (by first|assumption|exact beq_iff_eq.2 (by assumption))))
        | (show (_:Nat)=(_:Nat);rfl)
        | (show (_:Nat)≤1000;decide)
        | (show (_:Int)=(_:Int);rfl)
        | (show (_:Int)≤_;decide)
        | (show (_:Int)<_;decide)
        -- PVC
    · cases h
def cR3May:Con Try.prog where
  f:=53
  sem:=fun xs=>match xs with
    | [.agg [.v (.int .i64 x),.v (.int .i64 y),.v (.int .i64 z)]]=>some (True,.tv (tB (gV x y z)))
    | _=>none
  ok := by
    intro xs p r' h hp
    refine ⟨⟨_,Try.func53,by kernel_rfl,rfl⟩,fun us w ha=>?_⟩
    split at h
    · rename_i x y z
      cases h
      refine fn_ret (cxOk Try.prog ints_ok [] [cR1May]) follows Try.func53 rfl 100 _ rfl (by simp) ?_ ha
      repeat' first
        | exact trivial
        | (refine And.intro (show regChk _ _ _ _ _=true from by kernel_rfl) (And.intro ?_ ?_))
        | (refine And.intro (fun _=>?_) (fun h=>absurd (show true=false from h) (by decide)))
        | (refine And.intro (fun h=>absurd (show false=true from h) (by decide)) (fun _=>?_))
        | (refine And.intro (fun hb=>?_) (fun hb'=>?_))
        | refine And.intro ?_ ?_
        | intro _
      all_goals first
        | (show some (CR.tv (tB _))=some (CR.tv (tB _));exact tB_eq (gV_bif x y z))
        | (show (_:Bool)=(_:Bool);first|assumption|exact beq_iff_eq.2 (by assumption)|(exact and_tt (by first|assumption|exact beq_iff_eq.2 (by assumption)) (by first|assumption|exact beq_iff_eq.2 (by assumption))))
        | (show (_:Nat)=(_:Nat);rfl)
        | (show (_:Nat)≤1000;decide)
        | (show (_:Int)=(_:Int);rfl)
        | (show (_:Int)≤_;decide)
        | (show (_:Int)<_;decide)
        -- PVC
    · cases h
def cNum10:Con Try.prog where
  f:=24
  sem:=fun xs=>match xs with
    | [.sc (.v (.int .i64 v))]=>some (True,.tv (tN .i64 v))
    | _=>none
  ok := by
    intro xs p r' h hp
    refine ⟨⟨_,Try.func24,by kernel_rfl,rfl⟩,fun us w ha=>?_⟩
    split at h
    · rename_i v
      cases h
      refine fn_ret (cxOk Try.prog ints_ok [] []) follows Try.func24 rfl 100 _ rfl (by simp) ?_ ha
      repeat' first
        | exact trivial
        | (refine And.intro (show regChk _ _ _ _ _=true from by kernel_rfl) (And.intro ?_ ?_))
        | (refine And.intro (fun _=>?_) (fun h=>absurd (show true=false from h) (by decide)))
        | (refine And.intro (fun h=>absurd (show false=true from h) (by decide)) (fun _=>?_))
        | (refine And.intro (fun hb=>?_) (fun hb'=>?_))
        | refine And.intro ?_ ?_
      all_goals first
        | (show some (CR.tv (tN _ _))=some (CR.tv (tN _ _));rfl)
        | (show (_:Nat)=(_:Nat);rfl)
        | (show (_:Nat)≤1000;decide)
        | (show (_:Int)=(_:Int);rfl)
        | (show (_:Int)≤_;decide)
        | (show (_:Int)<_;decide)
        -- PVC
    · cases h
end
end Go.Proofs.Ytonelbidndjhdaa.Wh
end
section
set_option linter.unusedVariables false
set_option linter.unusedSimpArgs false
namespace Go.Proofs.Ytonelbidndjhdaa.Wh
open Go Go.RowKit Go.Proofs.YtonelbidndjhdaaW.PrintWords Go.Proofs.YtonelbidndjhdaaW.PrintMore Go.Proofs.YtonelbidndjhdaaW.Aid Go.Proofs.YtonelbidndjhdaaW.Big Go.Proofs.YtonelbidndjhdaaW.Sx Go.Proofs.Ytonelbidndjhdaa.BitsWalk Go.Proofs.Ytonelbidndjhdaa.Limbs Go.Proofs.Ytonelbidndjhdaa.Whole Go.Proofs.Ytonelbidndjhdaa.FxWalk Go.Proofs
def conOr {P:Program} (c d:Con P) (hf:c.f=d.f):Con P where
  f:=c.f
  sem:=fun xs=>match c.sem xs with
    | some r=>some r
    | none=>d.sem xs
  ok:=by
    intro xs p r h hp
    split at h
    · rename_i q hq
      cases h
      exact c.ok xs p r hq hp
    · rw [hf];exact d.ok xs p r h hp
abbrev inB (n lo hi:Int):Bool:=bif decide (n≥lo) then decide (n≤hi) else false
abbrev rawB (x y z t:Int):Bool:=bif bif bif inB x (-32768) 32767 then inB y (-32768) 32767 else false then inB z (-32768) 32767 else false then inB t (-128) 127 else false
abbrev badR (v:Int):Bool:=bif decide (v < -32768) then true else decide (v≥32768)
theorem wI (x:Int):I64 (IntKind.i64.wrap x):=by rw [i64_wrap];unfold I64 wrap64;omega
theorem wr {x:Int} (h : -9223372036854775808≤x) (h':x<9223372036854775808):IntKind.i64.wrap x=x:=by rw [i64_wrap];exact wrap64_id h (by omega)
def graw (x y z t:Int):Bool:=bif badR x then false else bif badR y then false else bif badR z then false else inB t (-128) 127
theorem graw_0 {x y z t:Int} (h0:(badR x)=true):(false)=graw x y z t:=by
  unfold graw
  rw [h0]
  rfl
theorem graw_1 {x y z t:Int} (h0:(badR x)=false) (h1:(badR y)=true):(false)=graw x y z t:=by
  unfold graw
  rw [h0]
  rw [h1]
  rfl
theorem graw_2 {x y z t:Int} (h0:(badR x)=false) (h1:(badR y)=false) (h2:(badR z)=true):(false)=graw x y z t:=by
  unfold graw
  rw [h0]
  rw [h1]
  rw [h2]
  rfl
theorem graw_3 {x y z t:Int} (h0:(badR x)=false) (h1:(badR y)=false) (h2:(badR z)=false):(inB t (-128) 127)=graw x y z t:=by
  unfold graw
  rw [h0]
  rw [h1]
  rw [h2]
  rfl
def mayC (b1 b2 b3 k1 k2 k3 rf m0 m1 m2 m3 m4 m5 m6 m7 m8:Int):Bool:=bif !wd m0 then false else bif !wd m1 then false else bif !wd m2 then false else bif !wd m3 then false else bif !wd m4 then false else bif !wd m5 then false else bif !wd m6 then false else bif !wd m7 then false else bif !wd m8 then false else bif bif bif gV b1 b2 b3 then gV k1 k2 k3 else false then decide (rf ≥ -128) else false then decide (rf≤127) else false
theorem mayC_0 {b1 b2 b3 k1 k2 k3 rf m0 m1 m2 m3 m4 m5 m6 m7 m8:Int} (h0:(!wd m0)=true):(false)=mayC b1 b2 b3 k1 k2 k3 rf m0 m1 m2 m3 m4 m5 m6 m7 m8:=by
  unfold mayC
  rw [h0]
  rfl
theorem mayC_1 {b1 b2 b3 k1 k2 k3 rf m0 m1 m2 m3 m4 m5 m6 m7 m8:Int} (h0:(!wd m0)=false) (h1:(!wd m1)=true):(false)=mayC b1 b2 b3 k1 k2 k3 rf m0 m1 m2 m3 m4 m5 m6 m7 m8:=by
  unfold mayC
  rw [h0]
  rw [h1]
  rfl
theorem mayC_2 {b1 b2 b3 k1 k2 k3 rf m0 m1 m2 m3 m4 m5 m6 m7 m8:Int} (h0:(!wd m0)=false) (h1:(!wd m1)=false) (h2:(!wd m2)=true):(false)=mayC b1 b2 b3 k1 k2 k3 rf m0 m1 m2 m3 m4 m5 m6 m7 m8:=by
  unfold mayC
  rw [h0]
  rw [h1]
  rw [h2]
  rfl
theorem mayC_3 {b1 b2 b3 k1 k2 k3 rf m0 m1 m2 m3 m4 m5 m6 m7 m8:Int} (h0:(!wd m0)=false) (h1:(!wd m1)=false) (h2:(!wd m2)=false) (h3:(!wd m3)=true):(false)=mayC b1 b2 b3 k1 k2 k3 rf m0 m1 m2 m3 m4 m5 m6 m7 m8:=by
  unfold mayC
  rw [h0]
  rw [h1]
  rw [h2]
  rw [h3]
  rfl
theorem mayC_4 {b1 b2 b3 k1 k2 k3 rf m0 m1 m2 m3 m4 m5 m6 m7 m8:Int} (h0:(!wd m0)=false) (h1:(!wd m1)=false) (h2:(!wd m2)=false) (h3:(!wd m3)=false) (h4:(!wd m4)=true):(false)=mayC b1 b2 b3 k1 k2 k3 rf m0 m1 m2 m3 m4 m5 m6 m7 m8:=by
  unfold mayC
  rw [h0]
  rw [h1]
  rw [h2]
  rw [h3]
  rw [h4]
  rfl
theorem mayC_5 {b1 b2 b3 k1 k2 k3 rf m0 m1 m2 m3 m4 m5 m6 m7 m8:Int} (h0:(!wd m0)=false) (h1:(!wd m1)=false) (h2:(!wd m2)=false) (h3:(!wd m3)=false) (h4:(!wd m4)=false) (h5:(!wd m5)=true):(false)=mayC b1 b2 b3 k1 k2 k3 rf m0 m1 m2 m3 m4 m5 m6 m7 m8:=by
  unfold mayC
  rw [h0]
  rw [h1]
  rw [h2]
  rw [h3]
  rw [h4]
  rw [h5]
  rfl
theorem mayC_6 {b1 b2 b3 k1 k2 k3 rf m0 m1 m2 m3 m4 m5 m6 m7 m8:Int} (h0:(!wd m0)=false) (h1:(!wd m1)=false) (h2:(!wd m2)=false) (h3:(!wd m3)=false) (h4:(!wd m4)=false) (h5:(!wd m5)=false) (h6:(!wd m6)=true):(false)=mayC b1 b2 b3 k1 k2 k3 rf m0 m1 m2 m3 m4 m5 m6 m7 m8:=by
  unfold mayC
  rw [h0]
  rw [h1]
  rw [h2]
  rw [h3]
  rw [h4]
  rw [h5]
  rw [h6]
  rfl
theorem mayC_7 {b1 b2 b3 k1 k2 k3 rf m0 m1 m2 m3 m4 m5 m6 m7 m8:Int} (h0:(!wd m0)=false) (h1:(!wd m1)=false) (h2:(!wd m2)=false) (h3:(!wd m3)=false) (h4:(!wd m4)=false) (h5:(!wd m5)=false) (h6:(!wd m6)=false) (h7:(!wd m7)=true):(false)=mayC b1 b2 b3 k1 k2 k3 rf m0 m1 m2 m3 m4 m5 m6 m7 m8:=by
  unfold mayC
  rw [h0]
  rw [h1]
  rw [h2]
  rw [h3]
  rw [h4]
  rw [h5]
  rw [h6]
  rw [h7]
  rfl
theorem mayC_8 {b1 b2 b3 k1 k2 k3 rf m0 m1 m2 m3 m4 m5 m6 m7 m8:Int} (h0:(!wd m0)=false) (h1:(!wd m1)=false) (h2:(!wd m2)=false) (h3:(!wd m3)=false) (h4:(!wd m4)=false) (h5:(!wd m5)=false) (h6:(!wd m6)=false) (h7:(!wd m7)=false) (h8:(!wd m8)=true):(false)=mayC b1 b2 b3 k1 k2 k3 rf m0 m1 m2 m3 m4 m5 m6 m7 m8:=by
  unfold mayC
  rw [h0]
  rw [h1]
  rw [h2]
  rw [h3]
  rw [h4]
  rw [h5]
  rw [h6]
  rw [h7]
  rw [h8]
  rfl
theorem mayC_9 {b1 b2 b3 k1 k2 k3 rf m0 m1 m2 m3 m4 m5 m6 m7 m8:Int} (h0:(!wd m0)=false) (h1:(!wd m1)=false) (h2:(!wd m2)=false) (h3:(!wd m3)=false) (h4:(!wd m4)=false) (h5:(!wd m5)=false) (h6:(!wd m6)=false) (h7:(!wd m7)=false) (h8:(!wd m8)=false):(bif bif bif gV b1 b2 b3 then gV k1 k2 k3 else false then decide (rf ≥ -128) else false then decide (rf≤127) else false)=mayC b1 b2 b3 k1 k2 k3 rf m0 m1 m2 m3 m4 m5 m6 m7 m8:=by
  unfold mayC
  rw [h0]
  rw [h1]
  rw [h2]
  rw [h3]
  rw [h4]
  rw [h5]
  rw [h6]
  rw [h7]
  rw [h8]
  rfl
abbrev goodC (b1 b2 b3 k1 k2 k3 rf m0 m1 m2 m3 m4 m5 m6 m7 m8:Int):Bool:=bif bif bif bif gV b1 b2 b3 then gV k1 k2 k3 else false then decide (rf ≥ -128) else false then decide (rf≤127) else false then allw [m0,m1,m2,m3,m4,m5,m6,m7,m8] else false
abbrev badC (b1 b2 b3 k1 k2 k3 rf m0 m1 m2 m3 m4 m5 m6 m7 m8 x y z t:Int):Bool:=bif !goodC b1 b2 b3 k1 k2 k3 rf m0 m1 m2 m3 m4 m5 m6 m7 m8 then true else !graw x y z t
theorem inB_iff {n lo hi:Int}:inB n lo hi=true↔lo≤n∧n≤hi:=by
  unfold inB
  by_cases h1:n≥lo<;>by_cases h2:n≤hi<;>simp [h1,h2]<;>omega
theorem badR_f {v:Int}:badR v=false ↔ -32768≤v∧v≤32767:=by
  unfold badR
  by_cases h1:v < -32768<;>by_cases h2:v≥32768<;>simp [h1,h2]<;>omega
theorem graw_iff {x y z t:Int}:graw x y z t=true↔(-32768≤x∧x≤32767)∧(-32768≤y∧y≤32767)∧(-32768≤z∧z≤32767) ∧ -128≤t∧t≤127:=by
  unfold graw
  rw [← badR_f,← badR_f,← badR_f,← inB_iff (n:=t)]
  cases badR x<;>cases badR y<;>cases badR z<;>simp
theorem rawB_iff {x y z t:Int}:rawB x y z t=true↔(-32768≤x∧x≤32767)∧(-32768≤y∧y≤32767)∧(-32768≤z∧z≤32767) ∧ -128≤t∧t≤127:=by
  unfold rawB
  rw [← inB_iff (n:=x),← inB_iff (n:=y),← inB_iff (n:=z),← inB_iff (n:=t)]
  cases inB x (-32768) 32767<;>cases inB y (-32768) 32767<;>cases inB z (-32768) 32767<;>simp
theorem goodC_iff {b1 b2 b3 k1 k2 k3 rf m0 m1 m2 m3 m4 m5 m6 m7 m8:Int}:goodC b1 b2 b3 k1 k2 k3 rf m0 m1 m2 m3 m4 m5 m6 m7 m8=true↔gV b1 b2 b3=true∧gV k1 k2 k3=true∧(-128≤rf∧rf≤127)∧allw [m0,m1,m2,m3,m4,m5,m6,m7,m8]=true:=by
  unfold goodC
  cases gV b1 b2 b3<;>cases gV k1 k2 k3<;>by_cases h1:rf ≥ -128<;>by_cases h2:rf≤127<;>cases allw [m0,m1,m2,m3,m4,m5,m6,m7,m8]<;>simp [h1,h2]<;>omega
def CalOk (b1 b2 b3 k1 k2 k3 rf m0 m1 m2 m3 m4 m5 m6 m7 m8 x y z t:Int):Prop:=goodC b1 b2 b3 k1 k2 k3 rf m0 m1 m2 m3 m4 m5 m6 m7 m8=true∧graw x y z t=true
theorem badC_f {b1 b2 b3 k1 k2 k3 rf m0 m1 m2 m3 m4 m5 m6 m7 m8 x y z t:Int}:badC b1 b2 b3 k1 k2 k3 rf m0 m1 m2 m3 m4 m5 m6 m7 m8 x y z t=false↔CalOk b1 b2 b3 k1 k2 k3 rf m0 m1 m2 m3 m4 m5 m6 m7 m8 x y z t:=by
  unfold badC CalOk
  cases goodC b1 b2 b3 k1 k2 k3 rf m0 m1 m2 m3 m4 m5 m6 m7 m8<;>cases graw x y z t<;>simp
instance (b1 b2 b3 k1 k2 k3 rf m0 m1 m2 m3 m4 m5 m6 m7 m8 x y z t:Int):Decidable (CalOk b1 b2 b3 k1 k2 k3 rf m0 m1 m2 m3 m4 m5 m6 m7 m8 x y z t):=inferInstanceAs (Decidable (_∧_))
def calU (x b h d:Int):Int:=1024*x-b-h*d
def calR (b1 b2 b3 k1 k2 k3 rf m0 m1 m2 m3 m4 m5 m6 m7 m8 x y z t:Int):Int × Int × Int × Int:=if CalOk b1 b2 b3 k1 k2 k3 rf m0 m1 m2 m3 m4 m5 m6 m7 m8 x y z t then vT (q30 (dot3 m0 m1 m2 (calU x b1 k1 (t-rf)) (calU y b2 k2 (t-rf)) (calU z b3 k3 (t-rf)))) (q30 (dot3 m3 m4 m5 (calU x b1 k1 (t-rf)) (calU y b2 k2 (t-rf)) (calU z b3 k3 (t-rf)))) (q30 (dot3 m6 m7 m8 (calU x b1 k1 (t-rf)) (calU y b2 k2 (t-rf)) (calU z b3 k3 (t-rf)))) else (0,0,0,1)
abbrev uW (x b h t rf:Int):Int:=IntKind.i64.wrap (IntKind.i64.wrap (IntKind.i64.wrap (1024*x)-b)-IntKind.i64.wrap (h*IntKind.i64.wrap (t-rf)))
theorem hd_bd {h d:Int} (hh : -35184372088832<h∧h<35184372088832) (hd : -255≤d∧d≤255) : -8972014882652160≤h*d∧h*d≤8972014882652160:=by
  have h1:h.natAbs≤35184372088832:=by omega
  have h2:d.natAbs≤255:=by omega
  have h3:(h*d).natAbs≤35184372088832*255:=by rw [Int.natAbs_mul];exact Nat.mul_le_mul h1 h2
  omega
theorem uW_eq {x b h t rf:Int} (hx : -32768≤x∧x≤32767) (hb : -35184372088832<b∧b<35184372088832) (hh : -35184372088832<h∧h<35184372088832) (ht : -128≤t∧t≤127) (hr : -128≤rf∧rf≤127):uW x b h t rf=calU x b h (t-rf):=by
  have p:=hd_bd hh (d:=t-rf) (by omega)
  have e1:IntKind.i64.wrap (t-rf)=t-rf:=wr (by omega) (by omega)
  have e2:IntKind.i64.wrap (1024*x)=1024*x:=wr (by omega) (by omega)
  have e3:IntKind.i64.wrap (1024*x-b)=1024*x-b:=wr (by omega) (by omega)
  unfold uW calU
  rw [e1,e2,e3,wr (x:=h*(t-rf)) (by omega) (by omega)]
  exact wr (by omega) (by omega)
theorem cal_bad {b1 b2 b3 k1 k2 k3 rf m0 m1 m2 m3 m4 m5 m6 m7 m8 x y z t:Int} (h:badC b1 b2 b3 k1 k2 k3 rf m0 m1 m2 m3 m4 m5 m6 m7 m8 x y z t=true):((0:Int),(0:Int),(0:Int),(1:Int))=calR b1 b2 b3 k1 k2 k3 rf m0 m1 m2 m3 m4 m5 m6 m7 m8 x y z t:=by
  unfold calR;rw [if_neg (fun hk=>by rw [badC_f.2 hk] at h;cases h)]
theorem cal_ok {b1 b2 b3 k1 k2 k3 rf m0 m1 m2 m3 m4 m5 m6 m7 m8 x y z t:Int} (h:badC b1 b2 b3 k1 k2 k3 rf m0 m1 m2 m3 m4 m5 m6 m7 m8 x y z t=false) {p:Int × Int × Int × Int} (hp:p=vT (q30 (dot3 m0 m1 m2 (uW x b1 k1 t rf) (uW y b2 k2 t rf) (uW z b3 k3 t rf))) (q30 (dot3 m3 m4 m5 (uW x b1 k1 t rf) (uW y b2 k2 t rf) (uW z b3 k3 t rf))) (q30 (dot3 m6 m7 m8 (uW x b1 k1 t rf) (uW y b2 k2 t rf) (uW z b3 k3 t rf)))):(p.1,p.2.1,p.2.2.1,p.2.2.2)=calR b1 b2 b3 k1 k2 k3 rf m0 m1 m2 m3 m4 m5 m6 m7 m8 x y z t:=by
  have hk:=badC_f.1 h
  obtain ⟨g1,g2,g3,g4⟩:=goodC_iff.1 hk.1
  obtain ⟨r1,r2,r3,r4⟩:=graw_iff.1 hk.2
  obtain ⟨a1,a2,a3⟩:=gV_bd g1
  obtain ⟨a4,a5,a6⟩:=gV_bd g2
  rw [uW_eq r1 a1 a4 r4 g3,uW_eq r2 a2 a5 r4 g3,uW_eq r3 a3 a6 r4 g3] at hp
  unfold calR;rw [if_pos hk,← hp]
theorem calm {b1 b2 b3 k1 k2 k3 rf m0 m1 m2 m3 m4 m5 m6 m7 m8 x y z t:Int} (h:badC b1 b2 b3 k1 k2 k3 rf m0 m1 m2 m3 m4 m5 m6 m7 m8 x y z t=false):I64 m0∧I64 m1∧I64 m2∧I64 m3∧I64 m4∧I64 m5∧I64 m6∧I64 m7∧I64 m8:=by
  have hk:=badC_f.1 h
  obtain ⟨g1,g2,g3,g4⟩:=goodC_iff.1 hk.1
  rw [allw_iff] at g4
  exact ⟨i64_wd (g4 _ (by simp)),i64_wd (g4 _ (by simp)),i64_wd (g4 _ (by simp)),i64_wd (g4 _ (by simp)),i64_wd (g4 _ (by simp)),i64_wd (g4 _ (by simp)),i64_wd (g4 _ (by simp)),i64_wd (g4 _ (by simp)),i64_wd (g4 _ (by simp))⟩
theorem dot_lenI {a b c d e f:Int} (h1:I64 a) (h2:I64 b) (h3:I64 c) (h4:I64 d) (h5:I64 e) (h6:I64 f):Len0 (dot3 a b c d e f):=by
  have:=prod_bd h1 h4
  have:=prod_bd h2 h5
  have:=prod_bd h3 h6
  unfold dot3;exact len_b4 (by omega) (by omega)
section
set_option maxRecDepth 100000
set_option maxHeartbeats 8000000
def cIn8:Con Try.prog where
  f:=41
  sem:=fun xs=>match xs with
    | [.sc (.v (.int .i64 n)),.sc (.v (.int .i64 lo)),.sc (.v (.int .i64 hi))]=>some (True,.tv (tB (inB n lo hi)))
    | _=>none
  ok := by
    intro xs p r' h hp
    refine ⟨⟨_,Try.func41,by kernel_rfl,rfl⟩,fun us w ha=>?_⟩
    split at h
    · rename_i n lo hi
      cases h
      refine fn_ret (cxOk Try.prog ints_ok [] []) follows Try.func41 rfl 100 _ rfl (by simp) ?_ ha
      repeat' first
        | exact trivial
        | (refine And.intro (show regChk _ _ _ _ _=true from by kernel_rfl) (And.intro ?_ ?_))
        | (refine And.intro (fun _=>?_) (fun h=>absurd (show true=false from h) (by decide)))
        | (refine And.intro (fun h=>absurd (show false=true from h) (by decide)) (fun _=>?_))
        | (refine And.intro (fun hb=>?_) (fun hb'=>?_))
        | refine And.intro ?_ ?_
        | intro _
      all_goals first
        | (show some (CR.tv (tB _))=some (CR.tv (tB _));exact tB_eq rfl)
        | (show (_:Bool)=(_:Bool);first|assumption|exact beq_iff_eq.2 (by assumption)|(exact and_tt (by first|assumption|exact beq_iff_eq.2 (by assumption)) (by first|assumption|exact beq_iff_eq.2 (by assumption))))
        | (show (_:Nat)=(_:Nat);rfl)
        | (show (_:Nat)≤1000;decide)
        | (show (_:Int)=(_:Int);rfl)
        | (show (_:Int)≤_;decide)
        | (show (_:Int)<_;decide)
        -- PVC
    · cases h
def cMayRaw:Con Try.prog where
  f:=21
  sem:=fun xs=>match xs with
    | [.agg [.v (.int .i64 x),.v (.int .i64 y),.v (.int .i64 z),.v (.int .i64 t)]]=>some (True,.tv (tB (rawB x y z t)))
    | _=>none
  ok := by
    intro xs p r' h hp
    refine ⟨⟨_,Try.func21,by kernel_rfl,rfl⟩,fun us w ha=>?_⟩
    split at h
    · rename_i x y z t
      cases h
      refine fn_ret (cxOk Try.prog ints_ok [] [cIn8]) follows Try.func21 rfl 100 _ rfl (by simp) ?_ ha
      repeat' first
        | exact trivial
        | (refine And.intro (show regChk _ _ _ _ _=true from by kernel_rfl) (And.intro ?_ ?_))
        | (refine And.intro (fun _=>?_) (fun h=>absurd (show true=false from h) (by decide)))
        | (refine And.intro (fun h=>absurd (show false=true from h) (by decide)) (fun _=>?_))
        | (refine And.intro (fun hb=>?_) (fun hb'=>?_))
        | refine And.intro ?_ ?_
        | intro _
      all_goals first
        | (show some (CR.tv (tB _))=some (CR.tv (tB _));exact tB_eq rfl)
        | (show (_:Bool)=(_:Bool);first|assumption|exact beq_iff_eq.2 (by assumption)|(exact and_tt (by first|assumption|exact beq_iff_eq.2 (by assumption)) (by first|assumption|exact beq_iff_eq.2 (by assumption))))
        | (show (_:Nat)=(_:Nat);rfl)
        | (show (_:Nat)≤1000;decide)
        | (show (_:Int)=(_:Int);rfl)
        | (show (_:Int)≤_;decide)
        | (show (_:Int)<_;decide)
        -- PVC
    · cases h
def cGoodRaw:Con Try.prog where
  f:=43
  sem:=fun xs=>match xs with
    | [.agg [.v (.int .i64 x),.v (.int .i64 y),.v (.int .i64 z),.v (.int .i64 t)]]=>some (True,.tv (tB (graw x y z t)))
    | _=>none
  ok := by
    intro xs p r' h hp
    refine ⟨⟨_,Try.func43,by kernel_rfl,rfl⟩,fun us w ha=>?_⟩
    split at h
    · rename_i x y z t
      cases h
      refine fnu_ret (cxOk Try.prog ints_ok [] []) follows [1,2,11,12,13] Try.func43 rfl 100 _ rfl (by simp) ?_ ha
      repeat' first
        | exact trivial
        | (refine And.intro (show regChk _ _ _ _ _=true from by kernel_rfl) (And.intro ?_ ?_))
        | (refine And.intro (fun _=>?_) (fun h=>absurd (show true=false from h) (by decide)))
        | (refine And.intro (fun h=>absurd (show false=true from h) (by decide)) (fun _=>?_))
        | (refine And.intro (fun hb=>?_) (fun hb'=>?_))
        | refine And.intro ?_ ?_
        | intro _
      all_goals first
        | (show some (CR.tv (tB _))=some (CR.tv (tB _));first|exact tB_eq (graw_0 (by assumption))|exact tB_eq (graw_1 (by assumption) (by assumption))|exact tB_eq (graw_2 (by assumption) (by assumption) (by assumption))|exact tB_eq (graw_3 (by assumption) (by assumption) (by assumption)))
        | (show (_:Bool)=(_:Bool);first|assumption|exact beq_iff_eq.2 (by assumption)|(exact and_tt (by first|assumption|exact beq_iff_eq.2 (by assumption)) (by first|assumption|exact beq_iff_eq.2 (by assumption))))
        | (show (_:Nat)=(_:Nat);rfl)
        | (show (_:Nat)≤1000;decide)
        | (show (_:Int)=(_:Int);rfl)
        | (show (_:Int)≤_;decide)
        | (show (_:Int)<_;decide)
        -- PVC
    · cases h
def cCalGood:Con Try.prog where
  f:=42
  sem:=fun xs=>match xs with
    | [.agg [.v (.int .i64 b1),.v (.int .i64 b2),.v (.int .i64 b3),.v (.int .i64 k1),.v (.int .i64 k2),.v (.int .i64 k3),.v (.int .i64 rf),.v (.int .i64 m0),.v (.int .i64 m1),.v (.int .i64 m2),.v (.int .i64 m3),.v (.int .i64 m4),.v (.int .i64 m5),.v (.int .i64 m6),.v (.int .i64 m7),.v (.int .i64 m8)]]=>some (True,.tv (tB (goodC b1 b2 b3 k1 k2 k3 rf m0 m1 m2 m3 m4 m5 m6 m7 m8)))
    | _=>none
  ok := by
    intro xs p r' h hp
    refine ⟨⟨_,Try.func42,by kernel_rfl,rfl⟩,fun us w ha=>?_⟩
    split at h
    · rename_i b1 b2 b3 k1 k2 k3 rf m0 m1 m2 m3 m4 m5 m6 m7 m8
      cases h
      refine fn_ret (cxOk Try.prog ints_ok [] [cVGood,cAll]) follows Try.func42 rfl 100 _ rfl (by simp) ?_ ha
      repeat' first
        | exact trivial
        | (refine And.intro (show regChk _ _ _ _ _=true from by kernel_rfl) (And.intro ?_ ?_))
        | (refine And.intro (fun _=>?_) (fun h=>absurd (show true=false from h) (by decide)))
        | (refine And.intro (fun h=>absurd (show false=true from h) (by decide)) (fun _=>?_))
        | (refine And.intro (fun hb=>?_) (fun hb'=>?_))
        | refine And.intro ?_ ?_
        | intro _
      all_goals first
        | (show some (CR.tv (tB _))=some (CR.tv (tB _));exact tB_eq rfl)
        | (show (_:Bool)=(_:Bool);first|assumption|exact beq_iff_eq.2 (by assumption)|(exact and_tt (by first|assumption|exact beq_iff_eq.2 (by assumption)) (by first|assumption|exact beq_iff_eq.2 (by assumption))))
        | (show (_:Nat)=(_:Nat);rfl)
        | (show (_:Nat)≤1000;decide)
        | (show (_:Int)=(_:Int);rfl)
        | (show (_:Int)≤_;decide)
        | (show (_:Int)<_;decide)
        -- PVC
    · cases h
def cMayCal:Con Try.prog where
  f:=27
  sem:=fun xs=>match xs with
    | [.agg [.v (.int .i64 b1),.v (.int .i64 b2),.v (.int .i64 b3),.v (.int .i64 k1),.v (.int .i64 k2),.v (.int .i64 k3),.v (.int .i64 rf),.v (.int .i64 m0),.v (.int .i64 m1),.v (.int .i64 m2),.v (.int .i64 m3),.v (.int .i64 m4),.v (.int .i64 m5),.v (.int .i64 m6),.v (.int .i64 m7),.v (.int .i64 m8)]]=>some (True,.tv (tB (mayC b1 b2 b3 k1 k2 k3 rf m0 m1 m2 m3 m4 m5 m6 m7 m8)))
    | _=>none
  ok := by
    intro xs p r' h hp
    refine ⟨⟨_,Try.func27,by kernel_rfl,rfl⟩,fun us w ha=>?_⟩
    split at h
    · rename_i b1 b2 b3 k1 k2 k3 rf m0 m1 m2 m3 m4 m5 m6 m7 m8
      cases h
      refine fnu_ret (cxOk Try.prog ints_ok [] [cR1May,cR3May]) follows [1,2,3] Try.func27 rfl 100 _ rfl (by simp) ?_ ha
      repeat' first
        | exact trivial
        | (refine And.intro (show regChk _ _ _ _ _=true from by kernel_rfl) (And.intro ?_ ?_))
        | (refine And.intro (fun _=>?_) (fun h=>absurd (show true=false from h) (by decide)))
        | (refine And.intro (fun h=>absurd (show false=true from h) (by decide)) (fun _=>?_))
        | (refine And.intro (fun hb=>?_) (fun hb'=>?_))
        | refine And.intro ?_ ?_
        | intro _
      all_goals first
        | (show some (CR.tv (tB _))=some (CR.tv (tB _));first|exact tB_eq (mayC_0 (by assumption))|exact tB_eq (mayC_1 (by assumption) (by assumption))|exact tB_eq (mayC_2 (by assumption) (by assumption) (by assumption))|exact tB_eq (mayC_3 (by assumption) (by assumption) (by assumption) (by assumption))|exact tB_eq (mayC_4 (by assumption) (by assumption) (by assumption) (by assumption) (by assumption))|exact tB_eq (mayC_5 (by assumption) (by assumption) (by assumption) (by assumption) (by assumption) (by assumption))|exact tB_eq (mayC_6 (by assumption) (by assumption) (by assumption) (by assumption) (by assumption) (by assumption) (by assumption))|exact tB_eq (mayC_7 (by assumption) (by assumption) (by assumption) (by assumption) (by assumption) (by assumption) (by assumption) (by assumption))|exact tB_eq (mayC_8 (by assumption) (by assumption) (by assumption) (by assumption) (by assumption) (by assumption) (by assumption) (by assumption) (by assumption))|exact tB_eq (mayC_9 (by assumption) (by assumption) (by assumption) (by assumption) (by assumption) (by assumption) (by assumption) (by assumption) (by assumption)))
        | (show (_:Bool)=(_:Bool);first|assumption|exact beq_iff_eq.2 (by assumption)|(exact and_tt (by first|assumption|exact beq_iff_eq.2 (by assumption)) (by first|assumption|exact beq_iff_eq.2 (by assumption))))
        | (show (_:Nat)=(_:Nat);rfl)
        | (show (_:Nat)≤1000;decide)
        | (show (_:Int)=(_:Int);rfl)
        | (show (_:Int)≤_;decide)
        | (show (_:Int)<_;decide)
        -- PVC
    · cases h
def cRaw:Con Try.prog where
  f:=45
  sem:=fun xs=>match xs with
    | [.agg [.v (.int .i64 x),.v (.int .i64 y),.v (.int .i64 z),.v (.int .i64 t)]]=>some (True,.new 2 3 1 [.v (.int .i64 (IntKind.i64.wrap (1024*x))),.v (.int .i64 (IntKind.i64.wrap (1024*y))),.v (.int .i64 (IntKind.i64.wrap (1024*z)))])
    | _=>none
  ok := by
    intro xs p r' h hp
    refine ⟨⟨_,Try.func45,by kernel_rfl,rfl⟩,fun us w ha=>?_⟩
    split at h
    · rename_i x y z t
      cases h
      refine fn_ret (cxOk Try.prog ints_ok [] []) follows Try.func45 rfl 100 _ rfl (by simp) ?_ ha
      repeat' first
        | exact trivial
        | (refine And.intro (show regChk _ _ _ _ _=true from by kernel_rfl) (And.intro ?_ ?_))
        | (refine And.intro (fun _=>?_) (fun h=>absurd (show true=false from h) (by decide)))
        | (refine And.intro (fun h=>absurd (show false=true from h) (by decide)) (fun _=>?_))
        | (refine And.intro (fun hb=>?_) (fun hb'=>?_))
        | refine And.intro ?_ ?_
      all_goals first
        | (show some (CR.new _ _ _ _)=some (CR.new _ _ _ _);rfl)
        | (show (_:Nat)=(_:Nat);rfl)
        | (show (_:Nat)≤1000;decide)
        | (show (_:Int)=(_:Int);rfl)
        | (show (_:Int)≤_;decide)
        | (show (_:Int)<_;decide)
        -- PVC
    · cases h
def cCal1:Con Try.prog where
  f:=47
  sem:=fun xs=>match xs with
    | [.sc (.v (.int .i64 x)),.sc (.v (.int .i64 y))]=>some (True,.tv (tN .i64 (IntKind.i64.wrap (x-y))))
    | _=>none
  ok := by
    intro xs p r' h hp
    refine ⟨⟨_,Try.func47,by kernel_rfl,rfl⟩,fun us w ha=>?_⟩
    split at h
    · rename_i x y
      cases h
      refine fn_ret (cxOk Try.prog ints_ok [] []) follows Try.func47 rfl 100 _ rfl (by simp) ?_ ha
      repeat' first
        | exact trivial
        | (refine And.intro (show regChk _ _ _ _ _=true from by kernel_rfl) (And.intro ?_ ?_))
        | (refine And.intro (fun _=>?_) (fun h=>absurd (show true=false from h) (by decide)))
        | (refine And.intro (fun h=>absurd (show false=true from h) (by decide)) (fun _=>?_))
        | (refine And.intro (fun hb=>?_) (fun hb'=>?_))
        | refine And.intro ?_ ?_
      all_goals first
        | (show some (CR.tv (tN _ _))=some (CR.tv (tN _ _));rfl)
        | (show (_:Nat)=(_:Nat);rfl)
        | (show (_:Nat)≤1000;decide)
        | (show (_:Int)=(_:Int);rfl)
        | (show (_:Int)≤_;decide)
        | (show (_:Int)<_;decide)
        -- PVC
    · cases h
def cCal2:Con Try.prog where
  f:=48
  sem:=fun xs=>match xs with
    | [.sc (.v (.int .i64 x)),.sc (.v (.int .i64 y)),.rptr [.v (.int .i64 d)]]=>some (True,.tv (tN .i64 (IntKind.i64.wrap (x-IntKind.i64.wrap (y*d)))))
    | _=>none
  ok := by
    intro xs p r' h hp
    refine ⟨⟨_,Try.func48,by kernel_rfl,rfl⟩,fun us w ha=>?_⟩
    split at h
    · rename_i x y d
      cases h
      refine fn_ret (cxOk Try.prog ints_ok [] []) follows Try.func48 rfl 100 _ rfl (by simp) ?_ ha
      repeat' first
        | exact trivial
        | (refine And.intro (show regChk _ _ _ _ _=true from by kernel_rfl) (And.intro ?_ ?_))
        | (refine And.intro (fun _=>?_) (fun h=>absurd (show true=false from h) (by decide)))
        | (refine And.intro (fun h=>absurd (show false=true from h) (by decide)) (fun _=>?_))
        | (refine And.intro (fun hb=>?_) (fun hb'=>?_))
        | refine And.intro ?_ ?_
      all_goals first
        | (show some (CR.tv (tN _ _))=some (CR.tv (tN _ _));rfl)
        | (show (_:Nat)=(_:Nat);rfl)
        | (show (_:Nat)≤1000;decide)
        | (show (_:Int)=(_:Int);rfl)
        | (show (_:Int)≤_;decide)
        | (show (_:Int)<_;decide)
        -- PVC
    · cases h
def cEachC1:Con Try.prog where
  f:=44
  sem:=fun xs=>match xs with
    | [.row 3 [.v (.int .i64 a),.v (.int .i64 b),.v (.int .i64 c)],.row 3 [.v (.int .i64 d),.v (.int .i64 e),.v (.int .i64 f)],.clo g []]=>if g=47 then some (True,.new 2 3 1 [.v (.int .i64 (IntKind.i64.wrap (a-d))),.v (.int .i64 (IntKind.i64.wrap (b-e))),.v (.int .i64 (IntKind.i64.wrap (c-f)))]) else none
    | _=>none
  ok := by
    intro xs p r' h hp
    refine ⟨⟨_,Try.func44,by kernel_rfl,rfl⟩,fun us w ha=>?_⟩
    split at h
    · rename_i a b c d e f g
      split at h
      case isFalse=>cases h
      rename_i hf
      subst hf
      cases h
      refine fnu_ret (cxOk Try.prog ints_ok [] [cCal1]) follows [0,1,2,6,9,10,11] Try.func44 rfl 100 _ rfl (by simp) ?_ ha
      repeat' first
        | exact trivial
        | (refine And.intro (show regChk _ _ _ _ _=true from by kernel_rfl) (And.intro ?_ ?_))
        | (refine And.intro (fun _=>?_) (fun h=>absurd (show true=false from h) (by decide)))
        | (refine And.intro (fun h=>absurd (show false=true from h) (by decide)) (fun _=>?_))
        | (refine And.intro (fun hb=>?_) (fun hb'=>?_))
        | refine And.intro ?_ ?_
      all_goals first
        | (show some (CR.new _ _ _ _)=some (CR.new _ _ _ _);rfl)
        | (show (_:Int)≤_;decide)
        | (show (_:Int)<_;decide)
        | (show (_:Nat)=(_:Nat);rfl)
        | (show (_:Nat)≤1000;decide)
        | (show (_:Int)=(_:Int);rfl)
        | (show (_:Int)≤_;decide)
        | (show (_:Int)<_;decide)
        -- PVC
    · cases h
def cEachC2:Con Try.prog where
  f:=44
  sem:=fun xs=>match xs with
    | [.row 3 [.v (.int .i64 a),.v (.int .i64 b),.v (.int .i64 c)],.row 3 [.v (.int .i64 d),.v (.int .i64 e),.v (.int .i64 f)],.clo g [[.v (.int .i64 k)]]]=>if g=48 then some (True,.new 2 3 1 [.v (.int .i64 (IntKind.i64.wrap (a-IntKind.i64.wrap (d*k)))),.v (.int .i64 (IntKind.i64.wrap (b-IntKind.i64.wrap (e*k)))),.v (.int .i64 (IntKind.i64.wrap (c-IntKind.i64.wrap (f*k))))]) else none
    | _=>none
  ok := by
    intro xs p r' h hp
    refine ⟨⟨_,Try.func44,by kernel_rfl,rfl⟩,fun us w ha=>?_⟩
    split at h
    · rename_i a b c d e f g k
      split at h
      case isFalse=>cases h
      rename_i hf
      subst hf
      cases h
      refine fnu_ret (cxOk Try.prog ints_ok [] [cCal2]) follows [0,1,2,6,9,10,11] Try.func44 rfl 100 _ rfl (by simp) ?_ ha
      repeat' first
        | exact trivial
        | (refine And.intro (show regChk _ _ _ _ _=true from by kernel_rfl) (And.intro ?_ ?_))
        | (refine And.intro (fun _=>?_) (fun h=>absurd (show true=false from h) (by decide)))
        | (refine And.intro (fun h=>absurd (show false=true from h) (by decide)) (fun _=>?_))
        | (refine And.intro (fun hb=>?_) (fun hb'=>?_))
        | refine And.intro ?_ ?_
      all_goals first
        | (show some (CR.new _ _ _ _)=some (CR.new _ _ _ _);rfl)
        | (show (_:Int)≤_;decide)
        | (show (_:Int)<_;decide)
        | (show (_:Nat)=(_:Nat);rfl)
        | (show (_:Nat)≤1000;decide)
        | (show (_:Int)=(_:Int);rfl)
        | (show (_:Int)≤_;decide)
        | (show (_:Int)<_;decide)
        -- PVC
    · cases h
def cPlain:Con Try.prog where
  f:=22
  sem:=fun xs=>match xs with
    | []=>some (True,.tv (.agg [.v (.int .i64 0),.v (.int .i64 0),.v (.int .i64 0),.v (.int .i64 0),.v (.int .i64 0),.v (.int .i64 0),.v (.int .i64 0),.v (.int .i64 1073741824),.v (.int .i64 0),.v (.int .i64 0),.v (.int .i64 0),.v (.int .i64 1073741824),.v (.int .i64 0),.v (.int .i64 0),.v (.int .i64 0),.v (.int .i64 1073741824)]))
    | _=>none
  ok := by
    intro xs p r' h hp
    refine ⟨⟨_,Try.func22,by kernel_rfl,rfl⟩,fun us w ha=>?_⟩
    split at h
    · skip
      cases h
      refine fn_ret (cxOk Try.prog ints_ok [] []) follows Try.func22 rfl 100 _ rfl (by simp) ?_ ha
      repeat' first
        | exact trivial
        | (refine And.intro (show regChk _ _ _ _ _=true from by kernel_rfl) (And.intro ?_ ?_))
        | (refine And.intro (fun _=>?_) (fun h=>absurd (show true=false from h) (by decide)))
        | (refine And.intro (fun h=>absurd (show false=true from h) (by decide)) (fun _=>?_))
        | (refine And.intro (fun hb=>?_) (fun hb'=>?_))
        | refine And.intro ?_ ?_
      all_goals first
        | (show some (CR.tv (.agg _))=some (CR.tv (.agg _));rfl)
        | (show (_:Nat)=(_:Nat);rfl)
        | (show (_:Nat)≤1000;decide)
        | (show (_:Int)=(_:Int);rfl)
        | (show (_:Int)≤_;decide)
        | (show (_:Int)<_;decide)
        -- PVC
    · cases h
theorem congr3 {α β:Type} (f:α→α→α→β) {a a' b b' c c':α} (h1:a=a') (h2:b=b') (h3:c=c'):f a b c=f a' b' c':=by rw [h1,h2,h3]
def cCal:Con Try.prog where
  f:=23
  sem:=fun xs=>match xs with
    | [.agg [.v (.int .i64 b1),.v (.int .i64 b2),.v (.int .i64 b3),.v (.int .i64 k1),.v (.int .i64 k2),.v (.int .i64 k3),.v (.int .i64 rf),.v (.int .i64 m0),.v (.int .i64 m1),.v (.int .i64 m2),.v (.int .i64 m3),.v (.int .i64 m4),.v (.int .i64 m5),.v (.int .i64 m6),.v (.int .i64 m7),.v (.int .i64 m8)],.agg [.v (.int .i64 x),.v (.int .i64 y),.v (.int .i64 z),.v (.int .i64 t)]]=>some (True,.tv (tV4 (calR b1 b2 b3 k1 k2 k3 rf m0 m1 m2 m3 m4 m5 m6 m7 m8 x y z t)))
    | _=>none
  ok := by
    intro xs p r' h hp
    refine ⟨⟨_,Try.func23,by kernel_rfl,rfl⟩,fun us w ha=>?_⟩
    split at h
    · rename_i b1 b2 b3 k1 k2 k3 rf m0 m1 m2 m3 m4 m5 m6 m7 m8 x y z t
      cases h
      refine fnu_ret (cxOk Try.prog ints_ok [] [cCalGood,cGoodRaw,cRaw,cVOf,conOr cEachC1 cEachC2 rfl,cSum,cPower,cRound,cVTold]) follows [2,3,4,5,7,8,9] Try.func23 rfl 100 _ rfl (by simp) ?_ ha
      repeat' first
        | exact trivial
        | (refine And.intro (show regChk _ _ _ _ _=true from by kernel_rfl) (And.intro ?_ ?_))
        | (refine And.intro (fun _=>?_) (fun h=>absurd (show true=false from h) (by decide)))
        | (refine And.intro (fun h=>absurd (show false=true from h) (by decide)) (fun _=>?_))
        | (refine And.intro (fun hb=>?_) (fun hb'=>?_))
        | refine And.intro ?_ ?_
        | (intro (hg:(_:Bool)=true))
        | (intro (hg:(_:Bool)=false))
      all_goals first
        | (show some (CR.tv (.tup _))=some (CR.tv (tV4 _));first|exact v4_eq (cal_bad (by assumption))|exact v4_eq (cal_ok (show badC b1 b2 b3 k1 k2 k3 rf m0 m1 m2 m3 m4 m5 m6 m7 m8 x y z t=false from by assumption) (congr3 vT (q30_eq _) (q30_eq _) (q30_eq _))))
        | (show (_:Bool)=(_:Bool);first|assumption|exact beq_iff_eq.2 (by assumption))
        | (show (_:Int)≠0;decide)
        | (show Int.natAbs _<(_:Nat);decide)
        | (show Len0 _;have hk:=calm (show badC b1 b2 b3 k1 k2 k3 rf m0 m1 m2 m3 m4 m5 m6 m7 m8 x y z t=false from by assumption);first|exact dot_lenI hk.1 hk.2.1 hk.2.2.1 (wI _) (wI _) (wI _)|exact dot_lenI hk.2.2.2.1 hk.2.2.2.2.1 hk.2.2.2.2.2.1 (wI _) (wI _) (wI _)|exact dot_lenI hk.2.2.2.2.2.2.1 hk.2.2.2.2.2.2.2.1 hk.2.2.2.2.2.2.2.2 (wI _) (wI _) (wI _))
        | (show (_:Int)≤_;have hk:=calm (show badC b1 b2 b3 k1 k2 k3 rf m0 m1 m2 m3 m4 m5 m6 m7 m8 x y z t=false from by assumption);first|exact (wI _).1|exact hk.1.1|exact hk.2.1.1|exact hk.2.2.1.1|exact hk.2.2.2.1.1|exact hk.2.2.2.2.1.1|exact hk.2.2.2.2.2.1.1|exact hk.2.2.2.2.2.2.1.1|exact hk.2.2.2.2.2.2.2.1.1|exact hk.2.2.2.2.2.2.2.2.1|decide)
        | (show (_:Int)<_;have hk:=calm (show badC b1 b2 b3 k1 k2 k3 rf m0 m1 m2 m3 m4 m5 m6 m7 m8 x y z t=false from by assumption);first|exact (wI _).2|exact hk.1.2|exact hk.2.1.2|exact hk.2.2.1.2|exact hk.2.2.2.1.2|exact hk.2.2.2.2.1.2|exact hk.2.2.2.2.2.1.2|exact hk.2.2.2.2.2.2.1.2|exact hk.2.2.2.2.2.2.2.1.2|exact hk.2.2.2.2.2.2.2.2.2|decide)
        | (intro hg;first|assumption|exact beq_iff_eq.2 hg)
        | (show (_:Nat)=(_:Nat);rfl)
        | (show (_:Nat)≤1000;decide)
        | (show (_:Int)=(_:Int);rfl)
        | (show (_:Int)≤_;decide)
        | (show (_:Int)<_;decide)
        -- PVC
    · cases h
def cWakes10:Con Try.prog where
  f:=25
  sem:=fun xs=>match xs with
    | []=>some (True,.tv (tB true))
    | _=>none
  ok := by
    intro xs p r' h hp
    refine ⟨⟨_,Try.func25,by kernel_rfl,rfl⟩,fun us w ha=>?_⟩
    split at h
    · skip
      cases h
      refine fn_ret (cxOk Try.prog ints_ok [eqVec] [cPlain,cCal,cNum10]) follows Try.func25 rfl 100 _ rfl (by simp) ?_ ha
      repeat' first
        | exact trivial
        | (refine And.intro (show regChk _ _ _ _ _=true from by kernel_rfl) (And.intro ?_ ?_))
        | (refine And.intro (fun _=>?_) (fun h=>absurd (show true=false from h) (by decide)))
        | (refine And.intro (fun h=>absurd (show false=true from h) (by decide)) (fun _=>?_))
        | (refine And.intro (fun hb=>?_) (fun hb'=>?_))
        | refine And.intro ?_ ?_
        | intro _
      all_goals first
        | (show some (CR.tv (tB _))=some (CR.tv (tB _));exact tB_eq (by decide +kernel))
        | (show (_:Bool)=(_:Bool);first|assumption|exact beq_iff_eq.2 (by assumption)|(exact and_tt (by first|assumption|exact beq_iff_eq.2 (by assumption)) (by first|assumption|exact beq_iff_eq.2 (by assumption))))
        | (show (_:Nat)=(_:Nat);rfl)
        | (show (_:Nat)≤1000;decide)
        | (show (_:Int)=(_:Int);rfl)
        | (show (_:Int)≤_;decide)
        | (show (_:Int)<_;decide)
        -- PVC
    · cases h
end
end Go.Proofs.Ytonelbidndjhdaa.Wh
end
section
set_option linter.unusedVariables false
set_option linter.unusedSimpArgs false
namespace Go.Proofs.Ytonelbidndjhdaa.Wh
open Go Go.RowKit Go.Proofs.YtonelbidndjhdaaW.PrintWords Go.Proofs.YtonelbidndjhdaaW.PrintMore Go.Proofs.YtonelbidndjhdaaW.Aid Go.Proofs.YtonelbidndjhdaaW.Big Go.Proofs.YtonelbidndjhdaaW.Sx Go.Proofs.Ytonelbidndjhdaa.BitsWalk Go.Proofs.Ytonelbidndjhdaa.Limbs Go.Proofs.Ytonelbidndjhdaa.Whole Go.Proofs.Ytonelbidndjhdaa.FxWalk Go.Proofs
theorem q30n (a:Int):q30 (-a) = -q30 a:=rp_neg a (by decide)
theorem raw_g {x y z t:Int} (h:(!rawB x y z t)=false):graw x y z t=true:=graw_iff.2 (rawB_iff.1 (nbf h))
theorem g000:gV 0 0 0=true:=by decide
theorem cU0 (x d:Int):calU x 0 0 d=1024*x:=by unfold calU;rw [Int.zero_mul];omega
theorem bifn {a b:Bool} (h:(bif !a then false else b)=true):a=true∧b=true:=by cases a<;>simp_all
theorem mayC_ok {b1 b2 b3 k1 k2 k3 rf m0 m1 m2 m3 m4 m5 m6 m7 m8:Int} (h:mayC b1 b2 b3 k1 k2 k3 rf m0 m1 m2 m3 m4 m5 m6 m7 m8=true):(gV b1 b2 b3=true∧gV k1 k2 k3=true∧(-128≤rf∧rf≤127))∧wd m0=true∧wd m1=true∧wd m2=true∧wd m3=true∧wd m4=true∧wd m5=true∧wd m6=true∧wd m7=true∧wd m8=true:=by
  unfold mayC at h
  obtain ⟨a0,h⟩:=bifn h
  obtain ⟨a1,h⟩:=bifn h
  obtain ⟨a2,h⟩:=bifn h
  obtain ⟨a3,h⟩:=bifn h
  obtain ⟨a4,h⟩:=bifn h
  obtain ⟨a5,h⟩:=bifn h
  obtain ⟨a6,h⟩:=bifn h
  obtain ⟨a7,h⟩:=bifn h
  obtain ⟨a8,h⟩:=bifn h
  refine ⟨?_,a0,a1,a2,a3,a4,a5,a6,a7,a8⟩
  by_cases c1:rf ≥ -128<;>by_cases c2:rf≤127<;>cases h1:gV b1 b2 b3<;>cases h2:gV k1 k2 k3<;>simp [h1,h2,c1,c2] at h ⊢<;>omega
theorem all9 {m0 m1 m2 m3 m4 m5 m6 m7 m8:Int} (a0:wd m0=true) (a1:wd m1=true) (a2:wd m2=true) (a3:wd m3=true) (a4:wd m4=true) (a5:wd m5=true) (a6:wd m6=true) (a7:wd m7=true) (a8:wd m8=true):allw [m0,m1,m2,m3,m4,m5,m6,m7,m8]=true:=by
  simp [allw,a0,a1,a2,a3,a4,a5,a6,a7,a8]
theorem vT_swap (a b c:Int):vT b a c=((vT a b c).2.1,(vT a b c).1,(vT a b c).2.2.1,(vT a b c).2.2.2):=by
  unfold vT
  cases wd a<;>cases wd b<;>cases wd c<;>rfl
theorem vT_neg (a b c:Int):vT (-a) (-b) (-c)=(-(vT a b c).1,-(vT a b c).2.1,-(vT a b c).2.2.1,(vT a b c).2.2.2):=by
  have w:∀ q:Int,wd (-q)=wd q:=fun q=>by
    unfold wd
    by_cases h1 : -35184372088832<q<;>by_cases h2:q<35184372088832<;>simp [h1,h2]<;>omega
  unfold vT
  rw [w,w,w]
  cases wd a<;>cases wd b<;>cases wd c<;>rfl
theorem vT_wd (a b c:Int):wd (vT a b c).1=true∧wd (vT a b c).2.1=true∧wd (vT a b c).2.2.1=true:=by
  unfold vT
  by_cases h:(wd a&&(wd b&&wd c))=true
  · rw [if_pos h];simp only [Bool.and_eq_true] at h;exact h
  · rw [if_neg h];exact ⟨by decide,by decide,by decide⟩
theorem hR10 {b1 b2 b3 k1 k2 k3 rf m0 m1 m2 m3 m4 m5 m6 m7 m8 x y z t:Int} (h:(bif !mayC b1 b2 b3 k1 k2 k3 rf m0 m1 m2 m3 m4 m5 m6 m7 m8 then true else !rawB x y z t)=false):mayC b1 b2 b3 k1 k2 k3 rf m0 m1 m2 m3 m4 m5 m6 m7 m8=true∧graw x y z t=true:=by
  cases h1:mayC b1 b2 b3 k1 k2 k3 rf m0 m1 m2 m3 m4 m5 m6 m7 m8 with
  | false=>rw [h1] at h;cases h
  | true=>rw [h1] at h;exact ⟨rfl,raw_g h⟩
theorem cr1 {b1 b2 b3 k1 k2 k3 rf m0 m1 m2 m3 m4 m5 m6 m7 m8 x y z t:Int} (h:(bif !mayC b1 b2 b3 k1 k2 k3 rf m0 m1 m2 m3 m4 m5 m6 m7 m8 then true else !rawB x y z t)=false) :
    (bif (calR b1 b2 b3 k1 k2 k3 rf m0 m1 m2 m3 m4 m5 m6 m7 m8 x y z t).2.2.2 != (calR b1 b2 b3 k1 k2 k3 rf m3 m4 m5 m0 m1 m2 m6 m7 m8 x y z t).2.2.2 then true else !eqL (cells3 (calR b1 b2 b3 k1 k2 k3 rf m3 m4 m5 m0 m1 m2 m6 m7 m8 x y z t).1 (calR b1 b2 b3 k1 k2 k3 rf m3 m4 m5 m0 m1 m2 m6 m7 m8 x y z t).2.1 (calR b1 b2 b3 k1 k2 k3 rf m3 m4 m5 m0 m1 m2 m6 m7 m8 x y z t).2.2.1) (cells3 (calR b1 b2 b3 k1 k2 k3 rf m0 m1 m2 m3 m4 m5 m6 m7 m8 x y z t).2.1 (calR b1 b2 b3 k1 k2 k3 rf m0 m1 m2 m3 m4 m5 m6 m7 m8 x y z t).1 (calR b1 b2 b3 k1 k2 k3 rf m0 m1 m2 m3 m4 m5 m6 m7 m8 x y z t).2.2.1))=false:=by
  obtain ⟨h1,hg⟩:=hR10 h
  obtain ⟨⟨g1,g2,g3⟩,a0,a1,a2,a3,a4,a5,a6,a7,a8⟩:=mayC_ok h1
  have o1:CalOk b1 b2 b3 k1 k2 k3 rf m0 m1 m2 m3 m4 m5 m6 m7 m8 x y z t:=⟨goodC_iff.2 ⟨g1,g2,g3,all9 a0 a1 a2 a3 a4 a5 a6 a7 a8⟩,hg⟩
  have o2:CalOk b1 b2 b3 k1 k2 k3 rf m3 m4 m5 m0 m1 m2 m6 m7 m8 x y z t:=⟨goodC_iff.2 ⟨g1,g2,g3,all9 a3 a4 a5 a0 a1 a2 a6 a7 a8⟩,hg⟩
  have e:calR b1 b2 b3 k1 k2 k3 rf m3 m4 m5 m0 m1 m2 m6 m7 m8 x y z t=((calR b1 b2 b3 k1 k2 k3 rf m0 m1 m2 m3 m4 m5 m6 m7 m8 x y z t).2.1,(calR b1 b2 b3 k1 k2 k3 rf m0 m1 m2 m3 m4 m5 m6 m7 m8 x y z t).1,(calR b1 b2 b3 k1 k2 k3 rf m0 m1 m2 m3 m4 m5 m6 m7 m8 x y z t).2.2.1,(calR b1 b2 b3 k1 k2 k3 rf m0 m1 m2 m3 m4 m5 m6 m7 m8 x y z t).2.2.2):=by
    unfold calR;rw [if_pos o1,if_pos o2];exact vT_swap _ _ _
  rw [e];simp [eqL,eqV]
theorem dneg (a b c d e f:Int):dot3 a b c (-d) (-e) (-f) = -dot3 a b c d e f:=by unfold dot3;rw [Int.mul_neg,Int.mul_neg,Int.mul_neg];omega
abbrev ng (x:Int):Int:=IntKind.i64.wrap (0-x)
theorem cr2 {b1 b2 b3 k1 k2 k3 rf m0 m1 m2 m3 m4 m5 m6 m7 m8 x y z t:Int} (h:(bif !mayC b1 b2 b3 k1 k2 k3 rf m0 m1 m2 m3 m4 m5 m6 m7 m8 then true else !rawB x y z t)=false) (h':(!rawB (ng x) (ng y) (ng z) t)=false) :
    (bif (calR 0 0 0 0 0 0 rf m0 m1 m2 m3 m4 m5 m6 m7 m8 x y z t).2.2.2 != (calR 0 0 0 0 0 0 rf m0 m1 m2 m3 m4 m5 m6 m7 m8 (ng x) (ng y) (ng z) t).2.2.2 then true else !eqL (cells3 (calR 0 0 0 0 0 0 rf m0 m1 m2 m3 m4 m5 m6 m7 m8 (ng x) (ng y) (ng z) t).1 (calR 0 0 0 0 0 0 rf m0 m1 m2 m3 m4 m5 m6 m7 m8 (ng x) (ng y) (ng z) t).2.1 (calR 0 0 0 0 0 0 rf m0 m1 m2 m3 m4 m5 m6 m7 m8 (ng x) (ng y) (ng z) t).2.2.1) (cells3 (ng (calR 0 0 0 0 0 0 rf m0 m1 m2 m3 m4 m5 m6 m7 m8 x y z t).1) (ng (calR 0 0 0 0 0 0 rf m0 m1 m2 m3 m4 m5 m6 m7 m8 x y z t).2.1) (ng (calR 0 0 0 0 0 0 rf m0 m1 m2 m3 m4 m5 m6 m7 m8 x y z t).2.2.1)))=false:=by
  obtain ⟨h1,hg⟩:=hR10 h
  have hg':=raw_g h'
  obtain ⟨r1,r2,r3,r4⟩:=graw_iff.1 hg
  obtain ⟨⟨g1,g2,g3⟩,a0,a1,a2,a3,a4,a5,a6,a7,a8⟩:=mayC_ok h1
  have o1:CalOk 0 0 0 0 0 0 rf m0 m1 m2 m3 m4 m5 m6 m7 m8 x y z t:=⟨goodC_iff.2 ⟨g000,g000,g3,all9 a0 a1 a2 a3 a4 a5 a6 a7 a8⟩,hg⟩
  have o2:CalOk 0 0 0 0 0 0 rf m0 m1 m2 m3 m4 m5 m6 m7 m8 (ng x) (ng y) (ng z) t:=⟨goodC_iff.2 ⟨g000,g000,g3,all9 a0 a1 a2 a3 a4 a5 a6 a7 a8⟩,hg'⟩
  have n:∀ q:Int,-32768≤q∧q≤32767→calU (ng q) 0 0 (t-rf) = -calU q 0 0 (t-rf):=fun q hq=>by
    unfold ng;rw [wr (by omega) (by omega),cU0,cU0];omega
  have e:calR 0 0 0 0 0 0 rf m0 m1 m2 m3 m4 m5 m6 m7 m8 (ng x) (ng y) (ng z) t=(-(calR 0 0 0 0 0 0 rf m0 m1 m2 m3 m4 m5 m6 m7 m8 x y z t).1,-(calR 0 0 0 0 0 0 rf m0 m1 m2 m3 m4 m5 m6 m7 m8 x y z t).2.1,-(calR 0 0 0 0 0 0 rf m0 m1 m2 m3 m4 m5 m6 m7 m8 x y z t).2.2.1,(calR 0 0 0 0 0 0 rf m0 m1 m2 m3 m4 m5 m6 m7 m8 x y z t).2.2.2):=by
    unfold calR;rw [if_pos o1,if_pos o2,n x r1,n y r2,n z r3,dneg,dneg,dneg,q30n,q30n,q30n];exact vT_neg _ _ _
  have w:wd (calR 0 0 0 0 0 0 rf m0 m1 m2 m3 m4 m5 m6 m7 m8 x y z t).1=true∧wd (calR 0 0 0 0 0 0 rf m0 m1 m2 m3 m4 m5 m6 m7 m8 x y z t).2.1=true∧wd (calR 0 0 0 0 0 0 rf m0 m1 m2 m3 m4 m5 m6 m7 m8 x y z t).2.2.1=true:=by
    unfold calR;rw [if_pos o1];exact vT_wd _ _ _
  have nw:∀ q:Int,wd q=true→ng q = -q:=fun q hq=>by rw [wd_iff] at hq;unfold ng;rw [wr (by omega) (by omega)];omega
  rw [e,nw _ w.1,nw _ w.2.1,nw _ w.2.2];simp [eqL,eqV]
end Go.Proofs.Ytonelbidndjhdaa.Wh
end
section
set_option linter.unusedVariables false
set_option linter.unusedSimpArgs false
namespace Go.Proofs.Ytonelbidndjhdaa.Wh
open Go Go.RowKit Go.Proofs.YtonelbidndjhdaaW.PrintWords Go.Proofs.YtonelbidndjhdaaW.PrintMore Go.Proofs.YtonelbidndjhdaaW.Aid Go.Proofs.YtonelbidndjhdaaW.Big Go.Proofs.YtonelbidndjhdaaW.Sx Go.Proofs.Ytonelbidndjhdaa.BitsWalk Go.Proofs.Ytonelbidndjhdaa.Limbs Go.Proofs.Ytonelbidndjhdaa.Whole Go.Proofs.Ytonelbidndjhdaa.FxWalk Go.Proofs
section
set_option maxRecDepth 100000
set_option maxHeartbeats 8000000
abbrev row_calRows (b1 b2 b3 k1 k2 k3 rf m0 m1 m2 m3 m4 m5 m6 m7 m8 x y z t:Nat→Int):Nat→List A0:=fun j=>[.v (.int .i64 (b1 j)),.v (.int .i64 (b2 j)),.v (.int .i64 (b3 j)),.v (.int .i64 (k1 j)),.v (.int .i64 (k2 j)),.v (.int .i64 (k3 j)),.v (.int .i64 (rf j)),.v (.int .i64 (m0 j)),.v (.int .i64 (m1 j)),.v (.int .i64 (m2 j)),.v (.int .i64 (m3 j)),.v (.int .i64 (m4 j)),.v (.int .i64 (m5 j)),.v (.int .i64 (m6 j)),.v (.int .i64 (m7 j)),.v (.int .i64 (m8 j)),.v (.int .i64 (x j)),.v (.int .i64 (y j)),.v (.int .i64 (z j)),.v (.int .i64 (t j))]
theorem calRows_law (n:Nat) (b1 b2 b3 k1 k2 k3 rf m0 m1 m2 m3 m4 m5 m6 m7 m8 x y z t:Nat→Int) (hW:∀ j,I64 (b1 j)∧I64 (b2 j)∧I64 (b3 j)∧I64 (k1 j)∧I64 (k2 j)∧I64 (k3 j)∧I64 (rf j)∧I64 (m0 j)∧I64 (m1 j)∧I64 (m2 j)∧I64 (m3 j)∧I64 (m4 j)∧I64 (m5 j)∧I64 (m6 j)∧I64 (m7 j)∧I64 (m8 j)∧I64 (x j)∧I64 (y j)∧I64 (z j)∧I64 (t j)) {us:List Value} {w:World} (hargs:All2 (TV.reads (fun _=>0) w.heap.size w) [.rowF n 20 (row_calRows b1 b2 b3 k1 k2 k3 rf m0 m1 m2 m3 m4 m5 m6 m7 m8 x y z t)] us):Ret Try.prog 8 us.toArray w (.tv (tB true)):=by
  refine fnl_ret (lawL 20 n (row_calRows b1 b2 b3 k1 k2 k3 rf m0 m1 m2 m3 m4 m5 m6 m7 m8 x y z t) 2) (cxOk Try.prog ints_ok [eqVec] [cMayRaw,cMayCal,cCal,cNum10,cWakes10]) follows Try.func8 rfl 400 _ rfl (by simp) ?_ hargs
  repeat' first
    | exact trivial
    | (refine And.intro (show regChk _ _ _ _ _=true from by kernel_rfl) (And.intro ?_ ?_))
    | (refine And.intro (fun _=>?_) (fun h=>absurd (show true=false from h) (by decide)))
    | (refine And.intro (fun h=>absurd (show false=true from h) (by decide)) (fun _=>?_))
    | (have:=hA;refine And.intro (fun hb=>?_) (fun hb'=>?_))
    | (have:=hC;refine And.intro (fun hA=>?_) (fun hA=>?_))
    | refine And.intro (fun hC=>?_) (fun hC=>?_)
    | refine And.intro ?_ ?_
    | (intro v hv)
    | intro _
  all_goals first
    | (show wfB _ _=true;rfl)
    | (show (_:Bool)=true;assumption)
    | (show (_:Bool)=true;exact beq_iff_eq.2 (by assumption))
    | (show (0:Int)≤v;exact hv.1)
    | (show v<(n:Int);exact (hC1 hC).1)
    | (exact ⟨0,⟨Int.le_refl _,Int.natCast_nonneg _⟩,⟨rfl,rfl,rfl,trivial⟩,trivial⟩)
    | (exact ⟨IntKind.i64.wrap (v+1),(stepL hv hC (by decide)).1,(stepL hv hC (by decide)).2,⟨rfl,rfl,rfl,trivial⟩,trivial⟩)
    | (show some (CR.tv (tB true))=some (CR.tv (tB true));rfl)
    | (show (0:Int)≤_;decide)
    | (show (_:Int)<_;decide)
    | (show some (CR.tv (tB false))=some (CR.tv (tB true));exfalso;first|exact no (cr1 (b1:=b1 v.toNat) (b2:=b2 v.toNat) (b3:=b3 v.toNat) (k1:=k1 v.toNat) (k2:=k2 v.toNat) (k3:=k3 v.toNat) (rf:=rf v.toNat) (m0:=m0 v.toNat) (m1:=m1 v.toNat) (m2:=m2 v.toNat) (m3:=m3 v.toNat) (m4:=m4 v.toNat) (m5:=m5 v.toNat) (m6:=m6 v.toNat) (m7:=m7 v.toNat) (m8:=m8 v.toNat) (x:=x v.toNat) (y:=y v.toNat) (z:=z v.toNat) (t:=t v.toNat) hA) (by assumption)|exact no (cr2 (b1:=b1 v.toNat) (b2:=b2 v.toNat) (b3:=b3 v.toNat) (k1:=k1 v.toNat) (k2:=k2 v.toNat) (k3:=k3 v.toNat) (rf:=rf v.toNat) (m0:=m0 v.toNat) (m1:=m1 v.toNat) (m2:=m2 v.toNat) (m3:=m3 v.toNat) (m4:=m4 v.toNat) (m5:=m5 v.toNat) (m6:=m6 v.toNat) (m7:=m7 v.toNat) (m8:=m8 v.toNat) (x:=x v.toNat) (y:=y v.toNat) (z:=z v.toNat) (t:=t v.toNat) hA (by assumption)) (by assumption))
    -- PVC
abbrev ks_calRows:List (Option IntKind):=[some .i64,some .i64,some .i64,some .i64,some .i64,some .i64,some .i64,some .i64,some .i64,some .i64,some .i64,some .i64,some .i64,some .i64,some .i64,some .i64,some .i64,some .i64,some .i64,some .i64]
theorem calRows_row (n:Nat) (f:Nat→List Value) (hf:∀ j,okV ks_calRows (f j)) {us:List Value} {w:World} (hargs:All2 (TV.reads (fun _=>0) w.heap.size w) [.rowF n 20 (fun j=>cellsG f j 0 ks_calRows)] us):Ret Try.prog 8 us.toArray w (.tv (tB true)) :=
  calRows_law n (gI f 0) (gI f 1) (gI f 2) (gI f 3) (gI f 4) (gI f 5) (gI f 6) (gI f 7) (gI f 8) (gI f 9) (gI f 10) (gI f 11) (gI f 12) (gI f 13) (gI f 14) (gI f 15) (gI f 16) (gI f 17) (gI f 18) (gI f 19) (fun j=>⟨gI_i64 (hf j) rfl,gI_i64 (hf j) rfl,gI_i64 (hf j) rfl,gI_i64 (hf j) rfl,gI_i64 (hf j) rfl,gI_i64 (hf j) rfl,gI_i64 (hf j) rfl,gI_i64 (hf j) rfl,gI_i64 (hf j) rfl,gI_i64 (hf j) rfl,gI_i64 (hf j) rfl,gI_i64 (hf j) rfl,gI_i64 (hf j) rfl,gI_i64 (hf j) rfl,gI_i64 (hf j) rfl,gI_i64 (hf j) rfl,gI_i64 (hf j) rfl,gI_i64 (hf j) rfl,gI_i64 (hf j) rfl,gI_i64 (hf j) rfl⟩) hargs
end
end Go.Proofs.Ytonelbidndjhdaa.Wh
end
section
namespace Go.Proofs.Ytonelbidndjhdaa.calRows
open Go.ChangeShapes Go.WideShapes Go.ChangeAt Go.RowKit Go.Proofs.YtonelbidndjhdaaW.PrintWords Go.Proofs.YtonelbidndjhdaaW.Sx Go.Proofs.Ytonelbidndjhdaa.Wh
set_option linter.unusedVariables false
theorem own:ownKnob Try.prog.godebug=none:=by kernel_rfl
theorem laidOut:laidOutB Try.prog=true:=by kernel_rfl
theorem cells:lvs Try.prog true 30 49=some [some .i64,some .i64,some .i64,some .i64,some .i64,some .i64,some .i64,some .i64,some .i64,some .i64,some .i64,some .i64,some .i64,some .i64,some .i64,some .i64,some .i64,some .i64,some .i64,some .i64]:=by kernel_rfl
set_option maxRecDepth 100000 in
theorem lifted (os:Os) (started:os.Started) (H:Type) (enc:TypeId × Value→H) :
    ReturnsInHanded {} Try.checked os 8 .any (Rows.calRowsSpec.pre6 enc Try.prog Try.f8 Rows.calRowsRow.domain false) (Rows.calRowsSpec.post enc Try.prog Try.f8 false true false false):=by
  refine returnsInHanded_of_change_sized (C:=Try.checked) own started (by kernel_rfl) Try.func8
    (ChangeSpec.witness6 (enc:=enc) (C:=Try.checked) false ⟨#[],#[.slice none 0 0],[]⟩ 8 (by kernel_rfl) (by kernel_rfl) (by kernel_rfl) (by kernel_rfl)) ?_
  intro W base args ds gs before hval0 hW hcnd hsz0 _
  have hval:∀ (j:Nat) t v,Try.f8.params[j]?=some t→args[j]?=some v→Value.okWide Try.prog W .any base t v:=hval0
  have hW':=hW
  obtain ⟨p,q,hA0,hV,rfl,hfz,hnd⟩:=hW
  have hA:DataW.TrodAll enc Try.prog W 0 (fun _=>true) true Try.f8.params.toList args.toList ds p:=hA0
  rw [Try.params8] at hA hval
  obtain ⟨v0,vs0,d0,ds0,p0,q0,hargs,rfl,rfl,h0,r0⟩:=trodAll_cons hA
  obtain ⟨rfl,rfl,rfl⟩:=trodAll_nil r0
  obtain rfl:args=#[v0]:=by cases args;simp_all
  obtain ⟨rfl,rfl⟩:=trodVars_none hV
  have k0:=h0
  have lt0:∀ x∈p0,x.block<W.heap.size:=by obtain ⟨m,hm⟩:=k0;exact DataW.trod_lt m _ _ _ hm
  have hv0:=hval 0 42 v0 rfl rfl
  obtain ⟨a0,len0,cap0,rfl⟩:=okWide_slice Try.underlying42 hv0
  obtain ⟨f,hf,hr⟩:=row_of Try.underlying42 cells (by decide) h0
  clear hA0 hval0 hsz0
  refine Calls.mono (calRows_row len0 f hf (us:=[_]) (.cons (hr _) .nil)) fun e W' hpost=>?_
  obtain ⟨u,rfl,hu,bel⟩:=hpost
  obtain rfl:u = .bool true:=hu
  exact ⟨_,rfl,_,_,_,[],_,[],hW',trodAll_mk1 (shut_bool Try.underlying4 _),(trodAll_cons_mk (Below.trod laidOut (by kernel_rfl) (of_decide_eq_true (by kernel_rfl)) k0 bel lt0) trodAll_mk0),rfl,bel.frame _,fun h=>by cases h⟩
theorem over:Rows.calRowsRow.holds Try.pinned (OpenSpec.ofChange Rows.calRowsSpec) :=
  OpenClaim.holds_of_wide 8 Try.f8 rfl rfl rfl rfl rfl rfl rfl ⟨rfl,rfl,rfl,rfl,rfl⟩ rfl rfl rfl rfl rfl (by kernel_rfl) Try.func8 (by kernel_rfl)
    (of_decide_eq_true (by kernel_rfl)) (by unfold Func.isWrapper;first|(rw [if_pos (by decide +kernel)];kernel_rfl)|(rw [if_neg (by decide +kernel)];exact ⟨rfl,rfl⟩))
    (fun os started H enc _=>lifted os started H enc)
theorem proved:Rows.CalRowsSaid:=over
end Go.Proofs.Ytonelbidndjhdaa.calRows
namespace Go.Proofs.Ytonelbidndjhdaa
theorem calRows_holds:Rows.CalRowsSaid:=calRows.proved
end Go.Proofs.Ytonelbidndjhdaa
end
