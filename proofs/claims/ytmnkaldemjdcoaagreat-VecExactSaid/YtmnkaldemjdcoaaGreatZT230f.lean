/- The row of VecExact, out of its law by the reckoner: for every argument that reads as data the call returns true and leaves the argument as it was. -/
import Derived.Test.YtmnkaldemjdcoaaGreatZT230e
import Derived.Test.YtmnkaldemjdcoaaGreatRows
import Derived.WalkKit
import Derived.ProofKit
import Derived.OpenShut
import Derived.ShutString
import Derived.ChangeOld
import Derived.Below
import Derived.SizedLaws
import Derived.Carry
section
set_option linter.unusedVariables false
set_option linter.unusedSimpArgs false
namespace Go.Proofs.YtmnkaldemjdcoaaGreat.Wh
open Go RowKit YtmnkaldemjdcoaaGreatW.PrintWords YtmnkaldemjdcoaaGreatW.PrintMore YtmnkaldemjdcoaaGreatW.Aid YtmnkaldemjdcoaaGreatW.Big YtmnkaldemjdcoaaGreatW.Sx YtmnkaldemjdcoaaGreat.BitsWalk YtmnkaldemjdcoaaGreat.Limbs YtmnkaldemjdcoaaGreat.Whole YtmnkaldemjdcoaaGreat.FxWalk Go.Proofs
def shR (x n:Int):Int:=bif decide (x<0) then -nearR (x*x*2 ^ Int.toNat 60) n else nearR (x*x*2 ^ Int.toNat 60) n
theorem sh_1 {x n:Int} (h:decide (x<0)=true) : -nearR (x*x*2 ^ Int.toNat 60) n=shR x n:=by unfold shR;rw [h];rfl
theorem sh_0 {x n:Int} (h:decide (x<0)=false):nearR (x*x*2 ^ Int.toNat 60) n=shR x n:=by unfold shR;rw [h];rfl
theorem p60:(2:Int) ^ Int.toNat 60=1152921504606846976:=by decide +kernel
theorem sh_bd {x n:Int} (hx:wd x=true) (hl:x*x≤n) (h0:0<n):0≤x*x*2 ^ Int.toNat 60∧x*x*2 ^ Int.toNat 60<6277101735386680763835789423207666416102355444464034512896∧x*x*2 ^ Int.toNat 60/n<1329227995784915872903807060280344576:=by
  have h1:=prodw hx hx
  have h2:=sq_nn x
  rw [p60]
  generalize x*x=s at *
  refine ⟨by omega,by omega,?_⟩
  have h3:s*1152921504606846976/n≤1152921504606846976:=Int.ediv_le_of_le_mul h0 (by omega)
  omega
theorem near_bd {n d:Int} (h0:0≤n/d) (h:n/d<1329227995784915872903807060280344576):0≤nearR n d∧nearR n d≤1329227995784915872903807060280344576:=by
  have:=isq_le h0 h
  unfold nearR
  split<;>omega
def unitR (a b c:Int):Int × Int × Int × Int:=if gV a b c=true then (if dot3 a b c a b c=0 then (0,0,0,3) else vT (shR a (dot3 a b c a b c)) (shR b (dot3 a b c a b c)) (shR c (dot3 a b c a b c))) else (0,0,0,1)
theorem un_bad {a b c:Int} (h:(!gV a b c)=true):((0:Int),(0:Int),(0:Int),(1:Int))=unitR a b c:=by
  unfold unitR;rw [if_neg (by simpa using h)]
theorem un_zero {a b c:Int} (h:(!gV a b c)=false) (h2:decide (dot3 a b c a b c=0)=true):((0:Int),(0:Int),(0:Int),(3:Int))=unitR a b c:=by
  unfold unitR;rw [if_pos (nbf h),if_pos (of_decide_eq_true h2)]
theorem un_ok {a b c:Int} (h:(!gV a b c)=false) (h2:decide (dot3 a b c a b c=0)=false) {p:Int × Int × Int × Int} (hp:p=vT (shR a (dot3 a b c a b c)) (shR b (dot3 a b c a b c)) (shR c (dot3 a b c a b c))):(p.1,p.2.1,p.2.2.1,p.2.2.2)=unitR a b c:=by
  unfold unitR;rw [if_pos (nbf h),if_neg (of_decide_eq_false h2),hp]
theorem un_bd {a b c:Int} (h:(!gV a b c)=false) (h2:decide (dot3 a b c a b c=0)=false):(wd a=true∧wd b=true∧wd c=true)∧a*a≤dot3 a b c a b c∧b*b≤dot3 a b c a b c∧c*c≤dot3 a b c a b c∧0<dot3 a b c a b c∧dot3 a b c a b c<340282366920938463463374607431768211456:=by
  have g:=nbf h
  have hd:=dot3_wd g g
  have h0:0≤dot3 a b c a b c:=dot_self
  have h1:=of_decide_eq_false h2
  have:=sq_nn a;have:=sq_nn b;have:=sq_nn c
  refine ⟨gV_iff.1 g,?_,?_,?_,by omega,by omega⟩<;>(unfold dot3;omega)
section
set_option maxRecDepth 100000
set_option maxHeartbeats 4000000
def cShare:Con Tryz.prog where
  f:=45
  sem:=fun xs=>match xs with
    | [.sc (.v (.int .i64 x)),.agg [.neg n,.mag n']]=>some (n'=n∧wd x=true∧x*x≤n∧0<n∧n<340282366920938463463374607431768211456,.tv (tI (shR x n)))
    | _=>none
  ok := by
    intro xs p r' h hp
    refine ⟨⟨_,Tryz.func45,by kernel_rfl,rfl⟩,fun us w ha=>?_⟩
    split at h
    · rename_i x n n'
      cases h
      obtain ⟨rfl,hx,hl,h0,h1⟩:=hp
      obtain ⟨b1,b2,b3⟩:=sh_bd hx hl h0
      have hi:=i64_wd hx
      have bb:=prodw hx hx
      have nb:=near_bd (Int.ediv_nonneg b1 (Int.le_of_lt h0)) b3
      refine fn_ret (cxOk Tryz.prog ints_ok [] [cTimes,cLeft,cNearestU,cNeg]) follows Tryz.func45 rfl 100 _ rfl (by simp) ?_ ha
      repeat' first
        | exact trivial
        | (refine And.intro (show regChk _ _ _ _ _=true from by kernel_rfl) (And.intro ?_ ?_))
        | (refine And.intro (fun _=>?_) (fun h=>absurd (show true=false from h) (by decide)))
        | (refine And.intro (fun h=>absurd (show false=true from h) (by decide)) (fun _=>?_))
        | (refine And.intro (fun hb=>?_) (fun hb'=>?_))
        | refine And.intro ?_ ?_
      all_goals first
        | exact b1
        | exact b2
        | exact b3
        | exact h0
        | exact h1
        | exact hi.1
        | exact hi.2
        | (show Len0 _;first|exact len_b4 (by omega) (by omega)|exact len_I hi)
        | (show (0:Int)≤60;decide)
        | (show (60:Int)≤6400;decide)
        | (show some (CR.tv (tI _))=some (CR.tv (tI _));first|exact wh_eq (sh_1 (by assumption))|exact wh_eq (sh_0 (by assumption)))
        | (show (_:Nat)=(_:Nat);rfl)
        | (show (_:Nat)≤1000;decide)
        | (show (_:Int)=(_:Int);rfl)
        | (show (_:Int)≤_;decide)
        | (show (_:Int)<_;decide)
        -- PVC
    · cases h
def cVUnit:Con Tryz.prog where
  f:=14
  sem:=fun xs=>match xs with
    | [.agg [.v (.int .i64 a),.v (.int .i64 b),.v (.int .i64 c)]]=>some (I64 a∧I64 b∧I64 c,.tv (tV4 (unitR a b c)))
    | _=>none
  ok := by
    intro xs p r' h hp
    refine ⟨⟨_,Tryz.func14,by kernel_rfl,rfl⟩,fun us w ha=>?_⟩
    split at h
    · rename_i a b c
      cases h
      obtain ⟨ha1,hb1,hc1⟩:=hp
      refine fn_ret (cxOk Tryz.prog ints_ok [] [cVGood,cVOf,cSum,cZero,cShare,cVTold]) follows Tryz.func14 rfl 100 _ rfl (by simp) ?_ ha
      repeat' first
        | exact trivial
        | (refine And.intro (show regChk _ _ _ _ _=true from by kernel_rfl) (And.intro ?_ ?_))
        | (refine And.intro (fun _=>?_) (fun h=>absurd (show true=false from h) (by decide)))
        | (refine And.intro (fun h=>absurd (show false=true from h) (by decide)) (fun _=>?_))
        | (refine And.intro (fun hb=>?_) (fun hb'=>?_))
        | refine And.intro ?_ ?_
      all_goals first
        | exact ha1.1
        | exact ha1.2
        | exact hb1.1
        | exact hb1.2
        | exact hc1.1
        | exact hc1.2
        | (show wd _=true;first|exact (un_bd (a:=a) (b:=b) (c:=c) (by assumption) (by assumption)).1.1|exact (un_bd (a:=a) (b:=b) (c:=c) (by assumption) (by assumption)).1.2.1|exact (un_bd (a:=a) (b:=b) (c:=c) (by assumption) (by assumption)).1.2.2)
        | (show (0:Int)<dot3 _ _ _ _ _ _;exact (un_bd (a:=a) (b:=b) (c:=c) (by assumption) (by assumption)).2.2.2.2.1)
        | (show dot3 _ _ _ _ _ _<(_:Int);exact (un_bd (a:=a) (b:=b) (c:=c) (by assumption) (by assumption)).2.2.2.2.2)
        | (show (_:Int)≤dot3 _ _ _ _ _ _;first|exact (un_bd (a:=a) (b:=b) (c:=c) (by assumption) (by assumption)).2.1|exact (un_bd (a:=a) (b:=b) (c:=c) (by assumption) (by assumption)).2.2.1|exact (un_bd (a:=a) (b:=b) (c:=c) (by assumption) (by assumption)).2.2.2.1)
        | (show some (CR.tv (.tup _))=some (CR.tv (tV4 _));first|exact v4_eq (un_bad (by assumption))|exact v4_eq (un_zero (by assumption) (by assumption))|exact v4_eq (un_ok (by assumption) (by assumption) rfl))
        | (show (_:Nat)=(_:Nat);rfl)
        | (show (_:Nat)≤1000;decide)
        | (show (_:Int)=(_:Int);rfl)
        | (show (_:Int)≤_;decide)
        | (show (_:Int)<_;decide)
        -- PVC
    · cases h
end
end Go.Proofs.YtmnkaldemjdcoaaGreat.Wh
end
section
set_option linter.unusedVariables false
set_option linter.unusedSimpArgs false
namespace Go.Proofs.YtmnkaldemjdcoaaGreat.Wh
open Go RowKit YtmnkaldemjdcoaaGreatW.PrintWords YtmnkaldemjdcoaaGreatW.PrintMore YtmnkaldemjdcoaaGreatW.Aid YtmnkaldemjdcoaaGreatW.Big YtmnkaldemjdcoaaGreatW.Sx YtmnkaldemjdcoaaGreat.BitsWalk YtmnkaldemjdcoaaGreat.Limbs YtmnkaldemjdcoaaGreat.Whole YtmnkaldemjdcoaaGreat.FxWalk Go.Proofs
theorem p30:(2:Int) ^ Int.toNat 30=1073741824:=by decide +kernel
theorem ovr_sh (a n:Int):ovrR (a*2 ^ Int.toNat 30) n=shR a n:=by
  unfold ovrR shR
  rw [p30,p60,show a*1073741824*(a*1073741824)=a*a*1152921504606846976 by rw [Int.mul_assoc,Int.mul_left_comm 1073741824 a,← Int.mul_assoc,show (1073741824:Int)*1073741824=1152921504606846976 from rfl]]
  rw [show sgn (a*1073741824)=decide (a<0) by unfold sgn;rw [decide_eq_decide];omega]
theorem u3_ok {a b c:Int} (h:(!gV a b c)=false) (h2:decide (dot3 a b c a b c=0)=false):vT (ovrR (a*2 ^ Int.toNat 30) (dot3 a b c a b c)) (ovrR (b*2 ^ Int.toNat 30) (dot3 a b c a b c)) (ovrR (c*2 ^ Int.toNat 30) (dot3 a b c a b c))=unitR a b c:=by
  rw [ovr_sh,ovr_sh,ovr_sh]
  unfold unitR;rw [if_pos (nbf h),if_neg (of_decide_eq_false h2)]
section
set_option maxRecDepth 100000
set_option maxHeartbeats 4000000
def g3Unit:Con Tryz.prog where
  f:=15
  sem:=fun xs=>match xs with
    | [.agg [.v (.int .i64 a),.v (.int .i64 b),.v (.int .i64 c)]]=>some (gV a b c=true,.tv (tV4 (unitR a b c)))
    | _=>none
  ok := by
    intro xs p r' h hp
    refine ⟨⟨_,Tryz.func15,by kernel_rfl,rfl⟩,fun us w ha=>?_⟩
    split at h
    · rename_i a b c
      cases h
      have bD:=biD hp hp
      have hng:(!gV a b c)=false:=by rw [hp];rfl
      obtain ⟨w1,w2,w3⟩:=gV_iff.1 hp
      have i1:=i64_wd w1
      have i2:=i64_wd w2
      have i3:=i64_wd w3
      refine fn_ret (cxOk Tryz.prog intsR_ok [] [g3dot,rZero,rFrom,rLeft,gOverRoot,gWord,g3Three]) follows Tryz.func15 rfl 100 _ rfl (by simp) ?_ ha
      repeat' first
        | exact trivial
        | (refine And.intro (show regChk _ _ _ _ _=true from by kernel_rfl) (And.intro ?_ ?_))
        | (refine And.intro (fun _=>?_) (fun h=>absurd (show true=false from h) (by decide)))
        | (refine And.intro (fun h=>absurd (show false=true from h) (by decide)) (fun _=>?_))
        | (refine And.intro (fun hb=>?_) (fun hb'=>?_))
        | refine And.intro ?_ ?_
      all_goals first
        | exact hp
        | exact i1.1
        | exact i1.2
        | exact i2.1
        | exact i2.2
        | exact i3.1
        | exact i3.2
        | (show BI _ (_*2 ^ Int.toNat 30);first|exact BI.mono (BI.shl 30 (BI.i64 i1) (show 64+30≤94 by decide)) (by decide)|exact BI.mono (BI.shl 30 (BI.i64 i2) (show 64+30≤94 by decide)) (by decide)|exact BI.mono (BI.shl 30 (BI.i64 i3) (show 64+30≤94 by decide)) (by decide))
        | (show BI _ (dot3 _ _ _ _ _ _);exact BI.mono bD (by decide))
        | (show BI _ _;first|exact BI.mono (BI.i64 i1) (by decide)|exact BI.mono (BI.i64 i2) (by decide)|exact BI.mono (BI.i64 i3) (by decide))
        | (show (0:Int)<dot3 _ _ _ _ _ _;exact (un_bd hng (by assumption)).2.2.2.2.1)
        | (show some (CR.tv (.tup _))=some (CR.tv (tV4 _));first|exact v4_eq (un_zero hng (by assumption))|exact v4_eq ((thR_told _ _ _).trans (u3_ok hng (by assumption))))
        | (show (_:Nat)=(_:Nat);rfl)
        | (show (_:Nat)≤1000;decide)
        | (show (_:Int)=(_:Int);rfl)
        | (show (_:Int)≤_;decide)
        | (show (_:Int)<_;decide)
        -- PVC
    · cases h
end
end Go.Proofs.YtmnkaldemjdcoaaGreat.Wh
end
section
set_option linter.unusedVariables false
set_option linter.unusedSimpArgs false
namespace Go.Proofs.YtmnkaldemjdcoaaGreat.Wh
open Go RowKit YtmnkaldemjdcoaaGreatW.PrintWords YtmnkaldemjdcoaaGreatW.PrintMore YtmnkaldemjdcoaaGreatW.Aid YtmnkaldemjdcoaaGreatW.Big YtmnkaldemjdcoaaGreatW.Sx YtmnkaldemjdcoaaGreat.BitsWalk YtmnkaldemjdcoaaGreat.Limbs YtmnkaldemjdcoaaGreat.Whole YtmnkaldemjdcoaaGreat.FxWalk Go.Proofs
section
set_option maxRecDepth 100000
set_option maxHeartbeats 4000000
def g3Scale:Con Tryz.prog where
  f:=21
  sem:=fun xs=>match xs with
    | [.agg [.v (.int .i64 a),.v (.int .i64 b),.v (.int .i64 c)],.sc (.v (.int .i64 k))]=>some (gV a b c=true∧wd k=true,.tv (tV4 (vT (q30 (a*k)) (q30 (b*k)) (q30 (c*k)))))
    | _=>none
  ok := by
    intro xs p r' h hp
    refine ⟨⟨_,Tryz.func21,by kernel_rfl,rfl⟩,fun us w ha=>?_⟩
    split at h
    · rename_i a b c k
      cases h
      obtain ⟨ha',hk'⟩:=hp
      have b1:=gV_bd ha'
      have b2:=wd_iff.1 hk'
      refine fn_ret (cxOk Tryz.prog intsR_ok [] [gMul,g3Three]) follows Tryz.func21 rfl 100 _ rfl (by simp) ?_ ha
      repeat' first
        | exact trivial
        | (refine And.intro (show regChk _ _ _ _ _=true from by kernel_rfl) (And.intro ?_ ?_))
        | (refine And.intro (fun _=>?_) (fun h=>absurd (show true=false from h) (by decide)))
        | (refine And.intro (fun h=>absurd (show false=true from h) (by decide)) (fun _=>?_))
        | (refine And.intro (fun hb=>?_) (fun hb'=>?_))
        | refine And.intro ?_ ?_
      all_goals first
        | (show (_:Int)≤_;omega)
        | (show (_:Int)<_;omega)
        | (show some (CR.tv (.tup _))=some (CR.tv (tV4 _));exact v4_eq (thR_told _ _ _))
        | (show (_:Nat)=(_:Nat);rfl)
        | (show (_:Nat)≤1000;decide)
        | (show (_:Int)=(_:Int);rfl)
        | (show (_:Int)≤_;decide)
        | (show (_:Int)<_;decide)
        -- PVC
    · cases h
def g3Apply:Con Tryz.prog where
  f:=19
  sem:=fun xs=>match xs with
    | [.agg [.v (.int .i64 m0),.v (.int .i64 m1),.v (.int .i64 m2),.v (.int .i64 m3),.v (.int .i64 m4),.v (.int .i64 m5),.v (.int .i64 m6),.v (.int .i64 m7),.v (.int .i64 m8)],.agg [.v (.int .i64 a),.v (.int .i64 b),.v (.int .i64 c)]]=>some (gV a b c=true∧(gV m0 m1 m2=true∧gV m3 m4 m5=true∧gV m6 m7 m8=true),.tv (tV4 (vT (q30 (dot3 m0 m1 m2 a b c)) (q30 (dot3 m3 m4 m5 a b c)) (q30 (dot3 m6 m7 m8 a b c)))))
    | _=>none
  ok := by
    intro xs p r' h hp
    refine ⟨⟨_,Tryz.func19,by kernel_rfl,rfl⟩,fun us w ha=>?_⟩
    split at h
    · rename_i m0 m1 m2 m3 m4 m5 m6 m7 m8 a b c
      cases h
      obtain ⟨ha',r1,r2,r3⟩:=hp
      refine fn_ret (cxOk Tryz.prog intsR_ok [] [g3dot,gNearQ,g3Three]) follows Tryz.func19 rfl 100 _ rfl (by simp) ?_ ha
      repeat' first
        | exact trivial
        | (refine And.intro (show regChk _ _ _ _ _=true from by kernel_rfl) (And.intro ?_ ?_))
        | (refine And.intro (fun _=>?_) (fun h=>absurd (show true=false from h) (by decide)))
        | (refine And.intro (fun h=>absurd (show false=true from h) (by decide)) (fun _=>?_))
        | (refine And.intro (fun hb=>?_) (fun hb'=>?_))
        | refine And.intro ?_ ?_
      all_goals first
        | (show gV _ _ _=true;first|exact ha'|exact r1|exact r2|exact r3)
        | (show BI _ (dot3 _ _ _ _ _ _);first|exact BI.mono (biD r1 ha') (by decide)|exact BI.mono (biD r2 ha') (by decide)|exact BI.mono (biD r3 ha') (by decide))
        | (show some (CR.tv (.tup _))=some (CR.tv (tV4 _));exact v4_eq (thR_told _ _ _))
        | (show (_:Nat)=(_:Nat);rfl)
        | (show (_:Nat)≤1000;decide)
        | (show (_:Int)=(_:Int);rfl)
        | (show (_:Int)≤_;decide)
        | (show (_:Int)<_;decide)
        -- PVC
    · cases h
end
end Go.Proofs.YtmnkaldemjdcoaaGreat.Wh
end
section
set_option linter.unusedVariables false
set_option linter.unusedSimpArgs false
namespace Go.Proofs.YtmnkaldemjdcoaaGreat.Wh
open Go RowKit YtmnkaldemjdcoaaGreatW.PrintWords YtmnkaldemjdcoaaGreatW.PrintMore YtmnkaldemjdcoaaGreatW.Aid YtmnkaldemjdcoaaGreatW.Big YtmnkaldemjdcoaaGreatW.Sx YtmnkaldemjdcoaaGreat.BitsWalk YtmnkaldemjdcoaaGreat.Limbs YtmnkaldemjdcoaaGreat.Whole YtmnkaldemjdcoaaGreat.FxWalk Go.Proofs
theorem is_unit {a b c:Int}:isV (unitR a b c).1 (unitR a b c).2.1 (unitR a b c).2.2.1 (unitR a b c).2.2.2 (unitR a b c).1 (unitR a b c).2.1 (unitR a b c).2.2.1 (unitR a b c).2.2.2=true:=by
  unfold unitR
  split
  · split
    · rfl
    · exact is_vT _ _ _
  · rfl
section
set_option maxRecDepth 100000
set_option maxHeartbeats 4000000
end
end Go.Proofs.YtmnkaldemjdcoaaGreat.Wh
end
section
set_option linter.unusedVariables false
set_option linter.unusedSimpArgs false
namespace Go.Proofs.YtmnkaldemjdcoaaGreatW.Sx
open Go RowKit YtmnkaldemjdcoaaGreatW.PrintWords YtmnkaldemjdcoaaGreatW.PrintMore YtmnkaldemjdcoaaGreatW.Aid YtmnkaldemjdcoaaGreatW.Big
def guardBool (s:St) (ops:List Oper) (j:Nat):Option (Nat × Bool) :=
  match ops[j]? with
  | some oj=>match oj.dst with
    | some t=>match s.g t with
      | some (.sc c)=>match c.val? with
        | some (.bool b)=>some (t,b)
        | _=>none
      | _=>none
    | none=>none
  | none=>none
def St.lit (s:St) (t:Nat) (b:Bool):St:={ s with g:=upd s.g t (some (.sc (.v (.bool b)))) }
def St.skip (s:St) (dst:Option Tmp):St :=
  match dst with
  | some d=>{ s with g:=upd s.g d (some (.cond false (.sc (.v (.bool true))))) }
  | none=>s
def stepChk (X:Cx) (n:Nat) (s:St) (o:Oper) (e:Eff):Bool:=srcOk X o.op&&dstOk n o&&newB s o e
def stp (X:Cx) (n:Nat) (o:Oper) (next:St→Prop) (s:St):Prop :=
  match absR X s o with
  | some e=>stepChk X n s o e=true∧e.pre∧next (s.app o.dst e)
  | none=>False
def dstB (n:Nat) (dst:Option Tmp):Bool:=match dst with
  | some d=>decide (d<n)
  | none=>true
def vops (X:Cx) (n:Nat) (ops:List Oper) (kn:St→Prop):List Oper→St→Prop
  | [],s=>kn s
  | o :: r, s => match o.guard with
    | none=>stp X n o (vops X n ops kn r) s
    | some (j,true)=>match guardBool s ops j with
      | some (t,b)=>(b=true→stp X n o (vops X n ops kn r) (s.lit t true))∧(b=false→dstB n o.dst=true∧vops X n ops kn r ((s.lit t false).skip o.dst))
      | none=>match gcond s ops j true with
        | some false=>dstB n o.dst=true∧vops X n ops kn r (s.skip o.dst)
        | _=>False
    | some (j,false)=>match guardBool s ops j with
      | some (t,b)=>(b=false→stp X n o (vops X n ops kn r) (s.lit t false))∧(b=true→dstB n o.dst=true∧vops X n ops kn r ((s.lit t true).skip o.dst))
      | none=>match gcond s ops j false with
        | some false=>dstB n o.dst=true∧vops X n ops kn r (s.skip o.dst)
        | _=>False
section
variable {P:Program} {X:Cx} {base:Nat} {w0:World} {n:Nat} {s s':St} {a:Act} {w:World} {Q:Exit→Act→World→Prop} {ops:List Oper}
def allocs:Code→List Nat
  | .region _ ops _=>ops.toList.filterMap fun o=>match o.op with
    | .alloc _=>o.dst
    | _=>none
  | .seq a b=>allocs a++allocs b
  | .cond _ a b=>allocs a++allocs b
  | .block _ c=>allocs c
  | .loop c=>allocs c
  | _=>[]
def vcg (X:Cx) (n:Nat) (ts:List Nat):Nat→Code→(St→Prop)→(Nat→St→Prop)→(St→Prop)→St→Prop
  | 0,_,_,_,_,_=>False
  | f+1,.skip,kn,_,_,s=>kn s
  | f+1,.seq x y,kn,ke,kr,s=>vcg X n ts f x (vcg X n ts f y kn ke kr) ke kr s
  | f+1,.region _ ops false,kn,_,_,s=>vops X n ops.toList kn ops.toList s
  | f+1,.region _ ops true,kn,_,_,s=>match effs X ops.toList ops.toList s with
    | some (es,s')=>regChk X n ops.toList true es=true∧pres es∧kn s'
    | none=>False
  | f+1,.cond c x y,kn,ke,kr,s=>match boolOf (getv s.g c) with
    | some b=>(b=true→vcg X n ts f x kn ke kr s)∧(b=false→vcg X n ts f y kn ke kr s)
    | none=>False
  | f+1,.block id c,kn,ke,kr,s=>vcg X n ts f c kn (fun id' s=>if id'=id then kn s else ke id' s) kr s
  | f+1,.loop c,kn,ke,kr,s=>vcg X n ts f c (vcg X n ts f (.loop c) kn ke kr) ke kr (s.keep (ts.filter fun d=>!(allocs c).contains d))
  | f+1,.exit id,_,ke,_,s=>ke id s
  | f+1,.ret,_,_,kr,s=>kr s
  | _+1,_,_,_,_,_=>False
def vcd (X:Cx) (n:Nat) (ts:List Nat):Nat→Code→(St→Prop)→(Nat→St→Prop)→(St→Prop)→St→Prop
  | 0,_,_,_,_,_=>False
  | f+1,.skip,kn,_,_,s=>kn s
  | f+1,.seq x y,kn,ke,kr,s=>vcd X n ts f x (vcd X n ts f y kn ke kr) ke kr s
  | f+1,.region _ ops draw,kn,_,_,s=>match effs X ops.toList ops.toList s with
    | some (es,s')=>regChk X n ops.toList draw es=true∧pres es∧kn s'
    | none=>False
  | f+1,.cond c x y,kn,ke,kr,s=>match boolOf (getv s.g c) with
    | some b=>(b=true→vcd X n ts f x kn ke kr s)∧(b=false→vcd X n ts f y kn ke kr s)
    | none=>False
  | f+1,.block id c,kn,ke,kr,s=>vcd X n ts f c kn (fun id' s=>if id'=id then kn s else ke id' s) kr s
  | f+1,.loop c,kn,ke,kr,s=>vcd X n ts f c (vcd X n ts f (.loop c) kn ke kr) ke kr (s.keep (ts.filter fun d=>!(allocs c).contains d))
  | f+1,.exit id,_,ke,_,s=>ke id s
  | f+1,.ret,_,_,kr,s=>kr s
  | _+1,_,_,_,_,_=>False
theorem vcd_both (ok:CxOk2 P X) (hmo:P.follows .mixedOrders=true) (ts:List Nat):∀ (f:Nat),(∀ (c:Code) (kn:St→Prop) (ke:Nat→St→Prop) (kr:St→Prop) (s:St) (a:Act) (w:World) (Q:Exit→Act→World→Prop),vcd X n ts f c kn ke kr s→SatE base w0 n s a w →
    (∀ s a w,kn s→SatE base w0 n s a w→Q .normal a w)→(∀ id s a w,ke id s→SatE base w0 n s a w→Q (.exit id) a w)→(∀ s a w,kr s→SatE base w0 n s a w→Q .ret a w)→c.wp P Q a w) ∧
    (∀ (c:Code) (kn:St→Prop) (ke:Nat→St→Prop) (kr:St→Prop) (s:St) (a:Act) (w:World) (Q:Exit→Act→World→Prop),vcd X n ts f (.loop c) kn ke kr s→SatE base w0 n s a w →
    (∀ id s a w,ke id s→SatE base w0 n s a w→Q (.exit id) a w)→(∀ s a w,kr s→SatE base w0 n s a w→Q .ret a w)→Code.rounds P c Q f a w):=by
  intro f
  induction f with
  | zero=>exact ⟨(fun c kn ke kr s a w Q h=>by cases h),(fun c kn ke kr s a w Q h=>by cases h)⟩
  | succ f ih =>
    obtain ⟨ihA,ihB⟩:=ih
    have hB:∀ (c:Code) (kn:St→Prop) (ke:Nat→St→Prop) (kr:St→Prop) (s:St) (a:Act) (w:World) (Q:Exit→Act→World→Prop),vcd X n ts (f+1) (.loop c) kn ke kr s→SatE base w0 n s a w →
        (∀ id s a w,ke id s→SatE base w0 n s a w→Q (.exit id) a w)→(∀ s a w,kr s→SatE base w0 n s a w→Q .ret a w)→Code.rounds P c Q (f+1) a w:=by
      intro c kn ke kr s a w Q h hS he hr
      obtain ⟨β,hS⟩:=hS
      exact ihA c _ ke kr _ a w _ h ⟨β,hS.keep _⟩ (fun s a w hk hS=>ihB c kn ke kr s a w Q hk hS he hr) (fun id s a w hk hS=>he id s a w hk hS) (fun s a w hk hS=>hr s a w hk hS)
    refine ⟨?_,hB⟩
    intro c kn ke kr s a w Q h hS hn he hr
    cases c with
    | skip=>exact wp_skip (hn s a w h hS)
    | seq x y =>
      refine wp_seq (ihA x _ ke kr s a w _ h hS (fun s a w hk hS=>ihA y kn ke kr s a w Q hk hS hn he hr) (fun id s a w hk hS=>he id s a w hk hS) (fun s a w hk hS=>hr s a w hk hS))
    | region id ops draw =>
      simp only [vcd] at h
      split at h
      · rename_i es s' heff
        exact region_sound ok hmo heff h.1 h.2.1 hS (fun a w hS'=>hn s' a w h.2.2 hS')
      · cases h
    | cond c x y =>
      simp only [vcd] at h
      split at h
      · rename_i b hb
        refine wp_cond (boolOf_eq hS hb) ?_
        cases b with
        | true=>exact ihA x kn ke kr s a w Q (h.1 rfl) hS hn he hr
        | false=>exact ihA y kn ke kr s a w Q (h.2 rfl) hS hn he hr
      · cases h
    | block id c =>
      refine wp_block (ihA c kn _ kr s a w _ h hS (fun s a w hk hS=>hn s a w hk hS) (fun id' s a w hk hS=>?_) (fun s a w hk hS=>hr s a w hk hS))
      show if id'=id then Q .normal a w else Q (.exit id') a w
      split
      · rename_i e;rw [if_pos e] at hk;exact hn s a w hk hS
      · rename_i e;rw [if_neg e] at hk;exact he id' s a w hk hS
    | loop c=>exact wp_loop_rounds (f+1) (hB c kn ke kr s a w Q h hS he hr)
    | exit id=>exact wp_exit (he id s a w h hS)
    | ret=>exact wp_ret (hr s a w h hS)
    | rangeFunc _ _ _ _=>cases h
    | scope _=>cases h
    | label _=>cases h
    | goto _=>cases h
    | refuse _=>cases h
end
end Go.Proofs.YtmnkaldemjdcoaaGreatW.Sx
end
section
set_option linter.unusedVariables false
set_option linter.unusedSimpArgs false
namespace Go.Proofs.YtmnkaldemjdcoaaGreatW.Sx
open Go RowKit YtmnkaldemjdcoaaGreatW.PrintWords YtmnkaldemjdcoaaGreatW.PrintMore YtmnkaldemjdcoaaGreatW.Aid YtmnkaldemjdcoaaGreatW.Big
def partAt:Code→List Bool→Option Code
  | c,[]=>some c
  | .seq a b,d::p=>if d=true then partAt b p else partAt a p
  | .cond _ a b,d::p=>if d=true then partAt b p else partAt a p
  | .block _ c,_::p=>partAt c p
  | .loop c,_::p=>partAt c p
  | _,_=>none
def bodyAt (fn:Func) (p:List Bool):Option Code:=match fn.body with
  | some c=>partAt c p
  | none=>none
section
variable {P:Program} {X:Cx} {n base:Nat} {w0:World} {c c' x y:Code} {kn kx kn':St→Prop} {ke ke':Nat→St→Prop} {kr kr':St→Prop} {s:St}
def SpecC (P:Program) (n base:Nat) (w0:World) (c:Code) (kn:St→Prop) (ke:Nat→St→Prop) (kr:St→Prop) (s:St):Prop :=
  ∀ (a:Act) (w:World) (Q:Exit→Act→World→Prop),SatE base w0 n s a w→(∀ s a w,kn s→SatE base w0 n s a w→Q .normal a w)→(∀ id s a w,ke id s→SatE base w0 n s a w→Q (.exit id) a w)→(∀ s a w,kr s→SatE base w0 n s a w→Q .ret a w)→c.wp P Q a w
def SpecR (P:Program) (n base:Nat) (w0:World) (c:Code) (ke:Nat→St→Prop) (kr:St→Prop) (m:Nat) (s:St):Prop :=
  ∀ (a:Act) (w:World) (Q:Exit→Act→World→Prop),SatE base w0 n s a w→(∀ id s a w,ke id s→SatE base w0 n s a w→Q (.exit id) a w)→(∀ s a w,kr s→SatE base w0 n s a w→Q .ret a w)→Code.rounds P c Q m a w
theorem spec_of {o:Option Code} (h:o=some c) (h':o=some c') (k:SpecC P n base w0 c' kn ke kr s):SpecC P n base w0 c kn ke kr s:=by
  rw [h] at h';cases h';exact k
theorem spec_to {o:Option Code} (h:o=some c) (h':o=some c') (k:SpecC P n base w0 c kn ke kr s):SpecC P n base w0 c' kn ke kr s:=spec_of h' h k
theorem spec_vcd (ok:CxOk2 P X) (hmo:P.follows .mixedOrders=true) (ts:List Nat) (f:Nat) (h:vcd X n ts f c kn ke kr s):SpecC P n base w0 c kn ke kr s :=
  fun a w Q hS hn he hr=>(vcd_both ok hmo ts f).1 c kn ke kr s a w Q h hS hn he hr
theorem spec_seq (h:SpecC P n base w0 x kx ke kr s) (h2:∀ s',kx s'→SpecC P n base w0 y kn ke kr s'):SpecC P n base w0 (.seq x y) kn ke kr s :=
  fun a w Q hS hn he hr=>wp_seq (h a w _ hS (fun s a w hk hS=>h2 s hk a w Q hS hn he hr) (fun id s a w hk hS=>he id s a w hk hS) (fun s a w hk hS=>hr s a w hk hS))
theorem spec_block {id:Nat} (h:SpecC P n base w0 c kn (fun id' s=>if id'=id then kn s else ke id' s) kr s):SpecC P n base w0 (.block id c) kn ke kr s:=by
  intro a w Q hS hn he hr
  refine wp_block (h a w _ hS (fun s a w hk hS=>hn s a w hk hS) (fun id' s a w hk hS=>?_) (fun s a w hk hS=>hr s a w hk hS))
  show if id'=id then Q .normal a w else Q (.exit id') a w
  split
  · rename_i e;exact hn s a w (by simpa [e] using hk) hS
  · rename_i e;exact he id' s a w (by simpa [e] using hk) hS
theorem spec_le {gs:List (Nat × TV)} {bs:List (Nat × TypeId × List A0)} (hg:leG s gs) (hb:leB s bs) (hw:wfB gs bs=true) (h:SpecC P n base w0 c kn ke kr (stB gs bs)):SpecC P n base w0 c kn ke kr s:=by
  rintro a w Q ⟨β,hS⟩ hn he hr
  exact h a w Q ⟨β,sat_le hS hg hb hw⟩ hn he hr
theorem specR_succ {m:Nat} (h:SpecC P n base w0 c kx ke kr s) (h2:∀ s',kx s'→SpecR P n base w0 c ke kr m s'):SpecR P n base w0 c ke kr (m+1) s :=
  fun a w Q hS he hr=>h a w _ hS (fun s a w hk hS=>h2 s hk a w Q hS he hr) (fun id s a w hk hS=>he id s a w hk hS) (fun s a w hk hS=>hr s a w hk hS)
theorem specR_le {m:Nat} {gs:List (Nat × TV)} {bs:List (Nat × TypeId × List A0)} (hg:leG s gs) (hb:leB s bs) (hw:wfB gs bs=true) (h:SpecR P n base w0 c ke kr m (stB gs bs)):SpecR P n base w0 c ke kr m s:=by
  rintro a w Q ⟨β,hS⟩ he hr
  exact h a w Q ⟨β,sat_le hS hg hb hw⟩ he hr
theorem spec_loopR (m:Nat) (h:SpecR P n base w0 c ke kr m s):SpecC P n base w0 (.loop c) kn ke kr s :=
  fun a w Q hS hn he hr=>wp_loop_rounds m (h a w Q hS he hr)
theorem spec_loopI {α:Type} (L:LI α) (h:∃ v,atL L v s) (h2:∀ v,L.I v→wfB (L.gs v) (L.bs v)=true∧SpecC P n base w0 c (fun s'=>∃ v',L.μ v'<L.μ v∧atL L v' s') ke kr (stB (L.gs v) (L.bs v))):SpecC P n base w0 (.loop c) kn ke kr s:=by
  intro a w Q hS hn he hr
  obtain ⟨v,hv⟩:=h
  have key:∀ m v s a w,L.μ v<m→atL L v s→SatE base w0 n s a w→Code.rounds P c Q m a w:=by
    intro m
    induction m with
    | zero=>intro v s a w h;exact absurd h (Nat.not_lt_zero _)
    | succ m ih =>
      intro v s a w hm hv hS
      obtain ⟨β,hS⟩:=hS
      have hw:=(h2 v hv.1).1
      have hS':SatE base w0 n (stB (L.gs v) (L.bs v)) a w:=⟨β,sat_le hS hv.2.1 hv.2.2 hw⟩
      exact (h2 v hv.1).2 a w _ hS' (fun s a w hk hS=>by obtain ⟨v',h1,h2⟩:=hk;exact ih v' s a w (by omega) h2 hS) (fun id s a w hk hS=>he id s a w hk hS) (fun s a w hk hS=>hr s a w hk hS)
  exact wp_loop_rounds (L.μ v+1) (key _ v s a w (by omega) hv hS)
def vch (X:Cx) (n:Nat) (ts:List Nat) (f:Nat) (K:St→Prop) (ke:Nat→St→Prop) (kr:St→Prop):Nat→Code→St→Prop
  | 0,_,s=>K s
  | k+1,.seq x y,s=>vcd X n ts f x (vch X n ts f K ke kr k y) ke kr s
  | _+1,_,_=>False
def restOf:Nat→Code→Code
  | 0,c=>c
  | k+1,.seq _ y=>restOf k y
  | _+1,c=>c
theorem spec_vch (ok:CxOk2 P X) (hmo:P.follows .mixedOrders=true) (ts:List Nat) (f:Nat):∀ (k:Nat) (c:Code) (s:St),vch X n ts f kx ke kr k c s→(∀ s',kx s'→SpecC P n base w0 (restOf k c) kn ke kr s')→SpecC P n base w0 c kn ke kr s:=by
  intro k
  induction k with
  | zero=>intro c s h h2;exact h2 s h
  | succ k ih =>
    intro c s h h2
    cases c with
    | seq x y=>exact spec_seq (spec_vcd ok hmo ts f h) (fun s' hk=>ih y s' hk h2)
    | _=>cases h
theorem spec_cut (ok:CxOk2 P X) (hmo:P.follows .mixedOrders=true) (ts:List Nat) (f k:Nat) (gs:List (Nat × TV)) (bs:List (Nat × TypeId × List A0)) (hw:wfB gs bs=true) (h:vch X n ts f (fun s=>leG s gs∧leB s bs) ke kr k c s) (h2:SpecC P n base w0 (restOf k c) kn ke kr (stB gs bs)):SpecC P n base w0 c kn ke kr s :=
  spec_vch ok hmo ts f k c s h (fun s' hk=>spec_le hk.1 hk.2 hw h2)
theorem fns_ret (ok:CxOk2 P X) {fid:FuncId} {fn:Func} (hf:P.funcs[fid]?=some fn) (hb:fn.body=some c) {xs:List TV} {us:List Value} {w:World} (r:CR)
    (hr:xs.all (fun x=>x.refs.isEmpty)=true) (hn:xs.length≤fn.ntmps) (h:SpecC P fn.ntmps w.heap.size w c (fun s=>resCR X fn.results.toList s=some r) (fun _ _=>False) (fun s=>resCR X fn.results.toList s=some r) (st0 xs))
    (hargs:All2 (TV.reads (fun _=>0) w.heap.size w) xs us):Ret P fid us.toArray w r:=by
  refine calls_of_wp hf hb ?_
  have hS:=sat0 hargs hr (n:=fn.ntmps) (by rw [← All2.length hargs];exact hn)
  have fin:∀ (s:St) (a:Act) (w':World),resCR X fn.results.toList s=some r→SatE w.heap.size w fn.ntmps s a w'→a.defers=[]∧∃ v,(results fn a.tmps).run P w' = .ok v w'∧∃ u,Ending.returned v = .returned u∧r.told w w' u∧Below w.heap.size w w':=by
    rintro s a w' hr1 ⟨β,hS⟩
    obtain ⟨u,h1,h2⟩:=res_run ok.toCxOk hS hr1
    exact ⟨hS.defers,u,h1,u,rfl,h2,hS.below⟩
  exact h _ _ _ hS (fun s a w' hk hS=>fin s a w' hk hS) (fun id s a w' hk=>hk.elim) (fun s a w' hk hS=>fin s a w' hk hS)
end
end Go.Proofs.YtmnkaldemjdcoaaGreatW.Sx
end
section
set_option linter.unusedVariables false
set_option linter.unusedSimpArgs false
namespace Go.Proofs.YtmnkaldemjdcoaaGreat.Wh
open Go RowKit YtmnkaldemjdcoaaGreatW.PrintWords YtmnkaldemjdcoaaGreatW.PrintMore YtmnkaldemjdcoaaGreatW.Aid YtmnkaldemjdcoaaGreatW.Big YtmnkaldemjdcoaaGreatW.Sx YtmnkaldemjdcoaaGreat.BitsWalk YtmnkaldemjdcoaaGreat.Limbs YtmnkaldemjdcoaaGreat.Whole YtmnkaldemjdcoaaGreat.FxWalk Go.Proofs
theorem sc_eq {x y:Int} (h:x=y):(some (TV.sc (.v (.int .i64 x))):Option TV)=some (TV.sc (.v (.int .i64 y))):=by rw [h]
theorem mc_eq {x y:Int} (h:x=y):(some (A0.v (.int .i64 x)):Option A0)=some (A0.v (.int .i64 y)):=by rw [h]
theorem bw_1 {b:Bool} {x:Int} (h:(!b)=true):1=bif b then x else 1:=by cases b with|true=>cases h|false=>rfl
theorem bw_0 {b:Bool} {x:Int} (h:(!b)=false):x=bif b then x else 1:=by cases b with|true=>rfl|false=>cases h
theorem bz_t {b:Bool} {x:Int} (h:((bif b then x else 1) == 0)=true):b=true∧(x == 0)=true:=by cases b with|true=>exact ⟨rfl,h⟩|false=>exact absurd (show ((1:Int) == 0)=true from h) (by decide)
theorem bz_o {b:Bool} (h:((bif b then (0:Int) else 1) == 0)=true):b=true:=(bz_t h).1
theorem bz_f {b:Bool} {x:Int} (hx:x=0∨x=1):(bif b then x else 1)=0∨(bif b then x else 1)=1:=by cases b with|true=>exact hx|false=>exact .inr rfl
theorem bz_e {x:Int} (hx:x=0∨x=1) (h:(x == 0)=false):x=1:=by rcases hx with e|e;rw [e] at h;cases h;exact e
section
variable {a b c d e f k m0 m1 m2 m3 m4 m5 m6 m7 m8:Int}
theorem vo_01:(bif gV a b c then (0:Int) else 1)=0∨(bif gV a b c then (0:Int) else 1)=1:=bz_f (.inl rfl)
theorem vw_01:(bif gV d e f then (bif gV a b c then (0:Int) else 1) else 1)=0∨(bif gV d e f then (bif gV a b c then (0:Int) else 1) else 1)=1:=bz_f vo_01
theorem vk_01:(bif wd k then (bif gV a b c then (0:Int) else 1) else 1)=0∨(bif wd k then (bif gV a b c then (0:Int) else 1) else 1)=1:=bz_f vo_01
theorem vm_01:(bif wd m8 then (bif wd m7 then (bif wd m6 then (bif wd m5 then (bif wd m4 then (bif wd m3 then (bif wd m2 then (bif wd m1 then (bif wd m0 then (bif gV a b c then (0:Int) else 1) else 1) else 1) else 1) else 1) else 1) else 1) else 1) else 1) else 1)=0∨(bif wd m8 then (bif wd m7 then (bif wd m6 then (bif wd m5 then (bif wd m4 then (bif wd m3 then (bif wd m2 then (bif wd m1 then (bif wd m0 then (bif gV a b c then (0:Int) else 1) else 1) else 1) else 1) else 1) else 1) else 1) else 1) else 1) else 1)=1:=bz_f (bz_f (bz_f (bz_f (bz_f (bz_f (bz_f (bz_f (bz_f vo_01))))))))
theorem vw_t (h:((bif gV d e f then (bif gV a b c then (0:Int) else 1) else 1) == 0)=true):gV a b c=true∧gV d e f=true:=⟨bz_o (bz_t h).2,(bz_t h).1⟩
theorem vw_f (h:((bif gV d e f then (bif gV a b c then (0:Int) else 1) else 1) == 0)=false):¬ (gV a b c=true∧gV d e f=true):=fun hk=>by rw [hk.1,hk.2] at h;cases h
theorem vk_t (h:((bif wd k then (bif gV a b c then (0:Int) else 1) else 1) == 0)=true):gV a b c=true∧wd k=true:=⟨bz_o (bz_t h).2,(bz_t h).1⟩
theorem vk_f (h:((bif wd k then (bif gV a b c then (0:Int) else 1) else 1) == 0)=false):¬ (gV a b c=true∧wd k=true):=fun hk=>by rw [hk.1,hk.2] at h;cases h
theorem vm_t (h:((bif wd m8 then (bif wd m7 then (bif wd m6 then (bif wd m5 then (bif wd m4 then (bif wd m3 then (bif wd m2 then (bif wd m1 then (bif wd m0 then (bif gV a b c then (0:Int) else 1) else 1) else 1) else 1) else 1) else 1) else 1) else 1) else 1) else 1) == 0)=true):gV a b c=true∧allw [m0,m1,m2,m3,m4,m5,m6,m7,m8]=true:=by
  have h8:=bz_t h;have h7:=bz_t h8.2;have h6:=bz_t h7.2;have h5:=bz_t h6.2;have h4:=bz_t h5.2;have h3:=bz_t h4.2;have h2:=bz_t h3.2;have h1:=bz_t h2.2;have h0:=bz_t h1.2
  refine ⟨bz_o h0.2,?_⟩
  simp [allw,h0.1,h1.1,h2.1,h3.1,h4.1,h5.1,h6.1,h7.1,h8.1]
theorem vm_f (h:((bif wd m8 then (bif wd m7 then (bif wd m6 then (bif wd m5 then (bif wd m4 then (bif wd m3 then (bif wd m2 then (bif wd m1 then (bif wd m0 then (bif gV a b c then (0:Int) else 1) else 1) else 1) else 1) else 1) else 1) else 1) else 1) else 1) else 1) == 0)=false):¬ (gV a b c=true∧allw [m0,m1,m2,m3,m4,m5,m6,m7,m8]=true):=fun hk=>by
  obtain ⟨h1,h2⟩:=hk
  simp only [allw_iff,List.mem_cons,forall_eq_or_imp,List.not_mem_nil,false_imp_iff,implies_true,and_true] at h2
  obtain ⟨e0,e1,e2,e3,e4,e5,e6,e7,e8⟩:=h2
  rw [h1,e0,e1,e2,e3,e4,e5,e6,e7,e8] at h
  cases h
theorem va_t (h:((bif gV d e f then (bif gV a b c then (0:Int) else 1) else 1) == 0)=true):vT (a+d) (b+e) (c+f)=(addV a b c d e f):=(if_pos (vw_t h)).symm
theorem vs_t (h:((bif gV d e f then (bif gV a b c then (0:Int) else 1) else 1) == 0)=true):vT (a-d) (b-e) (c-f)=(subV a b c d e f):=(if_pos (vw_t h)).symm
theorem vc_t (h:((bif gV d e f then (bif gV a b c then (0:Int) else 1) else 1) == 0)=true):vT (q30 (b*f-c*e)) (q30 (c*d-a*f)) (q30 (a*e-b*d))=(crossR a b c d e f):=(if_pos (vw_t h)).symm
theorem va_f (h:((bif gV d e f then (bif gV a b c then (0:Int) else 1) else 1) == 0)=false):((0:Int),(0:Int),(0:Int),(bif gV d e f then (bif gV a b c then (0:Int) else 1) else 1))=(addV a b c d e f):=by rw [bz_e vw_01 h];exact (if_neg (vw_f h)).symm
theorem vs_f (h:((bif gV d e f then (bif gV a b c then (0:Int) else 1) else 1) == 0)=false):((0:Int),(0:Int),(0:Int),(bif gV d e f then (bif gV a b c then (0:Int) else 1) else 1))=(subV a b c d e f):=by rw [bz_e vw_01 h];exact (if_neg (vw_f h)).symm
theorem vc_f (h:((bif gV d e f then (bif gV a b c then (0:Int) else 1) else 1) == 0)=false):((0:Int),(0:Int),(0:Int),(bif gV d e f then (bif gV a b c then (0:Int) else 1) else 1))=(crossR a b c d e f):=by rw [bz_e vw_01 h];exact (if_neg (vw_f h)).symm
theorem gkkk (h:wd k=true):gV k k k=true:=gV_iff.2 ⟨h,h,h⟩
theorem vsc_t (h:((bif wd k then (bif gV a b c then (0:Int) else 1) else 1) == 0)=true):vT (q30 (a*k)) (q30 (b*k)) (q30 (c*k))=(scaleV a b c k k k):=(if_pos ⟨(vk_t h).1,gkkk (vk_t h).2⟩).symm
theorem vsc_f (h:((bif wd k then (bif gV a b c then (0:Int) else 1) else 1) == 0)=false):((0:Int),(0:Int),(0:Int),(bif wd k then (bif gV a b c then (0:Int) else 1) else 1))=(scaleV a b c k k k):=by rw [bz_e vk_01 h];exact (if_neg (fun hk=>vk_f h ⟨hk.1,(gV_iff.1 hk.2).1⟩)).symm
theorem vu_f (h:((bif gV a b c then (0:Int) else 1) == 0)=false):((0:Int),(0:Int),(0:Int),(bif gV a b c then (0:Int) else 1))=(unitR a b c):=by rw [bz_e vo_01 h];exact (if_neg (fun hk=>by rw [hk] at h;cases h)).symm
theorem vn_t (h:gV a b c=true):(-a,-b,-c,(0:Int))=(subV 0 0 0 a b c):=by
  have g0:gV 0 0 0=true:=by decide
  have hb:=gV_bd h
  have e:(subV 0 0 0 a b c)=vT (0-a) (0-b) (0-c):=if_pos ⟨g0,h⟩
  rw [e,Int.zero_sub,Int.zero_sub,Int.zero_sub]
  have e1:gV (-a) (-b) (-c)=true:=gV_neg h
  obtain ⟨h1,h2,h3⟩:=gV_iff.1 e1
  unfold vT;rw [h1,h2,h3];rfl
theorem vn_o:(bif gV a b c then (0:Int) else 1)=(subV 0 0 0 a b c).2.2.2:=by
  cases h:gV a b c with
  | true=>rw [← vn_t h];rfl
  | false=>rw [show (subV 0 0 0 a b c)=(0,0,0,1) from if_neg (fun hk=>by rw [hk.2] at h;cases h)];rfl
theorem vn_f (h:((bif gV a b c then (0:Int) else 1) == 0)=false):((0:Int),(0:Int),(0:Int),(bif gV a b c then (0:Int) else 1))=(subV 0 0 0 a b c):=by rw [bz_e vo_01 h];exact (if_neg (fun hk=>by rw [hk.2] at h;cases h)).symm
theorem vp_t (h:((bif wd m8 then (bif wd m7 then (bif wd m6 then (bif wd m5 then (bif wd m4 then (bif wd m3 then (bif wd m2 then (bif wd m1 then (bif wd m0 then (bif gV a b c then (0:Int) else 1) else 1) else 1) else 1) else 1) else 1) else 1) else 1) else 1) else 1) == 0)=true):vT (q30 (dot3 m0 m1 m2 a b c)) (q30 (dot3 m3 m4 m5 a b c)) (q30 (dot3 m6 m7 m8 a b c))=(app9 (fun i=>match i with|0=>m0|1=>m1|2=>m2|3=>m3|4=>m4|5=>m5|6=>m6|7=>m7|_=>m8) a b c):=(if_pos (vm_t h)).symm
theorem vp_f (h:((bif wd m8 then (bif wd m7 then (bif wd m6 then (bif wd m5 then (bif wd m4 then (bif wd m3 then (bif wd m2 then (bif wd m1 then (bif wd m0 then (bif gV a b c then (0:Int) else 1) else 1) else 1) else 1) else 1) else 1) else 1) else 1) else 1) else 1) == 0)=false):((0:Int),(0:Int),(0:Int),(bif wd m8 then (bif wd m7 then (bif wd m6 then (bif wd m5 then (bif wd m4 then (bif wd m3 then (bif wd m2 then (bif wd m1 then (bif wd m0 then (bif gV a b c then (0:Int) else 1) else 1) else 1) else 1) else 1) else 1) else 1) else 1) else 1) else 1))=(app9 (fun i=>match i with|0=>m0|1=>m1|2=>m2|3=>m3|4=>m4|5=>m5|6=>m6|7=>m7|_=>m8) a b c):=by rw [bz_e vm_01 h];exact (if_neg (vm_f h)).symm
theorem gm_t (h:((bif wd m8 then (bif wd m7 then (bif wd m6 then (bif wd m5 then (bif wd m4 then (bif wd m3 then (bif wd m2 then (bif wd m1 then (bif wd m0 then (bif gV a b c then (0:Int) else 1) else 1) else 1) else 1) else 1) else 1) else 1) else 1) else 1) else 1) == 0)=true):gV m0 m1 m2=true∧gV m3 m4 m5=true∧gV m6 m7 m8=true:=by
  have h2:=(vm_t h).2
  rw [allw_iff] at h2
  exact ⟨gV_iff.2 ⟨h2 _ (by simp),h2 _ (by simp),h2 _ (by simp)⟩,gV_iff.2 ⟨h2 _ (by simp),h2 _ (by simp),h2 _ (by simp)⟩,gV_iff.2 ⟨h2 _ (by simp),h2 _ (by simp),h2 _ (by simp)⟩⟩
def isS (p:Int × Int × Int × Int):Prop:=isV p.1 p.2.1 p.2.2.1 p.2.2.2 p.1 p.2.1 p.2.2.1 p.2.2.2=true
theorem isS_if {q:Prop} [Decidable q] {x y z:Int}:isS (if q then vT x y z else (0,0,0,1)):=by
  unfold isS
  split
  · exact is_vT _ _ _
  · rfl
theorem x_add:(bif (if gV a b c=true then (0:Int) else 1) != (bif gV a b c then (0:Int) else 1) then true else !isV (addV a b c d e f).1 (addV a b c d e f).2.1 (addV a b c d e f).2.2.1 (addV a b c d e f).2.2.2 (addV a b c d e f).1 (addV a b c d e f).2.1 (addV a b c d e f).2.2.1 (addV a b c d e f).2.2.2)=false:=by
  rw [show isV (addV a b c d e f).1 (addV a b c d e f).2.1 (addV a b c d e f).2.2.1 (addV a b c d e f).2.2.2 (addV a b c d e f).1 (addV a b c d e f).2.1 (addV a b c d e f).2.2.1 (addV a b c d e f).2.2.2=true from isS_if]
  cases gV a b c<;>rfl
theorem x_p {p:Int × Int × Int × Int} (h:isS p):(!isV p.1 p.2.1 p.2.2.1 p.2.2.2 p.1 p.2.1 p.2.2.1 p.2.2.2)=false:=by unfold isS at h;rw [h];rfl
theorem x_n:(!isV (subV 0 0 0 a b c).1 (subV 0 0 0 a b c).2.1 (subV 0 0 0 a b c).2.2.1 (subV 0 0 0 a b c).2.2.2 (subV 0 0 0 a b c).1 (subV 0 0 0 a b c).2.1 (subV 0 0 0 a b c).2.2.1 (bif gV a b c then (0:Int) else 1))=false:=by rw [vn_o];exact x_p isS_if
end
theorem wk3x:(bif (normR 3 4 0).2 == 0 then (normR 3 4 0).1 == 5 else false)=true:=by decide +kernel
section
set_option maxRecDepth 100000
set_option maxHeartbeats 4000000
def cWakes3x:Con Tryz.prog where
  f:=13
  sem:=fun xs=>match xs with
    | []=>some (True,.tv (tB true))
    | _=>none
  ok := by
    intro xs p r' h hp
    refine ⟨⟨_,Tryz.func13,by kernel_rfl,rfl⟩,fun us w ha=>?_⟩
    split at h
    · skip
      cases h
      refine fn_ret (cxOk Tryz.prog ints_ok [] [cNorm,cNum3]) follows Tryz.func13 rfl 100 _ rfl (by simp) ?_ ha
      repeat' first
        | exact trivial
        | (refine And.intro (show regChk _ _ _ _ _=true from by kernel_rfl) (And.intro ?_ ?_))
        | (refine And.intro (fun _=>?_) (fun h=>absurd (show true=false from h) (by decide)))
        | (refine And.intro (fun h=>absurd (show false=true from h) (by decide)) (fun _=>?_))
        | (refine And.intro (fun hb=>?_) (fun hb'=>?_))
        | refine And.intro ?_ ?_
        | intro _
      all_goals first
        | (show some (CR.tv (tB _))=some (CR.tv (tB _));exact tB_eq wk3x)
        | (show (_:Bool)=(_:Bool);first|assumption|exact beq_iff_eq.2 (by assumption)|(exact and_tt (by first|assumption|exact beq_iff_eq.2 (by assumption)) (by first|assumption|exact beq_iff_eq.2 (by assumption))))
        | (show (_:Nat)=(_:Nat);rfl)
        | (show (_:Nat)≤1000;decide)
        | (show (_:Int)=(_:Int);rfl)
        | (show (_:Int)≤_;decide)
        | (show (_:Int)<_;decide)
        -- PVC
    · cases h
section
attribute [local irreducible] addV subV crossR scaleV unitR app9 vT q30 dot3
theorem vx_1 {a b c d e f k m0 m1 m2 m3 m4 m5 m6 m7 m8:Int} {n:Nat} {r:Nat→List A0} {v:Int}  {cd cd1:Code} (hc:bodyAt Tryz.f6 [true,false,true,true,true,true,false,true,true]=some cd) (hc1:bodyAt Tryz.f6 [true,false,true,true,true,true,false,true,true,true,true]=some cd1) (base:Nat) (w0:World) (kn:St→Prop) (ke:Nat→St→Prop) (kr:St→Prop) (h2:SpecC Tryz.prog Tryz.f6.ntmps base w0 cd1 kn ke kr (stB [(0,.rowF n 16 r),(2,tB false),(3,tN .i64 v),(4,.ptr 4 0),(5,.sc (.v (.int .i64 (bif gV a b c then (0:Int) else 1))))] [(4,27,[.v (.int .i64 a),.v (.int .i64 b),.v (.int .i64 c),.v (.int .i64 d),.v (.int .i64 e),.v (.int .i64 f),.v (.int .i64 k),.v (.int .i64 m0),.v (.int .i64 m1),.v (.int .i64 m2),.v (.int .i64 m3),.v (.int .i64 m4),.v (.int .i64 m5),.v (.int .i64 m6),.v (.int .i64 m7),.v (.int .i64 m8)])])):SpecC Tryz.prog Tryz.f6.ntmps base w0 cd kn ke kr (stB [(0,.rowF n 16 r),(2,tB false),(3,tN .i64 v),(4,.ptr 4 0)] [(4,27,[.v (.int .i64 a),.v (.int .i64 b),.v (.int .i64 c),.v (.int .i64 d),.v (.int .i64 e),.v (.int .i64 f),.v (.int .i64 k),.v (.int .i64 m0),.v (.int .i64 m1),.v (.int .i64 m2),.v (.int .i64 m3),.v (.int .i64 m4),.v (.int .i64 m5),.v (.int .i64 m6),.v (.int .i64 m7),.v (.int .i64 m8)])]):=by
  refine spec_of hc rfl (spec_cut (cxOk Tryz.prog intsR_ok [eqVec] [cR1May,cR3May,cVCheck,cVAdd,cVSub,cCross,cVScale,cVUnit,cVNeg,cApply,g3Add,g3Sub,g3Cross,g3Scale,g3Unit,cR3Neg,g3Apply,cIs3,cNum3,cWakes3x]) follows [] 60 2 _ _ rfl ?_ (spec_to hc1 rfl h2))
  repeat' first
    | exact trivial
    | (refine And.intro (show regChk _ _ _ _ _=true from by kernel_rfl) (And.intro ?_ ?_))
    | (refine And.intro (fun _=>?_) (fun h=>absurd (show true=false from h) (by decide)))
    | (refine And.intro (fun h=>absurd (show false=true from h) (by decide)) (fun _=>?_))
    | (refine And.intro (fun hb=>?_) (fun hb'=>?_))
    | refine And.intro ?_ ?_
    | intro _
  all_goals first
    | (show some (TV.sc (.v (.int .i64 _)))=some (TV.sc (.v (.int .i64 _)));first|rfl|exact sc_eq (bw_1 (by assumption))|exact sc_eq (bw_0 (by assumption)))
    | (show _=_;rfl)
    -- PVC
theorem vx_2 {a b c d e f k m0 m1 m2 m3 m4 m5 m6 m7 m8:Int} {n:Nat} {r:Nat→List A0} {v:Int}  {cd cd1:Code} (hc:bodyAt Tryz.f6 [true,false,true,true,true,true,false,true,true,true,true]=some cd) (hc1:bodyAt Tryz.f6 [true,false,true,true,true,true,false,true,true,true,true,true,true]=some cd1) (base:Nat) (w0:World) (kn:St→Prop) (ke:Nat→St→Prop) (kr:St→Prop) (h2:SpecC Tryz.prog Tryz.f6.ntmps base w0 cd1 kn ke kr (stB [(0,.rowF n 16 r),(2,tB false),(3,tN .i64 v),(4,.ptr 4 0),(5,.sc (.v (.int .i64 (bif gV a b c then (0:Int) else 1)))),(6,.sc (.v (.int .i64 (bif gV d e f then (bif gV a b c then (0:Int) else 1) else 1))))] [(4,27,[.v (.int .i64 a),.v (.int .i64 b),.v (.int .i64 c),.v (.int .i64 d),.v (.int .i64 e),.v (.int .i64 f),.v (.int .i64 k),.v (.int .i64 m0),.v (.int .i64 m1),.v (.int .i64 m2),.v (.int .i64 m3),.v (.int .i64 m4),.v (.int .i64 m5),.v (.int .i64 m6),.v (.int .i64 m7),.v (.int .i64 m8)])])):SpecC Tryz.prog Tryz.f6.ntmps base w0 cd kn ke kr (stB [(0,.rowF n 16 r),(2,tB false),(3,tN .i64 v),(4,.ptr 4 0),(5,.sc (.v (.int .i64 (bif gV a b c then (0:Int) else 1))))] [(4,27,[.v (.int .i64 a),.v (.int .i64 b),.v (.int .i64 c),.v (.int .i64 d),.v (.int .i64 e),.v (.int .i64 f),.v (.int .i64 k),.v (.int .i64 m0),.v (.int .i64 m1),.v (.int .i64 m2),.v (.int .i64 m3),.v (.int .i64 m4),.v (.int .i64 m5),.v (.int .i64 m6),.v (.int .i64 m7),.v (.int .i64 m8)])]):=by
  refine spec_of hc rfl (spec_cut (cxOk Tryz.prog intsR_ok [eqVec] [cR1May,cR3May,cVCheck,cVAdd,cVSub,cCross,cVScale,cVUnit,cVNeg,cApply,g3Add,g3Sub,g3Cross,g3Scale,g3Unit,cR3Neg,g3Apply,cIs3,cNum3,cWakes3x]) follows [] 60 2 _ _ rfl ?_ (spec_to hc1 rfl h2))
  repeat' first
    | exact trivial
    | (refine And.intro (show regChk _ _ _ _ _=true from by kernel_rfl) (And.intro ?_ ?_))
    | (refine And.intro (fun _=>?_) (fun h=>absurd (show true=false from h) (by decide)))
    | (refine And.intro (fun h=>absurd (show false=true from h) (by decide)) (fun _=>?_))
    | (refine And.intro (fun hb=>?_) (fun hb'=>?_))
    | refine And.intro ?_ ?_
    | intro _
  all_goals first
    | (show some (TV.sc (.v (.int .i64 _)))=some (TV.sc (.v (.int .i64 _)));first|rfl|exact sc_eq (bw_1 (by assumption))|exact sc_eq (bw_0 (by assumption)))
    | (show _=_;rfl)
    -- PVC
theorem vx_3 {a b c d e f k m0 m1 m2 m3 m4 m5 m6 m7 m8:Int} {n:Nat} {r:Nat→List A0} {v:Int}  {cd cd1:Code} (hc:bodyAt Tryz.f6 [true,false,true,true,true,true,false,true,true,true,true,true,true]=some cd) (hc1:bodyAt Tryz.f6 [true,false,true,true,true,true,false,true,true,true,true,true,true,true,true]=some cd1) (base:Nat) (w0:World) (kn:St→Prop) (ke:Nat→St→Prop) (kr:St→Prop) (h2:SpecC Tryz.prog Tryz.f6.ntmps base w0 cd1 kn ke kr (stB [(0,.rowF n 16 r),(2,tB false),(3,tN .i64 v),(4,.ptr 4 0),(5,.sc (.v (.int .i64 (bif gV a b c then (0:Int) else 1)))),(6,.sc (.v (.int .i64 (bif gV d e f then (bif gV a b c then (0:Int) else 1) else 1)))),(7,.sc (.v (.int .i64 (bif gV d e f then (bif gV a b c then (0:Int) else 1) else 1)))),(8,.sc (.v (.int .i64 (bif gV d e f then (bif gV a b c then (0:Int) else 1) else 1)))),(9,.sc (.v (.int .i64 (bif gV d e f then (bif gV a b c then (0:Int) else 1) else 1)))),(10,.sc (.v (.int .i64 (bif wd k then (bif gV a b c then (0:Int) else 1) else 1)))),(11,.sc (.v (.int .i64 (bif gV a b c then (0:Int) else 1)))),(12,.sc (.v (.int .i64 (bif gV a b c then (0:Int) else 1))))] [(4,27,[.v (.int .i64 a),.v (.int .i64 b),.v (.int .i64 c),.v (.int .i64 d),.v (.int .i64 e),.v (.int .i64 f),.v (.int .i64 k),.v (.int .i64 m0),.v (.int .i64 m1),.v (.int .i64 m2),.v (.int .i64 m3),.v (.int .i64 m4),.v (.int .i64 m5),.v (.int .i64 m6),.v (.int .i64 m7),.v (.int .i64 m8)])])):SpecC Tryz.prog Tryz.f6.ntmps base w0 cd kn ke kr (stB [(0,.rowF n 16 r),(2,tB false),(3,tN .i64 v),(4,.ptr 4 0),(5,.sc (.v (.int .i64 (bif gV a b c then (0:Int) else 1)))),(6,.sc (.v (.int .i64 (bif gV d e f then (bif gV a b c then (0:Int) else 1) else 1))))] [(4,27,[.v (.int .i64 a),.v (.int .i64 b),.v (.int .i64 c),.v (.int .i64 d),.v (.int .i64 e),.v (.int .i64 f),.v (.int .i64 k),.v (.int .i64 m0),.v (.int .i64 m1),.v (.int .i64 m2),.v (.int .i64 m3),.v (.int .i64 m4),.v (.int .i64 m5),.v (.int .i64 m6),.v (.int .i64 m7),.v (.int .i64 m8)])]):=by
  refine spec_of hc rfl (spec_cut (cxOk Tryz.prog intsR_ok [eqVec] [cR1May,cR3May,cVCheck,cVAdd,cVSub,cCross,cVScale,cVUnit,cVNeg,cApply,g3Add,g3Sub,g3Cross,g3Scale,g3Unit,cR3Neg,g3Apply,cIs3,cNum3,cWakes3x]) follows [] 60 2 _ _ rfl ?_ (spec_to hc1 rfl h2))
  repeat' first
    | exact trivial
    | (refine And.intro (show regChk _ _ _ _ _=true from by kernel_rfl) (And.intro ?_ ?_))
    | (refine And.intro (fun _=>?_) (fun h=>absurd (show true=false from h) (by decide)))
    | (refine And.intro (fun h=>absurd (show false=true from h) (by decide)) (fun _=>?_))
    | (refine And.intro (fun hb=>?_) (fun hb'=>?_))
    | refine And.intro ?_ ?_
    | intro _
  all_goals first
    | (show some (TV.sc (.v (.int .i64 _)))=some (TV.sc (.v (.int .i64 _)));first|rfl|exact sc_eq (bw_1 (by assumption))|exact sc_eq (bw_0 (by assumption)))
    | (show _=_;rfl)
    -- PVC
theorem vx_m0 {a b c d e f k m0 m1 m2 m3 m4 m5 m6 m7 m8:Int} {n:Nat} {r:Nat→List A0} {v:Int} {cd:Code} (hc:bodyAt Tryz.f6 [true,false,true,true,true,true,false,true,true,true,true,true,true,true,true,false,true,true,true]=some cd) (base:Nat) (w0:World) (ke:Nat→St→Prop) (kr:St→Prop):SpecC Tryz.prog Tryz.f6.ntmps base w0 cd (fun s=>leG s [(0,.rowF n 16 r),(2,tB false),(3,tN .i64 v),(4,.ptr 4 0),(5,.sc (.v (.int .i64 (bif gV a b c then (0:Int) else 1)))),(6,.sc (.v (.int .i64 (bif gV d e f then (bif gV a b c then (0:Int) else 1) else 1)))),(7,.sc (.v (.int .i64 (bif gV d e f then (bif gV a b c then (0:Int) else 1) else 1)))),(8,.sc (.v (.int .i64 (bif gV d e f then (bif gV a b c then (0:Int) else 1) else 1)))),(9,.sc (.v (.int .i64 (bif gV d e f then (bif gV a b c then (0:Int) else 1) else 1)))),(10,.sc (.v (.int .i64 (bif wd k then (bif gV a b c then (0:Int) else 1) else 1)))),(11,.sc (.v (.int .i64 (bif gV a b c then (0:Int) else 1)))),(12,.sc (.v (.int .i64 (bif wd m0 then (bif gV a b c then (0:Int) else 1) else 1)))),(13,.sc (.v (.int .i64 1)))]∧leB s [(4,27,[.v (.int .i64 a),.v (.int .i64 b),.v (.int .i64 c),.v (.int .i64 d),.v (.int .i64 e),.v (.int .i64 f),.v (.int .i64 k),.v (.int .i64 m0),.v (.int .i64 m1),.v (.int .i64 m2),.v (.int .i64 m3),.v (.int .i64 m4),.v (.int .i64 m5),.v (.int .i64 m6),.v (.int .i64 m7),.v (.int .i64 m8)])]) ke kr (stB [(0,.rowF n 16 r),(2,tB false),(3,tN .i64 v),(4,.ptr 4 0),(5,.sc (.v (.int .i64 (bif gV a b c then (0:Int) else 1)))),(6,.sc (.v (.int .i64 (bif gV d e f then (bif gV a b c then (0:Int) else 1) else 1)))),(7,.sc (.v (.int .i64 (bif gV d e f then (bif gV a b c then (0:Int) else 1) else 1)))),(8,.sc (.v (.int .i64 (bif gV d e f then (bif gV a b c then (0:Int) else 1) else 1)))),(9,.sc (.v (.int .i64 (bif gV d e f then (bif gV a b c then (0:Int) else 1) else 1)))),(10,.sc (.v (.int .i64 (bif wd k then (bif gV a b c then (0:Int) else 1) else 1)))),(11,.sc (.v (.int .i64 (bif gV a b c then (0:Int) else 1)))),(12,.sc (.v (.int .i64 (bif gV a b c then (0:Int) else 1)))),(13,.sc (.v (.int .i64 0)))] [(4,27,[.v (.int .i64 a),.v (.int .i64 b),.v (.int .i64 c),.v (.int .i64 d),.v (.int .i64 e),.v (.int .i64 f),.v (.int .i64 k),.v (.int .i64 m0),.v (.int .i64 m1),.v (.int .i64 m2),.v (.int .i64 m3),.v (.int .i64 m4),.v (.int .i64 m5),.v (.int .i64 m6),.v (.int .i64 m7),.v (.int .i64 m8)])]):=by
  refine spec_of hc rfl (spec_vcd (cxOk Tryz.prog intsR_ok [eqVec] [cR1May,cR3May,cVCheck,cVAdd,cVSub,cCross,cVScale,cVUnit,cVNeg,cApply,g3Add,g3Sub,g3Cross,g3Scale,g3Unit,cR3Neg,g3Apply,cIs3,cNum3,cWakes3x]) follows [] 60 ?_)
  repeat' first
    | exact trivial
    | (refine And.intro (show regChk _ _ _ _ _=true from by kernel_rfl) (And.intro ?_ ?_))
    | (refine And.intro (fun _=>?_) (fun h=>absurd (show true=false from h) (by decide)))
    | (refine And.intro (fun h=>absurd (show false=true from h) (by decide)) (fun _=>?_))
    | (refine And.intro (fun hb=>?_) (fun hb'=>?_))
    | refine And.intro ?_ ?_
    | intro _
  all_goals first
    | (show some (TV.sc (.v (.int .i64 _)))=some (TV.sc (.v (.int .i64 _)));first|rfl|exact sc_eq (bw_1 (by assumption))|exact sc_eq (bw_0 (by assumption)))
    | (show (0:Int)≤_;decide)
    | (show _<((9:Nat):Int);decide)
    | (show _=_;rfl)
    -- PVC
theorem vx_m1 {a b c d e f k m0 m1 m2 m3 m4 m5 m6 m7 m8:Int} {n:Nat} {r:Nat→List A0} {v:Int} {cd:Code} (hc:bodyAt Tryz.f6 [true,false,true,true,true,true,false,true,true,true,true,true,true,true,true,false,true,true,true]=some cd) (base:Nat) (w0:World) (ke:Nat→St→Prop) (kr:St→Prop):SpecC Tryz.prog Tryz.f6.ntmps base w0 cd (fun s=>leG s [(0,.rowF n 16 r),(2,tB false),(3,tN .i64 v),(4,.ptr 4 0),(5,.sc (.v (.int .i64 (bif gV a b c then (0:Int) else 1)))),(6,.sc (.v (.int .i64 (bif gV d e f then (bif gV a b c then (0:Int) else 1) else 1)))),(7,.sc (.v (.int .i64 (bif gV d e f then (bif gV a b c then (0:Int) else 1) else 1)))),(8,.sc (.v (.int .i64 (bif gV d e f then (bif gV a b c then (0:Int) else 1) else 1)))),(9,.sc (.v (.int .i64 (bif gV d e f then (bif gV a b c then (0:Int) else 1) else 1)))),(10,.sc (.v (.int .i64 (bif wd k then (bif gV a b c then (0:Int) else 1) else 1)))),(11,.sc (.v (.int .i64 (bif gV a b c then (0:Int) else 1)))),(12,.sc (.v (.int .i64 (bif wd m1 then (bif wd m0 then (bif gV a b c then (0:Int) else 1) else 1) else 1)))),(13,.sc (.v (.int .i64 2)))]∧leB s [(4,27,[.v (.int .i64 a),.v (.int .i64 b),.v (.int .i64 c),.v (.int .i64 d),.v (.int .i64 e),.v (.int .i64 f),.v (.int .i64 k),.v (.int .i64 m0),.v (.int .i64 m1),.v (.int .i64 m2),.v (.int .i64 m3),.v (.int .i64 m4),.v (.int .i64 m5),.v (.int .i64 m6),.v (.int .i64 m7),.v (.int .i64 m8)])]) ke kr (stB [(0,.rowF n 16 r),(2,tB false),(3,tN .i64 v),(4,.ptr 4 0),(5,.sc (.v (.int .i64 (bif gV a b c then (0:Int) else 1)))),(6,.sc (.v (.int .i64 (bif gV d e f then (bif gV a b c then (0:Int) else 1) else 1)))),(7,.sc (.v (.int .i64 (bif gV d e f then (bif gV a b c then (0:Int) else 1) else 1)))),(8,.sc (.v (.int .i64 (bif gV d e f then (bif gV a b c then (0:Int) else 1) else 1)))),(9,.sc (.v (.int .i64 (bif gV d e f then (bif gV a b c then (0:Int) else 1) else 1)))),(10,.sc (.v (.int .i64 (bif wd k then (bif gV a b c then (0:Int) else 1) else 1)))),(11,.sc (.v (.int .i64 (bif gV a b c then (0:Int) else 1)))),(12,.sc (.v (.int .i64 (bif wd m0 then (bif gV a b c then (0:Int) else 1) else 1)))),(13,.sc (.v (.int .i64 1)))] [(4,27,[.v (.int .i64 a),.v (.int .i64 b),.v (.int .i64 c),.v (.int .i64 d),.v (.int .i64 e),.v (.int .i64 f),.v (.int .i64 k),.v (.int .i64 m0),.v (.int .i64 m1),.v (.int .i64 m2),.v (.int .i64 m3),.v (.int .i64 m4),.v (.int .i64 m5),.v (.int .i64 m6),.v (.int .i64 m7),.v (.int .i64 m8)])]):=by
  refine spec_of hc rfl (spec_vcd (cxOk Tryz.prog intsR_ok [eqVec] [cR1May,cR3May,cVCheck,cVAdd,cVSub,cCross,cVScale,cVUnit,cVNeg,cApply,g3Add,g3Sub,g3Cross,g3Scale,g3Unit,cR3Neg,g3Apply,cIs3,cNum3,cWakes3x]) follows [] 60 ?_)
  repeat' first
    | exact trivial
    | (refine And.intro (show regChk _ _ _ _ _=true from by kernel_rfl) (And.intro ?_ ?_))
    | (refine And.intro (fun _=>?_) (fun h=>absurd (show true=false from h) (by decide)))
    | (refine And.intro (fun h=>absurd (show false=true from h) (by decide)) (fun _=>?_))
    | (refine And.intro (fun hb=>?_) (fun hb'=>?_))
    | refine And.intro ?_ ?_
    | intro _
  all_goals first
    | (show some (TV.sc (.v (.int .i64 _)))=some (TV.sc (.v (.int .i64 _)));first|rfl|exact sc_eq (bw_1 (by assumption))|exact sc_eq (bw_0 (by assumption)))
    | (show (0:Int)≤_;decide)
    | (show _<((9:Nat):Int);decide)
    | (show _=_;rfl)
    -- PVC
theorem vx_m2 {a b c d e f k m0 m1 m2 m3 m4 m5 m6 m7 m8:Int} {n:Nat} {r:Nat→List A0} {v:Int} {cd:Code} (hc:bodyAt Tryz.f6 [true,false,true,true,true,true,false,true,true,true,true,true,true,true,true,false,true,true,true]=some cd) (base:Nat) (w0:World) (ke:Nat→St→Prop) (kr:St→Prop):SpecC Tryz.prog Tryz.f6.ntmps base w0 cd (fun s=>leG s [(0,.rowF n 16 r),(2,tB false),(3,tN .i64 v),(4,.ptr 4 0),(5,.sc (.v (.int .i64 (bif gV a b c then (0:Int) else 1)))),(6,.sc (.v (.int .i64 (bif gV d e f then (bif gV a b c then (0:Int) else 1) else 1)))),(7,.sc (.v (.int .i64 (bif gV d e f then (bif gV a b c then (0:Int) else 1) else 1)))),(8,.sc (.v (.int .i64 (bif gV d e f then (bif gV a b c then (0:Int) else 1) else 1)))),(9,.sc (.v (.int .i64 (bif gV d e f then (bif gV a b c then (0:Int) else 1) else 1)))),(10,.sc (.v (.int .i64 (bif wd k then (bif gV a b c then (0:Int) else 1) else 1)))),(11,.sc (.v (.int .i64 (bif gV a b c then (0:Int) else 1)))),(12,.sc (.v (.int .i64 (bif wd m2 then (bif wd m1 then (bif wd m0 then (bif gV a b c then (0:Int) else 1) else 1) else 1) else 1)))),(13,.sc (.v (.int .i64 3)))]∧leB s [(4,27,[.v (.int .i64 a),.v (.int .i64 b),.v (.int .i64 c),.v (.int .i64 d),.v (.int .i64 e),.v (.int .i64 f),.v (.int .i64 k),.v (.int .i64 m0),.v (.int .i64 m1),.v (.int .i64 m2),.v (.int .i64 m3),.v (.int .i64 m4),.v (.int .i64 m5),.v (.int .i64 m6),.v (.int .i64 m7),.v (.int .i64 m8)])]) ke kr (stB [(0,.rowF n 16 r),(2,tB false),(3,tN .i64 v),(4,.ptr 4 0),(5,.sc (.v (.int .i64 (bif gV a b c then (0:Int) else 1)))),(6,.sc (.v (.int .i64 (bif gV d e f then (bif gV a b c then (0:Int) else 1) else 1)))),(7,.sc (.v (.int .i64 (bif gV d e f then (bif gV a b c then (0:Int) else 1) else 1)))),(8,.sc (.v (.int .i64 (bif gV d e f then (bif gV a b c then (0:Int) else 1) else 1)))),(9,.sc (.v (.int .i64 (bif gV d e f then (bif gV a b c then (0:Int) else 1) else 1)))),(10,.sc (.v (.int .i64 (bif wd k then (bif gV a b c then (0:Int) else 1) else 1)))),(11,.sc (.v (.int .i64 (bif gV a b c then (0:Int) else 1)))),(12,.sc (.v (.int .i64 (bif wd m1 then (bif wd m0 then (bif gV a b c then (0:Int) else 1) else 1) else 1)))),(13,.sc (.v (.int .i64 2)))] [(4,27,[.v (.int .i64 a),.v (.int .i64 b),.v (.int .i64 c),.v (.int .i64 d),.v (.int .i64 e),.v (.int .i64 f),.v (.int .i64 k),.v (.int .i64 m0),.v (.int .i64 m1),.v (.int .i64 m2),.v (.int .i64 m3),.v (.int .i64 m4),.v (.int .i64 m5),.v (.int .i64 m6),.v (.int .i64 m7),.v (.int .i64 m8)])]):=by
  refine spec_of hc rfl (spec_vcd (cxOk Tryz.prog intsR_ok [eqVec] [cR1May,cR3May,cVCheck,cVAdd,cVSub,cCross,cVScale,cVUnit,cVNeg,cApply,g3Add,g3Sub,g3Cross,g3Scale,g3Unit,cR3Neg,g3Apply,cIs3,cNum3,cWakes3x]) follows [] 60 ?_)
  repeat' first
    | exact trivial
    | (refine And.intro (show regChk _ _ _ _ _=true from by kernel_rfl) (And.intro ?_ ?_))
    | (refine And.intro (fun _=>?_) (fun h=>absurd (show true=false from h) (by decide)))
    | (refine And.intro (fun h=>absurd (show false=true from h) (by decide)) (fun _=>?_))
    | (refine And.intro (fun hb=>?_) (fun hb'=>?_))
    | refine And.intro ?_ ?_
    | intro _
  all_goals first
    | (show some (TV.sc (.v (.int .i64 _)))=some (TV.sc (.v (.int .i64 _)));first|rfl|exact sc_eq (bw_1 (by assumption))|exact sc_eq (bw_0 (by assumption)))
    | (show (0:Int)≤_;decide)
    | (show _<((9:Nat):Int);decide)
    | (show _=_;rfl)
    -- PVC
theorem vx_m3 {a b c d e f k m0 m1 m2 m3 m4 m5 m6 m7 m8:Int} {n:Nat} {r:Nat→List A0} {v:Int} {cd:Code} (hc:bodyAt Tryz.f6 [true,false,true,true,true,true,false,true,true,true,true,true,true,true,true,false,true,true,true]=some cd) (base:Nat) (w0:World) (ke:Nat→St→Prop) (kr:St→Prop):SpecC Tryz.prog Tryz.f6.ntmps base w0 cd (fun s=>leG s [(0,.rowF n 16 r),(2,tB false),(3,tN .i64 v),(4,.ptr 4 0),(5,.sc (.v (.int .i64 (bif gV a b c then (0:Int) else 1)))),(6,.sc (.v (.int .i64 (bif gV d e f then (bif gV a b c then (0:Int) else 1) else 1)))),(7,.sc (.v (.int .i64 (bif gV d e f then (bif gV a b c then (0:Int) else 1) else 1)))),(8,.sc (.v (.int .i64 (bif gV d e f then (bif gV a b c then (0:Int) else 1) else 1)))),(9,.sc (.v (.int .i64 (bif gV d e f then (bif gV a b c then (0:Int) else 1) else 1)))),(10,.sc (.v (.int .i64 (bif wd k then (bif gV a b c then (0:Int) else 1) else 1)))),(11,.sc (.v (.int .i64 (bif gV a b c then (0:Int) else 1)))),(12,.sc (.v (.int .i64 (bif wd m3 then (bif wd m2 then (bif wd m1 then (bif wd m0 then (bif gV a b c then (0:Int) else 1) else 1) else 1) else 1) else 1)))),(13,.sc (.v (.int .i64 4)))]∧leB s [(4,27,[.v (.int .i64 a),.v (.int .i64 b),.v (.int .i64 c),.v (.int .i64 d),.v (.int .i64 e),.v (.int .i64 f),.v (.int .i64 k),.v (.int .i64 m0),.v (.int .i64 m1),.v (.int .i64 m2),.v (.int .i64 m3),.v (.int .i64 m4),.v (.int .i64 m5),.v (.int .i64 m6),.v (.int .i64 m7),.v (.int .i64 m8)])]) ke kr (stB [(0,.rowF n 16 r),(2,tB false),(3,tN .i64 v),(4,.ptr 4 0),(5,.sc (.v (.int .i64 (bif gV a b c then (0:Int) else 1)))),(6,.sc (.v (.int .i64 (bif gV d e f then (bif gV a b c then (0:Int) else 1) else 1)))),(7,.sc (.v (.int .i64 (bif gV d e f then (bif gV a b c then (0:Int) else 1) else 1)))),(8,.sc (.v (.int .i64 (bif gV d e f then (bif gV a b c then (0:Int) else 1) else 1)))),(9,.sc (.v (.int .i64 (bif gV d e f then (bif gV a b c then (0:Int) else 1) else 1)))),(10,.sc (.v (.int .i64 (bif wd k then (bif gV a b c then (0:Int) else 1) else 1)))),(11,.sc (.v (.int .i64 (bif gV a b c then (0:Int) else 1)))),(12,.sc (.v (.int .i64 (bif wd m2 then (bif wd m1 then (bif wd m0 then (bif gV a b c then (0:Int) else 1) else 1) else 1) else 1)))),(13,.sc (.v (.int .i64 3)))] [(4,27,[.v (.int .i64 a),.v (.int .i64 b),.v (.int .i64 c),.v (.int .i64 d),.v (.int .i64 e),.v (.int .i64 f),.v (.int .i64 k),.v (.int .i64 m0),.v (.int .i64 m1),.v (.int .i64 m2),.v (.int .i64 m3),.v (.int .i64 m4),.v (.int .i64 m5),.v (.int .i64 m6),.v (.int .i64 m7),.v (.int .i64 m8)])]):=by
  refine spec_of hc rfl (spec_vcd (cxOk Tryz.prog intsR_ok [eqVec] [cR1May,cR3May,cVCheck,cVAdd,cVSub,cCross,cVScale,cVUnit,cVNeg,cApply,g3Add,g3Sub,g3Cross,g3Scale,g3Unit,cR3Neg,g3Apply,cIs3,cNum3,cWakes3x]) follows [] 60 ?_)
  repeat' first
    | exact trivial
    | (refine And.intro (show regChk _ _ _ _ _=true from by kernel_rfl) (And.intro ?_ ?_))
    | (refine And.intro (fun _=>?_) (fun h=>absurd (show true=false from h) (by decide)))
    | (refine And.intro (fun h=>absurd (show false=true from h) (by decide)) (fun _=>?_))
    | (refine And.intro (fun hb=>?_) (fun hb'=>?_))
    | refine And.intro ?_ ?_
    | intro _
  all_goals first
    | (show some (TV.sc (.v (.int .i64 _)))=some (TV.sc (.v (.int .i64 _)));first|rfl|exact sc_eq (bw_1 (by assumption))|exact sc_eq (bw_0 (by assumption)))
    | (show (0:Int)≤_;decide)
    | (show _<((9:Nat):Int);decide)
    | (show _=_;rfl)
    -- PVC
theorem vx_m4 {a b c d e f k m0 m1 m2 m3 m4 m5 m6 m7 m8:Int} {n:Nat} {r:Nat→List A0} {v:Int} {cd:Code} (hc:bodyAt Tryz.f6 [true,false,true,true,true,true,false,true,true,true,true,true,true,true,true,false,true,true,true]=some cd) (base:Nat) (w0:World) (ke:Nat→St→Prop) (kr:St→Prop):SpecC Tryz.prog Tryz.f6.ntmps base w0 cd (fun s=>leG s [(0,.rowF n 16 r),(2,tB false),(3,tN .i64 v),(4,.ptr 4 0),(5,.sc (.v (.int .i64 (bif gV a b c then (0:Int) else 1)))),(6,.sc (.v (.int .i64 (bif gV d e f then (bif gV a b c then (0:Int) else 1) else 1)))),(7,.sc (.v (.int .i64 (bif gV d e f then (bif gV a b c then (0:Int) else 1) else 1)))),(8,.sc (.v (.int .i64 (bif gV d e f then (bif gV a b c then (0:Int) else 1) else 1)))),(9,.sc (.v (.int .i64 (bif gV d e f then (bif gV a b c then (0:Int) else 1) else 1)))),(10,.sc (.v (.int .i64 (bif wd k then (bif gV a b c then (0:Int) else 1) else 1)))),(11,.sc (.v (.int .i64 (bif gV a b c then (0:Int) else 1)))),(12,.sc (.v (.int .i64 (bif wd m4 then (bif wd m3 then (bif wd m2 then (bif wd m1 then (bif wd m0 then (bif gV a b c then (0:Int) else 1) else 1) else 1) else 1) else 1) else 1)))),(13,.sc (.v (.int .i64 5)))]∧leB s [(4,27,[.v (.int .i64 a),.v (.int .i64 b),.v (.int .i64 c),.v (.int .i64 d),.v (.int .i64 e),.v (.int .i64 f),.v (.int .i64 k),.v (.int .i64 m0),.v (.int .i64 m1),.v (.int .i64 m2),.v (.int .i64 m3),.v (.int .i64 m4),.v (.int .i64 m5),.v (.int .i64 m6),.v (.int .i64 m7),.v (.int .i64 m8)])]) ke kr (stB [(0,.rowF n 16 r),(2,tB false),(3,tN .i64 v),(4,.ptr 4 0),(5,.sc (.v (.int .i64 (bif gV a b c then (0:Int) else 1)))),(6,.sc (.v (.int .i64 (bif gV d e f then (bif gV a b c then (0:Int) else 1) else 1)))),(7,.sc (.v (.int .i64 (bif gV d e f then (bif gV a b c then (0:Int) else 1) else 1)))),(8,.sc (.v (.int .i64 (bif gV d e f then (bif gV a b c then (0:Int) else 1) else 1)))),(9,.sc (.v (.int .i64 (bif gV d e f then (bif gV a b c then (0:Int) else 1) else 1)))),(10,.sc (.v (.int .i64 (bif wd k then (bif gV a b c then (0:Int) else 1) else 1)))),(11,.sc (.v (.int .i64 (bif gV a b c then (0:Int) else 1)))),(12,.sc (.v (.int .i64 (bif wd m3 then (bif wd m2 then (bif wd m1 then (bif wd m0 then (bif gV a b c then (0:Int) else 1) else 1) else 1) else 1) else 1)))),(13,.sc (.v (.int .i64 4)))] [(4,27,[.v (.int .i64 a),.v (.int .i64 b),.v (.int .i64 c),.v (.int .i64 d),.v (.int .i64 e),.v (.int .i64 f),.v (.int .i64 k),.v (.int .i64 m0),.v (.int .i64 m1),.v (.int .i64 m2),.v (.int .i64 m3),.v (.int .i64 m4),.v (.int .i64 m5),.v (.int .i64 m6),.v (.int .i64 m7),.v (.int .i64 m8)])]):=by
  refine spec_of hc rfl (spec_vcd (cxOk Tryz.prog intsR_ok [eqVec] [cR1May,cR3May,cVCheck,cVAdd,cVSub,cCross,cVScale,cVUnit,cVNeg,cApply,g3Add,g3Sub,g3Cross,g3Scale,g3Unit,cR3Neg,g3Apply,cIs3,cNum3,cWakes3x]) follows [] 60 ?_)
  repeat' first
    | exact trivial
    | (refine And.intro (show regChk _ _ _ _ _=true from by kernel_rfl) (And.intro ?_ ?_))
    | (refine And.intro (fun _=>?_) (fun h=>absurd (show true=false from h) (by decide)))
    | (refine And.intro (fun h=>absurd (show false=true from h) (by decide)) (fun _=>?_))
    | (refine And.intro (fun hb=>?_) (fun hb'=>?_))
    | refine And.intro ?_ ?_
    | intro _
  all_goals first
    | (show some (TV.sc (.v (.int .i64 _)))=some (TV.sc (.v (.int .i64 _)));first|rfl|exact sc_eq (bw_1 (by assumption))|exact sc_eq (bw_0 (by assumption)))
    | (show (0:Int)≤_;decide)
    | (show _<((9:Nat):Int);decide)
    | (show _=_;rfl)
    -- PVC
theorem vx_m5 {a b c d e f k m0 m1 m2 m3 m4 m5 m6 m7 m8:Int} {n:Nat} {r:Nat→List A0} {v:Int} {cd:Code} (hc:bodyAt Tryz.f6 [true,false,true,true,true,true,false,true,true,true,true,true,true,true,true,false,true,true,true]=some cd) (base:Nat) (w0:World) (ke:Nat→St→Prop) (kr:St→Prop):SpecC Tryz.prog Tryz.f6.ntmps base w0 cd (fun s=>leG s [(0,.rowF n 16 r),(2,tB false),(3,tN .i64 v),(4,.ptr 4 0),(5,.sc (.v (.int .i64 (bif gV a b c then (0:Int) else 1)))),(6,.sc (.v (.int .i64 (bif gV d e f then (bif gV a b c then (0:Int) else 1) else 1)))),(7,.sc (.v (.int .i64 (bif gV d e f then (bif gV a b c then (0:Int) else 1) else 1)))),(8,.sc (.v (.int .i64 (bif gV d e f then (bif gV a b c then (0:Int) else 1) else 1)))),(9,.sc (.v (.int .i64 (bif gV d e f then (bif gV a b c then (0:Int) else 1) else 1)))),(10,.sc (.v (.int .i64 (bif wd k then (bif gV a b c then (0:Int) else 1) else 1)))),(11,.sc (.v (.int .i64 (bif gV a b c then (0:Int) else 1)))),(12,.sc (.v (.int .i64 (bif wd m5 then (bif wd m4 then (bif wd m3 then (bif wd m2 then (bif wd m1 then (bif wd m0 then (bif gV a b c then (0:Int) else 1) else 1) else 1) else 1) else 1) else 1) else 1)))),(13,.sc (.v (.int .i64 6)))]∧leB s [(4,27,[.v (.int .i64 a),.v (.int .i64 b),.v (.int .i64 c),.v (.int .i64 d),.v (.int .i64 e),.v (.int .i64 f),.v (.int .i64 k),.v (.int .i64 m0),.v (.int .i64 m1),.v (.int .i64 m2),.v (.int .i64 m3),.v (.int .i64 m4),.v (.int .i64 m5),.v (.int .i64 m6),.v (.int .i64 m7),.v (.int .i64 m8)])]) ke kr (stB [(0,.rowF n 16 r),(2,tB false),(3,tN .i64 v),(4,.ptr 4 0),(5,.sc (.v (.int .i64 (bif gV a b c then (0:Int) else 1)))),(6,.sc (.v (.int .i64 (bif gV d e f then (bif gV a b c then (0:Int) else 1) else 1)))),(7,.sc (.v (.int .i64 (bif gV d e f then (bif gV a b c then (0:Int) else 1) else 1)))),(8,.sc (.v (.int .i64 (bif gV d e f then (bif gV a b c then (0:Int) else 1) else 1)))),(9,.sc (.v (.int .i64 (bif gV d e f then (bif gV a b c then (0:Int) else 1) else 1)))),(10,.sc (.v (.int .i64 (bif wd k then (bif gV a b c then (0:Int) else 1) else 1)))),(11,.sc (.v (.int .i64 (bif gV a b c then (0:Int) else 1)))),(12,.sc (.v (.int .i64 (bif wd m4 then (bif wd m3 then (bif wd m2 then (bif wd m1 then (bif wd m0 then (bif gV a b c then (0:Int) else 1) else 1) else 1) else 1) else 1) else 1)))),(13,.sc (.v (.int .i64 5)))] [(4,27,[.v (.int .i64 a),.v (.int .i64 b),.v (.int .i64 c),.v (.int .i64 d),.v (.int .i64 e),.v (.int .i64 f),.v (.int .i64 k),.v (.int .i64 m0),.v (.int .i64 m1),.v (.int .i64 m2),.v (.int .i64 m3),.v (.int .i64 m4),.v (.int .i64 m5),.v (.int .i64 m6),.v (.int .i64 m7),.v (.int .i64 m8)])]):=by
  refine spec_of hc rfl (spec_vcd (cxOk Tryz.prog intsR_ok [eqVec] [cR1May,cR3May,cVCheck,cVAdd,cVSub,cCross,cVScale,cVUnit,cVNeg,cApply,g3Add,g3Sub,g3Cross,g3Scale,g3Unit,cR3Neg,g3Apply,cIs3,cNum3,cWakes3x]) follows [] 60 ?_)
  repeat' first
    | exact trivial
    | (refine And.intro (show regChk _ _ _ _ _=true from by kernel_rfl) (And.intro ?_ ?_))
    | (refine And.intro (fun _=>?_) (fun h=>absurd (show true=false from h) (by decide)))
    | (refine And.intro (fun h=>absurd (show false=true from h) (by decide)) (fun _=>?_))
    | (refine And.intro (fun hb=>?_) (fun hb'=>?_))
    | refine And.intro ?_ ?_
    | intro _
  all_goals first
    | (show some (TV.sc (.v (.int .i64 _)))=some (TV.sc (.v (.int .i64 _)));first|rfl|exact sc_eq (bw_1 (by assumption))|exact sc_eq (bw_0 (by assumption)))
    | (show (0:Int)≤_;decide)
    | (show _<((9:Nat):Int);decide)
    | (show _=_;rfl)
    -- PVC
theorem vx_m6 {a b c d e f k m0 m1 m2 m3 m4 m5 m6 m7 m8:Int} {n:Nat} {r:Nat→List A0} {v:Int} {cd:Code} (hc:bodyAt Tryz.f6 [true,false,true,true,true,true,false,true,true,true,true,true,true,true,true,false,true,true,true]=some cd) (base:Nat) (w0:World) (ke:Nat→St→Prop) (kr:St→Prop):SpecC Tryz.prog Tryz.f6.ntmps base w0 cd (fun s=>leG s [(0,.rowF n 16 r),(2,tB false),(3,tN .i64 v),(4,.ptr 4 0),(5,.sc (.v (.int .i64 (bif gV a b c then (0:Int) else 1)))),(6,.sc (.v (.int .i64 (bif gV d e f then (bif gV a b c then (0:Int) else 1) else 1)))),(7,.sc (.v (.int .i64 (bif gV d e f then (bif gV a b c then (0:Int) else 1) else 1)))),(8,.sc (.v (.int .i64 (bif gV d e f then (bif gV a b c then (0:Int) else 1) else 1)))),(9,.sc (.v (.int .i64 (bif gV d e f then (bif gV a b c then (0:Int) else 1) else 1)))),(10,.sc (.v (.int .i64 (bif wd k then (bif gV a b c then (0:Int) else 1) else 1)))),(11,.sc (.v (.int .i64 (bif gV a b c then (0:Int) else 1)))),(12,.sc (.v (.int .i64 (bif wd m6 then (bif wd m5 then (bif wd m4 then (bif wd m3 then (bif wd m2 then (bif wd m1 then (bif wd m0 then (bif gV a b c then (0:Int) else 1) else 1) else 1) else 1) else 1) else 1) else 1) else 1)))),(13,.sc (.v (.int .i64 7)))]∧leB s [(4,27,[.v (.int .i64 a),.v (.int .i64 b),.v (.int .i64 c),.v (.int .i64 d),.v (.int .i64 e),.v (.int .i64 f),.v (.int .i64 k),.v (.int .i64 m0),.v (.int .i64 m1),.v (.int .i64 m2),.v (.int .i64 m3),.v (.int .i64 m4),.v (.int .i64 m5),.v (.int .i64 m6),.v (.int .i64 m7),.v (.int .i64 m8)])]) ke kr (stB [(0,.rowF n 16 r),(2,tB false),(3,tN .i64 v),(4,.ptr 4 0),(5,.sc (.v (.int .i64 (bif gV a b c then (0:Int) else 1)))),(6,.sc (.v (.int .i64 (bif gV d e f then (bif gV a b c then (0:Int) else 1) else 1)))),(7,.sc (.v (.int .i64 (bif gV d e f then (bif gV a b c then (0:Int) else 1) else 1)))),(8,.sc (.v (.int .i64 (bif gV d e f then (bif gV a b c then (0:Int) else 1) else 1)))),(9,.sc (.v (.int .i64 (bif gV d e f then (bif gV a b c then (0:Int) else 1) else 1)))),(10,.sc (.v (.int .i64 (bif wd k then (bif gV a b c then (0:Int) else 1) else 1)))),(11,.sc (.v (.int .i64 (bif gV a b c then (0:Int) else 1)))),(12,.sc (.v (.int .i64 (bif wd m5 then (bif wd m4 then (bif wd m3 then (bif wd m2 then (bif wd m1 then (bif wd m0 then (bif gV a b c then (0:Int) else 1) else 1) else 1) else 1) else 1) else 1) else 1)))),(13,.sc (.v (.int .i64 6)))] [(4,27,[.v (.int .i64 a),.v (.int .i64 b),.v (.int .i64 c),.v (.int .i64 d),.v (.int .i64 e),.v (.int .i64 f),.v (.int .i64 k),.v (.int .i64 m0),.v (.int .i64 m1),.v (.int .i64 m2),.v (.int .i64 m3),.v (.int .i64 m4),.v (.int .i64 m5),.v (.int .i64 m6),.v (.int .i64 m7),.v (.int .i64 m8)])]):=by
  refine spec_of hc rfl (spec_vcd (cxOk Tryz.prog intsR_ok [eqVec] [cR1May,cR3May,cVCheck,cVAdd,cVSub,cCross,cVScale,cVUnit,cVNeg,cApply,g3Add,g3Sub,g3Cross,g3Scale,g3Unit,cR3Neg,g3Apply,cIs3,cNum3,cWakes3x]) follows [] 60 ?_)
  repeat' first
    | exact trivial
    | (refine And.intro (show regChk _ _ _ _ _=true from by kernel_rfl) (And.intro ?_ ?_))
    | (refine And.intro (fun _=>?_) (fun h=>absurd (show true=false from h) (by decide)))
    | (refine And.intro (fun h=>absurd (show false=true from h) (by decide)) (fun _=>?_))
    | (refine And.intro (fun hb=>?_) (fun hb'=>?_))
    | refine And.intro ?_ ?_
    | intro _
  all_goals first
    | (show some (TV.sc (.v (.int .i64 _)))=some (TV.sc (.v (.int .i64 _)));first|rfl|exact sc_eq (bw_1 (by assumption))|exact sc_eq (bw_0 (by assumption)))
    | (show (0:Int)≤_;decide)
    | (show _<((9:Nat):Int);decide)
    | (show _=_;rfl)
    -- PVC
theorem vx_m7 {a b c d e f k m0 m1 m2 m3 m4 m5 m6 m7 m8:Int} {n:Nat} {r:Nat→List A0} {v:Int} {cd:Code} (hc:bodyAt Tryz.f6 [true,false,true,true,true,true,false,true,true,true,true,true,true,true,true,false,true,true,true]=some cd) (base:Nat) (w0:World) (ke:Nat→St→Prop) (kr:St→Prop):SpecC Tryz.prog Tryz.f6.ntmps base w0 cd (fun s=>leG s [(0,.rowF n 16 r),(2,tB false),(3,tN .i64 v),(4,.ptr 4 0),(5,.sc (.v (.int .i64 (bif gV a b c then (0:Int) else 1)))),(6,.sc (.v (.int .i64 (bif gV d e f then (bif gV a b c then (0:Int) else 1) else 1)))),(7,.sc (.v (.int .i64 (bif gV d e f then (bif gV a b c then (0:Int) else 1) else 1)))),(8,.sc (.v (.int .i64 (bif gV d e f then (bif gV a b c then (0:Int) else 1) else 1)))),(9,.sc (.v (.int .i64 (bif gV d e f then (bif gV a b c then (0:Int) else 1) else 1)))),(10,.sc (.v (.int .i64 (bif wd k then (bif gV a b c then (0:Int) else 1) else 1)))),(11,.sc (.v (.int .i64 (bif gV a b c then (0:Int) else 1)))),(12,.sc (.v (.int .i64 (bif wd m7 then (bif wd m6 then (bif wd m5 then (bif wd m4 then (bif wd m3 then (bif wd m2 then (bif wd m1 then (bif wd m0 then (bif gV a b c then (0:Int) else 1) else 1) else 1) else 1) else 1) else 1) else 1) else 1) else 1)))),(13,.sc (.v (.int .i64 8)))]∧leB s [(4,27,[.v (.int .i64 a),.v (.int .i64 b),.v (.int .i64 c),.v (.int .i64 d),.v (.int .i64 e),.v (.int .i64 f),.v (.int .i64 k),.v (.int .i64 m0),.v (.int .i64 m1),.v (.int .i64 m2),.v (.int .i64 m3),.v (.int .i64 m4),.v (.int .i64 m5),.v (.int .i64 m6),.v (.int .i64 m7),.v (.int .i64 m8)])]) ke kr (stB [(0,.rowF n 16 r),(2,tB false),(3,tN .i64 v),(4,.ptr 4 0),(5,.sc (.v (.int .i64 (bif gV a b c then (0:Int) else 1)))),(6,.sc (.v (.int .i64 (bif gV d e f then (bif gV a b c then (0:Int) else 1) else 1)))),(7,.sc (.v (.int .i64 (bif gV d e f then (bif gV a b c then (0:Int) else 1) else 1)))),(8,.sc (.v (.int .i64 (bif gV d e f then (bif gV a b c then (0:Int) else 1) else 1)))),(9,.sc (.v (.int .i64 (bif gV d e f then (bif gV a b c then (0:Int) else 1) else 1)))),(10,.sc (.v (.int .i64 (bif wd k then (bif gV a b c then (0:Int) else 1) else 1)))),(11,.sc (.v (.int .i64 (bif gV a b c then (0:Int) else 1)))),(12,.sc (.v (.int .i64 (bif wd m6 then (bif wd m5 then (bif wd m4 then (bif wd m3 then (bif wd m2 then (bif wd m1 then (bif wd m0 then (bif gV a b c then (0:Int) else 1) else 1) else 1) else 1) else 1) else 1) else 1) else 1)))),(13,.sc (.v (.int .i64 7)))] [(4,27,[.v (.int .i64 a),.v (.int .i64 b),.v (.int .i64 c),.v (.int .i64 d),.v (.int .i64 e),.v (.int .i64 f),.v (.int .i64 k),.v (.int .i64 m0),.v (.int .i64 m1),.v (.int .i64 m2),.v (.int .i64 m3),.v (.int .i64 m4),.v (.int .i64 m5),.v (.int .i64 m6),.v (.int .i64 m7),.v (.int .i64 m8)])]):=by
  refine spec_of hc rfl (spec_vcd (cxOk Tryz.prog intsR_ok [eqVec] [cR1May,cR3May,cVCheck,cVAdd,cVSub,cCross,cVScale,cVUnit,cVNeg,cApply,g3Add,g3Sub,g3Cross,g3Scale,g3Unit,cR3Neg,g3Apply,cIs3,cNum3,cWakes3x]) follows [] 60 ?_)
  repeat' first
    | exact trivial
    | (refine And.intro (show regChk _ _ _ _ _=true from by kernel_rfl) (And.intro ?_ ?_))
    | (refine And.intro (fun _=>?_) (fun h=>absurd (show true=false from h) (by decide)))
    | (refine And.intro (fun h=>absurd (show false=true from h) (by decide)) (fun _=>?_))
    | (refine And.intro (fun hb=>?_) (fun hb'=>?_))
    | refine And.intro ?_ ?_
    | intro _
  all_goals first
    | (show some (TV.sc (.v (.int .i64 _)))=some (TV.sc (.v (.int .i64 _)));first|rfl|exact sc_eq (bw_1 (by assumption))|exact sc_eq (bw_0 (by assumption)))
    | (show (0:Int)≤_;decide)
    | (show _<((9:Nat):Int);decide)
    | (show _=_;rfl)
    -- PVC
theorem vx_m8 {a b c d e f k m0 m1 m2 m3 m4 m5 m6 m7 m8:Int} {n:Nat} {r:Nat→List A0} {v:Int} {cd:Code} (hc:bodyAt Tryz.f6 [true,false,true,true,true,true,false,true,true,true,true,true,true,true,true,false,true,true,true]=some cd) (base:Nat) (w0:World) (ke:Nat→St→Prop) (kr:St→Prop):SpecC Tryz.prog Tryz.f6.ntmps base w0 cd (fun s=>leG s [(0,.rowF n 16 r),(2,tB false),(3,tN .i64 v),(4,.ptr 4 0),(5,.sc (.v (.int .i64 (bif gV a b c then (0:Int) else 1)))),(6,.sc (.v (.int .i64 (bif gV d e f then (bif gV a b c then (0:Int) else 1) else 1)))),(7,.sc (.v (.int .i64 (bif gV d e f then (bif gV a b c then (0:Int) else 1) else 1)))),(8,.sc (.v (.int .i64 (bif gV d e f then (bif gV a b c then (0:Int) else 1) else 1)))),(9,.sc (.v (.int .i64 (bif gV d e f then (bif gV a b c then (0:Int) else 1) else 1)))),(10,.sc (.v (.int .i64 (bif wd k then (bif gV a b c then (0:Int) else 1) else 1)))),(11,.sc (.v (.int .i64 (bif gV a b c then (0:Int) else 1)))),(12,.sc (.v (.int .i64 (bif wd m8 then (bif wd m7 then (bif wd m6 then (bif wd m5 then (bif wd m4 then (bif wd m3 then (bif wd m2 then (bif wd m1 then (bif wd m0 then (bif gV a b c then (0:Int) else 1) else 1) else 1) else 1) else 1) else 1) else 1) else 1) else 1) else 1)))),(13,.sc (.v (.int .i64 9)))]∧leB s [(4,27,[.v (.int .i64 a),.v (.int .i64 b),.v (.int .i64 c),.v (.int .i64 d),.v (.int .i64 e),.v (.int .i64 f),.v (.int .i64 k),.v (.int .i64 m0),.v (.int .i64 m1),.v (.int .i64 m2),.v (.int .i64 m3),.v (.int .i64 m4),.v (.int .i64 m5),.v (.int .i64 m6),.v (.int .i64 m7),.v (.int .i64 m8)])]) ke kr (stB [(0,.rowF n 16 r),(2,tB false),(3,tN .i64 v),(4,.ptr 4 0),(5,.sc (.v (.int .i64 (bif gV a b c then (0:Int) else 1)))),(6,.sc (.v (.int .i64 (bif gV d e f then (bif gV a b c then (0:Int) else 1) else 1)))),(7,.sc (.v (.int .i64 (bif gV d e f then (bif gV a b c then (0:Int) else 1) else 1)))),(8,.sc (.v (.int .i64 (bif gV d e f then (bif gV a b c then (0:Int) else 1) else 1)))),(9,.sc (.v (.int .i64 (bif gV d e f then (bif gV a b c then (0:Int) else 1) else 1)))),(10,.sc (.v (.int .i64 (bif wd k then (bif gV a b c then (0:Int) else 1) else 1)))),(11,.sc (.v (.int .i64 (bif gV a b c then (0:Int) else 1)))),(12,.sc (.v (.int .i64 (bif wd m7 then (bif wd m6 then (bif wd m5 then (bif wd m4 then (bif wd m3 then (bif wd m2 then (bif wd m1 then (bif wd m0 then (bif gV a b c then (0:Int) else 1) else 1) else 1) else 1) else 1) else 1) else 1) else 1) else 1)))),(13,.sc (.v (.int .i64 8)))] [(4,27,[.v (.int .i64 a),.v (.int .i64 b),.v (.int .i64 c),.v (.int .i64 d),.v (.int .i64 e),.v (.int .i64 f),.v (.int .i64 k),.v (.int .i64 m0),.v (.int .i64 m1),.v (.int .i64 m2),.v (.int .i64 m3),.v (.int .i64 m4),.v (.int .i64 m5),.v (.int .i64 m6),.v (.int .i64 m7),.v (.int .i64 m8)])]):=by
  refine spec_of hc rfl (spec_vcd (cxOk Tryz.prog intsR_ok [eqVec] [cR1May,cR3May,cVCheck,cVAdd,cVSub,cCross,cVScale,cVUnit,cVNeg,cApply,g3Add,g3Sub,g3Cross,g3Scale,g3Unit,cR3Neg,g3Apply,cIs3,cNum3,cWakes3x]) follows [] 60 ?_)
  repeat' first
    | exact trivial
    | (refine And.intro (show regChk _ _ _ _ _=true from by kernel_rfl) (And.intro ?_ ?_))
    | (refine And.intro (fun _=>?_) (fun h=>absurd (show true=false from h) (by decide)))
    | (refine And.intro (fun h=>absurd (show false=true from h) (by decide)) (fun _=>?_))
    | (refine And.intro (fun hb=>?_) (fun hb'=>?_))
    | refine And.intro ?_ ?_
    | intro _
  all_goals first
    | (show some (TV.sc (.v (.int .i64 _)))=some (TV.sc (.v (.int .i64 _)));first|rfl|exact sc_eq (bw_1 (by assumption))|exact sc_eq (bw_0 (by assumption)))
    | (show (0:Int)≤_;decide)
    | (show _<((9:Nat):Int);decide)
    | (show _=_;rfl)
    -- PVC
theorem vx_4 {a b c d e f k m0 m1 m2 m3 m4 m5 m6 m7 m8:Int} {n:Nat} {r:Nat→List A0} {v:Int} {cd cd1:Code} (hc:bodyAt Tryz.f6 [true,false,true,true,true,true,false,true,true,true,true,true,true,true,true]=some cd) (hc1:bodyAt Tryz.f6 [true,false,true,true,true,true,false,true,true,true,true,true,true,true,true,true]=some cd1) (base:Nat) (w0:World) (kn:St→Prop) (ke:Nat→St→Prop) (kr:St→Prop) (h2:SpecC Tryz.prog Tryz.f6.ntmps base w0 cd1 kn ke kr (stB [(0,.rowF n 16 r),(2,tB false),(3,tN .i64 v),(4,.ptr 4 0),(5,.sc (.v (.int .i64 (bif gV a b c then (0:Int) else 1)))),(6,.sc (.v (.int .i64 (bif gV d e f then (bif gV a b c then (0:Int) else 1) else 1)))),(7,.sc (.v (.int .i64 (bif gV d e f then (bif gV a b c then (0:Int) else 1) else 1)))),(8,.sc (.v (.int .i64 (bif gV d e f then (bif gV a b c then (0:Int) else 1) else 1)))),(9,.sc (.v (.int .i64 (bif gV d e f then (bif gV a b c then (0:Int) else 1) else 1)))),(10,.sc (.v (.int .i64 (bif wd k then (bif gV a b c then (0:Int) else 1) else 1)))),(11,.sc (.v (.int .i64 (bif gV a b c then (0:Int) else 1)))),(12,.sc (.v (.int .i64 (bif wd m8 then (bif wd m7 then (bif wd m6 then (bif wd m5 then (bif wd m4 then (bif wd m3 then (bif wd m2 then (bif wd m1 then (bif wd m0 then (bif gV a b c then (0:Int) else 1) else 1) else 1) else 1) else 1) else 1) else 1) else 1) else 1) else 1))))] [(4,27,[.v (.int .i64 a),.v (.int .i64 b),.v (.int .i64 c),.v (.int .i64 d),.v (.int .i64 e),.v (.int .i64 f),.v (.int .i64 k),.v (.int .i64 m0),.v (.int .i64 m1),.v (.int .i64 m2),.v (.int .i64 m3),.v (.int .i64 m4),.v (.int .i64 m5),.v (.int .i64 m6),.v (.int .i64 m7),.v (.int .i64 m8)])])):SpecC Tryz.prog Tryz.f6.ntmps base w0 cd kn ke kr (stB [(0,.rowF n 16 r),(2,tB false),(3,tN .i64 v),(4,.ptr 4 0),(5,.sc (.v (.int .i64 (bif gV a b c then (0:Int) else 1)))),(6,.sc (.v (.int .i64 (bif gV d e f then (bif gV a b c then (0:Int) else 1) else 1)))),(7,.sc (.v (.int .i64 (bif gV d e f then (bif gV a b c then (0:Int) else 1) else 1)))),(8,.sc (.v (.int .i64 (bif gV d e f then (bif gV a b c then (0:Int) else 1) else 1)))),(9,.sc (.v (.int .i64 (bif gV d e f then (bif gV a b c then (0:Int) else 1) else 1)))),(10,.sc (.v (.int .i64 (bif wd k then (bif gV a b c then (0:Int) else 1) else 1)))),(11,.sc (.v (.int .i64 (bif gV a b c then (0:Int) else 1)))),(12,.sc (.v (.int .i64 (bif gV a b c then (0:Int) else 1))))] [(4,27,[.v (.int .i64 a),.v (.int .i64 b),.v (.int .i64 c),.v (.int .i64 d),.v (.int .i64 e),.v (.int .i64 f),.v (.int .i64 k),.v (.int .i64 m0),.v (.int .i64 m1),.v (.int .i64 m2),.v (.int .i64 m3),.v (.int .i64 m4),.v (.int .i64 m5),.v (.int .i64 m6),.v (.int .i64 m7),.v (.int .i64 m8)])]):=by
  refine spec_of hc rfl (spec_seq (kx:=fun s=>leG s [(0,.rowF n 16 r),(2,tB false),(3,tN .i64 v),(4,.ptr 4 0),(5,.sc (.v (.int .i64 (bif gV a b c then (0:Int) else 1)))),(6,.sc (.v (.int .i64 (bif gV d e f then (bif gV a b c then (0:Int) else 1) else 1)))),(7,.sc (.v (.int .i64 (bif gV d e f then (bif gV a b c then (0:Int) else 1) else 1)))),(8,.sc (.v (.int .i64 (bif gV d e f then (bif gV a b c then (0:Int) else 1) else 1)))),(9,.sc (.v (.int .i64 (bif gV d e f then (bif gV a b c then (0:Int) else 1) else 1)))),(10,.sc (.v (.int .i64 (bif wd k then (bif gV a b c then (0:Int) else 1) else 1)))),(11,.sc (.v (.int .i64 (bif gV a b c then (0:Int) else 1)))),(12,.sc (.v (.int .i64 (bif wd m8 then (bif wd m7 then (bif wd m6 then (bif wd m5 then (bif wd m4 then (bif wd m3 then (bif wd m2 then (bif wd m1 then (bif wd m0 then (bif gV a b c then (0:Int) else 1) else 1) else 1) else 1) else 1) else 1) else 1) else 1) else 1) else 1))))]∧leB s [(4,27,[.v (.int .i64 a),.v (.int .i64 b),.v (.int .i64 c),.v (.int .i64 d),.v (.int .i64 e),.v (.int .i64 f),.v (.int .i64 k),.v (.int .i64 m0),.v (.int .i64 m1),.v (.int .i64 m2),.v (.int .i64 m3),.v (.int .i64 m4),.v (.int .i64 m5),.v (.int .i64 m6),.v (.int .i64 m7),.v (.int .i64 m8)])]) ?_ (fun s' hk=>spec_le hk.1 hk.2 rfl (spec_to hc1 rfl h2)))
  refine spec_cut (cxOk Tryz.prog intsR_ok [eqVec] [cR1May,cR3May,cVCheck,cVAdd,cVSub,cCross,cVScale,cVUnit,cVNeg,cApply,g3Add,g3Sub,g3Cross,g3Scale,g3Unit,cR3Neg,g3Apply,cIs3,cNum3,cWakes3x]) follows [] 60 1 [(0,.rowF n 16 r),(2,tB false),(3,tN .i64 v),(4,.ptr 4 0),(5,.sc (.v (.int .i64 (bif gV a b c then (0:Int) else 1)))),(6,.sc (.v (.int .i64 (bif gV d e f then (bif gV a b c then (0:Int) else 1) else 1)))),(7,.sc (.v (.int .i64 (bif gV d e f then (bif gV a b c then (0:Int) else 1) else 1)))),(8,.sc (.v (.int .i64 (bif gV d e f then (bif gV a b c then (0:Int) else 1) else 1)))),(9,.sc (.v (.int .i64 (bif gV d e f then (bif gV a b c then (0:Int) else 1) else 1)))),(10,.sc (.v (.int .i64 (bif wd k then (bif gV a b c then (0:Int) else 1) else 1)))),(11,.sc (.v (.int .i64 (bif gV a b c then (0:Int) else 1)))),(12,.sc (.v (.int .i64 (bif gV a b c then (0:Int) else 1)))),(13,.sc (.v (.int .i64 0)))] [(4,27,[.v (.int .i64 a),.v (.int .i64 b),.v (.int .i64 c),.v (.int .i64 d),.v (.int .i64 e),.v (.int .i64 f),.v (.int .i64 k),.v (.int .i64 m0),.v (.int .i64 m1),.v (.int .i64 m2),.v (.int .i64 m3),.v (.int .i64 m4),.v (.int .i64 m5),.v (.int .i64 m6),.v (.int .i64 m7),.v (.int .i64 m8)])] rfl ?_ ?_
  · skip
    repeat' first
      | exact trivial
      | (refine And.intro (show regChk _ _ _ _ _=true from by kernel_rfl) (And.intro ?_ ?_))
      | (refine And.intro (fun _=>?_) (fun h=>absurd (show true=false from h) (by decide)))
      | (refine And.intro (fun h=>absurd (show false=true from h) (by decide)) (fun _=>?_))
      | (refine And.intro (fun hb=>?_) (fun hb'=>?_))
      | refine And.intro ?_ ?_
      | intro _
    all_goals first
      | (show _=_;rfl)
      -- PVC
  · refine spec_block (spec_loopR 10 ?_)
    refine specR_succ (vx_m0 rfl _ _ _ _) (fun s' hk=>specR_le hk.1 hk.2 rfl ?_)
    refine specR_succ (vx_m1 rfl _ _ _ _) (fun s' hk=>specR_le hk.1 hk.2 rfl ?_)
    refine specR_succ (vx_m2 rfl _ _ _ _) (fun s' hk=>specR_le hk.1 hk.2 rfl ?_)
    refine specR_succ (vx_m3 rfl _ _ _ _) (fun s' hk=>specR_le hk.1 hk.2 rfl ?_)
    refine specR_succ (vx_m4 rfl _ _ _ _) (fun s' hk=>specR_le hk.1 hk.2 rfl ?_)
    refine specR_succ (vx_m5 rfl _ _ _ _) (fun s' hk=>specR_le hk.1 hk.2 rfl ?_)
    refine specR_succ (vx_m6 rfl _ _ _ _) (fun s' hk=>specR_le hk.1 hk.2 rfl ?_)
    refine specR_succ (vx_m7 rfl _ _ _ _) (fun s' hk=>specR_le hk.1 hk.2 rfl ?_)
    refine specR_succ (vx_m8 rfl _ _ _ _) (fun s' hk=>specR_le hk.1 hk.2 rfl ?_)
    refine specR_succ (kx:=fun _=>False) (spec_vcd (cxOk Tryz.prog intsR_ok [eqVec] [cR1May,cR3May,cVCheck,cVAdd,cVSub,cCross,cVScale,cVUnit,cVNeg,cApply,g3Add,g3Sub,g3Cross,g3Scale,g3Unit,cR3Neg,g3Apply,cIs3,cNum3,cWakes3x]) follows [] 60 ?_) (fun _ h=>h.elim)
    repeat' first
      | exact trivial
      | (refine And.intro (show regChk _ _ _ _ _=true from by kernel_rfl) (And.intro ?_ ?_))
      | (refine And.intro (fun _=>?_) (fun h=>absurd (show true=false from h) (by decide)))
      | (refine And.intro (fun h=>absurd (show false=true from h) (by decide)) (fun _=>?_))
      | (refine And.intro (fun hb=>?_) (fun hb'=>?_))
      | refine And.intro ?_ ?_
      | intro _
    all_goals first
      | (show _=_;rfl)
      -- PVC
theorem vx_5 {a b c d e f k m0 m1 m2 m3 m4 m5 m6 m7 m8:Int} {n:Nat} {r:Nat→List A0} {v:Int}  {cd cd1:Code} (hc:bodyAt Tryz.f6 [true,false,true,true,true,true,false,true,true,true,true,true,true,true,true,true]=some cd) (hc1:bodyAt Tryz.f6 [true,false,true,true,true,true,false,true,true,true,true,true,true,true,true,true,true,true]=some cd1) (base:Nat) (w0:World) (kn:St→Prop) (ke:Nat→St→Prop) (kr:St→Prop) (h2:SpecC Tryz.prog Tryz.f6.ntmps base w0 cd1 kn ke kr (stB [(0,.rowF n 16 r),(2,tB false),(3,tN .i64 v),(4,.ptr 4 0),(5,.sc (.v (.int .i64 (bif gV a b c then (0:Int) else 1)))),(6,.sc (.v (.int .i64 (bif gV d e f then (bif gV a b c then (0:Int) else 1) else 1)))),(7,.sc (.v (.int .i64 (addV a b c d e f).2.2.2))),(8,.sc (.v (.int .i64 (subV a b c d e f).2.2.2))),(9,.sc (.v (.int .i64 (crossR a b c d e f).2.2.2))),(10,.sc (.v (.int .i64 (bif wd k then (bif gV a b c then (0:Int) else 1) else 1)))),(11,.sc (.v (.int .i64 (bif gV a b c then (0:Int) else 1)))),(12,.sc (.v (.int .i64 (bif wd m8 then (bif wd m7 then (bif wd m6 then (bif wd m5 then (bif wd m4 then (bif wd m3 then (bif wd m2 then (bif wd m1 then (bif wd m0 then (bif gV a b c then (0:Int) else 1) else 1) else 1) else 1) else 1) else 1) else 1) else 1) else 1) else 1)))),(14,.ptr 14 0),(15,.ptr 15 0),(16,.ptr 16 0),(17,.ptr 17 0),(18,.ptr 18 0),(19,.ptr 19 0),(20,.ptr 20 0)] [(4,27,[.v (.int .i64 a),.v (.int .i64 b),.v (.int .i64 c),.v (.int .i64 d),.v (.int .i64 e),.v (.int .i64 f),.v (.int .i64 k),.v (.int .i64 m0),.v (.int .i64 m1),.v (.int .i64 m2),.v (.int .i64 m3),.v (.int .i64 m4),.v (.int .i64 m5),.v (.int .i64 m6),.v (.int .i64 m7),.v (.int .i64 m8)]),(14,24,[.v (.int .i64 (addV a b c d e f).1),.v (.int .i64 (addV a b c d e f).2.1),.v (.int .i64 (addV a b c d e f).2.2.1)]),(15,24,[.v (.int .i64 (subV a b c d e f).1),.v (.int .i64 (subV a b c d e f).2.1),.v (.int .i64 (subV a b c d e f).2.2.1)]),(16,24,[.v (.int .i64 (crossR a b c d e f).1),.v (.int .i64 (crossR a b c d e f).2.1),.v (.int .i64 (crossR a b c d e f).2.2.1)]),(17,24,[.v (.int .i64 0),.v (.int .i64 0),.v (.int .i64 0)]),(18,24,[.v (.int .i64 0),.v (.int .i64 0),.v (.int .i64 0)]),(19,24,[.v (.int .i64 0),.v (.int .i64 0),.v (.int .i64 0)]),(20,24,[.v (.int .i64 0),.v (.int .i64 0),.v (.int .i64 0)])])):SpecC Tryz.prog Tryz.f6.ntmps base w0 cd kn ke kr (stB [(0,.rowF n 16 r),(2,tB false),(3,tN .i64 v),(4,.ptr 4 0),(5,.sc (.v (.int .i64 (bif gV a b c then (0:Int) else 1)))),(6,.sc (.v (.int .i64 (bif gV d e f then (bif gV a b c then (0:Int) else 1) else 1)))),(7,.sc (.v (.int .i64 (bif gV d e f then (bif gV a b c then (0:Int) else 1) else 1)))),(8,.sc (.v (.int .i64 (bif gV d e f then (bif gV a b c then (0:Int) else 1) else 1)))),(9,.sc (.v (.int .i64 (bif gV d e f then (bif gV a b c then (0:Int) else 1) else 1)))),(10,.sc (.v (.int .i64 (bif wd k then (bif gV a b c then (0:Int) else 1) else 1)))),(11,.sc (.v (.int .i64 (bif gV a b c then (0:Int) else 1)))),(12,.sc (.v (.int .i64 (bif wd m8 then (bif wd m7 then (bif wd m6 then (bif wd m5 then (bif wd m4 then (bif wd m3 then (bif wd m2 then (bif wd m1 then (bif wd m0 then (bif gV a b c then (0:Int) else 1) else 1) else 1) else 1) else 1) else 1) else 1) else 1) else 1) else 1))))] [(4,27,[.v (.int .i64 a),.v (.int .i64 b),.v (.int .i64 c),.v (.int .i64 d),.v (.int .i64 e),.v (.int .i64 f),.v (.int .i64 k),.v (.int .i64 m0),.v (.int .i64 m1),.v (.int .i64 m2),.v (.int .i64 m3),.v (.int .i64 m4),.v (.int .i64 m5),.v (.int .i64 m6),.v (.int .i64 m7),.v (.int .i64 m8)])]):=by
  refine spec_of hc rfl (spec_cut (cxOk Tryz.prog intsR_ok [eqVec] [cR1May,cR3May,cVCheck,cVAdd,cVSub,cCross,cVScale,cVUnit,cVNeg,cApply,g3Add,g3Sub,g3Cross,g3Scale,g3Unit,cR3Neg,g3Apply,cIs3,cNum3,cWakes3x]) follows [] 60 2 _ _ rfl ?_ (spec_to hc1 rfl h2))
  repeat' first
    | exact trivial
    | (refine And.intro (show regChk _ _ _ _ _=true from by kernel_rfl) (And.intro ?_ ?_))
    | (refine And.intro (fun _=>?_) (fun h=>absurd (show true=false from h) (by decide)))
    | (refine And.intro (fun h=>absurd (show false=true from h) (by decide)) (fun _=>?_))
    | (refine And.intro (fun hb=>?_) (fun hb'=>?_))
    | refine And.intro ?_ ?_
    | intro _
  all_goals first
    | (show gV _ _ _=true;first|exact (vw_t (by assumption)).1|exact (vw_t (by assumption)).2)
    | (show some (TV.sc (.v (.int .i64 _)))=some (TV.sc (.v (.int .i64 _)));first|rfl|exact sc_eq (bw_1 (by assumption))|exact sc_eq (bw_0 (by assumption))|exact sc_eq (congrArg (fun p=>p.1) (va_t (by assumption)))|exact sc_eq (congrArg (fun p=>p.2.1) (va_t (by assumption)))|exact sc_eq (congrArg (fun p=>p.2.2.1) (va_t (by assumption)))|exact sc_eq (congrArg (fun p=>p.2.2.2) (va_t (by assumption)))|exact sc_eq (congrArg (fun p=>p.1) (vs_t (by assumption)))|exact sc_eq (congrArg (fun p=>p.2.1) (vs_t (by assumption)))|exact sc_eq (congrArg (fun p=>p.2.2.1) (vs_t (by assumption)))|exact sc_eq (congrArg (fun p=>p.2.2.2) (vs_t (by assumption)))|exact sc_eq (congrArg (fun p=>p.1) (vc_t (by assumption)))|exact sc_eq (congrArg (fun p=>p.2.1) (vc_t (by assumption)))|exact sc_eq (congrArg (fun p=>p.2.2.1) (vc_t (by assumption)))|exact sc_eq (congrArg (fun p=>p.2.2.2) (vc_t (by assumption)))|exact sc_eq (congrArg (fun p=>p.1) (va_f (by assumption)))|exact sc_eq (congrArg (fun p=>p.2.1) (va_f (by assumption)))|exact sc_eq (congrArg (fun p=>p.2.2.1) (va_f (by assumption)))|exact sc_eq (congrArg (fun p=>p.2.2.2) (va_f (by assumption)))|exact sc_eq (congrArg (fun p=>p.1) (vs_f (by assumption)))|exact sc_eq (congrArg (fun p=>p.2.1) (vs_f (by assumption)))|exact sc_eq (congrArg (fun p=>p.2.2.1) (vs_f (by assumption)))|exact sc_eq (congrArg (fun p=>p.2.2.2) (vs_f (by assumption)))|exact sc_eq (congrArg (fun p=>p.1) (vc_f (by assumption)))|exact sc_eq (congrArg (fun p=>p.2.1) (vc_f (by assumption)))|exact sc_eq (congrArg (fun p=>p.2.2.1) (vc_f (by assumption)))|exact sc_eq (congrArg (fun p=>p.2.2.2) (vc_f (by assumption))))
    | (show some (A0.v (.int .i64 _))=some (A0.v (.int .i64 _));first|rfl|exact mc_eq (congrArg (fun p=>p.1) (va_t (by assumption)))|exact mc_eq (congrArg (fun p=>p.2.1) (va_t (by assumption)))|exact mc_eq (congrArg (fun p=>p.2.2.1) (va_t (by assumption)))|exact mc_eq (congrArg (fun p=>p.2.2.2) (va_t (by assumption)))|exact mc_eq (congrArg (fun p=>p.1) (vs_t (by assumption)))|exact mc_eq (congrArg (fun p=>p.2.1) (vs_t (by assumption)))|exact mc_eq (congrArg (fun p=>p.2.2.1) (vs_t (by assumption)))|exact mc_eq (congrArg (fun p=>p.2.2.2) (vs_t (by assumption)))|exact mc_eq (congrArg (fun p=>p.1) (vc_t (by assumption)))|exact mc_eq (congrArg (fun p=>p.2.1) (vc_t (by assumption)))|exact mc_eq (congrArg (fun p=>p.2.2.1) (vc_t (by assumption)))|exact mc_eq (congrArg (fun p=>p.2.2.2) (vc_t (by assumption)))|exact mc_eq (congrArg (fun p=>p.1) (va_f (by assumption)))|exact mc_eq (congrArg (fun p=>p.2.1) (va_f (by assumption)))|exact mc_eq (congrArg (fun p=>p.2.2.1) (va_f (by assumption)))|exact mc_eq (congrArg (fun p=>p.2.2.2) (va_f (by assumption)))|exact mc_eq (congrArg (fun p=>p.1) (vs_f (by assumption)))|exact mc_eq (congrArg (fun p=>p.2.1) (vs_f (by assumption)))|exact mc_eq (congrArg (fun p=>p.2.2.1) (vs_f (by assumption)))|exact mc_eq (congrArg (fun p=>p.2.2.2) (vs_f (by assumption)))|exact mc_eq (congrArg (fun p=>p.1) (vc_f (by assumption)))|exact mc_eq (congrArg (fun p=>p.2.1) (vc_f (by assumption)))|exact mc_eq (congrArg (fun p=>p.2.2.1) (vc_f (by assumption)))|exact mc_eq (congrArg (fun p=>p.2.2.2) (vc_f (by assumption))))
    | (show _=_;rfl)
    -- PVC
theorem vx_6 {a b c d e f k m0 m1 m2 m3 m4 m5 m6 m7 m8:Int} {n:Nat} {r:Nat→List A0} {v:Int}  {cd cd1:Code} (hc:bodyAt Tryz.f6 [true,false,true,true,true,true,false,true,true,true,true,true,true,true,true,true,true,true]=some cd) (hc1:bodyAt Tryz.f6 [true,false,true,true,true,true,false,true,true,true,true,true,true,true,true,true,true,true,true]=some cd1) (base:Nat) (w0:World) (kn:St→Prop) (ke:Nat→St→Prop) (kr:St→Prop) (h2:SpecC Tryz.prog Tryz.f6.ntmps base w0 cd1 kn ke kr (stB [(0,.rowF n 16 r),(2,tB false),(3,tN .i64 v),(4,.ptr 4 0),(5,.sc (.v (.int .i64 (bif gV a b c then (0:Int) else 1)))),(6,.sc (.v (.int .i64 (bif gV d e f then (bif gV a b c then (0:Int) else 1) else 1)))),(7,.sc (.v (.int .i64 (addV a b c d e f).2.2.2))),(8,.sc (.v (.int .i64 (subV a b c d e f).2.2.2))),(9,.sc (.v (.int .i64 (crossR a b c d e f).2.2.2))),(10,.sc (.v (.int .i64 (scaleV a b c k k k).2.2.2))),(11,.sc (.v (.int .i64 (bif gV a b c then (0:Int) else 1)))),(12,.sc (.v (.int .i64 (bif wd m8 then (bif wd m7 then (bif wd m6 then (bif wd m5 then (bif wd m4 then (bif wd m3 then (bif wd m2 then (bif wd m1 then (bif wd m0 then (bif gV a b c then (0:Int) else 1) else 1) else 1) else 1) else 1) else 1) else 1) else 1) else 1) else 1)))),(14,.ptr 14 0),(15,.ptr 15 0),(16,.ptr 16 0),(17,.ptr 17 0),(18,.ptr 18 0),(19,.ptr 19 0),(20,.ptr 20 0)] [(4,27,[.v (.int .i64 a),.v (.int .i64 b),.v (.int .i64 c),.v (.int .i64 d),.v (.int .i64 e),.v (.int .i64 f),.v (.int .i64 k),.v (.int .i64 m0),.v (.int .i64 m1),.v (.int .i64 m2),.v (.int .i64 m3),.v (.int .i64 m4),.v (.int .i64 m5),.v (.int .i64 m6),.v (.int .i64 m7),.v (.int .i64 m8)]),(14,24,[.v (.int .i64 (addV a b c d e f).1),.v (.int .i64 (addV a b c d e f).2.1),.v (.int .i64 (addV a b c d e f).2.2.1)]),(15,24,[.v (.int .i64 (subV a b c d e f).1),.v (.int .i64 (subV a b c d e f).2.1),.v (.int .i64 (subV a b c d e f).2.2.1)]),(16,24,[.v (.int .i64 (crossR a b c d e f).1),.v (.int .i64 (crossR a b c d e f).2.1),.v (.int .i64 (crossR a b c d e f).2.2.1)]),(17,24,[.v (.int .i64 (scaleV a b c k k k).1),.v (.int .i64 (scaleV a b c k k k).2.1),.v (.int .i64 (scaleV a b c k k k).2.2.1)]),(18,24,[.v (.int .i64 0),.v (.int .i64 0),.v (.int .i64 0)]),(19,24,[.v (.int .i64 0),.v (.int .i64 0),.v (.int .i64 0)]),(20,24,[.v (.int .i64 0),.v (.int .i64 0),.v (.int .i64 0)])])):SpecC Tryz.prog Tryz.f6.ntmps base w0 cd kn ke kr (stB [(0,.rowF n 16 r),(2,tB false),(3,tN .i64 v),(4,.ptr 4 0),(5,.sc (.v (.int .i64 (bif gV a b c then (0:Int) else 1)))),(6,.sc (.v (.int .i64 (bif gV d e f then (bif gV a b c then (0:Int) else 1) else 1)))),(7,.sc (.v (.int .i64 (addV a b c d e f).2.2.2))),(8,.sc (.v (.int .i64 (subV a b c d e f).2.2.2))),(9,.sc (.v (.int .i64 (crossR a b c d e f).2.2.2))),(10,.sc (.v (.int .i64 (bif wd k then (bif gV a b c then (0:Int) else 1) else 1)))),(11,.sc (.v (.int .i64 (bif gV a b c then (0:Int) else 1)))),(12,.sc (.v (.int .i64 (bif wd m8 then (bif wd m7 then (bif wd m6 then (bif wd m5 then (bif wd m4 then (bif wd m3 then (bif wd m2 then (bif wd m1 then (bif wd m0 then (bif gV a b c then (0:Int) else 1) else 1) else 1) else 1) else 1) else 1) else 1) else 1) else 1) else 1)))),(14,.ptr 14 0),(15,.ptr 15 0),(16,.ptr 16 0),(17,.ptr 17 0),(18,.ptr 18 0),(19,.ptr 19 0),(20,.ptr 20 0)] [(4,27,[.v (.int .i64 a),.v (.int .i64 b),.v (.int .i64 c),.v (.int .i64 d),.v (.int .i64 e),.v (.int .i64 f),.v (.int .i64 k),.v (.int .i64 m0),.v (.int .i64 m1),.v (.int .i64 m2),.v (.int .i64 m3),.v (.int .i64 m4),.v (.int .i64 m5),.v (.int .i64 m6),.v (.int .i64 m7),.v (.int .i64 m8)]),(14,24,[.v (.int .i64 (addV a b c d e f).1),.v (.int .i64 (addV a b c d e f).2.1),.v (.int .i64 (addV a b c d e f).2.2.1)]),(15,24,[.v (.int .i64 (subV a b c d e f).1),.v (.int .i64 (subV a b c d e f).2.1),.v (.int .i64 (subV a b c d e f).2.2.1)]),(16,24,[.v (.int .i64 (crossR a b c d e f).1),.v (.int .i64 (crossR a b c d e f).2.1),.v (.int .i64 (crossR a b c d e f).2.2.1)]),(17,24,[.v (.int .i64 0),.v (.int .i64 0),.v (.int .i64 0)]),(18,24,[.v (.int .i64 0),.v (.int .i64 0),.v (.int .i64 0)]),(19,24,[.v (.int .i64 0),.v (.int .i64 0),.v (.int .i64 0)]),(20,24,[.v (.int .i64 0),.v (.int .i64 0),.v (.int .i64 0)])]):=by
  refine spec_of hc rfl (spec_cut (cxOk Tryz.prog intsR_ok [eqVec] [cR1May,cR3May,cVCheck,cVAdd,cVSub,cCross,cVScale,cVUnit,cVNeg,cApply,g3Add,g3Sub,g3Cross,g3Scale,g3Unit,cR3Neg,g3Apply,cIs3,cNum3,cWakes3x]) follows [] 60 1 _ _ rfl ?_ (spec_to hc1 rfl h2))
  repeat' first
    | exact trivial
    | (refine And.intro (show regChk _ _ _ _ _=true from by kernel_rfl) (And.intro ?_ ?_))
    | (refine And.intro (fun _=>?_) (fun h=>absurd (show true=false from h) (by decide)))
    | (refine And.intro (fun h=>absurd (show false=true from h) (by decide)) (fun _=>?_))
    | (refine And.intro (fun hb=>?_) (fun hb'=>?_))
    | refine And.intro ?_ ?_
    | intro _
  all_goals first
    | (show gV _ _ _=true;exact (vk_t (by assumption)).1)
    | (show wd _=true;exact (vk_t (by assumption)).2)
    | (show some (TV.sc (.v (.int .i64 _)))=some (TV.sc (.v (.int .i64 _)));first|rfl|exact sc_eq (bw_1 (by assumption))|exact sc_eq (bw_0 (by assumption))|exact sc_eq (congrArg (fun p=>p.1) (vsc_t (by assumption)))|exact sc_eq (congrArg (fun p=>p.2.1) (vsc_t (by assumption)))|exact sc_eq (congrArg (fun p=>p.2.2.1) (vsc_t (by assumption)))|exact sc_eq (congrArg (fun p=>p.2.2.2) (vsc_t (by assumption)))|exact sc_eq (congrArg (fun p=>p.1) (vsc_f (by assumption)))|exact sc_eq (congrArg (fun p=>p.2.1) (vsc_f (by assumption)))|exact sc_eq (congrArg (fun p=>p.2.2.1) (vsc_f (by assumption)))|exact sc_eq (congrArg (fun p=>p.2.2.2) (vsc_f (by assumption))))
    | (show some (A0.v (.int .i64 _))=some (A0.v (.int .i64 _));first|rfl|exact mc_eq (congrArg (fun p=>p.1) (vsc_t (by assumption)))|exact mc_eq (congrArg (fun p=>p.2.1) (vsc_t (by assumption)))|exact mc_eq (congrArg (fun p=>p.2.2.1) (vsc_t (by assumption)))|exact mc_eq (congrArg (fun p=>p.2.2.2) (vsc_t (by assumption)))|exact mc_eq (congrArg (fun p=>p.1) (vsc_f (by assumption)))|exact mc_eq (congrArg (fun p=>p.2.1) (vsc_f (by assumption)))|exact mc_eq (congrArg (fun p=>p.2.2.1) (vsc_f (by assumption)))|exact mc_eq (congrArg (fun p=>p.2.2.2) (vsc_f (by assumption))))
    | (show _=_;rfl)
    -- PVC
theorem vx_7 {a b c d e f k m0 m1 m2 m3 m4 m5 m6 m7 m8:Int} {n:Nat} {r:Nat→List A0} {v:Int}  {cd cd1:Code} (hc:bodyAt Tryz.f6 [true,false,true,true,true,true,false,true,true,true,true,true,true,true,true,true,true,true,true]=some cd) (hc1:bodyAt Tryz.f6 [true,false,true,true,true,true,false,true,true,true,true,true,true,true,true,true,true,true,true,true]=some cd1) (base:Nat) (w0:World) (kn:St→Prop) (ke:Nat→St→Prop) (kr:St→Prop) (h2:SpecC Tryz.prog Tryz.f6.ntmps base w0 cd1 kn ke kr (stB [(0,.rowF n 16 r),(2,tB false),(3,tN .i64 v),(4,.ptr 4 0),(5,.sc (.v (.int .i64 (bif gV a b c then (0:Int) else 1)))),(6,.sc (.v (.int .i64 (bif gV d e f then (bif gV a b c then (0:Int) else 1) else 1)))),(7,.sc (.v (.int .i64 (addV a b c d e f).2.2.2))),(8,.sc (.v (.int .i64 (subV a b c d e f).2.2.2))),(9,.sc (.v (.int .i64 (crossR a b c d e f).2.2.2))),(10,.sc (.v (.int .i64 (scaleV a b c k k k).2.2.2))),(11,.sc (.v (.int .i64 (unitR a b c).2.2.2))),(12,.sc (.v (.int .i64 (bif wd m8 then (bif wd m7 then (bif wd m6 then (bif wd m5 then (bif wd m4 then (bif wd m3 then (bif wd m2 then (bif wd m1 then (bif wd m0 then (bif gV a b c then (0:Int) else 1) else 1) else 1) else 1) else 1) else 1) else 1) else 1) else 1) else 1)))),(14,.ptr 14 0),(15,.ptr 15 0),(16,.ptr 16 0),(17,.ptr 17 0),(18,.ptr 18 0),(19,.ptr 19 0),(20,.ptr 20 0)] [(4,27,[.v (.int .i64 a),.v (.int .i64 b),.v (.int .i64 c),.v (.int .i64 d),.v (.int .i64 e),.v (.int .i64 f),.v (.int .i64 k),.v (.int .i64 m0),.v (.int .i64 m1),.v (.int .i64 m2),.v (.int .i64 m3),.v (.int .i64 m4),.v (.int .i64 m5),.v (.int .i64 m6),.v (.int .i64 m7),.v (.int .i64 m8)]),(14,24,[.v (.int .i64 (addV a b c d e f).1),.v (.int .i64 (addV a b c d e f).2.1),.v (.int .i64 (addV a b c d e f).2.2.1)]),(15,24,[.v (.int .i64 (subV a b c d e f).1),.v (.int .i64 (subV a b c d e f).2.1),.v (.int .i64 (subV a b c d e f).2.2.1)]),(16,24,[.v (.int .i64 (crossR a b c d e f).1),.v (.int .i64 (crossR a b c d e f).2.1),.v (.int .i64 (crossR a b c d e f).2.2.1)]),(17,24,[.v (.int .i64 (scaleV a b c k k k).1),.v (.int .i64 (scaleV a b c k k k).2.1),.v (.int .i64 (scaleV a b c k k k).2.2.1)]),(18,24,[.v (.int .i64 (unitR a b c).1),.v (.int .i64 (unitR a b c).2.1),.v (.int .i64 (unitR a b c).2.2.1)]),(19,24,[.v (.int .i64 0),.v (.int .i64 0),.v (.int .i64 0)]),(20,24,[.v (.int .i64 (subV 0 0 0 a b c).1),.v (.int .i64 (subV 0 0 0 a b c).2.1),.v (.int .i64 (subV 0 0 0 a b c).2.2.1)])])):SpecC Tryz.prog Tryz.f6.ntmps base w0 cd kn ke kr (stB [(0,.rowF n 16 r),(2,tB false),(3,tN .i64 v),(4,.ptr 4 0),(5,.sc (.v (.int .i64 (bif gV a b c then (0:Int) else 1)))),(6,.sc (.v (.int .i64 (bif gV d e f then (bif gV a b c then (0:Int) else 1) else 1)))),(7,.sc (.v (.int .i64 (addV a b c d e f).2.2.2))),(8,.sc (.v (.int .i64 (subV a b c d e f).2.2.2))),(9,.sc (.v (.int .i64 (crossR a b c d e f).2.2.2))),(10,.sc (.v (.int .i64 (scaleV a b c k k k).2.2.2))),(11,.sc (.v (.int .i64 (bif gV a b c then (0:Int) else 1)))),(12,.sc (.v (.int .i64 (bif wd m8 then (bif wd m7 then (bif wd m6 then (bif wd m5 then (bif wd m4 then (bif wd m3 then (bif wd m2 then (bif wd m1 then (bif wd m0 then (bif gV a b c then (0:Int) else 1) else 1) else 1) else 1) else 1) else 1) else 1) else 1) else 1) else 1)))),(14,.ptr 14 0),(15,.ptr 15 0),(16,.ptr 16 0),(17,.ptr 17 0),(18,.ptr 18 0),(19,.ptr 19 0),(20,.ptr 20 0)] [(4,27,[.v (.int .i64 a),.v (.int .i64 b),.v (.int .i64 c),.v (.int .i64 d),.v (.int .i64 e),.v (.int .i64 f),.v (.int .i64 k),.v (.int .i64 m0),.v (.int .i64 m1),.v (.int .i64 m2),.v (.int .i64 m3),.v (.int .i64 m4),.v (.int .i64 m5),.v (.int .i64 m6),.v (.int .i64 m7),.v (.int .i64 m8)]),(14,24,[.v (.int .i64 (addV a b c d e f).1),.v (.int .i64 (addV a b c d e f).2.1),.v (.int .i64 (addV a b c d e f).2.2.1)]),(15,24,[.v (.int .i64 (subV a b c d e f).1),.v (.int .i64 (subV a b c d e f).2.1),.v (.int .i64 (subV a b c d e f).2.2.1)]),(16,24,[.v (.int .i64 (crossR a b c d e f).1),.v (.int .i64 (crossR a b c d e f).2.1),.v (.int .i64 (crossR a b c d e f).2.2.1)]),(17,24,[.v (.int .i64 (scaleV a b c k k k).1),.v (.int .i64 (scaleV a b c k k k).2.1),.v (.int .i64 (scaleV a b c k k k).2.2.1)]),(18,24,[.v (.int .i64 0),.v (.int .i64 0),.v (.int .i64 0)]),(19,24,[.v (.int .i64 0),.v (.int .i64 0),.v (.int .i64 0)]),(20,24,[.v (.int .i64 0),.v (.int .i64 0),.v (.int .i64 0)])]):=by
  refine spec_of hc rfl (spec_cut (cxOk Tryz.prog intsR_ok [eqVec] [cR1May,cR3May,cVCheck,cVAdd,cVSub,cCross,cVScale,cVUnit,cVNeg,cApply,g3Add,g3Sub,g3Cross,g3Scale,g3Unit,cR3Neg,g3Apply,cIs3,cNum3,cWakes3x]) follows [] 60 1 _ _ rfl ?_ (spec_to hc1 rfl h2))
  repeat' first
    | exact trivial
    | (refine And.intro (show regChk _ _ _ _ _=true from by kernel_rfl) (And.intro ?_ ?_))
    | (refine And.intro (fun _=>?_) (fun h=>absurd (show true=false from h) (by decide)))
    | (refine And.intro (fun h=>absurd (show false=true from h) (by decide)) (fun _=>?_))
    | (refine And.intro (fun hb=>?_) (fun hb'=>?_))
    | refine And.intro ?_ ?_
    | intro _
  all_goals first
    | (show gV _ _ _=true;exact bz_o (by assumption))
    | (show some (TV.sc (.v (.int .i64 _)))=some (TV.sc (.v (.int .i64 _)));first|rfl|exact sc_eq (bw_1 (by assumption))|exact sc_eq (bw_0 (by assumption))|exact sc_eq (congrArg (fun p=>p.1) (vu_f (by assumption)))|exact sc_eq (congrArg (fun p=>p.2.1) (vu_f (by assumption)))|exact sc_eq (congrArg (fun p=>p.2.2.1) (vu_f (by assumption)))|exact sc_eq (congrArg (fun p=>p.2.2.2) (vu_f (by assumption))))
    | (show some (A0.v (.int .i64 _))=some (A0.v (.int .i64 _));first|rfl|exact mc_eq (congrArg (fun p=>p.1) (vn_t (bz_o (by assumption))))|exact mc_eq (congrArg (fun p=>p.2.1) (vn_t (bz_o (by assumption))))|exact mc_eq (congrArg (fun p=>p.2.2.1) (vn_t (bz_o (by assumption))))|exact mc_eq (congrArg (fun p=>p.2.2.2) (vn_t (bz_o (by assumption))))|exact mc_eq (congrArg (fun p=>p.1) (vu_f (by assumption)))|exact mc_eq (congrArg (fun p=>p.2.1) (vu_f (by assumption)))|exact mc_eq (congrArg (fun p=>p.2.2.1) (vu_f (by assumption)))|exact mc_eq (congrArg (fun p=>p.2.2.2) (vu_f (by assumption)))|exact mc_eq (congrArg (fun p=>p.1) (vn_f (by assumption)))|exact mc_eq (congrArg (fun p=>p.2.1) (vn_f (by assumption)))|exact mc_eq (congrArg (fun p=>p.2.2.1) (vn_f (by assumption)))|exact mc_eq (congrArg (fun p=>p.2.2.2) (vn_f (by assumption))))
    | (show _=_;rfl)
    -- PVC
theorem vx_8 {a b c d e f k m0 m1 m2 m3 m4 m5 m6 m7 m8:Int} {n:Nat} {r:Nat→List A0} {v:Int}  {cd cd1:Code} (hc:bodyAt Tryz.f6 [true,false,true,true,true,true,false,true,true,true,true,true,true,true,true,true,true,true,true,true]=some cd) (hc1:bodyAt Tryz.f6 [true,false,true,true,true,true,false,true,true,true,true,true,true,true,true,true,true,true,true,true,true]=some cd1) (base:Nat) (w0:World) (kn:St→Prop) (ke:Nat→St→Prop) (kr:St→Prop) (h2:SpecC Tryz.prog Tryz.f6.ntmps base w0 cd1 kn ke kr (stB [(0,.rowF n 16 r),(2,tB false),(3,tN .i64 v),(4,.ptr 4 0),(5,.sc (.v (.int .i64 (bif gV a b c then (0:Int) else 1)))),(6,.sc (.v (.int .i64 (bif gV d e f then (bif gV a b c then (0:Int) else 1) else 1)))),(7,.sc (.v (.int .i64 (addV a b c d e f).2.2.2))),(8,.sc (.v (.int .i64 (subV a b c d e f).2.2.2))),(9,.sc (.v (.int .i64 (crossR a b c d e f).2.2.2))),(10,.sc (.v (.int .i64 (scaleV a b c k k k).2.2.2))),(11,.sc (.v (.int .i64 (unitR a b c).2.2.2))),(12,.sc (.v (.int .i64 (app9 (fun i=>match i with|0=>m0|1=>m1|2=>m2|3=>m3|4=>m4|5=>m5|6=>m6|7=>m7|_=>m8) a b c).2.2.2))),(14,.ptr 14 0),(15,.ptr 15 0),(16,.ptr 16 0),(17,.ptr 17 0),(18,.ptr 18 0),(19,.ptr 19 0),(20,.ptr 20 0)] [(4,27,[.v (.int .i64 a),.v (.int .i64 b),.v (.int .i64 c),.v (.int .i64 d),.v (.int .i64 e),.v (.int .i64 f),.v (.int .i64 k),.v (.int .i64 m0),.v (.int .i64 m1),.v (.int .i64 m2),.v (.int .i64 m3),.v (.int .i64 m4),.v (.int .i64 m5),.v (.int .i64 m6),.v (.int .i64 m7),.v (.int .i64 m8)]),(14,24,[.v (.int .i64 (addV a b c d e f).1),.v (.int .i64 (addV a b c d e f).2.1),.v (.int .i64 (addV a b c d e f).2.2.1)]),(15,24,[.v (.int .i64 (subV a b c d e f).1),.v (.int .i64 (subV a b c d e f).2.1),.v (.int .i64 (subV a b c d e f).2.2.1)]),(16,24,[.v (.int .i64 (crossR a b c d e f).1),.v (.int .i64 (crossR a b c d e f).2.1),.v (.int .i64 (crossR a b c d e f).2.2.1)]),(17,24,[.v (.int .i64 (scaleV a b c k k k).1),.v (.int .i64 (scaleV a b c k k k).2.1),.v (.int .i64 (scaleV a b c k k k).2.2.1)]),(18,24,[.v (.int .i64 (unitR a b c).1),.v (.int .i64 (unitR a b c).2.1),.v (.int .i64 (unitR a b c).2.2.1)]),(19,24,[.v (.int .i64 (app9 (fun i=>match i with|0=>m0|1=>m1|2=>m2|3=>m3|4=>m4|5=>m5|6=>m6|7=>m7|_=>m8) a b c).1),.v (.int .i64 (app9 (fun i=>match i with|0=>m0|1=>m1|2=>m2|3=>m3|4=>m4|5=>m5|6=>m6|7=>m7|_=>m8) a b c).2.1),.v (.int .i64 (app9 (fun i=>match i with|0=>m0|1=>m1|2=>m2|3=>m3|4=>m4|5=>m5|6=>m6|7=>m7|_=>m8) a b c).2.2.1)]),(20,24,[.v (.int .i64 (subV 0 0 0 a b c).1),.v (.int .i64 (subV 0 0 0 a b c).2.1),.v (.int .i64 (subV 0 0 0 a b c).2.2.1)])])):SpecC Tryz.prog Tryz.f6.ntmps base w0 cd kn ke kr (stB [(0,.rowF n 16 r),(2,tB false),(3,tN .i64 v),(4,.ptr 4 0),(5,.sc (.v (.int .i64 (bif gV a b c then (0:Int) else 1)))),(6,.sc (.v (.int .i64 (bif gV d e f then (bif gV a b c then (0:Int) else 1) else 1)))),(7,.sc (.v (.int .i64 (addV a b c d e f).2.2.2))),(8,.sc (.v (.int .i64 (subV a b c d e f).2.2.2))),(9,.sc (.v (.int .i64 (crossR a b c d e f).2.2.2))),(10,.sc (.v (.int .i64 (scaleV a b c k k k).2.2.2))),(11,.sc (.v (.int .i64 (unitR a b c).2.2.2))),(12,.sc (.v (.int .i64 (bif wd m8 then (bif wd m7 then (bif wd m6 then (bif wd m5 then (bif wd m4 then (bif wd m3 then (bif wd m2 then (bif wd m1 then (bif wd m0 then (bif gV a b c then (0:Int) else 1) else 1) else 1) else 1) else 1) else 1) else 1) else 1) else 1) else 1)))),(14,.ptr 14 0),(15,.ptr 15 0),(16,.ptr 16 0),(17,.ptr 17 0),(18,.ptr 18 0),(19,.ptr 19 0),(20,.ptr 20 0)] [(4,27,[.v (.int .i64 a),.v (.int .i64 b),.v (.int .i64 c),.v (.int .i64 d),.v (.int .i64 e),.v (.int .i64 f),.v (.int .i64 k),.v (.int .i64 m0),.v (.int .i64 m1),.v (.int .i64 m2),.v (.int .i64 m3),.v (.int .i64 m4),.v (.int .i64 m5),.v (.int .i64 m6),.v (.int .i64 m7),.v (.int .i64 m8)]),(14,24,[.v (.int .i64 (addV a b c d e f).1),.v (.int .i64 (addV a b c d e f).2.1),.v (.int .i64 (addV a b c d e f).2.2.1)]),(15,24,[.v (.int .i64 (subV a b c d e f).1),.v (.int .i64 (subV a b c d e f).2.1),.v (.int .i64 (subV a b c d e f).2.2.1)]),(16,24,[.v (.int .i64 (crossR a b c d e f).1),.v (.int .i64 (crossR a b c d e f).2.1),.v (.int .i64 (crossR a b c d e f).2.2.1)]),(17,24,[.v (.int .i64 (scaleV a b c k k k).1),.v (.int .i64 (scaleV a b c k k k).2.1),.v (.int .i64 (scaleV a b c k k k).2.2.1)]),(18,24,[.v (.int .i64 (unitR a b c).1),.v (.int .i64 (unitR a b c).2.1),.v (.int .i64 (unitR a b c).2.2.1)]),(19,24,[.v (.int .i64 0),.v (.int .i64 0),.v (.int .i64 0)]),(20,24,[.v (.int .i64 (subV 0 0 0 a b c).1),.v (.int .i64 (subV 0 0 0 a b c).2.1),.v (.int .i64 (subV 0 0 0 a b c).2.2.1)])]):=by
  refine spec_of hc rfl (spec_cut (cxOk Tryz.prog intsR_ok [eqVec] [cR1May,cR3May,cVCheck,cVAdd,cVSub,cCross,cVScale,cVUnit,cVNeg,cApply,g3Add,g3Sub,g3Cross,g3Scale,g3Unit,cR3Neg,g3Apply,cIs3,cNum3,cWakes3x]) follows [] 60 1 _ _ rfl ?_ (spec_to hc1 rfl h2))
  repeat' first
    | exact trivial
    | (refine And.intro (show regChk _ _ _ _ _=true from by kernel_rfl) (And.intro ?_ ?_))
    | (refine And.intro (fun _=>?_) (fun h=>absurd (show true=false from h) (by decide)))
    | (refine And.intro (fun h=>absurd (show false=true from h) (by decide)) (fun _=>?_))
    | (refine And.intro (fun hb=>?_) (fun hb'=>?_))
    | refine And.intro ?_ ?_
    | intro _
  all_goals first
    | (show gV _ _ _=true;first|exact (vm_t (by assumption)).1|exact (gm_t (by assumption)).1|exact (gm_t (by assumption)).2.1|exact (gm_t (by assumption)).2.2)
    | (show some (TV.sc (.v (.int .i64 _)))=some (TV.sc (.v (.int .i64 _)));first|rfl|exact sc_eq (bw_1 (by assumption))|exact sc_eq (bw_0 (by assumption))|exact sc_eq (congrArg (fun p=>p.1) (vp_t (by assumption)))|exact sc_eq (congrArg (fun p=>p.2.1) (vp_t (by assumption)))|exact sc_eq (congrArg (fun p=>p.2.2.1) (vp_t (by assumption)))|exact sc_eq (congrArg (fun p=>p.2.2.2) (vp_t (by assumption)))|exact sc_eq (congrArg (fun p=>p.1) (vp_f (by assumption)))|exact sc_eq (congrArg (fun p=>p.2.1) (vp_f (by assumption)))|exact sc_eq (congrArg (fun p=>p.2.2.1) (vp_f (by assumption)))|exact sc_eq (congrArg (fun p=>p.2.2.2) (vp_f (by assumption))))
    | (show some (A0.v (.int .i64 _))=some (A0.v (.int .i64 _));first|rfl|exact mc_eq (congrArg (fun p=>p.1) (vp_t (by assumption)))|exact mc_eq (congrArg (fun p=>p.2.1) (vp_t (by assumption)))|exact mc_eq (congrArg (fun p=>p.2.2.1) (vp_t (by assumption)))|exact mc_eq (congrArg (fun p=>p.2.2.2) (vp_t (by assumption)))|exact mc_eq (congrArg (fun p=>p.1) (vp_f (by assumption)))|exact mc_eq (congrArg (fun p=>p.2.1) (vp_f (by assumption)))|exact mc_eq (congrArg (fun p=>p.2.2.1) (vp_f (by assumption)))|exact mc_eq (congrArg (fun p=>p.2.2.2) (vp_f (by assumption))))
    | (show _=_;rfl)
    -- PVC
end
theorem vx_9 {a b c d e f k m0 m1 m2 m3 m4 m5 m6 m7 m8:Int} {n:Nat} {r:Nat→List A0} {v:Int} (hI:I64 a∧I64 b∧I64 c) {cd1:Code} (hc:bodyAt Tryz.f6 [true,false,true,true,true,true,false,true,true,true,true,true,true,true,true,true,true,true,true,true,true]=some cd1) (base:Nat) (w0:World) (ke:Nat→St→Prop):SpecC Tryz.prog Tryz.f6.ntmps base w0 cd1 (fun s=>leG s [(0,.rowF n 16 r),(2,tB false),(3,tN .i64 v)]∧leB s []) ke (fun s=>resCR (cxOf Tryz.prog intsR [eqVec] [cR1May,cR3May,cVCheck,cVAdd,cVSub,cCross,cVScale,cVUnit,cVNeg,cApply,g3Add,g3Sub,g3Cross,g3Scale,g3Unit,cR3Neg,g3Apply,cIs3,cNum3,cWakes3x]) Tryz.f6.results.toList s=some (.tv (tB true))) (stB [(0,.rowF n 16 r),(2,tB false),(3,tN .i64 v),(4,.ptr 4 0),(5,.sc (.v (.int .i64 (bif gV a b c then (0:Int) else 1)))),(6,.sc (.v (.int .i64 (bif gV d e f then (bif gV a b c then (0:Int) else 1) else 1)))),(7,.sc (.v (.int .i64 (addV a b c d e f).2.2.2))),(8,.sc (.v (.int .i64 (subV a b c d e f).2.2.2))),(9,.sc (.v (.int .i64 (crossR a b c d e f).2.2.2))),(10,.sc (.v (.int .i64 (scaleV a b c k k k).2.2.2))),(11,.sc (.v (.int .i64 (unitR a b c).2.2.2))),(12,.sc (.v (.int .i64 (app9 (fun i=>match i with|0=>m0|1=>m1|2=>m2|3=>m3|4=>m4|5=>m5|6=>m6|7=>m7|_=>m8) a b c).2.2.2))),(14,.ptr 14 0),(15,.ptr 15 0),(16,.ptr 16 0),(17,.ptr 17 0),(18,.ptr 18 0),(19,.ptr 19 0),(20,.ptr 20 0)] [(4,27,[.v (.int .i64 a),.v (.int .i64 b),.v (.int .i64 c),.v (.int .i64 d),.v (.int .i64 e),.v (.int .i64 f),.v (.int .i64 k),.v (.int .i64 m0),.v (.int .i64 m1),.v (.int .i64 m2),.v (.int .i64 m3),.v (.int .i64 m4),.v (.int .i64 m5),.v (.int .i64 m6),.v (.int .i64 m7),.v (.int .i64 m8)]),(14,24,[.v (.int .i64 (addV a b c d e f).1),.v (.int .i64 (addV a b c d e f).2.1),.v (.int .i64 (addV a b c d e f).2.2.1)]),(15,24,[.v (.int .i64 (subV a b c d e f).1),.v (.int .i64 (subV a b c d e f).2.1),.v (.int .i64 (subV a b c d e f).2.2.1)]),(16,24,[.v (.int .i64 (crossR a b c d e f).1),.v (.int .i64 (crossR a b c d e f).2.1),.v (.int .i64 (crossR a b c d e f).2.2.1)]),(17,24,[.v (.int .i64 (scaleV a b c k k k).1),.v (.int .i64 (scaleV a b c k k k).2.1),.v (.int .i64 (scaleV a b c k k k).2.2.1)]),(18,24,[.v (.int .i64 (unitR a b c).1),.v (.int .i64 (unitR a b c).2.1),.v (.int .i64 (unitR a b c).2.2.1)]),(19,24,[.v (.int .i64 (app9 (fun i=>match i with|0=>m0|1=>m1|2=>m2|3=>m3|4=>m4|5=>m5|6=>m6|7=>m7|_=>m8) a b c).1),.v (.int .i64 (app9 (fun i=>match i with|0=>m0|1=>m1|2=>m2|3=>m3|4=>m4|5=>m5|6=>m6|7=>m7|_=>m8) a b c).2.1),.v (.int .i64 (app9 (fun i=>match i with|0=>m0|1=>m1|2=>m2|3=>m3|4=>m4|5=>m5|6=>m6|7=>m7|_=>m8) a b c).2.2.1)]),(20,24,[.v (.int .i64 (subV 0 0 0 a b c).1),.v (.int .i64 (subV 0 0 0 a b c).2.1),.v (.int .i64 (subV 0 0 0 a b c).2.2.1)])]):=by
  refine spec_of hc rfl (spec_vcd (cxOk Tryz.prog intsR_ok [eqVec] [cR1May,cR3May,cVCheck,cVAdd,cVSub,cCross,cVScale,cVUnit,cVNeg,cApply,g3Add,g3Sub,g3Cross,g3Scale,g3Unit,cR3Neg,g3Apply,cIs3,cNum3,cWakes3x]) follows [] 100 ?_)
  repeat' first
    | exact trivial
    | (refine And.intro (show regChk _ _ _ _ _=true from by kernel_rfl) (And.intro ?_ ?_))
    | (refine And.intro (fun _=>?_) (fun h=>absurd (show true=false from h) (by decide)))
    | (refine And.intro (fun h=>absurd (show false=true from h) (by decide)) (fun _=>?_))
    | (refine And.intro (fun hb=>?_) (fun hb'=>?_))
    | refine And.intro ?_ ?_
    | intro _
  all_goals first
    | (show (-9223372036854775808:Int)≤_;first|exact hI.1.1|exact hI.2.1.1|exact hI.2.2.1)
    | (show _<(9223372036854775808:Int);first|exact hI.1.2|exact hI.2.1.2|exact hI.2.2.2)
    | (show some (CR.tv (tB false))=some (CR.tv (tB true));exfalso;first|exact no (x_add) (by assumption)|exact no (x_n) (by assumption)|exact no (x_p (p:=(subV a b c d e f)) isS_if) (by assumption)|exact no (x_p (p:=(crossR a b c d e f)) isS_if) (by assumption)|exact no (x_p (p:=(scaleV a b c k k k)) isS_if) (by assumption)|exact no (x_p (p:=(app9 (fun i=>match i with|0=>m0|1=>m1|2=>m2|3=>m3|4=>m4|5=>m5|6=>m6|7=>m7|_=>m8) a b c)) isS_if) (by assumption)|exact no (x_p (p:=(unitR a b c)) is_unit) (by assumption))
    | (show (_:Bool)=(_:Bool);first|assumption|exact beq_iff_eq.2 (by assumption))
    | (show _=_;rfl)
    -- PVC
abbrev row_vecExact (a b c d e f k m0 m1 m2 m3 m4 m5 m6 m7 m8:Nat→Int):Nat→List A0:=fun j=>[.v (.int .i64 (a j)),.v (.int .i64 (b j)),.v (.int .i64 (c j)),.v (.int .i64 (d j)),.v (.int .i64 (e j)),.v (.int .i64 (f j)),.v (.int .i64 (k j)),.v (.int .i64 (m0 j)),.v (.int .i64 (m1 j)),.v (.int .i64 (m2 j)),.v (.int .i64 (m3 j)),.v (.int .i64 (m4 j)),.v (.int .i64 (m5 j)),.v (.int .i64 (m6 j)),.v (.int .i64 (m7 j)),.v (.int .i64 (m8 j))]
theorem vecExact_law (n:Nat) (a b c d e f k m0 m1 m2 m3 m4 m5 m6 m7 m8:Nat→Int) (hW:∀ j,I64 (a j)∧I64 (b j)∧I64 (c j)∧I64 (d j)∧I64 (e j)∧I64 (f j)∧I64 (k j)∧I64 (m0 j)∧I64 (m1 j)∧I64 (m2 j)∧I64 (m3 j)∧I64 (m4 j)∧I64 (m5 j)∧I64 (m6 j)∧I64 (m7 j)∧I64 (m8 j)) {us:List Value} {w:World} (hargs:All2 (TV.reads (fun _=>0) w.heap.size w) [.rowF n 16 (row_vecExact a b c d e f k m0 m1 m2 m3 m4 m5 m6 m7 m8)] us):Ret Tryz.prog 6 us.toArray w (.tv (tB true)):=by
  have hW':∀ j,I64 (a j)∧I64 (b j)∧I64 (c j):=fun j=>⟨(hW j).1,(hW j).2.1,(hW j).2.2.1⟩
  refine fns_ret (cxOk Tryz.prog intsR_ok [eqVec] [cR1May,cR3May,cVCheck,cVAdd,cVSub,cCross,cVScale,cVUnit,cVNeg,cApply,g3Add,g3Sub,g3Cross,g3Scale,g3Unit,cR3Neg,g3Apply,cIs3,cNum3,cWakes3x]) Tryz.func6 rfl _ rfl (by simp) ?_ hargs
  refine spec_cut (cxOk Tryz.prog intsR_ok [eqVec] [cR1May,cR3May,cVCheck,cVAdd,cVSub,cCross,cVScale,cVUnit,cVNeg,cApply,g3Add,g3Sub,g3Cross,g3Scale,g3Unit,cR3Neg,g3Apply,cIs3,cNum3,cWakes3x]) follows [] 60 1 [(0,.rowF n 16 (row_vecExact a b c d e f k m0 m1 m2 m3 m4 m5 m6 m7 m8)),(2,tB false)] [] rfl ?_ ?_
  · skip
    repeat' first
      | exact trivial
      | (refine And.intro (show regChk _ _ _ _ _=true from by kernel_rfl) (And.intro ?_ ?_))
      | (refine And.intro (fun _=>?_) (fun h=>absurd (show true=false from h) (by decide)))
      | (refine And.intro (fun h=>absurd (show false=true from h) (by decide)) (fun _=>?_))
      | (refine And.intro (fun hb=>?_) (fun hb'=>?_))
      | refine And.intro ?_ ?_
      | intro _
    all_goals first
      | (show _=_;rfl)
      -- PVC
  · refine spec_seq (kx:=fun _=>True) ?_ (fun s' _=>spec_le (gs:=[]) (bs:=[]) trivial trivial rfl (spec_vcd (cxOk Tryz.prog intsR_ok [eqVec] [cR1May,cR3May,cVCheck,cVAdd,cVSub,cCross,cVScale,cVUnit,cVNeg,cApply,g3Add,g3Sub,g3Cross,g3Scale,g3Unit,cR3Neg,g3Apply,cIs3,cNum3,cWakes3x]) follows [] 60 ?_))
    · refine spec_cut (cxOk Tryz.prog intsR_ok [eqVec] [cR1May,cR3May,cVCheck,cVAdd,cVSub,cCross,cVScale,cVUnit,cVNeg,cApply,g3Add,g3Sub,g3Cross,g3Scale,g3Unit,cR3Neg,g3Apply,cIs3,cNum3,cWakes3x]) follows [] 60 1 [(0,.rowF n 16 (row_vecExact a b c d e f k m0 m1 m2 m3 m4 m5 m6 m7 m8)),(2,tB false),(3,tN .i64 0)] [] rfl ?_ ?_
      · skip
        repeat' first
          | exact trivial
          | (refine And.intro (show regChk _ _ _ _ _=true from by kernel_rfl) (And.intro ?_ ?_))
          | (refine And.intro (fun _=>?_) (fun h=>absurd (show true=false from h) (by decide)))
          | (refine And.intro (fun h=>absurd (show false=true from h) (by decide)) (fun _=>?_))
          | (refine And.intro (fun hb=>?_) (fun hb'=>?_))
          | refine And.intro ?_ ?_
          | intro _
        all_goals first
          | (show _=_;rfl)
          -- PVC
      · refine spec_block (spec_loopI (lawL 16 n (row_vecExact a b c d e f k m0 m1 m2 m3 m4 m5 m6 m7 m8) 2) ⟨0,⟨Int.le_refl _,Int.natCast_nonneg _⟩,⟨rfl,rfl,rfl,trivial⟩,trivial⟩ (fun v hv=>⟨rfl,?_⟩))
        refine spec_seq (kx:=fun s=>(bif decide (v<(n:Int)) then decide (v<20) else false)=true∧leG s [(0,.rowF n 16 (row_vecExact a b c d e f k m0 m1 m2 m3 m4 m5 m6 m7 m8)),(2,tB false),(3,tN .i64 v)]∧leB s []) (spec_vcd (cxOk Tryz.prog intsR_ok [eqVec] [cR1May,cR3May,cVCheck,cVAdd,cVSub,cCross,cVScale,cVUnit,cVNeg,cApply,g3Add,g3Sub,g3Cross,g3Scale,g3Unit,cR3Neg,g3Apply,cIs3,cNum3,cWakes3x]) follows [] 60 ?_) (fun s' hk=>?_)
        · skip
          repeat' first
            | exact trivial
            | (refine And.intro (show regChk _ _ _ _ _=true from by kernel_rfl) (And.intro ?_ ?_))
            | (refine And.intro (fun _=>?_) (fun h=>absurd (show true=false from h) (by decide)))
            | (refine And.intro (fun h=>absurd (show false=true from h) (by decide)) (fun _=>?_))
            | (refine And.intro (fun hb=>?_) (fun hb'=>?_))
            | refine And.intro ?_ ?_
            | intro _
          all_goals first
            | (show (_:Bool)=true;assumption)
            | (show (_:Bool)=true;exact beq_iff_eq.2 (by assumption))
            | (show _=_;rfl)
            -- PVC
        · obtain ⟨hC,hg,hb⟩:=hk
          refine spec_le hg hb rfl (spec_seq (kx:=fun s=>leG s [(0,.rowF n 16 (row_vecExact a b c d e f k m0 m1 m2 m3 m4 m5 m6 m7 m8)),(2,tB false),(3,tN .i64 v)]∧leB s []) (spec_block ?_) (fun s' hk=>spec_le hk.1 hk.2 rfl (spec_vcd (cxOk Tryz.prog intsR_ok [eqVec] [cR1May,cR3May,cVCheck,cVAdd,cVSub,cCross,cVScale,cVUnit,cVNeg,cApply,g3Add,g3Sub,g3Cross,g3Scale,g3Unit,cR3Neg,g3Apply,cIs3,cNum3,cWakes3x]) follows [] 60 ?_)))
          · refine spec_cut (cxOk Tryz.prog intsR_ok [eqVec] [cR1May,cR3May,cVCheck,cVAdd,cVSub,cCross,cVScale,cVUnit,cVNeg,cApply,g3Add,g3Sub,g3Cross,g3Scale,g3Unit,cR3Neg,g3Apply,cIs3,cNum3,cWakes3x]) follows [] 60 1 [(0,.rowF n 16 (row_vecExact a b c d e f k m0 m1 m2 m3 m4 m5 m6 m7 m8)),(2,tB false),(3,tN .i64 v),(4,.ptr 4 0)] [(4,27,[.v (.int .i64 (a v.toNat)),.v (.int .i64 (b v.toNat)),.v (.int .i64 (c v.toNat)),.v (.int .i64 (d v.toNat)),.v (.int .i64 (e v.toNat)),.v (.int .i64 (f v.toNat)),.v (.int .i64 (k v.toNat)),.v (.int .i64 (m0 v.toNat)),.v (.int .i64 (m1 v.toNat)),.v (.int .i64 (m2 v.toNat)),.v (.int .i64 (m3 v.toNat)),.v (.int .i64 (m4 v.toNat)),.v (.int .i64 (m5 v.toNat)),.v (.int .i64 (m6 v.toNat)),.v (.int .i64 (m7 v.toNat)),.v (.int .i64 (m8 v.toNat))])] rfl ?_ ?_
            · skip
              repeat' first
                | exact trivial
                | (refine And.intro (show regChk _ _ _ _ _=true from by kernel_rfl) (And.intro ?_ ?_))
                | (refine And.intro (fun _=>?_) (fun h=>absurd (show true=false from h) (by decide)))
                | (refine And.intro (fun h=>absurd (show false=true from h) (by decide)) (fun _=>?_))
                | (refine And.intro (fun hb=>?_) (fun hb'=>?_))
                | refine And.intro ?_ ?_
                | intro _
              all_goals first
                | (show (0:Int)≤v;exact hv.1)
                | (show v<(n:Int);exact (hC1 hC).1)
                | (show _=_;rfl)
                -- PVC
            · exact vx_1 rfl rfl _ _ _ _ _ (vx_2 rfl rfl _ _ _ _ _ (vx_3 rfl rfl _ _ _ _ _ (vx_4 rfl rfl _ _ _ _ _ (vx_5 rfl rfl _ _ _ _ _ (vx_6 rfl rfl _ _ _ _ _ (vx_7 rfl rfl _ _ _ _ _ (vx_8 rfl rfl _ _ _ _ _ (vx_9 (hW' v.toNat) rfl _ _ _))))))))
          · skip
            repeat' first
              | exact trivial
              | (refine And.intro (show regChk _ _ _ _ _=true from by kernel_rfl) (And.intro ?_ ?_))
              | (refine And.intro (fun _=>?_) (fun h=>absurd (show true=false from h) (by decide)))
              | (refine And.intro (fun h=>absurd (show false=true from h) (by decide)) (fun _=>?_))
              | (refine And.intro (fun hb=>?_) (fun hb'=>?_))
              | refine And.intro ?_ ?_
              | intro _
            all_goals first
              | (exact ⟨IntKind.i64.wrap (v+1),(stepL hv hC (by decide)).1,(stepL hv hC (by decide)).2,⟨rfl,rfl,rfl,trivial⟩,trivial⟩)
              | (show _=_;rfl)
              -- PVC
    · skip
      repeat' first
        | exact trivial
        | (refine And.intro (show regChk _ _ _ _ _=true from by kernel_rfl) (And.intro ?_ ?_))
        | (refine And.intro (fun _=>?_) (fun h=>absurd (show true=false from h) (by decide)))
        | (refine And.intro (fun h=>absurd (show false=true from h) (by decide)) (fun _=>?_))
        | (refine And.intro (fun hb=>?_) (fun hb'=>?_))
        | refine And.intro ?_ ?_
        | intro _
      all_goals first
        | (show _=_;rfl)
        -- PVC
abbrev ks_vecExact:List (Option IntKind):=[some .i64,some .i64,some .i64,some .i64,some .i64,some .i64,some .i64,some .i64,some .i64,some .i64,some .i64,some .i64,some .i64,some .i64,some .i64,some .i64]
theorem vecExact_row (n:Nat) (f:Nat→List Value) (hf:∀ j,okV ks_vecExact (f j)) {us:List Value} {w:World} (hargs:All2 (TV.reads (fun _=>0) w.heap.size w) [.rowF n 16 (fun j=>cellsG f j 0 ks_vecExact)] us):Ret Tryz.prog 6 us.toArray w (.tv (tB true)) :=
  vecExact_law n (gI f 0) (gI f 1) (gI f 2) (gI f 3) (gI f 4) (gI f 5) (gI f 6) (gI f 7) (gI f 8) (gI f 9) (gI f 10) (gI f 11) (gI f 12) (gI f 13) (gI f 14) (gI f 15) (fun j=>⟨gI_i64 (hf j) rfl,gI_i64 (hf j) rfl,gI_i64 (hf j) rfl,gI_i64 (hf j) rfl,gI_i64 (hf j) rfl,gI_i64 (hf j) rfl,gI_i64 (hf j) rfl,gI_i64 (hf j) rfl,gI_i64 (hf j) rfl,gI_i64 (hf j) rfl,gI_i64 (hf j) rfl,gI_i64 (hf j) rfl,gI_i64 (hf j) rfl,gI_i64 (hf j) rfl,gI_i64 (hf j) rfl,gI_i64 (hf j) rfl⟩) hargs
end
end Go.Proofs.YtmnkaldemjdcoaaGreat.Wh
end
section
namespace Go.Proofs.YtmnkaldemjdcoaaGreat.vecExact
open Go.ChangeShapes Go.WideShapes Go.ChangeAt RowKit YtmnkaldemjdcoaaGreatW.PrintWords YtmnkaldemjdcoaaGreatW.Sx YtmnkaldemjdcoaaGreat.Wh
set_option linter.unusedVariables false
theorem own:ownKnob Tryz.prog.godebug=none:=by kernel_rfl
theorem laidOut:laidOutB Tryz.prog=true:=by kernel_rfl
theorem cells:lvs Tryz.prog true 30 27=some [some .i64,some .i64,some .i64,some .i64,some .i64,some .i64,some .i64,some .i64,some .i64,some .i64,some .i64,some .i64,some .i64,some .i64,some .i64,some .i64]:=by kernel_rfl
set_option maxRecDepth 100000 in
theorem lifted (os:Os) (started:os.Started) (H:Type) (enc:TypeId × Value→H) :
    ReturnsInHanded {} Tryz.checked os 6 .any (Rows.vecExactSpec.pre6 enc Tryz.prog Tryz.f6 Rows.vecExactRow.domain false) (Rows.vecExactSpec.post enc Tryz.prog Tryz.f6 false true false false):=by
  refine returnsInHanded_of_change_sized (C:=Tryz.checked) own started (by kernel_rfl) Tryz.func6
    (ChangeSpec.witness6 (enc:=enc) (C:=Tryz.checked) false ⟨#[],#[.slice none 0 0],[]⟩ 8 (by kernel_rfl) (by kernel_rfl) (by kernel_rfl) (by kernel_rfl)) ?_
  intro W base args ds gs before hval0 hW hcnd hsz0 _
  have hval:∀ (j:Nat) t v,Tryz.f6.params[j]?=some t→args[j]?=some v→Value.okWide Tryz.prog W .any base t v:=hval0
  have hW':=hW
  obtain ⟨p,q,hA0,hV,rfl,hfz,hnd⟩:=hW
  have hA:DataW.TrodAll enc Tryz.prog W 0 (fun _=>true) true Tryz.f6.params.toList args.toList ds p:=hA0
  rw [Tryz.params6] at hA hval
  obtain ⟨v0,vs0,d0,ds0,p0,q0,hargs,rfl,rfl,h0,r0⟩:=trodAll_cons hA
  obtain ⟨rfl,rfl,rfl⟩:=trodAll_nil r0
  obtain rfl:args=#[v0]:=by cases args;simp_all
  obtain ⟨rfl,rfl⟩:=trodVars_none hV
  have k0:=h0
  have lt0:∀ x∈p0,x.block<W.heap.size:=by obtain ⟨m,hm⟩:=k0;exact DataW.trod_lt m _ _ _ hm
  have hv0:=hval 0 22 v0 rfl rfl
  obtain ⟨a0,len0,cap0,rfl⟩:=okWide_slice Tryz.underlying22 hv0
  obtain ⟨f,hf,hr⟩:=row_of Tryz.underlying22 cells (by decide) h0
  clear hA0 hval0 hsz0
  refine Calls.mono (vecExact_row len0 f hf (us:=[_]) (.cons (hr _) .nil)) fun e W' hpost=>?_
  obtain ⟨u,rfl,hu,bel⟩:=hpost
  obtain rfl:u = .bool true:=hu
  exact ⟨_,rfl,_,_,_,[],_,[],hW',trodAll_mk1 (shut_bool Tryz.underlying4 _),(trodAll_cons_mk (Below.trod laidOut (by kernel_rfl) (of_decide_eq_true (by kernel_rfl)) k0 bel lt0) trodAll_mk0),rfl,bel.frame _,fun h=>by cases h⟩
theorem over:Rows.vecExactRow.holds Tryz.pinned (OpenSpec.ofChange Rows.vecExactSpec) :=
  OpenClaim.holds_of_wide 6 Tryz.f6 rfl rfl rfl rfl rfl rfl rfl ⟨rfl,rfl,rfl,rfl,rfl⟩ rfl rfl rfl rfl rfl (by kernel_rfl) Tryz.func6 (by kernel_rfl)
    (of_decide_eq_true (by kernel_rfl)) (by unfold Func.isWrapper;first|(rw [if_pos (by decide +kernel)];kernel_rfl)|(rw [if_neg (by decide +kernel)];exact ⟨rfl,rfl⟩))
    (fun os started H enc _=>lifted os started H enc)
theorem proved:Rows.VecExactSaid:=over
end Go.Proofs.YtmnkaldemjdcoaaGreat.vecExact
namespace Go.Proofs.YtmnkaldemjdcoaaGreat
theorem vecExact_holds:Rows.VecExactSaid:=vecExact.proved
end Go.Proofs.YtmnkaldemjdcoaaGreat
end
