/- The row of VecNorms, out of its law by the reckoner: for every argument that reads as data the call returns true and leaves the argument as it was. -/
import Derived.Test.YtmnkaldemjdcoaaZT190c
import Derived.Test.YtmnkaldemjdcoaaProg
import Derived.Below
import Derived.Deep.Draws
import Derived.Deep.AppendLies
import Derived.Maps.AppendAt
import Derived.OwnWalk
import Derived.Laws.BytesArg
import Derived.Laws.MakeOwn
import Derived.Laws.OwnMore
import Derived.Deep.OwnRows
import Derived.Tactics
import Derived.Lib.ConvBytes
import Derived.Laws.Slices
import Derived.WalkKit
import Derived.KernelRfl
import Derived.RowKit3
import Derived.Deep.LoopGhost
import Derived.Deep.QuietTactic
import Derived.BigQuiet
import Derived.WideLaws
import Derived.Deep.DeepCutAuto
import Derived.Deep.CutBlock
import Derived.Deep.RegionHeld3
import Derived.Laws.Rows
import Derived.Lib.AppendStr
import Derived.ArgAppend
import Derived.Laws.IdiomCopy
import Derived.OrdersHeld
import Derived.Laws.BitsLemmas
import Derived.RowKit
import Derived.Test.YtmnkaldemjdcoaaWWords
import Derived.Test.YtmnkaldemjdcoaaWLast
import Derived.Test.YtmnkaldemjdcoaaWTab
import Derived.Test.YtmnkaldemjdcoaaWQPut
import Derived.Test.YtmnkaldemjdcoaaWApart
import Derived.Test.YtmnkaldemjdcoaaWArr
import Derived.Test.YtmnkaldemjdcoaaWZeros
import Derived.Test.YtmnkaldemjdcoaaWFoot
import Derived.Test.YtmnkaldemjdcoaaWKept
import Derived.Test.YtmnkaldemjdcoaaWShare
import Derived.Test.YtmnkaldemjdcoaaWN
import Derived.Laws.StructEq
import Derived.Test.YtmnkaldemjdcoaaWRepsOne
import Derived.Test.YtmnkaldemjdcoaaWGuard
import Derived.Test.YtmnkaldemjdcoaaWNEv
import Derived.Test.YtmnkaldemjdcoaaWMore
import Derived.Deep.WholeRow
import Derived.Outline
import Derived.Deep.Slices
import Derived.OpenShut
import Derived.SizedLaws
import Derived.Test.YtmnkaldemjdcoaaRows
import Derived.ProofKit
import Derived.ShutString
import Derived.ChangeOld
import Derived.Carry
section
set_option linter.unusedVariables false
namespace Go.Proofs.Ytmnkaldemjdcoaa.FxWalk
open RowKit YtmnkaldemjdcoaaW.PrintWords YtmnkaldemjdcoaaW.PrintLast YtmnkaldemjdcoaaW.PrintMore YtmnkaldemjdcoaaW.Aid
def wd (a:Int):Bool:=decide (-35184372088832<a)&&decide (a<35184372088832)
theorem wd_iff {a:Int}:wd a=true ↔ -35184372088832<a∧a<35184372088832:=by simp [wd]
def allw:List Int→Bool
  | []=>true
  | x::l=>wd x&&allw l
theorem allw_iff (l:List Int):allw l=true↔∀ x∈l,wd x=true:=by
  induction l with
  | nil=>simp [allw]
  | cons x l ih=>simp [allw,ih]
set_option maxRecDepth 10000 in
set_option maxHeartbeats 400000 in
theorem good_calls (a:Int) (w:World):Calls Try.prog 91 #[.int .i64 a] w fun e w'=>e = .returned (.bool (wd a))∧w=w':=by
  by_cases h1 : -35184372088832<a
  · by_cases h2:a<35184372088832
    · have e:Aside0 (wd a=true):=⟨wd_iff.2 ⟨h1,h2⟩⟩
      rw [e.out]
      go_enter Try.func91,Try.ntmps91
      go_wp2
      go_ret
      exact ⟨rfl,rfl⟩
    · have e:Aside0 (wd a=false):=⟨by rw [← Bool.not_eq_true,wd_iff];omega⟩
      rw [e.out]
      have h2b:decide (a<35184372088832)=false:=decide_eq_false h2
      go_enter Try.func91,Try.ntmps91
      go_wp2
      go_ret
      exact ⟨rfl,rfl⟩
  · have e:Aside0 (wd a=false):=⟨by rw [← Bool.not_eq_true,wd_iff];omega⟩
    rw [e.out]
    have h1b:decide (-35184372088832<a)=false:=decide_eq_false h1
    go_enter Try.func91,Try.ntmps91
    go_wp2
    go_ret
    exact ⟨rfl,rfl⟩
theorem good_yes (a:Int) (w:World) (h:wd a=true):Calls Try.prog 91 #[.int .i64 a] w fun e w'=>e = .returned (.bool true)∧w=w':=by
  have:=good_calls a w
  rwa [h] at this
theorem good_no (a:Int) (w:World) (h:wd a=false):Calls Try.prog 91 #[.int .i64 a] w fun e w'=>e = .returned (.bool false)∧w=w':=by
  have:=good_calls a w
  rwa [h] at this
theorem allw_take {l:List Int} {k:Nat} (h:k<l.length):allw (l.take (k+1))=(allw (l.take k)&&wd (rd l k)):=by
  have hm:∀ (l:List Int) (x:Int),allw (l++[x])=(allw l&&wd x):=by
    intro l x
    induction l with
    | nil=>simp [allw]
    | cons y l ih=>simp [allw,ih,Bool.and_assoc]
  obtain ⟨hj,e⟩:=rd_at (l:=l) (i:=(k:Int)) (by omega) (by omega)
  rw [e,List.take_succ_eq_append_getElem h,hm]
  simp
set_option maxRecDepth 10000 in
set_option maxHeartbeats 400000 in
theorem all_calls (l:List Int) (A:Option Addr) (c:Nat) (w:World) (hr:Kd.C (Kd.int .i64) w A l.length l):Calls Try.prog 64 #[.slice A l.length c] w fun e w'=>e = .returned (.bool (allw l))∧w=w':=by
  have HR:=Aside0.mk hr
  have hlen:l.length≤9223372036854775807:=hr.2.1
  clear hr
  go_enter Try.func64,Try.ntmps64
  go_wp2_with fail
  go_loop [7] (fun v7=>∃ k:Nat,k≤l.length∧v7 = .int .i64 k∧Aside0 (allw (l.take k)=true)) (fun v7=>l.length-(intOf v7).toNat)
  case atStart=>exact ⟨0,by omega,rfl,⟨rfl⟩⟩
  case round =>
    obtain ⟨k,hk,rfl,ha⟩:=hrel
    by_cases hlt:k<l.length
    · obtain ⟨ad,rfl,hcell⟩:=Kd.at_int HR.out (k:Int) (by omega) (by omega)
      simp only [Int.toNat_natCast] at hcell
      have hn:Aside0 (allw (l.take (k+1))=(allw (l.take k)&&wd (rd l k))):=⟨allw_take hlt⟩
      cases hx:wd (rd l k) with
      | true =>
        have Hx:=Aside0.mk hx
        clear hx
        generalize rd l k=x at *
        go_wp2_with fail
        refine (good_yes _ _ Hx.out).mono ?_
        rintro e w1 ⟨rfl,rfl⟩
        go_wp2
        go_round
        case rel=>exact ⟨k+1,by omega,by go_num,⟨by rw [hn.out,ha.out,Hx.out];rfl⟩⟩
        case measure=>simp [intOf];omega
      | false =>
        have Hx:=Aside0.mk hx
        clear hx
        have hall:Aside0 (allw l=false):=⟨by
          rw [← Bool.not_eq_true,allw_iff]
          intro h
          have:=h _ (rd_mem (i:=(k:Int)) (by omega) (by omega))
          rw [Hx.out] at this
          cases this⟩
        generalize rd l k=x at *
        go_wp2_with fail
        refine (good_no _ _ Hx.out).mono ?_
        rintro e w1 ⟨rfl,rfl⟩
        go_wp2
        go_ret
        exact ⟨by rw [hall.out];rfl,rfl⟩
    · obtain rfl:k=l.length:=by omega
      have hall:Aside0 (allw l=true):=⟨by have:=ha.out;rwa [List.take_length] at this⟩
      go_wp2
      go_ret
      exact ⟨by rw [hall.out];rfl,rfl⟩
def wordR (v:Int):Int × Int:=if wd v=true then (v,0) else (0,2)
set_option maxRecDepth 10000 in
set_option maxHeartbeats 400000 in
theorem word_calls (v:Int) (w:World):Calls Try.prog 66 #[.int .i64 v] w fun e w'=>e = .returned (.tuple #[.int .i64 (wordR v).1,.int .i64 (wordR v).2])∧w=w':=by
  cases h:wd v with
  | true =>
    have e1:Aside0 (wordR v=(v,0)):=⟨by unfold wordR;rw [if_pos h]⟩
    rw [e1.out]
    have H:=Aside0.mk h
    clear h
    go_enter Try.func66,Try.ntmps66
    go_wp2_with fail
    refine (good_yes _ _ H.out).mono ?_
    rintro e w1 ⟨rfl,rfl⟩
    go_wp2
    go_ret2
    exact ⟨rfl,rfl⟩
  | false =>
    have e1:Aside0 (wordR v=(0,2)):=⟨by unfold wordR;rw [h];rfl⟩
    rw [e1.out]
    have H:=Aside0.mk h
    clear h
    go_enter Try.func66,Try.ntmps66
    go_wp2_with fail
    refine (good_no _ _ H.out).mono ?_
    rintro e w1 ⟨rfl,rfl⟩
    go_wp2
    go_ret2
    exact ⟨rfl,rfl⟩
section
set_option maxRecDepth 10000
set_option maxHeartbeats 400000
end
end Go.Proofs.Ytmnkaldemjdcoaa.FxWalk
end
section
set_option linter.unusedVariables false
set_option linter.unusedSimpArgs false
namespace Go.Proofs.Ytmnkaldemjdcoaa.Wh
open Go RowKit YtmnkaldemjdcoaaW.PrintWords YtmnkaldemjdcoaaW.PrintMore YtmnkaldemjdcoaaW.Aid YtmnkaldemjdcoaaW.Big YtmnkaldemjdcoaaW.Sx Ytmnkaldemjdcoaa.BitsWalk Ytmnkaldemjdcoaa.Limbs Ytmnkaldemjdcoaa.Whole Ytmnkaldemjdcoaa.FxWalk Go.Proofs
abbrev tNN (z e:Int):TV := .tup [(false,[.v (.int .i64 z)]),(false,[.v (.int .i64 e)])]
theorem nn_eq {z z' b b':Int} (h:(z,b)=(z',b')):(some (CR.tv (tNN z b)):Option CR)=some (CR.tv (tNN z' b')):=by cases h;rfl
def toldR (x:Int):Int × Int:=if wd x=true then (x,0) else (0,2)
theorem told0 {x:Int} (h:(!(smallI x).2)=true):((0:Int),(2:Int))=((toldR x).1,(toldR x).2):=by
  unfold smallI at h
  split at h
  · cases h
  · unfold toldR
    rw [if_neg]
    rw [wd_iff];omega
theorem told1 {x:Int} (h:(!(smallI x).2)=false):((wordR (smallI x).1).1,(wordR (smallI x).1).2)=((toldR x).1,(toldR x).2):=by
  unfold smallI at h ⊢
  split
  · rfl
  · rename_i hc;rw [if_neg hc] at h;cases h
def I64 (n:Int):Prop := -9223372036854775808≤n∧n<9223372036854775808
theorem len_i64 {n:Int} (h : -9223372036854775808≤n) (h':n<9223372036854775808):Len0 n:=by
  have:=lm_one n (by omega);unfold Len0;omega
section
set_option maxRecDepth 100000
set_option maxHeartbeats 1000000
def cWord:Con Try.prog:=conN 66 (fun _=>True) (fun v => .tv (tNN (wordR v).1 (wordR v).2)) ⟨_,Try.func66,by kernel_rfl,rfl⟩ (fun n w hl =>
  (word_calls n w).mono fun _ _ ⟨he,hw⟩=>⟨_,he,⟨[_,_],rfl,.cons ⟨_,rfl,rfl⟩ (.cons ⟨_,rfl,rfl⟩ .nil)⟩,by rw [← hw];exact Below.refl _ _⟩)
def cTold:Con Try.prog:=con1 32 (fun x=>True) (fun x => .tv (tNN (toldR x).1 (toldR x).2)) ⟨_,Try.func32,by kernel_rfl,rfl⟩ (fun x A c w hl hr=>by
  refine fn_ret (cxOk Try.prog ints_ok [] [cSmall,cWord]) follows Try.func32 rfl 100 _ rfl (by simp) ?_ (args1 hr)
  repeat' first
    | exact trivial
    | (refine And.intro (show regChk _ _ _ _ _=true from by kernel_rfl) (And.intro ?_ ?_))
    | (refine And.intro (fun hb=>?_) (fun hb'=>?_))
    | refine And.intro ?_ ?_
    | intro _
  all_goals first
    | (show (_:Int)=(_:Int);rfl)
    | (show some (CR.tv (tNN _ _))=some (CR.tv (tNN _ _));first|exact nn_eq (told0 (by assumption))|exact nn_eq (told1 (by assumption))))
def intsOf:List A0→Option (List Int)
  | []=>some []
  | .v (.int .i64 n)::r=>match intsOf r with
    | some l=>some (n::l)
    | none=>none
  | _::_=>none
theorem intsOf_get:∀ {cs:List A0} {l:List Int},intsOf cs=some l→cs=l.map fun n=>A0.v (.int .i64 n)
  | [],l,h=>by cases h;rfl
  | c :: r, l, h => by
    unfold intsOf at h
    split at h
    · rename_i e;cases e
    · rename_i n r' e
      cases e
      split at h
      · rename_i l' h';cases h;rw [intsOf_get h'];rfl
      · cases h
    · cases h
theorem row_ints {w:World} {n:Nat} {cs:List A0} {l:List Int} {u:Value} {β:Nat→Nat} {b:Nat} (h:(TV.row n cs).reads β b w u) (hi:intsOf cs=some l) (hn:n=cs.length) (hs:n≤1000):∃ A c,u = .slice A l.length c∧Kd.C (Kd.int .i64) w A l.length l:=by
  obtain ⟨A,c,rfl,hc,hh⟩:=h
  have e:=intsOf_get hi
  have hl:cs.length=l.length:=by rw [e];simp
  refine ⟨A,c,by rw [hn,hl],rfl,by omega,fun h0=>?_⟩
  obtain ⟨ad,rfl,_,hcs⟩:=hh (by omega)
  refine ⟨ad,rfl,fun j p hj=>⟨[.int .i64 p],rfl,rfl,fun i u hu=>?_⟩⟩
  have hi0:i=0:=by
    cases i with
    | zero=>rfl
    | succ i=>simp at hu
  subst hi0
  simp at hu
  subst hu
  obtain ⟨x,hx,hr⟩:=hcs j (.v (.int .i64 p)) (by rw [e,List.getElem?_map,hj];rfl)
  rw [show x=_ from hr] at hx
  rw [show j*(Kd.int .i64).sz+0=j from by show j*1+0=_;omega]
  exact hx
def cAll:Con Try.prog where
  f:=64
  sem := fun xs => match xs with
    | [.row n cs]=>match intsOf cs with
      | some l=>some (n=cs.length∧n≤1000,.tv (tB (allw l)))
      | none=>none
    | _=>none
  ok := by
    intro xs p r' h hp
    refine ⟨⟨_,Try.func64,by kernel_rfl,rfl⟩,fun us w ha=>?_⟩
    split at h
    · rename_i n cs
      split at h
      · rename_i l hi
        cases h
        obtain ⟨u,rfl,h1⟩:=all2_1 ha
        obtain ⟨A,c,rfl,hC⟩:=row_ints h1 hi hp.1 hp.2
        exact Ret.val ((all_calls l A c w hC).mono fun _ _ ⟨he,hw⟩=>⟨he,by rw [← hw];exact Below.refl _ _⟩)
      · cases h
    · cases h
end
end Go.Proofs.Ytmnkaldemjdcoaa.Wh
end
section
set_option linter.unusedVariables false
set_option linter.unusedSimpArgs false
namespace Go.Proofs.Ytmnkaldemjdcoaa.Wh
open Go RowKit YtmnkaldemjdcoaaW.PrintWords YtmnkaldemjdcoaaW.PrintMore YtmnkaldemjdcoaaW.PrintLast YtmnkaldemjdcoaaW.Aid YtmnkaldemjdcoaaW.Big YtmnkaldemjdcoaaW.Sx Ytmnkaldemjdcoaa.BitsWalk Ytmnkaldemjdcoaa.Limbs Ytmnkaldemjdcoaa.Whole Ytmnkaldemjdcoaa.FxWalk Go.Proofs
def isqN (m:Nat):Nat→Nat
  | 0=>0
  | k+1=>if (k+1)*(k+1)≤m then k+1 else isqN m k
theorem isqN_spec (m:Nat):∀ k,isqN m k*isqN m k≤m∧∀ j,j≤k→j*j≤m→j≤isqN m k
  | 0=>⟨Nat.zero_le _,fun j h _=>by omega⟩
  | k + 1 => by
    unfold isqN
    split
    · rename_i h;exact ⟨h,fun j hj _=>hj⟩
    · rename_i h
      refine ⟨(isqN_spec m k).1,fun j hj hm=>?_⟩
      by_cases e:j=k+1
      · subst e;exact absurd hm h
      · exact (isqN_spec m k).2 j (by omega) hm
def isq (n:Int):Int:=(isqN n.natAbs n.natAbs:Nat)
theorem isq_spec {n:Int} (h:0≤n):0≤isq n∧isq n*isq n≤n∧n<(isq n+1)*(isq n+1):=by
  obtain ⟨m,rfl⟩:∃ m:Nat,n=(m:Int):=⟨n.natAbs,by omega⟩
  obtain ⟨h1,h2⟩:=isqN_spec m m
  unfold isq
  rw [Int.natAbs_natCast]
  generalize isqN m m=r at *
  refine ⟨by omega,by exact_mod_cast h1,?_⟩
  by_cases hc:(r+1)*(r+1)≤m
  · have:=h2 (r+1) (by have:=Nat.le_mul_self (r+1);omega) hc
    omega
  · have:m<(r+1)*(r+1):=by omega
    exact_mod_cast this
theorem sq_lt {a b:Int} (ha:0≤a) (hb:0≤b) (h:a*a<b*b):a<b:=by
  by_cases hc:a<b
  · exact hc
  · exact absurd (Int.mul_le_mul (show b≤a by omega) (show b≤a by omega) hb ha) (by omega)
theorem isq_uniq {n r:Int} (h0:0≤r) (h1:r*r≤n) (h2:n<(r+1)*(r+1)):isq n=r:=by
  obtain ⟨a,b,c⟩:=isq_spec (n:=n) (Int.le_trans (Int.mul_nonneg h0 h0) h1)
  have:=sq_lt (a:=isq n) (b:=r+1) a (by omega) (by omega)
  have:=sq_lt (a:=r) (b:=isq n+1) h0 (by omega) (by omega)
  omega
theorem newton_ge {n x s:Int} (hx:0<x) (h:s*s≤n):s≤(x+n/x)/2:=by
  have e:(2*s-x)*x=s*s-(s-x)*(s-x):=by
    simp only [Int.sub_mul,Int.mul_sub,Int.mul_assoc,Int.mul_comm x s]
    omega
  have h0:0≤(s-x)*(s-x):=by
    rcases Int.le_total 0 (s-x) with h|h
    · exact Int.mul_nonneg h h
    · exact Int.mul_nonneg_of_nonpos_of_nonpos h h
  have:=Int.le_ediv_of_mul_le hx (show (2*s-x)*x≤n by omega)
  omega
theorem newton_le {n x:Int} (hx:0<x) (h:x≤(x+n/x)/2):x*x≤n:=Int.mul_le_of_le_ediv hx (by omega)
theorem bl_lt:∀ (f x:Nat),x<2 ^ f→x<2 ^ Lib.bitLenAux f x
  | 0,x,h=>h
  | f + 1, x, h => by
    unfold Lib.bitLenAux
    split
    · rename_i h0;subst h0;exact Nat.one_pos
    · have:=bl_lt f (x/2) (by rw [Nat.pow_succ] at h;omega)
      rw [Nat.add_comm,Nat.pow_succ]
      omega
theorem bl_le (x:Nat) (h:x<18446744073709551616):Lib.bitLen x≤64:=Lib.bitLen_le x 64 (by omega) h
def lenI (x:Int):Int:=if x.natAbs=0 then 0 else if x.natAbs<18446744073709551616 then (Lib.bitLen x.natAbs:Nat) else 64+(Lib.bitLen (x.natAbs/18446744073709551616):Nat)
theorem len_spec {x:Int} (h:x.natAbs<340282366920938463463374607431768211456):0≤lenI x∧lenI x≤128∧x.natAbs<2 ^ (lenI x).toNat:=by
  unfold lenI
  split
  · rename_i h0;rw [h0];decide
  · split
    · rename_i h1
      have:=bl_le _ h1
      refine ⟨by omega,by omega,?_⟩
      rw [Int.toNat_natCast]
      exact bl_lt 64 _ h1
    · have h2:x.natAbs/18446744073709551616<18446744073709551616:=by omega
      have h3:=bl_le _ h2
      have h4:x.natAbs/18446744073709551616<2 ^ Lib.bitLen (x.natAbs/18446744073709551616):=bl_lt 64 _ h2
      refine ⟨by omega,by omega,?_⟩
      rw [show (64+(Lib.bitLen (x.natAbs/18446744073709551616):Int)).toNat=64+Lib.bitLen (x.natAbs/18446744073709551616) by omega,Nat.pow_add]
      generalize 2 ^ Lib.bitLen (x.natAbs/18446744073709551616)=p at *
      omega
def conU (f:FuncId) (pre:Int→Prop) (r:Int→CR) (hf:FOk Try.prog f) (ok:∀ n w,pre n→Ret Try.prog f #[.int .u64 n] w (r n)):Con Try.prog where
  f:=f
  sem:=fun xs=>match xs with
    | [.sc (.v (.int .u64 n))]=>some (pre n,r n)
    | _=>none
  ok:=by
    intro xs p r' h hp
    refine ⟨hf,fun us w ha=>?_⟩
    split at h
    · rename_i n
      cases h
      obtain ⟨u,rfl,h1⟩:=all2_1 ha
      rw [show _=_ from h1]
      exact ok n w hp
    · cases h
def cLen64:Con Try.prog:=conU 105 (fun n=>0≤n∧n<18446744073709551616) (fun n => .tv (tN .i64 ((Lib.bitLen n.toNat:Nat):Int))) ⟨_,Try.func105,by kernel_rfl,rfl⟩
  (fun n w h=>(Long.len64_calls n w h.1 h.2).mono fun e w' h=>⟨_,h.1,rfl,by rw [← h.2];exact Below.refl _ w⟩)
theorem top_ix {x:Int} (hl:x.natAbs<340282366920938463463374607431768211456) (h:(((lm x).length:Int) == 0)=false):IntKind.i64.wrap (((lm x).length:Int)-1)=((lm x).length:Int)-1∧0<(lm x).length∧(lm x).length≤2:=by
  have h2:(lm x).length≤2:=limbs_len (k:=2) (by simpa using hl)
  have h0:0<(lm x).length:=by have:=len_gt h;omega
  refine ⟨?_,h0,h2⟩
  rw [i64_w,wrap64_id (by omega) (by omega)]
theorem len_fin {x:Int} (hl:x.natAbs<340282366920938463463374607431768211456) (h:(((lm x).length:Int) == 0)=false) :
    IntKind.i64.wrap (IntKind.i64.wrap (64*IntKind.i64.wrap (((lm x).length:Int)-1))+((Lib.bitLen (rd (lm x) (IntKind.i64.wrap (((lm x).length:Int)-1))).toNat:Nat):Int))=lenI x:=by
  rw [(top_ix hl h).1]
  have h0:x.natAbs≠0:=by
    intro e
    have:=(top_ix hl h).2.1
    unfold lm at this;rw [e,limbs_zero] at this;exact absurd this (by decide)
  unfold lenI
  rw [if_neg h0]
  by_cases h1:x.natAbs<18446744073709551616
  · have e:lm x=[(x.natAbs:Int)]:=limbs_word h0 h1
    have:=bl_le _ h1
    rw [if_pos h1,e]
    simp only [i64_w,List.length_singleton]
    rw [show (64*(((1:Nat):Int)-1))=0 from rfl,show ((1:Nat):Int)-1=0 from rfl,show wrap64 0=0 from wrap64_id (by omega) (by omega),show rd [(x.natAbs:Int)] 0=(x.natAbs:Int) from rfl,Int.toNat_natCast,wrap64_id (by omega) (by omega)]
    omega
  · have e:lm x=[((x.natAbs%18446744073709551616:Nat):Int),((x.natAbs/18446744073709551616:Nat):Int)]:=by
      show limbs x.natAbs=_
      rw [limbs_pos h0,limbs_word (by omega) (by omega)]
    have:=bl_le (x.natAbs/18446744073709551616) (by omega)
    rw [if_neg h1,e]
    simp only [i64_w,List.length_cons,List.length_nil]
    rw [show (64*(((0+1+1:Nat):Int)-1))=64 from rfl,show ((0+1+1:Nat):Int)-1=1 from rfl,show wrap64 64=64 from wrap64_id (by omega) (by omega),show rd [((x.natAbs%18446744073709551616:Nat):Int),((x.natAbs/18446744073709551616:Nat):Int)] 1=((x.natAbs/18446744073709551616:Nat):Int) from rfl,Int.toNat_natCast,wrap64_id (by omega) (by omega)]
theorem rd_lm (x i:Int):0≤rd (lm x) i∧rd (lm x) i<18446744073709551616:=by
  by_cases h:i.toNat<(lm x).length
  · have e:rd (lm x) i=(lm x)[i.toNat]:=by unfold rd;simp [List.getD_eq_getElem?_getD,h]
    rw [e]
    exact limbs_dig _ _ (List.getElem_mem h)
  · have e:rd (lm x) i=0:=by unfold rd;simp [List.getD_eq_getElem?_getD,h]
    rw [e];decide
theorem top_ge {x:Int} (hl:x.natAbs<340282366920938463463374607431768211456) (h:(((lm x).length:Int) == 0)=false):0≤IntKind.i64.wrap (((lm x).length:Int)-1)∧IntKind.i64.wrap (((lm x).length:Int)-1)<((lm x).length:Int):=by
  obtain ⟨h1,h2,h3⟩:=top_ix hl h
  omega
theorem len_zero {x:Int} (h:(((lm x).length:Int) == 0)=true):0=lenI x:=by
  have h':=beq_iff_eq.1 h
  have:x=0:=lm_nil'.1 (by omega)
  subst this
  rfl
theorem n_eq {z z':Int} (h:z=z'):(some (CR.tv (tN .i64 z)):Option CR)=some (CR.tv (tN .i64 z')):=by rw [h]
section
set_option maxRecDepth 100000
set_option maxHeartbeats 1000000
def cLen:Con Try.prog:=con1 92 (fun x=>x.natAbs<340282366920938463463374607431768211456) (fun x => .tv (tN .i64 (lenI x))) ⟨_,Try.func92,by kernel_rfl,rfl⟩ (fun x A c w hl hr=>by
  refine fn_ret (cxOk Try.prog ints_ok [] [cLen64]) follows Try.func92 rfl 100 _ rfl (by simp) ?_ (args1 hr)
  repeat' first
    | exact trivial
    | (refine And.intro (show regChk _ _ _ _ _=true from by kernel_rfl) (And.intro ?_ ?_))
    | (refine And.intro (fun hb=>?_) (fun hb'=>?_))
    | refine And.intro ?_ ?_
    | intro _
  all_goals first
    | (show some (CR.tv (tN .i64 _))=some (CR.tv (tN .i64 _));first|exact n_eq (len_fin hl (by assumption))|exact n_eq (len_zero (by assumption)))
    | (show (0:Int)≤rd _ _;exact (rd_lm _ _).1)
    | (show rd _ _<(_:Int);exact (rd_lm _ _).2)
    | (show (0:Int)≤IntKind.i64.wrap _;exact (top_ge hl (by assumption)).1)
    | (show IntKind.i64.wrap _<(_:Int);exact (top_ge hl (by assumption)).2))
def flL (n:Int):LI Int where
  gs:=fun x=>[(1,.ptr 1 0),(2,.ptr 2 0),(3,.ptr 3 0)]
  bs:=fun x=>[(1,57,[.neg n,.mag n]),(2,57,[.neg 0,.mag 0]),(3,57,[.neg x,.mag x])]
  I:=fun x=>isq n≤x∧x≤4611686018427387904
  μ:=fun x=>x.toNat
theorem len_128 {x:Int} (h0:0≤x) (h:x<340282366920938463463374607431768211456):Len0 x:=by
  have:(lm x).length≤2:=limbs_len (k:=2) (by show x.natAbs<340282366920938463463374607431768211456;omega)
  show (lm x).length≤1000
  omega
theorem isq_pos {n:Int} (h0:0≤n) (h:decide (n=0)=false):1≤isq n:=by
  have h':=of_decide_eq_false h
  obtain ⟨a,b,c⟩:=isq_spec h0
  by_cases hz:isq n=0
  · rw [hz] at c;omega
  · omega
theorem fl_v {n v:Int} (h0:0≤n) (h:decide (n=0)=false) (hv:isq n≤v∧v≤4611686018427387904):0<v∧v<18446744073709551616:=by
  have:=isq_pos h0 h
  omega
theorem fl_q {n v:Int} (h0:0≤n) (hn:n<1329227995784915872903807060280344576) (h:decide (n=0)=false) (hv:isq n≤v∧v≤4611686018427387904):0≤n/v∧n/v<1329227995784915872903807060280344576:=by
  have hp:=(fl_v h0 h hv).1
  have:=Int.ediv_nonneg h0 (show 0≤v by omega)
  have:=Int.ediv_le_self v h0
  omega
theorem fl_e (x:Int):x/2 ^ Int.toNat 1=x/2:=rfl
theorem cmpI_ge {x y:Int} (h:decide (cmpI x y≥0)=true):y≤x:=by
  have:=of_decide_eq_true h
  unfold cmpI at this
  split at this
  · omega
  · omega
theorem cmpI_lt {x y:Int} (h:decide (cmpI x y≥0)=false):x<y:=by
  have:=of_decide_eq_false h
  unfold cmpI at this
  split at this
  · assumption
  · split at this<;>omega
theorem fl_done {n v:Int} (h0:0≤n) (h:decide (n=0)=false) (hv:isq n≤v∧v≤4611686018427387904) (hc:decide (cmpI ((v+n/v)/2 ^ Int.toNat 1) v≥0)=true):v=isq n:=by
  have hp:=(fl_v h0 h hv).1
  have h1:=newton_le hp (cmpI_ge (by rw [fl_e] at hc;exact hc))
  obtain ⟨a,b,c⟩:=isq_spec h0
  have:=sq_lt (a:=v) (b:=isq n+1) (by omega) (by omega) (by omega)
  omega
theorem fl_next {n v:Int} (h0:0≤n) (h:decide (n=0)=false) (hv:isq n≤v∧v≤4611686018427387904) (hc:decide (cmpI ((v+n/v)/2 ^ Int.toNat 1) v≥0)=false) :
    ((v+n/v)/2 ^ Int.toNat 1).toNat<v.toNat∧isq n≤(v+n/v)/2 ^ Int.toNat 1∧(v+n/v)/2 ^ Int.toNat 1≤4611686018427387904:=by
  have hp:=(fl_v h0 h hv).1
  rw [fl_e] at hc ⊢
  have h1:=cmpI_lt hc
  have h2:=newton_ge hp (isq_spec h0).2.1
  have:=isq_pos h0 h
  generalize (v+n/v)/2=y at *
  omega
theorem fl_zero {n:Int} (h:decide (n=0)=true):0=isq n:=by
  rw [of_decide_eq_true h];rfl
theorem fl_pw {n:Int} (h0:0≤n) (hn:n<1329227995784915872903807060280344576):0≤IntKind.i64.wrap (IntKind.i64.wrap ((lenI n).tdiv 2)+1)∧IntKind.i64.wrap (IntKind.i64.wrap ((lenI n).tdiv 2)+1)≤61∧isq n≤2 ^ (IntKind.i64.wrap (IntKind.i64.wrap ((lenI n).tdiv 2)+1)).toNat:=by
  have hb:lenI n≤120:=by
    unfold lenI
    split
    · decide
    · split
      · have:=bl_le n.natAbs (by omega);omega
      · have:=Lib.bitLen_le (n.natAbs/18446744073709551616) 56 (by omega) (by show _<72057594037927936;omega);omega
  obtain ⟨a,b,c⟩:=len_spec (x:=n) (by omega)
  have e:(lenI n).tdiv 2=lenI n/2:=Int.tdiv_eq_ediv_of_nonneg a
  rw [i64_w,i64_w,e,wrap64_id (x:=lenI n/2) (by omega) (by omega),wrap64_id (by omega) (by omega)]
  refine ⟨by omega,by omega,?_⟩
  generalize lenI n=L at *
  obtain ⟨r1,r2,r3⟩:=isq_spec h0
  have:isq n<2 ^ (L/2+1).toNat:=by
    refine sq_lt r1 (Int.pow_nonneg (by decide)) (Int.lt_of_le_of_lt r2 ?_)
    rw [← Int.pow_add]
    have h1:(n.natAbs:Int)<2 ^ L.toNat:=by exact_mod_cast c
    have h2:(2:Int) ^ L.toNat≤2 ^ ((L/2+1).toNat+(L/2+1).toNat):=by
      have:=Nat.pow_le_pow_right (show 0<2 by decide) (show L.toNat≤(L/2+1).toNat+(L/2+1).toNat by omega)
      exact_mod_cast this
    omega
  omega
theorem pow_61 {k:Int} (h:k≤61):(2:Int) ^ k.toNat≤4611686018427387904:=by
  have h1:2 ^ k.toNat≤2 ^ 62:=Nat.pow_le_pow_right (show 0<2 by decide) (show k.toNat≤62 by omega)
  have h2:=Int.ofNat_le.2 h1
  rw [Int.natCast_pow] at h2
  exact h2
def cFloor:Con Try.prog:=con1 67 (fun n=>0≤n∧n<1329227995784915872903807060280344576) (fun n => .tv (tI (isq n))) ⟨_,Try.func67,by kernel_rfl,rfl⟩ (fun n A c w hl hr=>by
  obtain ⟨h0,hn⟩:=hl
  refine fnl_ret (flL n) (cxOk Try.prog ints_ok [] [cLen,cDown,cRight,cAdd,cCmp,cZero,cPower]) follows Try.func67 rfl 100 _ rfl (by simp) ?_ (args1 hr)
  repeat' first
    | exact trivial
    | (refine And.intro (show regChk _ _ _ _ _=true from by kernel_rfl) (And.intro ?_ ?_))
    | (refine And.intro (fun hb=>?_) (fun hb'=>?_))
    | refine And.intro ?_ ?_
    | (show ¬ _;show (2:Int)≠0;decide)
    | intro _
  all_goals first
    | (show (_:Int)=(_:Int);rfl)
    | (show wfB _ _=true;rfl)
    | (show Int.natAbs _<(_:Nat);omega)
    | (show (0:Int)≤IntKind.i64.wrap _;exact (fl_pw h0 hn).1)
    | (show IntKind.i64.wrap _≤(6400:Int);exact Int.le_trans (fl_pw h0 hn).2.1 (by decide))
    | (show (∃ v,atL (flL n) v _);exact ⟨_,⟨(fl_pw h0 hn).2.2,pow_61 (fl_pw h0 hn).2.1⟩,⟨rfl,rfl,rfl,trivial⟩,⟨rfl,⟨rfl,rfl,trivial⟩,⟨rfl,⟨rfl,rfl,trivial⟩,⟨rfl,⟨rfl,rfl,trivial⟩,trivial⟩⟩⟩⟩)
    | (show (∃ v',(flL n).μ v'<(flL n).μ _∧atL (flL n) v' _);exact ⟨_,(fl_next h0 (by assumption) (by assumption) (by assumption)).1,(fl_next h0 (by assumption) (by assumption) (by assumption)).2,⟨rfl,rfl,rfl,trivial⟩,⟨rfl,⟨rfl,rfl,trivial⟩,⟨rfl,⟨rfl,rfl,trivial⟩,⟨rfl,⟨rfl,rfl,trivial⟩,trivial⟩⟩⟩⟩)
    | (show Len0 n;exact len_128 h0 (by omega))
    | (show Len0 (_+_);exact len_128 (by have:=fl_v h0 (by assumption) (by assumption);have:=fl_q h0 hn (by assumption) (by assumption);omega) (by have:=fl_v h0 (by assumption) (by assumption);have:=fl_q h0 hn (by assumption) (by assumption);omega))
    | (show Len0 (_/_);exact len_128 (fl_q h0 hn (by assumption) (by assumption)).1 (by have:=fl_q h0 hn (by assumption) (by assumption);omega))
    | (show Len0 _;exact len_128 (by have:=fl_v h0 (by assumption) (by assumption);omega) (by have:=fl_v h0 (by assumption) (by assumption);omega))
    | (show (0:Int)<_;exact (fl_v h0 (by assumption) (by assumption)).1)
    | (show _<(18446744073709551616:Int);exact (fl_v h0 (by assumption) (by assumption)).2)
    | (show (0:Int)≤_+_;have:=fl_v h0 (by assumption) (by assumption);have:=fl_q h0 hn (by assumption) (by assumption);omega)
    | (show (_:Int)≤_;decide)
    | (show some (CR.tv (tI _))=some (CR.tv (tI _));first|exact wh_eq (fl_zero (by assumption))|exact wh_eq (fl_done h0 (by assumption) (by assumption) (by assumption))))
theorem len_mul (x y:Int):(lm (x*y)).length≤(lm x).length+(lm y).length:=by
  refine limbs_len ?_
  rw [Int.natAbs_mul,Nat.pow_add]
  have h1:x.natAbs<18446744073709551616 ^ (lm x).length:=by have:=val_lt (limbs_dig x.natAbs);rw [val_limbs] at this;exact this
  have h2:y.natAbs<18446744073709551616 ^ (lm y).length:=by have:=val_lt (limbs_dig y.natAbs);rw [val_limbs] at this;exact this
  exact Nat.mul_lt_mul'' h1 h2
def nearB (n d x:Int):Bool:=bif decide (cmpI ((x*2 ^ Int.toNat 1+1)*(x*2 ^ Int.toNat 1+1)*d) (n*2 ^ Int.toNat 2)<0) then true else bif cmpI ((x*2 ^ Int.toNat 1+1)*(x*2 ^ Int.toNat 1+1)*d) (n*2 ^ Int.toNat 2) == 0 then !decide (x%2=0) else false
def nearR (n d:Int):Int:=if nearB n d (isq (n/d))=true then isq (n/d)+1 else isq (n/d)
theorem isq_le {n:Int} (h0:0≤n) (hn:n<1329227995784915872903807060280344576):0≤isq n∧isq n<1329227995784915872903807060280344576:=by
  obtain ⟨a,b,c⟩:=isq_spec h0
  refine ⟨a,?_⟩
  by_cases h:isq n=0
  · omega
  · have:=Int.mul_le_mul_of_nonneg_left (show 1≤isq n by omega) a
    omega
theorem div_bd {n d:Int} (h0:0≤n) (hn:n<1329227995784915872903807060280344576) (hd:0<d):0≤n/d∧n/d<1329227995784915872903807060280344576:=by
  have:=Int.ediv_nonneg h0 (show 0≤d by omega)
  have:=Int.ediv_le_self d h0
  omega
theorem len2 {x:Int} (h0:0≤x) (h:x<340282366920938463463374607431768211456):(lm x).length≤2:=limbs_len (k:=2) (by show x.natAbs<340282366920938463463374607431768211456;omega)
theorem near1 {n d:Int} (h:nearB n d (isq (n/d))=true):isq (n/d)+1=nearR n d:=by unfold nearR;rw [if_pos h]
theorem near0 {n d:Int} (h:nearB n d (isq (n/d))=false):isq (n/d)=nearR n d:=by unfold nearR;rw [h];rfl
def cNearest:Con Try.prog:=con2 33 (fun n d=>(0≤n∧n<1329227995784915872903807060280344576)∧0<d∧d<18446744073709551616) (fun n d => .tv (tI (nearR n d))) ⟨_,Try.func33,by kernel_rfl,rfl⟩ (fun n d A A' c c' w hl hr hr'=>by
  obtain ⟨⟨h0,hn⟩,hd,hd'⟩:=hl
  have q:=div_bd h0 hn hd
  have s:=isq_le q.1 q.2
  have l1:Len0 (isq (n/d)):=len_128 s.1 (by omega)
  have l2:Len0 (isq (n/d)*2 ^ Int.toNat 1):=len_128 (by show 0≤_*2;omega) (by show _*2<(_:Int);omega)
  have l4:(lm (isq (n/d)*2 ^ Int.toNat 1+1)).length≤2:=len2 (by show 0≤_*2+1;omega) (by show _*2+1<(_:Int);omega)
  have l3:Len0 (isq (n/d)*2 ^ Int.toNat 1+1):=Nat.le_trans l4 (by decide)
  have l5:Len0 ((isq (n/d)*2 ^ Int.toNat 1+1)*(isq (n/d)*2 ^ Int.toNat 1+1)):=Nat.le_trans (len_mul _ _) (by omega)
  have l6:(lm d).length≤1:=lm_one d (by omega)
  have l7:Len0 n:=len_128 h0 (by omega)
  refine fn_ret (cxOk Try.prog ints_ok [] [cFloor,cDown,cLeft,cOne,cAdd,cMul,cCmp,cEven]) follows Try.func33 rfl 100 _ rfl (by simp) ?_ (args2 hr hr')
  repeat' first
    | exact trivial
    | (refine And.intro (show regChk _ _ _ _ _=true from by kernel_rfl) (And.intro ?_ ?_))
    | (refine And.intro (fun hb=>?_) (fun hb'=>?_))
    | refine And.intro ?_ ?_
    | intro _
  all_goals first
    | (show (_:Int)=(_:Int);rfl)
    | (show Len0 _;first|exact l7|exact l1|exact l2|exact l3|exact l5|exact len_1)
    | (show List.length _<24;first|exact Nat.lt_of_le_of_lt l6 (by decide)|exact Nat.lt_of_le_of_lt l4 (by decide))
    | (show (0:Int)≤(1:Int);decide)
    | (show (0:Int)≤(2:Int);decide)
    | (show (_:Int)≤6400;decide)
    | exact q.1
    | exact q.2
    | exact hd
    | exact hd'
    | (show some (CR.tv (tI _))=some (CR.tv (tI _));first|exact wh_eq (near1 (by assumption))|exact wh_eq (near0 (by assumption)))
    | (show (_:Bool)=(_:Bool);first|assumption|exact beq_iff_eq.2 (by assumption)|exact g2 (by assumption) (by assumption)))
end
end Go.Proofs.Ytmnkaldemjdcoaa.Wh
end
section
set_option linter.unusedVariables false
set_option linter.unusedSimpArgs false
namespace Go.Proofs.Ytmnkaldemjdcoaa.Wh
open Go RowKit YtmnkaldemjdcoaaW.PrintWords YtmnkaldemjdcoaaW.PrintMore YtmnkaldemjdcoaaW.Aid YtmnkaldemjdcoaaW.Big YtmnkaldemjdcoaaW.Sx Ytmnkaldemjdcoaa.BitsWalk Ytmnkaldemjdcoaa.Limbs Ytmnkaldemjdcoaa.Whole Ytmnkaldemjdcoaa.R90 Ytmnkaldemjdcoaa.QN90 Go.Proofs
theorem Ret.conv {f:FuncId} {us:Array Value} {w:World} {r r':CR} (h:Ret Try.prog f us w r) (hc:∀ w' u,r.told w w' u→r'.told w w' u):Ret Try.prog f us w r' :=
  h.mono fun _ _ ⟨u,he,ht,hb⟩=>⟨u,he,hc _ _ ht,hb⟩
theorem told_made {b:Bool} {m z:Int} {w w':World} {u:Value} (h:(CR.tv (.agg [.v (.bool b),.mag m])).told w w' u) (hb:b=sgn z) (hm:lm m=lm z):(CR.tv (tI z)).told w w' u:=by
  obtain ⟨us,rfl,h⟩:=h
  cases h with
  | cons h1 h2 =>
    cases h2 with
    | cons h2 h3 =>
      cases h3
      obtain ⟨A,c,rfl,hr⟩:=h2
      refine ⟨_,rfl,.cons ?_ (.cons ⟨A,c,by rw [hm],by rw [← hm];exact hr⟩ .nil)⟩
      show _=Value.bool (sgn z)
      rw [show _=Value.bool b from h1,hb]
abbrev tMade (b:Bool) (m:Int):CR := .tv (.agg [.v (.bool b),.mag m])
theorem ncmp_ge {x y:Int} (h:decide (cmpN x.natAbs y.natAbs≥0)=true):y.natAbs≤x.natAbs:=by
  have h:=of_decide_eq_true h
  unfold cmpN at h
  split at h
  · omega
  · omega
theorem ncmp_lt {x y:Int} (h:decide (cmpN x.natAbs y.natAbs≥0)=false):x.natAbs≤y.natAbs:=by
  have h:=of_decide_eq_false h
  unfold cmpN at h
  split at h
  · omega
  · split at h<;>omega
theorem sign_p {x:Int} (h:sgn x=false) (h':decide (((lm x).length:Int)>0)=true):1=cmpI x 0:=by
  have h1:=sgn_f h
  have h2:=lm_pos.1 h'
  unfold cmpI;rw [if_neg (by omega),if_pos (by omega)]
theorem sign_z {x:Int} (h:sgn x=false) (h':decide (((lm x).length:Int)>0)=false):0=cmpI x 0:=by
  have h1:=sgn_f h
  have h2:x=0:=by
    by_cases hz:x=0
    · exact hz
    · rw [lm_pos.2 hz] at h';cases h'
  unfold cmpI;rw [if_neg (by omega),if_neg (by omega)]
theorem cmp_sub (x y:Int):cmpI (x-y) 0=cmpI x y:=by
  unfold cmpI
  by_cases h:x<y
  · rw [if_pos (by omega),if_pos h]
  · rw [if_neg (by omega),if_neg h]
    by_cases h2:y<x
    · rw [if_pos (by omega),if_pos h2]
    · rw [if_neg (by omega),if_neg h2]
section
set_option maxRecDepth 100000
set_option maxHeartbeats 1000000
def rMade:Con Try.prog:=conOf 37 (fun b m => .tv (tI (ofS b m))) ⟨_,Try.func37,by kernel_rfl,rfl⟩ (fun b m A c w hr=>by
  refine Ret.conv (r:=tMade (bif b then decide (((lm (m:Int)).length:Int)>0) else false) (m:Int)) ?_ (fun w' u h=>told_made h ?_ (by rw [lm_ofS,lm_nat]))
  · refine fn_ret (cxOk Try.prog intsR_ok [] refK) follows Try.func37 rfl 100 _ rfl (by simp) ?_ (xs:=[tB b,tM m]) (.cons rfl (.cons ⟨A,c,by rw [lm_nat],by rw [lm_nat];exact hr⟩ .nil))
    repeat' first
      | exact trivial
      | (refine And.intro (show regChk _ _ _ _ _=true from by kernel_rfl) (And.intro ?_ ?_))
      | (refine And.intro (fun hb=>?_) (fun hb'=>?_))
      | refine And.intro ?_ ?_
      | intro _
    all_goals first
      | assumption
      | exact beq_iff_eq.2 (by assumption)
      | (show some (CR.tv _)=some (CR.tv _);rfl)
      -- PVC
  · rw [sgn_ofS,lm_nat]
    cases b
    · rfl
    · rw [Bool.true_and,Bool.eq_iff_iff]
      simp only [cond_true,decide_eq_true_eq]
      omega)
def rSize:Con Try.prog:=conN 81 I64 (fun n => .tv (tN .u64 n.natAbs)) ⟨_,Try.func81,by kernel_rfl,rfl⟩ (fun n w hl=>by
  refine fn_ret (cxOk Try.prog intsR_ok [] refK) follows Try.func81 rfl 100 _ rfl (by simp) ?_ (xs:=[tN .i64 n]) (.cons rfl .nil)
  repeat' first
    | exact trivial
    | (refine And.intro (show regChk _ _ _ _ _=true from by kernel_rfl) (And.intro ?_ ?_))
    | (refine And.intro (fun hb=>?_) (fun hb'=>?_))
    | refine And.intro ?_ ?_
    | intro _
  all_goals first
    | (show some (CR.tv (tN _ _))=some (CR.tv (tN _ _));refine tN_eq ?_;rw [u64_wrap];(try rw [u64_wrap]);have:=hl;unfold I64 at this;(first|(have h0:n<0:=of_decide_eq_true (by assumption);omega)|(have h0:¬ n<0:=of_decide_eq_false (by assumption);omega)))
    -- PVC
  )
def rFrom:Con Try.prog:=conN 43 I64 (fun n => .tv (tI n)) ⟨_,Try.func43,by kernel_rfl,rfl⟩ (fun n w hl=>by
  have hl1 : -9223372036854775808≤n∧n<9223372036854775808:=hl
  refine fn_ret (cxOk Try.prog intsR_ok [] [rMade,rSize,cNOf]) follows Try.func43 rfl 100 _ rfl (by simp) ?_ (xs:=[tN .i64 n]) (.cons rfl .nil)
  repeat' first
    | exact trivial
    | (refine And.intro (show regChk _ _ _ _ _=true from by kernel_rfl) (And.intro ?_ ?_))
    | (refine And.intro (fun hb=>?_) (fun hb'=>?_))
    | refine And.intro ?_ ?_
    | intro _
  all_goals first
    | (show (_:Int)=(_:Int);rfl)
    | (show (_:Bool)=(_:Bool);first|assumption|exact beq_iff_eq.2 (by assumption)|exact g2 (by assumption) (by assumption))
    | (with_reducible exact hl1.1)
    | (with_reducible exact hl1.2)
    | (with_reducible exact Int.natCast_nonneg _)
    | (show ((n.natAbs:Nat):Int)<_;have:=hl;unfold I64 at this;omega)
    | (show some (CR.tv (tI _))=some (CR.tv (tI _));(refine wh_eq ?_;show ofS (decide (n<0)) n.natAbs=n;unfold ofS;split<;>simp_all<;>omega))
    -- PVC
  )
def rSign:Con Try.prog:=con1 44 (fun _=>True) (fun x => .tv (tN .i64 (cmpI x 0))) ⟨_,Try.func44,by kernel_rfl,rfl⟩ (fun x A c w hl hr=>by
  refine fn_ret (cxOk Try.prog intsR_ok [] []) follows Try.func44 rfl 100 _ rfl (by simp) ?_ (args1 hr)
  repeat' first
    | exact trivial
    | (refine And.intro (show regChk _ _ _ _ _=true from by kernel_rfl) (And.intro ?_ ?_))
    | (refine And.intro (fun hb=>?_) (fun hb'=>?_))
    | refine And.intro ?_ ?_
    | intro _
  all_goals first
    | (show (_:Int)=(_:Int);rfl)
    | (show (_:Bool)=(_:Bool);first|assumption|exact beq_iff_eq.2 (by assumption)|exact g2 (by assumption) (by assumption))
    | (show some (CR.tv (tN _ _))=some (CR.tv (tN _ _));first|exact tN_eq (cmpI_np (sgn_t (by assumption)) (Int.le_refl 0))|exact tN_eq (sign_p (by assumption) (by assumption))|exact tN_eq (sign_z (by assumption) (by assumption)))
    -- PVC
  )
def rNeg:Con Try.prog:=con1 82 (fun _=>True) (fun x => .tv (tI (-x))) ⟨_,Try.func82,by kernel_rfl,rfl⟩ (fun x A c w hl hr=>by
  refine fn_ret (cxOk Try.prog intsR_ok [] [rMade]) follows Try.func82 rfl 100 _ rfl (by simp) ?_ (args1 hr)
  repeat' first
    | exact trivial
    | (refine And.intro (show regChk _ _ _ _ _=true from by kernel_rfl) (And.intro ?_ ?_))
    | (refine And.intro (fun hb=>?_) (fun hb'=>?_))
    | refine And.intro ?_ ?_
    | intro _
  all_goals first
    | (show (_:Int)=(_:Int);rfl)
    | (show (_:Bool)=(_:Bool);first|assumption|exact beq_iff_eq.2 (by assumption)|exact g2 (by assumption) (by assumption))
    | (show some (CR.tv (tI _))=some (CR.tv (tI _));exact wh_eq (ofS_neg' x))
    -- PVC
  )
def rPlus:Con Try.prog:=con2 13 (fun x y=>BI 20000 x∧BI 20000 y) (fun x y => .tv (tI (x+y))) ⟨_,Try.func13,by kernel_rfl,rfl⟩ (fun x y A A' c c' w hl hr hr'=>by
  refine fn_ret (cxOk Try.prog intsR_ok [] [rMade,cNPlus,cNLess,cNCmp]) follows Try.func13 rfl 100 _ rfl (by simp) ?_ (args2 hr hr')
  repeat' first
    | exact trivial
    | (refine And.intro (show regChk _ _ _ _ _=true from by kernel_rfl) (And.intro ?_ ?_))
    | (refine And.intro (fun hb=>?_) (fun hb'=>?_))
    | refine And.intro ?_ ?_
    | intro _
  all_goals first
    | (show (_:Int)=(_:Int);rfl)
    | (show (_:Bool)=(_:Bool);first|assumption|exact beq_iff_eq.2 (by assumption)|exact g2 (by assumption) (by assumption))
    | exact hl.1
    | exact hl.2
    | (show (_:Nat)≤(_:Nat);first|exact ncmp_ge (by assumption)|exact ncmp_lt (by assumption))
    | (show some (CR.tv (tI _))=some (CR.tv (tI _));(first|exact wh_eq (ofS_add' (by assumption))|exact wh_eq (ofS_sub' (by assumption) (ncmp_ge (by assumption)))|exact wh_eq ((ofS_sub' (x:=y) (y:=x) (by rw [show (sgn y == sgn x)=(sgn x == sgn y) from Bool.beq_comm];assumption) (ncmp_lt (by assumption))).trans (Int.add_comm _ _))))
    -- PVC
  )
def rLess:Con Try.prog:=con2 45 (fun x y=>BI 20000 x∧BI 20000 y) (fun x y => .tv (tI (x-y))) ⟨_,Try.func45,by kernel_rfl,rfl⟩ (fun x y A A' c c' w hl hr hr'=>by
  refine fn_ret (cxOk Try.prog intsR_ok [] [rPlus,rNeg]) follows Try.func45 rfl 100 _ rfl (by simp) ?_ (args2 hr hr')
  repeat' first
    | exact trivial
    | (refine And.intro (show regChk _ _ _ _ _=true from by kernel_rfl) (And.intro ?_ ?_))
    | (refine And.intro (fun hb=>?_) (fun hb'=>?_))
    | refine And.intro ?_ ?_
    | intro _
  all_goals first
    | (show (_:Int)=(_:Int);rfl)
    | (show (_:Bool)=(_:Bool);first|assumption|exact beq_iff_eq.2 (by assumption)|exact g2 (by assumption) (by assumption))
    | exact hl.1
    | (show BI 20000 (-y);exact hl.2.neg)
    | (show some (CR.tv (tI _))=some (CR.tv (tI _));exact wh_eq (by omega))
    -- PVC
  )
def rTimes:Con Try.prog:=con2 42 (fun x y=>BI 20000 x∧BI 20000 y) (fun x y => .tv (tI (x*y))) ⟨_,Try.func42,by kernel_rfl,rfl⟩ (fun x y A A' c c' w hl hr hr'=>by
  refine fn_ret (cxOk Try.prog intsR_ok [] [rMade,cNTimes]) follows Try.func42 rfl 100 _ rfl (by simp) ?_ (args2 hr hr')
  repeat' first
    | exact trivial
    | (refine And.intro (show regChk _ _ _ _ _=true from by kernel_rfl) (And.intro ?_ ?_))
    | (refine And.intro (fun hb=>?_) (fun hb'=>?_))
    | refine And.intro ?_ ?_
    | intro _
  all_goals first
    | (show (_:Int)=(_:Int);rfl)
    | (show (_:Bool)=(_:Bool);first|assumption|exact beq_iff_eq.2 (by assumption)|exact g2 (by assumption) (by assumption))
    | exact hl.1
    | exact hl.2
    | (show some (CR.tv (tI _))=some (CR.tv (tI _));exact wh_eq (ofS_prod' x y))
    -- PVC
  )
def rCmp:Con Try.prog:=con2 15 (fun x y=>BI 20000 x∧BI 20000 y) (fun x y => .tv (tN .i64 (cmpI x y))) ⟨_,Try.func15,by kernel_rfl,rfl⟩ (fun x y A A' c c' w hl hr hr'=>by
  refine fn_ret (cxOk Try.prog intsR_ok [] [rSign,rLess]) follows Try.func15 rfl 100 _ rfl (by simp) ?_ (args2 hr hr')
  repeat' first
    | exact trivial
    | (refine And.intro (show regChk _ _ _ _ _=true from by kernel_rfl) (And.intro ?_ ?_))
    | (refine And.intro (fun hb=>?_) (fun hb'=>?_))
    | refine And.intro ?_ ?_
    | intro _
  all_goals first
    | (show (_:Int)=(_:Int);rfl)
    | (show (_:Bool)=(_:Bool);first|assumption|exact beq_iff_eq.2 (by assumption)|exact g2 (by assumption) (by assumption))
    | exact hl.1
    | exact hl.2
    | (show some (CR.tv (tN _ _))=some (CR.tv (tN _ _));exact tN_eq (cmp_sub x y))
    -- PVC
  )
def rLeft:Con Try.prog:=con1n 12 (fun x n=>BI 20000 x∧0≤n∧n≤6400) (fun x n => .tv (tI (x*2 ^ n.toNat))) ⟨_,Try.func12,by kernel_rfl,rfl⟩ (fun x n A c w hl hr=>by
  have e:=ofS_mul' x (2 ^ n.toNat)
  rw [Int.natCast_pow] at e
  refine fn_ret (cxOk Try.prog intsR_ok [] [rMade,cUp2]) follows Try.func12 rfl 100 _ rfl (by simp) ?_ (args1n hr)
  repeat' first
    | exact trivial
    | (refine And.intro (show regChk _ _ _ _ _=true from by kernel_rfl) (And.intro ?_ ?_))
    | (refine And.intro (fun hb=>?_) (fun hb'=>?_))
    | refine And.intro ?_ ?_
    | intro _
  all_goals first
    | (show (_:Int)=(_:Int);rfl)
    | (show (_:Bool)=(_:Bool);first|assumption|exact beq_iff_eq.2 (by assumption)|exact g2 (by assumption) (by assumption))
    | exact hl.1
    | exact hl.2.1
    | exact hl.2.2
    | (show some (CR.tv (tI _))=some (CR.tv (tI _));exact wh_eq e)
    -- PVC
  )
end
end Go.Proofs.Ytmnkaldemjdcoaa.Wh
end
section
set_option linter.unusedVariables false
set_option linter.unusedSimpArgs false
namespace Go.Proofs.Ytmnkaldemjdcoaa.Wh
open Go RowKit YtmnkaldemjdcoaaW.PrintWords YtmnkaldemjdcoaaW.PrintMore YtmnkaldemjdcoaaW.Aid YtmnkaldemjdcoaaW.Big YtmnkaldemjdcoaaW.Sx Ytmnkaldemjdcoaa.BitsWalk Ytmnkaldemjdcoaa.Limbs Ytmnkaldemjdcoaa.Whole Ytmnkaldemjdcoaa.R90 Ytmnkaldemjdcoaa.QN90 Ytmnkaldemjdcoaa.FxWalk Go.Proofs
abbrev tRat (x d:Int):TV := .agg [.neg x,.mag x,.mag d]
def gcdI (n d:Int):Int:=((Nat.gcd n.natAbs d.natAbs:Nat):Int)
theorem rat_eq {x d x' d':Int} (h:x=x') (h':d=d'):(some (CR.tv (tRat x d)):Option CR)=some (CR.tv (tRat x' d')):=by rw [h,h']
theorem gcd_pos (n:Nat) {d:Int} (h:0<d):0<Nat.gcd n d.natAbs:=Nat.gcd_pos_of_pos_right _ (by omega)
theorem make_num {n:Int} {g:Nat} (h:g∣n.natAbs) (hg:0<g):ofS (sgn n) (n.natAbs/g)=n/(g:Int):=by
  obtain ⟨q,hq⟩:=h
  rw [hq,Nat.mul_div_cancel_left _ hg]
  cases hs:sgn n with
  | true =>
    have hn:=sgn_t hs
    have e:n=(g:Int)*(-(q:Int)):=by rw [Int.mul_neg,← Int.natCast_mul,← hq];omega
    rw [e,Int.mul_ediv_cancel_left _ (by omega)]
    rfl
  | false =>
    have hn:=sgn_f hs
    have e:n=(g:Int)*(q:Int):=by rw [← Int.natCast_mul,← hq];omega
    rw [e,Int.mul_ediv_cancel_left _ (by omega)]
    rfl
theorem make_den {d:Int} {g:Nat} (h:0≤d):((d.natAbs/g:Nat):Int)=d/(g:Int):=by rw [Int.natCast_ediv,Int.natAbs_of_nonneg h]
theorem may_eq (v:Int):(bif decide (v > -35184372088832) then decide (v<35184372088832) else false)=wd v:=by
  rw [Bool.eq_iff_iff,wd_iff]
  by_cases h:v > -35184372088832
  · rw [decide_eq_true h];simp;omega
  · rw [decide_eq_false h];simp;omega
section
set_option maxRecDepth 100000
set_option maxHeartbeats 1000000
def qMake:Con Try.prog where
  f:=89
  sem:=fun xs=>match xs with
    | [.agg [.neg n,.mag n'],.sc (.mag d)]=>some (n'=n∧0<d∧BI 8000 n∧BI 8000 d,.tv (tRat (n/gcdI n d) (d/gcdI n d)))
    | _=>none
  ok := by
    intro xs p r' h hp
    refine ⟨⟨_,Try.func89,by kernel_rfl,rfl⟩,fun us w ha=>?_⟩
    split at h
    · rename_i n n' d
      cases h
      obtain ⟨rfl,h0,hn,hd⟩:=hp
      have gp:=gcd_pos n'.natAbs h0
      have gl:B 8000 (Nat.gcd n'.natAbs d.natAbs):=B.le hd (Nat.gcd_le_right _ (by omega))
      refine fn_ret (cxOk Try.prog intsR_ok [] [cNGcd,cNDivide,rMade]) follows Try.func89 rfl 100 _ rfl (by simp) ?_ ha
      repeat' first
        | exact trivial
        | (refine And.intro (show regChk _ _ _ _ _=true from by kernel_rfl) (And.intro ?_ ?_))
        | (refine And.intro (fun _=>?_) (fun h=>absurd (show true=false from h) (by decide)))
        | (refine And.intro (fun h=>absurd (show false=true from h) (by decide)) (fun _=>?_))
        | (refine And.intro (fun hb=>?_) (fun hb'=>?_))
        | refine And.intro ?_ ?_
        | intro _
      all_goals first
        | (show (_:Int)=(_:Int);rfl)
        | (show (_:Bool)=(_:Bool);first|assumption|exact beq_iff_eq.2 (by assumption)|exact g2 (by assumption) (by assumption))
        | (show B _ _;first|exact B.mono hn (by decide)|exact B.mono hd (by decide)|exact B.mono gl (by decide))
        | (show 0<Int.natAbs _;exact gp)
        | (show some (CR.tv (tRat _ _))=some (CR.tv (tRat _ _));exact rat_eq (by simp only [Int.natAbs_natCast];exact make_num (Nat.gcd_dvd_left _ _) gp) (by simp only [Int.natAbs_natCast];exact make_den (Int.le_of_lt h0)))
        -- PVC
    · cases h
def gMay:Con Try.prog where
  f:=30
  sem:=fun xs=>match xs with
    | [.sc (.v (.int .i64 v))]=>some (True,.tv (tB (wd v)))
    | _=>none
  ok := by
    intro xs p r' h hp
    refine ⟨⟨_,Try.func30,by kernel_rfl,rfl⟩,fun us w ha=>?_⟩
    split at h
    · rename_i v
      cases h
      refine fn_ret (cxOk Try.prog intsR_ok [] []) follows Try.func30 rfl 100 _ rfl (by simp) ?_ ha
      repeat' first
        | exact trivial
        | (refine And.intro (show regChk _ _ _ _ _=true from by kernel_rfl) (And.intro ?_ ?_))
        | (refine And.intro (fun _=>?_) (fun h=>absurd (show true=false from h) (by decide)))
        | (refine And.intro (fun h=>absurd (show false=true from h) (by decide)) (fun _=>?_))
        | (refine And.intro (fun hb=>?_) (fun hb'=>?_))
        | refine And.intro ?_ ?_
        | intro _
      all_goals first
        | (show (_:Int)=(_:Int);rfl)
        | (show (_:Bool)=(_:Bool);first|assumption|exact beq_iff_eq.2 (by assumption)|exact g2 (by assumption) (by assumption))
        | (show some (CR.tv (tB _))=some (CR.tv (tB _));exact tB_eq (may_eq v))
        -- PVC
    · cases h
def gProd:Con Try.prog where
  f:=14
  sem:=fun xs=>match xs with
    | [.sc (.v (.int .i64 a)),.sc (.v (.int .i64 b))]=>some ((-9223372036854775808≤a∧a<9223372036854775808)∧(-9223372036854775808≤b∧b<9223372036854775808),.tv (tI (a*b)))
    | _=>none
  ok := by
    intro xs p r' h hp
    refine ⟨⟨_,Try.func14,by kernel_rfl,rfl⟩,fun us w ha=>?_⟩
    split at h
    · rename_i a b
      cases h
      obtain ⟨pa,pb⟩:=hp
      refine fn_ret (cxOk Try.prog intsR_ok [] [rFrom,rTimes]) follows Try.func14 rfl 100 _ rfl (by simp) ?_ ha
      repeat' first
        | exact trivial
        | (refine And.intro (show regChk _ _ _ _ _=true from by kernel_rfl) (And.intro ?_ ?_))
        | (refine And.intro (fun _=>?_) (fun h=>absurd (show true=false from h) (by decide)))
        | (refine And.intro (fun h=>absurd (show false=true from h) (by decide)) (fun _=>?_))
        | (refine And.intro (fun hb=>?_) (fun hb'=>?_))
        | refine And.intro ?_ ?_
        | intro _
      all_goals first
        | (show (_:Int)=(_:Int);rfl)
        | (show (_:Bool)=(_:Bool);first|assumption|exact beq_iff_eq.2 (by assumption)|exact g2 (by assumption) (by assumption))
        | (with_reducible exact pa.1)
        | (with_reducible exact pa.2)
        | (with_reducible exact pb.1)
        | (with_reducible exact pb.2)
        | (show BI _ _;first|exact BI.mono (BI.i64 pa) (by decide)|exact BI.mono (BI.i64 pb) (by decide))
        | (show some (CR.tv (tI _))=some (CR.tv (tI _));rfl)
        -- PVC
    · cases h
end
end Go.Proofs.Ytmnkaldemjdcoaa.Wh
end
section
set_option linter.unusedVariables false
set_option linter.unusedSimpArgs false
namespace Go.Proofs.Ytmnkaldemjdcoaa.Wh
open Go RowKit YtmnkaldemjdcoaaW.PrintWords YtmnkaldemjdcoaaW.PrintMore YtmnkaldemjdcoaaW.Aid YtmnkaldemjdcoaaW.Big YtmnkaldemjdcoaaW.Sx Ytmnkaldemjdcoaa.BitsWalk Ytmnkaldemjdcoaa.Limbs Ytmnkaldemjdcoaa.Whole Ytmnkaldemjdcoaa.FxWalk Go.Proofs
theorem ri_p {x y:Int} (hy:0<y):roundI x y=roundP x y:=by unfold roundI;rw [if_neg (by omega)]
theorem len_big {x:Int} {k:Nat} (hk:k≤20) (h:x.natAbs<18446744073709551616 ^ k):Len0 x:=by
  have:(lm x).length≤k:=limbs_len h
  unfold Len0;omega
end Go.Proofs.Ytmnkaldemjdcoaa.Wh
end
section
set_option linter.unusedVariables false
set_option linter.unusedSimpArgs false
namespace Go.Proofs.YtmnkaldemjdcoaaW.Sx
open Go RowKit YtmnkaldemjdcoaaW.PrintWords YtmnkaldemjdcoaaW.PrintMore YtmnkaldemjdcoaaW.Aid YtmnkaldemjdcoaaW.Big
def eqV:Value→Value→Bool
  | .int _ a,.int _ b=>a == b
  | .bool a,.bool b=>a == b
  | _,_=>false
def eqL:List Value→List Value→Bool
  | [],[]=>true
  | [x],[y]=>eqV x y
  | x::xs,y::ys=>eqV x y&&eqL xs ys
  | _,_=>false
def isK:Option IntKind→Value→Bool
  | some k,.int k' _=>decide (k'=k)
  | none,.bool _=>true
  | _,_=>false
def isKs:List (Option IntKind)→List Value→Bool
  | [],[]=>true
  | k::ks,x::xs=>isK k x&&isKs ks xs
  | _,_=>false
def rep {α:Type} (l:List α):Nat→List α
  | 0=>[]
  | n+1=>l++rep l n
mutual
/-- What a struct's cells are,in line (arr: also of arrays). -/
def lvs (P:Program) (arr:Bool):Nat→TypeId→Option (List (Option IntKind))
  | 0,_=>none
  | d + 1, T => match P.underlying T, P.info? T with
    | some (.int k),some inf=>if inf.size=1 then some [some k] else none
    | some .bool,some inf=>if inf.size=1 then some [none] else none
    | some (.struct fs),some inf=>if P.stoodInHeld T then none else match lvsF P arr d fs.toList 0 with
      | some ks=>if inf.size=ks.length then some ks else none
      | none=>none
    | some (.array n e),some inf=>if arr then match lvs P arr d e with
      | some ks=>if inf.size=(rep ks n).length then some (rep ks n) else none
      | none=>none
      else none
    | _,_=>none
def lvsF (P:Program) (arr:Bool):Nat→List Field→Nat→Option (List (Option IntKind))
  | _,[],_=>some []
  | 0,_::_,_=>none
  | d + 1, f :: fs, off => if f.name = "_" ∨ f.offset ≠ off then none else match lvs P arr d f.type with
    | some (k::ks)=>match lvsF P arr d fs (off+(k::ks).length) with
      | some r=>some (k::ks++r)
      | none=>none
    | _=>none
end
theorem lvs_info {P:Program} {arr:Bool} {d:Nat} {T:TypeId} {ks:List (Option IntKind)} (h:lvs P arr d T=some ks):∃ inf,P.info? T=some inf∧inf.size=ks.length:=by
  cases d with
  | zero=>cases h
  | succ d =>
  rw [lvs] at h
  split at h
  · rename_i hi
    split at h
    · rename_i hs;cases h;exact ⟨_,hi,hs⟩
    · cases h
  · rename_i hi
    split at h
    · rename_i hs;cases h;exact ⟨_,hi,hs⟩
    · cases h
  · rename_i hi
    split at h
    · cases h
    · split at h
      · split at h
        · rename_i hs;cases h;exact ⟨_,hi,hs⟩
        · cases h
      · cases h
  · rename_i hi
    split at h
    · split at h
      · split at h
        · rename_i hs;cases h;exact ⟨_,hi,hs⟩
        · cases h
      · cases h
    · cases h
  · cases h
theorem lvs_cells {P:Program} {arr:Bool} {d:Nat} {T:TypeId} {ks:List (Option IntKind)} (h:lvs P arr d T=some ks):P.cellsOf T=ks.length:=by
  obtain ⟨inf,h1,h2⟩:=lvs_info h
  unfold Program.cellsOf
  rw [h1];exact h2
def isAggT (P:Program) (T:TypeId):Bool:=match P.underlying T with
  | some (.struct _)=>true
  | _=>false
theorem isKs_len:∀ {ks:List (Option IntKind)} {xs:List Value},isKs ks xs=true→xs.length=ks.length
  | [],[],_=>rfl
  | _::_,_::_,h=>by simp only [isKs,Bool.and_eq_true] at h;simp [isKs_len h.2]
  | [],_::_,h=>by cases h
  | _::_,[],h=>by cases h
theorem isKs_take:∀ {ks ks':List (Option IntKind)} {xs:List Value},isKs (ks++ks') xs=true→isKs ks (xs.take ks.length)=true∧isKs ks' (xs.drop ks.length)=true
  | [],ks',xs,h=>⟨by cases xs<;>rfl,h⟩
  | k::ks,ks',[],h=>by cases h
  | k::ks,ks',x::xs,h=>by
    simp only [List.cons_append,isKs,Bool.and_eq_true] at h
    have:=isKs_take h.2
    exact ⟨by simp only [List.length_cons,List.take_succ_cons,isKs,h.1,this.1,Bool.and_self],by simpa using this.2⟩
theorem eqL_cons (x y:Value) (xs ys:List Value) (h:xs.length=ys.length):eqL (x::xs) (y::ys)=(eqV x y&&eqL xs ys):=by
  cases xs with
  | nil=>cases ys with
    | nil=>simp [eqL]
    | cons _ _=>simp at h
  | cons _ _=>cases ys with
    | nil=>simp at h
    | cons _ _=>rfl
theorem eqL_append:∀ {xs ys xs' ys':List Value},xs.length=ys.length→xs'.length=ys'.length→eqL (xs++xs') (ys++ys')=(eqL xs ys&&eqL xs' ys')
  | [],[],xs',ys',_,_=>by simp [eqL]
  | x::xs,y::ys,xs',ys',h,h'=>by
    have h2:xs.length=ys.length:=by simpa using h
    rw [List.cons_append,List.cons_append,eqL_cons _ _ _ _ (by simp [h2,h']),eqL_append h2 h',eqL_cons _ _ _ _ h2,Bool.and_assoc]
section
variable {P:Program}
theorem run_isAgg' {T:TypeId} {d:TypeDesc} (hu:P.underlying T=some d) (w:World):(isAgg T).run P w = .ok (descAgg d) w:=by
  simp only [isAgg,Sem.run_bind,run_underlying hu,Result.andThen_ok]
  cases d<;>rfl
def valOf (P:Program) (T:TypeId) (xs:List Value):Option Value:=match P.underlying T with
  | some (.struct _)=>some (.agg xs.toArray)
  | _=>match xs with
    | [x]=>some x
    | _=>none
theorem eqV_run {k:Option IntKind} {T:TypeId} (hT:P.underlying T=some (match k with|some k => .int k|none => .bool)) {x y:Value} (hx:isK k x=true) (hy:isK k y=true) (d:Nat) (w:World):(Op.equalIn (d+1) T x y).run P w = .ok (eqV x y) w:=by
  cases k with
  | some k =>
    cases x<;>simp only [isK] at hx<;>try cases hx
    cases y<;>simp only [isK] at hy<;>try cases hy
    rw [of_decide_eq_true hx,of_decide_eq_true hy]
    exact run_equalIn_int w d T k k _ _ hT
  | none =>
    cases x<;>simp only [isK] at hx<;>try cases hx
    cases y<;>simp only [isK] at hy<;>try cases hy
    exact run_equalIn_bool' w d T _ _ hT
theorem part_run {T:TypeId} {ks:List (Option IntKind)} {xs:List Value} {off:Nat} {d:Nat} (hl:lvs P false d T=some ks) (hn:0<ks.length) (hx:off+ks.length≤xs.length) (w:World):∃ v,valOf P T ((xs.drop off).take ks.length)=some v∧(part T xs.toArray off).run P w = .ok v w:=by
  cases d with
  | zero=>cases hl
  | succ d =>
  rw [lvs] at hl
  split at hl
  · rename_i k inf hu hi
    split at hl
    case isFalse=>cases hl
    cases hl
    obtain ⟨x,hx0⟩:∃ x,xs[off]?=some x:=⟨xs[off]'(by simp at hx;omega),by simp⟩
    refine ⟨x,?_,?_⟩
    · unfold valOf;rw [hu]
      have:(xs.drop off).take 1=[x]:=by rw [List.take_one];rw [List.head?_drop,hx0];rfl
      simp only [List.length_cons,List.length_nil,Nat.zero_add,this]
    · simp only [part,Sem.run_bind,run_isAgg' hu,Result.andThen_ok,descAgg,Bool.false_eq_true,if_false,List.getElem?_toArray,hx0,Sem.run_pure]
  · rename_i inf hu hi
    split at hl
    case isFalse=>cases hl
    cases hl
    obtain ⟨x,hx0⟩:∃ x,xs[off]?=some x:=⟨xs[off]'(by simp at hx;omega),by simp⟩
    refine ⟨x,?_,?_⟩
    · unfold valOf;rw [hu]
      have:(xs.drop off).take 1=[x]:=by rw [List.take_one];rw [List.head?_drop,hx0];rfl
      simp only [List.length_cons,List.length_nil,Nat.zero_add,this]
    · simp only [part,Sem.run_bind,run_isAgg' hu,Result.andThen_ok,descAgg,Bool.false_eq_true,if_false,List.getElem?_toArray,hx0,Sem.run_pure]
  · rename_i fs inf hu hi
    split at hl
    · cases hl
    · split at hl
      · split at hl
        · rename_i hsz
          cases hl
          refine ⟨.agg ((xs.drop off).take ks.length).toArray,?_,?_⟩
          · unfold valOf;rw [hu]
          · simp only [part,Sem.run_bind,run_isAgg' hu,Result.andThen_ok,descAgg,if_true,run_sizeOf' hi,Sem.run_pure,hsz]
            congr 2
            rw [List.extract_toArray,List.extract_eq_take_drop]
            congr 2
            omega
        · cases hl
      · cases hl
  · cases hl
  · cases hl
theorem eq_run:∀ (d:Nat),(∀ (T:TypeId) (ks:List (Option IntKind)) (xs ys:List Value) (x y:Value) (D:Nat) (w:World),lvs P false d T=some ks→0<ks.length→isKs ks xs=true→isKs ks ys=true→valOf P T xs=some x→valOf P T ys=some y→d≤D→(Op.equalIn D T x y).run P w = .ok (eqL xs ys) w) ∧
    (∀ (fs:List Field) (off:Nat) (ks:List (Option IntKind)) (xs ys:List Value) (D:Nat) (w:World),lvsF P false d fs off=some ks→off+ks.length≤xs.length→off+ks.length≤ys.length→isKs ks ((xs.drop off).take ks.length)=true→isKs ks ((ys.drop off).take ks.length)=true→d≤D+1→(Op.eqFields D xs.toArray ys.toArray fs).run P w = .ok (eqL ((xs.drop off).take ks.length) ((ys.drop off).take ks.length)) w):=by
  intro d
  induction d with
  | zero =>
    refine ⟨fun T ks xs ys x y D w h=>(by cases h),fun fs off ks xs ys D w h=>?_⟩
    cases fs with
    | nil=>cases h;intro _ _ _ _ _;simp [Op.eqFields,eqL]
    | cons f fs=>cases h
  | succ d ih =>
    obtain ⟨ih1,ih2⟩:=ih
    constructor
    · intro T ks xs ys x y D w h hn hx hy hvx hvy hD
      obtain ⟨D,rfl⟩:∃ D',D=D'+1:=⟨D-1,by omega⟩
      have hlx:=isKs_len hx
      have hly:=isKs_len hy
      rw [lvs] at h
      split at h
      · rename_i k inf hu hi
        split at h
        case isFalse=>cases h
        cases h
        unfold valOf at hvx hvy
        rw [hu] at hvx hvy
        match xs,hlx with
        | [a],_=>match ys,hly with
          | [b],_ =>
            cases hvx;cases hvy
            simp only [isKs,Bool.and_true] at hx hy
            exact eqV_run (k:=some k) hu hx hy D w
      · rename_i inf hu hi
        split at h
        case isFalse=>cases h
        cases h
        unfold valOf at hvx hvy
        rw [hu] at hvx hvy
        match xs,hlx with
        | [a],_=>match ys,hly with
          | [b],_ =>
            cases hvx;cases hvy
            simp only [isKs,Bool.and_true] at hx hy
            exact eqV_run (k:=none) hu hx hy D w
      · rename_i fs inf hu hi
        unfold valOf at hvx hvy
        rw [hu] at hvx hvy
        cases hvx;cases hvy
        split at h
        · cases h
        · rename_i hst
          split at h
          · rename_i ks' hf
            split at h
            · cases h
              have hfo:P.fieldsOf T=fs:=by unfold Program.fieldsOf;rw [hu]
              rw [run_equalIn_struct w D T _ _ (by rw [hfo];exact hu) (by simpa using hst),hfo]
              have:=ih2 fs.toList 0 ks xs ys D w hf (by omega) (by omega) (by rw [List.drop_zero,← hlx,List.take_length];exact hx) (by rw [List.drop_zero,← hly,List.take_length];exact hy) (by omega)
              rw [this,List.drop_zero,List.drop_zero]
              congr 2
              · rw [← hlx,List.take_length]
              · rw [← hly,List.take_length]
            · cases h
          · cases h
      · cases h
      · cases h
    · intro fs off ks xs ys D w h hxs hys hx hy hD
      cases fs with
      | nil=>cases h;simp [Op.eqFields,eqL]
      | cons f fs =>
        rw [lvsF] at h
        split at h
        · cases h
        · rename_i hc
          have hname : f.name ≠ "_" := fun e => hc (Or.inl e)
          have hoff:f.offset=off:=Decidable.byContradiction fun e=>hc (Or.inr e)
          split at h
          · rename_i k ks1 hl
            split at h
            · rename_i r hr
              cases h
              have e1:(k::(ks1++r)).length=(k::ks1).length+r.length:=by simp;omega
              have hlen:(k::ks1++r).length=(k::ks1).length+r.length:=by simp;omega
              rw [hlen] at hxs hys hx hy
              have sx:(xs.drop off).take ((k::ks1).length+r.length)=(xs.drop off).take (k::ks1).length++(xs.drop (off+(k::ks1).length)).take r.length:=by rw [List.take_add,List.drop_drop]
              have sy:(ys.drop off).take ((k::ks1).length+r.length)=(ys.drop off).take (k::ks1).length++(ys.drop (off+(k::ks1).length)).take r.length:=by rw [List.take_add,List.drop_drop]
              have lx:((xs.drop off).take (k::ks1).length).length=(k::ks1).length:=by rw [List.length_take,List.length_drop];omega
              have ly:((ys.drop off).take (k::ks1).length).length=(k::ks1).length:=by rw [List.length_take,List.length_drop];omega
              have hx2:=isKs_take hx
              have hy2:=isKs_take hy
              rw [sx] at hx2;rw [sy] at hy2
              rw [List.take_left' lx,List.drop_left' lx] at hx2
              rw [List.take_left' ly,List.drop_left' ly] at hy2
              obtain ⟨va,hva,ha⟩:=part_run hl (by simp) (off:=off) (xs:=xs) (by omega) w
              obtain ⟨vb,hvb,hb⟩:=part_run hl (by simp) (off:=off) (xs:=ys) (by omega) w
              have h3:=ih1 f.type (k::ks1) _ _ va vb D w hl (by simp) hx2.1 hy2.1 hva hvb (by omega)
              simp only [Op.eqFields,hname,ne_eq,not_false_eq_true,if_true,Sem.run_bind,hoff,ha,hb,h3,Result.andThen_ok]
              rw [hlen,sx,sy,eqL_append (by rw [lx,ly]) (by rw [List.length_take,List.length_take,List.length_drop,List.length_drop];omega)]
              cases eqL ((xs.drop off).take (k::ks1).length) ((ys.drop off).take (k::ks1).length) with
              | false=>simp
              | true =>
                simp only [Bool.not_true,Bool.false_eq_true,if_false,Bool.true_and]
                exact ih2 fs (off+(k::ks1).length) r xs ys D w hr (by omega) (by omega) hx2.2 hy2.2 (by omega)
            · cases h
          · cases h
end
def valsOf:List A0→Option (List Value)
  | []=>some []
  | .v x::r=>match valsOf r with
    | some l=>some (x::l)
    | none=>none
  | .neg x::r=>match valsOf r with
    | some l=>some (.bool (sgn x)::l)
    | none=>none
  | _::_=>none
theorem valsOf_eq {w:World}:∀ {cs:List A0} {l us:List Value},valsOf cs=some l→All2 (A0.reads w) cs us→us=l
  | [],l,us,h,ha=>by cases h;cases ha;rfl
  | c :: r, l, us, h, ha => by
    cases ha with
    | cons h1 h2 =>
    cases c with
    | v x =>
      simp only [valsOf] at h
      split at h
      · rename_i l' hl;cases h;rw [valsOf_eq hl h2,show _=x from h1]
      · cases h
    | neg x =>
      simp only [valsOf] at h
      split at h
      · rename_i l' hl;cases h;rw [valsOf_eq hl h2,show _=Value.bool (sgn x) from h1]
      · cases h
    | sl k l'=>cases h
    | mag x=>cases h
def eqCells (ks:List (Option IntKind)) (xs ys:List A0):Option Bool:=match valsOf xs,valsOf ys with
  | some a,some b=>match isKs ks a,isKs ks b with
    | true,true=>some (eqL a b)
    | _,_=>none
  | _,_=>none
def eqOk (P:Program) (T:TypeId) (ks:List (Option IntKind)):Bool:=(match lvs P false 20 T with|some l=>decide (l=ks)|none=>false)&&!P.eqGuardType P.depth T&&isAggT P T&&!ks.isEmpty
def eqS (P:Program) (T:TypeId) (ks:List (Option IntKind)) (h:eqOk P T ks=true):EqT P where
  T:=T
  f:=eqCells ks
  ok := by
    intro xs ys z hz us vs w x y hx hy
    unfold eqOk at h
    simp only [Bool.and_eq_true] at h
    obtain ⟨⟨⟨h1,h2⟩,h3⟩,h4⟩:=h
    split at h1
    · rename_i l hl
      have:=of_decide_eq_true h1
      subst this
      unfold eqCells at hz
      split at hz
      · rename_i a b ha hb
        obtain rfl:=valsOf_eq ha hx
        obtain rfl:=valsOf_eq hb hy
        split at hz
        · rename_i k1 k2
          cases hz
          have hg:P.eqGuardType P.depth T=false:=by simpa using h2
          refine ⟨run_eqGuard_agg w .eql T x y _ _ hg,run_eqGuard_agg w .neq T x y _ _ hg,?_⟩
          unfold isAggT at h3
          split at h3
          · rename_i fs hu
            exact (eq_run 20).1 T l us vs _ _ Op.maxDepth w hl (by cases l with|nil=>cases h4|cons _ _=>simp) k1 k2 (by unfold valOf;rw [hu]) (by unfold valOf;rw [hu]) (by decide)
          · cases h3
        · cases hz
      · cases hz
    · cases h1
end Go.Proofs.YtmnkaldemjdcoaaW.Sx
end
section
set_option linter.unusedVariables false
set_option linter.unusedSimpArgs false
namespace Go.Proofs.Ytmnkaldemjdcoaa.Wh
open Go RowKit YtmnkaldemjdcoaaW.PrintWords YtmnkaldemjdcoaaW.PrintMore YtmnkaldemjdcoaaW.Aid YtmnkaldemjdcoaaW.Big YtmnkaldemjdcoaaW.Sx Ytmnkaldemjdcoaa.BitsWalk Ytmnkaldemjdcoaa.Limbs Ytmnkaldemjdcoaa.Whole Ytmnkaldemjdcoaa.FxWalk Go.Proofs
abbrev tV4 (p:Int × Int × Int × Int):TV := .tup [(true,[.v (.int .i64 p.1),.v (.int .i64 p.2.1),.v (.int .i64 p.2.2.1)]),(false,[.v (.int .i64 p.2.2.2)])]
theorem v4_eq {x y z e:Int} {p:Int × Int × Int × Int} (h:(x,y,z,e)=p):(some (CR.tv (.tup [(true,[.v (.int .i64 x),.v (.int .i64 y),.v (.int .i64 z)]),(false,[.v (.int .i64 e)])])):Option CR)=some (CR.tv (tV4 p)):=by rw [← h]
def vT (a b c:Int):Int × Int × Int × Int:=if (wd a&&(wd b&&wd c))=true then (a,b,c,0) else (0,0,0,2)
theorem tR_bad {a:Int} (h:((toldR a).2 != 0)=true):wd a=false∧(toldR a).2=2:=by
  unfold toldR at *
  by_cases hw:wd a=true
  · rw [if_pos hw] at h;exact absurd (show ((0:Int) != 0)=true from h) (by decide)
  · rw [if_neg hw];exact ⟨by simpa using hw,rfl⟩
theorem tR_ok {a:Int} (h:((toldR a).2 != 0)=false):wd a=true∧(toldR a).1=a:=by
  unfold toldR at *
  by_cases hw:wd a=true
  · rw [if_pos hw];exact ⟨hw,rfl⟩
  · rw [if_neg hw] at h;exact absurd (show ((2:Int) != 0)=false from h) (by decide)
theorem vT_1 {a b c:Int} (h:((toldR a).2 != 0)=true):((0:Int),(0:Int),(0:Int),(toldR a).2)=vT a b c:=by
  obtain ⟨h1,h2⟩:=tR_bad h
  unfold vT;rw [h2,if_neg (by simp [h1])]
theorem vT_2 {a b c:Int} (h:((toldR b).2 != 0)=true):((0:Int),(0:Int),(0:Int),(toldR b).2)=vT a b c:=by
  obtain ⟨h1,h2⟩:=tR_bad h
  unfold vT;rw [h2,if_neg (by simp [h1])]
theorem vT_3 {a b c:Int} (h:((toldR c).2 != 0)=true):((0:Int),(0:Int),(0:Int),(toldR c).2)=vT a b c:=by
  obtain ⟨h1,h2⟩:=tR_bad h
  unfold vT;rw [h2,if_neg (by simp [h1])]
theorem vT_4 {a b c:Int} (h:((toldR a).2 != 0)=false) (h':((toldR b).2 != 0)=false) (h'':((toldR c).2 != 0)=false):((toldR a).1,(toldR b).1,(toldR c).1,(0:Int))=vT a b c:=by
  obtain ⟨h1,h2⟩:=tR_ok h
  obtain ⟨h3,h4⟩:=tR_ok h'
  obtain ⟨h5,h6⟩:=tR_ok h''
  unfold vT;rw [h2,h4,h6,if_pos (by simp [h1,h3,h5])]
abbrev gV (x y z:Int):Bool:=allw [x,y,z]
theorem gV_iff {x y z:Int}:gV x y z=true↔wd x=true∧wd y=true∧wd z=true:=by simp [gV,allw]
theorem gV_bd {a b c:Int} (h:gV a b c=true):(-35184372088832<a∧a<35184372088832)∧(-35184372088832<b∧b<35184372088832)∧(-35184372088832<c∧c<35184372088832):=by
  obtain ⟨h1,h2,h3⟩:=gV_iff.1 h
  exact ⟨wd_iff.1 h1,wd_iff.1 h2,wd_iff.1 h3⟩
theorem and_tt {a b:Bool} (h:a=true) (h':b=true):(a&&b)=true:=by rw [h,h'];rfl
section
set_option maxRecDepth 100000
set_option maxHeartbeats 4000000
def cVOf:Con Try.prog where
  f:=35
  sem:=fun xs=>match xs with
    | [.agg [.v (.int .i64 x),.v (.int .i64 y),.v (.int .i64 z)]]=>some (True,.new 2 3 1 [.v (.int .i64 x),.v (.int .i64 y),.v (.int .i64 z)])
    | _=>none
  ok := by
    intro xs p r' h hp
    refine ⟨⟨_,Try.func35,by kernel_rfl,rfl⟩,fun us w ha=>?_⟩
    split at h
    · rename_i x y z
      cases h
      refine fn_ret (cxOk Try.prog ints_ok [] []) follows Try.func35 rfl 100 _ rfl (by simp) ?_ ha
      repeat' first
        | exact trivial
        | (refine And.intro (show regChk _ _ _ _ _=true from by kernel_rfl) (And.intro ?_ ?_))
        | (refine And.intro (fun _=>?_) (fun h=>absurd (show true=false from h) (by decide)))
        | (refine And.intro (fun h=>absurd (show false=true from h) (by decide)) (fun _=>?_))
        | (refine And.intro (fun hb=>?_) (fun hb'=>?_))
        | refine And.intro ?_ ?_
      all_goals first
        | (show some (CR.new _ _ _ _)=some (CR.new _ _ _ _);rfl)
        | (show (_:Nat)=(_:Nat);rfl)
        | (show (_:Nat)≤1000;decide)
        | (show (_:Int)=(_:Int);rfl)
        | (show (_:Int)≤_;decide)
        | (show (_:Int)<_;decide)
        -- PVC
    · cases h
def cVGood:Con Try.prog where
  f:=31
  sem:=fun xs=>match xs with
    | [.agg [.v (.int .i64 x),.v (.int .i64 y),.v (.int .i64 z)]]=>some (True,.tv (tB (gV x y z)))
    | _=>none
  ok := by
    intro xs p r' h hp
    refine ⟨⟨_,Try.func31,by kernel_rfl,rfl⟩,fun us w ha=>?_⟩
    split at h
    · rename_i x y z
      cases h
      refine fn_ret (cxOk Try.prog ints_ok [] [cAll]) follows Try.func31 rfl 100 _ rfl (by simp) ?_ ha
      repeat' first
        | exact trivial
        | (refine And.intro (show regChk _ _ _ _ _=true from by kernel_rfl) (And.intro ?_ ?_))
        | (refine And.intro (fun _=>?_) (fun h=>absurd (show true=false from h) (by decide)))
        | (refine And.intro (fun h=>absurd (show false=true from h) (by decide)) (fun _=>?_))
        | (refine And.intro (fun hb=>?_) (fun hb'=>?_))
        | refine And.intro ?_ ?_
      all_goals first
        | (show some (CR.tv (tB _))=some (CR.tv (tB _));exact tB_eq rfl)
        | (show (_:Nat)=(_:Nat);rfl)
        | (show (_:Nat)≤1000;decide)
        | (show (_:Int)=(_:Int);rfl)
        | (show (_:Int)≤_;decide)
        | (show (_:Int)<_;decide)
        -- PVC
    · cases h
def cVTold:Con Try.prog where
  f:=57
  sem:=fun xs=>match xs with
    | [.row 3 [.neg a,.mag a',.neg b,.mag b',.neg c,.mag c']]=>some (a'=a∧b'=b∧c'=c,.tv (tV4 (vT a b c)))
    | _=>none
  ok := by
    intro xs p r' h hp
    refine ⟨⟨_,Try.func57,by kernel_rfl,rfl⟩,fun us w ha=>?_⟩
    split at h
    · rename_i a a' b b' c c'
      cases h
      obtain ⟨rfl,rfl,rfl⟩:=hp
      refine fnu_ret (cxOk Try.prog ints_ok [] [cTold]) follows [0,2,3,4,9,10,11] Try.func57 rfl 100 _ rfl (by simp) ?_ ha
      repeat' first
        | exact trivial
        | (refine And.intro (show regChk _ _ _ _ _=true from by kernel_rfl) (And.intro ?_ ?_))
        | (refine And.intro (fun _=>?_) (fun h=>absurd (show true=false from h) (by decide)))
        | (refine And.intro (fun h=>absurd (show false=true from h) (by decide)) (fun _=>?_))
        | (refine And.intro (fun hb=>?_) (fun hb'=>?_))
        | refine And.intro ?_ ?_
      all_goals first
        | (show some (CR.tv (.tup _))=some (CR.tv (tV4 _));first|exact v4_eq (vT_1 (by assumption))|exact v4_eq (vT_2 (by assumption))|exact v4_eq (vT_3 (by assumption))|exact v4_eq (vT_4 (by assumption) (by assumption) (by assumption)))
        | (show (_:Nat)=(_:Nat);rfl)
        | (show (_:Nat)≤1000;decide)
        | (show (_:Int)=(_:Int);rfl)
        | (show (_:Int)≤_;decide)
        | (show (_:Int)<_;decide)
        -- PVC
    · cases h
end
end Go.Proofs.Ytmnkaldemjdcoaa.Wh
end
section
set_option linter.unusedVariables false
set_option linter.unusedSimpArgs false
namespace Go.Proofs.Ytmnkaldemjdcoaa.Wh
open Go RowKit YtmnkaldemjdcoaaW.PrintWords YtmnkaldemjdcoaaW.PrintMore YtmnkaldemjdcoaaW.Aid YtmnkaldemjdcoaaW.Big YtmnkaldemjdcoaaW.Sx Ytmnkaldemjdcoaa.BitsWalk Ytmnkaldemjdcoaa.Limbs Ytmnkaldemjdcoaa.Whole Ytmnkaldemjdcoaa.FxWalk Go.Proofs
theorem len_b4 {x:Int} (h : -1000000000000000000000000000000000000000000000000000000000000000≤x) (h':x≤1000000000000000000000000000000000000000000000000000000000000000):Len0 x:=len_big (k:=4) (by decide) (Nat.lt_of_le_of_lt (show x.natAbs≤1000000000000000000000000000000000000000000000000000000000000000 by omega) (by decide +kernel))
theorem prod_bd {x y:Int} (hx:I64 x) (hy:I64 y) : -85070591730234615865843651857942052864≤x*y∧x*y≤85070591730234615865843651857942052864:=by
  have h1:x.natAbs≤9223372036854775808:=by unfold I64 at hx;omega
  have h2:y.natAbs≤9223372036854775808:=by unfold I64 at hy;omega
  have h3:(x*y).natAbs≤9223372036854775808*9223372036854775808:=by rw [Int.natAbs_mul];exact Nat.mul_le_mul h1 h2
  omega
theorem prodw {x y:Int} (hx:wd x=true) (hy:wd y=true) : -1237940039285380274899124224≤x*y∧x*y≤1237940039285380274899124224:=by
  rw [wd_iff] at hx hy
  have h1:x.natAbs≤35184372088832:=by omega
  have h2:y.natAbs≤35184372088832:=by omega
  have h3:(x*y).natAbs≤35184372088832*35184372088832:=by rw [Int.natAbs_mul];exact Nat.mul_le_mul h1 h2
  omega
theorem i64_wd {x:Int} (h:wd x=true):I64 x:=by rw [wd_iff] at h;unfold I64;omega
theorem lm24 {x:Int} (h:I64 x):(lm x).length<24:=by have:=lm_one x (by unfold I64 at h;omega);omega
theorem len_I {x:Int} (h:I64 x):Len0 x:=len_i64 h.1 h.2
def q30 (n:Int):Int:=roundP n 1073741824
theorem q30_eq (n:Int):roundI n (2 ^ Int.toNat 30)=q30 n:=ri_p (by decide)
def dot3 (a b c d e f:Int):Int:=a*d+b*e+c*f
theorem dot3_eq (a b c d e f:Int):0+a*d+b*e+c*f=dot3 a b c d e f:=by unfold dot3;omega
theorem dot3_wd {a b c d e f:Int} (h:gV a b c=true) (h':gV d e f=true) : -3713820117856140824697372672≤dot3 a b c d e f∧dot3 a b c d e f≤3713820117856140824697372672:=by
  obtain ⟨a1,a2,a3⟩:=gV_iff.1 h
  obtain ⟨b1,b2,b3⟩:=gV_iff.1 h'
  have:=prodw a1 b1
  have:=prodw a2 b2
  have:=prodw a3 b3
  unfold dot3;omega
def guard2 (a b c d e f:Int) (p:Int × Int × Int × Int):Int × Int × Int × Int:=if gV a b c=true∧gV d e f=true then p else (0,0,0,1)
abbrev bad2 (a b c d e f:Int):Bool:=bif !gV a b c then true else !gV d e f
theorem bad2_iff {a b c d e f:Int}:bad2 a b c d e f=false↔gV a b c=true∧gV d e f=true:=by
  unfold bad2;cases gV a b c<;>cases gV d e f<;>simp
theorem g2_bad {a b c d e f:Int} {p:Int × Int × Int × Int} (h:bad2 a b c d e f=true):((0:Int),(0:Int),(0:Int),(1:Int))=guard2 a b c d e f p:=by
  unfold guard2;rw [if_neg (fun hk=>by rw [bad2_iff.2 hk] at h;cases h)]
theorem g2_ok {a b c d e f:Int} {p:Int × Int × Int × Int} (h:bad2 a b c d e f=false):(p.1,p.2.1,p.2.2.1,p.2.2.2)=guard2 a b c d e f p:=by
  unfold guard2;rw [if_pos (bad2_iff.1 h)]
theorem wrap_a {x y:Int} (hx:wd x=true) (hy:wd y=true):IntKind.i64.wrap (x+y)=x+y:=by
  rw [wd_iff] at hx hy;rw [i64_wrap];exact wrap64_id (by omega) (by omega)
theorem wrap_s {x y:Int} (hx:wd x=true) (hy:wd y=true):IntKind.i64.wrap (x-y)=x-y:=by
  rw [wd_iff] at hx hy;rw [i64_wrap];exact wrap64_id (by omega) (by omega)
theorem wrap_I (x:Int) : -9223372036854775808≤IntKind.i64.wrap x∧IntKind.i64.wrap x<9223372036854775808:=by rw [i64_wrap];unfold wrap64;omega
def normR (a b c:Int):Int × Int:=if gV a b c=true then toldR (nearR (dot3 a b c a b c) 1) else (0,1)
theorem norm_bad {a b c:Int} (h:(!gV a b c)=true):((0:Int),(1:Int))=((normR a b c).1,(normR a b c).2):=by
  unfold normR;rw [if_neg (by simpa using h)]
theorem norm_ok {a b c:Int} (h:(!gV a b c)=false):((toldR (nearR (dot3 a b c a b c) 1)).1,(toldR (nearR (dot3 a b c a b c) 1)).2)=((normR a b c).1,(normR a b c).2):=by
  unfold normR;rw [if_pos (by simpa using h)]
theorem nbf {b:Bool} (h:(!b)=false):b=true:=by cases b with|true=>rfl|false=>cases h
theorem sq_nn (x:Int):0≤x*x:=by rcases Int.le_total 0 x with h|h;exact Int.mul_nonneg h h;have:=Int.mul_nonneg (show 0 ≤ -x by omega) (show 0 ≤ -x by omega);rwa [Int.neg_mul_neg] at this
theorem dot_self {a b c:Int}:0≤dot3 a b c a b c:=by
  have:=sq_nn a;have:=sq_nn b;have:=sq_nn c;unfold dot3;omega
def addV (a b c d e f:Int):Int × Int × Int × Int:=guard2 a b c d e f (vT (a+d) (b+e) (c+f))
def subV (a b c d e f:Int):Int × Int × Int × Int:=guard2 a b c d e f (vT (a-d) (b-e) (c-f))
section
set_option maxRecDepth 100000
set_option maxHeartbeats 4000000
def cTimes:Con Try.prog where
  f:=56
  sem:=fun xs=>match xs with
    | [.sc (.v (.int .i64 x)),.sc (.v (.int .i64 y))]=>some (I64 x∧I64 y,.tv (tI (x*y)))
    | _=>none
  ok := by
    intro xs p r' h hp
    refine ⟨⟨_,Try.func56,by kernel_rfl,rfl⟩,fun us w ha=>?_⟩
    split at h
    · rename_i x y
      cases h
      obtain ⟨hx,hy⟩:=hp
      have hx1:=hx.1
      have hx2:=hx.2
      have hy1:=hy.1
      have hy2:=hy.2
      refine fn_ret (cxOk Try.prog ints_ok [] [cMul,cFrom]) follows Try.func56 rfl 100 _ rfl (by simp) ?_ ha
      repeat' first
        | exact trivial
        | (refine And.intro (show regChk _ _ _ _ _=true from by kernel_rfl) (And.intro ?_ ?_))
        | (refine And.intro (fun _=>?_) (fun h=>absurd (show true=false from h) (by decide)))
        | (refine And.intro (fun h=>absurd (show false=true from h) (by decide)) (fun _=>?_))
        | (refine And.intro (fun hb=>?_) (fun hb'=>?_))
        | refine And.intro ?_ ?_
      all_goals first
        | (show Len0 _;exact len_I hx)
        | exact lm24 hy
        | (show (_:Int)≤_;omega)
        | (show (_:Int)<_;omega)
        | exact hx.1
        | exact hx.2
        | exact hy.1
        | exact hy.2
        | (show some (CR.tv (tI _))=some (CR.tv (tI _));rfl)
        | (show (_:Nat)=(_:Nat);rfl)
        | (show (_:Nat)≤1000;decide)
        | (show (_:Int)=(_:Int);rfl)
        | (show (_:Int)≤_;decide)
        | (show (_:Int)<_;decide)
        -- PVC
    · cases h
def cShifted:Con Try.prog where
  f:=54
  sem:=fun xs=>match xs with
    | [.agg [.neg n,.mag n']]=>some (n'=n∧Len0 n,.tv (tI (q30 n)))
    | _=>none
  ok := by
    intro xs p r' h hp
    refine ⟨⟨_,Try.func54,by kernel_rfl,rfl⟩,fun us w ha=>?_⟩
    split at h
    · rename_i n n'
      cases h
      obtain ⟨rfl,hn⟩:=hp
      refine fn_ret (cxOk Try.prog ints_ok [] [cRound,cPower]) follows Try.func54 rfl 100 _ rfl (by simp) ?_ ha
      repeat' first
        | exact trivial
        | (refine And.intro (show regChk _ _ _ _ _=true from by kernel_rfl) (And.intro ?_ ?_))
        | (refine And.intro (fun _=>?_) (fun h=>absurd (show true=false from h) (by decide)))
        | (refine And.intro (fun h=>absurd (show false=true from h) (by decide)) (fun _=>?_))
        | (refine And.intro (fun hb=>?_) (fun hb'=>?_))
        | refine And.intro ?_ ?_
      all_goals first
        | (show Len0 _;exact hn)
        | (show (_:Int)≠0;decide)
        | (show Int.natAbs _<(_:Nat);decide)
        | (show some (CR.tv (tI _))=some (CR.tv (tI _));exact wh_eq (q30_eq _))
        | (show (_:Nat)=(_:Nat);rfl)
        | (show (_:Nat)≤1000;decide)
        | (show (_:Int)=(_:Int);rfl)
        | (show (_:Int)≤_;decide)
        | (show (_:Int)<_;decide)
        -- PVC
    · cases h
def cCloAdd:Con Try.prog where
  f:=47
  sem:=fun xs=>match xs with
    | [.sc (.v (.int .i64 x)),.sc (.v (.int .i64 y))]=>some (wd x=true∧wd y=true,.tv (tI (x+y)))
    | _=>none
  ok := by
    intro xs p r' h hp
    refine ⟨⟨_,Try.func47,by kernel_rfl,rfl⟩,fun us w ha=>?_⟩
    split at h
    · rename_i x y
      cases h
      obtain ⟨hx,hy⟩:=hp
      refine fn_ret (cxOk Try.prog ints_ok [] [cFrom]) follows Try.func47 rfl 100 _ rfl (by simp) ?_ ha
      repeat' first
        | exact trivial
        | (refine And.intro (show regChk _ _ _ _ _=true from by kernel_rfl) (And.intro ?_ ?_))
        | (refine And.intro (fun _=>?_) (fun h=>absurd (show true=false from h) (by decide)))
        | (refine And.intro (fun h=>absurd (show false=true from h) (by decide)) (fun _=>?_))
        | (refine And.intro (fun hb=>?_) (fun hb'=>?_))
        | refine And.intro ?_ ?_
      all_goals first
        | exact (wrap_I _).1
        | exact (wrap_I _).2
        | (show some (CR.tv (tI _))=some (CR.tv (tI _));exact wh_eq (wrap_a hx hy))
        | (show (_:Nat)=(_:Nat);rfl)
        | (show (_:Nat)≤1000;decide)
        | (show (_:Int)=(_:Int);rfl)
        | (show (_:Int)≤_;decide)
        | (show (_:Int)<_;decide)
        -- PVC
    · cases h
def cCloSub:Con Try.prog where
  f:=49
  sem:=fun xs=>match xs with
    | [.sc (.v (.int .i64 x)),.sc (.v (.int .i64 y))]=>some (wd x=true∧wd y=true,.tv (tI (x-y)))
    | _=>none
  ok := by
    intro xs p r' h hp
    refine ⟨⟨_,Try.func49,by kernel_rfl,rfl⟩,fun us w ha=>?_⟩
    split at h
    · rename_i x y
      cases h
      obtain ⟨hx,hy⟩:=hp
      refine fn_ret (cxOk Try.prog ints_ok [] [cFrom]) follows Try.func49 rfl 100 _ rfl (by simp) ?_ ha
      repeat' first
        | exact trivial
        | (refine And.intro (show regChk _ _ _ _ _=true from by kernel_rfl) (And.intro ?_ ?_))
        | (refine And.intro (fun _=>?_) (fun h=>absurd (show true=false from h) (by decide)))
        | (refine And.intro (fun h=>absurd (show false=true from h) (by decide)) (fun _=>?_))
        | (refine And.intro (fun hb=>?_) (fun hb'=>?_))
        | refine And.intro ?_ ?_
      all_goals first
        | exact (wrap_I _).1
        | exact (wrap_I _).2
        | (show some (CR.tv (tI _))=some (CR.tv (tI _));exact wh_eq (wrap_s hx hy))
        | (show (_:Nat)=(_:Nat);rfl)
        | (show (_:Nat)≤1000;decide)
        | (show (_:Int)=(_:Int);rfl)
        | (show (_:Int)≤_;decide)
        | (show (_:Int)<_;decide)
        -- PVC
    · cases h
def cEachT:Con Try.prog where
  f:=74
  sem:=fun xs=>match xs with
    | [.row 3 [.v (.int .i64 a),.v (.int .i64 b),.v (.int .i64 c)],.row 3 [.v (.int .i64 d),.v (.int .i64 e),.v (.int .i64 f)],.clo g []]=>if g=56 then some ((I64 a∧I64 d)∧(I64 b∧I64 e)∧(I64 c∧I64 f),.new 57 3 2 [.neg (a*d),.mag (a*d),.neg (b*e),.mag (b*e),.neg (c*f),.mag (c*f)]) else none
    | _=>none
  ok := by
    intro xs p r' h hp
    refine ⟨⟨_,Try.func74,by kernel_rfl,rfl⟩,fun us w ha=>?_⟩
    split at h
    · rename_i a b c d e f g
      split at h
      case isFalse=>cases h
      rename_i hf
      subst hf
      cases h
      obtain ⟨⟨h1,h2⟩,⟨h3,h4⟩,h5,h6⟩:=hp
      have g11:=h1.1
      have g12:=h1.2
      have g21:=h2.1
      have g22:=h2.2
      have g31:=h3.1
      have g32:=h3.2
      have g41:=h4.1
      have g42:=h4.2
      have g51:=h5.1
      have g52:=h5.2
      have g61:=h6.1
      have g62:=h6.2
      refine fnu_ret (cxOk Try.prog ints_ok [] [cTimes]) follows [0,1,2,6,9,10,11] Try.func74 rfl 100 _ rfl (by simp) ?_ ha
      repeat' first
        | exact trivial
        | (refine And.intro (show regChk _ _ _ _ _=true from by kernel_rfl) (And.intro ?_ ?_))
        | (refine And.intro (fun _=>?_) (fun h=>absurd (show true=false from h) (by decide)))
        | (refine And.intro (fun h=>absurd (show false=true from h) (by decide)) (fun _=>?_))
        | (refine And.intro (fun hb=>?_) (fun hb'=>?_))
        | refine And.intro ?_ ?_
      all_goals first
        | (show (_:Int)≤_;first|omega|decide)
        | (show (_:Int)<_;first|omega|decide)
        | (show some (CR.new _ _ _ _)=some (CR.new _ _ _ _);rfl)
        | exact h1
        | exact h2
        | exact h3
        | exact h4
        | exact h5
        | exact h6
        | (show (_:Nat)=(_:Nat);rfl)
        | (show (_:Nat)≤1000;decide)
        | (show (_:Int)=(_:Int);rfl)
        | (show (_:Int)≤_;decide)
        | (show (_:Int)<_;decide)
        -- PVC
    · cases h
def cEachAdd:Con Try.prog where
  f:=74
  sem:=fun xs=>match xs with
    | [.row 3 [.v (.int .i64 a),.v (.int .i64 b),.v (.int .i64 c)],.row 3 [.v (.int .i64 d),.v (.int .i64 e),.v (.int .i64 f)],.clo g []]=>if g=47 then some ((wd a=true∧wd d=true)∧(wd b=true∧wd e=true)∧(wd c=true∧wd f=true),.new 57 3 2 [.neg (a+d),.mag (a+d),.neg (b+e),.mag (b+e),.neg (c+f),.mag (c+f)]) else none
    | _=>none
  ok := by
    intro xs p r' h hp
    refine ⟨⟨_,Try.func74,by kernel_rfl,rfl⟩,fun us w ha=>?_⟩
    split at h
    · rename_i a b c d e f g
      split at h
      case isFalse=>cases h
      rename_i hf
      subst hf
      cases h
      obtain ⟨⟨h1,h2⟩,⟨h3,h4⟩,h5,h6⟩:=hp
      refine fnu_ret (cxOk Try.prog ints_ok [] [cCloAdd]) follows [0,1,2,6,9,10,11] Try.func74 rfl 100 _ rfl (by simp) ?_ ha
      repeat' first
        | exact trivial
        | (refine And.intro (show regChk _ _ _ _ _=true from by kernel_rfl) (And.intro ?_ ?_))
        | (refine And.intro (fun _=>?_) (fun h=>absurd (show true=false from h) (by decide)))
        | (refine And.intro (fun h=>absurd (show false=true from h) (by decide)) (fun _=>?_))
        | (refine And.intro (fun hb=>?_) (fun hb'=>?_))
        | refine And.intro ?_ ?_
      all_goals first
        | (show some (CR.new _ _ _ _)=some (CR.new _ _ _ _);rfl)
        | exact h1
        | exact h2
        | exact h3
        | exact h4
        | exact h5
        | exact h6
        | (show (_:Nat)=(_:Nat);rfl)
        | (show (_:Nat)≤1000;decide)
        | (show (_:Int)=(_:Int);rfl)
        | (show (_:Int)≤_;decide)
        | (show (_:Int)<_;decide)
        -- PVC
    · cases h
def cTwoAdd:Con Try.prog where
  f:=46
  sem:=fun xs=>match xs with
    | [.agg [.v (.int .i64 a),.v (.int .i64 b),.v (.int .i64 c)],.agg [.v (.int .i64 d),.v (.int .i64 e),.v (.int .i64 f)],.clo g []]=>if g=47 then some (True,.tv (tV4 (addV a b c d e f))) else none
    | _=>none
  ok := by
    intro xs p r' h hp
    refine ⟨⟨_,Try.func46,by kernel_rfl,rfl⟩,fun us w ha=>?_⟩
    split at h
    · rename_i a b c d e f g
      split at h
      case isFalse=>cases h
      rename_i hf
      subst hf
      cases h
      refine fn_ret (cxOk Try.prog ints_ok [] [cVGood,cVOf,cEachAdd,cVTold]) follows Try.func46 rfl 100 _ rfl (by simp) ?_ ha
      repeat' first
        | exact trivial
        | (refine And.intro (show regChk _ _ _ _ _=true from by kernel_rfl) (And.intro ?_ ?_))
        | (refine And.intro (fun _=>?_) (fun h=>absurd (show true=false from h) (by decide)))
        | (refine And.intro (fun h=>absurd (show false=true from h) (by decide)) (fun _=>?_))
        | (refine And.intro (fun hb=>?_) (fun hb'=>?_))
        | refine And.intro ?_ ?_
        | intro _
      all_goals first
        | (show some (CR.tv (.tup _))=some (CR.tv (tV4 _));first|exact v4_eq (g2_bad (by assumption))|exact v4_eq (g2_ok (by assumption)))
        | (show wd _=true;have hk:=bad2_iff.1 (show bad2 a b c d e f=false from by assumption);first|exact (gV_iff.1 hk.1).1|exact (gV_iff.1 hk.1).2.1|exact (gV_iff.1 hk.1).2.2|exact (gV_iff.1 hk.2).1|exact (gV_iff.1 hk.2).2.1|exact (gV_iff.1 hk.2).2.2)
        | (show (_:Bool)=(_:Bool);first|assumption|exact beq_iff_eq.2 (by assumption)|(exact and_tt (by first|assumption|exact beq_iff_eq.2 (by assumption)) (by first|assumption|exact beq_iff_eq.2 (by assumption))))
        | (show (_:Nat)=(_:Nat);rfl)
        | (show (_:Nat)≤1000;decide)
        | (show (_:Int)=(_:Int);rfl)
        | (show (_:Int)≤_;decide)
        | (show (_:Int)<_;decide)
        -- PVC
    · cases h
def cEachSub:Con Try.prog where
  f:=74
  sem:=fun xs=>match xs with
    | [.row 3 [.v (.int .i64 a),.v (.int .i64 b),.v (.int .i64 c)],.row 3 [.v (.int .i64 d),.v (.int .i64 e),.v (.int .i64 f)],.clo g []]=>if g=49 then some ((wd a=true∧wd d=true)∧(wd b=true∧wd e=true)∧(wd c=true∧wd f=true),.new 57 3 2 [.neg (a-d),.mag (a-d),.neg (b-e),.mag (b-e),.neg (c-f),.mag (c-f)]) else none
    | _=>none
  ok := by
    intro xs p r' h hp
    refine ⟨⟨_,Try.func74,by kernel_rfl,rfl⟩,fun us w ha=>?_⟩
    split at h
    · rename_i a b c d e f g
      split at h
      case isFalse=>cases h
      rename_i hf
      subst hf
      cases h
      obtain ⟨⟨h1,h2⟩,⟨h3,h4⟩,h5,h6⟩:=hp
      refine fnu_ret (cxOk Try.prog ints_ok [] [cCloSub]) follows [0,1,2,6,9,10,11] Try.func74 rfl 100 _ rfl (by simp) ?_ ha
      repeat' first
        | exact trivial
        | (refine And.intro (show regChk _ _ _ _ _=true from by kernel_rfl) (And.intro ?_ ?_))
        | (refine And.intro (fun _=>?_) (fun h=>absurd (show true=false from h) (by decide)))
        | (refine And.intro (fun h=>absurd (show false=true from h) (by decide)) (fun _=>?_))
        | (refine And.intro (fun hb=>?_) (fun hb'=>?_))
        | refine And.intro ?_ ?_
      all_goals first
        | (show some (CR.new _ _ _ _)=some (CR.new _ _ _ _);rfl)
        | exact h1
        | exact h2
        | exact h3
        | exact h4
        | exact h5
        | exact h6
        | (show (_:Nat)=(_:Nat);rfl)
        | (show (_:Nat)≤1000;decide)
        | (show (_:Int)=(_:Int);rfl)
        | (show (_:Int)≤_;decide)
        | (show (_:Int)<_;decide)
        -- PVC
    · cases h
def cTwoSub:Con Try.prog where
  f:=46
  sem:=fun xs=>match xs with
    | [.agg [.v (.int .i64 a),.v (.int .i64 b),.v (.int .i64 c)],.agg [.v (.int .i64 d),.v (.int .i64 e),.v (.int .i64 f)],.clo g []]=>if g=49 then some (True,.tv (tV4 (subV a b c d e f))) else none
    | _=>none
  ok := by
    intro xs p r' h hp
    refine ⟨⟨_,Try.func46,by kernel_rfl,rfl⟩,fun us w ha=>?_⟩
    split at h
    · rename_i a b c d e f g
      split at h
      case isFalse=>cases h
      rename_i hf
      subst hf
      cases h
      refine fn_ret (cxOk Try.prog ints_ok [] [cVGood,cVOf,cEachSub,cVTold]) follows Try.func46 rfl 100 _ rfl (by simp) ?_ ha
      repeat' first
        | exact trivial
        | (refine And.intro (show regChk _ _ _ _ _=true from by kernel_rfl) (And.intro ?_ ?_))
        | (refine And.intro (fun _=>?_) (fun h=>absurd (show true=false from h) (by decide)))
        | (refine And.intro (fun h=>absurd (show false=true from h) (by decide)) (fun _=>?_))
        | (refine And.intro (fun hb=>?_) (fun hb'=>?_))
        | refine And.intro ?_ ?_
        | intro _
      all_goals first
        | (show some (CR.tv (.tup _))=some (CR.tv (tV4 _));first|exact v4_eq (g2_bad (by assumption))|exact v4_eq (g2_ok (by assumption)))
        | (show wd _=true;have hk:=bad2_iff.1 (show bad2 a b c d e f=false from by assumption);first|exact (gV_iff.1 hk.1).1|exact (gV_iff.1 hk.1).2.1|exact (gV_iff.1 hk.1).2.2|exact (gV_iff.1 hk.2).1|exact (gV_iff.1 hk.2).2.1|exact (gV_iff.1 hk.2).2.2)
        | (show (_:Bool)=(_:Bool);first|assumption|exact beq_iff_eq.2 (by assumption)|(exact and_tt (by first|assumption|exact beq_iff_eq.2 (by assumption)) (by first|assumption|exact beq_iff_eq.2 (by assumption))))
        | (show (_:Nat)=(_:Nat);rfl)
        | (show (_:Nat)≤1000;decide)
        | (show (_:Int)=(_:Int);rfl)
        | (show (_:Int)≤_;decide)
        | (show (_:Int)<_;decide)
        -- PVC
    · cases h
def cVAdd:Con Try.prog where
  f:=17
  sem:=fun xs=>match xs with
    | [.agg [.v (.int .i64 a),.v (.int .i64 b),.v (.int .i64 c)],.agg [.v (.int .i64 d),.v (.int .i64 e),.v (.int .i64 f)]]=>some (True,.tv (tV4 (addV a b c d e f)))
    | _=>none
  ok := by
    intro xs p r' h hp
    refine ⟨⟨_,Try.func17,by kernel_rfl,rfl⟩,fun us w ha=>?_⟩
    split at h
    · rename_i a b c d e f
      cases h
      refine fn_ret (cxOk Try.prog ints_ok [] [cTwoAdd]) follows Try.func17 rfl 100 _ rfl (by simp) ?_ ha
      repeat' first
        | exact trivial
        | (refine And.intro (show regChk _ _ _ _ _=true from by kernel_rfl) (And.intro ?_ ?_))
        | (refine And.intro (fun _=>?_) (fun h=>absurd (show true=false from h) (by decide)))
        | (refine And.intro (fun h=>absurd (show false=true from h) (by decide)) (fun _=>?_))
        | (refine And.intro (fun hb=>?_) (fun hb'=>?_))
        | refine And.intro ?_ ?_
      all_goals first
        | (show some (CR.tv (.tup _))=some (CR.tv (tV4 _));rfl)
        | (show (_:Nat)=(_:Nat);rfl)
        | (show (_:Nat)≤1000;decide)
        | (show (_:Int)=(_:Int);rfl)
        | (show (_:Int)≤_;decide)
        | (show (_:Int)<_;decide)
        -- PVC
    · cases h
def cVSub:Con Try.prog where
  f:=18
  sem:=fun xs=>match xs with
    | [.agg [.v (.int .i64 a),.v (.int .i64 b),.v (.int .i64 c)],.agg [.v (.int .i64 d),.v (.int .i64 e),.v (.int .i64 f)]]=>some (True,.tv (tV4 (subV a b c d e f)))
    | _=>none
  ok := by
    intro xs p r' h hp
    refine ⟨⟨_,Try.func18,by kernel_rfl,rfl⟩,fun us w ha=>?_⟩
    split at h
    · rename_i a b c d e f
      cases h
      refine fn_ret (cxOk Try.prog ints_ok [] [cTwoSub]) follows Try.func18 rfl 100 _ rfl (by simp) ?_ ha
      repeat' first
        | exact trivial
        | (refine And.intro (show regChk _ _ _ _ _=true from by kernel_rfl) (And.intro ?_ ?_))
        | (refine And.intro (fun _=>?_) (fun h=>absurd (show true=false from h) (by decide)))
        | (refine And.intro (fun h=>absurd (show false=true from h) (by decide)) (fun _=>?_))
        | (refine And.intro (fun hb=>?_) (fun hb'=>?_))
        | refine And.intro ?_ ?_
      all_goals first
        | (show some (CR.tv (.tup _))=some (CR.tv (tV4 _));rfl)
        | (show (_:Nat)=(_:Nat);rfl)
        | (show (_:Nat)≤1000;decide)
        | (show (_:Int)=(_:Int);rfl)
        | (show (_:Int)≤_;decide)
        | (show (_:Int)<_;decide)
        -- PVC
    · cases h
def cVNeg:Con Try.prog where
  f:=25
  sem:=fun xs=>match xs with
    | [.agg [.v (.int .i64 a),.v (.int .i64 b),.v (.int .i64 c)]]=>some (True,.tv (tV4 (subV 0 0 0 a b c)))
    | _=>none
  ok := by
    intro xs p r' h hp
    refine ⟨⟨_,Try.func25,by kernel_rfl,rfl⟩,fun us w ha=>?_⟩
    split at h
    · rename_i a b c
      cases h
      refine fn_ret (cxOk Try.prog ints_ok [] [cVSub]) follows Try.func25 rfl 100 _ rfl (by simp) ?_ ha
      repeat' first
        | exact trivial
        | (refine And.intro (show regChk _ _ _ _ _=true from by kernel_rfl) (And.intro ?_ ?_))
        | (refine And.intro (fun _=>?_) (fun h=>absurd (show true=false from h) (by decide)))
        | (refine And.intro (fun h=>absurd (show false=true from h) (by decide)) (fun _=>?_))
        | (refine And.intro (fun hb=>?_) (fun hb'=>?_))
        | refine And.intro ?_ ?_
      all_goals first
        | (show some (CR.tv (.tup _))=some (CR.tv (tV4 _));rfl)
        | (show (_:Nat)=(_:Nat);rfl)
        | (show (_:Nat)≤1000;decide)
        | (show (_:Int)=(_:Int);rfl)
        | (show (_:Int)≤_;decide)
        | (show (_:Int)<_;decide)
        -- PVC
    · cases h
def cSum:Con Try.prog where
  f:=34
  sem:=fun xs=>match xs with
    | [.row 3 [.v (.int .i64 a),.v (.int .i64 b),.v (.int .i64 c)],.row 3 [.v (.int .i64 d),.v (.int .i64 e),.v (.int .i64 f)]]=>some ((I64 a∧I64 d)∧(I64 b∧I64 e)∧(I64 c∧I64 f),.tv (tI (dot3 a b c d e f)))
    | _=>none
  ok := by
    intro xs p r' h hp
    refine ⟨⟨_,Try.func34,by kernel_rfl,rfl⟩,fun us w ha=>?_⟩
    split at h
    · rename_i a b c d e f
      cases h
      obtain ⟨⟨h1,h2⟩,⟨h3,h4⟩,h5,h6⟩:=hp
      have p1:=prod_bd h1 h2
      have p2:=prod_bd h3 h4
      have p3:=prod_bd h5 h6
      have g11:=h1.1
      have g12:=h1.2
      have g21:=h2.1
      have g22:=h2.2
      have g31:=h3.1
      have g32:=h3.2
      have g41:=h4.1
      have g42:=h4.2
      have g51:=h5.1
      have g52:=h5.2
      have g61:=h6.1
      have g62:=h6.2
      refine fnu_ret (cxOk Try.prog ints_ok [] [cEachT,cAdd]) follows [4,9,10,11] Try.func34 rfl 100 _ rfl (by simp) ?_ ha
      repeat' first
        | exact trivial
        | (refine And.intro (show regChk _ _ _ _ _=true from by kernel_rfl) (And.intro ?_ ?_))
        | (refine And.intro (fun _=>?_) (fun h=>absurd (show true=false from h) (by decide)))
        | (refine And.intro (fun h=>absurd (show false=true from h) (by decide)) (fun _=>?_))
        | (refine And.intro (fun hb=>?_) (fun hb'=>?_))
        | refine And.intro ?_ ?_
      all_goals first
        | (show (_:Int)≤_;first|omega|decide)
        | (show (_:Int)<_;first|omega|decide)
        | exact h1
        | exact h2
        | exact h3
        | exact h4
        | exact h5
        | exact h6
        | (show Len0 _;exact len_b4 (by omega) (by omega))
        | (show some (CR.tv (tI _))=some (CR.tv (tI _));exact wh_eq (dot3_eq _ _ _ _ _ _))
        | (show (_:Nat)=(_:Nat);rfl)
        | (show (_:Nat)≤1000;decide)
        | (show (_:Int)=(_:Int);rfl)
        | (show (_:Int)≤_;decide)
        | (show (_:Int)<_;decide)
        -- PVC
    · cases h
def cNorm:Con Try.prog where
  f:=10
  sem:=fun xs=>match xs with
    | [.agg [.v (.int .i64 a),.v (.int .i64 b),.v (.int .i64 c)]]=>some (True,.tv (tNN (normR a b c).1 (normR a b c).2))
    | _=>none
  ok := by
    intro xs p r' h hp
    refine ⟨⟨_,Try.func10,by kernel_rfl,rfl⟩,fun us w ha=>?_⟩
    split at h
    · rename_i a b c
      cases h
      refine fn_ret (cxOk Try.prog ints_ok [] [cVGood,cVOf,cSum,cOne,cNearest,cTold]) follows Try.func10 rfl 100 _ rfl (by simp) ?_ ha
      repeat' first
        | exact trivial
        | (refine And.intro (show regChk _ _ _ _ _=true from by kernel_rfl) (And.intro ?_ ?_))
        | (refine And.intro (fun _=>?_) (fun h=>absurd (show true=false from h) (by decide)))
        | (refine And.intro (fun h=>absurd (show false=true from h) (by decide)) (fun _=>?_))
        | (refine And.intro (fun hb=>?_) (fun hb'=>?_))
        | refine And.intro ?_ ?_
      all_goals first
        | (show some (CR.tv (tNN _ _))=some (CR.tv (tNN _ _));first|exact nn_eq (norm_bad (by assumption))|exact nn_eq (norm_ok (by assumption)))
        | (show (0:Int)≤dot3 _ _ _ _ _ _;exact dot_self)
        | (show dot3 _ _ _ _ _ _<(_:Int);have hk:gV a b c=true:=nbf (show (!gV a b c)=false from by assumption);have:=dot3_wd hk hk;omega)
        | (show (_:Int)≤_;have hk:gV a b c=true:=nbf (show (!gV a b c)=false from by assumption);have hl:=gV_bd hk;omega)
        | (show (_:Int)<_;have hk:gV a b c=true:=nbf (show (!gV a b c)=false from by assumption);have hl:=gV_bd hk;omega)
        | (show (_:Nat)=(_:Nat);rfl)
        | (show (_:Nat)≤1000;decide)
        | (show (_:Int)=(_:Int);rfl)
        | (show (_:Int)≤_;decide)
        | (show (_:Int)<_;decide)
        -- PVC
    · cases h
end
end Go.Proofs.Ytmnkaldemjdcoaa.Wh
end
section
set_option linter.unusedVariables false
set_option linter.unusedSimpArgs false
namespace Go.Proofs.YtmnkaldemjdcoaaW.Sx
open Go RowKit YtmnkaldemjdcoaaW.PrintWords YtmnkaldemjdcoaaW.PrintMore YtmnkaldemjdcoaaW.Aid YtmnkaldemjdcoaaW.Big
def wfV:Value→Bool
  | .int k n=>(Lit.int k n).wf
  | _=>true
def okV (ks:List (Option IntKind)) (xs:List Value):Prop:=isKs ks xs=true∧∀ x∈xs,wfV x=true
theorem isKs_app:∀ {ks ks':List (Option IntKind)} {xs ys:List Value},isKs ks xs=true→isKs ks' ys=true→isKs (ks++ks') (xs++ys)=true
  | [],ks',[],ys,_,h=>h
  | k::ks,ks',x::xs,ys,h,h'=>by
    simp only [isKs,Bool.and_eq_true] at h
    simp only [List.cons_append,isKs,h.1,isKs_app h.2 h',Bool.and_self]
  | [],_,_::_,_,h,_=>by cases h
  | _::_,_,[],_,h,_=>by cases h
theorem okV_app {ks ks':List (Option IntKind)} {xs ys:List Value} (h:okV ks xs) (h':okV ks' ys):okV (ks++ks') (xs++ys) :=
  ⟨isKs_app h.1 h'.1,fun x hx=>(List.mem_append.1 hx).elim (h.2 x) (h'.2 x)⟩
section
variable {H:Type} {enc:TypeId × Value→H} {P:Program} {w:World} {base:Nat} {spare:Nat→Bool} {held:Bool}
theorem rep_take (ks:List (Option IntKind)):∀ (n:Nat) (xs:List Value),xs.length=(rep ks n).length→(∀ i,i<n→okV ks ((xs.drop (i*ks.length)).take ks.length))→okV (rep ks n) xs
  | 0,xs,hl,_=>by
    cases xs with
    | nil=>exact ⟨rfl,fun _ h=>by cases h⟩
    | cons _ _=>simp [rep] at hl
  | n + 1, xs, hl, h => by
    have h0:=h 0 (by omega)
    rw [Nat.zero_mul,List.drop_zero] at h0
    have hl':xs.length=ks.length+(rep ks n).length:=by rw [hl,rep,List.length_append]
    have ih:=rep_take ks n (xs.drop ks.length) (by rw [List.length_drop];omega) (fun i hi=>by
      have:=h (i+1) (by omega)
      rw [List.drop_drop,show ks.length+i*ks.length=(i+1)*ks.length by rw [Nat.add_mul,Nat.one_mul];omega]
      exact this)
    have:=okV_app h0 ih
    rw [List.take_append_drop] at this
    exact this
theorem flat_trod (arr:Bool):∀ (d:Nat),(∀ (T:TypeId) (ks:List (Option IntKind)) (fuel:Nat) (cs:List Value) (x:DataW H × List MemPlace),lvs P arr d T=some ks→DataW.trod enc P w base spare held fuel T cs=some x→okV ks cs) ∧
    (∀ (fs:List Field) (off:Nat) (ks:List (Option IntKind)) (n:Nat) (cs:List Value) (ys:List (DataW H × List MemPlace)),lvsF P arr d fs off=some ks→cs.length=off+ks.length→ys.length=fs.length →
      (∀ (i:Nat) (f:Field),fs[i]?=some f→DataW.trod enc P w base spare held n f.type ((cs.drop f.offset).take (P.cellsOf f.type))=ys[i]?)→okV ks (cs.drop off)):=by
  intro d
  induction d with
  | zero =>
    refine ⟨fun T ks fuel cs x h=>(by cases h),fun fs off ks n cs ys h hl hy _=>?_⟩
    cases fs with
    | nil =>
      cases h
      rw [List.drop_of_length_le (by simp at hl;omega)]
      exact ⟨rfl,fun _ h=>by cases h⟩
    | cons f fs=>cases h
  | succ d ih =>
    obtain ⟨ih1,ih2⟩:=ih
    constructor
    · intro T ks fuel cs x h hx
      rw [lvs] at h
      split at h
      · rename_i k inf hu hi
        split at h
        case isFalse=>cases h
        cases h
        obtain ⟨n,rfl,_,hw⟩:=DataW.trod_int hu hx
        exact ⟨by simp [isKs,isK],fun y hy=>by rw [List.mem_singleton.1 hy];exact hw⟩
      · rename_i inf hu hi
        split at h
        case isFalse=>cases h
        cases h
        obtain ⟨n,rfl,_⟩:=DataW.trod_bool hu hx
        exact ⟨rfl,fun y hy=>by rw [List.mem_singleton.1 hy];rfl⟩
      · rename_i fs inf hu hi
        split at h
        · cases h
        · split at h
          · rename_i ks' hf
            split at h
            · rename_i hs
              cases h
              obtain ⟨ys,n,_,rfl,hcl,hyl,hg⟩:=DataW.trod_struct hu hx
              have hcl':cs.length=0+ks.length:=by
                rw [hcl];unfold Program.cellsOf;rw [hi];simpa using hs
              have:=ih2 fs.toList 0 ks n cs ys hf hcl' (by simpa using hyl) (fun i f hf=>hg i f (by simpa using hf))
              rwa [List.drop_zero] at this
            · cases h
          · cases h
      · rename_i n e inf hu hi
        split at h
        · split at h
          · rename_i ks' he
            split at h
            · rename_i hs
              cases h
              obtain ⟨ys,m,_,rfl,hcl,hyl,hg⟩:=DataW.trod_array hu hx
              have hce:=lvs_cells he
              rw [hce] at hg
              refine rep_take ks' n cs (by rw [hcl];unfold Program.cellsOf;rw [hi];simpa using hs) (fun i hi=>?_)
              obtain ⟨y,hy⟩:∃ y,ys[i]?=some y:=⟨ys[i],by simp⟩
              exact ih1 e ks' m _ y he (by rw [hg i hi,hy])
            · cases h
          · cases h
        · cases h
      · cases h
    · intro fs off ks n cs ys h hl hy hg
      cases fs with
      | nil =>
        cases h
        rw [List.drop_of_length_le (by simp at hl;omega)]
        exact ⟨rfl,fun _ h=>by cases h⟩
      | cons f fs =>
        rw [lvsF] at h
        split at h
        · cases h
        · rename_i hc
          have hoff:f.offset=off:=Decidable.byContradiction fun e=>hc (Or.inr e)
          split at h
          · rename_i k ks1 hl1
            split at h
            · rename_i r hr
              cases h
              match ys,hy with
              | y::ys,hy =>
                have h1:=hg 0 f rfl
                rw [hoff,lvs_cells hl1] at h1
                have g1:=ih1 f.type _ n _ y hl1 h1
                have g2:=ih2 fs (off+(k::ks1).length) r n cs ys hr (by rw [hl];simp;omega) (by simpa using hy) (fun i f' hf=>hg (i+1) f' (by simpa using hf))
                have:=okV_app g1 g2
                rw [← List.drop_drop,List.take_append_drop] at this
                exact this
            · cases h
          · cases h
def gI (f:Nat→List Value) (i j:Nat):Int:=match (f j)[i]? with
  | some (.int _ n)=>n
  | _=>0
def gB (f:Nat→List Value) (i j:Nat):Bool:=match (f j)[i]? with
  | some (.bool b)=>b
  | _=>false
def cellsG (f:Nat→List Value) (j:Nat):Nat→List (Option IntKind)→List A0
  | _,[]=>[]
  | i,some k::ks => .v (.int k (gI f i j))::cellsG f j (i+1) ks
  | i,none::ks => .v (.bool (gB f i j))::cellsG f j (i+1) ks
theorem cellsG_eq (f:Nat→List Value) (j:Nat):∀ (ks:List (Option IntKind)) (i:Nat),isKs ks ((f j).drop i)=true→cellsG f j i ks=((f j).drop i).map A0.v
  | [],i,h=>by
    cases hx:(f j).drop i with
    | nil=>rfl
    | cons _ _=>rw [hx] at h;cases h
  | k :: ks, i, h => by
    cases hx:(f j).drop i with
    | nil=>rw [hx] at h;cases h
    | cons x xs =>
      have h0:(f j)[i]?=some x:=by rw [← List.head?_drop,hx];rfl
      have h1:(f j).drop (i+1)=xs:=by rw [← List.tail_drop,hx];rfl
      rw [hx] at h
      simp only [isKs,Bool.and_eq_true] at h
      have ih:=cellsG_eq f j ks (i+1) (by rw [h1];exact h.2)
      rw [h1] at ih
      cases k with
      | some k =>
        cases x<;>simp only [isK] at h<;>try (exact absurd h.1 (by decide))
        rename_i k' n
        obtain rfl:=of_decide_eq_true h.1
        simp only [cellsG,gI,h0,List.map_cons,ih]
      | none =>
        cases x<;>simp only [isK] at h<;>try (exact absurd h.1 (by decide))
        simp only [cellsG,gB,h0,List.map_cons,ih]
theorem gI_i64 {f:Nat→List Value} {ks:List (Option IntKind)} {i j:Nat} (h:okV ks (f j)) (hk:ks[i]?=some (some .i64)) : -9223372036854775808≤gI f i j∧gI f i j<9223372036854775808:=by
  have key:∀ (ks:List (Option IntKind)) (xs:List Value) (i:Nat),isKs ks xs=true→ks[i]?=some (some .i64)→∃ n,xs[i]?=some (.int .i64 n):=by
    intro ks
    induction ks with
    | nil=>intro xs i _ h;simp at h
    | cons k ks ih =>
      intro xs i h hk
      cases xs with
      | nil=>cases h
      | cons x xs =>
        simp only [isKs,Bool.and_eq_true] at h
        cases i with
        | zero =>
          simp at hk;subst hk
          cases x<;>simp only [isK] at h<;>try (exact absurd h.1 (by decide))
          rename_i k' n
          rw [of_decide_eq_true h.1];exact ⟨n,rfl⟩
        | succ i=>simpa using ih xs i h.2 (by simpa using hk)
  obtain ⟨n,hn⟩:=key ks (f j) i h.1 hk
  have hw:=h.2 _ (List.mem_of_getElem? hn)
  unfold gI;rw [hn]
  have:=wf_i64 (x:=n) hw
  dsimp only
  omega
def zv:Option IntKind→Value
  | some k => .int k 0
  | none => .bool false
theorem zs_ok:∀ ks:List (Option IntKind),okV ks (ks.map zv)
  | []=>⟨rfl,fun _ h=>by cases h⟩
  | k :: ks => by
    obtain ⟨h1,h2⟩:=zs_ok ks
    refine ⟨?_,fun x hx=>?_⟩
    · simp only [List.map_cons,isKs,h1,Bool.and_true]
      cases k<;>simp [zv,isK]
    · rcases List.mem_cons.1 hx with rfl|hx
      · cases k with
        | none=>rfl
        | some k=>cases k<;>decide
      · exact h2 x hx
theorem rowF_congr {n sz:Nat} {f g:Nat→List A0} {β:Nat→Nat} {base:Nat} {w:World} {u:Value} (h:∀ j,f j=g j) (hr:TV.reads β base w (.rowF n sz f) u):TV.reads β base w (.rowF n sz g) u:=by
  rw [show g=f from funext fun j=>(h j).symm];exact hr
theorem row_of {t e:TypeId} {arr:Bool} {d:Nat} {ks:List (Option IntKind)} (hu:P.underlying t=some (.slice e)) (hl:lvs P arr d e=some ks) (hk:0<ks.length) {A1:Option Addr} {n0 c0:Nat} {x:DataW H} {ps:List MemPlace} (h:DataW.Trod enc P w base spare held t (.slice A1 n0 c0) x ps) :
    ∃ f:Nat→List Value,(∀ j,okV ks (f j))∧∀ β:Nat→Nat,TV.reads β w.heap.size w (.rowF n0 ks.length (fun j=>cellsG f j 0 ks)) (.slice A1 n0 c0):=by
  obtain ⟨fuel,hf⟩:=h
  have hcell:(Value.slice A1 n0 c0).cells.toList=[.slice A1 n0 c0]:=rfl
  rw [hcell] at hf
  rcases Go.Deep.open_slice hu hf with ⟨h1,_⟩|⟨a,len,cap,m,n,D,Pl,h1,hb,hle,hm,hmm,_,hi⟩
  · cases h1
    exact ⟨fun _=>ks.map zv,fun j=>zs_ok ks,fun β=>⟨none,0,rfl,Nat.le_refl _,fun h=>absurd h (by omega)⟩⟩
  · cases h1
    have hlm:n0≤m:=by rw [hmm];split<;>omega
    have hch:∀ j,∃ l:List Value,okV ks l∧(j<n0→∀ i u,l[i]?=some u→w.cell? ((a.add (j*ks.length)).add i)=some u):=by
      intro j
      by_cases hj:j<n0
      · obtain ⟨cs',h2,h3⟩:=hi j (by omega)
        obtain ⟨_,hcl,hat⟩:=World.cells?_some h2
        have ok:=(flat_trod (enc:=enc) (P:=P) (w:=w) (base:=base) (spare:=spare) (held:=held) arr d).1 e ks n cs' _ hl h3
        refine ⟨cs',ok,fun _ i u hu=>?_⟩
        have hil:i<cs'.length:=(List.getElem?_eq_some_iff.1 hu).1
        have h4:=hat i (by omega)
        rw [hu,lvs_cells hl] at h4
        exact h4
      · exact ⟨ks.map zv,zs_ok ks,fun h=>absurd h hj⟩
    obtain ⟨f,hf⟩:=Classical.axiomOfChoice hch
    refine ⟨f,fun j=>(hf j).1,fun β=>?_⟩
    refine rowF_congr (f:=fun j=>(f j).map A0.v) (fun j=>?_) ⟨some a,c0,rfl,hle,fun h0=>⟨a,rfl,?_,fun i hi=>?_⟩⟩
    · have:=cellsG_eq f j ks 0 (by rw [List.drop_zero];exact (hf j).1.1)
      rw [this,List.drop_zero]
    · have h5:=(hf 0).1.1
      have h6:=isKs_len h5
      have h7:=(hf 0).2 h0 0 ((f 0)[0]'(by omega)) (by simp)
      have:=World.block_lt_of_cell? w _ h7
      rw [Nat.zero_mul] at this
      exact this
    · intro q c hq
      rw [List.getElem?_map,Option.map_eq_some_iff] at hq
      obtain ⟨u,hu,rfl⟩:=hq
      exact ⟨u,(hf i).2 hi q u hu,rfl⟩
end
end Go.Proofs.YtmnkaldemjdcoaaW.Sx
end
section
set_option linter.unusedVariables false
set_option linter.unusedSimpArgs false
namespace Go.Proofs.Ytmnkaldemjdcoaa.Wh
open Go RowKit YtmnkaldemjdcoaaW.PrintWords YtmnkaldemjdcoaaW.PrintMore YtmnkaldemjdcoaaW.Aid YtmnkaldemjdcoaaW.Big YtmnkaldemjdcoaaW.Sx Ytmnkaldemjdcoaa.BitsWalk Ytmnkaldemjdcoaa.Limbs Ytmnkaldemjdcoaa.Whole Ytmnkaldemjdcoaa.FxWalk Go.Proofs
theorem wd_bif (v:Int):(bif decide (v > -35184372088832) then decide (v<35184372088832) else false)=wd v:=by
  unfold wd
  have e:decide (v > -35184372088832)=decide (-35184372088832<v):=rfl
  rw [e]
  cases decide (-35184372088832<v)<;>rfl
theorem gV_bif (x y z:Int):(bif bif wd x then wd y else false then wd z else false)=gV x y z:=by
  unfold gV
  simp only [allw]
  cases wd x<;>cases wd y<;>cases wd z<;>rfl
theorem no {c:Bool} (h:c=false) (hb:c=true):False:=by rw [h] at hb;exact absurd hb (by decide)
def lawL (m n:Nat) (r:Nat→List A0) (q:Nat):LI Int where
  gs:=fun i=>[(0,.rowF n m r),(q,tB false),(q+1,tN .i64 i)]
  bs:=fun i=>[]
  I:=fun i=>0≤i∧i≤(n:Int)
  μ:=fun i=>((n:Int)-i).toNat
theorem wrap1 {i:Int} (h0:0≤i) (h:i≤100000000000000000):IntKind.i64.wrap (i+1)=i+1:=by rw [i64_wrap];exact wrap64_id (by omega) (by omega)
theorem hC1 {v k:Int} {n:Nat} (h:(bif decide (v<(n:Int)) then decide (v<k) else false)=true):v<n∧v<k:=by
  by_cases h1:v<(n:Int)
  · rw [decide_eq_true h1] at h;exact ⟨h1,of_decide_eq_true h⟩
  · rw [decide_eq_false h1] at h;exact absurd (show false=true from h) (by decide)
theorem stepL {m n q:Nat} {r:Nat→List A0} {v k:Int} (hv:(lawL m n r q).I v) (hC:(bif decide (v<(n:Int)) then decide (v<k) else false)=true) (hk:k≤1000):(lawL m n r q).μ (IntKind.i64.wrap (v+1))<(lawL m n r q).μ v∧(lawL m n r q).I (IntKind.i64.wrap (v+1)):=by
  have h1:=hC1 hC
  have h0:0≤v∧v≤(n:Int):=hv
  rw [wrap1 h0.1 (by omega)]
  exact ⟨show ((n:Int)-(v+1)).toNat<((n:Int)-v).toNat by omega,show 0≤v+1∧v+1≤(n:Int) by omega⟩
section
set_option maxRecDepth 100000
set_option maxHeartbeats 4000000
abbrev eqVec:EqT Try.prog:=eqS Try.prog 24 [some .i64,some .i64,some .i64] (by kernel_rfl)
def cR1May:Con Try.prog where
  f:=30
  sem:=fun xs=>match xs with
    | [.sc (.v (.int .i64 v))]=>some (True,.tv (tB (wd v)))
    | _=>none
  ok := by
    intro xs p r' h hp
    refine ⟨⟨_,Try.func30,by kernel_rfl,rfl⟩,fun us w ha=>?_⟩
    split at h
    · rename_i v
      cases h
      refine fn_ret (cxOk Try.prog ints_ok [] []) follows Try.func30 rfl 100 _ rfl (by simp) ?_ ha
      repeat' first
        | exact trivial
        | (refine And.intro (show regChk _ _ _ _ _=true from by kernel_rfl) (And.intro ?_ ?_))
        | (refine And.intro (fun _=>?_) (fun h=>absurd (show true=false from h) (by decide)))
        | (refine And.intro (fun h=>absurd (show false=true from h) (by decide)) (fun _=>?_))
        | (refine And.intro (fun hb=>?_) (fun hb'=>?_))
        | refine And.intro ?_ ?_
        | intro _
      all_goals first
        | (show some (CR.tv (tB _))=some (CR.tv (tB _));exact tB_eq (wd_bif v))
        | (show (_:Bool)=(_:Bool);first|assumption|exact beq_iff_eq.2 (by assumption)|(exact and_tt (by first|assumption|exact beq_iff_eq.2 (by assumption)) (by first|assumption|exact beq_iff_eq.2 (by assumption))))
        | (show (_:Nat)=(_:Nat);rfl)
        | (show (_:Nat)≤1000;decide)
        | (show (_:Int)=(_:Int);rfl)
        | (show (_:Int)≤_;decide)
        | (show (_:Int)<_;decide)
        -- PVC
    · cases h
def cR3May:Con Try.prog where
  f:=9
  sem:=fun xs=>match xs with
    | [.agg [.v (.int .i64 x),.v (.int .i64 y),.v (.int .i64 z)]]=>some (True,.tv (tB (gV x y z)))
    | _=>none
  ok := by
    intro xs p r' h hp
    refine ⟨⟨_,Try.func9,by kernel_rfl,rfl⟩,fun us w ha=>?_⟩
    split at h
    · rename_i x y z
      cases h
      refine fn_ret (cxOk Try.prog ints_ok [] [cR1May]) follows Try.func9 rfl 100 _ rfl (by simp) ?_ ha
      repeat' first
        | exact trivial
        | (refine And.intro (show regChk _ _ _ _ _=true from by kernel_rfl) (And.intro ?_ ?_))
        | (refine And.intro (fun _=>?_) (fun h=>absurd (show true=false from h) (by decide)))
        | (refine And.intro (fun h=>absurd (show false=true from h) (by decide)) (fun _=>?_))
        | (refine And.intro (fun hb=>?_) (fun hb'=>?_))
        | refine And.intro ?_ ?_
        | intro _
      all_goals first
        | (show some (CR.tv (tB _))=some (CR.tv (tB _));exact tB_eq (gV_bif x y z))
        | (show (_:Bool)=(_:Bool);first|assumption|exact beq_iff_eq.2 (by assumption)|(exact and_tt (by first|assumption|exact beq_iff_eq.2 (by assumption)) (by first|assumption|exact beq_iff_eq.2 (by assumption))))
        | (show (_:Nat)=(_:Nat);rfl)
        | (show (_:Nat)≤1000;decide)
        | (show (_:Int)=(_:Int);rfl)
        | (show (_:Int)≤_;decide)
        | (show (_:Int)<_;decide)
        -- PVC
    · cases h
def cNum3:Con Try.prog where
  f:=11
  sem:=fun xs=>match xs with
    | [.sc (.v (.int .i64 v))]=>some (True,.tv (tN .i64 v))
    | _=>none
  ok := by
    intro xs p r' h hp
    refine ⟨⟨_,Try.func11,by kernel_rfl,rfl⟩,fun us w ha=>?_⟩
    split at h
    · rename_i v
      cases h
      refine fn_ret (cxOk Try.prog ints_ok [] []) follows Try.func11 rfl 100 _ rfl (by simp) ?_ ha
      repeat' first
        | exact trivial
        | (refine And.intro (show regChk _ _ _ _ _=true from by kernel_rfl) (And.intro ?_ ?_))
        | (refine And.intro (fun _=>?_) (fun h=>absurd (show true=false from h) (by decide)))
        | (refine And.intro (fun h=>absurd (show false=true from h) (by decide)) (fun _=>?_))
        | (refine And.intro (fun hb=>?_) (fun hb'=>?_))
        | refine And.intro ?_ ?_
      all_goals first
        | (show some (CR.tv (tN _ _))=some (CR.tv (tN _ _));rfl)
        | (show (_:Nat)=(_:Nat);rfl)
        | (show (_:Nat)≤1000;decide)
        | (show (_:Int)=(_:Int);rfl)
        | (show (_:Int)≤_;decide)
        | (show (_:Int)<_;decide)
        -- PVC
    · cases h
end
end Go.Proofs.Ytmnkaldemjdcoaa.Wh
end
section
set_option linter.unusedVariables false
set_option linter.unusedSimpArgs false
namespace Go.Proofs.Ytmnkaldemjdcoaa.Wh
open Go RowKit YtmnkaldemjdcoaaW.PrintWords YtmnkaldemjdcoaaW.PrintMore YtmnkaldemjdcoaaW.Aid YtmnkaldemjdcoaaW.Big YtmnkaldemjdcoaaW.Sx Ytmnkaldemjdcoaa.BitsWalk Ytmnkaldemjdcoaa.Limbs Ytmnkaldemjdcoaa.Whole Ytmnkaldemjdcoaa.FxWalk Go.Proofs
section
set_option maxRecDepth 100000
set_option maxHeartbeats 4000000
theorem biP {a b:Int} (ha:wd a=true) (hb:wd b=true):BI 128 (a*b):=BI.mul (BI.i64 (i64_wd ha)) (BI.i64 (i64_wd hb)) (by decide)
end
end Go.Proofs.Ytmnkaldemjdcoaa.Wh
end
section
set_option linter.unusedVariables false
set_option linter.unusedSimpArgs false
namespace Go.Proofs.Ytmnkaldemjdcoaa.Wh
theorem cmpI_z {x y:Int} (h:cmpI x y=0):x=y:=by unfold cmpI at h;split at h;omega;split at h<;>omega
theorem nearB_yes {m s:Int} (h:nearB m 1 s=true):(2*s+1)*(2*s+1)≤4*m:=by
  have e1:(s*2 ^ Int.toNat 1+1)*(s*2 ^ Int.toNat 1+1)*1=(2*s+1)*(2*s+1):=by
    rw [Int.mul_one,show s*2 ^ Int.toNat 1=2*s from (Int.mul_comm s 2)]
  have e2:m*2 ^ Int.toNat 2=4*m:=Int.mul_comm m 4
  unfold nearB at h;rw [e1,e2] at h
  generalize (2*s+1)*(2*s+1)=y at h ⊢
  by_cases hc:cmpI y (4*m)<0
  · unfold cmpI at hc;split at hc<;>omega
  · rw [decide_eq_false hc] at h
    by_cases hz:cmpI y (4*m)=0
    · have:=cmpI_z hz;omega
    · rw [beq_eq_false_iff_ne.2 hz] at h;exact absurd (show false=true from h) (by decide)
theorem nearB_no {m s:Int} (h:nearB m 1 s=false):4*m≤(2*s+1)*(2*s+1):=by
  have e1:(s*2 ^ Int.toNat 1+1)*(s*2 ^ Int.toNat 1+1)*1=(2*s+1)*(2*s+1):=by
    rw [Int.mul_one,show s*2 ^ Int.toNat 1=2*s from (Int.mul_comm s 2)]
  have e2:m*2 ^ Int.toNat 2=4*m:=Int.mul_comm m 4
  unfold nearB at h;rw [e1,e2] at h
  generalize (2*s+1)*(2*s+1)=y at h ⊢
  by_cases hc:cmpI y (4*m)<0
  · rw [decide_eq_true hc] at h;exact absurd (show true=false from h) (by decide)
  · unfold cmpI at hc;split at hc<;>omega
theorem near_word {m:Int} (h0:0≤m) (h1:m<37778931862957161709568):0≤nearR m 1∧nearR m 1≤274877906944∧4*m≤(2*nearR m 1+1)*(2*nearR m 1+1)∧(0<nearR m 1→(2*nearR m 1-1)*(2*nearR m 1-1)≤4*m):=by
  obtain ⟨a1,a2,a3⟩:=isq_spec h0
  have a4:=sq_lt (a:=isq m) (b:=274877906944) a1 (by decide) (by omega)
  have ed:m/1=m:=Int.ediv_one m
  have q1:(2*isq m+1)*(2*isq m+1)=4*(isq m*isq m)+4*isq m+1:=by
    have q0:2*isq m*(2*isq m)=4*(isq m*isq m):=by rw [Int.mul_assoc,← Int.mul_assoc (isq m) 2,Int.mul_comm (isq m) 2,Int.mul_assoc 2,← Int.mul_assoc 2 2];rfl
    simp only [Int.add_mul,Int.mul_add,Int.mul_one,Int.one_mul]
    omega
  have q2:(isq m+1)*(isq m+1)=isq m*isq m+2*isq m+1:=by simp only [Int.add_mul,Int.mul_add,Int.mul_one,Int.one_mul];omega
  unfold nearR;rw [ed]
  cases hb:nearB m 1 (isq m) with
  | true =>
    have:=nearB_yes hb
    rw [if_pos rfl]
    have e3:2*(isq m+1)+1=(2*isq m+1)+2:=by omega
    have e4:2*(isq m+1)-1=2*isq m+1:=by omega
    rw [e3,e4]
    have q3:(2*isq m+1+2)*(2*isq m+1+2)=(2*isq m+1)*(2*isq m+1)+4*(2*isq m+1)+4:=by
      generalize 2*isq m+1=t
      simp only [Int.add_mul,Int.mul_add];omega
    rw [q3]
    generalize isq m*isq m=y at *
    refine ⟨by omega,by omega,by omega,fun _=>by omega⟩
  | false =>
    have:=nearB_no hb
    rw [if_neg (by decide)]
    have e4:2*isq m-1=(2*isq m+1)-2:=by omega
    rw [e4]
    have q3:(2*isq m+1-2)*(2*isq m+1-2)=(2*isq m+1)*(2*isq m+1)-4*(2*isq m+1)+4:=by
      generalize 2*isq m+1=t
      simp only [Int.sub_mul,Int.mul_sub];omega
    rw [q3]
    generalize isq m*isq m=y at *
    refine ⟨by omega,by omega,by omega,fun _=>by omega⟩
theorem near_gen {m:Int} (h0:0≤m):0≤nearR m 1∧4*m≤(2*nearR m 1+1)*(2*nearR m 1+1)∧(0<nearR m 1→(2*nearR m 1-1)*(2*nearR m 1-1)≤4*m):=by
  obtain ⟨a1,a2,a3⟩:=isq_spec h0
  have ed:m/1=m:=Int.ediv_one m
  have q1:(2*isq m+1)*(2*isq m+1)=4*(isq m*isq m)+4*isq m+1:=by
    have q0:2*isq m*(2*isq m)=4*(isq m*isq m):=by rw [Int.mul_assoc,← Int.mul_assoc (isq m) 2,Int.mul_comm (isq m) 2,Int.mul_assoc 2,← Int.mul_assoc 2 2];rfl
    simp only [Int.add_mul,Int.mul_add,Int.mul_one,Int.one_mul]
    omega
  have q2:(isq m+1)*(isq m+1)=isq m*isq m+2*isq m+1:=by simp only [Int.add_mul,Int.mul_add,Int.mul_one,Int.one_mul];omega
  unfold nearR;rw [ed]
  cases hb:nearB m 1 (isq m) with
  | true =>
    have:=nearB_yes hb
    rw [if_pos rfl]
    have e3:2*(isq m+1)+1=(2*isq m+1)+2:=by omega
    have e4:2*(isq m+1)-1=2*isq m+1:=by omega
    rw [e3,e4]
    have q3:(2*isq m+1+2)*(2*isq m+1+2)=(2*isq m+1)*(2*isq m+1)+4*(2*isq m+1)+4:=by
      generalize 2*isq m+1=t
      simp only [Int.add_mul,Int.mul_add];omega
    rw [q3]
    generalize isq m*isq m=y at *
    refine ⟨by omega,by omega,fun _=>by omega⟩
  | false =>
    have:=nearB_no hb
    rw [if_neg (by decide)]
    have e4:2*isq m-1=(2*isq m+1)-2:=by omega
    rw [e4]
    have q3:(2*isq m+1-2)*(2*isq m+1-2)=(2*isq m+1)*(2*isq m+1)-4*(2*isq m+1)+4:=by
      generalize 2*isq m+1=t
      simp only [Int.sub_mul,Int.mul_sub];omega
    rw [q3]
    generalize isq m*isq m=y at *
    refine ⟨by omega,by omega,fun _=>by omega⟩
end Go.Proofs.Ytmnkaldemjdcoaa.Wh
end
section
set_option linter.unusedVariables false
set_option linter.unusedSimpArgs false
namespace Go.Proofs.Ytmnkaldemjdcoaa.Wh
open Go RowKit YtmnkaldemjdcoaaW.PrintWords YtmnkaldemjdcoaaW.PrintMore YtmnkaldemjdcoaaW.Aid YtmnkaldemjdcoaaW.Big YtmnkaldemjdcoaaW.Sx Ytmnkaldemjdcoaa.BitsWalk Ytmnkaldemjdcoaa.Limbs Ytmnkaldemjdcoaa.Whole Ytmnkaldemjdcoaa.FxWalk Go.Proofs
theorem wJ (x:Int) : -9223372036854775808≤IntKind.i64.wrap x∧IntKind.i64.wrap x<9223372036854775808:=by rw [i64_wrap];unfold wrap64;omega
theorem wrK {x:Int} (h : -9223372036854775808≤x) (h':x<9223372036854775808):IntKind.i64.wrap x=x:=by rw [i64_wrap];exact wrap64_id h (by omega)
theorem biW (x y:Int):BI 20000 (IntKind.i64.wrap x*IntKind.i64.wrap y):=BI.mono (BI.mul (BI.i64 (wJ x)) (BI.i64 (wJ y)) (show 64+64≤128 by decide)) (by decide)
theorem gVn {a b c:Int} (h:(!gV a b c)=false):gV a b c=true:=by cases hx:gV a b c with|true=>rfl|false=>rw [hx] at h;cases h
abbrev sq3 (a b c:Int):Int:=a*a+b*b+c*c
theorem bi1 {a b c:Int} (h:(!gV a b c)=false):BI 128 (a*a)∧BI 128 (b*b)∧BI 128 (c*c):=by
  obtain ⟨h1,h2,h3⟩:=gV_iff.1 (gVn h)
  exact ⟨biP h1 h1,biP h2 h2,biP h3 h3⟩
theorem bi2 {a b c:Int} (h:(!gV a b c)=false):BI 129 (a*a+b*b):=BI.add (bi1 h).1 (bi1 h).2.1 (by decide)
theorem bi3 {a b c:Int} (h:(!gV a b c)=false):BI 130 (sq3 a b c):=BI.add (bi2 h) (BI.mono (bi1 h).2.2 (by decide)) (by decide)
theorem bi4 {a b c:Int} (h:(!gV a b c)=false):BI 20000 (sq3 a b c*2 ^ Int.toNat 2):=BI.mono (BI.shl 2 (bi3 h) (show 130+2≤132 by decide)) (by decide)
theorem nrm_same {a b c:Int} (h:(!gV a b c)=false):normR (IntKind.i64.wrap (0-c)) a (IntKind.i64.wrap (0-b))=normR a b c:=by
  obtain ⟨h1,h2,h3⟩:=gV_iff.1 (gVn h)
  have b2:=wd_iff.1 h2
  have b3:=wd_iff.1 h3
  rw [wrK (x:=0-c) (by omega) (by omega),wrK (x:=0-b) (by omega) (by omega),Int.zero_sub,Int.zero_sub]
  have e:dot3 (-c) a (-b) (-c) a (-b)=dot3 a b c a b c:=by unfold dot3;rw [Int.neg_mul_neg,Int.neg_mul_neg];omega
  unfold normR
  rw [if_pos (gV_iff.2 ⟨by rw [wd_iff];omega,h1,by rw [wd_iff];omega⟩),if_pos (gVn h),e]
theorem vn1 {a b c:Int} (h:(!gV a b c)=false):(bif (normR a b c).2 != (normR (IntKind.i64.wrap (0-c)) a (IntKind.i64.wrap (0-b))).2 then true else (normR a b c).1 != (normR (IntKind.i64.wrap (0-c)) a (IntKind.i64.wrap (0-b))).1)=false:=by rw [nrm_same h];simp
theorem nrm_ok {a b c:Int} (h:(!gV a b c)=false) (he:((normR a b c).2 != 0)=false):(normR a b c).1=nearR (sq3 a b c) 1∧wd (nearR (sq3 a b c) 1)=true:=by
  have e:normR a b c=toldR (nearR (sq3 a b c) 1):=by unfold normR;rw [if_pos (gVn h)];rfl
  rw [e] at he ⊢
  unfold toldR at he ⊢
  by_cases hw:wd (nearR (sq3 a b c) 1)=true
  · rw [if_pos hw];exact ⟨rfl,hw⟩
  · rw [if_neg hw] at he;exact absurd he (by decide)
abbrev up (n:Int):Int:=IntKind.i64.wrap (IntKind.i64.wrap (2*n)+1)
abbrev dw (n:Int):Int:=IntKind.i64.wrap (IntKind.i64.wrap (2*n)-1)
theorem cmp_lt0 {x y:Int} (h:y≤x):¬ cmpI x y<0:=by unfold cmpI;split;omega;split<;>omega
theorem cmp_gt0 {x y:Int} (h:x≤y):¬ cmpI x y>0:=by unfold cmpI;split;omega;split<;>omega
theorem vn2 {a b c:Int} (h:(!gV a b c)=false) (he:((normR a b c).2 != 0)=false):(bif bif decide (cmpI (up (normR a b c).1*up (normR a b c).1) (sq3 a b c*2 ^ Int.toNat 2)<0) then true else (bif decide ((normR a b c).1>0) then decide (cmpI (dw (normR a b c).1*dw (normR a b c).1) (sq3 a b c*2 ^ Int.toNat 2)>0) else false) then true else decide ((normR a b c).1<0))=false:=by
  obtain ⟨e,hw⟩:=nrm_ok h he
  have h0:0≤sq3 a b c:=dot_self (a:=a) (b:=b) (c:=c)
  obtain ⟨n0,n1,n2⟩:=near_gen h0
  rw [e]
  generalize nearR (sq3 a b c) 1=n at *
  have e4:sq3 a b c*2 ^ Int.toNat 2=4*sq3 a b c:=Int.mul_comm _ 4
  have bw:=wd_iff.1 hw
  have eu:up n=2*n+1:=by unfold up;rw [wrK (x:=2*n) (by omega) (by omega)];exact wrK (by omega) (by omega)
  have ed:dw n=2*n-1:=by unfold dw;rw [wrK (x:=2*n) (by omega) (by omega)];exact wrK (by omega) (by omega)
  rw [e4,eu,ed,decide_eq_false (cmp_lt0 n1),decide_eq_false (show ¬ n<0 by omega)]
  by_cases hp:n>0
  · rw [decide_eq_true hp,decide_eq_false (cmp_gt0 (n2 hp))];rfl
  · rw [decide_eq_false hp];rfl
theorem wk3n:(bif (normR 3 4 0).2 == 0 then (normR 3 4 0).1 == 5 else false)=true:=by decide +kernel
section
set_option maxRecDepth 100000
set_option maxHeartbeats 4000000
def cWakes3n:Con Try.prog where
  f:=16
  sem:=fun xs=>match xs with
    | []=>some (True,.tv (tB true))
    | _=>none
  ok := by
    intro xs p r' h hp
    refine ⟨⟨_,Try.func16,by kernel_rfl,rfl⟩,fun us w ha=>?_⟩
    split at h
    · skip
      cases h
      refine fn_ret (cxOk Try.prog ints_ok [] [cNorm,cNum3]) follows Try.func16 rfl 100 _ rfl (by simp) ?_ ha
      repeat' first
        | exact trivial
        | (refine And.intro (show regChk _ _ _ _ _=true from by kernel_rfl) (And.intro ?_ ?_))
        | (refine And.intro (fun _=>?_) (fun h=>absurd (show true=false from h) (by decide)))
        | (refine And.intro (fun h=>absurd (show false=true from h) (by decide)) (fun _=>?_))
        | (refine And.intro (fun hb=>?_) (fun hb'=>?_))
        | refine And.intro ?_ ?_
        | intro _
      all_goals first
        | (show some (CR.tv (tB _))=some (CR.tv (tB _));exact tB_eq wk3n)
        | (show (_:Bool)=(_:Bool);first|assumption|exact beq_iff_eq.2 (by assumption)|(exact and_tt (by first|assumption|exact beq_iff_eq.2 (by assumption)) (by first|assumption|exact beq_iff_eq.2 (by assumption))))
        | (show (_:Nat)=(_:Nat);rfl)
        | (show (_:Nat)≤1000;decide)
        | (show (_:Int)=(_:Int);rfl)
        | (show (_:Int)≤_;decide)
        | (show (_:Int)<_;decide)
        -- PVC
    · cases h
abbrev row_vecNorms (a b c d e f k m0 m1 m2 m3 m4 m5 m6 m7 m8:Nat→Int):Nat→List A0:=fun j=>[.v (.int .i64 (a j)),.v (.int .i64 (b j)),.v (.int .i64 (c j)),.v (.int .i64 (d j)),.v (.int .i64 (e j)),.v (.int .i64 (f j)),.v (.int .i64 (k j)),.v (.int .i64 (m0 j)),.v (.int .i64 (m1 j)),.v (.int .i64 (m2 j)),.v (.int .i64 (m3 j)),.v (.int .i64 (m4 j)),.v (.int .i64 (m5 j)),.v (.int .i64 (m6 j)),.v (.int .i64 (m7 j)),.v (.int .i64 (m8 j))]
theorem vecNorms_law (n:Nat) (a b c d e f k m0 m1 m2 m3 m4 m5 m6 m7 m8:Nat→Int) (hW:∀ j,I64 (a j)∧I64 (b j)∧I64 (c j)∧I64 (d j)∧I64 (e j)∧I64 (f j)∧I64 (k j)∧I64 (m0 j)∧I64 (m1 j)∧I64 (m2 j)∧I64 (m3 j)∧I64 (m4 j)∧I64 (m5 j)∧I64 (m6 j)∧I64 (m7 j)∧I64 (m8 j)) {us:List Value} {w:World} (hargs:All2 (TV.reads (fun _=>0) w.heap.size w) [.rowF n 16 (row_vecNorms a b c d e f k m0 m1 m2 m3 m4 m5 m6 m7 m8)] us):Ret Try.prog 3 us.toArray w (.tv (tB true)):=by
  refine fnl_ret (lawL 16 n (row_vecNorms a b c d e f k m0 m1 m2 m3 m4 m5 m6 m7 m8) 2) (cxOk Try.prog intsR_ok [eqVec] [cR3May,cNorm,cNum3,gProd,rPlus,rLeft,rCmp,cWakes3n]) follows Try.func3 rfl 300 _ rfl (by simp) ?_ hargs
  repeat' first
    | exact trivial
    | (refine And.intro (show regChk _ _ _ _ _=true from by kernel_rfl) (And.intro ?_ ?_))
    | (refine And.intro (fun _=>?_) (fun h=>absurd (show true=false from h) (by decide)))
    | (refine And.intro (fun h=>absurd (show false=true from h) (by decide)) (fun _=>?_))
    | (have:=hA;refine And.intro (fun hb=>?_) (fun hb'=>?_))
    | (have:=hC;refine And.intro (fun hA=>?_) (fun hA=>?_))
    | refine And.intro (fun hC=>?_) (fun hC=>?_)
    | refine And.intro ?_ ?_
    | (intro v hv)
    | intro _
  all_goals first
    | (show wfB _ _=true;rfl)
    | (show (_:Bool)=true;assumption)
    | (show (_:Bool)=true;exact beq_iff_eq.2 (by assumption))
    | (show (_:Bool)=true;exact and_tt (by first|assumption|exact beq_iff_eq.2 (by assumption)) (by first|assumption|exact beq_iff_eq.2 (by assumption)))
    | (show (0:Int)≤v;exact hv.1)
    | (show v<(n:Int);exact (hC1 hC).1)
    | (exact ⟨0,⟨Int.le_refl _,Int.natCast_nonneg _⟩,⟨rfl,rfl,rfl,trivial⟩,trivial⟩)
    | (exact ⟨IntKind.i64.wrap (v+1),(stepL hv hC (by decide)).1,(stepL hv hC (by decide)).2,⟨rfl,rfl,rfl,trivial⟩,trivial⟩)
    | (show some (CR.tv (tB true))=some (CR.tv (tB true));rfl)
    | (show BI _ (IntKind.i64.wrap _*IntKind.i64.wrap _);exact biW _ _)
    | (show BI _ (_*2 ^ Int.toNat 2);exact bi4 (show (!gV (a v.toNat) (b v.toNat) (c v.toNat))=false from hA))
    | (show BI _ _;first|exact BI.mono (bi1 (show (!gV (a v.toNat) (b v.toNat) (c v.toNat))=false from hA)).1 (by decide)|exact BI.mono (bi1 (show (!gV (a v.toNat) (b v.toNat) (c v.toNat))=false from hA)).2.1 (by decide)|exact BI.mono (bi1 (show (!gV (a v.toNat) (b v.toNat) (c v.toNat))=false from hA)).2.2 (by decide)|exact BI.mono (bi2 (show (!gV (a v.toNat) (b v.toNat) (c v.toNat))=false from hA)) (by decide)|exact BI.mono (bi3 (show (!gV (a v.toNat) (b v.toNat) (c v.toNat))=false from hA)) (by decide))
    | (show (_:Int)≤IntKind.i64.wrap _;exact (wJ _).1)
    | (show IntKind.i64.wrap _<(_:Int);exact (wJ _).2)
    | (show -9223372036854775808≤a v.toNat;exact (hW v.toNat).1.1)
    | (show -9223372036854775808≤b v.toNat;exact (hW v.toNat).2.1.1)
    | (show -9223372036854775808≤c v.toNat;exact (hW v.toNat).2.2.1.1)
    | (show a v.toNat<9223372036854775808;exact (hW v.toNat).1.2)
    | (show b v.toNat<9223372036854775808;exact (hW v.toNat).2.1.2)
    | (show c v.toNat<9223372036854775808;exact (hW v.toNat).2.2.1.2)
    | (show (_:Int)≤_;decide)
    | (show (_:Int)=(_:Int);rfl)
    | (show some (CR.tv (tB false))=some (CR.tv (tB true));exfalso;first|exact no (vn1 (show (!gV (a v.toNat) (b v.toNat) (c v.toNat))=false from hA)) (by assumption)|exact no (vn2 (show (!gV (a v.toNat) (b v.toNat) (c v.toNat))=false from hA) (by assumption)) (by assumption))
    -- PVC
abbrev ks_vecNorms:List (Option IntKind):=[some .i64,some .i64,some .i64,some .i64,some .i64,some .i64,some .i64,some .i64,some .i64,some .i64,some .i64,some .i64,some .i64,some .i64,some .i64,some .i64]
theorem vecNorms_row (n:Nat) (f:Nat→List Value) (hf:∀ j,okV ks_vecNorms (f j)) {us:List Value} {w:World} (hargs:All2 (TV.reads (fun _=>0) w.heap.size w) [.rowF n 16 (fun j=>cellsG f j 0 ks_vecNorms)] us):Ret Try.prog 3 us.toArray w (.tv (tB true)) :=
  vecNorms_law n (gI f 0) (gI f 1) (gI f 2) (gI f 3) (gI f 4) (gI f 5) (gI f 6) (gI f 7) (gI f 8) (gI f 9) (gI f 10) (gI f 11) (gI f 12) (gI f 13) (gI f 14) (gI f 15) (fun j=>⟨gI_i64 (hf j) rfl,gI_i64 (hf j) rfl,gI_i64 (hf j) rfl,gI_i64 (hf j) rfl,gI_i64 (hf j) rfl,gI_i64 (hf j) rfl,gI_i64 (hf j) rfl,gI_i64 (hf j) rfl,gI_i64 (hf j) rfl,gI_i64 (hf j) rfl,gI_i64 (hf j) rfl,gI_i64 (hf j) rfl,gI_i64 (hf j) rfl,gI_i64 (hf j) rfl,gI_i64 (hf j) rfl,gI_i64 (hf j) rfl⟩) hargs
end
end Go.Proofs.Ytmnkaldemjdcoaa.Wh
end
section
namespace Go.Proofs.Ytmnkaldemjdcoaa.vecNorms
open Go.ChangeShapes Go.WideShapes Go.ChangeAt RowKit YtmnkaldemjdcoaaW.PrintWords YtmnkaldemjdcoaaW.Sx Ytmnkaldemjdcoaa.Wh
set_option linter.unusedVariables false
theorem own:ownKnob Try.prog.godebug=none:=by kernel_rfl
theorem laidOut:laidOutB Try.prog=true:=by kernel_rfl
theorem cells:lvs Try.prog true 30 27=some [some .i64,some .i64,some .i64,some .i64,some .i64,some .i64,some .i64,some .i64,some .i64,some .i64,some .i64,some .i64,some .i64,some .i64,some .i64,some .i64]:=by kernel_rfl
set_option maxRecDepth 100000 in
theorem lifted (os:Os) (started:os.Started) (H:Type) (enc:TypeId × Value→H) :
    ReturnsInHanded {} Try.checked os 3 .any (Rows.vecNormsSpec.pre6 enc Try.prog Try.f3 Rows.vecNormsRow.domain false) (Rows.vecNormsSpec.post enc Try.prog Try.f3 false true false false):=by
  refine returnsInHanded_of_change_sized (C:=Try.checked) own started (by kernel_rfl) Try.func3
    (ChangeSpec.witness6 (enc:=enc) (C:=Try.checked) false ⟨#[],#[.slice none 0 0],[]⟩ 8 (by kernel_rfl) (by kernel_rfl) (by kernel_rfl) (by kernel_rfl)) ?_
  intro W base args ds gs before hval0 hW hcnd hsz0 _
  have hval:∀ (j:Nat) t v,Try.f3.params[j]?=some t→args[j]?=some v→Value.okWide Try.prog W .any base t v:=hval0
  have hW':=hW
  obtain ⟨p,q,hA0,hV,rfl,hfz,hnd⟩:=hW
  have hA:DataW.TrodAll enc Try.prog W 0 (fun _=>true) true Try.f3.params.toList args.toList ds p:=hA0
  rw [Try.params3] at hA hval
  obtain ⟨v0,vs0,d0,ds0,p0,q0,hargs,rfl,rfl,h0,r0⟩:=trodAll_cons hA
  obtain ⟨rfl,rfl,rfl⟩:=trodAll_nil r0
  obtain rfl:args=#[v0]:=by cases args;simp_all
  obtain ⟨rfl,rfl⟩:=trodVars_none hV
  have k0:=h0
  have lt0:∀ x∈p0,x.block<W.heap.size:=by obtain ⟨m,hm⟩:=k0;exact DataW.trod_lt m _ _ _ hm
  have hv0:=hval 0 22 v0 rfl rfl
  obtain ⟨a0,len0,cap0,rfl⟩:=okWide_slice Try.underlying22 hv0
  obtain ⟨f,hf,hr⟩:=row_of Try.underlying22 cells (by decide) h0
  clear hA0 hval0 hsz0
  refine Calls.mono (vecNorms_row len0 f hf (us:=[_]) (.cons (hr _) .nil)) fun e W' hpost=>?_
  obtain ⟨u,rfl,hu,bel⟩:=hpost
  obtain rfl:u = .bool true:=hu
  exact ⟨_,rfl,_,_,_,[],_,[],hW',trodAll_mk1 (shut_bool Try.underlying4 _),(trodAll_cons_mk (Below.trod laidOut (by kernel_rfl) (of_decide_eq_true (by kernel_rfl)) k0 bel lt0) trodAll_mk0),rfl,bel.frame _,fun h=>by cases h⟩
theorem over:Rows.vecNormsRow.holds Try.pinned (OpenSpec.ofChange Rows.vecNormsSpec) :=
  OpenClaim.holds_of_wide 3 Try.f3 rfl rfl rfl rfl rfl rfl rfl ⟨rfl,rfl,rfl,rfl,rfl⟩ rfl rfl rfl rfl rfl (by kernel_rfl) Try.func3 (by kernel_rfl)
    (of_decide_eq_true (by kernel_rfl)) (by unfold Func.isWrapper;first|(rw [if_pos (by decide +kernel)];kernel_rfl)|(rw [if_neg (by decide +kernel)];exact ⟨rfl,rfl⟩))
    (fun os started H enc _=>lifted os started H enc)
theorem proved:Rows.VecNormsSaid:=over
end Go.Proofs.Ytmnkaldemjdcoaa.vecNorms
namespace Go.Proofs.Ytmnkaldemjdcoaa
theorem vecNorms_holds:Rows.VecNormsSaid:=vecNorms.proved
end Go.Proofs.Ytmnkaldemjdcoaa
end
