/- Part of a proof: texts of this session, one behind the other, and words that print.sh printed for this seat, of these only those that the proof leans on (wip/tools/pack.py). -/
import Derived.Test.YtmnkaldemjdcoaaGreatZT230d
import Derived.Test.YtmnkaldemjdcoaaGreatProg
import Derived.Below
import Derived.Deep.Draws
import Derived.Deep.AppendLies
import Derived.Maps.AppendAt
import Derived.OwnWalk
import Derived.Laws.BytesArg
import Derived.Laws.MakeOwn
import Derived.Laws.OwnMore
import Derived.Deep.OwnRows
import Derived.Tactics
import Derived.Lib.ConvBytes
import Derived.Laws.Slices
import Derived.WalkKit
import Derived.KernelRfl
import Derived.RowKit3
import Derived.Deep.LoopGhost
import Derived.Deep.QuietTactic
import Derived.BigQuiet
import Derived.WideLaws
import Derived.Deep.DeepCutAuto
import Derived.Deep.CutBlock
import Derived.Deep.RegionHeld3
import Derived.Laws.Rows
import Derived.Lib.AppendStr
import Derived.ArgAppend
import Derived.Laws.IdiomCopy
import Derived.OrdersHeld
import Derived.Laws.BitsLemmas
import Derived.RowKit
import Derived.Laws.StructEq
import Derived.Deep.WholeRow
import Derived.Outline
import Derived.Deep.Slices
import Derived.OpenShut
import Derived.SizedLaws
import Derived.Shelf.Spec.BitsCarry
section
set_option linter.unusedVariables false
namespace Go.Proofs.YtmnkaldemjdcoaaGreat.FxWalk
open RowKit YtmnkaldemjdcoaaGreatW.PrintWords YtmnkaldemjdcoaaGreatW.PrintLast YtmnkaldemjdcoaaGreatW.PrintMore YtmnkaldemjdcoaaGreatW.Aid
def wd (a:Int):Bool:=decide (-35184372088832<a)&&decide (a<35184372088832)
theorem wd_iff {a:Int}:wd a=true ↔ -35184372088832<a∧a<35184372088832:=by simp [wd]
def allw:List Int→Bool
  | []=>true
  | x::l=>wd x&&allw l
theorem allw_iff (l:List Int):allw l=true↔∀ x∈l,wd x=true:=by
  induction l with
  | nil=>simp [allw]
  | cons x l ih=>simp [allw,ih]
set_option maxRecDepth 10000 in
set_option maxHeartbeats 400000 in
theorem good_calls (a:Int) (w:World):Calls Tryz.prog 87 #[.int .i64 a] w fun e w'=>e = .returned (.bool (wd a))∧w=w':=by
  by_cases h1 : -35184372088832<a
  · by_cases h2:a<35184372088832
    · have e:Aside0 (wd a=true):=⟨wd_iff.2 ⟨h1,h2⟩⟩
      rw [e.out]
      go_enter Tryz.func87,Tryz.ntmps87
      go_wp2
      go_ret
      exact ⟨rfl,rfl⟩
    · have e:Aside0 (wd a=false):=⟨by rw [← Bool.not_eq_true,wd_iff];omega⟩
      rw [e.out]
      have h2b:decide (a<35184372088832)=false:=decide_eq_false h2
      go_enter Tryz.func87,Tryz.ntmps87
      go_wp2
      go_ret
      exact ⟨rfl,rfl⟩
  · have e:Aside0 (wd a=false):=⟨by rw [← Bool.not_eq_true,wd_iff];omega⟩
    rw [e.out]
    have h1b:decide (-35184372088832<a)=false:=decide_eq_false h1
    go_enter Tryz.func87,Tryz.ntmps87
    go_wp2
    go_ret
    exact ⟨rfl,rfl⟩
theorem good_yes (a:Int) (w:World) (h:wd a=true):Calls Tryz.prog 87 #[.int .i64 a] w fun e w'=>e = .returned (.bool true)∧w=w':=by
  have:=good_calls a w
  rwa [h] at this
theorem good_no (a:Int) (w:World) (h:wd a=false):Calls Tryz.prog 87 #[.int .i64 a] w fun e w'=>e = .returned (.bool false)∧w=w':=by
  have:=good_calls a w
  rwa [h] at this
theorem allw_take {l:List Int} {k:Nat} (h:k<l.length):allw (l.take (k+1))=(allw (l.take k)&&wd (rd l k)):=by
  have hm:∀ (l:List Int) (x:Int),allw (l++[x])=(allw l&&wd x):=by
    intro l x
    induction l with
    | nil=>simp [allw]
    | cons y l ih=>simp [allw,ih,Bool.and_assoc]
  obtain ⟨hj,e⟩:=rd_at (l:=l) (i:=(k:Int)) (by omega) (by omega)
  rw [e,List.take_succ_eq_append_getElem h,hm]
  simp
set_option maxRecDepth 10000 in
set_option maxHeartbeats 400000 in
theorem all_calls (l:List Int) (A:Option Addr) (c:Nat) (w:World) (hr:Kd.C (Kd.int .i64) w A l.length l):Calls Tryz.prog 50 #[.slice A l.length c] w fun e w'=>e = .returned (.bool (allw l))∧w=w':=by
  have HR:=Aside0.mk hr
  have hlen:l.length≤9223372036854775807:=hr.2.1
  clear hr
  go_enter Tryz.func50,Tryz.ntmps50
  go_wp2_with fail
  go_loop [7] (fun v7=>∃ k:Nat,k≤l.length∧v7 = .int .i64 k∧Aside0 (allw (l.take k)=true)) (fun v7=>l.length-(intOf v7).toNat)
  case atStart=>exact ⟨0,by omega,rfl,⟨rfl⟩⟩
  case round =>
    obtain ⟨k,hk,rfl,ha⟩:=hrel
    by_cases hlt:k<l.length
    · obtain ⟨ad,rfl,hcell⟩:=Kd.at_int HR.out (k:Int) (by omega) (by omega)
      simp only [Int.toNat_natCast] at hcell
      have hn:Aside0 (allw (l.take (k+1))=(allw (l.take k)&&wd (rd l k))):=⟨allw_take hlt⟩
      cases hx:wd (rd l k) with
      | true =>
        have Hx:=Aside0.mk hx
        clear hx
        generalize rd l k=x at *
        go_wp2_with fail
        refine (good_yes _ _ Hx.out).mono ?_
        rintro e w1 ⟨rfl,rfl⟩
        go_wp2
        go_round
        case rel=>exact ⟨k+1,by omega,by go_num,⟨by rw [hn.out,ha.out,Hx.out];rfl⟩⟩
        case measure=>simp [intOf];omega
      | false =>
        have Hx:=Aside0.mk hx
        clear hx
        have hall:Aside0 (allw l=false):=⟨by
          rw [← Bool.not_eq_true,allw_iff]
          intro h
          have:=h _ (rd_mem (i:=(k:Int)) (by omega) (by omega))
          rw [Hx.out] at this
          cases this⟩
        generalize rd l k=x at *
        go_wp2_with fail
        refine (good_no _ _ Hx.out).mono ?_
        rintro e w1 ⟨rfl,rfl⟩
        go_wp2
        go_ret
        exact ⟨by rw [hall.out];rfl,rfl⟩
    · obtain rfl:k=l.length:=by omega
      have hall:Aside0 (allw l=true):=⟨by have:=ha.out;rwa [List.take_length] at this⟩
      go_wp2
      go_ret
      exact ⟨by rw [hall.out];rfl,rfl⟩
def wordR (v:Int):Int × Int:=if wd v=true then (v,0) else (0,2)
set_option maxRecDepth 10000 in
set_option maxHeartbeats 400000 in
theorem word_calls (v:Int) (w:World):Calls Tryz.prog 73 #[.int .i64 v] w fun e w'=>e = .returned (.tuple #[.int .i64 (wordR v).1,.int .i64 (wordR v).2])∧w=w':=by
  cases h:wd v with
  | true =>
    have e1:Aside0 (wordR v=(v,0)):=⟨by unfold wordR;rw [if_pos h]⟩
    rw [e1.out]
    have H:=Aside0.mk h
    clear h
    go_enter Tryz.func73,Tryz.ntmps73
    go_wp2_with fail
    refine (good_yes _ _ H.out).mono ?_
    rintro e w1 ⟨rfl,rfl⟩
    go_wp2
    go_ret2
    exact ⟨rfl,rfl⟩
  | false =>
    have e1:Aside0 (wordR v=(0,2)):=⟨by unfold wordR;rw [h];rfl⟩
    rw [e1.out]
    have H:=Aside0.mk h
    clear h
    go_enter Tryz.func73,Tryz.ntmps73
    go_wp2_with fail
    refine (good_no _ _ H.out).mono ?_
    rintro e w1 ⟨rfl,rfl⟩
    go_wp2
    go_ret2
    exact ⟨rfl,rfl⟩
section
set_option maxRecDepth 10000
set_option maxHeartbeats 400000
end
end Go.Proofs.YtmnkaldemjdcoaaGreat.FxWalk
end
section
set_option linter.unusedVariables false
set_option linter.unusedSimpArgs false
namespace Go.Proofs.YtmnkaldemjdcoaaGreat.Wh
open Go RowKit YtmnkaldemjdcoaaGreatW.PrintWords YtmnkaldemjdcoaaGreatW.PrintMore YtmnkaldemjdcoaaGreatW.Aid YtmnkaldemjdcoaaGreatW.Big YtmnkaldemjdcoaaGreatW.Sx YtmnkaldemjdcoaaGreat.BitsWalk YtmnkaldemjdcoaaGreat.Limbs YtmnkaldemjdcoaaGreat.Whole YtmnkaldemjdcoaaGreat.FxWalk Go.Proofs
abbrev tNN (z e:Int):TV := .tup [(false,[.v (.int .i64 z)]),(false,[.v (.int .i64 e)])]
theorem nn_eq {z z' b b':Int} (h:(z,b)=(z',b')):(some (CR.tv (tNN z b)):Option CR)=some (CR.tv (tNN z' b')):=by cases h;rfl
def toldR (x:Int):Int × Int:=if wd x=true then (x,0) else (0,2)
theorem told0 {x:Int} (h:(!(smallI x).2)=true):((0:Int),(2:Int))=((toldR x).1,(toldR x).2):=by
  unfold smallI at h
  split at h
  · cases h
  · unfold toldR
    rw [if_neg]
    rw [wd_iff];omega
theorem told1 {x:Int} (h:(!(smallI x).2)=false):((wordR (smallI x).1).1,(wordR (smallI x).1).2)=((toldR x).1,(toldR x).2):=by
  unfold smallI at h ⊢
  split
  · rfl
  · rename_i hc;rw [if_neg hc] at h;cases h
def I64 (n:Int):Prop := -9223372036854775808≤n∧n<9223372036854775808
theorem len_i64 {n:Int} (h : -9223372036854775808≤n) (h':n<9223372036854775808):Len0 n:=by
  have:=lm_one n (by omega);unfold Len0;omega
section
set_option maxRecDepth 100000
set_option maxHeartbeats 1000000
def cWord:Con Tryz.prog:=conN 73 (fun _=>True) (fun v => .tv (tNN (wordR v).1 (wordR v).2)) ⟨_,Tryz.func73,by kernel_rfl,rfl⟩ (fun n w hl =>
  (word_calls n w).mono fun _ _ ⟨he,hw⟩=>⟨_,he,⟨[_,_],rfl,.cons ⟨_,rfl,rfl⟩ (.cons ⟨_,rfl,rfl⟩ .nil)⟩,by rw [← hw];exact Below.refl _ _⟩)
def cTold:Con Tryz.prog:=con1 37 (fun x=>True) (fun x => .tv (tNN (toldR x).1 (toldR x).2)) ⟨_,Tryz.func37,by kernel_rfl,rfl⟩ (fun x A c w hl hr=>by
  refine fn_ret (cxOk Tryz.prog ints_ok [] [cSmall,cWord]) follows Tryz.func37 rfl 100 _ rfl (by simp) ?_ (args1 hr)
  repeat' first
    | exact trivial
    | (refine And.intro (show regChk _ _ _ _ _=true from by kernel_rfl) (And.intro ?_ ?_))
    | (refine And.intro (fun hb=>?_) (fun hb'=>?_))
    | refine And.intro ?_ ?_
    | intro _
  all_goals first
    | (show (_:Int)=(_:Int);rfl)
    | (show some (CR.tv (tNN _ _))=some (CR.tv (tNN _ _));first|exact nn_eq (told0 (by assumption))|exact nn_eq (told1 (by assumption))))
def intsOf:List A0→Option (List Int)
  | []=>some []
  | .v (.int .i64 n)::r=>match intsOf r with
    | some l=>some (n::l)
    | none=>none
  | _::_=>none
theorem intsOf_get:∀ {cs:List A0} {l:List Int},intsOf cs=some l→cs=l.map fun n=>A0.v (.int .i64 n)
  | [],l,h=>by cases h;rfl
  | c :: r, l, h => by
    unfold intsOf at h
    split at h
    · rename_i e;cases e
    · rename_i n r' e
      cases e
      split at h
      · rename_i l' h';cases h;rw [intsOf_get h'];rfl
      · cases h
    · cases h
theorem row_ints {w:World} {n:Nat} {cs:List A0} {l:List Int} {u:Value} {β:Nat→Nat} {b:Nat} (h:(TV.row n cs).reads β b w u) (hi:intsOf cs=some l) (hn:n=cs.length) (hs:n≤1000):∃ A c,u = .slice A l.length c∧Kd.C (Kd.int .i64) w A l.length l:=by
  obtain ⟨A,c,rfl,hc,hh⟩:=h
  have e:=intsOf_get hi
  have hl:cs.length=l.length:=by rw [e];simp
  refine ⟨A,c,by rw [hn,hl],rfl,by omega,fun h0=>?_⟩
  obtain ⟨ad,rfl,_,hcs⟩:=hh (by omega)
  refine ⟨ad,rfl,fun j p hj=>⟨[.int .i64 p],rfl,rfl,fun i u hu=>?_⟩⟩
  have hi0:i=0:=by
    cases i with
    | zero=>rfl
    | succ i=>simp at hu
  subst hi0
  simp at hu
  subst hu
  obtain ⟨x,hx,hr⟩:=hcs j (.v (.int .i64 p)) (by rw [e,List.getElem?_map,hj];rfl)
  rw [show x=_ from hr] at hx
  rw [show j*(Kd.int .i64).sz+0=j from by show j*1+0=_;omega]
  exact hx
def cAll:Con Tryz.prog where
  f:=50
  sem := fun xs => match xs with
    | [.row n cs]=>match intsOf cs with
      | some l=>some (n=cs.length∧n≤1000,.tv (tB (allw l)))
      | none=>none
    | _=>none
  ok := by
    intro xs p r' h hp
    refine ⟨⟨_,Tryz.func50,by kernel_rfl,rfl⟩,fun us w ha=>?_⟩
    split at h
    · rename_i n cs
      split at h
      · rename_i l hi
        cases h
        obtain ⟨u,rfl,h1⟩:=all2_1 ha
        obtain ⟨A,c,rfl,hC⟩:=row_ints h1 hi hp.1 hp.2
        exact Ret.val ((all_calls l A c w hC).mono fun _ _ ⟨he,hw⟩=>⟨he,by rw [← hw];exact Below.refl _ _⟩)
      · cases h
    · cases h
end
end Go.Proofs.YtmnkaldemjdcoaaGreat.Wh
end
section
set_option linter.unusedVariables false
set_option linter.unusedSimpArgs false
namespace Go.Proofs.YtmnkaldemjdcoaaGreat.Wh
open YtmnkaldemjdcoaaGreat.FxWalk
theorem roundP_scale {x c k:Int} (hk:0<k) (hc:0<c):roundP (k*x) (k*c)=roundP x c:=by
  unfold roundP
  rw [Int.mul_ediv_mul_of_pos _ _ hk,Int.mul_emod_mul_of_pos _ _ hk]
  have e:2*(k*(x%c))=k*(2*(x%c)):=by rw [← Int.mul_assoc,Int.mul_comm 2 k,Int.mul_assoc]
  rw [e]
  have g1:(k*(2*(x%c))>k*c)↔2*(x%c)>c:=Int.mul_lt_mul_left hk
  have g2:(k*(2*(x%c))=k*c)↔2*(x%c)=c:=Int.mul_eq_mul_left_iff (by omega)
  simp only [g1,g2]
end Go.Proofs.YtmnkaldemjdcoaaGreat.Wh
end
section
set_option linter.unusedVariables false
set_option linter.unusedSimpArgs false
namespace Go.Proofs.YtmnkaldemjdcoaaGreat.Wh
open Go RowKit YtmnkaldemjdcoaaGreatW.PrintWords YtmnkaldemjdcoaaGreatW.PrintMore YtmnkaldemjdcoaaGreatW.PrintLast YtmnkaldemjdcoaaGreatW.Aid YtmnkaldemjdcoaaGreatW.Big YtmnkaldemjdcoaaGreatW.Sx YtmnkaldemjdcoaaGreat.BitsWalk YtmnkaldemjdcoaaGreat.Limbs YtmnkaldemjdcoaaGreat.Whole YtmnkaldemjdcoaaGreat.FxWalk Go.Proofs
def isqN (m:Nat):Nat→Nat
  | 0=>0
  | k+1=>if (k+1)*(k+1)≤m then k+1 else isqN m k
theorem isqN_spec (m:Nat):∀ k,isqN m k*isqN m k≤m∧∀ j,j≤k→j*j≤m→j≤isqN m k
  | 0=>⟨Nat.zero_le _,fun j h _=>by omega⟩
  | k + 1 => by
    unfold isqN
    split
    · rename_i h;exact ⟨h,fun j hj _=>hj⟩
    · rename_i h
      refine ⟨(isqN_spec m k).1,fun j hj hm=>?_⟩
      by_cases e:j=k+1
      · subst e;exact absurd hm h
      · exact (isqN_spec m k).2 j (by omega) hm
def isq (n:Int):Int:=(isqN n.natAbs n.natAbs:Nat)
theorem isq_spec {n:Int} (h:0≤n):0≤isq n∧isq n*isq n≤n∧n<(isq n+1)*(isq n+1):=by
  obtain ⟨m,rfl⟩:∃ m:Nat,n=(m:Int):=⟨n.natAbs,by omega⟩
  obtain ⟨h1,h2⟩:=isqN_spec m m
  unfold isq
  rw [Int.natAbs_natCast]
  generalize isqN m m=r at *
  refine ⟨by omega,by exact_mod_cast h1,?_⟩
  by_cases hc:(r+1)*(r+1)≤m
  · have:=h2 (r+1) (by have:=Nat.le_mul_self (r+1);omega) hc
    omega
  · have:m<(r+1)*(r+1):=by omega
    exact_mod_cast this
theorem sq_lt {a b:Int} (ha:0≤a) (hb:0≤b) (h:a*a<b*b):a<b:=by
  by_cases hc:a<b
  · exact hc
  · exact absurd (Int.mul_le_mul (show b≤a by omega) (show b≤a by omega) hb ha) (by omega)
theorem isq_uniq {n r:Int} (h0:0≤r) (h1:r*r≤n) (h2:n<(r+1)*(r+1)):isq n=r:=by
  obtain ⟨a,b,c⟩:=isq_spec (n:=n) (Int.le_trans (Int.mul_nonneg h0 h0) h1)
  have:=sq_lt (a:=isq n) (b:=r+1) a (by omega) (by omega)
  have:=sq_lt (a:=r) (b:=isq n+1) h0 (by omega) (by omega)
  omega
theorem newton_ge {n x s:Int} (hx:0<x) (h:s*s≤n):s≤(x+n/x)/2:=by
  have e:(2*s-x)*x=s*s-(s-x)*(s-x):=by
    simp only [Int.sub_mul,Int.mul_sub,Int.mul_assoc,Int.mul_comm x s]
    omega
  have h0:0≤(s-x)*(s-x):=by
    rcases Int.le_total 0 (s-x) with h|h
    · exact Int.mul_nonneg h h
    · exact Int.mul_nonneg_of_nonpos_of_nonpos h h
  have:=Int.le_ediv_of_mul_le hx (show (2*s-x)*x≤n by omega)
  omega
theorem newton_le {n x:Int} (hx:0<x) (h:x≤(x+n/x)/2):x*x≤n:=Int.mul_le_of_le_ediv hx (by omega)
theorem bl_lt:∀ (f x:Nat),x<2 ^ f→x<2 ^ Lib.bitLenAux f x
  | 0,x,h=>h
  | f + 1, x, h => by
    unfold Lib.bitLenAux
    split
    · rename_i h0;subst h0;exact Nat.one_pos
    · have:=bl_lt f (x/2) (by rw [Nat.pow_succ] at h;omega)
      rw [Nat.add_comm,Nat.pow_succ]
      omega
theorem bl_le (x:Nat) (h:x<18446744073709551616):Lib.bitLen x≤64:=Lib.bitLen_le x 64 (by omega) h
def lenI (x:Int):Int:=if x.natAbs=0 then 0 else if x.natAbs<18446744073709551616 then (Lib.bitLen x.natAbs:Nat) else 64+(Lib.bitLen (x.natAbs/18446744073709551616):Nat)
theorem len_spec {x:Int} (h:x.natAbs<340282366920938463463374607431768211456):0≤lenI x∧lenI x≤128∧x.natAbs<2 ^ (lenI x).toNat:=by
  unfold lenI
  split
  · rename_i h0;rw [h0];decide
  · split
    · rename_i h1
      have:=bl_le _ h1
      refine ⟨by omega,by omega,?_⟩
      rw [Int.toNat_natCast]
      exact bl_lt 64 _ h1
    · have h2:x.natAbs/18446744073709551616<18446744073709551616:=by omega
      have h3:=bl_le _ h2
      have h4:x.natAbs/18446744073709551616<2 ^ Lib.bitLen (x.natAbs/18446744073709551616):=bl_lt 64 _ h2
      refine ⟨by omega,by omega,?_⟩
      rw [show (64+(Lib.bitLen (x.natAbs/18446744073709551616):Int)).toNat=64+Lib.bitLen (x.natAbs/18446744073709551616) by omega,Nat.pow_add]
      generalize 2 ^ Lib.bitLen (x.natAbs/18446744073709551616)=p at *
      omega
def conU (f:FuncId) (pre:Int→Prop) (r:Int→CR) (hf:FOk Tryz.prog f) (ok:∀ n w,pre n→Ret Tryz.prog f #[.int .u64 n] w (r n)):Con Tryz.prog where
  f:=f
  sem:=fun xs=>match xs with
    | [.sc (.v (.int .u64 n))]=>some (pre n,r n)
    | _=>none
  ok:=by
    intro xs p r' h hp
    refine ⟨hf,fun us w ha=>?_⟩
    split at h
    · rename_i n
      cases h
      obtain ⟨u,rfl,h1⟩:=all2_1 ha
      rw [show _=_ from h1]
      exact ok n w hp
    · cases h
def cLen64:Con Tryz.prog:=conU 127 (fun n=>0≤n∧n<18446744073709551616) (fun n => .tv (tN .i64 ((Lib.bitLen n.toNat:Nat):Int))) ⟨_,Tryz.func127,by kernel_rfl,rfl⟩
  (fun n w h=>(Long.len64_calls n w h.1 h.2).mono fun e w' h=>⟨_,h.1,rfl,by rw [← h.2];exact Below.refl _ w⟩)
theorem top_ix {x:Int} (hl:x.natAbs<340282366920938463463374607431768211456) (h:(((lm x).length:Int) == 0)=false):IntKind.i64.wrap (((lm x).length:Int)-1)=((lm x).length:Int)-1∧0<(lm x).length∧(lm x).length≤2:=by
  have h2:(lm x).length≤2:=limbs_len (k:=2) (by simpa using hl)
  have h0:0<(lm x).length:=by have:=len_gt h;omega
  refine ⟨?_,h0,h2⟩
  rw [i64_w,wrap64_id (by omega) (by omega)]
theorem len_fin {x:Int} (hl:x.natAbs<340282366920938463463374607431768211456) (h:(((lm x).length:Int) == 0)=false) :
    IntKind.i64.wrap (IntKind.i64.wrap (64*IntKind.i64.wrap (((lm x).length:Int)-1))+((Lib.bitLen (rd (lm x) (IntKind.i64.wrap (((lm x).length:Int)-1))).toNat:Nat):Int))=lenI x:=by
  rw [(top_ix hl h).1]
  have h0:x.natAbs≠0:=by
    intro e
    have:=(top_ix hl h).2.1
    unfold lm at this;rw [e,limbs_zero] at this;exact absurd this (by decide)
  unfold lenI
  rw [if_neg h0]
  by_cases h1:x.natAbs<18446744073709551616
  · have e:lm x=[(x.natAbs:Int)]:=limbs_word h0 h1
    have:=bl_le _ h1
    rw [if_pos h1,e]
    simp only [i64_w,List.length_singleton]
    rw [show (64*(((1:Nat):Int)-1))=0 from rfl,show ((1:Nat):Int)-1=0 from rfl,show wrap64 0=0 from wrap64_id (by omega) (by omega),show rd [(x.natAbs:Int)] 0=(x.natAbs:Int) from rfl,Int.toNat_natCast,wrap64_id (by omega) (by omega)]
    omega
  · have e:lm x=[((x.natAbs%18446744073709551616:Nat):Int),((x.natAbs/18446744073709551616:Nat):Int)]:=by
      show limbs x.natAbs=_
      rw [limbs_pos h0,limbs_word (by omega) (by omega)]
    have:=bl_le (x.natAbs/18446744073709551616) (by omega)
    rw [if_neg h1,e]
    simp only [i64_w,List.length_cons,List.length_nil]
    rw [show (64*(((0+1+1:Nat):Int)-1))=64 from rfl,show ((0+1+1:Nat):Int)-1=1 from rfl,show wrap64 64=64 from wrap64_id (by omega) (by omega),show rd [((x.natAbs%18446744073709551616:Nat):Int),((x.natAbs/18446744073709551616:Nat):Int)] 1=((x.natAbs/18446744073709551616:Nat):Int) from rfl,Int.toNat_natCast,wrap64_id (by omega) (by omega)]
theorem rd_lm (x i:Int):0≤rd (lm x) i∧rd (lm x) i<18446744073709551616:=by
  by_cases h:i.toNat<(lm x).length
  · have e:rd (lm x) i=(lm x)[i.toNat]:=by unfold rd;simp [List.getD_eq_getElem?_getD,h]
    rw [e]
    exact limbs_dig _ _ (List.getElem_mem h)
  · have e:rd (lm x) i=0:=by unfold rd;simp [List.getD_eq_getElem?_getD,h]
    rw [e];decide
theorem top_ge {x:Int} (hl:x.natAbs<340282366920938463463374607431768211456) (h:(((lm x).length:Int) == 0)=false):0≤IntKind.i64.wrap (((lm x).length:Int)-1)∧IntKind.i64.wrap (((lm x).length:Int)-1)<((lm x).length:Int):=by
  obtain ⟨h1,h2,h3⟩:=top_ix hl h
  omega
theorem len_zero {x:Int} (h:(((lm x).length:Int) == 0)=true):0=lenI x:=by
  have h':=beq_iff_eq.1 h
  have:x=0:=lm_nil'.1 (by omega)
  subst this
  rfl
theorem n_eq {z z':Int} (h:z=z'):(some (CR.tv (tN .i64 z)):Option CR)=some (CR.tv (tN .i64 z')):=by rw [h]
section
set_option maxRecDepth 100000
set_option maxHeartbeats 1000000
def cLen:Con Tryz.prog:=con1 109 (fun x=>x.natAbs<340282366920938463463374607431768211456) (fun x => .tv (tN .i64 (lenI x))) ⟨_,Tryz.func109,by kernel_rfl,rfl⟩ (fun x A c w hl hr=>by
  refine fn_ret (cxOk Tryz.prog ints_ok [] [cLen64]) follows Tryz.func109 rfl 100 _ rfl (by simp) ?_ (args1 hr)
  repeat' first
    | exact trivial
    | (refine And.intro (show regChk _ _ _ _ _=true from by kernel_rfl) (And.intro ?_ ?_))
    | (refine And.intro (fun hb=>?_) (fun hb'=>?_))
    | refine And.intro ?_ ?_
    | intro _
  all_goals first
    | (show some (CR.tv (tN .i64 _))=some (CR.tv (tN .i64 _));first|exact n_eq (len_fin hl (by assumption))|exact n_eq (len_zero (by assumption)))
    | (show (0:Int)≤rd _ _;exact (rd_lm _ _).1)
    | (show rd _ _<(_:Int);exact (rd_lm _ _).2)
    | (show (0:Int)≤IntKind.i64.wrap _;exact (top_ge hl (by assumption)).1)
    | (show IntKind.i64.wrap _<(_:Int);exact (top_ge hl (by assumption)).2))
def flL (n:Int):LI Int where
  gs:=fun x=>[(1,.ptr 1 0),(2,.ptr 2 0),(3,.ptr 3 0)]
  bs:=fun x=>[(1,64,[.neg n,.mag n]),(2,64,[.neg 0,.mag 0]),(3,64,[.neg x,.mag x])]
  I:=fun x=>isq n≤x∧x≤4611686018427387904
  μ:=fun x=>x.toNat
theorem len_128 {x:Int} (h0:0≤x) (h:x<340282366920938463463374607431768211456):Len0 x:=by
  have:(lm x).length≤2:=limbs_len (k:=2) (by show x.natAbs<340282366920938463463374607431768211456;omega)
  show (lm x).length≤1000
  omega
theorem isq_pos {n:Int} (h0:0≤n) (h:decide (n=0)=false):1≤isq n:=by
  have h':=of_decide_eq_false h
  obtain ⟨a,b,c⟩:=isq_spec h0
  by_cases hz:isq n=0
  · rw [hz] at c;omega
  · omega
theorem fl_v {n v:Int} (h0:0≤n) (h:decide (n=0)=false) (hv:isq n≤v∧v≤4611686018427387904):0<v∧v<18446744073709551616:=by
  have:=isq_pos h0 h
  omega
theorem fl_q {n v:Int} (h0:0≤n) (hn:n<1329227995784915872903807060280344576) (h:decide (n=0)=false) (hv:isq n≤v∧v≤4611686018427387904):0≤n/v∧n/v<1329227995784915872903807060280344576:=by
  have hp:=(fl_v h0 h hv).1
  have:=Int.ediv_nonneg h0 (show 0≤v by omega)
  have:=Int.ediv_le_self v h0
  omega
theorem fl_e (x:Int):x/2 ^ Int.toNat 1=x/2:=rfl
theorem cmpI_ge {x y:Int} (h:decide (cmpI x y≥0)=true):y≤x:=by
  have:=of_decide_eq_true h
  unfold cmpI at this
  split at this
  · omega
  · omega
theorem cmpI_lt {x y:Int} (h:decide (cmpI x y≥0)=false):x<y:=by
  have:=of_decide_eq_false h
  unfold cmpI at this
  split at this
  · assumption
  · split at this<;>omega
theorem fl_done {n v:Int} (h0:0≤n) (h:decide (n=0)=false) (hv:isq n≤v∧v≤4611686018427387904) (hc:decide (cmpI ((v+n/v)/2 ^ Int.toNat 1) v≥0)=true):v=isq n:=by
  have hp:=(fl_v h0 h hv).1
  have h1:=newton_le hp (cmpI_ge (by rw [fl_e] at hc;exact hc))
  obtain ⟨a,b,c⟩:=isq_spec h0
  have:=sq_lt (a:=v) (b:=isq n+1) (by omega) (by omega) (by omega)
  omega
theorem fl_next {n v:Int} (h0:0≤n) (h:decide (n=0)=false) (hv:isq n≤v∧v≤4611686018427387904) (hc:decide (cmpI ((v+n/v)/2 ^ Int.toNat 1) v≥0)=false) :
    ((v+n/v)/2 ^ Int.toNat 1).toNat<v.toNat∧isq n≤(v+n/v)/2 ^ Int.toNat 1∧(v+n/v)/2 ^ Int.toNat 1≤4611686018427387904:=by
  have hp:=(fl_v h0 h hv).1
  rw [fl_e] at hc ⊢
  have h1:=cmpI_lt hc
  have h2:=newton_ge hp (isq_spec h0).2.1
  have:=isq_pos h0 h
  generalize (v+n/v)/2=y at *
  omega
theorem fl_zero {n:Int} (h:decide (n=0)=true):0=isq n:=by
  rw [of_decide_eq_true h];rfl
theorem fl_pw {n:Int} (h0:0≤n) (hn:n<1329227995784915872903807060280344576):0≤IntKind.i64.wrap (IntKind.i64.wrap ((lenI n).tdiv 2)+1)∧IntKind.i64.wrap (IntKind.i64.wrap ((lenI n).tdiv 2)+1)≤61∧isq n≤2 ^ (IntKind.i64.wrap (IntKind.i64.wrap ((lenI n).tdiv 2)+1)).toNat:=by
  have hb:lenI n≤120:=by
    unfold lenI
    split
    · decide
    · split
      · have:=bl_le n.natAbs (by omega);omega
      · have:=Lib.bitLen_le (n.natAbs/18446744073709551616) 56 (by omega) (by show _<72057594037927936;omega);omega
  obtain ⟨a,b,c⟩:=len_spec (x:=n) (by omega)
  have e:(lenI n).tdiv 2=lenI n/2:=Int.tdiv_eq_ediv_of_nonneg a
  rw [i64_w,i64_w,e,wrap64_id (x:=lenI n/2) (by omega) (by omega),wrap64_id (by omega) (by omega)]
  refine ⟨by omega,by omega,?_⟩
  generalize lenI n=L at *
  obtain ⟨r1,r2,r3⟩:=isq_spec h0
  have:isq n<2 ^ (L/2+1).toNat:=by
    refine sq_lt r1 (Int.pow_nonneg (by decide)) (Int.lt_of_le_of_lt r2 ?_)
    rw [← Int.pow_add]
    have h1:(n.natAbs:Int)<2 ^ L.toNat:=by exact_mod_cast c
    have h2:(2:Int) ^ L.toNat≤2 ^ ((L/2+1).toNat+(L/2+1).toNat):=by
      have:=Nat.pow_le_pow_right (show 0<2 by decide) (show L.toNat≤(L/2+1).toNat+(L/2+1).toNat by omega)
      exact_mod_cast this
    omega
  omega
theorem pow_61 {k:Int} (h:k≤61):(2:Int) ^ k.toNat≤4611686018427387904:=by
  have h1:2 ^ k.toNat≤2 ^ 62:=Nat.pow_le_pow_right (show 0<2 by decide) (show k.toNat≤62 by omega)
  have h2:=Int.ofNat_le.2 h1
  rw [Int.natCast_pow] at h2
  exact h2
def cFloor:Con Tryz.prog:=con1 78 (fun n=>0≤n∧n<1329227995784915872903807060280344576) (fun n => .tv (tI (isq n))) ⟨_,Tryz.func78,by kernel_rfl,rfl⟩ (fun n A c w hl hr=>by
  obtain ⟨h0,hn⟩:=hl
  refine fnl_ret (flL n) (cxOk Tryz.prog ints_ok [] [cLen,cDown,cRight,cAdd,cCmp,cZero,cPower]) follows Tryz.func78 rfl 100 _ rfl (by simp) ?_ (args1 hr)
  repeat' first
    | exact trivial
    | (refine And.intro (show regChk _ _ _ _ _=true from by kernel_rfl) (And.intro ?_ ?_))
    | (refine And.intro (fun hb=>?_) (fun hb'=>?_))
    | refine And.intro ?_ ?_
    | (show ¬ _;show (2:Int)≠0;decide)
    | intro _
  all_goals first
    | (show (_:Int)=(_:Int);rfl)
    | (show wfB _ _=true;rfl)
    | (show Int.natAbs _<(_:Nat);omega)
    | (show (0:Int)≤IntKind.i64.wrap _;exact (fl_pw h0 hn).1)
    | (show IntKind.i64.wrap _≤(6400:Int);exact Int.le_trans (fl_pw h0 hn).2.1 (by decide))
    | (show (∃ v,atL (flL n) v _);exact ⟨_,⟨(fl_pw h0 hn).2.2,pow_61 (fl_pw h0 hn).2.1⟩,⟨rfl,rfl,rfl,trivial⟩,⟨rfl,⟨rfl,rfl,trivial⟩,⟨rfl,⟨rfl,rfl,trivial⟩,⟨rfl,⟨rfl,rfl,trivial⟩,trivial⟩⟩⟩⟩)
    | (show (∃ v',(flL n).μ v'<(flL n).μ _∧atL (flL n) v' _);exact ⟨_,(fl_next h0 (by assumption) (by assumption) (by assumption)).1,(fl_next h0 (by assumption) (by assumption) (by assumption)).2,⟨rfl,rfl,rfl,trivial⟩,⟨rfl,⟨rfl,rfl,trivial⟩,⟨rfl,⟨rfl,rfl,trivial⟩,⟨rfl,⟨rfl,rfl,trivial⟩,trivial⟩⟩⟩⟩)
    | (show Len0 n;exact len_128 h0 (by omega))
    | (show Len0 (_+_);exact len_128 (by have:=fl_v h0 (by assumption) (by assumption);have:=fl_q h0 hn (by assumption) (by assumption);omega) (by have:=fl_v h0 (by assumption) (by assumption);have:=fl_q h0 hn (by assumption) (by assumption);omega))
    | (show Len0 (_/_);exact len_128 (fl_q h0 hn (by assumption) (by assumption)).1 (by have:=fl_q h0 hn (by assumption) (by assumption);omega))
    | (show Len0 _;exact len_128 (by have:=fl_v h0 (by assumption) (by assumption);omega) (by have:=fl_v h0 (by assumption) (by assumption);omega))
    | (show (0:Int)<_;exact (fl_v h0 (by assumption) (by assumption)).1)
    | (show _<(18446744073709551616:Int);exact (fl_v h0 (by assumption) (by assumption)).2)
    | (show (0:Int)≤_+_;have:=fl_v h0 (by assumption) (by assumption);have:=fl_q h0 hn (by assumption) (by assumption);omega)
    | (show (_:Int)≤_;decide)
    | (show some (CR.tv (tI _))=some (CR.tv (tI _));first|exact wh_eq (fl_zero (by assumption))|exact wh_eq (fl_done h0 (by assumption) (by assumption) (by assumption))))
theorem len_mul (x y:Int):(lm (x*y)).length≤(lm x).length+(lm y).length:=by
  refine limbs_len ?_
  rw [Int.natAbs_mul,Nat.pow_add]
  have h1:x.natAbs<18446744073709551616 ^ (lm x).length:=by have:=val_lt (limbs_dig x.natAbs);rw [val_limbs] at this;exact this
  have h2:y.natAbs<18446744073709551616 ^ (lm y).length:=by have:=val_lt (limbs_dig y.natAbs);rw [val_limbs] at this;exact this
  exact Nat.mul_lt_mul'' h1 h2
def nearB (n d x:Int):Bool:=bif decide (cmpI ((x*2 ^ Int.toNat 1+1)*(x*2 ^ Int.toNat 1+1)*d) (n*2 ^ Int.toNat 2)<0) then true else bif cmpI ((x*2 ^ Int.toNat 1+1)*(x*2 ^ Int.toNat 1+1)*d) (n*2 ^ Int.toNat 2) == 0 then !decide (x%2=0) else false
def nearR (n d:Int):Int:=if nearB n d (isq (n/d))=true then isq (n/d)+1 else isq (n/d)
theorem isq_le {n:Int} (h0:0≤n) (hn:n<1329227995784915872903807060280344576):0≤isq n∧isq n<1329227995784915872903807060280344576:=by
  obtain ⟨a,b,c⟩:=isq_spec h0
  refine ⟨a,?_⟩
  by_cases h:isq n=0
  · omega
  · have:=Int.mul_le_mul_of_nonneg_left (show 1≤isq n by omega) a
    omega
theorem div_bd {n d:Int} (h0:0≤n) (hn:n<1329227995784915872903807060280344576) (hd:0<d):0≤n/d∧n/d<1329227995784915872903807060280344576:=by
  have:=Int.ediv_nonneg h0 (show 0≤d by omega)
  have:=Int.ediv_le_self d h0
  omega
theorem len2 {x:Int} (h0:0≤x) (h:x<340282366920938463463374607431768211456):(lm x).length≤2:=limbs_len (k:=2) (by show x.natAbs<340282366920938463463374607431768211456;omega)
theorem near1 {n d:Int} (h:nearB n d (isq (n/d))=true):isq (n/d)+1=nearR n d:=by unfold nearR;rw [if_pos h]
theorem near0 {n d:Int} (h:nearB n d (isq (n/d))=false):isq (n/d)=nearR n d:=by unfold nearR;rw [h];rfl
def cNearest:Con Tryz.prog:=con2 41 (fun n d=>(0≤n∧n<1329227995784915872903807060280344576)∧0<d∧d<18446744073709551616) (fun n d => .tv (tI (nearR n d))) ⟨_,Tryz.func41,by kernel_rfl,rfl⟩ (fun n d A A' c c' w hl hr hr'=>by
  obtain ⟨⟨h0,hn⟩,hd,hd'⟩:=hl
  have q:=div_bd h0 hn hd
  have s:=isq_le q.1 q.2
  have l1:Len0 (isq (n/d)):=len_128 s.1 (by omega)
  have l2:Len0 (isq (n/d)*2 ^ Int.toNat 1):=len_128 (by show 0≤_*2;omega) (by show _*2<(_:Int);omega)
  have l4:(lm (isq (n/d)*2 ^ Int.toNat 1+1)).length≤2:=len2 (by show 0≤_*2+1;omega) (by show _*2+1<(_:Int);omega)
  have l3:Len0 (isq (n/d)*2 ^ Int.toNat 1+1):=Nat.le_trans l4 (by decide)
  have l5:Len0 ((isq (n/d)*2 ^ Int.toNat 1+1)*(isq (n/d)*2 ^ Int.toNat 1+1)):=Nat.le_trans (len_mul _ _) (by omega)
  have l6:(lm d).length≤1:=lm_one d (by omega)
  have l7:Len0 n:=len_128 h0 (by omega)
  refine fn_ret (cxOk Tryz.prog ints_ok [] [cFloor,cDown,cLeft,cOne,cAdd,cMul,cCmp,cEven]) follows Tryz.func41 rfl 100 _ rfl (by simp) ?_ (args2 hr hr')
  repeat' first
    | exact trivial
    | (refine And.intro (show regChk _ _ _ _ _=true from by kernel_rfl) (And.intro ?_ ?_))
    | (refine And.intro (fun hb=>?_) (fun hb'=>?_))
    | refine And.intro ?_ ?_
    | intro _
  all_goals first
    | (show (_:Int)=(_:Int);rfl)
    | (show Len0 _;first|exact l7|exact l1|exact l2|exact l3|exact l5|exact len_1)
    | (show List.length _<24;first|exact Nat.lt_of_le_of_lt l6 (by decide)|exact Nat.lt_of_le_of_lt l4 (by decide))
    | (show (0:Int)≤(1:Int);decide)
    | (show (0:Int)≤(2:Int);decide)
    | (show (_:Int)≤6400;decide)
    | exact q.1
    | exact q.2
    | exact hd
    | exact hd'
    | (show some (CR.tv (tI _))=some (CR.tv (tI _));first|exact wh_eq (near1 (by assumption))|exact wh_eq (near0 (by assumption)))
    | (show (_:Bool)=(_:Bool);first|assumption|exact beq_iff_eq.2 (by assumption)|exact g2 (by assumption) (by assumption)))
end
end Go.Proofs.YtmnkaldemjdcoaaGreat.Wh
end
section
set_option linter.unusedVariables false
set_option linter.unusedSimpArgs false
namespace Go.Proofs.YtmnkaldemjdcoaaGreat.Wh
open Go RowKit YtmnkaldemjdcoaaGreatW.PrintWords YtmnkaldemjdcoaaGreatW.PrintMore YtmnkaldemjdcoaaGreatW.Aid YtmnkaldemjdcoaaGreatW.Big YtmnkaldemjdcoaaGreatW.Sx YtmnkaldemjdcoaaGreat.BitsWalk YtmnkaldemjdcoaaGreat.Limbs YtmnkaldemjdcoaaGreat.Whole YtmnkaldemjdcoaaGreat.R90 YtmnkaldemjdcoaaGreat.QN90 Go.Proofs
theorem Ret.conv {f:FuncId} {us:Array Value} {w:World} {r r':CR} (h:Ret Tryz.prog f us w r) (hc:∀ w' u,r.told w w' u→r'.told w w' u):Ret Tryz.prog f us w r' :=
  h.mono fun _ _ ⟨u,he,ht,hb⟩=>⟨u,he,hc _ _ ht,hb⟩
theorem told_made {b:Bool} {m z:Int} {w w':World} {u:Value} (h:(CR.tv (.agg [.v (.bool b),.mag m])).told w w' u) (hb:b=sgn z) (hm:lm m=lm z):(CR.tv (tI z)).told w w' u:=by
  obtain ⟨us,rfl,h⟩:=h
  cases h with
  | cons h1 h2 =>
    cases h2 with
    | cons h2 h3 =>
      cases h3
      obtain ⟨A,c,rfl,hr⟩:=h2
      refine ⟨_,rfl,.cons ?_ (.cons ⟨A,c,by rw [hm],by rw [← hm];exact hr⟩ .nil)⟩
      show _=Value.bool (sgn z)
      rw [show _=Value.bool b from h1,hb]
abbrev tMade (b:Bool) (m:Int):CR := .tv (.agg [.v (.bool b),.mag m])
theorem ncmp_ge {x y:Int} (h:decide (cmpN x.natAbs y.natAbs≥0)=true):y.natAbs≤x.natAbs:=by
  have h:=of_decide_eq_true h
  unfold cmpN at h
  split at h
  · omega
  · omega
theorem ncmp_lt {x y:Int} (h:decide (cmpN x.natAbs y.natAbs≥0)=false):x.natAbs≤y.natAbs:=by
  have h:=of_decide_eq_false h
  unfold cmpN at h
  split at h
  · omega
  · split at h<;>omega
theorem sign_p {x:Int} (h:sgn x=false) (h':decide (((lm x).length:Int)>0)=true):1=cmpI x 0:=by
  have h1:=sgn_f h
  have h2:=lm_pos.1 h'
  unfold cmpI;rw [if_neg (by omega),if_pos (by omega)]
theorem sign_z {x:Int} (h:sgn x=false) (h':decide (((lm x).length:Int)>0)=false):0=cmpI x 0:=by
  have h1:=sgn_f h
  have h2:x=0:=by
    by_cases hz:x=0
    · exact hz
    · rw [lm_pos.2 hz] at h';cases h'
  unfold cmpI;rw [if_neg (by omega),if_neg (by omega)]
theorem div_pow_cases (x:Int) (k:Nat) (hx:x<0):(x.natAbs/2 ^ k*2 ^ k=x.natAbs∧x/2 ^ k = -((x.natAbs/2 ^ k:Nat):Int))∨(x.natAbs/2 ^ k*2 ^ k<x.natAbs∧x/2 ^ k = -((x.natAbs/2 ^ k:Nat):Int)-1):=by
  have hp:0<2 ^ k:=Nat.two_pow_pos k
  have hpi:((2 ^ k:Nat):Int)=2 ^ k:=by norm_cast
  obtain ⟨Q,R,e1,e2,h⟩:=div_cases (x:=x) (y:=((2 ^ k:Nat):Int)) (by omega)
  rw [Int.natAbs_natCast] at e1 e2
  rw [hpi] at h
  have e3:=Nat.div_add_mod x.natAbs (2 ^ k)
  rw [e1,e2] at e3
  rw [e1]
  rw [Nat.mul_comm] at e3
  rcases h with h|h|h
  · omega
  · left;exact ⟨by omega,h.2.2.1⟩
  · right;exact ⟨by omega,h.2.2.1⟩
theorem right_up {x:Int} {k:Nat} (h:(bif sgn x then cmpN (((((x.natAbs/2 ^ k:Nat):Int).natAbs*2 ^ k:Nat):Int)).natAbs x.natAbs != 0 else false)=true) :
    ofS (sgn x) (((((x.natAbs/2 ^ k:Nat):Int).natAbs+(((1:Int).toNat:Nat):Int).natAbs:Nat):Int)).natAbs=x/2 ^ k:=by
  have h1:=and1 h
  have h2:=and2 h
  have hx:=sgn_t h1
  rw [Int.natAbs_natCast,Int.natAbs_natCast] at h2
  simp only [Int.natAbs_natCast]
  rw [h1]
  rcases div_pow_cases x k hx with ⟨e1,e2⟩|⟨e1,e2⟩
  · rw [e1] at h2
    unfold cmpN at h2
    simp at h2
  · rw [e2]
    show -(((x.natAbs/2 ^ k+1:Nat)):Int)=_
    omega
theorem right_dn {x:Int} {k:Nat} (h:(bif sgn x then cmpN (((((x.natAbs/2 ^ k:Nat):Int).natAbs*2 ^ k:Nat):Int)).natAbs x.natAbs != 0 else false)=false) :
    ofS (sgn x) ((x.natAbs/2 ^ k:Nat):Int).natAbs=x/2 ^ k:=by
  rw [Int.natAbs_natCast]
  by_cases h1:sgn x=true
  · have h2:=and3 h h1
    have hx:=sgn_t h1
    rw [Int.natAbs_natCast,Int.natAbs_natCast] at h2
    rw [h1]
    rcases div_pow_cases x k hx with ⟨e1,e2⟩|⟨e1,e2⟩
    · rw [e2];rfl
    · unfold cmpN at h2
      rw [if_pos e1] at h2
      simp at h2
  · have hs:sgn x=false:=by simpa using h1
    rw [hs]
    have hx:=sgn_f hs
    show ((x.natAbs/2 ^ k:Nat):Int)=_
    have hpi:((2 ^ k:Nat):Int)=2 ^ k:=by norm_cast
    rw [Int.natCast_ediv,hpi,Int.natAbs_of_nonneg hx]
theorem bif_comm {a b:Bool}:(bif a then b else false)=(bif b then a else false):=by cases a<;>cases b<;>rfl
theorem rdv1 {x y:Int} (hy:0<y) (hb:(bif !(sgn x == sgn y) then decide (((lm ((x.natAbs%y.natAbs:Nat):Int)).length:Int)>0) else false)=true) :
    ofS (!(sgn x == sgn y)) ((x.natAbs/y.natAbs:Nat):Int).natAbs-1=x/y∧x-(ofS (!(sgn x == sgn y)) ((x.natAbs/y.natAbs:Nat):Int).natAbs-1)*y=x%y:=by
  rw [bif_comm] at hb
  have h:=(dv1 hy hb).1
  refine ⟨h,?_⟩
  rw [h,Int.emod_def,Int.mul_comm]
theorem rdv2 {x y:Int} (hy:0<y) (hb:(bif !(sgn x == sgn y) then decide (((lm ((x.natAbs%y.natAbs:Nat):Int)).length:Int)>0) else false)=false) :
    ofS (!(sgn x == sgn y)) ((x.natAbs/y.natAbs:Nat):Int).natAbs=x/y∧x-ofS (!(sgn x == sgn y)) ((x.natAbs/y.natAbs:Nat):Int).natAbs*y=x%y:=by
  rw [bif_comm] at hb
  have h:=(dv2 hy hb).1
  refine ⟨h,?_⟩
  rw [h,Int.emod_def,Int.mul_comm]
theorem small_bits {x:Int} (h0:(((lm x).length:Int) == 0)=false) {b:Bool} (h:(bif (bif decide (((lm x).length:Int)>1) then true else bif sgn x then decide (rd (lm x) 0>9223372036854775808) else false) then true else bif !(sgn x) then decide (rd (lm x) 0≥9223372036854775808) else false)=b) :
    (b=true→¬ (-9223372036854775808≤x∧x≤9223372036854775807))∧(b=false→(-9223372036854775808≤x∧x≤9223372036854775807)∧rd (lm x) 0=(x.natAbs:Int)):=by
  have hz:x≠0:=by
    rintro rfl
    rw [lm_zero] at h0;cases h0
  by_cases h1:((lm x).length:Int)>1
  · have hm:=low_many h1
    rw [decide_eq_true h1] at h
    simp only [cond_true] at h
    subst h
    exact ⟨fun _=>(by omega),fun h=>(by cases h)⟩
  · have hw:=low_word hz h1
    rw [decide_eq_false h1,hw] at h
    simp only [cond_false] at h
    cases hs:sgn x with
    | true =>
      have hx:=sgn_t hs
      rw [hs] at h
      simp only [cond_true,Bool.not_true,cond_false] at h
      by_cases h2:(x.natAbs:Int)>9223372036854775808
      · rw [decide_eq_true h2] at h
        simp only [cond_true] at h
        subst h
        exact ⟨fun _=>(by omega),fun h=>(by cases h)⟩
      · rw [decide_eq_false h2] at h
        simp only [cond_false] at h
        subst h
        exact ⟨fun h=>(by cases h),fun _=>⟨by omega,hw⟩⟩
    | false =>
      have hx:=sgn_f hs
      rw [hs] at h
      simp only [cond_true,Bool.not_false,cond_false] at h
      by_cases h2:(x.natAbs:Int)≥9223372036854775808
      · rw [decide_eq_true h2] at h
        subst h
        exact ⟨fun _=>(by omega),fun h=>(by cases h)⟩
      · rw [decide_eq_false h2] at h
        subst h
        exact ⟨fun h=>(by cases h),fun _=>⟨by omega,hw⟩⟩
theorem rsmall1 {x:Int} (h0:(((lm x).length:Int) == 0)=false) (h:(bif (bif decide (((lm x).length:Int)>1) then true else bif sgn x then decide (rd (lm x) 0>9223372036854775808) else false) then true else bif !(sgn x) then decide (rd (lm x) 0≥9223372036854775808) else false)=true) :
    ((0:Int),false)=((smallI x).1,(smallI x).2):=by
  rw [small_no ((small_bits h0 h).1 rfl)]
theorem rsmall2 {x:Int} (h0:(((lm x).length:Int) == 0)=false) (h:(bif (bif decide (((lm x).length:Int)>1) then true else bif sgn x then decide (rd (lm x) 0>9223372036854775808) else false) then true else bif !(sgn x) then decide (rd (lm x) 0≥9223372036854775808) else false)=false) (hs:sgn x=true) :
    (IntKind.i64.wrap (IntKind.u64.wrap (0-rd (lm x) 0)),true)=((smallI x).1,(smallI x).2):=by
  obtain ⟨h1,h2⟩:=(small_bits h0 h).2 rfl
  have hx:=sgn_t hs
  rw [small_yes h1,h2,u64_wrap,i64_wrap]
  unfold wrap64
  have:((0-(x.natAbs:Int))%18446744073709551616+9223372036854775808)%18446744073709551616-9223372036854775808=x:=by omega
  rw [this]
theorem rsmall3 {x:Int} (h0:(((lm x).length:Int) == 0)=false) (h:(bif (bif decide (((lm x).length:Int)>1) then true else bif sgn x then decide (rd (lm x) 0>9223372036854775808) else false) then true else bif !(sgn x) then decide (rd (lm x) 0≥9223372036854775808) else false)=false) (hs:sgn x=false) :
    (IntKind.i64.wrap (rd (lm x) 0),true)=((smallI x).1,(smallI x).2):=by
  obtain ⟨h1,h2⟩:=(small_bits h0 h).2 rfl
  have hx:=sgn_f hs
  rw [small_yes h1,h2,i64_wrap]
  unfold wrap64
  have:((x.natAbs:Int)+9223372036854775808)%18446744073709551616-9223372036854775808=x:=by omega
  rw [this]
theorem cmp_sub (x y:Int):cmpI (x-y) 0=cmpI x y:=by
  unfold cmpI
  by_cases h:x<y
  · rw [if_pos (by omega),if_pos h]
  · rw [if_neg (by omega),if_neg h]
    by_cases h2:y<x
    · rw [if_pos (by omega),if_pos h2]
    · rw [if_neg (by omega),if_neg h2]
section
set_option maxRecDepth 100000
set_option maxHeartbeats 1000000
def rMade:Con Tryz.prog:=conOf 85 (fun b m => .tv (tI (ofS b m))) ⟨_,Tryz.func85,by kernel_rfl,rfl⟩ (fun b m A c w hr=>by
  refine Ret.conv (r:=tMade (bif b then decide (((lm (m:Int)).length:Int)>0) else false) (m:Int)) ?_ (fun w' u h=>told_made h ?_ (by rw [lm_ofS,lm_nat]))
  · refine fn_ret (cxOk Tryz.prog intsR_ok [] refK) follows Tryz.func85 rfl 100 _ rfl (by simp) ?_ (xs:=[tB b,tM m]) (.cons rfl (.cons ⟨A,c,by rw [lm_nat],by rw [lm_nat];exact hr⟩ .nil))
    repeat' first
      | exact trivial
      | (refine And.intro (show regChk _ _ _ _ _=true from by kernel_rfl) (And.intro ?_ ?_))
      | (refine And.intro (fun hb=>?_) (fun hb'=>?_))
      | refine And.intro ?_ ?_
      | intro _
    all_goals first
      | assumption
      | exact beq_iff_eq.2 (by assumption)
      | (show some (CR.tv _)=some (CR.tv _);rfl)
      -- PVC
  · rw [sgn_ofS,lm_nat]
    cases b
    · rfl
    · rw [Bool.true_and,Bool.eq_iff_iff]
      simp only [cond_true,decide_eq_true_eq]
      omega)
def rSize:Con Tryz.prog:=conN 86 I64 (fun n => .tv (tN .u64 n.natAbs)) ⟨_,Tryz.func86,by kernel_rfl,rfl⟩ (fun n w hl=>by
  refine fn_ret (cxOk Tryz.prog intsR_ok [] refK) follows Tryz.func86 rfl 100 _ rfl (by simp) ?_ (xs:=[tN .i64 n]) (.cons rfl .nil)
  repeat' first
    | exact trivial
    | (refine And.intro (show regChk _ _ _ _ _=true from by kernel_rfl) (And.intro ?_ ?_))
    | (refine And.intro (fun hb=>?_) (fun hb'=>?_))
    | refine And.intro ?_ ?_
    | intro _
  all_goals first
    | (show some (CR.tv (tN _ _))=some (CR.tv (tN _ _));refine tN_eq ?_;rw [u64_wrap];(try rw [u64_wrap]);have:=hl;unfold I64 at this;(first|(have h0:n<0:=of_decide_eq_true (by assumption);omega)|(have h0:¬ n<0:=of_decide_eq_false (by assumption);omega)))
    -- PVC
  )
def rFrom:Con Tryz.prog:=conN 48 I64 (fun n => .tv (tI n)) ⟨_,Tryz.func48,by kernel_rfl,rfl⟩ (fun n w hl=>by
  have hl1 : -9223372036854775808≤n∧n<9223372036854775808:=hl
  refine fn_ret (cxOk Tryz.prog intsR_ok [] [rMade,rSize,cNOf]) follows Tryz.func48 rfl 100 _ rfl (by simp) ?_ (xs:=[tN .i64 n]) (.cons rfl .nil)
  repeat' first
    | exact trivial
    | (refine And.intro (show regChk _ _ _ _ _=true from by kernel_rfl) (And.intro ?_ ?_))
    | (refine And.intro (fun hb=>?_) (fun hb'=>?_))
    | refine And.intro ?_ ?_
    | intro _
  all_goals first
    | (show (_:Int)=(_:Int);rfl)
    | (show (_:Bool)=(_:Bool);first|assumption|exact beq_iff_eq.2 (by assumption)|exact g2 (by assumption) (by assumption))
    | (with_reducible exact hl1.1)
    | (with_reducible exact hl1.2)
    | (with_reducible exact Int.natCast_nonneg _)
    | (show ((n.natAbs:Nat):Int)<_;have:=hl;unfold I64 at this;omega)
    | (show some (CR.tv (tI _))=some (CR.tv (tI _));(refine wh_eq ?_;show ofS (decide (n<0)) n.natAbs=n;unfold ofS;split<;>simp_all<;>omega))
    -- PVC
  )
def rSign:Con Tryz.prog:=con1 124 (fun _=>True) (fun x => .tv (tN .i64 (cmpI x 0))) ⟨_,Tryz.func124,by kernel_rfl,rfl⟩ (fun x A c w hl hr=>by
  refine fn_ret (cxOk Tryz.prog intsR_ok [] []) follows Tryz.func124 rfl 100 _ rfl (by simp) ?_ (args1 hr)
  repeat' first
    | exact trivial
    | (refine And.intro (show regChk _ _ _ _ _=true from by kernel_rfl) (And.intro ?_ ?_))
    | (refine And.intro (fun hb=>?_) (fun hb'=>?_))
    | refine And.intro ?_ ?_
    | intro _
  all_goals first
    | (show (_:Int)=(_:Int);rfl)
    | (show (_:Bool)=(_:Bool);first|assumption|exact beq_iff_eq.2 (by assumption)|exact g2 (by assumption) (by assumption))
    | (show some (CR.tv (tN _ _))=some (CR.tv (tN _ _));first|exact tN_eq (cmpI_np (sgn_t (by assumption)) (Int.le_refl 0))|exact tN_eq (sign_p (by assumption) (by assumption))|exact tN_eq (sign_z (by assumption) (by assumption)))
    -- PVC
  )
def rNeg:Con Tryz.prog:=con1 71 (fun _=>True) (fun x => .tv (tI (-x))) ⟨_,Tryz.func71,by kernel_rfl,rfl⟩ (fun x A c w hl hr=>by
  refine fn_ret (cxOk Tryz.prog intsR_ok [] [rMade]) follows Tryz.func71 rfl 100 _ rfl (by simp) ?_ (args1 hr)
  repeat' first
    | exact trivial
    | (refine And.intro (show regChk _ _ _ _ _=true from by kernel_rfl) (And.intro ?_ ?_))
    | (refine And.intro (fun hb=>?_) (fun hb'=>?_))
    | refine And.intro ?_ ?_
    | intro _
  all_goals first
    | (show (_:Int)=(_:Int);rfl)
    | (show (_:Bool)=(_:Bool);first|assumption|exact beq_iff_eq.2 (by assumption)|exact g2 (by assumption) (by assumption))
    | (show some (CR.tv (tI _))=some (CR.tv (tI _));exact wh_eq (ofS_neg' x))
    -- PVC
  )
def rZero:Con Tryz.prog:=con1 46 (fun _=>True) (fun x => .tv (tB (decide (x=0)))) ⟨_,Tryz.func46,by kernel_rfl,rfl⟩ (fun x A c w hl hr=>by
  refine fn_ret (cxOk Tryz.prog intsR_ok [] []) follows Tryz.func46 rfl 100 _ rfl (by simp) ?_ (args1 hr)
  repeat' first
    | exact trivial
    | (refine And.intro (show regChk _ _ _ _ _=true from by kernel_rfl) (And.intro ?_ ?_))
    | (refine And.intro (fun hb=>?_) (fun hb'=>?_))
    | refine And.intro ?_ ?_
    | intro _
  all_goals first
    | (show (_:Int)=(_:Int);rfl)
    | (show (_:Bool)=(_:Bool);first|assumption|exact beq_iff_eq.2 (by assumption)|exact g2 (by assumption) (by assumption))
    | (show some (CR.tv (tB _))=some (CR.tv (tB _));exact tB_eq (show (((lm x).length:Int) == 0)=_ by rw [Bool.eq_iff_iff];simp only [beq_iff_eq,decide_eq_true_eq];have:=lm_nil' (x:=x);omega))
    -- PVC
  )
def rLen:Con Tryz.prog:=con1 121 (BI 20000) (fun x => .tv (tN .i64 (bitsN x.natAbs))) ⟨_,Tryz.func121,by kernel_rfl,rfl⟩ (fun x A c w hl hr=>by
  refine fn_ret (cxOk Tryz.prog intsR_ok [] [cNLen]) follows Tryz.func121 rfl 100 _ rfl (by simp) ?_ (args1 hr)
  repeat' first
    | exact trivial
    | (refine And.intro (show regChk _ _ _ _ _=true from by kernel_rfl) (And.intro ?_ ?_))
    | (refine And.intro (fun hb=>?_) (fun hb'=>?_))
    | refine And.intro ?_ ?_
    | intro _
  all_goals first
    | (show (_:Int)=(_:Int);rfl)
    | (show (_:Bool)=(_:Bool);first|assumption|exact beq_iff_eq.2 (by assumption)|exact g2 (by assumption) (by assumption))
    | exact hl
    | (show some (CR.tv (tN _ _))=some (CR.tv (tN _ _));rfl)
    -- PVC
  )
def rPlus:Con Tryz.prog:=con2 66 (fun x y=>BI 20000 x∧BI 20000 y) (fun x y => .tv (tI (x+y))) ⟨_,Tryz.func66,by kernel_rfl,rfl⟩ (fun x y A A' c c' w hl hr hr'=>by
  refine fn_ret (cxOk Tryz.prog intsR_ok [] [rMade,cNPlus,cNLess,cNCmp]) follows Tryz.func66 rfl 100 _ rfl (by simp) ?_ (args2 hr hr')
  repeat' first
    | exact trivial
    | (refine And.intro (show regChk _ _ _ _ _=true from by kernel_rfl) (And.intro ?_ ?_))
    | (refine And.intro (fun hb=>?_) (fun hb'=>?_))
    | refine And.intro ?_ ?_
    | intro _
  all_goals first
    | (show (_:Int)=(_:Int);rfl)
    | (show (_:Bool)=(_:Bool);first|assumption|exact beq_iff_eq.2 (by assumption)|exact g2 (by assumption) (by assumption))
    | exact hl.1
    | exact hl.2
    | (show (_:Nat)≤(_:Nat);first|exact ncmp_ge (by assumption)|exact ncmp_lt (by assumption))
    | (show some (CR.tv (tI _))=some (CR.tv (tI _));(first|exact wh_eq (ofS_add' (by assumption))|exact wh_eq (ofS_sub' (by assumption) (ncmp_ge (by assumption)))|exact wh_eq ((ofS_sub' (x:=y) (y:=x) (by rw [show (sgn y == sgn x)=(sgn x == sgn y) from Bool.beq_comm];assumption) (ncmp_lt (by assumption))).trans (Int.add_comm _ _))))
    -- PVC
  )
def rLess:Con Tryz.prog:=con2 88 (fun x y=>BI 20000 x∧BI 20000 y) (fun x y => .tv (tI (x-y))) ⟨_,Tryz.func88,by kernel_rfl,rfl⟩ (fun x y A A' c c' w hl hr hr'=>by
  refine fn_ret (cxOk Tryz.prog intsR_ok [] [rPlus,rNeg]) follows Tryz.func88 rfl 100 _ rfl (by simp) ?_ (args2 hr hr')
  repeat' first
    | exact trivial
    | (refine And.intro (show regChk _ _ _ _ _=true from by kernel_rfl) (And.intro ?_ ?_))
    | (refine And.intro (fun hb=>?_) (fun hb'=>?_))
    | refine And.intro ?_ ?_
    | intro _
  all_goals first
    | (show (_:Int)=(_:Int);rfl)
    | (show (_:Bool)=(_:Bool);first|assumption|exact beq_iff_eq.2 (by assumption)|exact g2 (by assumption) (by assumption))
    | exact hl.1
    | (show BI 20000 (-y);exact hl.2.neg)
    | (show some (CR.tv (tI _))=some (CR.tv (tI _));exact wh_eq (by omega))
    -- PVC
  )
def rTimes:Con Tryz.prog:=con2 70 (fun x y=>BI 20000 x∧BI 20000 y) (fun x y => .tv (tI (x*y))) ⟨_,Tryz.func70,by kernel_rfl,rfl⟩ (fun x y A A' c c' w hl hr hr'=>by
  refine fn_ret (cxOk Tryz.prog intsR_ok [] [rMade,cNTimes]) follows Tryz.func70 rfl 100 _ rfl (by simp) ?_ (args2 hr hr')
  repeat' first
    | exact trivial
    | (refine And.intro (show regChk _ _ _ _ _=true from by kernel_rfl) (And.intro ?_ ?_))
    | (refine And.intro (fun hb=>?_) (fun hb'=>?_))
    | refine And.intro ?_ ?_
    | intro _
  all_goals first
    | (show (_:Int)=(_:Int);rfl)
    | (show (_:Bool)=(_:Bool);first|assumption|exact beq_iff_eq.2 (by assumption)|exact g2 (by assumption) (by assumption))
    | exact hl.1
    | exact hl.2
    | (show some (CR.tv (tI _))=some (CR.tv (tI _));exact wh_eq (ofS_prod' x y))
    -- PVC
  )
def rCmp:Con Tryz.prog:=con2 102 (fun x y=>BI 20000 x∧BI 20000 y) (fun x y => .tv (tN .i64 (cmpI x y))) ⟨_,Tryz.func102,by kernel_rfl,rfl⟩ (fun x y A A' c c' w hl hr hr'=>by
  refine fn_ret (cxOk Tryz.prog intsR_ok [] [rSign,rLess]) follows Tryz.func102 rfl 100 _ rfl (by simp) ?_ (args2 hr hr')
  repeat' first
    | exact trivial
    | (refine And.intro (show regChk _ _ _ _ _=true from by kernel_rfl) (And.intro ?_ ?_))
    | (refine And.intro (fun hb=>?_) (fun hb'=>?_))
    | refine And.intro ?_ ?_
    | intro _
  all_goals first
    | (show (_:Int)=(_:Int);rfl)
    | (show (_:Bool)=(_:Bool);first|assumption|exact beq_iff_eq.2 (by assumption)|exact g2 (by assumption) (by assumption))
    | exact hl.1
    | exact hl.2
    | (show some (CR.tv (tN _ _))=some (CR.tv (tN _ _));exact tN_eq (cmp_sub x y))
    -- PVC
  )
def rLeft:Con Tryz.prog:=con1n 47 (fun x n=>BI 20000 x∧0≤n∧n≤6400) (fun x n => .tv (tI (x*2 ^ n.toNat))) ⟨_,Tryz.func47,by kernel_rfl,rfl⟩ (fun x n A c w hl hr=>by
  have e:=ofS_mul' x (2 ^ n.toNat)
  rw [Int.natCast_pow] at e
  refine fn_ret (cxOk Tryz.prog intsR_ok [] [rMade,cUp2]) follows Tryz.func47 rfl 100 _ rfl (by simp) ?_ (args1n hr)
  repeat' first
    | exact trivial
    | (refine And.intro (show regChk _ _ _ _ _=true from by kernel_rfl) (And.intro ?_ ?_))
    | (refine And.intro (fun hb=>?_) (fun hb'=>?_))
    | refine And.intro ?_ ?_
    | intro _
  all_goals first
    | (show (_:Int)=(_:Int);rfl)
    | (show (_:Bool)=(_:Bool);first|assumption|exact beq_iff_eq.2 (by assumption)|exact g2 (by assumption) (by assumption))
    | exact hl.1
    | exact hl.2.1
    | exact hl.2.2
    | (show some (CR.tv (tI _))=some (CR.tv (tI _));exact wh_eq e)
    -- PVC
  )
def rRight:Con Tryz.prog:=con1n 103 (fun x n=>BI 10000 x∧0≤n∧n≤6400) (fun x n => .tv (tI (x/2 ^ n.toNat))) ⟨_,Tryz.func103,by kernel_rfl,rfl⟩ (fun x n A c w hl hr=>by
  refine fn_ret (cxOk Tryz.prog intsR_ok [] [rMade,cUp2,cDown2,cNCmp,cNPlus,cNOf]) follows Tryz.func103 rfl 100 _ rfl (by simp) ?_ (args1n hr)
  repeat' first
    | exact trivial
    | (refine And.intro (show regChk _ _ _ _ _=true from by kernel_rfl) (And.intro ?_ ?_))
    | (refine And.intro (fun hb=>?_) (fun hb'=>?_))
    | refine And.intro ?_ ?_
    | intro _
  all_goals first
    | (show (_:Int)=(_:Int);rfl)
    | (show (_:Bool)=(_:Bool);first|assumption|exact beq_iff_eq.2 (by assumption)|exact g2 (by assumption) (by assumption))
    | (show B 20000 (_:Nat);first|exact hl.1.mono (by decide)|exact (B.div hl.1 _).mono (by decide)|exact ((B.le hl.1 (Nat.div_mul_le_self _ _)).mono (by decide))|exact B.mono (e:=1) (show (1:Nat)<2 ^ 1 by decide) (by decide))
    | exact hl.2.1
    | exact hl.2.2
    | (show (0:Int)≤1;decide)
    | (show (1:Int)<18446744073709551616;decide)
    | (show some (CR.tv (tI _))=some (CR.tv (tI _));(first|exact wh_eq (right_up (by assumption))|exact wh_eq (right_dn (by assumption))))
    -- PVC
  )
def rDivide:Con Tryz.prog:=con2 114 (fun x y=>BI 9000 x∧BI 9000 y∧0<y) (fun x y => .tv (tQR (x/y) (x%y))) ⟨_,Tryz.func114,by kernel_rfl,rfl⟩ (fun x y A A' c c' w hl hr hr'=>by
  refine fn_ret (cxOk Tryz.prog intsR_ok [] [rMade,cNDivide,rLess,rFrom,rTimes]) follows Tryz.func114 rfl 100 _ rfl (by simp) ?_ (args2 hr hr')
  repeat' first
    | exact trivial
    | (refine And.intro (show regChk _ _ _ _ _=true from by kernel_rfl) (And.intro ?_ ?_))
    | (refine And.intro (fun hb=>?_) (fun hb'=>?_))
    | refine And.intro ?_ ?_
    | intro _
  all_goals first
    | (show (_:Int)=(_:Int);rfl)
    | (show (_:Bool)=(_:Bool);first|assumption|exact beq_iff_eq.2 (by assumption)|exact g2 (by assumption) (by assumption))
    | (show B 20000 (_:Nat);first|exact hl.1.mono (by decide)|exact hl.2.1.mono (by decide))
    | (show 0<y.natAbs;have:=hl.2.2;omega)
    | (show (-9223372036854775808:Int)≤1;decide)
    | (show (1:Int)<9223372036854775808;decide)
    | (show BI 20000 _;first|exact BI.one.mono (by decide)|exact hl.1.mono (by decide)|exact hl.2.1.mono (by decide)|exact (BI.ofS _ (B.div hl.1 _)).mono (by decide)|exact BI.sub (e:=9000) (BI.ofS _ (B.div hl.1 _)) (BI.one.mono (by decide)) (by decide)|exact BI.mul (e:=9001) (f:=9000) (BI.sub (e:=9000) (BI.ofS _ (B.div hl.1 _)) (BI.one.mono (by decide)) (by decide)) hl.2.1 (by decide)|exact BI.mul (e:=9000) (f:=9000) (BI.ofS _ (B.div hl.1 _)) hl.2.1 (by decide))
    | (show some (CR.tv (tQR _ _))=some (CR.tv (tQR _ _));first|exact qr_eq (rdv1 hl.2.2 (by assumption)).1 (rdv1 hl.2.2 (by assumption)).2|exact qr_eq (rdv2 hl.2.2 (by assumption)).1 (rdv2 hl.2.2 (by assumption)).2)
    -- PVC
  )
def rSmall:Con Tryz.prog:=con1 68 (fun _=>True) (fun x => .tv (tNB (smallI x).1 (smallI x).2)) ⟨_,Tryz.func68,by kernel_rfl,rfl⟩ (fun x A c w hl hr=>by
  refine fn_ret (cxOk Tryz.prog intsR_ok [] []) follows Tryz.func68 rfl 100 _ rfl (by simp) ?_ (args1 hr)
  repeat' first
    | exact trivial
    | (refine And.intro (show regChk _ _ _ _ _=true from by kernel_rfl) (And.intro ?_ ?_))
    | (refine And.intro (fun hb=>?_) (fun hb'=>?_))
    | refine And.intro ?_ ?_
    | intro _
  all_goals first
    | (show (_:Int)=(_:Int);rfl)
    | (show (_:Bool)=(_:Bool);first|assumption|exact beq_iff_eq.2 (by assumption)|exact g2 (by assumption) (by assumption))
    | (show (0:Int)<((lm x).length:Int);exact len_gt (by assumption))
    | (show (0:Int)≤0;decide)
    | (show (0:Int)<_;exact len_gt (by assumption))
    | (show some (CR.tv (tNB _ _))=some (CR.tv (tNB _ _));first|exact nb_eq (small0 (by assumption))|exact nb_eq (rsmall1 (by assumption) (by assumption))|exact nb_eq (rsmall2 (by assumption) (by assumption) (by assumption))|exact nb_eq (rsmall3 (by assumption) (by assumption) (by assumption)))
    -- PVC
  )
end
end Go.Proofs.YtmnkaldemjdcoaaGreat.Wh
end
section
set_option linter.unusedVariables false
set_option linter.unusedSimpArgs false
namespace Go.Proofs.YtmnkaldemjdcoaaGreat.Wh
open Go RowKit YtmnkaldemjdcoaaGreatW.PrintWords YtmnkaldemjdcoaaGreatW.PrintMore YtmnkaldemjdcoaaGreatW.Aid YtmnkaldemjdcoaaGreatW.Big YtmnkaldemjdcoaaGreatW.Sx YtmnkaldemjdcoaaGreat.BitsWalk YtmnkaldemjdcoaaGreat.Limbs YtmnkaldemjdcoaaGreat.Whole YtmnkaldemjdcoaaGreat.R90 YtmnkaldemjdcoaaGreat.QN90 YtmnkaldemjdcoaaGreat.FxWalk Go.Proofs
abbrev tRat (x d:Int):TV := .agg [.neg x,.mag x,.mag d]
def gcdI (n d:Int):Int:=((Nat.gcd n.natAbs d.natAbs:Nat):Int)
theorem nn_eq2 {p q:Int × Int} (h:p=q):(some (CR.tv (tNN p.1 p.2)):Option CR)=some (CR.tv (tNN q.1 q.2)):=by rw [h]
theorem rat_eq {x d x' d':Int} (h:x=x') (h':d=d'):(some (CR.tv (tRat x d)):Option CR)=some (CR.tv (tRat x' d')):=by rw [h,h']
theorem ofS_false {d:Int} (h:0≤d):ofS false d.natAbs=d:=by
  show ((d.natAbs:Nat):Int)=d
  omega
theorem gcd_pos (n:Nat) {d:Int} (h:0<d):0<Nat.gcd n d.natAbs:=Nat.gcd_pos_of_pos_right _ (by omega)
theorem gcdI_pos (n:Int) {d:Int} (h:0<d):0<gcdI n d:=by
  have:=gcd_pos n.natAbs h
  unfold gcdI;omega
theorem make_num {n:Int} {g:Nat} (h:g∣n.natAbs) (hg:0<g):ofS (sgn n) (n.natAbs/g)=n/(g:Int):=by
  obtain ⟨q,hq⟩:=h
  rw [hq,Nat.mul_div_cancel_left _ hg]
  cases hs:sgn n with
  | true =>
    have hn:=sgn_t hs
    have e:n=(g:Int)*(-(q:Int)):=by rw [Int.mul_neg,← Int.natCast_mul,← hq];omega
    rw [e,Int.mul_ediv_cancel_left _ (by omega)]
    rfl
  | false =>
    have hn:=sgn_f hs
    have e:n=(g:Int)*(q:Int):=by rw [← Int.natCast_mul,← hq];omega
    rw [e,Int.mul_ediv_cancel_left _ (by omega)]
    rfl
theorem make_den {d:Int} {g:Nat} (h:0≤d):((d.natAbs/g:Nat):Int)=d/(g:Int):=by rw [Int.natCast_ediv,Int.natAbs_of_nonneg h]
theorem gcdI_n (n d:Int):∃ q,n=gcdI n d*q:=by
  obtain ⟨q,hq⟩:=Nat.gcd_dvd_left n.natAbs d.natAbs
  rcases Int.le_total 0 n with h|h
  · exact ⟨q,by unfold gcdI;rw [← Int.natCast_mul,← hq];omega⟩
  · exact ⟨-(q:Int),by unfold gcdI;rw [Int.mul_neg,← Int.natCast_mul,← hq];omega⟩
theorem gcdI_d (n:Int) {d:Int} (h:0≤d):∃ q,d=gcdI n d*q:=by
  obtain ⟨q,hq⟩:=Nat.gcd_dvd_right n.natAbs d.natAbs
  exact ⟨q,by unfold gcdI;rw [← Int.natCast_mul,← hq];omega⟩
theorem round_gcd (n:Int) {d:Int} (h:0<d):roundP (n/gcdI n d) (d/gcdI n d)=roundP n d∧0<d/gcdI n d:=by
  have hg:=gcdI_pos n h
  obtain ⟨q,hq⟩:=gcdI_n n d
  obtain ⟨r,hr⟩:=gcdI_d n (Int.le_of_lt h)
  generalize gcdI n d=g at *
  subst hq hr
  rw [Int.mul_ediv_cancel_left _ (by omega),Int.mul_ediv_cancel_left _ (by omega)]
  have hr0:0<r:=by
    by_cases h1:0<r
    · exact h1
    · have:=Int.mul_le_mul_of_nonneg_left (show r≤0 by omega) (Int.le_of_lt hg)
      rw [Int.mul_zero] at this;omega
  exact ⟨(roundP_scale hg hr0).symm,hr0⟩
theorem b30:BI 31 1073741824:=by show (1073741824:Int).natAbs<2 ^ 31;decide
theorem near_cases (x:Int) {d:Int} (hd:0<d):(2*(x%d)<d∧x*2/d=2*(x/d)∧x*2%d=2*(x%d))∨(d≤2*(x%d)∧x*2/d=2*(x/d)+1∧x*2%d=2*(x%d)-d):=by
  have e:=Int.emod_add_mul_ediv x d
  have h0:=Int.emod_nonneg x (by omega:d≠0)
  have h1:=Int.emod_lt_of_pos x hd
  generalize x%d=m at *
  generalize x/d=q at *
  by_cases h:2*m<d
  · left
    have e2:x*2=2*m+d*(2*q):=by rw [show d*(2*q)=2*(d*q) by rw [← Int.mul_assoc,Int.mul_comm d 2,Int.mul_assoc]];omega
    refine ⟨h,?_,?_⟩
    · rw [e2,Int.add_mul_ediv_left _ _ (by omega),Int.ediv_eq_zero_of_lt (by omega) h];omega
    · rw [e2,Int.add_mul_emod_self_left,Int.emod_eq_of_lt (by omega) h]
  · right
    have e2:x*2=(2*m-d)+d*(2*q+1):=by rw [Int.mul_add,show d*(2*q)=2*(d*q) by rw [← Int.mul_assoc,Int.mul_comm d 2,Int.mul_assoc]];omega
    refine ⟨by omega,?_,?_⟩
    · rw [e2,Int.add_mul_ediv_left _ _ (by omega),Int.ediv_eq_zero_of_lt (by omega) (by omega)];omega
    · rw [e2,Int.add_mul_emod_self_left,Int.emod_eq_of_lt (by omega) (by omega)]
theorem cmpI_zero {x y:Int}:cmpI x y=0↔x=y:=by
  unfold cmpI
  split
  · constructor<;>intro h<;>omega
  · split
    · constructor<;>intro h<;>omega
    · constructor<;>intro h<;>omega
theorem near_even {x d:Int} (hd:0<d) (h:(!(cmpI (x*2 ^ Int.toNat 1/ofS false d.natAbs/2 ^ Int.toNat 1*2 ^ Int.toNat 1) (x*2 ^ Int.toNat 1/ofS false d.natAbs) != 0))=true):x*2 ^ Int.toNat 1/ofS false d.natAbs/2 ^ Int.toNat 1=roundP x d:=by
  rw [ofS_false (Int.le_of_lt hd)] at *
  have h2:(2:Int) ^ Int.toNat 1=2:=rfl
  rw [h2] at *
  have h3:cmpI (x*2/d/2*2) (x*2/d)=0:=by simpa using h
  rw [cmpI_zero] at h3
  unfold roundP
  rcases near_cases x hd with ⟨a,b,c⟩|⟨a,b,c⟩
  · rw [b,if_neg (by omega)];omega
  · rw [b] at h3;omega
theorem near_up {x d:Int} (hd:0<d) (h:(!(cmpI (x*2 ^ Int.toNat 1/ofS false d.natAbs/2 ^ Int.toNat 1*2 ^ Int.toNat 1) (x*2 ^ Int.toNat 1/ofS false d.natAbs) != 0))=false) (hr:(!decide (x*2 ^ Int.toNat 1%ofS false d.natAbs=0))=true):x*2 ^ Int.toNat 1/ofS false d.natAbs/2 ^ Int.toNat 1+1=roundP x d:=by
  rw [ofS_false (Int.le_of_lt hd)] at *
  have h2:(2:Int) ^ Int.toNat 1=2:=rfl
  rw [h2] at *
  have h3:¬ cmpI (x*2/d/2*2) (x*2/d)=0:=by simpa using h
  rw [cmpI_zero] at h3
  have h4:¬ x*2%d=0:=by simpa using hr
  unfold roundP
  rcases near_cases x hd with ⟨a,b,c⟩|⟨a,b,c⟩
  · rw [b] at h3;omega
  · rw [b,if_pos (by omega)];omega
theorem near_tie {x d:Int} (hd:0<d) (h:(!(cmpI (x*2 ^ Int.toNat 1/ofS false d.natAbs/2 ^ Int.toNat 1*2 ^ Int.toNat 1) (x*2 ^ Int.toNat 1/ofS false d.natAbs) != 0))=false) (hr:(!decide (x*2 ^ Int.toNat 1%ofS false d.natAbs=0))=false) {b:Bool}
    (hc:(cmpI (x*2 ^ Int.toNat 1/ofS false d.natAbs/2 ^ Int.toNat 1/2 ^ Int.toNat 1*2 ^ Int.toNat 1) (x*2 ^ Int.toNat 1/ofS false d.natAbs/2 ^ Int.toNat 1) == 0)=b) :
    x*2 ^ Int.toNat 1/ofS false d.natAbs/2 ^ Int.toNat 1+(if b then 0 else 1)=roundP x d:=by
  rw [ofS_false (Int.le_of_lt hd)] at h hr hc ⊢
  have h2:(2:Int) ^ Int.toNat 1=2:=rfl
  simp only [h2] at h hr hc ⊢
  have h3:¬ cmpI (x*2/d/2*2) (x*2/d)=0:=by simpa using h
  rw [cmpI_zero] at h3
  have h4:x*2%d=0:=by simpa using hr
  unfold roundP
  rcases near_cases x hd with ⟨a,b',c⟩|⟨a,b',c⟩
  · rw [b'] at h3;omega
  · rw [b'] at hc ⊢
    have e:(2*(x/d)+1)/2=x/d:=by omega
    rw [e] at hc ⊢
    cases b with
    | true =>
      have h5:=cmpI_zero.1 (beq_iff_eq.1 hc)
      rw [if_pos rfl,if_neg (by omega)];omega
    | false =>
      have h5:¬ x/d/2*2=x/d:=fun e=>by
        have:=cmpI_zero.2 e
        rw [this] at hc;cases hc
      rw [if_neg (by decide),if_pos (by omega)]
theorem near_t1 {x d:Int} (hd:0<d) (h:(!(cmpI (x*2 ^ Int.toNat 1/ofS false d.natAbs/2 ^ Int.toNat 1*2 ^ Int.toNat 1) (x*2 ^ Int.toNat 1/ofS false d.natAbs) != 0))=false) (hr:(!decide (x*2 ^ Int.toNat 1%ofS false d.natAbs=0))=false)
    (hc:(cmpI (x*2 ^ Int.toNat 1/ofS false d.natAbs/2 ^ Int.toNat 1/2 ^ Int.toNat 1*2 ^ Int.toNat 1) (x*2 ^ Int.toNat 1/ofS false d.natAbs/2 ^ Int.toNat 1) == 0)=true) :
    x*2 ^ Int.toNat 1/ofS false d.natAbs/2 ^ Int.toNat 1=roundP x d:=by
  have:=near_tie hd h hr hc
  rwa [if_pos rfl,Int.add_zero] at this
theorem near_t0 {x d:Int} (hd:0<d) (h:(!(cmpI (x*2 ^ Int.toNat 1/ofS false d.natAbs/2 ^ Int.toNat 1*2 ^ Int.toNat 1) (x*2 ^ Int.toNat 1/ofS false d.natAbs) != 0))=false) (hr:(!decide (x*2 ^ Int.toNat 1%ofS false d.natAbs=0))=false)
    (hc:(cmpI (x*2 ^ Int.toNat 1/ofS false d.natAbs/2 ^ Int.toNat 1/2 ^ Int.toNat 1*2 ^ Int.toNat 1) (x*2 ^ Int.toNat 1/ofS false d.natAbs/2 ^ Int.toNat 1) == 0)=false) :
    x*2 ^ Int.toNat 1/ofS false d.natAbs/2 ^ Int.toNat 1+1=roundP x d:=by
  have:=near_tie hd h hr hc
  rwa [if_neg (by decide)] at this
theorem den_mul {d e:Int} (hd:0<d) (he:0<e):((d.natAbs*e.natAbs:Nat):Int)=d*e:=by
  rw [Int.natCast_mul,Int.natAbs_of_nonneg (Int.le_of_lt hd),Int.natAbs_of_nonneg (Int.le_of_lt he)]
theorem may_eq (v:Int):(bif decide (v > -35184372088832) then decide (v<35184372088832) else false)=wd v:=by
  rw [Bool.eq_iff_iff,wd_iff]
  by_cases h:v > -35184372088832
  · rw [decide_eq_true h];simp;omega
  · rw [decide_eq_false h];simp;omega
theorem gtold0 {x:Int} (h:(bif !(smallI x).2 then true else !wd (smallI x).1)=true):((0:Int),(2:Int))=toldR x:=by
  cases hs:(smallI x).2 with
  | false=>have:=told0 (x:=x) (by rw [hs];rfl);exact this
  | true =>
    rw [hs] at h
    have h2:wd (smallI x).1=false:=by simpa using h
    have e:(smallI x).1=x:=by
      unfold smallI at hs ⊢
      split
      · rfl
      · rename_i hc;rw [if_neg hc] at hs;cases hs
    rw [e] at h2
    unfold toldR;rw [h2];rfl
theorem gtold1 {x:Int} (h:(bif !(smallI x).2 then true else !wd (smallI x).1)=false):((smallI x).1,(0:Int))=toldR x:=by
  cases hs:(smallI x).2 with
  | false=>rw [hs] at h;cases h
  | true =>
    rw [hs] at h
    have h2:wd (smallI x).1=true:=by simpa using h
    have e:(smallI x).1=x:=by
      unfold smallI at hs ⊢
      split
      · rfl
      · rename_i hc;rw [if_neg hc] at hs;cases hs
    rw [e] at h2 ⊢
    unfold toldR;rw [h2];rfl
def rootL (a:Int):LI (Int × Int) where
  gs:=fun v=>[(1,tN .i64 2),(2,.ptr 2 0),(4,.ptr 4 0),(5,.ptr 5 0),(6,tN .i64 v.2)]
  bs:=fun v=>[(2,57,[.neg a,.mag a]),(4,57,[.neg 0,.mag 0]),(5,57,[.neg v.1,.mag v.1])]
  I:=fun v => -1≤v.2∧v.2≤501∧0≤v.1∧v.1*v.1≤a∧a<(v.1+2 ^ (v.2+1).toNat)*(v.1+2 ^ (v.2+1).toNat)
  μ:=fun v=>(v.2+1).toNat
theorem wrap_id {x:Int} (h : -1000000≤x) (h':x≤1000000):IntKind.i64.wrap x=x:=by rw [i64_wrap];exact wrap64_id (by omega) (by omega)
theorem root_start {a:Int} (h0:0≤a) (hx:BI 1000 a):(rootL a).I (0,IntKind.i64.wrap (IntKind.i64.wrap (Int.tdiv (bitsN a.natAbs:Int) 2)+1)):=by
  have hb:=bits_le hx
  have hl:=bits_lt a.natAbs
  clear hx
  rw [Int.tdiv_eq_ediv_of_nonneg (by omega),wrap_id (x:=(bitsN a.natAbs:Int)/2) (by omega) (by omega),wrap_id (by omega) (by omega)]
  refine ⟨by show (-1:Int)≤_/2+1;omega,by show (_:Int)/2+1≤501;omega,by show (0:Int)≤0;omega,by show (0:Int)*0≤a;omega,?_⟩
  show a<(0+2 ^ ((bitsN a.natAbs:Int)/2+1+1).toNat)*(0+2 ^ ((bitsN a.natAbs:Int)/2+1+1).toNat)
  rw [Int.zero_add,← Int.pow_add]
  have h1:bitsN a.natAbs≤((bitsN a.natAbs:Int)/2+1+1).toNat+((bitsN a.natAbs:Int)/2+1+1).toNat:=by omega
  generalize ((bitsN a.natAbs:Int)/2+1+1).toNat+((bitsN a.natAbs:Int)/2+1+1).toNat=N at *
  have h2:2 ^ bitsN a.natAbs≤2 ^ N:=Nat.pow_le_pow_right (by omega) h1
  have h3:((2 ^ N:Nat):Int)=2 ^ N:=by norm_cast
  omega
theorem root_pow {k:Int} (h:0≤k):(2:Int) ^ (k+1).toNat=2 ^ k.toNat+2 ^ k.toNat:=by
  rw [show (k+1).toNat=k.toNat+1 by omega,Int.pow_succ];omega
theorem root_yes {a:Int} {v:Int × Int} (h:(rootL a).I v) (hk:decide (v.2≥0)=true) (hc:decide (cmpI ((v.1+1*2 ^ v.2.toNat)*(v.1+1*2 ^ v.2.toNat)) a≤0)=true) :
    (rootL a).μ (v.1+1*2 ^ v.2.toNat,IntKind.i64.wrap (v.2-1))<(rootL a).μ v∧(rootL a).I (v.1+1*2 ^ v.2.toNat,IntKind.i64.wrap (v.2-1)):=by
  obtain ⟨r,k⟩:=v
  obtain ⟨h1,h2,h3,h4,h5⟩:=h
  have hk:=of_decide_eq_true hk
  have hc:=of_decide_eq_true hc
  simp only at *
  have hp:(0:Int)<2 ^ k.toNat:=Int.pow_pos (by omega)
  rw [Int.one_mul] at *
  rw [wrap_id (by omega) (by omega)]
  refine ⟨by show (k-1+1).toNat<(k+1).toNat;omega,by show -1≤k-1;omega,by show k-1≤501;omega,by show 0≤r+2 ^ k.toNat;omega,?_,?_⟩
  · show (r+2 ^ k.toNat)*(r+2 ^ k.toNat)≤a
    unfold cmpI at hc
    split at hc
    · omega
    · split at hc
      · omega
      · omega
  · show a<(r+2 ^ k.toNat+2 ^ (k-1+1).toNat)*(r+2 ^ k.toNat+2 ^ (k-1+1).toNat)
    rw [show k-1+1=k by omega]
    rw [root_pow hk,← Int.add_assoc] at h5
    exact h5
theorem root_no {a:Int} {v:Int × Int} (h:(rootL a).I v) (hk:decide (v.2≥0)=true) (hc:decide (cmpI ((v.1+1*2 ^ v.2.toNat)*(v.1+1*2 ^ v.2.toNat)) a≤0)=false) :
    (rootL a).μ (v.1,IntKind.i64.wrap (v.2-1))<(rootL a).μ v∧(rootL a).I (v.1,IntKind.i64.wrap (v.2-1)):=by
  obtain ⟨r,k⟩:=v
  obtain ⟨h1,h2,h3,h4,h5⟩:=h
  have hk:=of_decide_eq_true hk
  have hc:=of_decide_eq_false hc
  simp only at *
  rw [Int.one_mul] at *
  rw [wrap_id (by omega) (by omega)]
  refine ⟨by show (k-1+1).toNat<(k+1).toNat;omega,by show -1≤k-1;omega,by show k-1≤501;omega,h3,h4,?_⟩
  show a<(r+2 ^ (k-1+1).toNat)*(r+2 ^ (k-1+1).toNat)
  rw [show k-1+1=k by omega]
  unfold cmpI at hc
  split at hc
  · omega
  · split at hc
    · assumption
    · omega
theorem root_done {a:Int} {v:Int × Int} (h:(rootL a).I v) (hk:decide (v.2≥0)=false):v.1=isq a:=by
  obtain ⟨r,k⟩:=v
  obtain ⟨h1,h2,h3,h4,h5⟩:=h
  have hk:=of_decide_eq_false hk
  simp only at *
  have:k = -1:=by omega
  subst this
  exact (isq_uniq h3 h4 h5).symm
theorem pow_be {k:Int} {e:Nat} (hk:k.toNat<e):BI e ((2:Int) ^ k.toNat):=by
  show ((2:Int) ^ k.toNat).natAbs<2 ^ e
  rw [Int.natAbs_pow]
  exact Nat.pow_lt_pow_right (by decide) hk
theorem root_bd {a:Int} {v:Int × Int} (hx:BI 1000 a) (h:(rootL a).I v):BI 1000 v.1∧BI 502 ((1:Int)*2 ^ v.2.toNat)∧v.2≤6400:=by
  obtain ⟨r,k⟩:=v
  obtain ⟨h1,h2,h3,h4,h5⟩:=h
  simp only at *
  refine ⟨B.le hx ?_,?_,by omega⟩
  · by_cases hr:r=0
    · omega
    · have:=Int.mul_le_mul_of_nonneg_left (show 1≤r by omega) h3
      omega
  · rw [Int.one_mul]
    exact pow_be (by omega)
theorem gcd_odd (k:Int) (h:0≤k):gcdI (k*2 ^ Int.toNat 1+1) 2=1:=by
  have h2:(2:Int) ^ Int.toNat 1=2:=rfl
  rw [h2]
  obtain ⟨m,rfl⟩:∃ m:Nat,k=(m:Int):=⟨k.toNat,by omega⟩
  unfold gcdI
  rw [show ((m:Int)*2+1).natAbs=1+2*m by omega,show (2:Int).natAbs=2 from rfl,Nat.gcd_comm,Nat.gcd_rec,Nat.add_mul_mod_self_left]
  rfl
theorem gcd_odd2 (k:Int) (h:0≤k):gcdI ((k*2 ^ Int.toNat 1+1)*(k*2 ^ Int.toNat 1+1)) (2*2)=1:=by
  have h2:(2:Int) ^ Int.toNat 1=2:=rfl
  rw [h2]
  obtain ⟨m,rfl⟩:∃ m:Nat,k=(m:Int):=⟨k.toNat,by omega⟩
  have e:((m:Int)*2+1)*((m:Int)*2+1)=((1+4*(m*m+m):Nat):Int):=by
    rw [Int.mul_add,Int.add_mul,Int.natCast_add,Int.natCast_mul,Int.natCast_add,Int.natCast_mul]
    rw [show (m:Int)*2*((m:Int)*2)=4*((m:Int)*(m:Int)) by rw [Int.mul_assoc,Int.mul_comm 2,Int.mul_assoc,← Int.mul_assoc];omega]
    omega
  unfold gcdI
  rw [e,Int.natAbs_natCast,show ((2:Int)*2).natAbs=4 from rfl,Nat.gcd_comm,Nat.gcd_rec,Nat.add_mul_mod_self_left]
  rfl
abbrev rnA (k:Int):Int:=(k*2 ^ Int.toNat 1+1)/gcdI (k*2 ^ Int.toNat 1+1) ((Int.toNat 2:Nat):Int)
abbrev rnE (k:Int):Int:=((Int.toNat 2:Nat):Int)/gcdI (k*2 ^ Int.toNat 1+1) ((Int.toNat 2:Nat):Int)
abbrev rnC (k:Int):Int:=rnA k*rnA k/gcdI (rnA k*rnA k) (rnE k*rnE k)
abbrev rnD (k:Int):Int:=rnE k*rnE k/gcdI (rnA k*rnA k) (rnE k*rnE k)
theorem rn_vals {k:Int} (h:0≤k):rnA k=k*2 ^ Int.toNat 1+1∧rnE k=2∧rnC k=(k*2 ^ Int.toNat 1+1)*(k*2 ^ Int.toNat 1+1)∧rnD k=4:=by
  have g:=gcd_odd k h
  have h1:rnA k=k*2 ^ Int.toNat 1+1:=by
    show (k*2 ^ Int.toNat 1+1)/gcdI (k*2 ^ Int.toNat 1+1) 2=_
    rw [g,Int.ediv_one]
  have h2:rnE k=2:=by
    show (2:Int)/gcdI (k*2 ^ Int.toNat 1+1) 2=_
    rw [g,Int.ediv_one]
  have h3:rnC k=(k*2 ^ Int.toNat 1+1)*(k*2 ^ Int.toNat 1+1):=by
    show rnA k*rnA k/gcdI (rnA k*rnA k) (rnE k*rnE k)=_
    rw [h1,h2,gcd_odd2 k h,Int.ediv_one]
  have h4:rnD k=4:=by
    show rnE k*rnE k/gcdI (rnA k*rnA k) (rnE k*rnE k)=_
    rw [h1,h2,gcd_odd2 k h,Int.ediv_one];rfl
  exact ⟨h1,h2,h3,h4⟩
def rnBool (x d k:Int):Bool:=bif decide (cmpI (rnC k*d) (x*rnD k)<0) then true else bif cmpI (rnC k*d) (x*rnD k) == 0 then cmpI (k/2 ^ Int.toNat 1*2 ^ Int.toNat 1) k != 0 else false
theorem rnB_eq {x d k:Int} (h:0≤k):rnBool x d k=nearB x d k:=by
  obtain ⟨_,_,h3,h4⟩:=rn_vals h
  have e:(cmpI (k/2 ^ Int.toNat 1*2 ^ Int.toNat 1) k != 0)=!decide (k%2=0):=by
    have h2:(2:Int) ^ Int.toNat 1=2:=rfl
    rw [h2,Bool.eq_iff_iff]
    simp only [bne_iff_ne,ne_eq,cmpI_zero,Bool.not_eq_true',decide_eq_false_iff_not]
    omega
  unfold rnBool nearB
  rw [e,show rnC k*d=(k*2 ^ Int.toNat 1+1)*(k*2 ^ Int.toNat 1+1)*d by rw [h3],show x*rnD k=x*2 ^ Int.toNat 2 by rw [h4];rfl]
theorem rn_yes {x d:Int} (hx:0≤x) (hd:0<d) (h:rnBool x d (isq (x/d))=true):isq (x/d)+1=nearR x d:=near1 (by rw [← rnB_eq (isq_spec (Int.ediv_nonneg hx (Int.le_of_lt hd))).1];exact h)
theorem rn_no {x d:Int} (hx:0≤x) (hd:0<d) (h:rnBool x d (isq (x/d))=false):isq (x/d)=nearR x d:=near0 (by rw [← rnB_eq (isq_spec (Int.ediv_nonneg hx (Int.le_of_lt hd))).1];exact h)
theorem isq_self {n:Int} (h:0≤n):isq n≤n:=by
  obtain ⟨a,b,c⟩:=isq_spec h
  by_cases hz:isq n=0
  · omega
  · have:=Int.mul_le_mul_of_nonneg_left (show 1≤isq n by omega) a
    omega
theorem b22:BI 2 2:=by show (2:Int).natAbs<2 ^ 2;decide
section
set_option maxRecDepth 100000
set_option maxHeartbeats 1000000
def rPow:Con Tryz.prog where
  f:=122
  sem:=fun xs=>match xs with
    | [.agg [.neg x,.mag x'],.sc (.v (.int .i64 n))]=>some (x'=x∧n=2∧BI 5000 x,.tv (tI (x*x)))
    | _=>none
  ok := by
    intro xs p r' h hp
    refine ⟨⟨_,Tryz.func122,by kernel_rfl,rfl⟩,fun us w ha=>?_⟩
    split at h
    · rename_i x x' n
      cases h
      obtain ⟨rfl,rfl,hx⟩:=hp
      refine fn_ret (cxOk Tryz.prog intsR_ok [] [rFrom,rTimes]) follows Tryz.func122 rfl 100 _ rfl (by simp) ?_ ha
      repeat' first
        | exact trivial
        | (refine And.intro (show regChk _ _ _ _ _=true from by kernel_rfl) (And.intro ?_ ?_))
        | (refine And.intro (fun _=>?_) (fun h=>absurd (show true=false from h) (by decide)))
        | (refine And.intro (fun h=>absurd (show false=true from h) (by decide)) (fun _=>?_))
        | (refine And.intro (fun hb=>?_) (fun hb'=>?_))
        | refine And.intro ?_ ?_
        | intro _
      all_goals first
        | (show (_:Int)=(_:Int);rfl)
        | (show (_:Bool)=(_:Bool);first|assumption|exact beq_iff_eq.2 (by assumption)|exact g2 (by assumption) (by assumption))
        | (show BI 20000 _;first|exact hx.mono (by decide)|exact BI.one.mono (by decide)|exact BI.mul (e:=1) (f:=5000) BI.one hx (by decide))
        | (show (-9223372036854775808:Int)≤1;decide)
        | (show (1:Int)<9223372036854775808;decide)
        | (show some (CR.tv (tI _))=some (CR.tv (tI _));exact wh_eq (by rw [Int.one_mul]))
        -- PVC
    · cases h
def rRoot:Con Tryz.prog where
  f:=98
  sem:=fun xs=>match xs with
    | [.agg [.neg a,.mag a'],.sc (.v (.int .i64 n))]=>some (a'=a∧n=2∧0≤a∧BI 1000 a,.tv (tI (isq a)))
    | _=>none
  ok := by
    intro xs p r' h hp
    refine ⟨⟨_,Tryz.func98,by kernel_rfl,rfl⟩,fun us w ha=>?_⟩
    split at h
    · rename_i a a' n
      cases h
      obtain ⟨rfl,rfl,h0,hx⟩:=hp
      refine fnl_ret (rootL a') (cxOk Tryz.prog intsR_ok [] [rFrom,rLen,rLeft,rPlus,rPow,rCmp]) follows Tryz.func98 rfl 100 _ rfl (by simp) ?_ ha
      repeat' first
        | exact trivial
        | (refine And.intro (show regChk _ _ _ _ _=true from by kernel_rfl) (And.intro ?_ ?_))
        | (refine And.intro (fun _=>?_) (fun h=>absurd (show true=false from h) (by decide)))
        | (refine And.intro (fun h=>absurd (show false=true from h) (by decide)) (fun _=>?_))
        | (refine And.intro (fun hb=>?_) (fun hb'=>?_))
        | refine And.intro ?_ ?_
        | intro _
      all_goals first
        | (show (_:Int)=(_:Int);rfl)
        | (show (_:Bool)=(_:Bool);first|assumption|exact beq_iff_eq.2 (by assumption)|exact g2 (by assumption) (by assumption))
        | (show (-9223372036854775808:Int)≤0;decide)
        | (show (-9223372036854775808:Int)≤1;decide)
        | (show (0:Int)<9223372036854775808;decide)
        | (show (1:Int)<9223372036854775808;decide)
        | (show (0:Int)≤1;decide)
        | (show (1:Int)≤6400;decide)
        | (show (1:Int)<18446744073709551616;decide)
        | (show (0:Int)≤2;decide)
        | (show (2:Int)<18446744073709551616;decide)
        | (show (0:Int)≤30;decide)
        | (show (30:Int)≤6400;decide)
        | (show (2:Int)=2;rfl)
        | (show (_:Nat)=(_:Nat);rfl)
        | (show False;omega)
        | (show wfB _ _=true;rfl)
        | (show (∃ v,atL (rootL a') v _);exact ⟨_,root_start h0 hx,⟨rfl,rfl,rfl,rfl,rfl,trivial⟩,⟨rfl,⟨rfl,rfl,trivial⟩,rfl,⟨rfl,rfl,trivial⟩,rfl,⟨rfl,rfl,trivial⟩,trivial⟩⟩)
        | (show (∃ v',(rootL a').μ v'<(rootL a').μ _∧atL (rootL a') v' _);first|exact ⟨_,(root_yes (by assumption) (by assumption) (by assumption)).1,(root_yes (by assumption) (by assumption) (by assumption)).2,⟨rfl,rfl,rfl,rfl,rfl,trivial⟩,⟨rfl,⟨rfl,rfl,trivial⟩,rfl,⟨rfl,rfl,trivial⟩,rfl,⟨rfl,rfl,trivial⟩,trivial⟩⟩|exact ⟨_,(root_no (by assumption) (by assumption) (by assumption)).1,(root_no (by assumption) (by assumption) (by assumption)).2,⟨rfl,rfl,rfl,rfl,rfl,trivial⟩,⟨rfl,⟨rfl,rfl,trivial⟩,rfl,⟨rfl,rfl,trivial⟩,rfl,⟨rfl,rfl,trivial⟩,trivial⟩⟩)
        | (show BI _ _;first|exact BI.mono hx (by decide)|exact BI.mono BI.one (by decide)|exact BI.mono (root_bd hx (by assumption)).1 (by decide)|exact BI.mono (root_bd hx (by assumption)).2.1 (by decide)|exact BI.mono (BI.add (e:=1000) (g:=1001) (root_bd hx (by assumption)).1 (BI.mono (root_bd hx (by assumption)).2.1 (by decide)) (by decide)) (by decide)|exact BI.mul (e:=1001) (f:=1001) (BI.add (e:=1000) (g:=1001) (root_bd hx (by assumption)).1 (BI.mono (root_bd hx (by assumption)).2.1 (by decide)) (by decide)) (BI.add (e:=1000) (g:=1001) (root_bd hx (by assumption)).1 (BI.mono (root_bd hx (by assumption)).2.1 (by decide)) (by decide)) (by decide))
        | (show (0:Int)≤_;exact of_decide_eq_true (by assumption))
        | (show (_:Int)≤6400;exact (root_bd hx (by assumption)).2.2)
        | (show some (CR.tv (tI _))=some (CR.tv (tI _));exact wh_eq (root_done (by assumption) (by assumption)))
        -- PVC
    · cases h
def qMake:Con Tryz.prog where
  f:=63
  sem:=fun xs=>match xs with
    | [.agg [.neg n,.mag n'],.sc (.mag d)]=>some (n'=n∧0<d∧BI 8000 n∧BI 8000 d,.tv (tRat (n/gcdI n d) (d/gcdI n d)))
    | _=>none
  ok := by
    intro xs p r' h hp
    refine ⟨⟨_,Tryz.func63,by kernel_rfl,rfl⟩,fun us w ha=>?_⟩
    split at h
    · rename_i n n' d
      cases h
      obtain ⟨rfl,h0,hn,hd⟩:=hp
      have gp:=gcd_pos n'.natAbs h0
      have gl:B 8000 (Nat.gcd n'.natAbs d.natAbs):=B.le hd (Nat.gcd_le_right _ (by omega))
      refine fn_ret (cxOk Tryz.prog intsR_ok [] [cNGcd,cNDivide,rMade]) follows Tryz.func63 rfl 100 _ rfl (by simp) ?_ ha
      repeat' first
        | exact trivial
        | (refine And.intro (show regChk _ _ _ _ _=true from by kernel_rfl) (And.intro ?_ ?_))
        | (refine And.intro (fun _=>?_) (fun h=>absurd (show true=false from h) (by decide)))
        | (refine And.intro (fun h=>absurd (show false=true from h) (by decide)) (fun _=>?_))
        | (refine And.intro (fun hb=>?_) (fun hb'=>?_))
        | refine And.intro ?_ ?_
        | intro _
      all_goals first
        | (show (_:Int)=(_:Int);rfl)
        | (show (_:Bool)=(_:Bool);first|assumption|exact beq_iff_eq.2 (by assumption)|exact g2 (by assumption) (by assumption))
        | (show B _ _;first|exact B.mono hn (by decide)|exact B.mono hd (by decide)|exact B.mono gl (by decide))
        | (show 0<Int.natAbs _;exact gp)
        | (show some (CR.tv (tRat _ _))=some (CR.tv (tRat _ _));exact rat_eq (by simp only [Int.natAbs_natCast];exact make_num (Nat.gcd_dvd_left _ _) gp) (by simp only [Int.natAbs_natCast];exact make_den (Int.le_of_lt h0)))
        -- PVC
    · cases h
def qden:Con Tryz.prog where
  f:=123
  sem:=fun xs=>match xs with
    | [.agg [.neg x,.mag x',.mag d]]=>some (0≤d,.tv (tI d))
    | _=>none
  ok := by
    intro xs p r' h hp
    refine ⟨⟨_,Tryz.func123,by kernel_rfl,rfl⟩,fun us w ha=>?_⟩
    split at h
    · rename_i x x' d
      cases h
      refine fn_ret (cxOk Tryz.prog intsR_ok [] [rMade]) follows Tryz.func123 rfl 100 _ rfl (by simp) ?_ ha
      repeat' first
        | exact trivial
        | (refine And.intro (show regChk _ _ _ _ _=true from by kernel_rfl) (And.intro ?_ ?_))
        | (refine And.intro (fun _=>?_) (fun h=>absurd (show true=false from h) (by decide)))
        | (refine And.intro (fun h=>absurd (show false=true from h) (by decide)) (fun _=>?_))
        | (refine And.intro (fun hb=>?_) (fun hb'=>?_))
        | refine And.intro ?_ ?_
        | intro _
      all_goals first
        | (show (_:Int)=(_:Int);rfl)
        | (show (_:Bool)=(_:Bool);first|assumption|exact beq_iff_eq.2 (by assumption)|exact g2 (by assumption) (by assumption))
        | (show some (CR.tv (tI _))=some (CR.tv (tI _));exact wh_eq (ofS_false hp))
        -- PVC
    · cases h
def qFloor:Con Tryz.prog where
  f:=99
  sem:=fun xs=>match xs with
    | [.agg [.neg x,.mag x',.mag d]]=>some (x'=x∧0<d∧BI 8000 x∧BI 8000 d,.tv (tI (x/d)))
    | _=>none
  ok := by
    intro xs p r' h hp
    refine ⟨⟨_,Tryz.func99,by kernel_rfl,rfl⟩,fun us w ha=>?_⟩
    split at h
    · rename_i x x' d
      cases h
      obtain ⟨rfl,h0,hn,hd⟩:=hp
      refine fn_ret (cxOk Tryz.prog intsR_ok [] [qden,rDivide]) follows Tryz.func99 rfl 100 _ rfl (by simp) ?_ ha
      repeat' first
        | exact trivial
        | (refine And.intro (show regChk _ _ _ _ _=true from by kernel_rfl) (And.intro ?_ ?_))
        | (refine And.intro (fun _=>?_) (fun h=>absurd (show true=false from h) (by decide)))
        | (refine And.intro (fun h=>absurd (show false=true from h) (by decide)) (fun _=>?_))
        | (refine And.intro (fun hb=>?_) (fun hb'=>?_))
        | refine And.intro ?_ ?_
        | intro _
      all_goals first
        | (show (_:Int)=(_:Int);rfl)
        | (show (_:Bool)=(_:Bool);first|assumption|exact beq_iff_eq.2 (by assumption)|exact g2 (by assumption) (by assumption))
        | (show BI _ _;first|exact BI.mono hn (by decide)|exact BI.mono hd (by decide))
        | (show (0:Int)≤d;exact Int.le_of_lt h0)
        | (show (0:Int)<d;exact h0)
        | (show some (CR.tv (tI _))=some (CR.tv (tI _));rfl)
        -- PVC
    · cases h
def qNear:Con Tryz.prog where
  f:=91
  sem:=fun xs=>match xs with
    | [.agg [.neg x,.mag x',.mag d]]=>some (x'=x∧0<d∧BI 8000 x∧BI 8000 d,.tv (tI (roundP x d)))
    | _=>none
  ok := by
    intro xs p r' h hp
    refine ⟨⟨_,Tryz.func91,by kernel_rfl,rfl⟩,fun us w ha=>?_⟩
    split at h
    · rename_i x x' d
      cases h
      obtain ⟨rfl,h0,hn,hd⟩:=hp
      have b1:BI 8001 (x'*2 ^ Int.toNat 1):=BI.shl 1 hn (by decide)
      have b2:BI 8000 (ofS false d.natAbs):=by rw [ofS_false (Int.le_of_lt h0)];exact hd
      have b3:BI 8001 (x'*2 ^ Int.toNat 1/ofS false d.natAbs):=b1.div _
      have b4:BI 8001 (x'*2 ^ Int.toNat 1/ofS false d.natAbs/2 ^ Int.toNat 1):=b3.div _
      have b5:BI 8002 (x'*2 ^ Int.toNat 1/ofS false d.natAbs/2 ^ Int.toNat 1*2 ^ Int.toNat 1):=BI.shl 1 b4 (by decide)
      have b6:BI 8002 (x'*2 ^ Int.toNat 1/ofS false d.natAbs/2 ^ Int.toNat 1/2 ^ Int.toNat 1*2 ^ Int.toNat 1):=BI.shl 1 (b4.div _) (by decide)
      refine fn_ret (cxOk Tryz.prog intsR_ok [] [rMade,rDivide,rLeft,rRight,rCmp,rPlus,rFrom,rZero]) follows Tryz.func91 rfl 100 _ rfl (by simp) ?_ ha
      repeat' first
        | exact trivial
        | (refine And.intro (show regChk _ _ _ _ _=true from by kernel_rfl) (And.intro ?_ ?_))
        | (refine And.intro (fun _=>?_) (fun h=>absurd (show true=false from h) (by decide)))
        | (refine And.intro (fun h=>absurd (show false=true from h) (by decide)) (fun _=>?_))
        | (refine And.intro (fun hb=>?_) (fun hb'=>?_))
        | refine And.intro ?_ ?_
        | intro _
      all_goals first
        | (show (_:Int)=(_:Int);rfl)
        | (show (_:Bool)=(_:Bool);first|assumption|exact beq_iff_eq.2 (by assumption)|exact g2 (by assumption) (by assumption))
        | (show (-9223372036854775808:Int)≤0;decide)
        | (show (-9223372036854775808:Int)≤1;decide)
        | (show (0:Int)<9223372036854775808;decide)
        | (show (1:Int)<9223372036854775808;decide)
        | (show (0:Int)≤1;decide)
        | (show (1:Int)≤6400;decide)
        | (show (1:Int)<18446744073709551616;decide)
        | (show (0:Int)≤2;decide)
        | (show (2:Int)<18446744073709551616;decide)
        | (show (0:Int)≤30;decide)
        | (show (30:Int)≤6400;decide)
        | (show (2:Int)=2;rfl)
        | (show (_:Nat)=(_:Nat);rfl)
        | (show (0:Int)<ofS _ _;rw [ofS_false (Int.le_of_lt h0)];exact h0)
        | (show BI _ _;first|exact BI.mono hn (by decide)|exact BI.mono b2 (by decide)|exact BI.mono BI.one (by decide)|exact BI.mono b3 (by decide)|exact BI.mono b4 (by decide)|exact BI.mono b5 (by decide)|exact BI.mono (b4.div _) (by decide)|exact BI.mono b6 (by decide)|exact BI.mono b1 (by decide))
        | (show some (CR.tv (tI _))=some (CR.tv (tI _));first|exact wh_eq (near_even h0 (by assumption))|exact wh_eq (near_up h0 (by assumption) (by assumption))|exact wh_eq (near_t1 h0 (by assumption) (by assumption) (by assumption))|exact wh_eq (near_t0 h0 (by assumption) (by assumption) (by assumption)))
        -- PVC
    · cases h
def qCmp:Con Tryz.prog where
  f:=100
  sem:=fun xs=>match xs with
    | [.agg [.neg x,.mag x',.mag d],.agg [.neg y,.mag y',.mag e]]=>some (x'=x∧y'=y∧0≤d∧0≤e∧BI 4000 x∧BI 4000 d∧BI 4000 y∧BI 4000 e,.tv (tN .i64 (cmpI (x*e) (y*d))))
    | _=>none
  ok := by
    intro xs p r' h hp
    refine ⟨⟨_,Tryz.func100,by kernel_rfl,rfl⟩,fun us w ha=>?_⟩
    split at h
    · rename_i x x' d y y' e
      cases h
      obtain ⟨rfl,rfl,h0,h1,hx,hd,hy,he⟩:=hp
      refine fn_ret (cxOk Tryz.prog intsR_ok [] [qden,rTimes,rCmp]) follows Tryz.func100 rfl 100 _ rfl (by simp) ?_ ha
      repeat' first
        | exact trivial
        | (refine And.intro (show regChk _ _ _ _ _=true from by kernel_rfl) (And.intro ?_ ?_))
        | (refine And.intro (fun _=>?_) (fun h=>absurd (show true=false from h) (by decide)))
        | (refine And.intro (fun h=>absurd (show false=true from h) (by decide)) (fun _=>?_))
        | (refine And.intro (fun hb=>?_) (fun hb'=>?_))
        | refine And.intro ?_ ?_
        | intro _
      all_goals first
        | (show (_:Int)=(_:Int);rfl)
        | (show (_:Bool)=(_:Bool);first|assumption|exact beq_iff_eq.2 (by assumption)|exact g2 (by assumption) (by assumption))
        | (show BI _ _;first|exact BI.mono hx (by decide)|exact BI.mono hd (by decide)|exact BI.mono hy (by decide)|exact BI.mono he (by decide)|exact BI.mono (BI.mul hx he (Nat.le_refl _)) (by decide)|exact BI.mono (BI.mul hy hd (Nat.le_refl _)) (by decide))
        | (show (0:Int)≤d;exact h0)
        | (show (0:Int)≤e;exact h1)
        | (show some (CR.tv (tN _ _))=some (CR.tv (tN _ _));rfl)
        -- PVC
    · cases h
def qTimes:Con Tryz.prog where
  f:=101
  sem:=fun xs=>match xs with
    | [.agg [.neg x,.mag x',.mag d],.agg [.neg y,.mag y',.mag e]]=>some (x'=x∧y'=y∧0<d∧0<e∧BI 4000 x∧BI 4000 d∧BI 4000 y∧BI 4000 e,.tv (tRat (x*y/gcdI (x*y) (d*e)) (d*e/gcdI (x*y) (d*e))))
    | _=>none
  ok := by
    intro xs p r' h hp
    refine ⟨⟨_,Tryz.func101,by kernel_rfl,rfl⟩,fun us w ha=>?_⟩
    split at h
    · rename_i x x' d y y' e
      cases h
      obtain ⟨rfl,rfl,h0,h1,hx,hd,hy,he⟩:=hp
      have hde:=den_mul h0 h1
      have b1:BI 8000 (((d.natAbs*e.natAbs:Nat):Int)):=by rw [hde];exact BI.mul hd he (Nat.le_refl _)
      refine fn_ret (cxOk Tryz.prog intsR_ok [] [qMake,rTimes,cNTimes]) follows Tryz.func101 rfl 100 _ rfl (by simp) ?_ ha
      repeat' first
        | exact trivial
        | (refine And.intro (show regChk _ _ _ _ _=true from by kernel_rfl) (And.intro ?_ ?_))
        | (refine And.intro (fun _=>?_) (fun h=>absurd (show true=false from h) (by decide)))
        | (refine And.intro (fun h=>absurd (show false=true from h) (by decide)) (fun _=>?_))
        | (refine And.intro (fun hb=>?_) (fun hb'=>?_))
        | refine And.intro ?_ ?_
        | intro _
      all_goals first
        | (show (_:Int)=(_:Int);rfl)
        | (show (_:Bool)=(_:Bool);first|assumption|exact beq_iff_eq.2 (by assumption)|exact g2 (by assumption) (by assumption))
        | (show BI _ _;first|exact BI.mono hx (by decide)|exact BI.mono hd (by decide)|exact BI.mono hy (by decide)|exact BI.mono he (by decide)|exact BI.mono (BI.mul hx hy (Nat.le_refl _)) (by decide)|exact BI.mono b1 (by decide))
        | (show B _ _;first|exact B.mono hx (by decide)|exact B.mono hd (by decide)|exact B.mono hy (by decide)|exact B.mono he (by decide))
        | (show (0:Int)<((_*_:Nat):Int);rw [hde];exact Int.mul_pos h0 h1)
        | (show some (CR.tv (tRat _ _))=some (CR.tv (tRat _ _));exact rat_eq (by rw [hde]) (by rw [hde]))
        -- PVC
    · cases h
def gMay:Con Tryz.prog where
  f:=18
  sem:=fun xs=>match xs with
    | [.sc (.v (.int .i64 v))]=>some (True,.tv (tB (wd v)))
    | _=>none
  ok := by
    intro xs p r' h hp
    refine ⟨⟨_,Tryz.func18,by kernel_rfl,rfl⟩,fun us w ha=>?_⟩
    split at h
    · rename_i v
      cases h
      refine fn_ret (cxOk Tryz.prog intsR_ok [] []) follows Tryz.func18 rfl 100 _ rfl (by simp) ?_ ha
      repeat' first
        | exact trivial
        | (refine And.intro (show regChk _ _ _ _ _=true from by kernel_rfl) (And.intro ?_ ?_))
        | (refine And.intro (fun _=>?_) (fun h=>absurd (show true=false from h) (by decide)))
        | (refine And.intro (fun h=>absurd (show false=true from h) (by decide)) (fun _=>?_))
        | (refine And.intro (fun hb=>?_) (fun hb'=>?_))
        | refine And.intro ?_ ?_
        | intro _
      all_goals first
        | (show (_:Int)=(_:Int);rfl)
        | (show (_:Bool)=(_:Bool);first|assumption|exact beq_iff_eq.2 (by assumption)|exact g2 (by assumption) (by assumption))
        | (show some (CR.tv (tB _))=some (CR.tv (tB _));exact tB_eq (may_eq v))
        -- PVC
    · cases h
def gWord:Con Tryz.prog where
  f:=33
  sem:=fun xs=>match xs with
    | [.agg [.neg x,.mag x']]=>some (x'=x,.tv (tNN (toldR x).1 (toldR x).2))
    | _=>none
  ok := by
    intro xs p r' h hp
    refine ⟨⟨_,Tryz.func33,by kernel_rfl,rfl⟩,fun us w ha=>?_⟩
    split at h
    · rename_i x x'
      cases h
      obtain rfl:=hp
      refine fn_ret (cxOk Tryz.prog intsR_ok [] [rSmall,gMay]) follows Tryz.func33 rfl 100 _ rfl (by simp) ?_ ha
      repeat' first
        | exact trivial
        | (refine And.intro (show regChk _ _ _ _ _=true from by kernel_rfl) (And.intro ?_ ?_))
        | (refine And.intro (fun _=>?_) (fun h=>absurd (show true=false from h) (by decide)))
        | (refine And.intro (fun h=>absurd (show false=true from h) (by decide)) (fun _=>?_))
        | (refine And.intro (fun hb=>?_) (fun hb'=>?_))
        | refine And.intro ?_ ?_
        | intro _
      all_goals first
        | (show (_:Int)=(_:Int);rfl)
        | (show (_:Bool)=(_:Bool);first|assumption|exact beq_iff_eq.2 (by assumption)|exact g2 (by assumption) (by assumption))
        | (show some (CR.tv (tNN _ _))=some (CR.tv (tNN _ _));first|exact nn_eq (gtold0 (by assumption))|exact nn_eq (gtold1 (by assumption)))
        -- PVC
    · cases h
def gNear:Con Tryz.prog where
  f:=62
  sem:=fun xs=>match xs with
    | [.agg [.neg x,.mag x',.mag d]]=>some (x'=x∧0<d∧BI 8000 x∧BI 8000 d,.tv (tNN (toldR (roundP x d)).1 (toldR (roundP x d)).2))
    | _=>none
  ok := by
    intro xs p r' h hp
    refine ⟨⟨_,Tryz.func62,by kernel_rfl,rfl⟩,fun us w ha=>?_⟩
    split at h
    · rename_i x x' d
      cases h
      obtain ⟨rfl,h0,hn,hd⟩:=hp
      refine fn_ret (cxOk Tryz.prog intsR_ok [] [qNear,gWord]) follows Tryz.func62 rfl 100 _ rfl (by simp) ?_ ha
      repeat' first
        | exact trivial
        | (refine And.intro (show regChk _ _ _ _ _=true from by kernel_rfl) (And.intro ?_ ?_))
        | (refine And.intro (fun _=>?_) (fun h=>absurd (show true=false from h) (by decide)))
        | (refine And.intro (fun h=>absurd (show false=true from h) (by decide)) (fun _=>?_))
        | (refine And.intro (fun hb=>?_) (fun hb'=>?_))
        | refine And.intro ?_ ?_
        | intro _
      all_goals first
        | (show (_:Int)=(_:Int);rfl)
        | (show (_:Bool)=(_:Bool);first|assumption|exact beq_iff_eq.2 (by assumption)|exact g2 (by assumption) (by assumption))
        | (show BI _ _;first|exact BI.mono hn (by decide)|exact BI.mono hd (by decide))
        | (show (0:Int)<d;exact h0)
        | (show some (CR.tv (tNN _ _))=some (CR.tv (tNN _ _));rfl)
        -- PVC
    · cases h
def gNearQ:Con Tryz.prog where
  f:=31
  sem:=fun xs=>match xs with
    | [.agg [.neg n,.mag n']]=>some (n'=n∧BI 4000 n,.tv (tNN (toldR (roundP n 1073741824)).1 (toldR (roundP n 1073741824)).2))
    | _=>none
  ok := by
    intro xs p r' h hp
    refine ⟨⟨_,Tryz.func31,by kernel_rfl,rfl⟩,fun us w ha=>?_⟩
    split at h
    · rename_i n n'
      cases h
      obtain ⟨rfl,hn⟩:=hp
      refine fn_ret (cxOk Tryz.prog intsR_ok [] [cNOf,cUp2,qMake,gNear]) follows Tryz.func31 rfl 100 _ rfl (by simp) ?_ ha
      repeat' first
        | exact trivial
        | (refine And.intro (show regChk _ _ _ _ _=true from by kernel_rfl) (And.intro ?_ ?_))
        | (refine And.intro (fun _=>?_) (fun h=>absurd (show true=false from h) (by decide)))
        | (refine And.intro (fun h=>absurd (show false=true from h) (by decide)) (fun _=>?_))
        | (refine And.intro (fun hb=>?_) (fun hb'=>?_))
        | refine And.intro ?_ ?_
        | intro _
      all_goals first
        | (show (_:Int)=(_:Int);rfl)
        | (show (_:Bool)=(_:Bool);first|assumption|exact beq_iff_eq.2 (by assumption)|exact g2 (by assumption) (by assumption))
        | (show (-9223372036854775808:Int)≤0;decide)
        | (show (-9223372036854775808:Int)≤1;decide)
        | (show (0:Int)<9223372036854775808;decide)
        | (show (1:Int)<9223372036854775808;decide)
        | (show (0:Int)≤1;decide)
        | (show (1:Int)≤6400;decide)
        | (show (1:Int)<18446744073709551616;decide)
        | (show (0:Int)≤2;decide)
        | (show (2:Int)<18446744073709551616;decide)
        | (show (0:Int)≤30;decide)
        | (show (30:Int)≤6400;decide)
        | (show (2:Int)=2;rfl)
        | (show (_:Nat)=(_:Nat);rfl)
        | (show BI _ _;first|exact BI.mono hn (by decide)|exact BI.mono b30 (by decide)|exact BI.mono (hn.div _) (by decide)|exact BI.mono (b30.div _) (by decide))
        | (show B _ _;exact B.mono (e:=1) (show (1:Nat)<2 ^ 1 by decide) (by decide))
        | (show (0:Int)<1073741824;decide)
        | (show (0:Int)<1073741824/gcdI _ _;exact (round_gcd n' (by decide)).2)
        | (show some (CR.tv (tNN _ _))=some (CR.tv (tNN _ _));exact nn_eq2 (congrArg toldR (round_gcd n' (by decide)).1))
        -- PVC
    · cases h
def gProd:Con Tryz.prog where
  f:=67
  sem:=fun xs=>match xs with
    | [.sc (.v (.int .i64 a)),.sc (.v (.int .i64 b))]=>some ((-9223372036854775808≤a∧a<9223372036854775808)∧(-9223372036854775808≤b∧b<9223372036854775808),.tv (tI (a*b)))
    | _=>none
  ok := by
    intro xs p r' h hp
    refine ⟨⟨_,Tryz.func67,by kernel_rfl,rfl⟩,fun us w ha=>?_⟩
    split at h
    · rename_i a b
      cases h
      obtain ⟨pa,pb⟩:=hp
      refine fn_ret (cxOk Tryz.prog intsR_ok [] [rFrom,rTimes]) follows Tryz.func67 rfl 100 _ rfl (by simp) ?_ ha
      repeat' first
        | exact trivial
        | (refine And.intro (show regChk _ _ _ _ _=true from by kernel_rfl) (And.intro ?_ ?_))
        | (refine And.intro (fun _=>?_) (fun h=>absurd (show true=false from h) (by decide)))
        | (refine And.intro (fun h=>absurd (show false=true from h) (by decide)) (fun _=>?_))
        | (refine And.intro (fun hb=>?_) (fun hb'=>?_))
        | refine And.intro ?_ ?_
        | intro _
      all_goals first
        | (show (_:Int)=(_:Int);rfl)
        | (show (_:Bool)=(_:Bool);first|assumption|exact beq_iff_eq.2 (by assumption)|exact g2 (by assumption) (by assumption))
        | (with_reducible exact pa.1)
        | (with_reducible exact pa.2)
        | (with_reducible exact pb.1)
        | (with_reducible exact pb.2)
        | (show BI _ _;first|exact BI.mono (BI.i64 pa) (by decide)|exact BI.mono (BI.i64 pb) (by decide))
        | (show some (CR.tv (tI _))=some (CR.tv (tI _));rfl)
        -- PVC
    · cases h
def gAdd:Con Tryz.prog where
  f:=55
  sem:=fun xs=>match xs with
    | [.sc (.v (.int .i64 a)),.sc (.v (.int .i64 b))]=>some ((-9223372036854775808≤a∧a<9223372036854775808)∧(-9223372036854775808≤b∧b<9223372036854775808),.tv (tNN (toldR (a+b)).1 (toldR (a+b)).2))
    | _=>none
  ok := by
    intro xs p r' h hp
    refine ⟨⟨_,Tryz.func55,by kernel_rfl,rfl⟩,fun us w ha=>?_⟩
    split at h
    · rename_i a b
      cases h
      obtain ⟨pa,pb⟩:=hp
      refine fn_ret (cxOk Tryz.prog intsR_ok [] [rFrom,rPlus,gWord]) follows Tryz.func55 rfl 100 _ rfl (by simp) ?_ ha
      repeat' first
        | exact trivial
        | (refine And.intro (show regChk _ _ _ _ _=true from by kernel_rfl) (And.intro ?_ ?_))
        | (refine And.intro (fun _=>?_) (fun h=>absurd (show true=false from h) (by decide)))
        | (refine And.intro (fun h=>absurd (show false=true from h) (by decide)) (fun _=>?_))
        | (refine And.intro (fun hb=>?_) (fun hb'=>?_))
        | refine And.intro ?_ ?_
        | intro _
      all_goals first
        | (show (_:Int)=(_:Int);rfl)
        | (show (_:Bool)=(_:Bool);first|assumption|exact beq_iff_eq.2 (by assumption)|exact g2 (by assumption) (by assumption))
        | (with_reducible exact pa.1)
        | (with_reducible exact pa.2)
        | (with_reducible exact pb.1)
        | (with_reducible exact pb.2)
        | (show BI _ _;first|exact BI.mono (BI.i64 pa) (by decide)|exact BI.mono (BI.i64 pb) (by decide))
        | (show some (CR.tv (tNN _ _))=some (CR.tv (tNN _ _));rfl)
        -- PVC
    · cases h
def gMul:Con Tryz.prog where
  f:=54
  sem:=fun xs=>match xs with
    | [.sc (.v (.int .i64 a)),.sc (.v (.int .i64 b))]=>some ((-9223372036854775808≤a∧a<9223372036854775808)∧(-9223372036854775808≤b∧b<9223372036854775808),.tv (tNN (toldR (roundP (a*b) 1073741824)).1 (toldR (roundP (a*b) 1073741824)).2))
    | _=>none
  ok := by
    intro xs p r' h hp
    refine ⟨⟨_,Tryz.func54,by kernel_rfl,rfl⟩,fun us w ha=>?_⟩
    split at h
    · rename_i a b
      cases h
      obtain ⟨pa,pb⟩:=hp
      refine fn_ret (cxOk Tryz.prog intsR_ok [] [gProd,gNearQ]) follows Tryz.func54 rfl 100 _ rfl (by simp) ?_ ha
      repeat' first
        | exact trivial
        | (refine And.intro (show regChk _ _ _ _ _=true from by kernel_rfl) (And.intro ?_ ?_))
        | (refine And.intro (fun _=>?_) (fun h=>absurd (show true=false from h) (by decide)))
        | (refine And.intro (fun h=>absurd (show false=true from h) (by decide)) (fun _=>?_))
        | (refine And.intro (fun hb=>?_) (fun hb'=>?_))
        | refine And.intro ?_ ?_
        | intro _
      all_goals first
        | (show (_:Int)=(_:Int);rfl)
        | (show (_:Bool)=(_:Bool);first|assumption|exact beq_iff_eq.2 (by assumption)|exact g2 (by assumption) (by assumption))
        | (with_reducible exact pa.1)
        | (with_reducible exact pa.2)
        | (with_reducible exact pb.1)
        | (with_reducible exact pb.2)
        | (show BI _ _;exact BI.mono (BI.mul (BI.i64 pa) (BI.i64 pb) (Nat.le_refl _)) (by decide))
        | (show some (CR.tv (tNN _ _))=some (CR.tv (tNN _ _));rfl)
        -- PVC
    · cases h
def gRootNear:Con Tryz.prog where
  f:=69
  sem:=fun xs=>match xs with
    | [.agg [.neg x,.mag x',.mag d]]=>some (x'=x∧0≤x∧0<d∧BI 900 x∧BI 900 d,.tv (tI (nearR x d)))
    | _=>none
  ok := by
    intro xs p r' h hp
    refine ⟨⟨_,Tryz.func69,by kernel_rfl,rfl⟩,fun us w ha=>?_⟩
    split at h
    · rename_i x x' d
      cases h
      obtain ⟨rfl,h0,hd0,hn,hd⟩:=hp
      have hq:0≤x'/d:=Int.ediv_nonneg h0 (Int.le_of_lt hd0)
      have hk:=(isq_spec hq).1
      obtain ⟨hA,hE,hC,hD⟩:=rn_vals hk
      have b1:BI 900 (isq (x'/d)):=B.le (hn.div d) (by have:=isq_self hq;omega)
      have b2:BI 901 ((isq (x'/d))*2 ^ Int.toNat 1):=BI.shl 1 b1 (by decide)
      have b3:BI 902 ((isq (x'/d))*2 ^ Int.toNat 1+1):=BI.add b2 (BI.one.mono (by decide)) (by decide)
      have bA:BI 902 (rnA (isq (x'/d))):=by rw [hA];exact b3
      have bE:BI 902 (rnE (isq (x'/d))):=by rw [hE];exact b22.mono (by decide)
      have bC:BI 1804 (rnC (isq (x'/d))):=by rw [hC];exact BI.mul b3 b3 (by decide)
      have bD:BI 902 (rnD (isq (x'/d))):=by rw [hD];exact BI.mono (e:=3) (show (4:Int).natAbs<2 ^ 3 by decide) (by decide)
      have b4:BI 900 ((isq (x'/d))/2 ^ Int.toNat 1):=b1.div _
      have b5:BI 901 ((isq (x'/d))/2 ^ Int.toNat 1*2 ^ Int.toNat 1):=BI.shl 1 b4 (by decide)
      have hE':rnE (isq (x'/d))=2:=hE
      have hD':rnD (isq (x'/d))=4:=hD
      refine fn_ret (cxOk Tryz.prog intsR_ok [] [qFloor,rRoot,rLeft,rFrom,rPlus,cNOf,qMake,qTimes,qCmp,rCmp,rRight]) follows Tryz.func69 rfl 100 _ rfl (by simp) ?_ ha
      repeat' first
        | exact trivial
        | (refine And.intro (show regChk _ _ _ _ _=true from by kernel_rfl) (And.intro ?_ ?_))
        | (refine And.intro (fun _=>?_) (fun h=>absurd (show true=false from h) (by decide)))
        | (refine And.intro (fun h=>absurd (show false=true from h) (by decide)) (fun _=>?_))
        | (refine And.intro (fun hb=>?_) (fun hb'=>?_))
        | refine And.intro ?_ ?_
        | intro _
      all_goals first
        | (show (_:Int)=(_:Int);rfl)
        | (show (_:Bool)=(_:Bool);first|assumption|exact beq_iff_eq.2 (by assumption)|exact g2 (by assumption) (by assumption))
        | (show (-9223372036854775808:Int)≤0;decide)
        | (show (-9223372036854775808:Int)≤1;decide)
        | (show (0:Int)<9223372036854775808;decide)
        | (show (1:Int)<9223372036854775808;decide)
        | (show (0:Int)≤1;decide)
        | (show (1:Int)≤6400;decide)
        | (show (1:Int)<18446744073709551616;decide)
        | (show (0:Int)≤2;decide)
        | (show (2:Int)<18446744073709551616;decide)
        | (show (0:Int)≤30;decide)
        | (show (30:Int)≤6400;decide)
        | (show (2:Int)=2;rfl)
        | (show (_:Nat)=(_:Nat);rfl)
        | (show (0:Int)<d;exact hd0)
        | (show (0:Int)≤d;exact Int.le_of_lt hd0)
        | (show (0:Int)≤x'/d;exact hq)
        | (show (0:Int)<((Int.toNat 2:Nat):Int);decide)
        | (show (0:Int)<rnE (isq (x'/d));rw [hE];decide)
        | (show (0:Int)≤rnD (isq (x'/d));rw [hD];decide)
        | (show BI _ _;first|exact BI.mono hn (by decide)|exact BI.mono hd (by decide)|exact BI.mono (hn.div d) (by decide)|exact BI.mono b1 (by decide)|exact BI.mono b2 (by decide)|exact BI.mono b3 (by decide)|exact BI.mono BI.one (by decide)|exact BI.mono bA (by decide)|exact BI.mono bE (by decide)|exact BI.mono bC (by decide)|exact BI.mono bD (by decide)|exact BI.mono b4 (by decide)|exact BI.mono b5 (by decide)|exact BI.mono (show BI 2 ((Int.toNat 2:Nat):Int) from b22) (by decide))
        | (show some (CR.tv (tI _))=some (CR.tv (tI _));first|exact wh_eq (rn_yes h0 hd0 (by assumption))|exact wh_eq (rn_no h0 hd0 (by assumption)))
        -- PVC
    · cases h
end
end Go.Proofs.YtmnkaldemjdcoaaGreat.Wh
end
section
set_option linter.unusedVariables false
set_option linter.unusedSimpArgs false
namespace Go.Proofs.YtmnkaldemjdcoaaGreat.Wh
open Go RowKit YtmnkaldemjdcoaaGreatW.PrintWords YtmnkaldemjdcoaaGreatW.PrintMore YtmnkaldemjdcoaaGreatW.Aid YtmnkaldemjdcoaaGreatW.Big YtmnkaldemjdcoaaGreatW.Sx YtmnkaldemjdcoaaGreat.BitsWalk YtmnkaldemjdcoaaGreat.Limbs YtmnkaldemjdcoaaGreat.Whole YtmnkaldemjdcoaaGreat.FxWalk Go.Proofs
theorem ri_p {x y:Int} (hy:0<y):roundI x y=roundP x y:=by unfold roundI;rw [if_neg (by omega)]
theorem len_big {x:Int} {k:Nat} (hk:k≤20) (h:x.natAbs<18446744073709551616 ^ k):Len0 x:=by
  have:(lm x).length≤k:=limbs_len h
  unfold Len0;omega
end Go.Proofs.YtmnkaldemjdcoaaGreat.Wh
end
section
set_option linter.unusedVariables false
set_option linter.unusedSimpArgs false
namespace Go.Proofs.YtmnkaldemjdcoaaGreatW.Sx
open Go RowKit YtmnkaldemjdcoaaGreatW.PrintWords YtmnkaldemjdcoaaGreatW.PrintMore YtmnkaldemjdcoaaGreatW.Aid YtmnkaldemjdcoaaGreatW.Big
def eqV:Value→Value→Bool
  | .int _ a,.int _ b=>a == b
  | .bool a,.bool b=>a == b
  | _,_=>false
def eqL:List Value→List Value→Bool
  | [],[]=>true
  | [x],[y]=>eqV x y
  | x::xs,y::ys=>eqV x y&&eqL xs ys
  | _,_=>false
def isK:Option IntKind→Value→Bool
  | some k,.int k' _=>decide (k'=k)
  | none,.bool _=>true
  | _,_=>false
def isKs:List (Option IntKind)→List Value→Bool
  | [],[]=>true
  | k::ks,x::xs=>isK k x&&isKs ks xs
  | _,_=>false
def rep {α:Type} (l:List α):Nat→List α
  | 0=>[]
  | n+1=>l++rep l n
mutual
/-- What a struct's cells are,in line (arr: also of arrays). -/
def lvs (P:Program) (arr:Bool):Nat→TypeId→Option (List (Option IntKind))
  | 0,_=>none
  | d + 1, T => match P.underlying T, P.info? T with
    | some (.int k),some inf=>if inf.size=1 then some [some k] else none
    | some .bool,some inf=>if inf.size=1 then some [none] else none
    | some (.struct fs),some inf=>if P.stoodInHeld T then none else match lvsF P arr d fs.toList 0 with
      | some ks=>if inf.size=ks.length then some ks else none
      | none=>none
    | some (.array n e),some inf=>if arr then match lvs P arr d e with
      | some ks=>if inf.size=(rep ks n).length then some (rep ks n) else none
      | none=>none
      else none
    | _,_=>none
def lvsF (P:Program) (arr:Bool):Nat→List Field→Nat→Option (List (Option IntKind))
  | _,[],_=>some []
  | 0,_::_,_=>none
  | d + 1, f :: fs, off => if f.name = "_" ∨ f.offset ≠ off then none else match lvs P arr d f.type with
    | some (k::ks)=>match lvsF P arr d fs (off+(k::ks).length) with
      | some r=>some (k::ks++r)
      | none=>none
    | _=>none
end
theorem lvs_info {P:Program} {arr:Bool} {d:Nat} {T:TypeId} {ks:List (Option IntKind)} (h:lvs P arr d T=some ks):∃ inf,P.info? T=some inf∧inf.size=ks.length:=by
  cases d with
  | zero=>cases h
  | succ d =>
  rw [lvs] at h
  split at h
  · rename_i hi
    split at h
    · rename_i hs;cases h;exact ⟨_,hi,hs⟩
    · cases h
  · rename_i hi
    split at h
    · rename_i hs;cases h;exact ⟨_,hi,hs⟩
    · cases h
  · rename_i hi
    split at h
    · cases h
    · split at h
      · split at h
        · rename_i hs;cases h;exact ⟨_,hi,hs⟩
        · cases h
      · cases h
  · rename_i hi
    split at h
    · split at h
      · split at h
        · rename_i hs;cases h;exact ⟨_,hi,hs⟩
        · cases h
      · cases h
    · cases h
  · cases h
theorem lvs_cells {P:Program} {arr:Bool} {d:Nat} {T:TypeId} {ks:List (Option IntKind)} (h:lvs P arr d T=some ks):P.cellsOf T=ks.length:=by
  obtain ⟨inf,h1,h2⟩:=lvs_info h
  unfold Program.cellsOf
  rw [h1];exact h2
def isAggT (P:Program) (T:TypeId):Bool:=match P.underlying T with
  | some (.struct _)=>true
  | _=>false
theorem isKs_len:∀ {ks:List (Option IntKind)} {xs:List Value},isKs ks xs=true→xs.length=ks.length
  | [],[],_=>rfl
  | _::_,_::_,h=>by simp only [isKs,Bool.and_eq_true] at h;simp [isKs_len h.2]
  | [],_::_,h=>by cases h
  | _::_,[],h=>by cases h
theorem isKs_take:∀ {ks ks':List (Option IntKind)} {xs:List Value},isKs (ks++ks') xs=true→isKs ks (xs.take ks.length)=true∧isKs ks' (xs.drop ks.length)=true
  | [],ks',xs,h=>⟨by cases xs<;>rfl,h⟩
  | k::ks,ks',[],h=>by cases h
  | k::ks,ks',x::xs,h=>by
    simp only [List.cons_append,isKs,Bool.and_eq_true] at h
    have:=isKs_take h.2
    exact ⟨by simp only [List.length_cons,List.take_succ_cons,isKs,h.1,this.1,Bool.and_self],by simpa using this.2⟩
theorem eqL_cons (x y:Value) (xs ys:List Value) (h:xs.length=ys.length):eqL (x::xs) (y::ys)=(eqV x y&&eqL xs ys):=by
  cases xs with
  | nil=>cases ys with
    | nil=>simp [eqL]
    | cons _ _=>simp at h
  | cons _ _=>cases ys with
    | nil=>simp at h
    | cons _ _=>rfl
theorem eqL_append:∀ {xs ys xs' ys':List Value},xs.length=ys.length→xs'.length=ys'.length→eqL (xs++xs') (ys++ys')=(eqL xs ys&&eqL xs' ys')
  | [],[],xs',ys',_,_=>by simp [eqL]
  | x::xs,y::ys,xs',ys',h,h'=>by
    have h2:xs.length=ys.length:=by simpa using h
    rw [List.cons_append,List.cons_append,eqL_cons _ _ _ _ (by simp [h2,h']),eqL_append h2 h',eqL_cons _ _ _ _ h2,Bool.and_assoc]
section
variable {P:Program}
theorem run_isAgg' {T:TypeId} {d:TypeDesc} (hu:P.underlying T=some d) (w:World):(isAgg T).run P w = .ok (descAgg d) w:=by
  simp only [isAgg,Sem.run_bind,run_underlying hu,Result.andThen_ok]
  cases d<;>rfl
def valOf (P:Program) (T:TypeId) (xs:List Value):Option Value:=match P.underlying T with
  | some (.struct _)=>some (.agg xs.toArray)
  | _=>match xs with
    | [x]=>some x
    | _=>none
theorem eqV_run {k:Option IntKind} {T:TypeId} (hT:P.underlying T=some (match k with|some k => .int k|none => .bool)) {x y:Value} (hx:isK k x=true) (hy:isK k y=true) (d:Nat) (w:World):(Op.equalIn (d+1) T x y).run P w = .ok (eqV x y) w:=by
  cases k with
  | some k =>
    cases x<;>simp only [isK] at hx<;>try cases hx
    cases y<;>simp only [isK] at hy<;>try cases hy
    rw [of_decide_eq_true hx,of_decide_eq_true hy]
    exact run_equalIn_int w d T k k _ _ hT
  | none =>
    cases x<;>simp only [isK] at hx<;>try cases hx
    cases y<;>simp only [isK] at hy<;>try cases hy
    exact run_equalIn_bool' w d T _ _ hT
theorem part_run {T:TypeId} {ks:List (Option IntKind)} {xs:List Value} {off:Nat} {d:Nat} (hl:lvs P false d T=some ks) (hn:0<ks.length) (hx:off+ks.length≤xs.length) (w:World):∃ v,valOf P T ((xs.drop off).take ks.length)=some v∧(part T xs.toArray off).run P w = .ok v w:=by
  cases d with
  | zero=>cases hl
  | succ d =>
  rw [lvs] at hl
  split at hl
  · rename_i k inf hu hi
    split at hl
    case isFalse=>cases hl
    cases hl
    obtain ⟨x,hx0⟩:∃ x,xs[off]?=some x:=⟨xs[off]'(by simp at hx;omega),by simp⟩
    refine ⟨x,?_,?_⟩
    · unfold valOf;rw [hu]
      have:(xs.drop off).take 1=[x]:=by rw [List.take_one];rw [List.head?_drop,hx0];rfl
      simp only [List.length_cons,List.length_nil,Nat.zero_add,this]
    · simp only [part,Sem.run_bind,run_isAgg' hu,Result.andThen_ok,descAgg,Bool.false_eq_true,if_false,List.getElem?_toArray,hx0,Sem.run_pure]
  · rename_i inf hu hi
    split at hl
    case isFalse=>cases hl
    cases hl
    obtain ⟨x,hx0⟩:∃ x,xs[off]?=some x:=⟨xs[off]'(by simp at hx;omega),by simp⟩
    refine ⟨x,?_,?_⟩
    · unfold valOf;rw [hu]
      have:(xs.drop off).take 1=[x]:=by rw [List.take_one];rw [List.head?_drop,hx0];rfl
      simp only [List.length_cons,List.length_nil,Nat.zero_add,this]
    · simp only [part,Sem.run_bind,run_isAgg' hu,Result.andThen_ok,descAgg,Bool.false_eq_true,if_false,List.getElem?_toArray,hx0,Sem.run_pure]
  · rename_i fs inf hu hi
    split at hl
    · cases hl
    · split at hl
      · split at hl
        · rename_i hsz
          cases hl
          refine ⟨.agg ((xs.drop off).take ks.length).toArray,?_,?_⟩
          · unfold valOf;rw [hu]
          · simp only [part,Sem.run_bind,run_isAgg' hu,Result.andThen_ok,descAgg,if_true,run_sizeOf' hi,Sem.run_pure,hsz]
            congr 2
            rw [List.extract_toArray,List.extract_eq_take_drop]
            congr 2
            omega
        · cases hl
      · cases hl
  · cases hl
  · cases hl
theorem eq_run:∀ (d:Nat),(∀ (T:TypeId) (ks:List (Option IntKind)) (xs ys:List Value) (x y:Value) (D:Nat) (w:World),lvs P false d T=some ks→0<ks.length→isKs ks xs=true→isKs ks ys=true→valOf P T xs=some x→valOf P T ys=some y→d≤D→(Op.equalIn D T x y).run P w = .ok (eqL xs ys) w) ∧
    (∀ (fs:List Field) (off:Nat) (ks:List (Option IntKind)) (xs ys:List Value) (D:Nat) (w:World),lvsF P false d fs off=some ks→off+ks.length≤xs.length→off+ks.length≤ys.length→isKs ks ((xs.drop off).take ks.length)=true→isKs ks ((ys.drop off).take ks.length)=true→d≤D+1→(Op.eqFields D xs.toArray ys.toArray fs).run P w = .ok (eqL ((xs.drop off).take ks.length) ((ys.drop off).take ks.length)) w):=by
  intro d
  induction d with
  | zero =>
    refine ⟨fun T ks xs ys x y D w h=>(by cases h),fun fs off ks xs ys D w h=>?_⟩
    cases fs with
    | nil=>cases h;intro _ _ _ _ _;simp [Op.eqFields,eqL]
    | cons f fs=>cases h
  | succ d ih =>
    obtain ⟨ih1,ih2⟩:=ih
    constructor
    · intro T ks xs ys x y D w h hn hx hy hvx hvy hD
      obtain ⟨D,rfl⟩:∃ D',D=D'+1:=⟨D-1,by omega⟩
      have hlx:=isKs_len hx
      have hly:=isKs_len hy
      rw [lvs] at h
      split at h
      · rename_i k inf hu hi
        split at h
        case isFalse=>cases h
        cases h
        unfold valOf at hvx hvy
        rw [hu] at hvx hvy
        match xs,hlx with
        | [a],_=>match ys,hly with
          | [b],_ =>
            cases hvx;cases hvy
            simp only [isKs,Bool.and_true] at hx hy
            exact eqV_run (k:=some k) hu hx hy D w
      · rename_i inf hu hi
        split at h
        case isFalse=>cases h
        cases h
        unfold valOf at hvx hvy
        rw [hu] at hvx hvy
        match xs,hlx with
        | [a],_=>match ys,hly with
          | [b],_ =>
            cases hvx;cases hvy
            simp only [isKs,Bool.and_true] at hx hy
            exact eqV_run (k:=none) hu hx hy D w
      · rename_i fs inf hu hi
        unfold valOf at hvx hvy
        rw [hu] at hvx hvy
        cases hvx;cases hvy
        split at h
        · cases h
        · rename_i hst
          split at h
          · rename_i ks' hf
            split at h
            · cases h
              have hfo:P.fieldsOf T=fs:=by unfold Program.fieldsOf;rw [hu]
              rw [run_equalIn_struct w D T _ _ (by rw [hfo];exact hu) (by simpa using hst),hfo]
              have:=ih2 fs.toList 0 ks xs ys D w hf (by omega) (by omega) (by rw [List.drop_zero,← hlx,List.take_length];exact hx) (by rw [List.drop_zero,← hly,List.take_length];exact hy) (by omega)
              rw [this,List.drop_zero,List.drop_zero]
              congr 2
              · rw [← hlx,List.take_length]
              · rw [← hly,List.take_length]
            · cases h
          · cases h
      · cases h
      · cases h
    · intro fs off ks xs ys D w h hxs hys hx hy hD
      cases fs with
      | nil=>cases h;simp [Op.eqFields,eqL]
      | cons f fs =>
        rw [lvsF] at h
        split at h
        · cases h
        · rename_i hc
          have hname : f.name ≠ "_" := fun e => hc (Or.inl e)
          have hoff:f.offset=off:=Decidable.byContradiction fun e=>hc (Or.inr e)
          split at h
          · rename_i k ks1 hl
            split at h
            · rename_i r hr
              cases h
              have e1:(k::(ks1++r)).length=(k::ks1).length+r.length:=by simp;omega
              have hlen:(k::ks1++r).length=(k::ks1).length+r.length:=by simp;omega
              rw [hlen] at hxs hys hx hy
              have sx:(xs.drop off).take ((k::ks1).length+r.length)=(xs.drop off).take (k::ks1).length++(xs.drop (off+(k::ks1).length)).take r.length:=by rw [List.take_add,List.drop_drop]
              have sy:(ys.drop off).take ((k::ks1).length+r.length)=(ys.drop off).take (k::ks1).length++(ys.drop (off+(k::ks1).length)).take r.length:=by rw [List.take_add,List.drop_drop]
              have lx:((xs.drop off).take (k::ks1).length).length=(k::ks1).length:=by rw [List.length_take,List.length_drop];omega
              have ly:((ys.drop off).take (k::ks1).length).length=(k::ks1).length:=by rw [List.length_take,List.length_drop];omega
              have hx2:=isKs_take hx
              have hy2:=isKs_take hy
              rw [sx] at hx2;rw [sy] at hy2
              rw [List.take_left' lx,List.drop_left' lx] at hx2
              rw [List.take_left' ly,List.drop_left' ly] at hy2
              obtain ⟨va,hva,ha⟩:=part_run hl (by simp) (off:=off) (xs:=xs) (by omega) w
              obtain ⟨vb,hvb,hb⟩:=part_run hl (by simp) (off:=off) (xs:=ys) (by omega) w
              have h3:=ih1 f.type (k::ks1) _ _ va vb D w hl (by simp) hx2.1 hy2.1 hva hvb (by omega)
              simp only [Op.eqFields,hname,ne_eq,not_false_eq_true,if_true,Sem.run_bind,hoff,ha,hb,h3,Result.andThen_ok]
              rw [hlen,sx,sy,eqL_append (by rw [lx,ly]) (by rw [List.length_take,List.length_take,List.length_drop,List.length_drop];omega)]
              cases eqL ((xs.drop off).take (k::ks1).length) ((ys.drop off).take (k::ks1).length) with
              | false=>simp
              | true =>
                simp only [Bool.not_true,Bool.false_eq_true,if_false,Bool.true_and]
                exact ih2 fs (off+(k::ks1).length) r xs ys D w hr (by omega) (by omega) hx2.2 hy2.2 (by omega)
            · cases h
          · cases h
end
def valsOf:List A0→Option (List Value)
  | []=>some []
  | .v x::r=>match valsOf r with
    | some l=>some (x::l)
    | none=>none
  | .neg x::r=>match valsOf r with
    | some l=>some (.bool (sgn x)::l)
    | none=>none
  | _::_=>none
theorem valsOf_eq {w:World}:∀ {cs:List A0} {l us:List Value},valsOf cs=some l→All2 (A0.reads w) cs us→us=l
  | [],l,us,h,ha=>by cases h;cases ha;rfl
  | c :: r, l, us, h, ha => by
    cases ha with
    | cons h1 h2 =>
    cases c with
    | v x =>
      simp only [valsOf] at h
      split at h
      · rename_i l' hl;cases h;rw [valsOf_eq hl h2,show _=x from h1]
      · cases h
    | neg x =>
      simp only [valsOf] at h
      split at h
      · rename_i l' hl;cases h;rw [valsOf_eq hl h2,show _=Value.bool (sgn x) from h1]
      · cases h
    | sl k l'=>cases h
    | mag x=>cases h
def eqCells (ks:List (Option IntKind)) (xs ys:List A0):Option Bool:=match valsOf xs,valsOf ys with
  | some a,some b=>match isKs ks a,isKs ks b with
    | true,true=>some (eqL a b)
    | _,_=>none
  | _,_=>none
def eqOk (P:Program) (T:TypeId) (ks:List (Option IntKind)):Bool:=(match lvs P false 20 T with|some l=>decide (l=ks)|none=>false)&&!P.eqGuardType P.depth T&&isAggT P T&&!ks.isEmpty
def eqS (P:Program) (T:TypeId) (ks:List (Option IntKind)) (h:eqOk P T ks=true):EqT P where
  T:=T
  f:=eqCells ks
  ok := by
    intro xs ys z hz us vs w x y hx hy
    unfold eqOk at h
    simp only [Bool.and_eq_true] at h
    obtain ⟨⟨⟨h1,h2⟩,h3⟩,h4⟩:=h
    split at h1
    · rename_i l hl
      have:=of_decide_eq_true h1
      subst this
      unfold eqCells at hz
      split at hz
      · rename_i a b ha hb
        obtain rfl:=valsOf_eq ha hx
        obtain rfl:=valsOf_eq hb hy
        split at hz
        · rename_i k1 k2
          cases hz
          have hg:P.eqGuardType P.depth T=false:=by simpa using h2
          refine ⟨run_eqGuard_agg w .eql T x y _ _ hg,run_eqGuard_agg w .neq T x y _ _ hg,?_⟩
          unfold isAggT at h3
          split at h3
          · rename_i fs hu
            exact (eq_run 20).1 T l us vs _ _ Op.maxDepth w hl (by cases l with|nil=>cases h4|cons _ _=>simp) k1 k2 (by unfold valOf;rw [hu]) (by unfold valOf;rw [hu]) (by decide)
          · cases h3
        · cases hz
      · cases hz
    · cases h1
end Go.Proofs.YtmnkaldemjdcoaaGreatW.Sx
end
section
set_option linter.unusedVariables false
set_option linter.unusedSimpArgs false
namespace Go.Proofs.YtmnkaldemjdcoaaGreat.Wh
open Go RowKit YtmnkaldemjdcoaaGreatW.PrintWords YtmnkaldemjdcoaaGreatW.PrintMore YtmnkaldemjdcoaaGreatW.Aid YtmnkaldemjdcoaaGreatW.Big YtmnkaldemjdcoaaGreatW.Sx YtmnkaldemjdcoaaGreat.BitsWalk YtmnkaldemjdcoaaGreat.Limbs YtmnkaldemjdcoaaGreat.Whole YtmnkaldemjdcoaaGreat.FxWalk Go.Proofs
abbrev tV4 (p:Int × Int × Int × Int):TV := .tup [(true,[.v (.int .i64 p.1),.v (.int .i64 p.2.1),.v (.int .i64 p.2.2.1)]),(false,[.v (.int .i64 p.2.2.2)])]
theorem v4_eq {x y z e:Int} {p:Int × Int × Int × Int} (h:(x,y,z,e)=p):(some (CR.tv (.tup [(true,[.v (.int .i64 x),.v (.int .i64 y),.v (.int .i64 z)]),(false,[.v (.int .i64 e)])])):Option CR)=some (CR.tv (tV4 p)):=by rw [← h]
def vT (a b c:Int):Int × Int × Int × Int:=if (wd a&&(wd b&&wd c))=true then (a,b,c,0) else (0,0,0,2)
theorem tR_bad {a:Int} (h:((toldR a).2 != 0)=true):wd a=false∧(toldR a).2=2:=by
  unfold toldR at *
  by_cases hw:wd a=true
  · rw [if_pos hw] at h;exact absurd (show ((0:Int) != 0)=true from h) (by decide)
  · rw [if_neg hw];exact ⟨by simpa using hw,rfl⟩
theorem tR_ok {a:Int} (h:((toldR a).2 != 0)=false):wd a=true∧(toldR a).1=a:=by
  unfold toldR at *
  by_cases hw:wd a=true
  · rw [if_pos hw];exact ⟨hw,rfl⟩
  · rw [if_neg hw] at h;exact absurd (show ((2:Int) != 0)=false from h) (by decide)
theorem vT_1 {a b c:Int} (h:((toldR a).2 != 0)=true):((0:Int),(0:Int),(0:Int),(toldR a).2)=vT a b c:=by
  obtain ⟨h1,h2⟩:=tR_bad h
  unfold vT;rw [h2,if_neg (by simp [h1])]
theorem vT_2 {a b c:Int} (h:((toldR b).2 != 0)=true):((0:Int),(0:Int),(0:Int),(toldR b).2)=vT a b c:=by
  obtain ⟨h1,h2⟩:=tR_bad h
  unfold vT;rw [h2,if_neg (by simp [h1])]
theorem vT_3 {a b c:Int} (h:((toldR c).2 != 0)=true):((0:Int),(0:Int),(0:Int),(toldR c).2)=vT a b c:=by
  obtain ⟨h1,h2⟩:=tR_bad h
  unfold vT;rw [h2,if_neg (by simp [h1])]
theorem vT_4 {a b c:Int} (h:((toldR a).2 != 0)=false) (h':((toldR b).2 != 0)=false) (h'':((toldR c).2 != 0)=false):((toldR a).1,(toldR b).1,(toldR c).1,(0:Int))=vT a b c:=by
  obtain ⟨h1,h2⟩:=tR_ok h
  obtain ⟨h3,h4⟩:=tR_ok h'
  obtain ⟨h5,h6⟩:=tR_ok h''
  unfold vT;rw [h2,h4,h6,if_pos (by simp [h1,h3,h5])]
abbrev gV (x y z:Int):Bool:=allw [x,y,z]
theorem gV_iff {x y z:Int}:gV x y z=true↔wd x=true∧wd y=true∧wd z=true:=by simp [gV,allw]
theorem gV_bd {a b c:Int} (h:gV a b c=true):(-35184372088832<a∧a<35184372088832)∧(-35184372088832<b∧b<35184372088832)∧(-35184372088832<c∧c<35184372088832):=by
  obtain ⟨h1,h2,h3⟩:=gV_iff.1 h
  exact ⟨wd_iff.1 h1,wd_iff.1 h2,wd_iff.1 h3⟩
section
set_option maxRecDepth 100000
set_option maxHeartbeats 4000000
def cVOf:Con Tryz.prog where
  f:=40
  sem:=fun xs=>match xs with
    | [.agg [.v (.int .i64 x),.v (.int .i64 y),.v (.int .i64 z)]]=>some (True,.new 2 3 1 [.v (.int .i64 x),.v (.int .i64 y),.v (.int .i64 z)])
    | _=>none
  ok := by
    intro xs p r' h hp
    refine ⟨⟨_,Tryz.func40,by kernel_rfl,rfl⟩,fun us w ha=>?_⟩
    split at h
    · rename_i x y z
      cases h
      refine fn_ret (cxOk Tryz.prog ints_ok [] []) follows Tryz.func40 rfl 100 _ rfl (by simp) ?_ ha
      repeat' first
        | exact trivial
        | (refine And.intro (show regChk _ _ _ _ _=true from by kernel_rfl) (And.intro ?_ ?_))
        | (refine And.intro (fun _=>?_) (fun h=>absurd (show true=false from h) (by decide)))
        | (refine And.intro (fun h=>absurd (show false=true from h) (by decide)) (fun _=>?_))
        | (refine And.intro (fun hb=>?_) (fun hb'=>?_))
        | refine And.intro ?_ ?_
      all_goals first
        | (show some (CR.new _ _ _ _)=some (CR.new _ _ _ _);rfl)
        | (show (_:Nat)=(_:Nat);rfl)
        | (show (_:Nat)≤1000;decide)
        | (show (_:Int)=(_:Int);rfl)
        | (show (_:Int)≤_;decide)
        | (show (_:Int)<_;decide)
        -- PVC
    · cases h
def cVGood:Con Tryz.prog where
  f:=36
  sem:=fun xs=>match xs with
    | [.agg [.v (.int .i64 x),.v (.int .i64 y),.v (.int .i64 z)]]=>some (True,.tv (tB (gV x y z)))
    | _=>none
  ok := by
    intro xs p r' h hp
    refine ⟨⟨_,Tryz.func36,by kernel_rfl,rfl⟩,fun us w ha=>?_⟩
    split at h
    · rename_i x y z
      cases h
      refine fn_ret (cxOk Tryz.prog ints_ok [] [cAll]) follows Tryz.func36 rfl 100 _ rfl (by simp) ?_ ha
      repeat' first
        | exact trivial
        | (refine And.intro (show regChk _ _ _ _ _=true from by kernel_rfl) (And.intro ?_ ?_))
        | (refine And.intro (fun _=>?_) (fun h=>absurd (show true=false from h) (by decide)))
        | (refine And.intro (fun h=>absurd (show false=true from h) (by decide)) (fun _=>?_))
        | (refine And.intro (fun hb=>?_) (fun hb'=>?_))
        | refine And.intro ?_ ?_
      all_goals first
        | (show some (CR.tv (tB _))=some (CR.tv (tB _));exact tB_eq rfl)
        | (show (_:Nat)=(_:Nat);rfl)
        | (show (_:Nat)≤1000;decide)
        | (show (_:Int)=(_:Int);rfl)
        | (show (_:Int)≤_;decide)
        | (show (_:Int)<_;decide)
        -- PVC
    · cases h
def cVCheck:Con Tryz.prog where
  f:=27
  sem:=fun xs=>match xs with
    | [.agg [.v (.int .i64 x),.v (.int .i64 y),.v (.int .i64 z)]]=>some (True,.tv (tN .i64 (if gV x y z=true then 0 else 1)))
    | _=>none
  ok := by
    intro xs p r' h hp
    refine ⟨⟨_,Tryz.func27,by kernel_rfl,rfl⟩,fun us w ha=>?_⟩
    split at h
    · rename_i x y z
      cases h
      refine fn_ret (cxOk Tryz.prog ints_ok [] [cVGood]) follows Tryz.func27 rfl 100 _ rfl (by simp) ?_ ha
      repeat' first
        | exact trivial
        | (refine And.intro (show regChk _ _ _ _ _=true from by kernel_rfl) (And.intro ?_ ?_))
        | (refine And.intro (fun _=>?_) (fun h=>absurd (show true=false from h) (by decide)))
        | (refine And.intro (fun h=>absurd (show false=true from h) (by decide)) (fun _=>?_))
        | (refine And.intro (fun hb=>?_) (fun hb'=>?_))
        | refine And.intro ?_ ?_
      all_goals first
        | (show some (CR.tv (tN _ _))=some (CR.tv (tN _ _));first|exact tN_eq (if_pos (by assumption)).symm|exact tN_eq (if_neg (by simp [show gV x y z=false from by assumption])).symm)
        | (show (_:Nat)=(_:Nat);rfl)
        | (show (_:Nat)≤1000;decide)
        | (show (_:Int)=(_:Int);rfl)
        | (show (_:Int)≤_;decide)
        | (show (_:Int)<_;decide)
        -- PVC
    · cases h
def cVTold:Con Tryz.prog where
  f:=44
  sem:=fun xs=>match xs with
    | [.row 3 [.neg a,.mag a',.neg b,.mag b',.neg c,.mag c']]=>some (a'=a∧b'=b∧c'=c,.tv (tV4 (vT a b c)))
    | _=>none
  ok := by
    intro xs p r' h hp
    refine ⟨⟨_,Tryz.func44,by kernel_rfl,rfl⟩,fun us w ha=>?_⟩
    split at h
    · rename_i a a' b b' c c'
      cases h
      obtain ⟨rfl,rfl,rfl⟩:=hp
      refine fnu_ret (cxOk Tryz.prog ints_ok [] [cTold]) follows [0,2,3,4,9,10,11] Tryz.func44 rfl 100 _ rfl (by simp) ?_ ha
      repeat' first
        | exact trivial
        | (refine And.intro (show regChk _ _ _ _ _=true from by kernel_rfl) (And.intro ?_ ?_))
        | (refine And.intro (fun _=>?_) (fun h=>absurd (show true=false from h) (by decide)))
        | (refine And.intro (fun h=>absurd (show false=true from h) (by decide)) (fun _=>?_))
        | (refine And.intro (fun hb=>?_) (fun hb'=>?_))
        | refine And.intro ?_ ?_
      all_goals first
        | (show some (CR.tv (.tup _))=some (CR.tv (tV4 _));first|exact v4_eq (vT_1 (by assumption))|exact v4_eq (vT_2 (by assumption))|exact v4_eq (vT_3 (by assumption))|exact v4_eq (vT_4 (by assumption) (by assumption) (by assumption)))
        | (show (_:Nat)=(_:Nat);rfl)
        | (show (_:Nat)≤1000;decide)
        | (show (_:Int)=(_:Int);rfl)
        | (show (_:Int)≤_;decide)
        | (show (_:Int)<_;decide)
        -- PVC
    · cases h
end
end Go.Proofs.YtmnkaldemjdcoaaGreat.Wh
end
section
set_option linter.unusedVariables false
set_option linter.unusedSimpArgs false
namespace Go.Proofs.YtmnkaldemjdcoaaGreat.Wh
open Go RowKit YtmnkaldemjdcoaaGreatW.PrintWords YtmnkaldemjdcoaaGreatW.PrintMore YtmnkaldemjdcoaaGreatW.Aid YtmnkaldemjdcoaaGreatW.Big YtmnkaldemjdcoaaGreatW.Sx YtmnkaldemjdcoaaGreat.BitsWalk YtmnkaldemjdcoaaGreat.Limbs YtmnkaldemjdcoaaGreat.Whole YtmnkaldemjdcoaaGreat.FxWalk Go.Proofs
theorem len_b4 {x:Int} (h : -1000000000000000000000000000000000000000000000000000000000000000≤x) (h':x≤1000000000000000000000000000000000000000000000000000000000000000):Len0 x:=len_big (k:=4) (by decide) (Nat.lt_of_le_of_lt (show x.natAbs≤1000000000000000000000000000000000000000000000000000000000000000 by omega) (by decide +kernel))
theorem prod_bd {x y:Int} (hx:I64 x) (hy:I64 y) : -85070591730234615865843651857942052864≤x*y∧x*y≤85070591730234615865843651857942052864:=by
  have h1:x.natAbs≤9223372036854775808:=by unfold I64 at hx;omega
  have h2:y.natAbs≤9223372036854775808:=by unfold I64 at hy;omega
  have h3:(x*y).natAbs≤9223372036854775808*9223372036854775808:=by rw [Int.natAbs_mul];exact Nat.mul_le_mul h1 h2
  omega
theorem prodw {x y:Int} (hx:wd x=true) (hy:wd y=true) : -1237940039285380274899124224≤x*y∧x*y≤1237940039285380274899124224:=by
  rw [wd_iff] at hx hy
  have h1:x.natAbs≤35184372088832:=by omega
  have h2:y.natAbs≤35184372088832:=by omega
  have h3:(x*y).natAbs≤35184372088832*35184372088832:=by rw [Int.natAbs_mul];exact Nat.mul_le_mul h1 h2
  omega
theorem i64_wd {x:Int} (h:wd x=true):I64 x:=by rw [wd_iff] at h;unfold I64;omega
theorem lm24 {x:Int} (h:I64 x):(lm x).length<24:=by have:=lm_one x (by unfold I64 at h;omega);omega
theorem len_I {x:Int} (h:I64 x):Len0 x:=len_i64 h.1 h.2
def q30 (n:Int):Int:=roundP n 1073741824
theorem q30_eq (n:Int):roundI n (2 ^ Int.toNat 30)=q30 n:=ri_p (by decide)
def dot3 (a b c d e f:Int):Int:=a*d+b*e+c*f
theorem dot3_eq (a b c d e f:Int):0+a*d+b*e+c*f=dot3 a b c d e f:=by unfold dot3;omega
theorem dot3_wd {a b c d e f:Int} (h:gV a b c=true) (h':gV d e f=true) : -3713820117856140824697372672≤dot3 a b c d e f∧dot3 a b c d e f≤3713820117856140824697372672:=by
  obtain ⟨a1,a2,a3⟩:=gV_iff.1 h
  obtain ⟨b1,b2,b3⟩:=gV_iff.1 h'
  have:=prodw a1 b1
  have:=prodw a2 b2
  have:=prodw a3 b3
  unfold dot3;omega
def guard2 (a b c d e f:Int) (p:Int × Int × Int × Int):Int × Int × Int × Int:=if gV a b c=true∧gV d e f=true then p else (0,0,0,1)
abbrev bad2 (a b c d e f:Int):Bool:=bif !gV a b c then true else !gV d e f
theorem bad2_iff {a b c d e f:Int}:bad2 a b c d e f=false↔gV a b c=true∧gV d e f=true:=by
  unfold bad2;cases gV a b c<;>cases gV d e f<;>simp
theorem g2_bad {a b c d e f:Int} {p:Int × Int × Int × Int} (h:bad2 a b c d e f=true):((0:Int),(0:Int),(0:Int),(1:Int))=guard2 a b c d e f p:=by
  unfold guard2;rw [if_neg (fun hk=>by rw [bad2_iff.2 hk] at h;cases h)]
theorem g2_ok {a b c d e f:Int} {p:Int × Int × Int × Int} (h:bad2 a b c d e f=false):(p.1,p.2.1,p.2.2.1,p.2.2.2)=guard2 a b c d e f p:=by
  unfold guard2;rw [if_pos (bad2_iff.1 h)]
theorem wrap_a {x y:Int} (hx:wd x=true) (hy:wd y=true):IntKind.i64.wrap (x+y)=x+y:=by
  rw [wd_iff] at hx hy;rw [i64_wrap];exact wrap64_id (by omega) (by omega)
theorem wrap_s {x y:Int} (hx:wd x=true) (hy:wd y=true):IntKind.i64.wrap (x-y)=x-y:=by
  rw [wd_iff] at hx hy;rw [i64_wrap];exact wrap64_id (by omega) (by omega)
theorem wrap_I (x:Int) : -9223372036854775808≤IntKind.i64.wrap x∧IntKind.i64.wrap x<9223372036854775808:=by rw [i64_wrap];unfold wrap64;omega
def normR (a b c:Int):Int × Int:=if gV a b c=true then toldR (nearR (dot3 a b c a b c) 1) else (0,1)
theorem norm_bad {a b c:Int} (h:(!gV a b c)=true):((0:Int),(1:Int))=((normR a b c).1,(normR a b c).2):=by
  unfold normR;rw [if_neg (by simpa using h)]
theorem norm_ok {a b c:Int} (h:(!gV a b c)=false):((toldR (nearR (dot3 a b c a b c) 1)).1,(toldR (nearR (dot3 a b c a b c) 1)).2)=((normR a b c).1,(normR a b c).2):=by
  unfold normR;rw [if_pos (by simpa using h)]
theorem nbf {b:Bool} (h:(!b)=false):b=true:=by cases b with|true=>rfl|false=>cases h
theorem sq_nn (x:Int):0≤x*x:=by rcases Int.le_total 0 x with h|h;exact Int.mul_nonneg h h;have:=Int.mul_nonneg (show 0 ≤ -x by omega) (show 0 ≤ -x by omega);rwa [Int.neg_mul_neg] at this
theorem dot_self {a b c:Int}:0≤dot3 a b c a b c:=by
  have:=sq_nn a;have:=sq_nn b;have:=sq_nn c;unfold dot3;omega
def crossR (a b c d e f:Int):Int × Int × Int × Int:=guard2 a b c d e f (vT (q30 (b*f-c*e)) (q30 (c*d-a*f)) (q30 (a*e-b*d)))
def addV (a b c d e f:Int):Int × Int × Int × Int:=guard2 a b c d e f (vT (a+d) (b+e) (c+f))
def subV (a b c d e f:Int):Int × Int × Int × Int:=guard2 a b c d e f (vT (a-d) (b-e) (c-f))
def scaleV (a b c d e f:Int):Int × Int × Int × Int:=guard2 a b c d e f (vT (q30 (a*d)) (q30 (b*e)) (q30 (c*f)))
def app9 (m:Nat→Int) (a b c:Int):Int × Int × Int × Int:=if gV a b c=true∧allw [m 0,m 1,m 2,m 3,m 4,m 5,m 6,m 7,m 8]=true then vT (q30 (dot3 (m 0) (m 1) (m 2) a b c)) (q30 (dot3 (m 3) (m 4) (m 5) a b c)) (q30 (dot3 (m 6) (m 7) (m 8) a b c)) else (0,0,0,1)
abbrev bad9 (m:Nat→Int) (a b c:Int):Bool:=bif !gV a b c then true else !allw [m 0,m 1,m 2,m 3,m 4,m 5,m 6,m 7,m 8]
theorem bad9_iff {m:Nat→Int} {a b c:Int}:bad9 m a b c=false↔gV a b c=true∧allw [m 0,m 1,m 2,m 3,m 4,m 5,m 6,m 7,m 8]=true:=by
  unfold bad9;cases gV a b c<;>cases allw [m 0,m 1,m 2,m 3,m 4,m 5,m 6,m 7,m 8]<;>simp
theorem app_bad {m:Nat→Int} {a b c:Int} (h:bad9 m a b c=true):((0:Int),(0:Int),(0:Int),(1:Int))=app9 m a b c:=by
  unfold app9;rw [if_neg (fun hk=>by rw [bad9_iff.2 hk] at h;cases h)]
theorem app_ok {m:Nat→Int} {a b c:Int} (h:bad9 m a b c=false) {p:Int × Int × Int × Int} (hp:p=vT (q30 (dot3 (m 0) (m 1) (m 2) a b c)) (q30 (dot3 (m 3) (m 4) (m 5) a b c)) (q30 (dot3 (m 6) (m 7) (m 8) a b c))):(p.1,p.2.1,p.2.2.1,p.2.2.2)=app9 m a b c:=by
  unfold app9;rw [if_pos (bad9_iff.1 h),hp]
theorem app_wd {m:Nat→Int} {a b c:Int} (h:bad9 m a b c=false):(I64 a∧I64 b∧I64 c)∧(∀ i,i<9→wd (m i)=true)∧gV a b c=true:=by
  obtain ⟨h1,h2⟩:=bad9_iff.1 h
  obtain ⟨a1,a2,a3⟩:=gV_iff.1 h1
  refine ⟨⟨i64_wd a1,i64_wd a2,i64_wd a3⟩,fun i hi=>?_,h1⟩
  rw [allw_iff] at h2
  have:i=0∨i=1∨i=2∨i=3∨i=4∨i=5∨i=6∨i=7∨i=8:=by omega
  rcases this with rfl|rfl|rfl|rfl|rfl|rfl|rfl|rfl|rfl<;>exact h2 _ (by simp)
theorem dot_len {x:Int} (h : -3713820117856140824697372672≤x∧x≤3713820117856140824697372672):Len0 x:=len_b4 (by omega) (by omega)
theorem app_row {m:Nat→Int} {a b c:Int} (h:bad9 m a b c=false) {i j k:Nat} (hi:i<9) (hj:j<9) (hk:k<9):Len0 (dot3 (m i) (m j) (m k) a b c) :=
  have ⟨_,h1,h2⟩:=app_wd h
  dot_len (dot3_wd (gV_iff.2 ⟨h1 i hi,h1 j hj,h1 k hk⟩) h2)
section
set_option maxRecDepth 100000
set_option maxHeartbeats 4000000
def cTimes:Con Tryz.prog where
  f:=53
  sem:=fun xs=>match xs with
    | [.sc (.v (.int .i64 x)),.sc (.v (.int .i64 y))]=>some (I64 x∧I64 y,.tv (tI (x*y)))
    | _=>none
  ok := by
    intro xs p r' h hp
    refine ⟨⟨_,Tryz.func53,by kernel_rfl,rfl⟩,fun us w ha=>?_⟩
    split at h
    · rename_i x y
      cases h
      obtain ⟨hx,hy⟩:=hp
      have hx1:=hx.1
      have hx2:=hx.2
      have hy1:=hy.1
      have hy2:=hy.2
      refine fn_ret (cxOk Tryz.prog ints_ok [] [cMul,cFrom]) follows Tryz.func53 rfl 100 _ rfl (by simp) ?_ ha
      repeat' first
        | exact trivial
        | (refine And.intro (show regChk _ _ _ _ _=true from by kernel_rfl) (And.intro ?_ ?_))
        | (refine And.intro (fun _=>?_) (fun h=>absurd (show true=false from h) (by decide)))
        | (refine And.intro (fun h=>absurd (show false=true from h) (by decide)) (fun _=>?_))
        | (refine And.intro (fun hb=>?_) (fun hb'=>?_))
        | refine And.intro ?_ ?_
      all_goals first
        | (show Len0 _;exact len_I hx)
        | exact lm24 hy
        | (show (_:Int)≤_;omega)
        | (show (_:Int)<_;omega)
        | exact hx.1
        | exact hx.2
        | exact hy.1
        | exact hy.2
        | (show some (CR.tv (tI _))=some (CR.tv (tI _));rfl)
        | (show (_:Nat)=(_:Nat);rfl)
        | (show (_:Nat)≤1000;decide)
        | (show (_:Int)=(_:Int);rfl)
        | (show (_:Int)≤_;decide)
        | (show (_:Int)<_;decide)
        -- PVC
    · cases h
def cShifted:Con Tryz.prog where
  f:=38
  sem:=fun xs=>match xs with
    | [.agg [.neg n,.mag n']]=>some (n'=n∧Len0 n,.tv (tI (q30 n)))
    | _=>none
  ok := by
    intro xs p r' h hp
    refine ⟨⟨_,Tryz.func38,by kernel_rfl,rfl⟩,fun us w ha=>?_⟩
    split at h
    · rename_i n n'
      cases h
      obtain ⟨rfl,hn⟩:=hp
      refine fn_ret (cxOk Tryz.prog ints_ok [] [cRound,cPower]) follows Tryz.func38 rfl 100 _ rfl (by simp) ?_ ha
      repeat' first
        | exact trivial
        | (refine And.intro (show regChk _ _ _ _ _=true from by kernel_rfl) (And.intro ?_ ?_))
        | (refine And.intro (fun _=>?_) (fun h=>absurd (show true=false from h) (by decide)))
        | (refine And.intro (fun h=>absurd (show false=true from h) (by decide)) (fun _=>?_))
        | (refine And.intro (fun hb=>?_) (fun hb'=>?_))
        | refine And.intro ?_ ?_
      all_goals first
        | (show Len0 _;exact hn)
        | (show (_:Int)≠0;decide)
        | (show Int.natAbs _<(_:Nat);decide)
        | (show some (CR.tv (tI _))=some (CR.tv (tI _));exact wh_eq (q30_eq _))
        | (show (_:Nat)=(_:Nat);rfl)
        | (show (_:Nat)≤1000;decide)
        | (show (_:Int)=(_:Int);rfl)
        | (show (_:Int)≤_;decide)
        | (show (_:Int)<_;decide)
        -- PVC
    · cases h
def cCloAdd:Con Tryz.prog where
  f:=57
  sem:=fun xs=>match xs with
    | [.sc (.v (.int .i64 x)),.sc (.v (.int .i64 y))]=>some (wd x=true∧wd y=true,.tv (tI (x+y)))
    | _=>none
  ok := by
    intro xs p r' h hp
    refine ⟨⟨_,Tryz.func57,by kernel_rfl,rfl⟩,fun us w ha=>?_⟩
    split at h
    · rename_i x y
      cases h
      obtain ⟨hx,hy⟩:=hp
      refine fn_ret (cxOk Tryz.prog ints_ok [] [cFrom]) follows Tryz.func57 rfl 100 _ rfl (by simp) ?_ ha
      repeat' first
        | exact trivial
        | (refine And.intro (show regChk _ _ _ _ _=true from by kernel_rfl) (And.intro ?_ ?_))
        | (refine And.intro (fun _=>?_) (fun h=>absurd (show true=false from h) (by decide)))
        | (refine And.intro (fun h=>absurd (show false=true from h) (by decide)) (fun _=>?_))
        | (refine And.intro (fun hb=>?_) (fun hb'=>?_))
        | refine And.intro ?_ ?_
      all_goals first
        | exact (wrap_I _).1
        | exact (wrap_I _).2
        | (show some (CR.tv (tI _))=some (CR.tv (tI _));exact wh_eq (wrap_a hx hy))
        | (show (_:Nat)=(_:Nat);rfl)
        | (show (_:Nat)≤1000;decide)
        | (show (_:Int)=(_:Int);rfl)
        | (show (_:Int)≤_;decide)
        | (show (_:Int)<_;decide)
        -- PVC
    · cases h
def cCloSub:Con Tryz.prog where
  f:=59
  sem:=fun xs=>match xs with
    | [.sc (.v (.int .i64 x)),.sc (.v (.int .i64 y))]=>some (wd x=true∧wd y=true,.tv (tI (x-y)))
    | _=>none
  ok := by
    intro xs p r' h hp
    refine ⟨⟨_,Tryz.func59,by kernel_rfl,rfl⟩,fun us w ha=>?_⟩
    split at h
    · rename_i x y
      cases h
      obtain ⟨hx,hy⟩:=hp
      refine fn_ret (cxOk Tryz.prog ints_ok [] [cFrom]) follows Tryz.func59 rfl 100 _ rfl (by simp) ?_ ha
      repeat' first
        | exact trivial
        | (refine And.intro (show regChk _ _ _ _ _=true from by kernel_rfl) (And.intro ?_ ?_))
        | (refine And.intro (fun _=>?_) (fun h=>absurd (show true=false from h) (by decide)))
        | (refine And.intro (fun h=>absurd (show false=true from h) (by decide)) (fun _=>?_))
        | (refine And.intro (fun hb=>?_) (fun hb'=>?_))
        | refine And.intro ?_ ?_
      all_goals first
        | exact (wrap_I _).1
        | exact (wrap_I _).2
        | (show some (CR.tv (tI _))=some (CR.tv (tI _));exact wh_eq (wrap_s hx hy))
        | (show (_:Nat)=(_:Nat);rfl)
        | (show (_:Nat)≤1000;decide)
        | (show (_:Int)=(_:Int);rfl)
        | (show (_:Int)≤_;decide)
        | (show (_:Int)<_;decide)
        -- PVC
    · cases h
def cCloScale:Con Tryz.prog where
  f:=52
  sem:=fun xs=>match xs with
    | [.sc (.v (.int .i64 x)),.sc (.v (.int .i64 y))]=>some (wd x=true∧wd y=true,.tv (tI (q30 (x*y))))
    | _=>none
  ok := by
    intro xs p r' h hp
    refine ⟨⟨_,Tryz.func52,by kernel_rfl,rfl⟩,fun us w ha=>?_⟩
    split at h
    · rename_i x y
      cases h
      obtain ⟨hx,hy⟩:=hp
      have hb:=prodw hx hy
      have bx:=wd_iff.1 hx
      have cy:=wd_iff.1 hy
      refine fn_ret (cxOk Tryz.prog ints_ok [] [cTimes,cShifted]) follows Tryz.func52 rfl 100 _ rfl (by simp) ?_ ha
      repeat' first
        | exact trivial
        | (refine And.intro (show regChk _ _ _ _ _=true from by kernel_rfl) (And.intro ?_ ?_))
        | (refine And.intro (fun _=>?_) (fun h=>absurd (show true=false from h) (by decide)))
        | (refine And.intro (fun h=>absurd (show false=true from h) (by decide)) (fun _=>?_))
        | (refine And.intro (fun hb=>?_) (fun hb'=>?_))
        | refine And.intro ?_ ?_
      all_goals first
        | (show (_:Int)≤_;omega)
        | (show (_:Int)<_;omega)
        | (show Len0 _;exact len_b4 (by omega) (by omega))
        | (show some (CR.tv (tI _))=some (CR.tv (tI _));rfl)
        | (show (_:Nat)=(_:Nat);rfl)
        | (show (_:Nat)≤1000;decide)
        | (show (_:Int)=(_:Int);rfl)
        | (show (_:Int)≤_;decide)
        | (show (_:Int)<_;decide)
        -- PVC
    · cases h
def cSide:Con Tryz.prog where
  f:=60
  sem:=fun xs=>match xs with
    | [.sc (.v (.int .i64 p1)),.sc (.v (.int .i64 q)),.sc (.v (.int .i64 r1)),.sc (.v (.int .i64 s1))]=>some ((wd p1=true∧wd q=true)∧wd r1=true∧wd s1=true,.tv (tI (q30 (p1*q-r1*s1))))
    | _=>none
  ok := by
    intro xs p r' h hp
    refine ⟨⟨_,Tryz.func60,by kernel_rfl,rfl⟩,fun us w ha=>?_⟩
    split at h
    · rename_i p1 q r1 s1
      cases h
      obtain ⟨⟨h1,h2⟩,h3,h4⟩:=hp
      have hb:=prodw h1 h2
      have hc:=prodw h3 h4
      have d1:=wd_iff.1 h1
      have d2:=wd_iff.1 h2
      have d3:=wd_iff.1 h3
      have d4:=wd_iff.1 h4
      refine fn_ret (cxOk Tryz.prog ints_ok [] [cTimes,cShifted,cSub]) follows Tryz.func60 rfl 100 _ rfl (by simp) ?_ ha
      repeat' first
        | exact trivial
        | (refine And.intro (show regChk _ _ _ _ _=true from by kernel_rfl) (And.intro ?_ ?_))
        | (refine And.intro (fun _=>?_) (fun h=>absurd (show true=false from h) (by decide)))
        | (refine And.intro (fun h=>absurd (show false=true from h) (by decide)) (fun _=>?_))
        | (refine And.intro (fun hb=>?_) (fun hb'=>?_))
        | refine And.intro ?_ ?_
      all_goals first
        | (show (_:Int)≤_;omega)
        | (show (_:Int)<_;omega)
        | (show Len0 _;exact len_b4 (by omega) (by omega))
        | (show some (CR.tv (tI _))=some (CR.tv (tI _));rfl)
        | (show (_:Nat)=(_:Nat);rfl)
        | (show (_:Nat)≤1000;decide)
        | (show (_:Int)=(_:Int);rfl)
        | (show (_:Int)≤_;decide)
        | (show (_:Int)<_;decide)
        -- PVC
    · cases h
def cEachT:Con Tryz.prog where
  f:=76
  sem:=fun xs=>match xs with
    | [.row 3 [.v (.int .i64 a),.v (.int .i64 b),.v (.int .i64 c)],.row 3 [.v (.int .i64 d),.v (.int .i64 e),.v (.int .i64 f)],.clo g []]=>if g=53 then some ((I64 a∧I64 d)∧(I64 b∧I64 e)∧(I64 c∧I64 f),.new 64 3 2 [.neg (a*d),.mag (a*d),.neg (b*e),.mag (b*e),.neg (c*f),.mag (c*f)]) else none
    | _=>none
  ok := by
    intro xs p r' h hp
    refine ⟨⟨_,Tryz.func76,by kernel_rfl,rfl⟩,fun us w ha=>?_⟩
    split at h
    · rename_i a b c d e f g
      split at h
      case isFalse=>cases h
      rename_i hf
      subst hf
      cases h
      obtain ⟨⟨h1,h2⟩,⟨h3,h4⟩,h5,h6⟩:=hp
      have g11:=h1.1
      have g12:=h1.2
      have g21:=h2.1
      have g22:=h2.2
      have g31:=h3.1
      have g32:=h3.2
      have g41:=h4.1
      have g42:=h4.2
      have g51:=h5.1
      have g52:=h5.2
      have g61:=h6.1
      have g62:=h6.2
      refine fnu_ret (cxOk Tryz.prog ints_ok [] [cTimes]) follows [0,1,2,6,9,10,11] Tryz.func76 rfl 100 _ rfl (by simp) ?_ ha
      repeat' first
        | exact trivial
        | (refine And.intro (show regChk _ _ _ _ _=true from by kernel_rfl) (And.intro ?_ ?_))
        | (refine And.intro (fun _=>?_) (fun h=>absurd (show true=false from h) (by decide)))
        | (refine And.intro (fun h=>absurd (show false=true from h) (by decide)) (fun _=>?_))
        | (refine And.intro (fun hb=>?_) (fun hb'=>?_))
        | refine And.intro ?_ ?_
      all_goals first
        | (show (_:Int)≤_;first|omega|decide)
        | (show (_:Int)<_;first|omega|decide)
        | (show some (CR.new _ _ _ _)=some (CR.new _ _ _ _);rfl)
        | exact h1
        | exact h2
        | exact h3
        | exact h4
        | exact h5
        | exact h6
        | (show (_:Nat)=(_:Nat);rfl)
        | (show (_:Nat)≤1000;decide)
        | (show (_:Int)=(_:Int);rfl)
        | (show (_:Int)≤_;decide)
        | (show (_:Int)<_;decide)
        -- PVC
    · cases h
def cEachAdd:Con Tryz.prog where
  f:=76
  sem:=fun xs=>match xs with
    | [.row 3 [.v (.int .i64 a),.v (.int .i64 b),.v (.int .i64 c)],.row 3 [.v (.int .i64 d),.v (.int .i64 e),.v (.int .i64 f)],.clo g []]=>if g=57 then some ((wd a=true∧wd d=true)∧(wd b=true∧wd e=true)∧(wd c=true∧wd f=true),.new 64 3 2 [.neg (a+d),.mag (a+d),.neg (b+e),.mag (b+e),.neg (c+f),.mag (c+f)]) else none
    | _=>none
  ok := by
    intro xs p r' h hp
    refine ⟨⟨_,Tryz.func76,by kernel_rfl,rfl⟩,fun us w ha=>?_⟩
    split at h
    · rename_i a b c d e f g
      split at h
      case isFalse=>cases h
      rename_i hf
      subst hf
      cases h
      obtain ⟨⟨h1,h2⟩,⟨h3,h4⟩,h5,h6⟩:=hp
      refine fnu_ret (cxOk Tryz.prog ints_ok [] [cCloAdd]) follows [0,1,2,6,9,10,11] Tryz.func76 rfl 100 _ rfl (by simp) ?_ ha
      repeat' first
        | exact trivial
        | (refine And.intro (show regChk _ _ _ _ _=true from by kernel_rfl) (And.intro ?_ ?_))
        | (refine And.intro (fun _=>?_) (fun h=>absurd (show true=false from h) (by decide)))
        | (refine And.intro (fun h=>absurd (show false=true from h) (by decide)) (fun _=>?_))
        | (refine And.intro (fun hb=>?_) (fun hb'=>?_))
        | refine And.intro ?_ ?_
      all_goals first
        | (show some (CR.new _ _ _ _)=some (CR.new _ _ _ _);rfl)
        | exact h1
        | exact h2
        | exact h3
        | exact h4
        | exact h5
        | exact h6
        | (show (_:Nat)=(_:Nat);rfl)
        | (show (_:Nat)≤1000;decide)
        | (show (_:Int)=(_:Int);rfl)
        | (show (_:Int)≤_;decide)
        | (show (_:Int)<_;decide)
        -- PVC
    · cases h
def cTwoAdd:Con Tryz.prog where
  f:=51
  sem:=fun xs=>match xs with
    | [.agg [.v (.int .i64 a),.v (.int .i64 b),.v (.int .i64 c)],.agg [.v (.int .i64 d),.v (.int .i64 e),.v (.int .i64 f)],.clo g []]=>if g=57 then some (True,.tv (tV4 (addV a b c d e f))) else none
    | _=>none
  ok := by
    intro xs p r' h hp
    refine ⟨⟨_,Tryz.func51,by kernel_rfl,rfl⟩,fun us w ha=>?_⟩
    split at h
    · rename_i a b c d e f g
      split at h
      case isFalse=>cases h
      rename_i hf
      subst hf
      cases h
      refine fn_ret (cxOk Tryz.prog ints_ok [] [cVGood,cVOf,cEachAdd,cVTold]) follows Tryz.func51 rfl 100 _ rfl (by simp) ?_ ha
      repeat' first
        | exact trivial
        | (refine And.intro (show regChk _ _ _ _ _=true from by kernel_rfl) (And.intro ?_ ?_))
        | (refine And.intro (fun _=>?_) (fun h=>absurd (show true=false from h) (by decide)))
        | (refine And.intro (fun h=>absurd (show false=true from h) (by decide)) (fun _=>?_))
        | (refine And.intro (fun hb=>?_) (fun hb'=>?_))
        | refine And.intro ?_ ?_
        | intro _
      all_goals first
        | (show some (CR.tv (.tup _))=some (CR.tv (tV4 _));first|exact v4_eq (g2_bad (by assumption))|exact v4_eq (g2_ok (by assumption)))
        | (show wd _=true;have hk:=bad2_iff.1 (show bad2 a b c d e f=false from by assumption);first|exact (gV_iff.1 hk.1).1|exact (gV_iff.1 hk.1).2.1|exact (gV_iff.1 hk.1).2.2|exact (gV_iff.1 hk.2).1|exact (gV_iff.1 hk.2).2.1|exact (gV_iff.1 hk.2).2.2)
        | (show (_:Bool)=(_:Bool);first|assumption|exact beq_iff_eq.2 (by assumption)|(exact and_tt (by first|assumption|exact beq_iff_eq.2 (by assumption)) (by first|assumption|exact beq_iff_eq.2 (by assumption))))
        | (show (_:Nat)=(_:Nat);rfl)
        | (show (_:Nat)≤1000;decide)
        | (show (_:Int)=(_:Int);rfl)
        | (show (_:Int)≤_;decide)
        | (show (_:Int)<_;decide)
        -- PVC
    · cases h
def cEachSub:Con Tryz.prog where
  f:=76
  sem:=fun xs=>match xs with
    | [.row 3 [.v (.int .i64 a),.v (.int .i64 b),.v (.int .i64 c)],.row 3 [.v (.int .i64 d),.v (.int .i64 e),.v (.int .i64 f)],.clo g []]=>if g=59 then some ((wd a=true∧wd d=true)∧(wd b=true∧wd e=true)∧(wd c=true∧wd f=true),.new 64 3 2 [.neg (a-d),.mag (a-d),.neg (b-e),.mag (b-e),.neg (c-f),.mag (c-f)]) else none
    | _=>none
  ok := by
    intro xs p r' h hp
    refine ⟨⟨_,Tryz.func76,by kernel_rfl,rfl⟩,fun us w ha=>?_⟩
    split at h
    · rename_i a b c d e f g
      split at h
      case isFalse=>cases h
      rename_i hf
      subst hf
      cases h
      obtain ⟨⟨h1,h2⟩,⟨h3,h4⟩,h5,h6⟩:=hp
      refine fnu_ret (cxOk Tryz.prog ints_ok [] [cCloSub]) follows [0,1,2,6,9,10,11] Tryz.func76 rfl 100 _ rfl (by simp) ?_ ha
      repeat' first
        | exact trivial
        | (refine And.intro (show regChk _ _ _ _ _=true from by kernel_rfl) (And.intro ?_ ?_))
        | (refine And.intro (fun _=>?_) (fun h=>absurd (show true=false from h) (by decide)))
        | (refine And.intro (fun h=>absurd (show false=true from h) (by decide)) (fun _=>?_))
        | (refine And.intro (fun hb=>?_) (fun hb'=>?_))
        | refine And.intro ?_ ?_
      all_goals first
        | (show some (CR.new _ _ _ _)=some (CR.new _ _ _ _);rfl)
        | exact h1
        | exact h2
        | exact h3
        | exact h4
        | exact h5
        | exact h6
        | (show (_:Nat)=(_:Nat);rfl)
        | (show (_:Nat)≤1000;decide)
        | (show (_:Int)=(_:Int);rfl)
        | (show (_:Int)≤_;decide)
        | (show (_:Int)<_;decide)
        -- PVC
    · cases h
def cTwoSub:Con Tryz.prog where
  f:=51
  sem:=fun xs=>match xs with
    | [.agg [.v (.int .i64 a),.v (.int .i64 b),.v (.int .i64 c)],.agg [.v (.int .i64 d),.v (.int .i64 e),.v (.int .i64 f)],.clo g []]=>if g=59 then some (True,.tv (tV4 (subV a b c d e f))) else none
    | _=>none
  ok := by
    intro xs p r' h hp
    refine ⟨⟨_,Tryz.func51,by kernel_rfl,rfl⟩,fun us w ha=>?_⟩
    split at h
    · rename_i a b c d e f g
      split at h
      case isFalse=>cases h
      rename_i hf
      subst hf
      cases h
      refine fn_ret (cxOk Tryz.prog ints_ok [] [cVGood,cVOf,cEachSub,cVTold]) follows Tryz.func51 rfl 100 _ rfl (by simp) ?_ ha
      repeat' first
        | exact trivial
        | (refine And.intro (show regChk _ _ _ _ _=true from by kernel_rfl) (And.intro ?_ ?_))
        | (refine And.intro (fun _=>?_) (fun h=>absurd (show true=false from h) (by decide)))
        | (refine And.intro (fun h=>absurd (show false=true from h) (by decide)) (fun _=>?_))
        | (refine And.intro (fun hb=>?_) (fun hb'=>?_))
        | refine And.intro ?_ ?_
        | intro _
      all_goals first
        | (show some (CR.tv (.tup _))=some (CR.tv (tV4 _));first|exact v4_eq (g2_bad (by assumption))|exact v4_eq (g2_ok (by assumption)))
        | (show wd _=true;have hk:=bad2_iff.1 (show bad2 a b c d e f=false from by assumption);first|exact (gV_iff.1 hk.1).1|exact (gV_iff.1 hk.1).2.1|exact (gV_iff.1 hk.1).2.2|exact (gV_iff.1 hk.2).1|exact (gV_iff.1 hk.2).2.1|exact (gV_iff.1 hk.2).2.2)
        | (show (_:Bool)=(_:Bool);first|assumption|exact beq_iff_eq.2 (by assumption)|(exact and_tt (by first|assumption|exact beq_iff_eq.2 (by assumption)) (by first|assumption|exact beq_iff_eq.2 (by assumption))))
        | (show (_:Nat)=(_:Nat);rfl)
        | (show (_:Nat)≤1000;decide)
        | (show (_:Int)=(_:Int);rfl)
        | (show (_:Int)≤_;decide)
        | (show (_:Int)<_;decide)
        -- PVC
    · cases h
def cEachScale:Con Tryz.prog where
  f:=76
  sem:=fun xs=>match xs with
    | [.row 3 [.v (.int .i64 a),.v (.int .i64 b),.v (.int .i64 c)],.row 3 [.v (.int .i64 d),.v (.int .i64 e),.v (.int .i64 f)],.clo g []]=>if g=52 then some ((wd a=true∧wd d=true)∧(wd b=true∧wd e=true)∧(wd c=true∧wd f=true),.new 64 3 2 [.neg (q30 (a*d)),.mag (q30 (a*d)),.neg (q30 (b*e)),.mag (q30 (b*e)),.neg (q30 (c*f)),.mag (q30 (c*f))]) else none
    | _=>none
  ok := by
    intro xs p r' h hp
    refine ⟨⟨_,Tryz.func76,by kernel_rfl,rfl⟩,fun us w ha=>?_⟩
    split at h
    · rename_i a b c d e f g
      split at h
      case isFalse=>cases h
      rename_i hf
      subst hf
      cases h
      obtain ⟨⟨h1,h2⟩,⟨h3,h4⟩,h5,h6⟩:=hp
      refine fnu_ret (cxOk Tryz.prog ints_ok [] [cCloScale]) follows [0,1,2,6,9,10,11] Tryz.func76 rfl 100 _ rfl (by simp) ?_ ha
      repeat' first
        | exact trivial
        | (refine And.intro (show regChk _ _ _ _ _=true from by kernel_rfl) (And.intro ?_ ?_))
        | (refine And.intro (fun _=>?_) (fun h=>absurd (show true=false from h) (by decide)))
        | (refine And.intro (fun h=>absurd (show false=true from h) (by decide)) (fun _=>?_))
        | (refine And.intro (fun hb=>?_) (fun hb'=>?_))
        | refine And.intro ?_ ?_
      all_goals first
        | (show some (CR.new _ _ _ _)=some (CR.new _ _ _ _);rfl)
        | exact h1
        | exact h2
        | exact h3
        | exact h4
        | exact h5
        | exact h6
        | (show (_:Nat)=(_:Nat);rfl)
        | (show (_:Nat)≤1000;decide)
        | (show (_:Int)=(_:Int);rfl)
        | (show (_:Int)≤_;decide)
        | (show (_:Int)<_;decide)
        -- PVC
    · cases h
def cTwoScale:Con Tryz.prog where
  f:=51
  sem:=fun xs=>match xs with
    | [.agg [.v (.int .i64 a),.v (.int .i64 b),.v (.int .i64 c)],.agg [.v (.int .i64 d),.v (.int .i64 e),.v (.int .i64 f)],.clo g []]=>if g=52 then some (True,.tv (tV4 (scaleV a b c d e f))) else none
    | _=>none
  ok := by
    intro xs p r' h hp
    refine ⟨⟨_,Tryz.func51,by kernel_rfl,rfl⟩,fun us w ha=>?_⟩
    split at h
    · rename_i a b c d e f g
      split at h
      case isFalse=>cases h
      rename_i hf
      subst hf
      cases h
      refine fn_ret (cxOk Tryz.prog ints_ok [] [cVGood,cVOf,cEachScale,cVTold]) follows Tryz.func51 rfl 100 _ rfl (by simp) ?_ ha
      repeat' first
        | exact trivial
        | (refine And.intro (show regChk _ _ _ _ _=true from by kernel_rfl) (And.intro ?_ ?_))
        | (refine And.intro (fun _=>?_) (fun h=>absurd (show true=false from h) (by decide)))
        | (refine And.intro (fun h=>absurd (show false=true from h) (by decide)) (fun _=>?_))
        | (refine And.intro (fun hb=>?_) (fun hb'=>?_))
        | refine And.intro ?_ ?_
        | intro _
      all_goals first
        | (show some (CR.tv (.tup _))=some (CR.tv (tV4 _));first|exact v4_eq (g2_bad (by assumption))|exact v4_eq (g2_ok (by assumption)))
        | (show wd _=true;have hk:=bad2_iff.1 (show bad2 a b c d e f=false from by assumption);first|exact (gV_iff.1 hk.1).1|exact (gV_iff.1 hk.1).2.1|exact (gV_iff.1 hk.1).2.2|exact (gV_iff.1 hk.2).1|exact (gV_iff.1 hk.2).2.1|exact (gV_iff.1 hk.2).2.2)
        | (show (_:Bool)=(_:Bool);first|assumption|exact beq_iff_eq.2 (by assumption)|(exact and_tt (by first|assumption|exact beq_iff_eq.2 (by assumption)) (by first|assumption|exact beq_iff_eq.2 (by assumption))))
        | (show (_:Nat)=(_:Nat);rfl)
        | (show (_:Nat)≤1000;decide)
        | (show (_:Int)=(_:Int);rfl)
        | (show (_:Int)≤_;decide)
        | (show (_:Int)<_;decide)
        -- PVC
    · cases h
def cVAdd:Con Tryz.prog where
  f:=26
  sem:=fun xs=>match xs with
    | [.agg [.v (.int .i64 a),.v (.int .i64 b),.v (.int .i64 c)],.agg [.v (.int .i64 d),.v (.int .i64 e),.v (.int .i64 f)]]=>some (True,.tv (tV4 (addV a b c d e f)))
    | _=>none
  ok := by
    intro xs p r' h hp
    refine ⟨⟨_,Tryz.func26,by kernel_rfl,rfl⟩,fun us w ha=>?_⟩
    split at h
    · rename_i a b c d e f
      cases h
      refine fn_ret (cxOk Tryz.prog ints_ok [] [cTwoAdd]) follows Tryz.func26 rfl 100 _ rfl (by simp) ?_ ha
      repeat' first
        | exact trivial
        | (refine And.intro (show regChk _ _ _ _ _=true from by kernel_rfl) (And.intro ?_ ?_))
        | (refine And.intro (fun _=>?_) (fun h=>absurd (show true=false from h) (by decide)))
        | (refine And.intro (fun h=>absurd (show false=true from h) (by decide)) (fun _=>?_))
        | (refine And.intro (fun hb=>?_) (fun hb'=>?_))
        | refine And.intro ?_ ?_
      all_goals first
        | (show some (CR.tv (.tup _))=some (CR.tv (tV4 _));rfl)
        | (show (_:Nat)=(_:Nat);rfl)
        | (show (_:Nat)≤1000;decide)
        | (show (_:Int)=(_:Int);rfl)
        | (show (_:Int)≤_;decide)
        | (show (_:Int)<_;decide)
        -- PVC
    · cases h
def cVSub:Con Tryz.prog where
  f:=28
  sem:=fun xs=>match xs with
    | [.agg [.v (.int .i64 a),.v (.int .i64 b),.v (.int .i64 c)],.agg [.v (.int .i64 d),.v (.int .i64 e),.v (.int .i64 f)]]=>some (True,.tv (tV4 (subV a b c d e f)))
    | _=>none
  ok := by
    intro xs p r' h hp
    refine ⟨⟨_,Tryz.func28,by kernel_rfl,rfl⟩,fun us w ha=>?_⟩
    split at h
    · rename_i a b c d e f
      cases h
      refine fn_ret (cxOk Tryz.prog ints_ok [] [cTwoSub]) follows Tryz.func28 rfl 100 _ rfl (by simp) ?_ ha
      repeat' first
        | exact trivial
        | (refine And.intro (show regChk _ _ _ _ _=true from by kernel_rfl) (And.intro ?_ ?_))
        | (refine And.intro (fun _=>?_) (fun h=>absurd (show true=false from h) (by decide)))
        | (refine And.intro (fun h=>absurd (show false=true from h) (by decide)) (fun _=>?_))
        | (refine And.intro (fun hb=>?_) (fun hb'=>?_))
        | refine And.intro ?_ ?_
      all_goals first
        | (show some (CR.tv (.tup _))=some (CR.tv (tV4 _));rfl)
        | (show (_:Nat)=(_:Nat);rfl)
        | (show (_:Nat)≤1000;decide)
        | (show (_:Int)=(_:Int);rfl)
        | (show (_:Int)≤_;decide)
        | (show (_:Int)<_;decide)
        -- PVC
    · cases h
def cVNeg:Con Tryz.prog where
  f:=30
  sem:=fun xs=>match xs with
    | [.agg [.v (.int .i64 a),.v (.int .i64 b),.v (.int .i64 c)]]=>some (True,.tv (tV4 (subV 0 0 0 a b c)))
    | _=>none
  ok := by
    intro xs p r' h hp
    refine ⟨⟨_,Tryz.func30,by kernel_rfl,rfl⟩,fun us w ha=>?_⟩
    split at h
    · rename_i a b c
      cases h
      refine fn_ret (cxOk Tryz.prog ints_ok [] [cVSub]) follows Tryz.func30 rfl 100 _ rfl (by simp) ?_ ha
      repeat' first
        | exact trivial
        | (refine And.intro (show regChk _ _ _ _ _=true from by kernel_rfl) (And.intro ?_ ?_))
        | (refine And.intro (fun _=>?_) (fun h=>absurd (show true=false from h) (by decide)))
        | (refine And.intro (fun h=>absurd (show false=true from h) (by decide)) (fun _=>?_))
        | (refine And.intro (fun hb=>?_) (fun hb'=>?_))
        | refine And.intro ?_ ?_
      all_goals first
        | (show some (CR.tv (.tup _))=some (CR.tv (tV4 _));rfl)
        | (show (_:Nat)=(_:Nat);rfl)
        | (show (_:Nat)≤1000;decide)
        | (show (_:Int)=(_:Int);rfl)
        | (show (_:Int)≤_;decide)
        | (show (_:Int)<_;decide)
        -- PVC
    · cases h
def cVScale:Con Tryz.prog where
  f:=20
  sem:=fun xs=>match xs with
    | [.agg [.v (.int .i64 a),.v (.int .i64 b),.v (.int .i64 c)],.sc (.v (.int .i64 k))]=>some (True,.tv (tV4 (scaleV a b c k k k)))
    | _=>none
  ok := by
    intro xs p r' h hp
    refine ⟨⟨_,Tryz.func20,by kernel_rfl,rfl⟩,fun us w ha=>?_⟩
    split at h
    · rename_i a b c k
      cases h
      refine fn_ret (cxOk Tryz.prog ints_ok [] [cTwoScale]) follows Tryz.func20 rfl 100 _ rfl (by simp) ?_ ha
      repeat' first
        | exact trivial
        | (refine And.intro (show regChk _ _ _ _ _=true from by kernel_rfl) (And.intro ?_ ?_))
        | (refine And.intro (fun _=>?_) (fun h=>absurd (show true=false from h) (by decide)))
        | (refine And.intro (fun h=>absurd (show false=true from h) (by decide)) (fun _=>?_))
        | (refine And.intro (fun hb=>?_) (fun hb'=>?_))
        | refine And.intro ?_ ?_
      all_goals first
        | (show some (CR.tv (.tup _))=some (CR.tv (tV4 _));rfl)
        | (show (_:Nat)=(_:Nat);rfl)
        | (show (_:Nat)≤1000;decide)
        | (show (_:Int)=(_:Int);rfl)
        | (show (_:Int)≤_;decide)
        | (show (_:Int)<_;decide)
        -- PVC
    · cases h
def cSum:Con Tryz.prog where
  f:=39
  sem:=fun xs=>match xs with
    | [.row 3 [.v (.int .i64 a),.v (.int .i64 b),.v (.int .i64 c)],.row 3 [.v (.int .i64 d),.v (.int .i64 e),.v (.int .i64 f)]]=>some ((I64 a∧I64 d)∧(I64 b∧I64 e)∧(I64 c∧I64 f),.tv (tI (dot3 a b c d e f)))
    | _=>none
  ok := by
    intro xs p r' h hp
    refine ⟨⟨_,Tryz.func39,by kernel_rfl,rfl⟩,fun us w ha=>?_⟩
    split at h
    · rename_i a b c d e f
      cases h
      obtain ⟨⟨h1,h2⟩,⟨h3,h4⟩,h5,h6⟩:=hp
      have p1:=prod_bd h1 h2
      have p2:=prod_bd h3 h4
      have p3:=prod_bd h5 h6
      have g11:=h1.1
      have g12:=h1.2
      have g21:=h2.1
      have g22:=h2.2
      have g31:=h3.1
      have g32:=h3.2
      have g41:=h4.1
      have g42:=h4.2
      have g51:=h5.1
      have g52:=h5.2
      have g61:=h6.1
      have g62:=h6.2
      refine fnu_ret (cxOk Tryz.prog ints_ok [] [cEachT,cAdd]) follows [4,9,10,11] Tryz.func39 rfl 100 _ rfl (by simp) ?_ ha
      repeat' first
        | exact trivial
        | (refine And.intro (show regChk _ _ _ _ _=true from by kernel_rfl) (And.intro ?_ ?_))
        | (refine And.intro (fun _=>?_) (fun h=>absurd (show true=false from h) (by decide)))
        | (refine And.intro (fun h=>absurd (show false=true from h) (by decide)) (fun _=>?_))
        | (refine And.intro (fun hb=>?_) (fun hb'=>?_))
        | refine And.intro ?_ ?_
      all_goals first
        | (show (_:Int)≤_;first|omega|decide)
        | (show (_:Int)<_;first|omega|decide)
        | exact h1
        | exact h2
        | exact h3
        | exact h4
        | exact h5
        | exact h6
        | (show Len0 _;exact len_b4 (by omega) (by omega))
        | (show some (CR.tv (tI _))=some (CR.tv (tI _));exact wh_eq (dot3_eq _ _ _ _ _ _))
        | (show (_:Nat)=(_:Nat);rfl)
        | (show (_:Nat)≤1000;decide)
        | (show (_:Int)=(_:Int);rfl)
        | (show (_:Int)≤_;decide)
        | (show (_:Int)<_;decide)
        -- PVC
    · cases h
def cNorm:Con Tryz.prog where
  f:=11
  sem:=fun xs=>match xs with
    | [.agg [.v (.int .i64 a),.v (.int .i64 b),.v (.int .i64 c)]]=>some (True,.tv (tNN (normR a b c).1 (normR a b c).2))
    | _=>none
  ok := by
    intro xs p r' h hp
    refine ⟨⟨_,Tryz.func11,by kernel_rfl,rfl⟩,fun us w ha=>?_⟩
    split at h
    · rename_i a b c
      cases h
      refine fn_ret (cxOk Tryz.prog ints_ok [] [cVGood,cVOf,cSum,cOne,cNearest,cTold]) follows Tryz.func11 rfl 100 _ rfl (by simp) ?_ ha
      repeat' first
        | exact trivial
        | (refine And.intro (show regChk _ _ _ _ _=true from by kernel_rfl) (And.intro ?_ ?_))
        | (refine And.intro (fun _=>?_) (fun h=>absurd (show true=false from h) (by decide)))
        | (refine And.intro (fun h=>absurd (show false=true from h) (by decide)) (fun _=>?_))
        | (refine And.intro (fun hb=>?_) (fun hb'=>?_))
        | refine And.intro ?_ ?_
      all_goals first
        | (show some (CR.tv (tNN _ _))=some (CR.tv (tNN _ _));first|exact nn_eq (norm_bad (by assumption))|exact nn_eq (norm_ok (by assumption)))
        | (show (0:Int)≤dot3 _ _ _ _ _ _;exact dot_self)
        | (show dot3 _ _ _ _ _ _<(_:Int);have hk:gV a b c=true:=nbf (show (!gV a b c)=false from by assumption);have:=dot3_wd hk hk;omega)
        | (show (_:Int)≤_;have hk:gV a b c=true:=nbf (show (!gV a b c)=false from by assumption);have hl:=gV_bd hk;omega)
        | (show (_:Int)<_;have hk:gV a b c=true:=nbf (show (!gV a b c)=false from by assumption);have hl:=gV_bd hk;omega)
        | (show (_:Nat)=(_:Nat);rfl)
        | (show (_:Nat)≤1000;decide)
        | (show (_:Int)=(_:Int);rfl)
        | (show (_:Int)≤_;decide)
        | (show (_:Int)<_;decide)
        -- PVC
    · cases h
def cCross:Con Tryz.prog where
  f:=29
  sem:=fun xs=>match xs with
    | [.agg [.v (.int .i64 a),.v (.int .i64 b),.v (.int .i64 c)],.agg [.v (.int .i64 d),.v (.int .i64 e),.v (.int .i64 f)]]=>some (True,.tv (tV4 (crossR a b c d e f)))
    | _=>none
  ok := by
    intro xs p r' h hp
    refine ⟨⟨_,Tryz.func29,by kernel_rfl,rfl⟩,fun us w ha=>?_⟩
    split at h
    · rename_i a b c d e f
      cases h
      refine fn_ret (cxOk Tryz.prog ints_ok [] [cVGood,cSide,cVTold]) follows Tryz.func29 rfl 100 _ rfl (by simp) ?_ ha
      repeat' first
        | exact trivial
        | (refine And.intro (show regChk _ _ _ _ _=true from by kernel_rfl) (And.intro ?_ ?_))
        | (refine And.intro (fun _=>?_) (fun h=>absurd (show true=false from h) (by decide)))
        | (refine And.intro (fun h=>absurd (show false=true from h) (by decide)) (fun _=>?_))
        | (refine And.intro (fun hb=>?_) (fun hb'=>?_))
        | refine And.intro ?_ ?_
        | intro _
      all_goals first
        | (show some (CR.tv (.tup _))=some (CR.tv (tV4 _));first|exact v4_eq (g2_bad (by assumption))|exact v4_eq (g2_ok (by assumption)))
        | (show wd _=true;have hk:=bad2_iff.1 (show bad2 a b c d e f=false from by assumption);first|exact (gV_iff.1 hk.1).1|exact (gV_iff.1 hk.1).2.1|exact (gV_iff.1 hk.1).2.2|exact (gV_iff.1 hk.2).1|exact (gV_iff.1 hk.2).2.1|exact (gV_iff.1 hk.2).2.2)
        | (show (_:Bool)=(_:Bool);first|assumption|exact beq_iff_eq.2 (by assumption)|(exact and_tt (by first|assumption|exact beq_iff_eq.2 (by assumption)) (by first|assumption|exact beq_iff_eq.2 (by assumption))))
        | (show (_:Nat)=(_:Nat);rfl)
        | (show (_:Nat)≤1000;decide)
        | (show (_:Int)=(_:Int);rfl)
        | (show (_:Int)≤_;decide)
        | (show (_:Int)<_;decide)
        -- PVC
    · cases h
def cApply:Con Tryz.prog where
  f:=17
  sem:=fun xs=>match xs with
    | [.agg [.v (.int .i64 m0),.v (.int .i64 m1),.v (.int .i64 m2),.v (.int .i64 m3),.v (.int .i64 m4),.v (.int .i64 m5),.v (.int .i64 m6),.v (.int .i64 m7),.v (.int .i64 m8)],.agg [.v (.int .i64 a),.v (.int .i64 b),.v (.int .i64 c)]]=>some (True,.tv (tV4 (app9 (fun i=>match i with|0=>m0|1=>m1|2=>m2|3=>m3|4=>m4|5=>m5|6=>m6|7=>m7|_=>m8) a b c)))
    | _=>none
  ok := by
    intro xs p r' h hp
    refine ⟨⟨_,Tryz.func17,by kernel_rfl,rfl⟩,fun us w ha=>?_⟩
    split at h
    · rename_i m0 m1 m2 m3 m4 m5 m6 m7 m8 a b c
      cases h
      refine fnu_ret (cxOk Tryz.prog ints_ok [] [cVGood,cAll,cVOf,cSum,cShifted,cVTold]) follows [2,3,4,5,6,7] Tryz.func17 rfl 100 _ rfl (by simp) ?_ ha
      repeat' first
        | exact trivial
        | (refine And.intro (show regChk _ _ _ _ _=true from by kernel_rfl) (And.intro ?_ ?_))
        | (refine And.intro (fun _=>?_) (fun h=>absurd (show true=false from h) (by decide)))
        | (refine And.intro (fun h=>absurd (show false=true from h) (by decide)) (fun _=>?_))
        | (refine And.intro (fun hb=>?_) (fun hb'=>?_))
        | refine And.intro ?_ ?_
        | intro _
      all_goals first
        | (show some (CR.tv (.tup _))=some (CR.tv (tV4 _));first|exact v4_eq (app_bad (m:=(fun i=>match i with|0=>m0|1=>m1|2=>m2|3=>m3|4=>m4|5=>m5|6=>m6|7=>m7|_=>m8)) (by assumption))|exact v4_eq (app_ok (show bad9 (fun i=>match i with|0=>m0|1=>m1|2=>m2|3=>m3|4=>m4|5=>m5|6=>m6|7=>m7|_=>m8) a b c=false from by assumption) rfl))
        | (show (_:Int)≤_;have hk:=app_wd (show bad9 (fun i=>match i with|0=>m0|1=>m1|2=>m2|3=>m3|4=>m4|5=>m5|6=>m6|7=>m7|_=>m8) a b c=false from by assumption);first|exact hk.1.1.1|exact hk.1.2.1.1|exact hk.1.2.2.1|exact (i64_wd (hk.2.1 0 (by decide))).1|exact (i64_wd (hk.2.1 1 (by decide))).1|exact (i64_wd (hk.2.1 2 (by decide))).1|exact (i64_wd (hk.2.1 3 (by decide))).1|exact (i64_wd (hk.2.1 4 (by decide))).1|exact (i64_wd (hk.2.1 5 (by decide))).1|exact (i64_wd (hk.2.1 6 (by decide))).1|exact (i64_wd (hk.2.1 7 (by decide))).1|exact (i64_wd (hk.2.1 8 (by decide))).1|decide)
        | (show (_:Int)<_;have hk:=app_wd (show bad9 (fun i=>match i with|0=>m0|1=>m1|2=>m2|3=>m3|4=>m4|5=>m5|6=>m6|7=>m7|_=>m8) a b c=false from by assumption);first|exact hk.1.1.2|exact hk.1.2.1.2|exact hk.1.2.2.2|exact (i64_wd (hk.2.1 0 (by decide))).2|exact (i64_wd (hk.2.1 1 (by decide))).2|exact (i64_wd (hk.2.1 2 (by decide))).2|exact (i64_wd (hk.2.1 3 (by decide))).2|exact (i64_wd (hk.2.1 4 (by decide))).2|exact (i64_wd (hk.2.1 5 (by decide))).2|exact (i64_wd (hk.2.1 6 (by decide))).2|exact (i64_wd (hk.2.1 7 (by decide))).2|exact (i64_wd (hk.2.1 8 (by decide))).2|decide)
        | (show (_:Int)≤_;decide)
        | (show (_:Int)<_;decide)
        | (show Len0 _;have hk:=(show bad9 (fun i=>match i with|0=>m0|1=>m1|2=>m2|3=>m3|4=>m4|5=>m5|6=>m6|7=>m7|_=>m8) a b c=false from by assumption);first|exact app_row hk (i:=0) (j:=1) (k:=2) (by decide) (by decide) (by decide)|exact app_row hk (i:=3) (j:=4) (k:=5) (by decide) (by decide) (by decide)|exact app_row hk (i:=6) (j:=7) (k:=8) (by decide) (by decide) (by decide))
        | (show (_:Bool)=(_:Bool);first|assumption|exact beq_iff_eq.2 (by assumption)|(exact and_tt (by first|assumption|exact beq_iff_eq.2 (by assumption)) (by first|assumption|exact beq_iff_eq.2 (by assumption))))
        | (show (_:Nat)=(_:Nat);rfl)
        | (show (_:Nat)≤1000;decide)
        | (show (_:Int)=(_:Int);rfl)
        | (show (_:Int)≤_;decide)
        | (show (_:Int)<_;decide)
        -- PVC
    · cases h
end
end Go.Proofs.YtmnkaldemjdcoaaGreat.Wh
end
section
set_option linter.unusedVariables false
set_option linter.unusedSimpArgs false
namespace Go.Proofs.YtmnkaldemjdcoaaGreatW.Sx
open Go RowKit YtmnkaldemjdcoaaGreatW.PrintWords YtmnkaldemjdcoaaGreatW.PrintMore YtmnkaldemjdcoaaGreatW.Aid YtmnkaldemjdcoaaGreatW.Big
def wfV:Value→Bool
  | .int k n=>(Lit.int k n).wf
  | _=>true
def okV (ks:List (Option IntKind)) (xs:List Value):Prop:=isKs ks xs=true∧∀ x∈xs,wfV x=true
theorem isKs_app:∀ {ks ks':List (Option IntKind)} {xs ys:List Value},isKs ks xs=true→isKs ks' ys=true→isKs (ks++ks') (xs++ys)=true
  | [],ks',[],ys,_,h=>h
  | k::ks,ks',x::xs,ys,h,h'=>by
    simp only [isKs,Bool.and_eq_true] at h
    simp only [List.cons_append,isKs,h.1,isKs_app h.2 h',Bool.and_self]
  | [],_,_::_,_,h,_=>by cases h
  | _::_,_,[],_,h,_=>by cases h
theorem okV_app {ks ks':List (Option IntKind)} {xs ys:List Value} (h:okV ks xs) (h':okV ks' ys):okV (ks++ks') (xs++ys) :=
  ⟨isKs_app h.1 h'.1,fun x hx=>(List.mem_append.1 hx).elim (h.2 x) (h'.2 x)⟩
section
variable {H:Type} {enc:TypeId × Value→H} {P:Program} {w:World} {base:Nat} {spare:Nat→Bool} {held:Bool}
theorem rep_take (ks:List (Option IntKind)):∀ (n:Nat) (xs:List Value),xs.length=(rep ks n).length→(∀ i,i<n→okV ks ((xs.drop (i*ks.length)).take ks.length))→okV (rep ks n) xs
  | 0,xs,hl,_=>by
    cases xs with
    | nil=>exact ⟨rfl,fun _ h=>by cases h⟩
    | cons _ _=>simp [rep] at hl
  | n + 1, xs, hl, h => by
    have h0:=h 0 (by omega)
    rw [Nat.zero_mul,List.drop_zero] at h0
    have hl':xs.length=ks.length+(rep ks n).length:=by rw [hl,rep,List.length_append]
    have ih:=rep_take ks n (xs.drop ks.length) (by rw [List.length_drop];omega) (fun i hi=>by
      have:=h (i+1) (by omega)
      rw [List.drop_drop,show ks.length+i*ks.length=(i+1)*ks.length by rw [Nat.add_mul,Nat.one_mul];omega]
      exact this)
    have:=okV_app h0 ih
    rw [List.take_append_drop] at this
    exact this
theorem flat_trod (arr:Bool):∀ (d:Nat),(∀ (T:TypeId) (ks:List (Option IntKind)) (fuel:Nat) (cs:List Value) (x:DataW H × List MemPlace),lvs P arr d T=some ks→DataW.trod enc P w base spare held fuel T cs=some x→okV ks cs) ∧
    (∀ (fs:List Field) (off:Nat) (ks:List (Option IntKind)) (n:Nat) (cs:List Value) (ys:List (DataW H × List MemPlace)),lvsF P arr d fs off=some ks→cs.length=off+ks.length→ys.length=fs.length →
      (∀ (i:Nat) (f:Field),fs[i]?=some f→DataW.trod enc P w base spare held n f.type ((cs.drop f.offset).take (P.cellsOf f.type))=ys[i]?)→okV ks (cs.drop off)):=by
  intro d
  induction d with
  | zero =>
    refine ⟨fun T ks fuel cs x h=>(by cases h),fun fs off ks n cs ys h hl hy _=>?_⟩
    cases fs with
    | nil =>
      cases h
      rw [List.drop_of_length_le (by simp at hl;omega)]
      exact ⟨rfl,fun _ h=>by cases h⟩
    | cons f fs=>cases h
  | succ d ih =>
    obtain ⟨ih1,ih2⟩:=ih
    constructor
    · intro T ks fuel cs x h hx
      rw [lvs] at h
      split at h
      · rename_i k inf hu hi
        split at h
        case isFalse=>cases h
        cases h
        obtain ⟨n,rfl,_,hw⟩:=DataW.trod_int hu hx
        exact ⟨by simp [isKs,isK],fun y hy=>by rw [List.mem_singleton.1 hy];exact hw⟩
      · rename_i inf hu hi
        split at h
        case isFalse=>cases h
        cases h
        obtain ⟨n,rfl,_⟩:=DataW.trod_bool hu hx
        exact ⟨rfl,fun y hy=>by rw [List.mem_singleton.1 hy];rfl⟩
      · rename_i fs inf hu hi
        split at h
        · cases h
        · split at h
          · rename_i ks' hf
            split at h
            · rename_i hs
              cases h
              obtain ⟨ys,n,_,rfl,hcl,hyl,hg⟩:=DataW.trod_struct hu hx
              have hcl':cs.length=0+ks.length:=by
                rw [hcl];unfold Program.cellsOf;rw [hi];simpa using hs
              have:=ih2 fs.toList 0 ks n cs ys hf hcl' (by simpa using hyl) (fun i f hf=>hg i f (by simpa using hf))
              rwa [List.drop_zero] at this
            · cases h
          · cases h
      · rename_i n e inf hu hi
        split at h
        · split at h
          · rename_i ks' he
            split at h
            · rename_i hs
              cases h
              obtain ⟨ys,m,_,rfl,hcl,hyl,hg⟩:=DataW.trod_array hu hx
              have hce:=lvs_cells he
              rw [hce] at hg
              refine rep_take ks' n cs (by rw [hcl];unfold Program.cellsOf;rw [hi];simpa using hs) (fun i hi=>?_)
              obtain ⟨y,hy⟩:∃ y,ys[i]?=some y:=⟨ys[i],by simp⟩
              exact ih1 e ks' m _ y he (by rw [hg i hi,hy])
            · cases h
          · cases h
        · cases h
      · cases h
    · intro fs off ks n cs ys h hl hy hg
      cases fs with
      | nil =>
        cases h
        rw [List.drop_of_length_le (by simp at hl;omega)]
        exact ⟨rfl,fun _ h=>by cases h⟩
      | cons f fs =>
        rw [lvsF] at h
        split at h
        · cases h
        · rename_i hc
          have hoff:f.offset=off:=Decidable.byContradiction fun e=>hc (Or.inr e)
          split at h
          · rename_i k ks1 hl1
            split at h
            · rename_i r hr
              cases h
              match ys,hy with
              | y::ys,hy =>
                have h1:=hg 0 f rfl
                rw [hoff,lvs_cells hl1] at h1
                have g1:=ih1 f.type _ n _ y hl1 h1
                have g2:=ih2 fs (off+(k::ks1).length) r n cs ys hr (by rw [hl];simp;omega) (by simpa using hy) (fun i f' hf=>hg (i+1) f' (by simpa using hf))
                have:=okV_app g1 g2
                rw [← List.drop_drop,List.take_append_drop] at this
                exact this
            · cases h
          · cases h
def gI (f:Nat→List Value) (i j:Nat):Int:=match (f j)[i]? with
  | some (.int _ n)=>n
  | _=>0
def gB (f:Nat→List Value) (i j:Nat):Bool:=match (f j)[i]? with
  | some (.bool b)=>b
  | _=>false
def cellsG (f:Nat→List Value) (j:Nat):Nat→List (Option IntKind)→List A0
  | _,[]=>[]
  | i,some k::ks => .v (.int k (gI f i j))::cellsG f j (i+1) ks
  | i,none::ks => .v (.bool (gB f i j))::cellsG f j (i+1) ks
theorem cellsG_eq (f:Nat→List Value) (j:Nat):∀ (ks:List (Option IntKind)) (i:Nat),isKs ks ((f j).drop i)=true→cellsG f j i ks=((f j).drop i).map A0.v
  | [],i,h=>by
    cases hx:(f j).drop i with
    | nil=>rfl
    | cons _ _=>rw [hx] at h;cases h
  | k :: ks, i, h => by
    cases hx:(f j).drop i with
    | nil=>rw [hx] at h;cases h
    | cons x xs =>
      have h0:(f j)[i]?=some x:=by rw [← List.head?_drop,hx];rfl
      have h1:(f j).drop (i+1)=xs:=by rw [← List.tail_drop,hx];rfl
      rw [hx] at h
      simp only [isKs,Bool.and_eq_true] at h
      have ih:=cellsG_eq f j ks (i+1) (by rw [h1];exact h.2)
      rw [h1] at ih
      cases k with
      | some k =>
        cases x<;>simp only [isK] at h<;>try (exact absurd h.1 (by decide))
        rename_i k' n
        obtain rfl:=of_decide_eq_true h.1
        simp only [cellsG,gI,h0,List.map_cons,ih]
      | none =>
        cases x<;>simp only [isK] at h<;>try (exact absurd h.1 (by decide))
        simp only [cellsG,gB,h0,List.map_cons,ih]
theorem gI_i64 {f:Nat→List Value} {ks:List (Option IntKind)} {i j:Nat} (h:okV ks (f j)) (hk:ks[i]?=some (some .i64)) : -9223372036854775808≤gI f i j∧gI f i j<9223372036854775808:=by
  have key:∀ (ks:List (Option IntKind)) (xs:List Value) (i:Nat),isKs ks xs=true→ks[i]?=some (some .i64)→∃ n,xs[i]?=some (.int .i64 n):=by
    intro ks
    induction ks with
    | nil=>intro xs i _ h;simp at h
    | cons k ks ih =>
      intro xs i h hk
      cases xs with
      | nil=>cases h
      | cons x xs =>
        simp only [isKs,Bool.and_eq_true] at h
        cases i with
        | zero =>
          simp at hk;subst hk
          cases x<;>simp only [isK] at h<;>try (exact absurd h.1 (by decide))
          rename_i k' n
          rw [of_decide_eq_true h.1];exact ⟨n,rfl⟩
        | succ i=>simpa using ih xs i h.2 (by simpa using hk)
  obtain ⟨n,hn⟩:=key ks (f j) i h.1 hk
  have hw:=h.2 _ (List.mem_of_getElem? hn)
  unfold gI;rw [hn]
  have:=wf_i64 (x:=n) hw
  dsimp only
  omega
def zv:Option IntKind→Value
  | some k => .int k 0
  | none => .bool false
theorem zs_ok:∀ ks:List (Option IntKind),okV ks (ks.map zv)
  | []=>⟨rfl,fun _ h=>by cases h⟩
  | k :: ks => by
    obtain ⟨h1,h2⟩:=zs_ok ks
    refine ⟨?_,fun x hx=>?_⟩
    · simp only [List.map_cons,isKs,h1,Bool.and_true]
      cases k<;>simp [zv,isK]
    · rcases List.mem_cons.1 hx with rfl|hx
      · cases k with
        | none=>rfl
        | some k=>cases k<;>decide
      · exact h2 x hx
theorem rowF_congr {n sz:Nat} {f g:Nat→List A0} {β:Nat→Nat} {base:Nat} {w:World} {u:Value} (h:∀ j,f j=g j) (hr:TV.reads β base w (.rowF n sz f) u):TV.reads β base w (.rowF n sz g) u:=by
  rw [show g=f from funext fun j=>(h j).symm];exact hr
theorem row_of {t e:TypeId} {arr:Bool} {d:Nat} {ks:List (Option IntKind)} (hu:P.underlying t=some (.slice e)) (hl:lvs P arr d e=some ks) (hk:0<ks.length) {A1:Option Addr} {n0 c0:Nat} {x:DataW H} {ps:List MemPlace} (h:DataW.Trod enc P w base spare held t (.slice A1 n0 c0) x ps) :
    ∃ f:Nat→List Value,(∀ j,okV ks (f j))∧∀ β:Nat→Nat,TV.reads β w.heap.size w (.rowF n0 ks.length (fun j=>cellsG f j 0 ks)) (.slice A1 n0 c0):=by
  obtain ⟨fuel,hf⟩:=h
  have hcell:(Value.slice A1 n0 c0).cells.toList=[.slice A1 n0 c0]:=rfl
  rw [hcell] at hf
  rcases Go.Deep.open_slice hu hf with ⟨h1,_⟩|⟨a,len,cap,m,n,D,Pl,h1,hb,hle,hm,hmm,_,hi⟩
  · cases h1
    exact ⟨fun _=>ks.map zv,fun j=>zs_ok ks,fun β=>⟨none,0,rfl,Nat.le_refl _,fun h=>absurd h (by omega)⟩⟩
  · cases h1
    have hlm:n0≤m:=by rw [hmm];split<;>omega
    have hch:∀ j,∃ l:List Value,okV ks l∧(j<n0→∀ i u,l[i]?=some u→w.cell? ((a.add (j*ks.length)).add i)=some u):=by
      intro j
      by_cases hj:j<n0
      · obtain ⟨cs',h2,h3⟩:=hi j (by omega)
        obtain ⟨_,hcl,hat⟩:=World.cells?_some h2
        have ok:=(flat_trod (enc:=enc) (P:=P) (w:=w) (base:=base) (spare:=spare) (held:=held) arr d).1 e ks n cs' _ hl h3
        refine ⟨cs',ok,fun _ i u hu=>?_⟩
        have hil:i<cs'.length:=(List.getElem?_eq_some_iff.1 hu).1
        have h4:=hat i (by omega)
        rw [hu,lvs_cells hl] at h4
        exact h4
      · exact ⟨ks.map zv,zs_ok ks,fun h=>absurd h hj⟩
    obtain ⟨f,hf⟩:=Classical.axiomOfChoice hch
    refine ⟨f,fun j=>(hf j).1,fun β=>?_⟩
    refine rowF_congr (f:=fun j=>(f j).map A0.v) (fun j=>?_) ⟨some a,c0,rfl,hle,fun h0=>⟨a,rfl,?_,fun i hi=>?_⟩⟩
    · have:=cellsG_eq f j ks 0 (by rw [List.drop_zero];exact (hf j).1.1)
      rw [this,List.drop_zero]
    · have h5:=(hf 0).1.1
      have h6:=isKs_len h5
      have h7:=(hf 0).2 h0 0 ((f 0)[0]'(by omega)) (by simp)
      have:=World.block_lt_of_cell? w _ h7
      rw [Nat.zero_mul] at this
      exact this
    · intro q c hq
      rw [List.getElem?_map,Option.map_eq_some_iff] at hq
      obtain ⟨u,hu,rfl⟩:=hq
      exact ⟨u,(hf i).2 hi q u hu,rfl⟩
end
end Go.Proofs.YtmnkaldemjdcoaaGreatW.Sx
end
section
set_option linter.unusedVariables false
set_option linter.unusedSimpArgs false
namespace Go.Proofs.YtmnkaldemjdcoaaGreat.Wh
open Go RowKit YtmnkaldemjdcoaaGreatW.PrintWords YtmnkaldemjdcoaaGreatW.PrintMore YtmnkaldemjdcoaaGreatW.Aid YtmnkaldemjdcoaaGreatW.Big YtmnkaldemjdcoaaGreatW.Sx YtmnkaldemjdcoaaGreat.BitsWalk YtmnkaldemjdcoaaGreat.Limbs YtmnkaldemjdcoaaGreat.Whole YtmnkaldemjdcoaaGreat.FxWalk Go.Proofs
theorem wd_bif (v:Int):(bif decide (v > -35184372088832) then decide (v<35184372088832) else false)=wd v:=by
  unfold wd
  have e:decide (v > -35184372088832)=decide (-35184372088832<v):=rfl
  rw [e]
  cases decide (-35184372088832<v)<;>rfl
theorem gV_bif (x y z:Int):(bif bif wd x then wd y else false then wd z else false)=gV x y z:=by
  unfold gV
  simp only [allw]
  cases wd x<;>cases wd y<;>cases wd z<;>rfl
theorem v3_eq {x y z x' y' z':Int} (h:x=x') (h2:y=y') (h3:z=z'):(some (CR.tv (.agg [.v (.int .i64 x),.v (.int .i64 y),.v (.int .i64 z)])):Option CR)=some (CR.tv (.agg [.v (.int .i64 x'),.v (.int .i64 y'),.v (.int .i64 z')])):=by rw [h,h2,h3]
theorem neg_w {x:Int} (h:wd x=true):IntKind.i64.wrap (0-x) = -x:=by
  have:=wd_iff.1 h
  rw [i64_wrap,Int.zero_sub];exact wrap64_id (by omega) (by omega)
theorem no {c:Bool} (h:c=false) (hb:c=true):False:=by rw [h] at hb;exact absurd hb (by decide)
abbrev cells3 (x y z:Int):List Value:=[.int .i64 x,.int .i64 y,.int .i64 z]
def lawL (m n:Nat) (r:Nat→List A0) (q:Nat):LI Int where
  gs:=fun i=>[(0,.rowF n m r),(q,tB false),(q+1,tN .i64 i)]
  bs:=fun i=>[]
  I:=fun i=>0≤i∧i≤(n:Int)
  μ:=fun i=>((n:Int)-i).toNat
theorem wrap1 {i:Int} (h0:0≤i) (h:i≤100000000000000000):IntKind.i64.wrap (i+1)=i+1:=by rw [i64_wrap];exact wrap64_id (by omega) (by omega)
theorem hC1 {v k:Int} {n:Nat} (h:(bif decide (v<(n:Int)) then decide (v<k) else false)=true):v<n∧v<k:=by
  by_cases h1:v<(n:Int)
  · rw [decide_eq_true h1] at h;exact ⟨h1,of_decide_eq_true h⟩
  · rw [decide_eq_false h1] at h;exact absurd (show false=true from h) (by decide)
theorem stepL {m n q:Nat} {r:Nat→List A0} {v k:Int} (hv:(lawL m n r q).I v) (hC:(bif decide (v<(n:Int)) then decide (v<k) else false)=true) (hk:k≤1000):(lawL m n r q).μ (IntKind.i64.wrap (v+1))<(lawL m n r q).μ v∧(lawL m n r q).I (IntKind.i64.wrap (v+1)):=by
  have h1:=hC1 hC
  have h0:0≤v∧v≤(n:Int):=hv
  rw [wrap1 h0.1 (by omega)]
  exact ⟨show ((n:Int)-(v+1)).toNat<((n:Int)-v).toNat by omega,show 0≤v+1∧v+1≤(n:Int) by omega⟩
section
set_option maxRecDepth 100000
set_option maxHeartbeats 4000000
abbrev eqVec:EqT Tryz.prog:=eqS Tryz.prog 24 [some .i64,some .i64,some .i64] (by kernel_rfl)
def cR1May:Con Tryz.prog where
  f:=18
  sem:=fun xs=>match xs with
    | [.sc (.v (.int .i64 v))]=>some (True,.tv (tB (wd v)))
    | _=>none
  ok := by
    intro xs p r' h hp
    refine ⟨⟨_,Tryz.func18,by kernel_rfl,rfl⟩,fun us w ha=>?_⟩
    split at h
    · rename_i v
      cases h
      refine fn_ret (cxOk Tryz.prog ints_ok [] []) follows Tryz.func18 rfl 100 _ rfl (by simp) ?_ ha
      repeat' first
        | exact trivial
        | (refine And.intro (show regChk _ _ _ _ _=true from by kernel_rfl) (And.intro ?_ ?_))
        | (refine And.intro (fun _=>?_) (fun h=>absurd (show true=false from h) (by decide)))
        | (refine And.intro (fun h=>absurd (show false=true from h) (by decide)) (fun _=>?_))
        | (refine And.intro (fun hb=>?_) (fun hb'=>?_))
        | refine And.intro ?_ ?_
        | intro _
      all_goals first
        | (show some (CR.tv (tB _))=some (CR.tv (tB _));exact tB_eq (wd_bif v))
        | (show (_:Bool)=(_:Bool);first|assumption|exact beq_iff_eq.2 (by assumption)|(exact and_tt (by first|assumption|exact beq_iff_eq.2 (by assumption)) (by first|assumption|exact beq_iff_eq.2 (by assumption))))
        | (show (_:Nat)=(_:Nat);rfl)
        | (show (_:Nat)≤1000;decide)
        | (show (_:Int)=(_:Int);rfl)
        | (show (_:Int)≤_;decide)
        | (show (_:Int)<_;decide)
        -- PVC
    · cases h
def cR3May:Con Tryz.prog where
  f:=7
  sem:=fun xs=>match xs with
    | [.agg [.v (.int .i64 x),.v (.int .i64 y),.v (.int .i64 z)]]=>some (True,.tv (tB (gV x y z)))
    | _=>none
  ok := by
    intro xs p r' h hp
    refine ⟨⟨_,Tryz.func7,by kernel_rfl,rfl⟩,fun us w ha=>?_⟩
    split at h
    · rename_i x y z
      cases h
      refine fn_ret (cxOk Tryz.prog ints_ok [] [cR1May]) follows Tryz.func7 rfl 100 _ rfl (by simp) ?_ ha
      repeat' first
        | exact trivial
        | (refine And.intro (show regChk _ _ _ _ _=true from by kernel_rfl) (And.intro ?_ ?_))
        | (refine And.intro (fun _=>?_) (fun h=>absurd (show true=false from h) (by decide)))
        | (refine And.intro (fun h=>absurd (show false=true from h) (by decide)) (fun _=>?_))
        | (refine And.intro (fun hb=>?_) (fun hb'=>?_))
        | refine And.intro ?_ ?_
        | intro _
      all_goals first
        | (show some (CR.tv (tB _))=some (CR.tv (tB _));exact tB_eq (gV_bif x y z))
        | (show (_:Bool)=(_:Bool);first|assumption|exact beq_iff_eq.2 (by assumption)|(exact and_tt (by first|assumption|exact beq_iff_eq.2 (by assumption)) (by first|assumption|exact beq_iff_eq.2 (by assumption))))
        | (show (_:Nat)=(_:Nat);rfl)
        | (show (_:Nat)≤1000;decide)
        | (show (_:Int)=(_:Int);rfl)
        | (show (_:Int)≤_;decide)
        | (show (_:Int)<_;decide)
        -- PVC
    · cases h
def cR3Neg:Con Tryz.prog where
  f:=25
  sem:=fun xs=>match xs with
    | [.agg [.v (.int .i64 x),.v (.int .i64 y),.v (.int .i64 z)]]=>some (gV x y z=true,.tv (.agg [.v (.int .i64 (-x)),.v (.int .i64 (-y)),.v (.int .i64 (-z))]))
    | _=>none
  ok := by
    intro xs p r' h hp
    refine ⟨⟨_,Tryz.func25,by kernel_rfl,rfl⟩,fun us w ha=>?_⟩
    split at h
    · rename_i x y z
      cases h
      refine fn_ret (cxOk Tryz.prog ints_ok [] []) follows Tryz.func25 rfl 100 _ rfl (by simp) ?_ ha
      repeat' first
        | exact trivial
        | (refine And.intro (show regChk _ _ _ _ _=true from by kernel_rfl) (And.intro ?_ ?_))
        | (refine And.intro (fun _=>?_) (fun h=>absurd (show true=false from h) (by decide)))
        | (refine And.intro (fun h=>absurd (show false=true from h) (by decide)) (fun _=>?_))
        | (refine And.intro (fun hb=>?_) (fun hb'=>?_))
        | refine And.intro ?_ ?_
      all_goals first
        | (show some (CR.tv (.agg _))=some (CR.tv (.agg _));exact v3_eq (neg_w (gV_iff.1 hp).1) (neg_w (gV_iff.1 hp).2.1) (neg_w (gV_iff.1 hp).2.2))
        | (show (_:Nat)=(_:Nat);rfl)
        | (show (_:Nat)≤1000;decide)
        | (show (_:Int)=(_:Int);rfl)
        | (show (_:Int)≤_;decide)
        | (show (_:Int)<_;decide)
        -- PVC
    · cases h
def cNum3:Con Tryz.prog where
  f:=12
  sem:=fun xs=>match xs with
    | [.sc (.v (.int .i64 v))]=>some (True,.tv (tN .i64 v))
    | _=>none
  ok := by
    intro xs p r' h hp
    refine ⟨⟨_,Tryz.func12,by kernel_rfl,rfl⟩,fun us w ha=>?_⟩
    split at h
    · rename_i v
      cases h
      refine fn_ret (cxOk Tryz.prog ints_ok [] []) follows Tryz.func12 rfl 100 _ rfl (by simp) ?_ ha
      repeat' first
        | exact trivial
        | (refine And.intro (show regChk _ _ _ _ _=true from by kernel_rfl) (And.intro ?_ ?_))
        | (refine And.intro (fun _=>?_) (fun h=>absurd (show true=false from h) (by decide)))
        | (refine And.intro (fun h=>absurd (show false=true from h) (by decide)) (fun _=>?_))
        | (refine And.intro (fun hb=>?_) (fun hb'=>?_))
        | refine And.intro ?_ ?_
      all_goals first
        | (show some (CR.tv (tN _ _))=some (CR.tv (tN _ _));rfl)
        | (show (_:Nat)=(_:Nat);rfl)
        | (show (_:Nat)≤1000;decide)
        | (show (_:Int)=(_:Int);rfl)
        | (show (_:Int)≤_;decide)
        | (show (_:Int)<_;decide)
        -- PVC
    · cases h
end
end Go.Proofs.YtmnkaldemjdcoaaGreat.Wh
end
section
set_option linter.unusedVariables false
set_option linter.unusedSimpArgs false
namespace Go.Proofs.YtmnkaldemjdcoaaGreat.Wh
open Go RowKit YtmnkaldemjdcoaaGreatW.PrintWords YtmnkaldemjdcoaaGreatW.PrintMore YtmnkaldemjdcoaaGreatW.Aid YtmnkaldemjdcoaaGreatW.Big YtmnkaldemjdcoaaGreatW.Sx YtmnkaldemjdcoaaGreat.BitsWalk YtmnkaldemjdcoaaGreat.Limbs YtmnkaldemjdcoaaGreat.Whole YtmnkaldemjdcoaaGreat.FxWalk Go.Proofs
def thR (x e y f v g:Int):Int × Int × Int × Int:=bif bif bif e != 0 then true else f != 0 then true else g != 0 then ((0:Int),(0:Int),(0:Int),(2:Int)) else (x,y,v,(0:Int))
theorem thR_0 {x e y f v g:Int} (h0:(bif bif e != 0 then true else f != 0 then true else g != 0)=true):(((0:Int),(0:Int),(0:Int),(2:Int)))=thR x e y f v g:=by
  unfold thR
  rw [h0]
  rfl
theorem thR_1 {x e y f v g:Int} (h0:(bif bif e != 0 then true else f != 0 then true else g != 0)=false):((x,y,v,(0:Int)))=thR x e y f v g:=by
  unfold thR
  rw [h0]
  rfl
def isV (a b c e x y z k:Int):Bool:=bif k != 0 then bif e == k then eqL (cells3 a b c) (cells3 0 0 0) else false else bif e == 0 then eqL (cells3 a b c) (cells3 x y z) else false
theorem isV_0 {a b c e x y z k:Int} (h0:(k != 0)=true):(bif e == k then eqL (cells3 a b c) (cells3 0 0 0) else false)=isV a b c e x y z k:=by
  unfold isV
  rw [h0]
  rfl
theorem isV_1 {a b c e x y z k:Int} (h0:(k != 0)=false):(bif e == 0 then eqL (cells3 a b c) (cells3 x y z) else false)=isV a b c e x y z k:=by
  unfold isV
  rw [h0]
  rfl
theorem thR_told (a b c:Int):thR (toldR a).1 (toldR a).2 (toldR b).1 (toldR b).2 (toldR c).1 (toldR c).2=vT a b c:=by
  unfold thR toldR vT
  cases wd a<;>cases wd b<;>cases wd c<;>rfl
theorem is_vT (a b c:Int):isV (vT a b c).1 (vT a b c).2.1 (vT a b c).2.2.1 (vT a b c).2.2.2 (vT a b c).1 (vT a b c).2.1 (vT a b c).2.2.1 (vT a b c).2.2.2=true:=by
  unfold vT
  split
  · unfold isV;simp [eqL,eqV]
  · rfl
section
set_option maxRecDepth 100000
set_option maxHeartbeats 4000000
def g3Three:Con Tryz.prog where
  f:=49
  sem:=fun xs=>match xs with
    | [.sc (.v (.int .i64 x)),.sc (.v (.int .i64 e)),.sc (.v (.int .i64 y)),.sc (.v (.int .i64 f)),.sc (.v (.int .i64 v)),.sc (.v (.int .i64 g))]=>some (True,.tv (tV4 (thR x e y f v g)))
    | _=>none
  ok := by
    intro xs p r' h hp
    refine ⟨⟨_,Tryz.func49,by kernel_rfl,rfl⟩,fun us w ha=>?_⟩
    split at h
    · rename_i x e y f v g
      cases h
      refine fn_ret (cxOk Tryz.prog ints_ok [] []) follows Tryz.func49 rfl 100 _ rfl (by simp) ?_ ha
      repeat' first
        | exact trivial
        | (refine And.intro (show regChk _ _ _ _ _=true from by kernel_rfl) (And.intro ?_ ?_))
        | (refine And.intro (fun _=>?_) (fun h=>absurd (show true=false from h) (by decide)))
        | (refine And.intro (fun h=>absurd (show false=true from h) (by decide)) (fun _=>?_))
        | (refine And.intro (fun hb=>?_) (fun hb'=>?_))
        | refine And.intro ?_ ?_
        | intro _
      all_goals first
        | (show some (CR.tv (.tup _))=some (CR.tv (tV4 _));first|exact v4_eq (thR_0 (by assumption))|exact v4_eq (thR_1 (by assumption)))
        | (show (_:Bool)=(_:Bool);first|assumption|exact beq_iff_eq.2 (by assumption)|(exact and_tt (by first|assumption|exact beq_iff_eq.2 (by assumption)) (by first|assumption|exact beq_iff_eq.2 (by assumption))))
        | (show (_:Nat)=(_:Nat);rfl)
        | (show (_:Nat)≤1000;decide)
        | (show (_:Int)=(_:Int);rfl)
        | (show (_:Int)≤_;decide)
        | (show (_:Int)<_;decide)
        -- PVC
    · cases h
def cIs3:Con Tryz.prog where
  f:=16
  sem:=fun xs=>match xs with
    | [.agg [.v (.int .i64 a),.v (.int .i64 b),.v (.int .i64 c)],.sc (.v (.int .i64 e)),.agg [.v (.int .i64 x),.v (.int .i64 y),.v (.int .i64 z)],.sc (.v (.int .i64 k))]=>some (True,.tv (tB (isV a b c e x y z k)))
    | _=>none
  ok := by
    intro xs p r' h hp
    refine ⟨⟨_,Tryz.func16,by kernel_rfl,rfl⟩,fun us w ha=>?_⟩
    split at h
    · rename_i a b c e x y z k
      cases h
      refine fn_ret (cxOk Tryz.prog ints_ok [eqVec] [cNum3]) follows Tryz.func16 rfl 100 _ rfl (by simp) ?_ ha
      repeat' first
        | exact trivial
        | (refine And.intro (show regChk _ _ _ _ _=true from by kernel_rfl) (And.intro ?_ ?_))
        | (refine And.intro (fun _=>?_) (fun h=>absurd (show true=false from h) (by decide)))
        | (refine And.intro (fun h=>absurd (show false=true from h) (by decide)) (fun _=>?_))
        | (refine And.intro (fun hb=>?_) (fun hb'=>?_))
        | refine And.intro ?_ ?_
        | intro _
      all_goals first
        | (show some (CR.tv (tB _))=some (CR.tv (tB _));first|exact tB_eq (isV_0 (by assumption))|exact tB_eq (isV_1 (by assumption)))
        | (show (_:Bool)=(_:Bool);first|assumption|exact beq_iff_eq.2 (by assumption)|(exact and_tt (by first|assumption|exact beq_iff_eq.2 (by assumption)) (by first|assumption|exact beq_iff_eq.2 (by assumption))))
        | (show (_:Nat)=(_:Nat);rfl)
        | (show (_:Nat)≤1000;decide)
        | (show (_:Int)=(_:Int);rfl)
        | (show (_:Int)≤_;decide)
        | (show (_:Int)<_;decide)
        -- PVC
    · cases h
def g3Add:Con Tryz.prog where
  f:=22
  sem:=fun xs=>match xs with
    | [.agg [.v (.int .i64 a),.v (.int .i64 b),.v (.int .i64 c)],.agg [.v (.int .i64 d),.v (.int .i64 e),.v (.int .i64 f)]]=>some (gV a b c=true∧gV d e f=true,.tv (tV4 (vT (a+d) (b+e) (c+f))))
    | _=>none
  ok := by
    intro xs p r' h hp
    refine ⟨⟨_,Tryz.func22,by kernel_rfl,rfl⟩,fun us w ha=>?_⟩
    split at h
    · rename_i a b c d e f
      cases h
      obtain ⟨ha',hd'⟩:=hp
      have b1:=gV_bd ha'
      have b2:=gV_bd hd'
      refine fn_ret (cxOk Tryz.prog intsR_ok [] [gAdd,g3Three]) follows Tryz.func22 rfl 100 _ rfl (by simp) ?_ ha
      repeat' first
        | exact trivial
        | (refine And.intro (show regChk _ _ _ _ _=true from by kernel_rfl) (And.intro ?_ ?_))
        | (refine And.intro (fun _=>?_) (fun h=>absurd (show true=false from h) (by decide)))
        | (refine And.intro (fun h=>absurd (show false=true from h) (by decide)) (fun _=>?_))
        | (refine And.intro (fun hb=>?_) (fun hb'=>?_))
        | refine And.intro ?_ ?_
      all_goals first
        | (show (_:Int)≤_;omega)
        | (show (_:Int)<_;omega)
        | (show some (CR.tv (.tup _))=some (CR.tv (tV4 _));exact v4_eq (thR_told _ _ _))
        | (show (_:Nat)=(_:Nat);rfl)
        | (show (_:Nat)≤1000;decide)
        | (show (_:Int)=(_:Int);rfl)
        | (show (_:Int)≤_;decide)
        | (show (_:Int)<_;decide)
        -- PVC
    · cases h
theorem biP {a b:Int} (ha:wd a=true) (hb:wd b=true):BI 128 (a*b):=BI.mul (BI.i64 (i64_wd ha)) (BI.i64 (i64_wd hb)) (by decide)
theorem biL {a b c d:Int} (ha:wd a=true) (hb:wd b=true) (hc:wd c=true) (hd:wd d=true):BI 4000 (a*b-c*d):=BI.mono (BI.sub (biP ha hb) (biP hc hd) (show 128+1≤129 by decide)) (by decide)
theorem gV_neg {d e f:Int} (h:gV d e f=true):gV (-d) (-e) (-f)=true:=by
  have hb:=gV_bd h
  exact gV_iff.2 ⟨by rw [wd_iff];omega,by rw [wd_iff];omega,by rw [wd_iff];omega⟩
def g3Sub:Con Tryz.prog where
  f:=23
  sem:=fun xs=>match xs with
    | [.agg [.v (.int .i64 a),.v (.int .i64 b),.v (.int .i64 c)],.agg [.v (.int .i64 d),.v (.int .i64 e),.v (.int .i64 f)]]=>some (gV a b c=true∧gV d e f=true,.tv (tV4 (vT (a-d) (b-e) (c-f))))
    | _=>none
  ok := by
    intro xs p r' h hp
    refine ⟨⟨_,Tryz.func23,by kernel_rfl,rfl⟩,fun us w ha=>?_⟩
    split at h
    · rename_i a b c d e f
      cases h
      obtain ⟨ha',hd'⟩:=hp
      have b1:=gV_bd ha'
      have b2:=gV_bd hd'
      refine fn_ret (cxOk Tryz.prog intsR_ok [] [g3Add,cR3Neg]) follows Tryz.func23 rfl 100 _ rfl (by simp) ?_ ha
      repeat' first
        | exact trivial
        | (refine And.intro (show regChk _ _ _ _ _=true from by kernel_rfl) (And.intro ?_ ?_))
        | (refine And.intro (fun _=>?_) (fun h=>absurd (show true=false from h) (by decide)))
        | (refine And.intro (fun h=>absurd (show false=true from h) (by decide)) (fun _=>?_))
        | (refine And.intro (fun hb=>?_) (fun hb'=>?_))
        | refine And.intro ?_ ?_
      all_goals first
        | exact ha'
        | exact hd'
        | (show gV (-d) (-e) (-f)=true;exact gV_neg hd')
        | (show some (CR.tv (.tup _))=some (CR.tv (tV4 _));exact v4_eq rfl)
        | (show (_:Nat)=(_:Nat);rfl)
        | (show (_:Nat)≤1000;decide)
        | (show (_:Int)=(_:Int);rfl)
        | (show (_:Int)≤_;decide)
        | (show (_:Int)<_;decide)
        -- PVC
    · cases h
def g3Less:Con Tryz.prog where
  f:=56
  sem:=fun xs=>match xs with
    | [.sc (.v (.int .i64 a)),.sc (.v (.int .i64 b)),.sc (.v (.int .i64 c)),.sc (.v (.int .i64 d))]=>some ((wd a=true∧wd b=true)∧wd c=true∧wd d=true,.tv (tI (a*b-c*d)))
    | _=>none
  ok := by
    intro xs p r' h hp
    refine ⟨⟨_,Tryz.func56,by kernel_rfl,rfl⟩,fun us w ha=>?_⟩
    split at h
    · rename_i a b c d
      cases h
      obtain ⟨⟨h1,h2⟩,h3,h4⟩:=hp
      have b1:=wd_iff.1 h1
      have b2:=wd_iff.1 h2
      have b3:=wd_iff.1 h3
      have b4:=wd_iff.1 h4
      refine fn_ret (cxOk Tryz.prog intsR_ok [] [gProd,rLess]) follows Tryz.func56 rfl 100 _ rfl (by simp) ?_ ha
      repeat' first
        | exact trivial
        | (refine And.intro (show regChk _ _ _ _ _=true from by kernel_rfl) (And.intro ?_ ?_))
        | (refine And.intro (fun _=>?_) (fun h=>absurd (show true=false from h) (by decide)))
        | (refine And.intro (fun h=>absurd (show false=true from h) (by decide)) (fun _=>?_))
        | (refine And.intro (fun hb=>?_) (fun hb'=>?_))
        | refine And.intro ?_ ?_
      all_goals first
        | (show (_:Int)≤_;omega)
        | (show (_:Int)<_;omega)
        | (show BI _ _;first|exact BI.mono (biP h1 h2) (by decide)|exact BI.mono (biP h3 h4) (by decide))
        | (show some (CR.tv (tI _))=some (CR.tv (tI _));rfl)
        | (show (_:Nat)=(_:Nat);rfl)
        | (show (_:Nat)≤1000;decide)
        | (show (_:Int)=(_:Int);rfl)
        | (show (_:Int)≤_;decide)
        | (show (_:Int)<_;decide)
        -- PVC
    · cases h
def g3Cross:Con Tryz.prog where
  f:=24
  sem:=fun xs=>match xs with
    | [.agg [.v (.int .i64 a),.v (.int .i64 b),.v (.int .i64 c)],.agg [.v (.int .i64 d),.v (.int .i64 e),.v (.int .i64 f)]]=>some (gV a b c=true∧gV d e f=true,.tv (tV4 (vT (q30 (b*f-c*e)) (q30 (c*d-a*f)) (q30 (a*e-b*d)))))
    | _=>none
  ok := by
    intro xs p r' h hp
    refine ⟨⟨_,Tryz.func24,by kernel_rfl,rfl⟩,fun us w ha=>?_⟩
    split at h
    · rename_i a b c d e f
      cases h
      obtain ⟨ha',hd'⟩:=hp
      have b1:=gV_bd ha'
      have b2:=gV_bd hd'
      refine fn_ret (cxOk Tryz.prog intsR_ok [] [gNearQ,g3Less,g3Three]) follows Tryz.func24 rfl 100 _ rfl (by simp) ?_ ha
      repeat' first
        | exact trivial
        | (refine And.intro (show regChk _ _ _ _ _=true from by kernel_rfl) (And.intro ?_ ?_))
        | (refine And.intro (fun _=>?_) (fun h=>absurd (show true=false from h) (by decide)))
        | (refine And.intro (fun h=>absurd (show false=true from h) (by decide)) (fun _=>?_))
        | (refine And.intro (fun hb=>?_) (fun hb'=>?_))
        | refine And.intro ?_ ?_
      all_goals first
        | (show wd _=true;first|exact (gV_iff.1 ha').1|exact (gV_iff.1 ha').2.1|exact (gV_iff.1 ha').2.2|exact (gV_iff.1 hd').1|exact (gV_iff.1 hd').2.1|exact (gV_iff.1 hd').2.2)
        | (show BI _ _;first|exact biL (gV_iff.1 ha').2.1 (gV_iff.1 hd').2.2 (gV_iff.1 ha').2.2 (gV_iff.1 hd').2.1|exact biL (gV_iff.1 ha').2.2 (gV_iff.1 hd').1 (gV_iff.1 ha').1 (gV_iff.1 hd').2.2|exact biL (gV_iff.1 ha').1 (gV_iff.1 hd').2.1 (gV_iff.1 ha').2.1 (gV_iff.1 hd').1)
        | (show some (CR.tv (.tup _))=some (CR.tv (tV4 _));exact v4_eq (thR_told _ _ _))
        | (show (_:Nat)=(_:Nat);rfl)
        | (show (_:Nat)≤1000;decide)
        | (show (_:Int)=(_:Int);rfl)
        | (show (_:Int)≤_;decide)
        | (show (_:Int)<_;decide)
        -- PVC
    · cases h
end
end Go.Proofs.YtmnkaldemjdcoaaGreat.Wh
end
section
set_option linter.unusedVariables false
set_option linter.unusedSimpArgs false
namespace Go.Proofs.YtmnkaldemjdcoaaGreat.Wh
open Go RowKit YtmnkaldemjdcoaaGreatW.PrintWords YtmnkaldemjdcoaaGreatW.PrintMore YtmnkaldemjdcoaaGreatW.Aid YtmnkaldemjdcoaaGreatW.Big YtmnkaldemjdcoaaGreatW.Sx YtmnkaldemjdcoaaGreat.BitsWalk YtmnkaldemjdcoaaGreat.Limbs YtmnkaldemjdcoaaGreat.Whole YtmnkaldemjdcoaaGreat.FxWalk Go.Proofs
theorem bip {a b:Int} (ha:wd a=true) (hb:wd b=true):BI 128 (a*b):=BI.mul (BI.i64 (i64_wd ha)) (BI.i64 (i64_wd hb)) (by decide)
theorem biD {a b c d e f:Int} (h:gV a b c=true) (h':gV d e f=true):BI 130 (dot3 a b c d e f):=by
  obtain ⟨a1,a2,a3⟩:=gV_iff.1 h
  obtain ⟨d1,d2,d3⟩:=gV_iff.1 h'
  exact BI.add (BI.add (bip a1 d1) (bip a2 d2) (show 128+1≤129 by decide)) (BI.mono (bip a3 d3) (by decide)) (by decide)
section
set_option maxRecDepth 100000
set_option maxHeartbeats 4000000
def g3dot:Con Tryz.prog where
  f:=32
  sem:=fun xs=>match xs with
    | [.agg [.v (.int .i64 a),.v (.int .i64 b),.v (.int .i64 c)],.agg [.v (.int .i64 d),.v (.int .i64 e),.v (.int .i64 f)]]=>some (gV a b c=true∧gV d e f=true,.tv (tI (dot3 a b c d e f)))
    | _=>none
  ok := by
    intro xs p r' h hp
    refine ⟨⟨_,Tryz.func32,by kernel_rfl,rfl⟩,fun us w ha=>?_⟩
    split at h
    · rename_i a b c d e f
      cases h
      obtain ⟨ha',hd'⟩:=hp
      have b1:=gV_bd ha'
      have b2:=gV_bd hd'
      obtain ⟨a1,a2,a3⟩:=gV_iff.1 ha'
      obtain ⟨d1,d2,d3⟩:=gV_iff.1 hd'
      refine fn_ret (cxOk Tryz.prog intsR_ok [] [gProd,rPlus]) follows Tryz.func32 rfl 100 _ rfl (by simp) ?_ ha
      repeat' first
        | exact trivial
        | (refine And.intro (show regChk _ _ _ _ _=true from by kernel_rfl) (And.intro ?_ ?_))
        | (refine And.intro (fun _=>?_) (fun h=>absurd (show true=false from h) (by decide)))
        | (refine And.intro (fun h=>absurd (show false=true from h) (by decide)) (fun _=>?_))
        | (refine And.intro (fun hb=>?_) (fun hb'=>?_))
        | refine And.intro ?_ ?_
      all_goals first
        | (show (_:Int)≤_;omega)
        | (show (_:Int)<_;omega)
        | (show BI 20000 (_*_);first|exact BI.mono (bip a1 d1) (by decide)|exact BI.mono (bip a2 d2) (by decide)|exact BI.mono (bip a3 d3) (by decide))
        | (show BI 20000 (_+_);exact BI.mono (BI.add (bip a1 d1) (bip a2 d2) (show 128+1≤129 by decide)) (by decide))
        | (show some (CR.tv (tI _))=some (CR.tv (tI _));rfl)
        | (show (_:Nat)=(_:Nat);rfl)
        | (show (_:Nat)≤1000;decide)
        | (show (_:Int)=(_:Int);rfl)
        | (show (_:Int)≤_;decide)
        | (show (_:Int)<_;decide)
        -- PVC
    · cases h
end
end Go.Proofs.YtmnkaldemjdcoaaGreat.Wh
end
section
set_option linter.unusedVariables false
set_option linter.unusedSimpArgs false
namespace Go.Proofs.YtmnkaldemjdcoaaGreat.Wh
open Go RowKit YtmnkaldemjdcoaaGreatW.PrintWords YtmnkaldemjdcoaaGreatW.PrintMore YtmnkaldemjdcoaaGreatW.Aid YtmnkaldemjdcoaaGreatW.Big YtmnkaldemjdcoaaGreatW.Sx YtmnkaldemjdcoaaGreat.BitsWalk YtmnkaldemjdcoaaGreat.Limbs YtmnkaldemjdcoaaGreat.Whole YtmnkaldemjdcoaaGreat.FxWalk Go.Proofs
theorem cmp_scale {g a b:Int} (hg:0<g):cmpI (g*a) (g*b)=cmpI a b:=by
  have h1:g*a<g*b↔a<b:=Int.mul_lt_mul_left hg
  have h2:g*b<g*a↔b<a:=Int.mul_lt_mul_left hg
  unfold cmpI
  by_cases h:a<b
  · rw [if_pos h,if_pos (h1.2 h)]
  · rw [if_neg h,if_neg (fun hk=>h (h1.1 hk))]
    by_cases h':b<a
    · rw [if_pos h',if_pos (h2.2 h')]
    · rw [if_neg h',if_neg (fun hk=>h' (h2.1 hk))]
theorem near_scale {g x d:Int} (hg:0<g):nearR (g*x) (g*d)=nearR x d:=by
  have e1:g*x/(g*d)=x/d:=Int.mul_ediv_mul_of_pos x d hg
  have e2:∀ k,nearB (g*x) (g*d) k=nearB x d k:=fun k=>by
    unfold nearB
    rw [show (k*2 ^ Int.toNat 1+1)*(k*2 ^ Int.toNat 1+1)*(g*d)=g*((k*2 ^ Int.toNat 1+1)*(k*2 ^ Int.toNat 1+1)*d) from Int.mul_left_comm _ _ _,show g*x*2 ^ Int.toNat 2=g*(x*2 ^ Int.toNat 2) from Int.mul_assoc _ _ _,cmp_scale hg]
  unfold nearR
  rw [e1,e2]
theorem near_gcd (n:Int) {d:Int} (h:0<d):nearR (n/gcdI n d) (d/gcdI n d)=nearR n d:=by
  have hg:=gcdI_pos n h
  obtain ⟨q,hq⟩:=gcdI_n n d
  obtain ⟨r,hr⟩:=gcdI_d n (Int.le_of_lt h)
  generalize gcdI n d=g at *
  subst hq hr
  rw [Int.mul_ediv_cancel_left _ (by omega),Int.mul_ediv_cancel_left _ (by omega)]
  exact (near_scale hg).symm
def ovrR (a c:Int):Int:=bif sgn a then -nearR (a*a) c else nearR (a*a) c
theorem ovr_1 {a c:Int} (h:sgn a=true) : -nearR (a*a) c=ovrR a c:=by unfold ovrR;rw [h];rfl
theorem ovr_0 {a c:Int} (h:sgn a=false):nearR (a*a) c=ovrR a c:=by unfold ovrR;rw [h];rfl
section
set_option maxRecDepth 100000
set_option maxHeartbeats 4000000
def gOverRoot:Con Tryz.prog where
  f:=34
  sem:=fun xs=>match xs with
    | [.agg [.neg a,.mag a'],.agg [.neg c,.mag c']]=>some (a'=a∧c'=c∧0<c∧BI 400 a∧BI 400 c,.tv (tI (ovrR a c)))
    | _=>none
  ok := by
    intro xs p r' h hp
    refine ⟨⟨_,Tryz.func34,by kernel_rfl,rfl⟩,fun us w ha=>?_⟩
    split at h
    · rename_i a a' c c'
      cases h
      obtain ⟨rfl,rfl,h0,ha',hc'⟩:=hp
      have b1:BI 800 (a'*a'):=BI.mul ha' ha' (by decide)
      have g0:=gcdI_pos (a'*a') h0
      have q1:=(round_gcd (a'*a') h0).2
      have q0:0≤a'*a'/gcdI (a'*a') c':=Int.ediv_nonneg (sq_nn a') (Int.le_of_lt g0)
      refine fn_ret (cxOk Tryz.prog intsR_ok [] [rTimes,qMake,gRootNear,rNeg]) follows Tryz.func34 rfl 100 _ rfl (by simp) ?_ ha
      repeat' first
        | exact trivial
        | (refine And.intro (show regChk _ _ _ _ _=true from by kernel_rfl) (And.intro ?_ ?_))
        | (refine And.intro (fun _=>?_) (fun h=>absurd (show true=false from h) (by decide)))
        | (refine And.intro (fun h=>absurd (show false=true from h) (by decide)) (fun _=>?_))
        | (refine And.intro (fun hb=>?_) (fun hb'=>?_))
        | refine And.intro ?_ ?_
      all_goals first
        | (show BI _ (_/_);first|exact BI.mono (b1.div _) (by decide)|exact BI.mono (hc'.div _) (by decide))
        | (show BI _ _;first|exact BI.mono ha' (by decide)|exact BI.mono hc' (by decide)|exact BI.mono b1 (by decide))
        | exact h0
        | exact q1
        | exact q0
        | (show some (CR.tv (tI _))=some (CR.tv (tI _));first|exact wh_eq (by rw [near_gcd _ h0];exact ovr_1 (by assumption))|exact wh_eq (by rw [near_gcd _ h0];exact ovr_0 (by assumption)))
        | (show (_:Nat)=(_:Nat);rfl)
        | (show (_:Nat)≤1000;decide)
        | (show (_:Int)=(_:Int);rfl)
        | (show (_:Int)≤_;decide)
        | (show (_:Int)<_;decide)
        -- PVC
    · cases h
end
end Go.Proofs.YtmnkaldemjdcoaaGreat.Wh
end
section
set_option linter.unusedVariables false
namespace Go.Proofs.YtmnkaldemjdcoaaGreat.Limbs
open RowKit YtmnkaldemjdcoaaGreatW.PrintWords YtmnkaldemjdcoaaGreatW.PrintMore YtmnkaldemjdcoaaGreatW.Aid YtmnkaldemjdcoaaGreatW.Big
def TakeInv (xs ys:List Int) (g:Int) (i:Nat) (bw cy:Int) (cs:List Int):Prop :=
  cs.length=xs.length∧Dig cs∧0≤bw∧bw≤1∧0≤cy∧cy<18446744073709551616∧(∀ j,i≤j→rd cs (j:Int)=rd xs (j:Int)) ∧
  (val (xs.take i):Int)+(bw+cy)*(18446744073709551616:Int) ^ i=val (cs.take i)+g*val (ys.take i)
theorem TakeInv.start {xs:List Int} (ys:List Int) (g:Int) (h:Dig xs):TakeInv xs ys g 0 0 0 xs :=
  ⟨rfl,h,by omega,by omega,by omega,by omega,fun _ _=>rfl,by simp [val]⟩
theorem TakeInv.step {xs ys cs:List Int} {g bw cy:Int} {i:Nat} (h:TakeInv xs ys g i bw cy cs) (hx:i<xs.length) (hy:i<ys.length) {x y r bw' cy' lo:Int} (hrx:rd xs i=x) (hry:rd ys i=y) (hx0:0≤x) (hy0:0≤y)
    (hr0:0≤r) (hr1:r<18446744073709551616) (hb0:0≤bw') (hb1:bw'≤1) (hc0:0≤cy') (hc1:cy'<18446744073709551616) (e1:g*y+cy=lo+cy'*18446744073709551616) (e2:x-lo-bw=r-bw'*18446744073709551616) :
    TakeInv xs ys g (i+1) bw' cy' (cs.set i r):=by
  obtain ⟨h1,h2,h3,h4,h5,h6,h7,h8⟩:=h
  refine ⟨by simp [h1],h2.set i hr0 hr1,hb0,hb1,hc0,hc1,fun j hj=>?_,?_⟩
  · rw [rd_set_ne _ (by omega)];exact h7 j (by omega)
  · rw [val_take_succ hx,val_set_take (by omega),val_take_succ hy,hrx,hry]
    have ex:((x.toNat:Nat):Int)=x:=Int.toNat_of_nonneg hx0
    have ey:((y.toNat:Nat):Int)=y:=Int.toNat_of_nonneg hy0
    have er:((r.toNat:Nat):Int)=r:=Int.toNat_of_nonneg hr0
    simp only [Int.natCast_add,Int.natCast_mul,Int.natCast_pow,ex,ey,er,Int.pow_succ]
    have hp:((18446744073709551616:Nat):Int)=18446744073709551616:=rfl
    rw [hp]
    generalize (18446744073709551616:Int) ^ i=p at *
    have e3:x+(bw'+cy')*18446744073709551616=r+(bw+cy)+g*y:=by omega
    have e4:p*x+(bw'+cy')*(p*18446744073709551616)=p*r+(bw+cy)*p+g*(p*y):=by
      have:=congrArg (fun t=>p*t) e3
      simp only [Int.mul_add] at this
      have a1:p*((bw'+cy')*18446744073709551616)=(bw'+cy')*(p*18446744073709551616):=Int.mul_left_comm _ _ _
      have a2:p*(g*y)=g*(p*y):=Int.mul_left_comm _ _ _
      have a3:(bw+cy)*p=p*bw+p*cy:=by rw [Int.mul_comm,Int.mul_add]
      rw [a3]
      omega
    rw [Int.mul_add]
    omega
theorem TakeInv.top {xs ys cs:List Int} {g bw cy:Int} {n:Nat} (h:TakeInv xs ys g n bw cy cs) (hn:ys.length=n) (hx:xs.length=n+1) {x r bw':Int} (hrx:rd xs n=x) (hx0:0≤x) (hr0:0≤r) (hr1:r<18446744073709551616) (e:x-cy-bw=r-bw'*18446744073709551616) :
    Dig (cs.set n r)∧(cs.set n r).length=n+1∧(val xs:Int)+bw'*(18446744073709551616:Int) ^ (n+1)=val (cs.set n r)+g*val ys:=by
  obtain ⟨h1,h2,h3,h4,h5,h6,h7,h8⟩:=h
  refine ⟨h2.set n hr0 hr1,by simp [h1,hx],?_⟩
  have e1:val xs=val (xs.take n)+18446744073709551616 ^ n*x.toNat:=by
    have:=val_take_succ (l:=xs) (i:=n) (by omega)
    rw [hrx] at this;rw [← this,List.take_of_length_le (by omega)]
  have e2:val (cs.set n r)=val (cs.take n)+18446744073709551616 ^ n*r.toNat:=by
    have:=val_set_take (l:=cs) (i:=n) (v:=r) (by omega)
    rw [← this,List.take_of_length_le (by simp;omega)]
  have e3:ys.take n=ys:=List.take_of_length_le (by omega)
  rw [e3] at h8
  rw [e1,e2]
  have ex:((x.toNat:Nat):Int)=x:=Int.toNat_of_nonneg hx0
  have er:((r.toNat:Nat):Int)=r:=Int.toNat_of_nonneg hr0
  simp only [Int.natCast_add,Int.natCast_mul,Int.natCast_pow,ex,er,Int.pow_succ]
  have hp:((18446744073709551616:Nat):Int)=18446744073709551616:=rfl
  rw [hp]
  generalize (18446744073709551616:Int) ^ n=p at *
  have e4:x+bw'*18446744073709551616=r+(bw+cy):=by omega
  have e5:p*x+bw'*(p*18446744073709551616)=p*r+(bw+cy)*p:=by
    have:=congrArg (fun t=>p*t) e4
    simp only [Int.mul_add] at this
    have a1:p*(bw'*18446744073709551616)=bw'*(p*18446744073709551616):=Int.mul_left_comm _ _ _
    have a3:(bw+cy)*p=p*bw+p*cy:=by rw [Int.mul_comm,Int.mul_add]
    rw [a3];omega
  omega
def GiveInv (xs ys:List Int) (i:Nat) (ov:Int) (cs:List Int):Prop :=
  cs.length=xs.length∧Dig cs∧0≤ov∧ov≤1∧(∀ j,i≤j→rd cs (j:Int)=rd xs (j:Int))∧(val (cs.take i):Int)+ov*(18446744073709551616:Int) ^ i=val (xs.take i)+val (ys.take i)
theorem GiveInv.start {xs:List Int} (ys:List Int) (h:Dig xs):GiveInv xs ys 0 0 xs:=⟨rfl,h,by omega,by omega,fun _ _=>rfl,by simp [val]⟩
theorem GiveInv.step {xs ys cs:List Int} {ov:Int} {i:Nat} (h:GiveInv xs ys i ov cs) (hx:i<xs.length) (hy:i<ys.length) {x y r ov':Int} (hrx:rd xs i=x) (hry:rd ys i=y) (hx0:0≤x) (hy0:0≤y) (hr0:0≤r) (hr1:r<18446744073709551616) (ho0:0≤ov') (ho1:ov'≤1) (e:x+y+ov=r+ov'*18446744073709551616) :
    GiveInv xs ys (i+1) ov' (cs.set i r):=by
  obtain ⟨h1,h2,h3,h4,h7,h8⟩:=h
  refine ⟨by simp [h1],h2.set i hr0 hr1,ho0,ho1,fun j hj=>?_,?_⟩
  · rw [rd_set_ne _ (by omega)];exact h7 j (by omega)
  · rw [val_take_succ hx,val_set_take (by omega),val_take_succ hy,hrx,hry]
    have ex:((x.toNat:Nat):Int)=x:=Int.toNat_of_nonneg hx0
    have ey:((y.toNat:Nat):Int)=y:=Int.toNat_of_nonneg hy0
    have er:((r.toNat:Nat):Int)=r:=Int.toNat_of_nonneg hr0
    simp only [Int.natCast_add,Int.natCast_mul,Int.natCast_pow,ex,ey,er,Int.pow_succ]
    have hp:((18446744073709551616:Nat):Int)=18446744073709551616:=rfl
    rw [hp]
    generalize (18446744073709551616:Int) ^ i=p at *
    have e4:p*r+ov'*(p*18446744073709551616)=p*x+p*y+ov*p:=by
      have:=congrArg (fun t=>p*t) e
      simp only [Int.mul_add] at this
      have a1:p*(ov'*18446744073709551616)=ov'*(p*18446744073709551616):=Int.mul_left_comm _ _ _
      have a2:ov*p=p*ov:=Int.mul_comm _ _
      rw [a2];omega
    omega
theorem GiveInv.top {xs ys cs:List Int} {ov:Int} {n:Nat} (h:GiveInv xs ys n ov cs) (hn:ys.length=n) (hx:xs.length=n+1) {x r ov':Int} (hrx:rd xs n=x) (hx0:0≤x) (hr0:0≤r) (hr1:r<18446744073709551616) (e:x+ov=r+ov'*18446744073709551616) :
    Dig (cs.set n r)∧(cs.set n r).length=n+1∧(val (cs.set n r):Int)+ov'*(18446744073709551616:Int) ^ (n+1)=val xs+val ys:=by
  obtain ⟨h1,h2,h3,h4,h7,h8⟩:=h
  refine ⟨h2.set n hr0 hr1,by simp [h1,hx],?_⟩
  have e1:val xs=val (xs.take n)+18446744073709551616 ^ n*x.toNat:=by
    have:=val_take_succ (l:=xs) (i:=n) (by omega)
    rw [hrx] at this;rw [← this,List.take_of_length_le (by omega)]
  have e2:val (cs.set n r)=val (cs.take n)+18446744073709551616 ^ n*r.toNat:=by
    have:=val_set_take (l:=cs) (i:=n) (v:=r) (by omega)
    rw [← this,List.take_of_length_le (by simp;omega)]
  have e3:ys.take n=ys:=List.take_of_length_le (by omega)
  rw [e3] at h8
  rw [e1,e2]
  have ex:((x.toNat:Nat):Int)=x:=Int.toNat_of_nonneg hx0
  have er:((r.toNat:Nat):Int)=r:=Int.toNat_of_nonneg hr0
  simp only [Int.natCast_add,Int.natCast_mul,Int.natCast_pow,ex,er,Int.pow_succ]
  have hp:((18446744073709551616:Nat):Int)=18446744073709551616:=rfl
  rw [hp]
  generalize (18446744073709551616:Int) ^ n=p at *
  have e5:p*r+ov'*(p*18446744073709551616)=p*x+ov*p:=by
    have:=congrArg (fun t=>p*t) e
    simp only [Int.mul_add] at this
    have a1:p*(ov'*18446744073709551616)=ov'*(p*18446744073709551616):=Int.mul_left_comm _ _ _
    have a2:ov*p=p*ov:=Int.mul_comm _ _
    rw [a2];omega
  omega
structure Guess2 (X Y B1:Nat) (g bw:Int) (v:Nat):Prop where
  b0:0≤bw
  b1:bw≤1
  g0:0≤g
  e:(X:Int)+bw*B1=v+g*Y
  up:(X:Int)<(g+1)*Y
theorem Guess2.done {X Y B1:Nat} {g:Int} {v:Nat} (h:Guess2 X Y B1 g 0 v):g=((X/Y:Nat):Int)∧v=X%Y:=by
  have h1:=h.e
  have h2:=h.up
  have h0:=h.g0
  obtain ⟨q,rfl⟩:=Int.eq_ofNat_of_zero_le h0
  rw [Int.zero_mul,Int.add_zero] at h1
  have h3:X=v+q*Y:=by
    have:((X:Nat):Int)=((v+q*Y:Nat):Int):=by rw [h1];simp
    exact Int.ofNat_inj.1 this
  have h4:X<(q+1)*Y:=by
    have:((X:Nat):Int)<(((q+1)*Y:Nat):Int):=by simpa using h2
    exact Int.ofNat_lt.1 this
  have h5:v<Y:=by rw [Nat.add_mul,Nat.one_mul] at h4;omega
  have hY:0<Y:=by omega
  subst h3
  constructor
  · rw [Nat.add_mul_div_right _ _ hY,Nat.div_eq_of_lt h5,Nat.zero_add]
  · rw [Nat.add_mul_mod_self_right,Nat.mod_eq_of_lt h5]
theorem Guess2.back {X Y B1:Nat} {g:Int} {v v':Nat} {ov:Int} (h:Guess2 X Y B1 g 1 v) (hv:v<B1) (ho0:0≤ov) (ho1:ov≤1) (e:(v':Int)+ov*B1=v+Y):1≤g∧Guess2 X Y B1 (g-1) (1-ov) v':=by
  have h1:=h.e
  have h2:=h.up
  have h0:=h.g0
  have hg:1≤g:=by
    rcases Int.lt_or_le g 1 with hk|hk
    · have:g=0:=by omega
      subst this
      rw [Int.zero_mul] at h1;omega
    · exact hk
  refine ⟨hg,⟨by omega,by omega,by omega,?_,?_⟩⟩
  · rw [Int.sub_mul,Int.sub_mul,Int.one_mul,Int.one_mul]
    rw [Int.one_mul] at h1
    omega
  · rw [show g-1+1=g by omega]
    rw [Int.one_mul] at h1
    omega
theorem Guess2.pos {X Y B1:Nat} {g:Int} {v:Nat} (h:Guess2 X Y B1 g 1 v) (hv:v<B1):1≤g:=by
  have h1:=h.e
  have h0:=h.g0
  rcases Int.lt_or_le g 1 with hk|hk
  · have:g=0:=by omega
    subst this
    rw [Int.zero_mul] at h1;omega
  · exact hk
theorem guess_up {xs ys:List Int} {n:Nat} (hdx:Dig xs) (hdy:Dig ys) (hx:xs.length=n+2) (hy:ys.length=n+1) {xt x1 yt:Int} (h1:rd xs ((n+1:Nat):Int)=xt) (h2:rd xs (n:Int)=x1) (h3:rd ys (n:Int)=yt) (hlt:xt<yt) :
    (val xs:Int)<((xt*18446744073709551616+x1)/yt+1)*val ys:=by
  have bx:=hdx.rd (i:=((n+1:Nat):Int)) (by omega) (by omega)
  have b1:=hdx.rd (i:=(n:Int)) (by omega) (by omega)
  have by':=hdy.rd (i:=(n:Int)) (by omega) (by omega)
  rw [h1] at bx;rw [h2] at b1;rw [h3] at by'
  have e1:val xs=val (xs.take n)+18446744073709551616 ^ n*(x1.toNat+18446744073709551616*xt.toNat):=by
    have a:=val_take_succ (l:=xs) (i:=n+1) (by omega)
    have b:=val_take_succ (l:=xs) (i:=n) (by omega)
    rw [h1,b,h2,List.take_of_length_le (by omega)] at a
    rw [a,Nat.pow_succ,Nat.mul_add,Nat.mul_assoc,Nat.add_assoc]
  have e2:val ys=val (ys.take n)+18446744073709551616 ^ n*yt.toNat:=by
    have a:=val_take_succ (l:=ys) (i:=n) (by omega)
    rw [h3,List.take_of_length_le (by omega)] at a;exact a
  have hl:val (xs.take n)<18446744073709551616 ^ n:=by
    have:=val_lt (hdx.take n);rwa [List.length_take,Nat.min_eq_left (by omega)] at this
  have hyt:0<yt:=by omega
  have hq:xt*18446744073709551616+x1+1≤((xt*18446744073709551616+x1)/yt+1)*yt:=by
    have:=Int.lt_ediv_add_one_mul_self (xt*18446744073709551616+x1) hyt
    omega
  generalize (xt*18446744073709551616+x1)/yt+1=q at *
  have hq0:0≤q:=by
    rcases Int.lt_or_le q 0 with hk|hk
    · have:=Int.mul_le_mul_of_nonneg_right (show q≤0 by omega) (Int.le_of_lt hyt);omega
    · exact hk
  obtain ⟨Q,rfl⟩:=Int.eq_ofNat_of_zero_le hq0
  obtain ⟨a,rfl⟩:=Int.eq_ofNat_of_zero_le bx.1
  obtain ⟨b,rfl⟩:=Int.eq_ofNat_of_zero_le b1.1
  obtain ⟨c,rfl⟩:=Int.eq_ofNat_of_zero_le by'.1
  simp only [Int.toNat_natCast] at e1 e2
  have hq':a*18446744073709551616+b+1≤Q*c:=by
    have:((a*18446744073709551616+b+1:Nat):Int)≤((Q*c:Nat):Int):=by simpa using hq
    exact Int.ofNat_le.1 this
  have hN:val xs<Q*val ys:=by
    rw [e1,e2,Nat.mul_add Q]
    generalize 18446744073709551616 ^ n=p at *
    have k1:p*(b+18446744073709551616*a)+p≤Q*(p*c):=by
      have:=Nat.mul_le_mul_left p hq'
      rw [show Q*(p*c)=p*(Q*c) from Nat.mul_left_comm _ _ _]
      rw [Nat.mul_add,Nat.mul_add,Nat.mul_one] at this
      rw [Nat.mul_add,Nat.mul_comm 18446744073709551616 a]
      omega
    omega
  have:((val xs:Nat):Int)<((Q*val ys:Nat):Int):=Int.ofNat_lt.2 hN
  simpa using this
end Go.Proofs.YtmnkaldemjdcoaaGreat.Limbs
end
section
set_option linter.unusedVariables false
namespace Go.Proofs.YtmnkaldemjdcoaaGreat.Limbs
open Go RowKit YtmnkaldemjdcoaaGreatW.PrintWords YtmnkaldemjdcoaaGreatW.PrintLast YtmnkaldemjdcoaaGreatW.PrintMore YtmnkaldemjdcoaaGreatW.Aid YtmnkaldemjdcoaaGreatW.Big YtmnkaldemjdcoaaGreat.BitsWalk Go.Proofs
theorem sub64_run (x y b:Int) (hx:0≤x) (hx1:x<18446744073709551616) (hy:0≤y) (hy1:y<18446744073709551616) (hb0:0≤b) (hb:b≤1) (w:World) :
    (callFunc 138 #[.int .u64 x,.int .u64 y,.int .u64 b]).run Tryz.prog w = .ok (.value (.tuple #[.int .u64 ((x-y-b)%18446744073709551616),.int .u64 (if x<y+b then 1 else 0)])) w:=by
  obtain ⟨X,rfl⟩:=Int.eq_ofNat_of_zero_le hx
  obtain ⟨Y,rfl⟩:=Int.eq_ofNat_of_zero_le hy
  obtain ⟨B,rfl⟩:=Int.eq_ofNat_of_zero_le hb0
  rw [run_callFunc_extern Tryz.func138 (by kernel_rfl) (by kernel_rfl) (by kernel_rfl) (e:=sub64Entry) (by kernel_rfl),run_sub64 X Y B (by omega)]
  simp only [Result.andThen]
  have e1:(((X+18446744073709551616-Y-B)%18446744073709551616:Nat):Int)=((X:Int)-Y-B)%18446744073709551616:=by omega
  have e2:((if X<Y+B then 1 else 0:Nat):Int)=if (X:Int)<(Y:Int)+(B:Int) then 1 else 0:=by
    by_cases h:X<Y+B
    · rw [if_pos h,if_pos (by omega)];rfl
    · rw [if_neg h,if_neg (by omega)];rfl
  rw [e1,e2]
def wnd (l:List Int) (i:Nat) (cs:List Int):List Int:=l.take i++cs++l.drop (i+cs.length)
theorem wnd_self {l:List Int} {i k:Nat} (h:i+k≤l.length):wnd l i ((l.drop i).take k)=l:=by
  unfold wnd
  have:((l.drop i).take k).length=k:=by simp;omega
  rw [this,List.append_assoc,← List.drop_drop,List.take_append_drop,List.take_append_drop]
theorem wnd_len {l cs:List Int} {i:Nat} (h:i+cs.length≤l.length):(wnd l i cs).length=l.length:=by
  unfold wnd;simp;omega
theorem wnd_rd {l cs:List Int} {i j:Nat} (h:i+cs.length≤l.length) (hj:j<cs.length):rd (wnd l i cs) ((i+j:Nat):Int)=rd cs (j:Int):=by
  rw [rd_nat (by rw [wnd_len h];omega),rd_nat hj]
  unfold wnd
  rw [List.getElem_append_left (by simp;omega),List.getElem_append_right (by simp;omega)]
  congr 1;simp;omega
theorem wnd_set {l cs:List Int} {i j:Nat} (v:Int) (h:i+cs.length≤l.length) (hj:j<cs.length):(wnd l i cs).set (i+j) v=wnd l i (cs.set j v):=by
  unfold wnd
  rw [List.set_append_left _ _ (by simp;omega),List.set_append_right _ _ (by simp;omega)]
  congr 2
  · congr 1;simp;omega
  · simp
theorem wnd_dig {l cs:List Int} {i:Nat} (h:Dig l) (h':Dig cs):Dig (wnd l i cs):=((h.take i).append h').append (h.drop _)
theorem blk_wcell {w:World} {g i j:Nat} {l cs:List Int} (hb:Blk w g (wnd l i cs)) (h:i+cs.length≤l.length) (hj:j<cs.length):w.cell? ⟨g,i+j,none⟩=some (.int .u64 (rd cs (j:Int))):=by
  have:=hb.cell (i:=i+j) (by rw [wnd_len h];omega)
  rwa [wnd_rd h hj] at this
theorem blk_wput {w:World} {g i j:Nat} {l cs:List Int} (hb:Blk w g (wnd l i cs)) (h:i+cs.length≤l.length) (hj:j<cs.length) (v:Int):Blk (w.setCell ⟨g,i+j,none⟩ (.int .u64 v)) g (wnd l i (cs.set j v)):=by
  rw [← wnd_set v h hj]
  exact hb.put (by rw [wnd_len h];omega) v
structure ButG (g:Nat) (w w':World):Prop where
  below:Below 0 w w'
  old:∀ k,k<w.heap.size→k≠g→w'.heap[k]?=w.heap[k]?
theorem ButG.refl (g:Nat) (w:World):ButG g w w:=⟨Below.refl _ _,fun _ _ _=>rfl⟩
theorem ButG.set {g:Nat} {w w':World} (h:ButG g w w') (i:Nat) (v:Value):ButG g w (w'.setCell ⟨g,i,none⟩ v) :=
  ⟨h.below.setCell (Nat.zero_le _) _,fun k hk hne=>by rw [Below.heap_setCell _ _ _ _ hne];exact h.old k hk hne⟩
theorem ButG.drewN {g n:Nat} {w w':World} (h:ButG g w w'):ButG g w (w'.drewN n):=⟨⟨h.below.os,h.below.tape,h.below.output,h.below.size,h.below.block⟩,h.old⟩
theorem ButG.drew {g:Nat} {w w':World} (h:ButG g w w'):ButG g w w'.drew:=⟨⟨h.below.os,h.below.tape,h.below.output,h.below.size,h.below.block⟩,h.old⟩
theorem ButG.rd {g:Nat} {w w':World} (h:ButG g w w') {l:List Int} {A:Option Addr} {c:Nat} (hr:Rd w l A c) (hA:∀ ad,A=some ad→ad.block≠g):Rd w' l A c:=by
  refine ⟨hr.1,hr.2.1,hr.2.2.1,fun hn=>?_⟩
  obtain ⟨ad,e,hc⟩:=hr.2.2.2 hn
  refine ⟨ad,e,fun j p hj=>?_⟩
  obtain ⟨cs,h1,h2,h3⟩:=hc j p hj
  refine ⟨cs,h1,h2,fun i u hu=>?_⟩
  have h4:=h3 i u hu
  have hb:=World.block_lt_of_cell? w _ h4
  have eb:(ad.add (j*(Kd.int .u64).sz+i)).block=ad.block:=by unfold Addr.add;split<;>rfl
  rw [World.cell?_of_block (w:=w) (h.old _ hb (by rw [eb];exact hA ad e))]
  exact h4
theorem take_limb {g y cy x bw:Int} (hg0:0≤g) (hg1:g<18446744073709551616) (hy0:0≤y) (hy1:y<18446744073709551616) (hc0:0≤cy) (hc1:cy<18446744073709551616) (hx0:0≤x) (hx1:x<18446744073709551616) (hb0:0≤bw) (hb1:bw≤1) :
    ∃ hi lo s1 o1 r b:Int,g*y/18446744073709551616=hi∧g*y%18446744073709551616=lo∧0≤lo∧(lo+cy+0)%18446744073709551616=s1∧(lo+cy+0)/18446744073709551616=o1∧0≤s1∧s1<18446744073709551616∧IntKind.u64.wrap (hi+o1)=hi+o1∧0≤hi+o1∧hi+o1<18446744073709551616 ∧
      (x-s1-bw)%18446744073709551616=r∧(if x<s1+bw then 1 else 0)=b∧0≤r∧r<18446744073709551616∧0≤b∧b≤1∧g*y+cy=s1+(hi+o1)*18446744073709551616∧x-s1-bw=r-b*18446744073709551616:=by
  have h1:g*y≤18446744073709551615*18446744073709551615:=Int.mul_le_mul (by omega) (by omega) hy0 (by omega)
  have h0:0≤g*y:=Int.mul_nonneg hg0 hy0
  refine ⟨_,_,_,_,_,_,rfl,rfl,?_,rfl,rfl,?_,?_,?_,?_,?_,rfl,rfl,?_,?_,?_,?_,?_,?_⟩<;>(generalize g*y=p at *)<;>(try rw [u64_wrap])<;>(try split)<;>omega
theorem top_limb {x cy bw:Int} (hx0:0≤x) (hx1:x<18446744073709551616) (hc0:0≤cy) (hc1:cy<18446744073709551616) (hb0:0≤bw) (hb1:bw≤1) :
    ∃ r b:Int,(x-cy-bw)%18446744073709551616=r∧(if x<cy+bw then 1 else 0)=b∧0≤r∧r<18446744073709551616∧0≤b∧b≤1∧x-cy-bw=r-b*18446744073709551616:=by
  refine ⟨_,_,rfl,rfl,?_,?_,?_,?_,?_⟩<;>(try split)<;>omega
theorem give_limb {x y ov:Int} (hx0:0≤x) (hx1:x<18446744073709551616) (hy0:0≤y) (hy1:y<18446744073709551616) (ho0:0≤ov) (ho1:ov≤1) :
    ∃ r o:Int,(x+y+ov)%18446744073709551616=r∧(x+y+ov)/18446744073709551616=o∧0≤r∧r<18446744073709551616∧0≤o∧o≤1∧x+y+ov=r+o*18446744073709551616:=by
  refine ⟨_,_,rfl,rfl,?_,?_,?_,?_,?_⟩<;>omega
end Go.Proofs.YtmnkaldemjdcoaaGreat.Limbs
end
section
set_option linter.unusedVariables false
namespace Go.Proofs.YtmnkaldemjdcoaaGreat.Limbs
open Go RowKit YtmnkaldemjdcoaaGreatW.PrintWords YtmnkaldemjdcoaaGreatW.PrintLast YtmnkaldemjdcoaaGreatW.PrintMore YtmnkaldemjdcoaaGreatW.Aid YtmnkaldemjdcoaaGreatW.Big YtmnkaldemjdcoaaGreat.BitsWalk Go.Proofs YtmnkaldemjdcoaaGreat.Long
section
set_option maxRecDepth 100000
set_option maxHeartbeats 4000000
theorem step_calls (l ys:List Int) (g i n:Nat) (A':Option Addr) (c c':Nat) (w:World) (hb:Blk w g l) (hdl:Dig l) (hdy:Dig ys) (hi:i+(n+1)≤l.length) (hn:1≤n) (hy:ys.length=n) (hm:l.length≤2000) (hr:Rd w ys A' c') (hA:∀ ad,A'=some ad→ad.block≠g) (hlt:val ((l.drop i).take (n+1))<18446744073709551616*val ys) :
    Calls Tryz.prog 134 #[.slice (some ⟨g,i,none⟩) ((n+1:Nat):Int).toNat c,.slice A' n c'] w fun e w'=>∃ cs,e = .returned (.int .u64 ((val ((l.drop i).take (n+1))/val ys:Nat):Int))∧cs.length=n+1∧Dig cs∧val cs=val ((l.drop i).take (n+1))%val ys∧Blk w' g (wnd l i cs)∧ButG g w w':=by
  subst hy
  obtain ⟨xs,hxs⟩:∃ xs,(l.drop i).take (ys.length+1)=xs:=⟨_,rfl⟩
  have hxl:xs.length=ys.length+1:=by rw [← hxs];simp;omega
  have hdx:Dig xs:=by rw [← hxs];exact (hdl.drop i).take _
  have hwx:wnd l i xs=l:=by rw [← hxs];exact wnd_self hi
  rw [hxs] at hlt ⊢
  clear hxs
  have hb':Blk w g (wnd l i xs):=by rw [hwx];exact hb
  obtain ⟨n,hn'⟩:∃ n,ys.length=n:=⟨_,rfl⟩
  obtain ⟨k,hk⟩:∃ k,n=k+1:=⟨n-1,by omega⟩
  have hr2:=hr.2
  rw [hn'] at hr2
  have HB:=Aside0.mk hb'
  have HR:=Aside0.mk hr
  have HA:=Aside0.mk hA
  have DX:=Aside0.mk hdx
  have DY:=Aside0.mk hdy
  have DL:=Aside0.mk hdl
  have HLT:=Aside0.mk hlt
  clear hb hb' hr hA hdx hdy hdl hlt hwx
  rw [show ((ys.length+1:Nat):Int).toNat=ys.length+1 from rfl]
  have hfx:=DX.out.rd (i:=(n:Int)) (by omega) (by omega)
  have hf1:=DX.out.rd (i:=(k:Int)) (by omega) (by omega)
  have hfy:=DY.out.rd (i:=(k:Int)) (by omega) (by omega)
  have hcx:w.cell? ⟨g,i+n,none⟩=some (.int .u64 (rd xs (n:Int))):=by
    have:=HB.out.cell (i:=i+n) (by rw [wnd_len (by omega)];omega)
    rwa [wnd_rd (by omega) (by omega)] at this
  have hc1:w.cell? ⟨g,i+k,none⟩=some (.int .u64 (rd xs (k:Int))):=by
    have:=HB.out.cell (i:=i+k) (by rw [wnd_len (by omega)];omega)
    rwa [wnd_rd (by omega) (by omega)] at this
  obtain ⟨ad,rfl,hcy⟩:=Kd.at_int hr2 (k:Int) (by omega) (by omega)
  clear hr2
  simp only [Int.toNat_natCast] at hcy
  generalize hX:rd xs (n:Int)=xt at *
  generalize hX1:rd xs (k:Int)=x1 at *
  generalize hYt:rd ys (k:Int)=yt at *
  rw [hn']
  have e1:(n:Int)-1=(k:Int):=by omega
  have hw1:IntKind.i64.wrap ((n:Int)-1)=(k:Int):=by rw [e1,IntKind.wrap_i64];omega
  have hw2:wrap64 ((n:Int)-1)=(k:Int):=by rw [e1];exact wrap64_id (by omega) (by omega)
  clear e1
  have hkn:k≤n:=by omega
  have hkl:k<n:=by omega
  have hnb:n≤2000:=by omega
  have z1:(n:Int)<(n:Int)+1:=by omega
  have z2:(k:Int)<(n:Int)+1:=by omega
  have z3:(k:Int)<(n:Int):=by omega
  have hib:i≤2000:=by omega
  have HK:=Aside0.mk (And.intro hn' hk)
  have HX:=Aside0.mk (And.intro hX (And.intro hX1 hYt))
  have HXL:=Aside0.mk (And.intro (show xs.length=n+1 by omega) (show i+(n+1)≤l.length by omega))
  clear hX hX1 hYt hn' hk hn hxl hi
  go_enter Tryz.func134,Tryz.ntmps134
  go_wp2_with fail
  go_region
  have key:∃ gq:Int,(if xt<yt then (xt*18446744073709551616+x1)/yt else 18446744073709551615)=gq∧0≤gq∧gq<18446744073709551616∧(val xs:Int)<(gq+1)*val ys:=by
    by_cases h:xt<yt
    · refine ⟨_,rfl,?_⟩
      rw [if_pos h]
      have h1:=hfx.1
      have h2:=hf1.1
      have hlt2:xt*18446744073709551616+x1<18446744073709551616*yt:=by have:=hf1.2;omega
      refine ⟨Int.ediv_nonneg (by omega) (by omega),Int.ediv_lt_of_lt_mul (by omega) (by omega),?_⟩
      exact guess_up DX.out DY.out (n:=k) (by have:=HK.out;have:=HXL.out;omega) (by have:=HK.out;omega) (by have:=HK.out.2;rw [← this];exact HX.out.1) HX.out.2.1 HX.out.2.2 h
    · refine ⟨_,rfl,?_⟩
      rw [if_neg h]
      have:=HLT.out
      omega
  obtain ⟨gq,hgq,hg0,hg1,hg2⟩:=key
  have HG:=Aside0.mk hg2
  have HGB:=Aside0.mk (And.intro hg0 hg1)
  have HGQ:=Aside0.mk hgq
  clear hg2 hgq hg0 hg1
  by_cases hlt1:xt<yt
  case' pos =>
    have DV:=fun w=>div64_calls xt x1 yt w hfx.1 hlt1 hf1.1 hf1.2 hfy.2
    have hq:(xt*18446744073709551616+x1)/yt=gq:=by have:=HGQ.out;rwa [if_pos hlt1] at this
    rw [hq] at DV
    go_wp2_with fail
    go_region_held3 (fun w'=>w'.cell? ⟨g,i+n,none⟩=some (.int .u64 xt)∧w'.cell? ⟨g,i+k,none⟩=some (.int .u64 x1)∧w'.cell? (ad.add k)=some (.int .u64 yt)) (first|exact ⟨hcx,hc1,hcy⟩) (first|(go_at_call 137;refine (DV _).mono ?_;rintro e w2 ⟨rfl,nd,rfl⟩;dsimp only))
    have HB0:=Aside0.mk (show Blk (w.drew.drew.drewN nd) g (wnd l i xs) from HB.out)
    have HW0:=Aside0.mk (show ButG g w (w.drew.drew.drewN nd) from ((ButG.refl g w).drew.drew).drewN)
  case' neg =>
    have hq:18446744073709551615=gq:=by have:=HGQ.out;rwa [if_neg hlt1] at this
    have HB0:=Aside0.mk (show Blk w.drew g (wnd l i xs) from HB.out)
    have HW0:=Aside0.mk (show ButG g w w.drew from (ButG.refl g w).drew)
    rw [hq]
    clear hq
    go_wp2_with fail
  all_goals (
    clear hcx hc1 hcy hlt1 hfx hf1 hfy z1 z2 z3 hw1 hw2
    (try go_wp2_with fail)
    go_loopw [7,8,46] (fun v7 v8 v46 wr=>∃ (j:Nat) (bw cy:Int) (cs:List Int),j≤n∧v46 = .int .i64 j∧v7 = .int .u64 bw∧v8 = .int .u64 cy∧Aside0 (TakeInv xs ys gq j bw cy cs)∧Aside0 (Blk wr g (wnd l i cs))∧Aside0 (ButG g w wr)) (fun _ _ v46 _=>n-(intOf v46).toNat)
    case atStart=>exact ⟨0,0,0,xs,by omega,rfl,rfl,rfl,⟨TakeInv.start ys gq DX.out⟩,HB0,HW0⟩
    case round =>
      clear HB0 HW0
      obtain ⟨j,bw,cy,cs,hj,rfl,rfl,rfl,hI,hblk,hB⟩:=hrel
      have hcl:=Aside0.mk (hI.out.1.trans HXL.out.1)
      by_cases hjl:j<n
      · have hrd:=(hB.out.rd HR.out HA.out).2
        rw [HK.out.1] at hrd
        obtain ⟨ad',had,hcell'⟩:=Kd.at_int hrd (j:Int) (by omega) (by omega)
        cases had
        clear hrd
        simp only [Int.toNat_natCast] at hcell'
        have hwl:=HXL.out.2
        have hy:=Aside0.mk (DY.out.rd (i:=(j:Int)) (by omega) (by have:=HK.out.1;omega))
        have hx:=Aside0.mk (DX.out.rd (i:=(j:Int)) (by omega) (by have:=HXL.out.1;omega))
        have hcw:wr.cell? ⟨g,i+j,none⟩=some (.int .u64 (rd xs (j:Int))):=by
          have h1:=hblk.out.cell (i:=i+j) (by rw [wnd_len (by have:=hcl.out;omega)];omega)
          rw [wnd_rd (by have:=hcl.out;omega) (by have:=hcl.out;omega)] at h1
          rw [← hI.out.2.2.2.2.2.2.1 j (Nat.le_refl _)];exact h1
        have hfz:=hblk.out.frozen (i+j)
        generalize hyy:rd ys (j:Int)=y at *
        generalize hxx:rd xs (j:Int)=x at *
        obtain ⟨mh,lo,s1,o1,r,b,t1,t2,t3,t4,t5,t6,t7,t8,t9,t10,t11,t12,t13,t14,t15,t16,t17,t18⟩:=take_limb HGB.out.1 HGB.out.2 hy.out.1 hy.out.2 hI.out.2.2.2.2.1 hI.out.2.2.2.2.2.1 hx.out.1 hx.out.2 hI.out.2.2.1 hI.out.2.2.2.1
        have fin:=Aside0.mk (hI.out.step (by have:=HXL.out.1;omega) (by have:=HK.out.1;omega) hxx hyy hx.out.1 hy.out.1 t13 t14 t15 t16 t9 t10 t17 t18)
        have MU:=mul64_calls gq y wr HGB.out.1 HGB.out.2 hy.out.1 hy.out.2
        rw [t1,t2] at MU
        have AD:=fun w=>add64_run lo cy 0 t3 hI.out.2.2.2.2.1 (by omega) (by omega) w
        simp only [t4,t5] at AD
        have SB:=fun w=>sub64_run x s1 bw hx.out.1 hx.out.2 t6 t7 hI.out.2.2.1 hI.out.2.2.2.1 w
        simp only [t11,t12] at SB
        have hput:=Aside0.mk (fun (w':World) (hb':Blk w' g (wnd l i cs))=>show Blk (w'.setCell ⟨g,i+j,none⟩ (.int .u64 r)) g (wnd l i (cs.set j r)) from by
          rw [← wnd_set r (by have:=hcl.out;omega) (by have:=hcl.out;omega)]
          exact hb'.put (by rw [wnd_len (by have:=hcl.out;omega)];omega) r)
        have MU:=Aside0.mk MU
        clear t1 t2 t3 t4 t5 t6 t7 t9 t10 t11 t12 t13 t14 t15 t16 t17 t18 hyy hxx hwl
        go_wp2_with fail
        refine MU.out.mono ?_
        rintro e w1 ⟨rfl,rfl⟩
        go_wp2
        go_roundw
        case rel=>exact ⟨j+1,_,_,_,by omega,by go_num,rfl,rfl,fin,⟨hput.out _ hblk.out⟩,⟨hB.out.set _ _⟩⟩
        case measure=>simp [intOf];omega
      · have hjn:n=j:=by omega
        subst hjn
        have hxr:=DX.out.rd (i:=(n:Int)) (by omega) (by have:=HXL.out.1;omega)
        rw [HX.out.1] at hxr
        have hcw:wr.cell? ⟨g,i+n,none⟩=some (.int .u64 xt):=by
          have h1:=blk_wcell hblk.out (j:=n) (by have:=hcl.out;have:=HXL.out.2;omega) (by have:=hcl.out;omega)
          rw [hI.out.2.2.2.2.2.2.1 n (Nat.le_refl _),HX.out.1] at h1;exact h1
        have hfz:=hblk.out.frozen (i+n)
        obtain ⟨r,b,t1,t2,t3,t4,t5,t6,t7⟩:=top_limb hxr.1 hxr.2 hI.out.2.2.2.2.1 hI.out.2.2.2.2.2.1 hI.out.2.2.1 hI.out.2.2.2.1
        have SB:=fun w=>sub64_run xt cy bw hxr.1 hxr.2 hI.out.2.2.2.2.1 hI.out.2.2.2.2.2.1 hI.out.2.2.1 hI.out.2.2.2.1 w
        simp only [t1,t2] at SB
        have hT:=Aside0.mk (hI.out.top HK.out.1 HXL.out.1 HX.out.1 hxr.1 t3 t4 t7)
        have hG0:=Aside0.mk (show Guess2 (val xs) (val ys) (18446744073709551616 ^ (n+1)) gq b (val (cs.set n r)) from ⟨t5,t6,HGB.out.1,by rw [Int.natCast_pow];exact hT.out.2.2,HG.out⟩)
        have hput:=Aside0.mk (fun (w':World) (hb':Blk w' g (wnd l i cs))=>blk_wput hb' (j:=n) (by have:=hcl.out;have:=HXL.out.2;omega) (by have:=hcl.out;omega) r)
        clear t1 t2 t3 t4 t5 t6 t7 hxr
        go_wp2_with fail
        go_loopw [6,7] (fun v6 v7 wr2=>∃ (gg bb:Int) (cs2:List Int),v6 = .int .u64 gg∧v7 = .int .u64 bb∧Aside0 (gg<18446744073709551616)∧Aside0 (Guess2 (val xs) (val ys) (18446744073709551616 ^ (n+1)) gg bb (val cs2))∧Aside0 (cs2.length=n+1∧Dig cs2)∧Aside0 (Blk wr2 g (wnd l i cs2))∧Aside0 (ButG g w wr2)) (fun v6 _ _=>(intOf v6).toNat)
        case atStart=>exact ⟨gq,b,cs.set n r,rfl,rfl,⟨HGB.out.2⟩,hG0,⟨hT.out.2.1,hT.out.1⟩,⟨hput.out _ hblk.out⟩,⟨hB.out.set _ _⟩⟩
        case round =>
          clear hcw hfz SB hT hG0 hput hblk hB hI hcl
          obtain ⟨gg,bb,cs2,rfl,rfl,hgl,hG,hC,hblk2,hB2⟩:=hrel
          by_cases hb0:bb=0
          · subst hb0
            have hD:=Aside0.mk hG.out.done
            go_wp2
            go_ret
            exact ⟨cs2,by rw [hD.out.1];rfl,hC.out.1,hC.out.2,hD.out.2,hblk2.out,hB2.out⟩
          · have hb1:bb=1:=by have:=hG.out.b0;have:=hG.out.b1;omega
            subst hb1
            have hv:=Aside0.mk (show val cs2<18446744073709551616 ^ (n+1) from by have:=val_lt hC.out.2;rwa [hC.out.1] at this)
            have hgg:=Aside0.mk (hG.out.pos hv.out)
            have hwg:IntKind.u64.wrap (gg-1)=gg-1:=wraps_u64 _ (by have:=hgg.out;omega) (by have:=hgl.out;have:=hgg.out;omega)
            go_wp2_with fail
            go_loopw [13,99] (fun v13 v99 wr3=>∃ (j:Nat) (ov:Int) (cs3:List Int),j≤n∧v99 = .int .i64 j∧v13 = .int .u64 ov∧Aside0 (GiveInv cs2 ys j ov cs3)∧Aside0 (Blk wr3 g (wnd l i cs3))∧Aside0 (ButG g w wr3)) (fun _ v99 _=>n-(intOf v99).toNat)
            case atStart=>exact ⟨0,0,cs2,by omega,rfl,rfl,⟨GiveInv.start ys hC.out.2⟩,hblk2,hB2⟩
            case round =>
              clear hblk2 hB2
              obtain ⟨j,ov,cs3,hj,rfl,rfl,hJ,hblk3,hB3⟩:=hrel
              have hcl3:=Aside0.mk (hJ.out.1.trans hC.out.1)
              by_cases hjl:j<n
              · have hrd:=(hB3.out.rd HR.out HA.out).2
                rw [HK.out.1] at hrd
                obtain ⟨ad',had,hcell'⟩:=Kd.at_int hrd (j:Int) (by omega) (by omega)
                cases had
                clear hrd
                simp only [Int.toNat_natCast] at hcell'
                have hy:=Aside0.mk (DY.out.rd (i:=(j:Int)) (by omega) (by have:=HK.out.1;omega))
                have hx:=Aside0.mk (hC.out.2.rd (i:=(j:Int)) (by omega) (by have:=hC.out.1;omega))
                have hcw:wr.cell? ⟨g,i+j,none⟩=some (.int .u64 (rd cs2 (j:Int))):=by
                  have h1:=blk_wcell hblk3.out (j:=j) (by have:=hcl3.out;have:=HXL.out.2;omega) (by have:=hcl3.out;omega)
                  rw [hJ.out.2.2.2.2.1 j (Nat.le_refl _)] at h1;exact h1
                have hfz:=hblk3.out.frozen (i+j)
                generalize hyy:rd ys (j:Int)=y at *
                generalize hxx:rd cs2 (j:Int)=x at *
                obtain ⟨r,o,t1,t2,t3,t4,t5,t6,t7⟩:=give_limb hx.out.1 hx.out.2 hy.out.1 hy.out.2 hJ.out.2.2.1 hJ.out.2.2.2.1
                have fin:=Aside0.mk (hJ.out.step (by have:=hC.out.1;omega) (by have:=HK.out.1;omega) hxx hyy hx.out.1 hy.out.1 t3 t4 t5 t6 t7)
                have AD:=fun w=>add64_run x y ov hx.out.1 hy.out.1 hJ.out.2.2.1 hJ.out.2.2.2.1 w
                simp only [t1,t2] at AD
                have hput:=Aside0.mk (fun (w':World) (hb':Blk w' g (wnd l i cs3))=>blk_wput hb' (j:=j) (by have:=hcl3.out;have:=HXL.out.2;omega) (by have:=hcl3.out;omega) r)
                clear t1 t2 t3 t4 t5 t6 t7 hyy hxx
                go_wp2_with fail
                go_region
                go_wp2
                go_roundw
                case rel=>exact ⟨j+1,_,_,by omega,by go_num,rfl,fin,⟨hput.out _ hblk3.out⟩,⟨(hB3.out.drew).set _ _⟩⟩
                case measure=>simp [intOf];omega
              · have hjn:n=j:=by omega
                subst hjn
                have hx:=Aside0.mk (hC.out.2.rd (i:=(n:Int)) (by omega) (by have:=hC.out.1;omega))
                have hcw:wr.cell? ⟨g,i+n,none⟩=some (.int .u64 (rd cs2 (n:Int))):=by
                  have h1:=blk_wcell hblk3.out (j:=n) (by have:=hcl3.out;have:=HXL.out.2;omega) (by have:=hcl3.out;omega)
                  rw [hJ.out.2.2.2.2.1 n (Nat.le_refl _)] at h1;exact h1
                have hfz:=hblk3.out.frozen (i+n)
                generalize hxx:rd cs2 (n:Int)=x at *
                obtain ⟨r,o,t1,t2,t3,t4,t5,t6,t7⟩:=give_limb (y:=0) hx.out.1 hx.out.2 (by omega) (by omega) hJ.out.2.2.1 hJ.out.2.2.2.1
                have hT:=Aside0.mk (hJ.out.top (ov':=o) HK.out.1 hC.out.1 hxx hx.out.1 t3 t4 (by omega))
                have AD:=fun w=>add64_run x 0 ov hx.out.1 (by omega) hJ.out.2.2.1 hJ.out.2.2.2.1 w
                simp only [t1,t2] at AD
                have hBk:=Aside0.mk (hG.out.back (v':=val (cs3.set n r)) (ov:=o) hv.out t5 t6 (by rw [Int.natCast_pow];exact hT.out.2.2))
                have hwo:IntKind.u64.wrap (1-o)=1-o:=wraps_u64 _ (by omega) (by omega)
                have hput:=Aside0.mk (fun (w':World) (hb':Blk w' g (wnd l i cs3))=>blk_wput hb' (j:=n) (by have:=hcl3.out;have:=HXL.out.2;omega) (by have:=hcl3.out;omega) r)
                clear t1 t2 t3 t4 t5 t6 t7 hxx
                go_wp2
                go_roundw
                case rel=>exact ⟨gg-1,1-o,cs3.set n r,rfl,rfl,⟨by have:=hgl.out;omega⟩,⟨hBk.out.2⟩,⟨hT.out.2.1,hT.out.1⟩,⟨hput.out _ hblk3.out⟩,⟨hB3.out.set _ _⟩⟩
                case measure=>simp [intOf];have:=hgg.out;omega)
end
end Go.Proofs.YtmnkaldemjdcoaaGreat.Limbs
end
section
set_option linter.unusedVariables false
namespace Go.Proofs.YtmnkaldemjdcoaaGreat.Limbs
open RowKit YtmnkaldemjdcoaaGreatW.PrintWords YtmnkaldemjdcoaaGreatW.PrintMore YtmnkaldemjdcoaaGreatW.Aid YtmnkaldemjdcoaaGreatW.Big
def QInv (X Y m:Nat) (j:Nat) (qs xl:List Int):Prop:=Dig qs∧Dig xl∧j≤qs.length∧xl.length=qs.length+m∧val (xl.drop j)<Y∧X=val (qs.drop j)*Y*18446744073709551616 ^ j+val xl
theorem val_td (l:List Int) (i:Nat) (h:i≤l.length):val l=val (l.take i)+18446744073709551616 ^ i*val (l.drop i):=by
  have:=val_append (l.take i) (l.drop i)
  rwa [List.take_append_drop,List.length_take,Nat.min_eq_left h] at this
theorem drop_zero {l:List Int} {Y m:Nat} (hl:val l<Y) (hY:Y<18446744073709551616 ^ m) (hm:m≤l.length):val (l.drop m)=0∧val (l.take m)=val l:=by
  have h:=val_td l m hm
  have h0:val (l.drop m)=0:=by
    rcases Nat.eq_zero_or_pos (val (l.drop m)) with h1|h1
    · exact h1
    · have:=Nat.mul_le_mul_left (18446744073709551616 ^ m) h1
      omega
  rw [h0,Nat.mul_zero] at h
  exact ⟨h0,by omega⟩
theorem QInv.win {X Y m i:Nat} {qs xl:List Int} (h:QInv X Y m (i+1) qs xl) (hY:Y<18446744073709551616 ^ m):i+(m+1)≤xl.length∧val ((xl.drop i).take (m+1))=val (xl.drop i)∧val ((xl.drop i).take (m+1))<18446744073709551616*Y∧val (xl.drop (i+(m+1)))=0:=by
  obtain ⟨h1,h2,h3,h4,h5,h6⟩:=h
  have hlen:i+(m+1)≤xl.length:=by omega
  obtain ⟨z1,z2⟩:=drop_zero h5 hY (by simp;omega)
  rw [List.drop_drop] at z1
  have z3:val (xl.drop (i+(m+1)))=0:=by rw [show i+(m+1)=i+1+m by omega];exact z1
  have e:=val_td (xl.drop i) (m+1) (by simp;omega)
  rw [List.drop_drop,z3,Nat.mul_zero,Nat.add_zero] at e
  have e2:=drop_val (b:=xl) (i:=i) (by omega)
  have hx:=(h2.rd (i:=(i:Int)) (by omega) (by omega)).2
  have hx0:=(h2.rd (i:=(i:Int)) (by omega) (by omega)).1
  refine ⟨hlen,e.symm,?_,z3⟩
  rw [← e,e2]
  have:18446744073709551616*(val (xl.drop (i+1))+1)≤18446744073709551616*Y:=Nat.mul_le_mul_left _ h5
  omega
theorem QInv.step {X Y m i:Nat} {qs xl cs:List Int} (h:QInv X Y m (i+1) qs xl) (hY:Y<18446744073709551616 ^ m) (hY0:0<Y) (hcl:cs.length=m+1) (hcd:Dig cs) (hcv:val cs=val ((xl.drop i).take (m+1))%Y):QInv X Y m i (qs.set i (((val ((xl.drop i).take (m+1))/Y:Nat):Int))) (wnd xl i cs):=by
  obtain ⟨w1,w2,w3,w4⟩:=h.win hY
  obtain ⟨h1,h2,h3,h4,h5,h6⟩:=h
  rw [w2] at w3 hcv ⊢
  have hq:val (xl.drop i)/Y<18446744073709551616:=Nat.div_lt_of_lt_mul (by rw [Nat.mul_comm];exact w3)
  have hdr:(wnd xl i cs).drop i=cs++xl.drop (i+cs.length):=by
    unfold wnd
    rw [List.append_assoc,List.drop_left' (by simp;omega)]
  have hv:val ((wnd xl i cs).drop i)=val cs:=by rw [hdr,val_append,hcl,w4,Nat.mul_zero,Nat.add_zero]
  have htk:(wnd xl i cs).take i=xl.take i:=by
    unfold wnd
    rw [List.append_assoc,List.take_left' (by simp;omega)]
  have hwl:(wnd xl i cs).length=xl.length:=wnd_len (by omega)
  refine ⟨h1.set i (Int.natCast_nonneg _) (show ((val (xl.drop i)/Y:Nat):Int)<((18446744073709551616:Nat):Int) from Int.ofNat_lt.2 hq),wnd_dig h2 hcd,by simp;omega,by rw [hwl];simp;omega,by rw [hv,hcv];exact Nat.mod_lt _ hY0,?_⟩
  have e1:=val_td (wnd xl i cs) i (by rw [hwl];omega)
  rw [htk,hv] at e1
  have e2:=val_td xl i (by omega)
  have e3:(qs.set i (((val (xl.drop i)/Y:Nat):Int))).drop i=(((val (xl.drop i)/Y:Nat):Int))::qs.drop (i+1):=set_drop_self (by omega)
  rw [e3,e1,hcv]
  rw [h6,e2]
  have e4:=Nat.div_add_mod (val (xl.drop i)) Y
  simp only [val,Int.toNat_natCast,Nat.pow_succ]
  generalize val (xl.drop i)/Y=q at *
  generalize val (xl.drop i)%Y=C at *
  generalize val (qs.drop (i+1))=D at *
  generalize val (xl.take i)=T at *
  rw [← e4]
  generalize 18446744073709551616 ^ i=p at *
  have k1:D*Y*(p*18446744073709551616)=18446744073709551616*D*Y*p:=by
    rw [← Nat.mul_assoc,Nat.mul_comm,← Nat.mul_assoc,← Nat.mul_assoc]
  have k2:p*(Y*q)=q*Y*p:=by rw [Nat.mul_comm Y q,Nat.mul_comm]
  rw [k1,Nat.mul_add,k2,Nat.add_mul,Nat.add_mul]
  omega
theorem QInv.done {X Y m:Nat} {qs xl:List Int} (h:QInv X Y m 0 qs xl) (hY:Y<18446744073709551616 ^ m):Dig qs∧val qs=X/Y∧Dig (xl.take m)∧val (xl.take m)=X%Y:=by
  obtain ⟨h1,h2,h3,h4,h5,h6⟩:=h
  rw [List.drop_zero] at h5 h6
  rw [Nat.pow_zero,Nat.mul_one] at h6
  obtain ⟨_,z2⟩:=drop_zero h5 hY (by omega)
  refine ⟨h1,?_,h2.take m,?_⟩
  · rw [h6,Nat.add_comm,Nat.add_mul_div_right _ _ (by omega),Nat.div_eq_of_lt h5,Nat.zero_add]
  · rw [z2,h6,Nat.add_comm,Nat.add_mul_mod_self_right,Nat.mod_eq_of_lt h5]
theorem limbs_ge {n m:Nat} (h:(limbs n).length=m+1):18446744073709551616 ^ m≤n:=by
  rcases Nat.lt_or_ge n (18446744073709551616 ^ m) with hk|hk
  · have:=limbs_len hk;omega
  · exact hk
theorem QInv.start {X Y m:Nat} (hm:(limbs Y).length=m+1) (hX:(limbs Y).length≤(limbs X).length):QInv X Y (m+1) ((limbs X).length+1-(m+1)) (List.replicate ((limbs X).length+1-(m+1)) 0) (limbs X++[0]):=by
  have hd:Dig (limbs X++[0]):=(limbs_dig X).append (fun x hx=>by simp at hx;subst hx;decide)
  refine ⟨Dig.zeros _,hd,by simp,by simp;omega,?_,?_⟩
  · rw [List.drop_append_of_le_length (by omega),val_append]
    have e:((limbs X).drop ((limbs X).length+1-(m+1))).length=m:=by simp;omega
    have h1:=val_lt ((limbs_dig X).drop ((limbs X).length+1-(m+1)))
    rw [e] at h1
    have h2:=limbs_ge hm
    simp only [val,Int.toNat_zero,Nat.mul_zero,Nat.add_zero]
    omega
  · rw [List.drop_of_length_le (by simp),val_append,val_limbs]
    simp [val]
theorem norm_len {b s:Nat} {m:Nat} (hm:(limbs b).length=m+1) (hs:((rd (limbs b) (m:Int)).toNat+1)*2 ^ s≤18446744073709551616):(limbs (b*2 ^ s)).length=m+1:=by
  have h1:=val_take_succ (l:=limbs b) (i:=m) (by omega)
  rw [List.take_of_length_le (by omega),val_limbs] at h1
  have h2:val ((limbs b).take m)<18446744073709551616 ^ m:=by
    have:=val_lt ((limbs_dig b).take m);rwa [List.length_take,Nat.min_eq_left (by omega)] at this
  have h3:b<18446744073709551616 ^ m*((rd (limbs b) (m:Int)).toNat+1):=by rw [Nat.mul_add,Nat.mul_one];omega
  have h4:b*2 ^ s<18446744073709551616 ^ (m+1):=by
    rw [Nat.pow_succ]
    have:=Nat.mul_lt_mul_of_pos_right h3 (Nat.two_pow_pos s)
    rw [Nat.mul_assoc] at this
    have:=Nat.mul_le_mul_left (18446744073709551616 ^ m) hs
    omega
  have h5:=limbs_len h4
  rcases Nat.lt_or_ge (limbs (b*2 ^ s)).length (m+1) with hk|hk
  · have h6:b*2 ^ s<18446744073709551616 ^ m:=Nat.lt_of_lt_of_le (lt_limbs _) (Nat.pow_le_pow_right (by decide) (by omega))
    have h7:=limbs_ge hm
    have h8:b≤b*2 ^ s:=Nat.le_mul_of_pos_right _ (Nat.two_pow_pos s)
    omega
  · omega
theorem top_pos {b m:Nat} (hm:(limbs b).length=m+1):0<rd (limbs b) (m:Int):=by
  have h1:=val_take_succ (l:=limbs b) (i:=m) (by omega)
  rw [List.take_of_length_le (by omega),val_limbs] at h1
  have h2:val ((limbs b).take m)<18446744073709551616 ^ m:=by
    have:=val_lt ((limbs_dig b).take m);rwa [List.length_take,Nat.min_eq_left (by omega)] at this
  have h0:=((limbs_dig b).rd (i:=(m:Int)) (by omega) (by omega)).1
  rcases Int.lt_or_le 0 (rd (limbs b) (m:Int)) with hk|hk
  · exact hk
  · have:rd (limbs b) (m:Int)=0:=by omega
    rw [this] at h1
    have:=limbs_ge hm
    simp at h1;omega
end Go.Proofs.YtmnkaldemjdcoaaGreat.Limbs
end
section
set_option linter.unusedVariables false
namespace Go.Proofs.YtmnkaldemjdcoaaGreat.Limbs
open RowKit YtmnkaldemjdcoaaGreatW.PrintWords YtmnkaldemjdcoaaGreatW.PrintLast YtmnkaldemjdcoaaGreatW.PrintMore YtmnkaldemjdcoaaGreatW.Aid YtmnkaldemjdcoaaGreatW.Big YtmnkaldemjdcoaaGreat.BitsWalk
def RetT (l:List Int) (w:World) (e:Ending) (w':World):Prop:=∃ A,e = .returned (.slice A l.length l.length)∧Rd w' l A l.length∧Below w.heap.size w w'
theorem Rd.full {w:World} {l:List Int} {A:Option Addr} {c:Nat} (h:Rd w l A c):Rd w l A l.length:=⟨Nat.le_refl _,h.2⟩
section
set_option maxRecDepth 100000
set_option maxHeartbeats 1000000
theorem trim_full (l:List Int) (A:Option Addr) (c:Nat) (w:World) (hd:Dig l) (hr:Rd w l A c):Calls Tryz.prog 126 #[.slice A l.length c] w (RetT (limbs (val l)) w):=by
  have HR:=Aside0.mk hr
  have HD:=Aside0.mk hd
  have hlen:l.length≤9223372036854775807:=hr.2.2.1
  have hle:=hr.1
  clear hr hd
  go_enter Tryz.func126,Tryz.ntmps126
  go_wp2_with fail
  go_loop [3] (fun v3=>∃ n:Nat,n≤l.length∧v3 = .int .i64 n∧Aside0 (∀ i,n≤i→i<l.length→rd l (i:Int)=0)) (fun v3=>(intOf v3).toNat)
  case atStart=>exact ⟨l.length,by omega,rfl,⟨fun i h1 h2=>by omega⟩⟩
  case round =>
    obtain ⟨n,hn,rfl,hz⟩:=hrel
    have last:(0<n→rd l ((n-1:Nat):Int)≠0)→Aside0 (l.take n=limbs (val l)):=fun ht=>⟨limbs_of_take HD.out hn hz.out ht⟩
    by_cases h0:n=0
    · subst h0
      have hl:=last (fun h=>by omega)
      clear last
      go_wp2
      go_ret
      exact ⟨A,by rw [← hl.out];rfl,Rd.full ((HR.out.pre (n:=0) (c':=0) (by omega) (Nat.le_refl _)).of_eq hl.out),Below.refl _ _⟩
    · obtain ⟨m,rfl⟩:∃ m,n=m+1:=⟨n-1,by omega⟩
      obtain ⟨ad,rfl,hcell⟩:=Kd.at_int HR.out.2 (m:Int) (by omega) (by omega)
      simp only [Int.toNat_natCast] at hcell
      have em:((m+1:Nat):Int)-1=(m:Int):=by omega
      by_cases hx:rd l (m:Int)=0
      · have hn0:Aside0 (∀ i,m≤i→i<l.length→rd l (i:Int)=0):=⟨fun i h1 h2=>by
          by_cases e:i=m
          · subst e;exact hx
          · exact hz.out i (by omega) h2⟩
        rw [hx] at hcell
        clear last hx
        go_wp2
        go_round
        case rel=>exact ⟨m,by omega,by go_num,hn0⟩
        case measure=>simp [intOf]
      · have hl:=last (fun _=>hx)
        have hxb:(rd l (m:Int) == 0)=false:=by simpa using hx
        clear last hx
        generalize rd l (m:Int)=x at *
        go_wp2
        go_ret
        have hlen2:(limbs (val l)).length=m+1:=by rw [← hl.out];simp;omega
        exact ⟨some ad,by rw [hlen2];rfl,Rd.full ((HR.out.pre (n:=m+1) (c':=m+1) (by omega) (Nat.le_refl _)).of_eq hl.out),Below.refl _ _⟩
theorem left_full (a:List Int) (n:Nat) (A:Option Addr) (c:Nat) (w:World) (hda:Dig a) (hr:Rd w a A c) (hla:a.length≤1000) (hn:n≤6400) :
    Calls Tryz.prog 111 #[.slice A a.length c,.int .i64 n] w (RetT (limbs (val a*2 ^ n)) w):=by
  have HR:=Aside0.mk hr
  have DA:=Aside0.mk hda
  clear hr hda
  obtain ⟨k,hk⟩:∃ k,n/64=k:=⟨_,rfl⟩
  obtain ⟨s,hs⟩:∃ s,n%64=s:=⟨_,rfl⟩
  by_cases h0:a.length=0
  · have hb:((a.length:Int) == 0)=true:=by simp [h0]
    have e:Aside0 (limbs (val a*2 ^ n)=[]):=⟨by rw [List.length_eq_zero_iff.1 h0];simp [val,limbs_zero]⟩
    go_enter Tryz.func111,Tryz.ntmps111
    go_wp2
    go_ret
    exact ⟨none,by rw [e.out];rfl,by rw [e.out];exact Rd.nil _,Below.refl _ _⟩
  · have hb:((a.length:Int) == 0)=false:=beq_eq_false_iff_ne.2 (by omega)
    have hki:(n:Int)/64=(k:Int):=by omega
    have hsi:(n:Int)%64=(s:Int):=by omega
    have hk100:k≤100:=by omega
    have hs64:s<64:=by omega
    have HN:Aside0 (n=64*k+s):=⟨by omega⟩
    clear hk hs hn
    have hmk:=fun w=>mk_run (a.length+k+1) (by omega) ((a.length:Int)+(k:Int)+1) (by omega) w
    go_enter Tryz.func111,Tryz.ntmps111
    go_wp2_with fail
    go_loopw [20] (fun v20 wr=>∃ (i:Nat) (cs:List Int),i≤a.length∧v20 = .int .i64 i∧Aside0 (LeftInv a k s i cs)∧Aside0 (Blk wr w.heap.size cs)∧Aside0 (Below w.heap.size w wr)) (fun v20 _=>a.length-(intOf v20).toNat)
    case atStart=>exact ⟨0,_,by omega,rfl,⟨LeftInv.start _ _ _⟩,⟨Blk.new w _⟩,⟨below_alloc (Below.refl _ _) _⟩⟩
    case round =>
      obtain ⟨i,cs,hi,rfl,hI,hblk,hB⟩:=hrel
      have hcl:=hI.out.1
      clear hmk
      by_cases hil:i<a.length
      · obtain ⟨ad,rfl,hcell⟩:=Kd.at_int (HR.out.below hB.out).2 (i:Int) (by omega) (by omega)
        simp only [Int.toNat_natCast] at hcell
        have hx:=Aside0.mk (DA.out.rd (i:=(i:Int)) (by omega) (by omega))
        have hfz:=hblk.out.frozen (i+k)
        have hcw:wr.cell? ⟨w.heap.size,i+k,none⟩=some (.int .u64 (rd cs ((i+k:Nat):Int))):=hblk.out.cell (by omega)
        have hfz':=hblk.out.frozen (i+k+1)
        have hcw':wr.cell? ⟨w.heap.size,i+k+1,none⟩=some (.int .u64 (rd cs ((i+k+1:Nat):Int))):=hblk.out.cell (by omega)
        generalize hxx:rd a i=x at *
        have hxx:=Aside0.mk hxx
        generalize hyy:rd cs ((i+k:Nat):Int)=y at *
        have hyy:=Aside0.mk hyy
        generalize hzz:rd cs ((i+k+1:Nat):Int)=z at *
        have hv:=Aside0.mk (left_parts hs64 hx.out.1 hx.out.2 (hyy.out ▸ (hI.out.2.1.rd (i:=((i+k:Nat):Int)) (by omega) (by omega)).1) (hyy.out ▸ hI.out.2.2.2.1))
        obtain ⟨v1,ev1⟩:∃ v1,Go.bits .or .u64 y (IntKind.u64.wrap (x*2 ^ s))=v1:=⟨_,rfl⟩
        obtain ⟨v2,ev2⟩:∃ v2,x/2 ^ (64-s)=v2:=⟨_,rfl⟩
        rw [ev1,ev2] at hv
        have fin:=Aside0.mk (hI.out.step hil hxx.out hyy.out hx.out.1 hv.out)
        go_wp2_with fail
        go_region
        go_wp2
        go_roundw
        case rel=>exact ⟨i+1,_,by omega,by go_num,fin,⟨((hblk.out.put (by omega) v1).drew).put (by simp;omega) v2⟩,⟨below_set (below_drew1 (below_set hB.out (Nat.le_refl _))) (Nat.le_refl _)⟩⟩
        case measure=>simp [intOf];omega
      · obtain rfl:i=a.length:=by omega
        have hfin:=Aside0.mk (hI.out.done HN.out)
        have hrd:=Aside0.mk (hblk.out.all (c:=a.length+k+1) (by omega) (by omega))
        go_wp2_with fail
        have h:=trim_full cs (some ⟨w.heap.size,0,none⟩) (a.length+k+1) _ hfin.out.1 hrd.out
        rw [hcl] at h
        refine h.mono ?_
        rintro e w2 ⟨A2,rfl,hr2,hB2⟩
        go_wp2
        go_ret
        exact ⟨A2,by rw [hfin.out.2];rfl,by rw [← hfin.out.2];exact hr2,hB.out.trans (hB2.mono hB.out.size)⟩
end
end Go.Proofs.YtmnkaldemjdcoaaGreat.Limbs
end
section
set_option linter.unusedVariables false
namespace Go.Proofs.YtmnkaldemjdcoaaGreat.Limbs
open Go RowKit YtmnkaldemjdcoaaGreatW.PrintWords YtmnkaldemjdcoaaGreatW.PrintLast YtmnkaldemjdcoaaGreatW.PrintMore YtmnkaldemjdcoaaGreatW.Aid YtmnkaldemjdcoaaGreatW.Big YtmnkaldemjdcoaaGreat.BitsWalk Go.Proofs YtmnkaldemjdcoaaGreat.Long
theorem inf64:∃ i,Tryz.prog.info? 94=some i∧i.zero=some (.int .u64 0)∧i.size=1∧i.bytes=8:=by
  have h:=info64
  cases hi:Tryz.prog.info? 94 with
  | none=>rw [hi] at h;cases h
  | some i =>
    rw [hi] at h
    simp only [Option.map_some,Option.some.injEq,Prod.mk.injEq] at h
    exact ⟨i,rfl,h.1,h.2.1,h.2.2⟩
theorem lz_facts {t:Int} (h0:0<t) (h1:t<18446744073709551616):∃ s:Nat,64-(Lib.bitLen t.toNat:Int)=(s:Int)∧s<64∧(t.toNat+1)*2 ^ s≤18446744073709551616:=by
  obtain ⟨a,b,c⟩:=Go.Lib.bitLenAux_bounds 64 t.toNat (by omega) (by omega)
  have d:Go.Lib.bitLen t.toNat≤64:=Go.Lib.bitLen_le t.toNat 64 (by omega) (by omega)
  have e:Go.Lib.bitLenAux 64 t.toNat=Go.Lib.bitLen t.toNat:=rfl
  rw [e] at a b c
  generalize Go.Lib.bitLen t.toNat=n at *
  refine ⟨64-n,by omega,by omega,?_⟩
  have h2:t.toNat+1≤2 ^ n:=by omega
  have h3:=Nat.mul_le_mul_right (2 ^ (64-n)) h2
  rw [← Nat.pow_add,show n+(64-n)=64 by omega] at h3
  exact h3
theorem Rd.cells {w:World} {l:List Int} {ad:Addr} {c:Nat} (h:Rd w l (some ad) c):∀ (j:Nat) (u:Value),(l.map (Value.int .u64))[j]?=some u→w.cell? (ad.add j)=some u:=by
  intro j u hj
  rw [List.getElem?_map,Option.map_eq_some_iff] at hj
  obtain ⟨x,hx,rfl⟩:=hj
  have hlt:=(List.getElem?_eq_some_iff.1 hx).1
  obtain ⟨ad',e,hc⟩:=Kd.at_int h.2 (j:Int) (by omega) (by omega)
  cases e
  rw [Int.toNat_natCast,rd_nat hlt] at hc
  rw [hc]
  have:=(List.getElem?_eq_some_iff.1 hx).2
  rw [this]
theorem grown_blk {w':World} {base:Nat} {v:Value} {n:Nat} {l:List Int} (h:w'.ownsRow base 94 1 v n (l.map (Value.int .u64))) (hn:0<n):∃ g cap,v = .slice (some ⟨g,0,none⟩) n cap∧base≤g∧n≤cap∧cap≤maxLen∧Blk w' g l:=by
  obtain ⟨h1,⟨rfl,rfl⟩|⟨g,cap,cur,rfl,hg,hh,hc,hm,hs,ht⟩⟩:=h
  · omega
  · refine ⟨g,cap,rfl,hg,hc,hm,(cur.toList.drop n).toArray,?_⟩
    rw [hh]
    congr 2
    have e:cur=(cur.toList.take n++cur.toList.drop n).toArray:=by rw [List.take_append_drop]
    rw [Nat.mul_one] at ht
    rw [ht] at e
    conv=>lhs;rw [e]
    simp [lc]
theorem ButG.trans {g:Nat} {w w1 w2:World} (h:ButG g w w1) (h2:ButG g w1 w2):ButG g w w2 :=
  ⟨h.below.trans h2.below,fun k hk hne=>(h2.old k (Nat.lt_of_lt_of_le hk h.below.size) hne).trans (h.old k hk hne)⟩
theorem ButG.setNew {g:Nat} {w w1:World} (h:ButG g w w1) {p:Addr} (hp:w.heap.size≤p.block) (u:Value):ButG g w (w1.setCell p u) :=
  ⟨h.below.setCell (Nat.zero_le _) _,fun k hk hne=>by rw [Below.heap_setCell _ _ _ _ (by omega)];exact h.old k hk hne⟩
theorem ButG.under {g:Nat} {w0 w w1:World} (h:Below w0.heap.size w0 w) (h2:ButG g w w1) (hg:w0.heap.size≤g):Below w0.heap.size w0 w1 :=
  h.trans ⟨h2.below.os,h2.below.tape,h2.below.output,h2.below.size,fun k hk=>h2.old k (Nat.lt_of_lt_of_le hk h.size) (by omega)⟩
theorem Blk.other {w:World} {g:Nat} {l:List Int} (h:Blk w g l) {p:Addr} (hp:g≠p.block) (u:Value):Blk (w.setCell p u) g l:=by
  obtain ⟨ex,e⟩:=h
  exact ⟨ex,by rw [Below.heap_setCell _ _ _ _ hp];exact e⟩
theorem Blk.but {w w':World} {g g':Nat} {l:List Int} (h:Blk w g l) (hb:ButG g' w w') (hne:g≠g'):Blk w' g l:=by
  have hl:=h.lt
  obtain ⟨ex,e⟩:=h
  exact ⟨ex,by rw [hb.old _ hl hne];exact e⟩
section
set_option maxRecDepth 100000
set_option maxHeartbeats 4000000
theorem div_calls_n (a b m:Nat) (A A':Option Addr) (c c':Nat) (w:World) (hr:Rd w (limbs a) A c) (hr':Rd w (limbs b) A' c') (hla:(limbs a).length≤800) (hlb:(limbs b).length=m+1) (hm:1≤m) :
    Calls Tryz.prog 125 #[.slice A (limbs a).length c,.slice A' (limbs b).length c'] w (DivRet (a/b) (a%b) w):=by
  have HR:=Aside0.mk hr
  have HR':=Aside0.mk hr'
  have CM:=Aside0.mk (cmp_calls a b A A' c c' w hr hr')
  clear hr hr'
  by_cases hlt:a<b
  · have e1:Aside0 (a/b=0∧a%b=a):=⟨Nat.div_eq_of_lt hlt,Nat.mod_eq_of_lt hlt⟩
    have e2:cmpR a b = -1:=if_pos hlt
    have hl0:Aside0 (limbs 0=[]):=⟨limbs_zero⟩
    rw [e2] at CM
    rw [e1.out.1,e1.out.2]
    have CL:=Aside0.mk (fun n=>clone_calls (limbs a) A c (w.drewN n) (HR.out.below (below_drewN1 (Below.refl _ _))) (by omega))
    clear e2 hlt hlb
    go_enter Tryz.func125,Tryz.ntmps125
    go_wp2_with fail
    refine CM.out.mono ?_
    rintro e w1 ⟨rfl,nd,rfl⟩
    go_wp2_with fail
    refine (CL.out nd).mono ?_
    rintro e w1 hcl
    obtain ⟨A2,c2,rfl,hr2,hB2⟩:=hcl.rd
    go_wp2
    go_ret2
    exact ⟨none,0,A2,c2,by rw [hl0.out];rfl,by rw [hl0.out];exact Rd.nil _,hr2,(below_drewN1 (Below.refl w.heap.size w)).trans hB2⟩
  · have e2 : cmpR a b = (if b < a then 1 else 0) := if_neg hlt
    obtain ⟨k,hk,hk0⟩:∃ k:Int,cmpR a b=k∧0≤k:=⟨_,rfl,by rw [e2];split<;>omega⟩
    have hkb:decide (k<0)=false:=decide_eq_false (by omega)
    rw [hk] at CM
    have HAB:=Aside0.mk hlt
    obtain ⟨n,hn⟩:∃ n,(limbs b).length=n:=⟨_,rfl⟩
    have hrb:=HR'.out.2
    rw [hn] at hrb CM
    have htop:=(limbs_dig b).rd (i:=(m:Int)) (by omega) (by omega)
    have htp:=top_pos hlb
    obtain ⟨ad,rfl,hcell⟩:=Kd.at_int hrb (m:Int) (by omega) (by omega)
    clear hrb
    simp only [Int.toNat_natCast] at hcell
    obtain ⟨s,hs,hs64,hsn⟩:=lz_facts htp htop.2
    have hYl:=norm_len hlb hsn
    generalize hT:rd (limbs b) (m:Int)=top at *
    have LZ:=fun w=>lead64_calls top w htop.1 htop.2
    rw [hs] at LZ
    have LZ:=Aside0.mk LZ
    have hYl9:(limbs b).length≤1000:=by
      rcases Nat.lt_or_ge (limbs a).length (limbs b).length with hh|hh
      · exact absurd (cmp_len hh) hlt
      · omega
    have LB:=Aside0.mk (fun w' (h:Below w.heap.size w w')=>left_full (limbs b) s (some ad) c' w' (limbs_dig b) (HR'.out.below h) hYl9 (by omega))
    have LA:=Aside0.mk (fun w' (h:Below w.heap.size w w')=>left_full (limbs a) s A c w' (limbs_dig a) (HR.out.below h) (by omega) (by omega))
    simp only [val_limbs] at LB LA
    rw [hn] at LB
    have hYg:=limbs_ge hlb
    have hlen1:(limbs b).length≤(limbs a).length:=by
      rcases Nat.lt_or_ge (limbs a).length (limbs b).length with hh|hh
      · exact absurd (cmp_len hh) hlt
      · exact hh
    obtain ⟨X,hX⟩:∃ X,a*2 ^ s=X:=⟨_,rfl⟩
    obtain ⟨Y,hY⟩:∃ Y,b*2 ^ s=Y:=⟨_,rfl⟩
    rw [hX] at LA
    rw [hY] at LB hYl
    obtain ⟨lx,hlx⟩:∃ lx,(limbs X).length=lx:=⟨_,rfl⟩
    have hXa:(limbs a).length≤lx:=by
      rw [← hlx]
      rcases Nat.lt_or_ge (limbs X).length (limbs a).length with hh|hh
      · have h1:=cmp_len hh
        have:=Nat.le_mul_of_pos_right a (Nat.two_pow_pos s)
        omega
      · exact hh
    have hXl:lx≤(limbs a).length+1:=by
      rw [← hlx]
      refine limbs_len ?_
      rw [← hX]
      have h1:=lt_limbs a
      have h2:(2:Nat) ^ s≤18446744073709551616 ^ 1:=by
        rw [Nat.pow_one]
        have:(2:Nat) ^ s≤2 ^ 64:=Nat.pow_le_pow_right (by decide) (by omega)
        exact this
      have h3:a*2 ^ s<18446744073709551616 ^ (limbs a).length*18446744073709551616 ^ 1:=Nat.lt_of_lt_of_le (Nat.mul_lt_mul_of_pos_right h1 (Nat.two_pow_pos s)) (Nat.mul_le_mul_left _ h2)
      rw [← Nat.pow_add] at h3
      exact h3
    rw [hn]
    have hw1:IntKind.i64.wrap ((n:Int)-1)=(m:Int):=by rw [IntKind.wrap_i64];omega
    have hw2:wrap64 ((n:Int)-1)=(m:Int):=by unfold wrap64;omega
    have hmn:m<n:=by omega
    have hone:decide ((n:Int)=1)=false:=decide_eq_false (by omega)
    have hn1:((n:Int) == 1)=false:=beq_eq_false_iff_ne.2 (by omega)
    obtain ⟨la,hla'⟩:∃ la,(limbs a).length=la:=⟨_,rfl⟩
    rw [hla'] at CM LA hXa hXl hlen1 hla ⊢
    have HF:=Aside0.mk (And.intro hn (And.intro hlb (And.intro hX (And.intro hY (And.intro hlx (And.intro hYl (And.intro hla' hs)))))))
    have hnb:n≤800:=by omega
    have hnla:n≤la:=by omega
    clear e2 hlt hk hk0 hsn htop htp hT hn hlb hX hY hlx hYl hYg hla' hs
    go_enter Tryz.func125,Tryz.ntmps125
    go_wp2_with fail
    refine CM.out.mono ?_
    rintro e w1 ⟨rfl,nd,rfl⟩
    have hcell1:(w.drewN nd).cell? (ad.add m)=some (.int .u64 top):=hcell
    have hB0:=Aside0.mk (below_drewN1 (n:=nd) (Below.refl w.heap.size w))
    clear hcell
    go_wp2_with fail
    refine (LZ.out _).mono ?_
    rintro e w1 ⟨rfl,rfl⟩
    go_wp2_with fail
    refine (LB.out _ hB0.out).mono ?_
    rintro e w2 ⟨Ay,rfl,hry,hBy⟩
    have hB1:=Aside0.mk (hB0.out.trans (hBy.mono hB0.out.size))
    go_wp2_with fail
    refine (LA.out _ hB1.out).mono ?_
    rintro e w3 ⟨Ax,rfl,hrx,hBx⟩
    have hlxE:(limbs X).length=lx:=HF.out.2.2.2.2.1
    have hlyE:(limbs Y).length=n:=by have:=HF.out.2.2.2.2.2.1;have:=HF.out.1;have:=HF.out.2.1;omega
    simp only [hlxE,hlyE]
    have hB2:=Aside0.mk (hB1.out.trans (hBx.mono hB1.out.size))
    have hry:=Aside0.mk (hry.below hBx)
    have hrx:=Aside0.mk hrx
    clear hBy hBx hcell1 hB0 hB1
    have HLE:=Aside0.mk (And.intro hlxE hlyE)
    clear hlxE hlyE
    obtain ⟨adx,hAx⟩:∃ ad,Ax=some ad:=by
      obtain ⟨ad,e,_⟩:=hrx.out.2.2.2 (by have:=HF.out.2.2.2.2.1;have:=HF.out.1;omega)
      exact ⟨ad,e⟩
    subst hAx
    obtain ⟨inf,hi,hi0,hi1,hi2⟩:=inf64
    have hrxA:=Aside0.mk (Rd.cells (hrx.out.below (below_alloc (Below.refl w3.heap.size w3) (.cells #[Value.int .u64 0] 94))))
    have hnewA:=Aside0.mk (show ∀ (j:Nat) (u:Value),([Value.int .u64 0]:List Value)[j]?=some u→(w3.alloc (.cells #[Value.int .u64 0] 94)).cell? ((⟨w3.heap.size,0,none⟩:Addr).add j)=some u from fun j u hj=>by
      have hj0:j=0:=by have:=(List.getElem?_eq_some_iff.1 hj).1;simpa using this
      subst hj0
      cases hj
      exact (blk_cell (blk_new w3 _) 0).trans rfl)
    go_wp2_with (first|(at_builtin;refine wpList_append_grows _ rfl (.tmp 44) (.tmp 45) 62 rfl 94 inf (.int .u64 0) 1 8 Tryz.underlying62 hi hi0 hi1 hi2 rfl (by decide) (some adx) lx lx ((limbs X).map (Value.int .u64)) rfl (fun h=>by cases h) (by simp [HLE.out.1]) (fun b hb j u hj=>by cases hb;exact hrxA.out j u hj) ⟨w3.heap.size,0,none⟩ 1 1 [Value.int .u64 0] rfl rfl hnewA.out (fun u hu=>by simp at hu;subst hu;rfl) (Nat.lt_succ_self _) (by simp only [maxLen];omega) (by omega) ?_;intro v4 w4 hown hgr))
    have hgrB:=Aside0.mk (Below.grown (below_alloc (Below.refl w3.heap.size w3) (.cells #[Value.int .u64 0] 94)) hgr (by rw [show (w3.alloc (.cells #[Value.int .u64 0] 94)).heap.size=w3.heap.size+1 from Array.size_push _];omega) (fun k h=>by cases h))
    obtain ⟨gx,capx,hv4,hgx,hcx1,hcx2,hbx⟩:=grown_blk (l:=limbs X++[0]) (by rw [List.map_append];exact hown) (by omega)
    subst hv4
    have hgx3:w3.heap.size≤gx:=by have:(w3.alloc (.cells #[Value.int .u64 0] 94)).heap.size=w3.heap.size+1:=Array.size_push _;omega
    have hgxw:w.heap.size≤gx:=Nat.le_trans hB2.out.size hgx3
    have hB3:=Aside0.mk (hB2.out.trans (hgrB.out.mono hB2.out.size))
    have hry4:=Aside0.mk (hry.out.below hgrB.out)
    have HAy:=Aside0.mk (show ∀ ad,Ay=some ad→ad.block≠gx from by
      intro ad' e
      subst e
      obtain ⟨ad2,e2,hc2⟩:=Kd.at_int hry.out.2 (0:Int) (by omega) (by have:=HLE.out.2;omega)
      cases e2
      have h1:=World.block_lt_of_cell? w3 _ hc2
      have h2:(ad'.add (0:Int).toNat).block=ad'.block:=by unfold Addr.add;split<;>rfl
      omega)
    have hbx:=Aside0.mk hbx
    have HGX:=Aside0.mk (And.intro hgxw (And.intro hcx1 hcx2))
    clear hown hgr hgrB hgx hgx3 hgxw hrx hrxA hnewA hry hB2 hcx2 hi hi0 hi1 hi2
    obtain ⟨nq,hnq⟩:∃ nq,lx+1-n=nq:=⟨_,rfl⟩
    have hq1:IntKind.i64.wrap ((lx:Int)+1-(n:Int))=(nq:Int):=by rw [IntKind.wrap_i64];omega
    have hq2:wrap64 ((lx:Int)+1-(n:Int))=(nq:Int):=by unfold wrap64;omega
    have hle:decide ((lx:Int)+1≤(la:Int))=false:=decide_eq_false (by omega)
    have hle2:¬ ((lx:Int)+1≤(la:Int)):=by omega
    have hmk:=fun w=>mk_run nq (by omega) (nq:Int) rfl w
    have hnqb:nq≤2000:=by omega
    have HNQ:=Aside0.mk (And.intro hnq (And.intro hXa hXl))
    clear hnq
    go_loopw [10] (fun v10 wr=>v10 = .slice (some ⟨gx,0,none⟩) (lx+1) capx∧w4=wr) (fun _ _=>0)
    case atStart=>exact ⟨rfl,rfl⟩
    case round =>
      obtain ⟨rfl,rfl⟩:=hrel
      go_wp2_with fail
      have hgq:w4.heap.size≠gx:=by have:=hbx.out.lt;omega
      have hgqw:w.heap.size≤w4.heap.size:=hB3.out.size
      go_loopw [11] (fun v11 wr=>∃ (j:Nat) (qs xl:List Int),v11 = .int .i64 ((j:Int)-1)∧j≤nq∧qs.length=nq∧Aside0 (QInv X Y n j qs xl)∧Aside0 (Blk wr w4.heap.size qs)∧Aside0 (Blk wr gx xl)∧Aside0 (ButG gx w4 wr)) (fun v11 _=>(intOf v11+1).toNat)
      case atStart =>
        refine ⟨nq,List.replicate nq 0,limbs X++[0],by go_num,Nat.le_refl _,by simp,⟨?_⟩,⟨Blk.new w4 _⟩,⟨hbx.out.below (below_alloc (Below.refl _ _) _)⟩,⟨⟨(below_alloc (Below.refl _ _) _).mono (Nat.zero_le _),fun k hk _=>Below.heap_alloc _ _ _ hk⟩⟩⟩
        have h1:=HF.out.2.2.2.2.2.1
        have h2:=HF.out.1
        have h3:=HF.out.2.1
        have h4:=HLE.out
        have h5:=QInv.start (X:=X) h1 (by omega)
        rw [h4.1] at h5
        have h6:=HNQ.out
        rw [show m+1=n by omega,h6.1] at h5
        exact h5
      case round =>
        obtain ⟨j,qs,xl,rfl,hj,hql,hI,hbq,hbx',hB⟩:=hrel
        have HY:=Aside0.mk (show Y<18446744073709551616 ^ n∧0<Y from by
          have h1:=lt_limbs Y
          rw [HLE.out.2] at h1
          refine ⟨h1,?_⟩
          rcases Nat.eq_zero_or_pos Y with h0|h0
          · have:=HLE.out.2;rw [h0,limbs_zero] at this;simp at this;omega
          · exact h0)
        have hrY:=Aside0.mk (hB.out.rd hry4.out HAy.out)
        rw [HLE.out.2] at hrY
        clear hmk
        have hxl:=Aside0.mk (show xl.length=lx+1 from by have:=hI.out.2.2.2.1;have:=HNQ.out.1;omega)
        cases j with
        | succ i =>
          have hb:decide ((0:Int)≤((i+1:Nat):Int)-1)=true:=decide_eq_true (by omega)
          have ei:((i+1:Nat):Int)-1=(i:Int):=by omega
          rw [ei]
          have hwin:=Aside0.mk (hI.out.win HY.out.1)
          have hiq:i<nq:=by omega
          have hin:i+n+1≤lx+1:=by have:=HNQ.out.1;omega
          have hincap:i+n+1≤capx:=by have:=HGX.out.2.1;omega
          have STEP:=Aside0.mk (fun w' c0 (h1:Blk w' gx xl) (h2:Rd w' (limbs Y) Ay n)=>step_calls xl (limbs Y) gx i n Ay c0 n w' h1 hI.out.2.1 (limbs_dig Y) (by have:=hxl.out;omega) (by omega) HLE.out.2 (by have:=hxl.out;omega) h2 HAy.out (by rw [val_limbs];exact hwin.out.2.2.1))
          rw [val_limbs] at STEP
          have hrl:i+n+1-i=n+1:=by omega
          clear hb ei
          go_wp2_with fail
          simp only [hrl]
          refine (STEP.out _ _ hbx'.out hrY.out).mono ?_
          rintro e w5 ⟨cs,rfl,hcl,hcd,hcv,hbx5,hbut⟩
          have HCS:=Aside0.mk (And.intro hcl (And.intro hcd hcv))
          have hbq5:=Aside0.mk (hbq.out.but hbut hgq)
          have hfz:=hbq5.out.frozen i
          have hcq:=hbq5.out.cell (i:=i) (by omega)
          have HBX5:=Aside0.mk hbx5
          have HBUT:=Aside0.mk hbut
          clear hcl hcd hcv hbx5 hbut
          go_wp2
          go_roundw
          case rel =>
            refine ⟨i,qs.set i _,wnd xl i cs,by go_num,by omega,by simp;omega,⟨hI.out.step HY.out.1 HY.out.2 HCS.out.1 HCS.out.2.1 HCS.out.2.2⟩,⟨hbq5.out.put (by omega) _⟩,⟨HBX5.out.other (Ne.symm hgq) _⟩,⟨(hB.out.trans HBUT.out).setNew (Nat.le_refl _) _⟩⟩
          case measure=>simp only [intOf];omega
        | zero =>
          have FIN:=Aside0.mk (hI.out.done HY.out.1)
          have hqv:=Aside0.mk (show X/Y=a/b from by rw [← HF.out.2.2.1,← HF.out.2.2.2.1];exact Nat.mul_div_mul_right _ _ (Nat.two_pow_pos s))
          have hrv:=Aside0.mk (show X%Y=(a%b)*2 ^ s from by rw [← HF.out.2.2.1,← HF.out.2.2.2.1];exact Nat.mul_mod_mul_right _ _ _)
          have hBr:=Aside0.mk (ButG.under hB3.out hB.out HGX.out.1)
          obtain ⟨ql,hqL⟩:∃ ql,(limbs (a/b)).length=ql:=⟨_,rfl⟩
          obtain ⟨rl,hrL⟩:∃ rl,(limbs (X%Y)).length=rl:=⟨_,rfl⟩
          have TQ:=Aside0.mk (fun w' (h:Below wr.heap.size wr w')=>show Calls Tryz.prog 126 #[.slice (some ⟨w4.heap.size,0,none⟩) nq nq] w' (fun e w6=>∃ A1,e = .returned (.slice A1 ql ql)∧Rd w6 (limbs (a/b)) A1 ql∧Below wr.heap.size wr w6) from by
            have h1:=trim_full qs (some ⟨w4.heap.size,0,none⟩) nq w' FIN.out.1 ((hbq.out.below h).all (by omega) (by omega))
            rw [hql] at h1
            refine h1.mono ?_
            rintro e w6 ⟨A1,rfl,hr6,hB6⟩
            rw [FIN.out.2.1,hqv.out] at hr6 ⊢
            rw [hqL] at hr6 ⊢
            exact ⟨A1,rfl,hr6,h.trans (hB6.mono h.size)⟩)
          have hnx:n≤xl.length:=by have:=hxl.out;omega
          have hncx:n≤capx:=by have:=HGX.out.2.1;omega
          have TX:=Aside0.mk (fun w' (h:Below wr.heap.size wr w')=>show Calls Tryz.prog 126 #[.slice (some ⟨gx,0,none⟩) n n] w' (fun e w6=>∃ A2,e = .returned (.slice A2 rl rl)∧Rd w6 (limbs (X%Y)) A2 rl∧Below wr.heap.size wr w6∧∀ (L:List Int) A c,Rd w' L A c→Rd w6 L A c) from by
            have h1:=trim_full (xl.take n) (some ⟨gx,0,none⟩) n w' FIN.out.2.2.1 ((hbx'.out.below h).rdn hnx (Nat.le_refl _) (by omega))
            rw [List.length_take,Nat.min_eq_left hnx] at h1
            refine h1.mono ?_
            rintro e w6 ⟨A1,rfl,hr6,hB6⟩
            rw [FIN.out.2.2.2] at hr6 ⊢
            rw [hrL] at hr6 ⊢
            exact ⟨A1,rfl,hr6,h.trans (hB6.mono h.size),fun L A c hR=>hR.below hB6⟩)
          have hrl8:rl≤1000:=by
            rw [← hrL]
            have h1:=limbs_len (Nat.lt_trans (Nat.mod_lt X HY.out.2) HY.out.1)
            omega
          have RG:=Aside0.mk (fun w' A2 (hA2:Rd w' (limbs (X%Y)) A2 rl) (h:Below wr.heap.size wr w')=>show Calls Tryz.prog 128 #[.slice A2 rl rl,.int .i64 s] w' (fun e w6=>∃ A3 c3,e = .returned (.slice A3 (limbs (a%b)).length c3)∧Rd w6 (limbs (a%b)) A3 c3∧Below wr.heap.size wr w6∧∀ (L:List Int) A c,Rd w' L A c→Rd w6 L A c) from by
            have h1:=right_calls (limbs (X%Y)) s A2 rl w' (limbs_dig _) hA2 (by omega) (by omega)
            rw [hrL] at h1
            refine h1.mono ?_
            rintro e w6 ⟨A3,c3,rfl,hr6,hB6⟩
            rw [val_limbs,hrv.out,Nat.mul_div_cancel _ (Nat.two_pow_pos s)] at hr6 ⊢
            exact ⟨A3,c3,rfl,hr6,h.trans (hB6.mono h.size),fun L A c hR=>hR.below hB6⟩)
          have HQL:=Aside0.mk hqL
          have HRL:=Aside0.mk hrL
          clear hqL hrL hrl8 hnx
          go_wp2_with fail
          go_region_held3 (fun w'=>Below wr.heap.size wr w') (first|assumption|exact below_drew1 (Below.refl _ _)) (first|(have hgo:=hr7;clear hgo;go_at_call 128;refine (RG.out _ _ hr7 (by assumption)).mono ?_;rintro e w8 ⟨A3,c3,rfl,hr8,hS8,hk8⟩;dsimp only)|(have hgo:=hr6;clear hgo;go_at_call 126;refine (TX.out _ (by assumption)).mono ?_;rintro e w7 ⟨A2,rfl,hr7,hS7,hk7⟩;dsimp only)|(go_at_call 126;refine (TQ.out _ (by assumption)).mono ?_;rintro e w6 ⟨A1,rfl,hr6,hS6⟩;dsimp only))
          go_wp2
          go_ret2
          exact ⟨A1,ql,A3,c3,by rw [HQL.out];rfl,hk8 _ _ _ (hk7 _ _ _ hr6),hr8,hBr.out.trans (hS8.mono hBr.out.size)⟩
end
end Go.Proofs.YtmnkaldemjdcoaaGreat.Limbs
end
section
set_option linter.unusedVariables false
set_option linter.unusedSimpArgs false
namespace Go.Proofs.YtmnkaldemjdcoaaGreat.Wh
open Go RowKit YtmnkaldemjdcoaaGreatW.PrintWords YtmnkaldemjdcoaaGreatW.PrintMore YtmnkaldemjdcoaaGreatW.PrintLast YtmnkaldemjdcoaaGreatW.Aid YtmnkaldemjdcoaaGreatW.Big YtmnkaldemjdcoaaGreatW.Sx YtmnkaldemjdcoaaGreat.BitsWalk YtmnkaldemjdcoaaGreat.Limbs YtmnkaldemjdcoaaGreat.Whole YtmnkaldemjdcoaaGreat.FxWalk Go.Proofs
theorem div_calls_all (a b:Nat) (A A':Option Addr) (c c':Nat) (w:World) (hr:Rd w (limbs a) A c) (hr':Rd w (limbs b) A' c') (hla:(limbs a).length≤800) (hb:0<b) :
    Calls Tryz.prog 125 #[.slice A (limbs a).length c,.slice A' (limbs b).length c'] w (DivRet (a/b) (a%b) w):=by
  by_cases h1:b<18446744073709551616
  · exact div_calls_word a b A A' c c' w hr hr' (Nat.le_trans hla (by decide)) hb h1
  · obtain ⟨m,hm⟩:∃ m,(limbs b).length=m+1:=⟨(limbs b).length-1,by
      have:(limbs b).length≠0:=fun h=>by
        have h2:=lt_limbs b
        rw [h] at h2
        simp at h2
        omega
      omega⟩
    refine div_calls_n a b m A A' c c' w hr hr' hla hm ?_
    have h2:=lt_limbs b
    rw [hm] at h2
    rcases Nat.eq_zero_or_pos m with h0|h0
    · rw [h0] at h2
      exact absurd (show b<18446744073709551616 by simpa using h2) h1
    · exact h0
def cDivNL:Con Tryz.prog:=conMM 125 (fun a b=>(limbs a).length≤800∧0<b) (fun a b => .tv (.tup [(false,[.mag ((a/b:Nat):Int)]),(false,[.mag ((a%b:Nat):Int)])])) ⟨_,Tryz.func125,by kernel_rfl,rfl⟩
  (fun a b A A' c c' w h hr hr'=>(div_calls_all a b A A' c c' w hr hr' h.1 h.2).mono fun _ _ ⟨A,c,A',c',he,hr,hr',hb⟩=>⟨_,he,⟨[_,_],rfl,.cons ⟨_,rfl,A,c,by rw [lm_nat],by rw [lm_nat];exact hr⟩ (.cons ⟨_,rfl,A',c',by rw [lm_nat],by rw [lm_nat];exact hr'⟩ .nil)⟩,hb⟩)
abbrev LenD (x:Int):Prop:=(lm x).length≤800
theorem LenD.to0 {x:Int} (h:LenD x):Len0 x:=Nat.le_trans h (by decide)
section
set_option maxRecDepth 100000
set_option maxHeartbeats 4000000
def cDivideL:Con Tryz.prog:=con2 105 (fun x y=>LenD x∧0<y∧LenD y) (fun x y => .tv (tQR (x/y) (x%y))) ⟨_,Tryz.func105,by kernel_rfl,rfl⟩ (fun x y A A' c c' w hl hr hr'=>by
  refine fn_ret (cxOk Tryz.prog ints_ok [] [cSub,cOne,cAdd,cDivNL,cOf]) follows Tryz.func105 rfl 100 _ rfl (by simp) ?_ (args2 hr hr')
  repeat' first
    | exact trivial
    | (refine And.intro (show regChk _ _ _ _ _=true from by kernel_rfl) (And.intro ?_ ?_))
    | (refine And.intro (fun hb=>?_) (fun hb'=>?_))
    | refine And.intro ?_ ?_
    | exact hl.1
    | exact hl.2.1
    | exact hl.2.2
    | exact rfl
    | exact Int.natAbs_pos.2 (by omega)
    | exact len_ofS (dv1 hl.2.1 hb).2.2.1 hl.1.to0
    | exact len_ofS (dv1 hl.2.1 hb).2.2.2 hl.2.2.to0
    | exact hl.2.2.to0
    | exact len_1
    | exact qr_eq (dv1 hl.2.1 hb).1 (dv1 hl.2.1 hb).2.1
    | exact qr_eq (dv2 hl.2.1 hb').1 (dv2 hl.2.1 hb').2
    | (intro hc;exact beq_iff_eq.2 hc)
    | exact beq_iff_eq.2 (by assumption)
    | intro _
    | assumption)
def cDownL:Con Tryz.prog:=con2 79 (fun x y=>LenD x∧0<y∧LenD y) (fun x y => .tv (tI (x/y))) ⟨_,Tryz.func79,by kernel_rfl,rfl⟩ (fun x y A A' c c' w hl hr hr'=>by
  refine fn_ret (cxOk Tryz.prog ints_ok [] [cDivideL]) follows Tryz.func79 rfl 100 _ rfl (by simp) ?_ (args2 hr hr')
  repeat' first
    | exact trivial
    | (refine And.intro (show regChk _ _ _ _ _=true from by kernel_rfl) (And.intro ?_ ?_))
    | refine And.intro ?_ ?_
    | exact hl.1
    | exact hl.2.1
    | exact hl.2.2
    | exact rfl)
theorem len3 {x:Int} (h0:0≤x) (h:x<6277101735386680763835789423207666416102355444464034512896):(lm x).length≤3:=limbs_len (k:=3) (by show x.natAbs<6277101735386680763835789423207666416102355444464034512896;omega)
def cNearestU:Con Tryz.prog:=con2 41 (fun n d=>(0≤n∧n<6277101735386680763835789423207666416102355444464034512896)∧(0<d∧d<340282366920938463463374607431768211456)∧n/d<1329227995784915872903807060280344576) (fun n d => .tv (tI (nearR n d))) ⟨_,Tryz.func41,by kernel_rfl,rfl⟩ (fun n d A A' c c' w hl hr hr'=>by
  obtain ⟨⟨h0,hn⟩,⟨hd,hd'⟩,hq⟩:=hl
  have q:0≤n/d∧n/d<1329227995784915872903807060280344576:=⟨Int.ediv_nonneg h0 (by omega),hq⟩
  have s:=isq_le q.1 q.2
  have l1:Len0 (isq (n/d)):=len_128 s.1 (by omega)
  have l2:Len0 (isq (n/d)*2 ^ Int.toNat 1):=len_128 (by show 0≤_*2;omega) (by show _*2<(_:Int);omega)
  have l4:(lm (isq (n/d)*2 ^ Int.toNat 1+1)).length≤2:=len2 (by show 0≤_*2+1;omega) (by show _*2+1<(_:Int);omega)
  have l3:Len0 (isq (n/d)*2 ^ Int.toNat 1+1):=Nat.le_trans l4 (by decide)
  have l5:Len0 ((isq (n/d)*2 ^ Int.toNat 1+1)*(isq (n/d)*2 ^ Int.toNat 1+1)):=Nat.le_trans (len_mul _ _) (by omega)
  have l6:(lm d).length≤2:=len2 (by omega) hd'
  have l9:LenD d:=Nat.le_trans l6 (by decide)
  have l8:LenD n:=Nat.le_trans (len3 h0 hn) (by decide)
  have l7:Len0 n:=l8.to0
  refine fn_ret (cxOk Tryz.prog ints_ok [] [cFloor,cDownL,cLeft,cOne,cAdd,cMul,cCmp,cEven]) follows Tryz.func41 rfl 100 _ rfl (by simp) ?_ (args2 hr hr')
  repeat' first
    | exact trivial
    | (refine And.intro (show regChk _ _ _ _ _=true from by kernel_rfl) (And.intro ?_ ?_))
    | (refine And.intro (fun hb=>?_) (fun hb'=>?_))
    | refine And.intro ?_ ?_
    | intro _
  all_goals first
    | (show (_:Int)=(_:Int);rfl)
    | (show LenD _;first|exact l8|exact l9)
    | (show Len0 _;first|exact l7|exact l1|exact l2|exact l3|exact l5|exact len_1)
    | (show List.length _<24;first|exact Nat.lt_of_le_of_lt l6 (by decide)|exact Nat.lt_of_le_of_lt l4 (by decide))
    | (show (0:Int)≤(1:Int);decide)
    | (show (0:Int)≤(2:Int);decide)
    | (show (_:Int)≤6400;decide)
    | exact q.1
    | exact q.2
    | exact hd
    | exact hd'
    | (show some (CR.tv (tI _))=some (CR.tv (tI _));first|exact wh_eq (near1 (by assumption))|exact wh_eq (near0 (by assumption)))
    | (show (_:Bool)=(_:Bool);first|assumption|exact beq_iff_eq.2 (by assumption)|exact g2 (by assumption) (by assumption)))
end
end Go.Proofs.YtmnkaldemjdcoaaGreat.Wh
end
