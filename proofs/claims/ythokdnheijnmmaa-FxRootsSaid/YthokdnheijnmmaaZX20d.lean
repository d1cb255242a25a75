/- The row of FxRoots, out of its law over numbers and the printed walk: for every argument that reads as data the call returns true and leaves the argument as it was. -/
import Derived.Test.YthokdnheijnmmaaZX20c
import Derived.Test.YthokdnheijnmmaaProg
import Derived.Below
import Derived.Deep.Draws
import Derived.Deep.AppendLies
import Derived.Maps.AppendAt
import Derived.OwnWalk
import Derived.Laws.BytesArg
import Derived.Laws.MakeOwn
import Derived.Laws.OwnMore
import Derived.Deep.OwnRows
import Derived.Tactics
import Derived.Lib.ConvBytes
import Derived.Laws.Slices
import Derived.WalkKit
import Derived.KernelRfl
import Derived.RowKit3
import Derived.Deep.LoopGhost
import Derived.Deep.QuietTactic
import Derived.BigQuiet
import Derived.WideLaws
import Derived.Deep.DeepCutAuto
import Derived.Deep.CutBlock
import Derived.Deep.RegionHeld3
import Derived.Laws.Rows
import Derived.Lib.AppendStr
import Derived.ArgAppend
import Derived.Laws.IdiomCopy
import Derived.OrdersHeld
import Derived.Laws.BitsLemmas
import Derived.RowKit
import Derived.Test.YthokdnheijnmmaaWWords
import Derived.Test.YthokdnheijnmmaaWLast
import Derived.Test.YthokdnheijnmmaaWTab
import Derived.Test.YthokdnheijnmmaaWQPut
import Derived.Test.YthokdnheijnmmaaWApart
import Derived.Test.YthokdnheijnmmaaWArr
import Derived.Test.YthokdnheijnmmaaWZeros
import Derived.Test.YthokdnheijnmmaaWFoot
import Derived.Test.YthokdnheijnmmaaWKept
import Derived.Test.YthokdnheijnmmaaWShare
import Derived.Test.YthokdnheijnmmaaWN
import Derived.Laws.StructEq
import Derived.Test.YthokdnheijnmmaaWRepsOne
import Derived.Test.YthokdnheijnmmaaWGuard
import Derived.Test.YthokdnheijnmmaaWNEv
import Derived.Test.YthokdnheijnmmaaWMore
import Derived.Deep.Slices
import Derived.Deep.Fields
import Derived.SizedLaws
import Derived.ChangeArms
import Derived.Test.YthokdnheijnmmaaRows
import Derived.ProofKit
import Derived.OpenShut
import Derived.ShutString
import Derived.ChangeOld
import Derived.Carry
section
set_option linter.unusedVariables false
set_option linter.unusedSimpArgs false
namespace Go.Proofs.Ythokdnheijnmmaa.Wh
open Go Go.RowKit Go.Proofs.YthokdnheijnmmaaW.PrintWords Go.Proofs.YthokdnheijnmmaaW.PrintMore Go.Proofs.YthokdnheijnmmaaW.Aid Go.Proofs.YthokdnheijnmmaaW.Big Go.Proofs.YthokdnheijnmmaaW.Sx Go.Proofs.Ythokdnheijnmmaa.BitsWalk Go.Proofs.Ythokdnheijnmmaa.Limbs Go.Proofs.Ythokdnheijnmmaa.Whole Go.Proofs.Ythokdnheijnmmaa.FxWalk Go.Proofs
abbrev tNN (z e:Int):TV := .tup [(false,[.v (.int .i64 z)]),(false,[.v (.int .i64 e)])]
theorem nn_eq {z z' b b':Int} (h:(z,b)=(z',b')):(some (CR.tv (tNN z b)):Option CR)=some (CR.tv (tNN z' b')):=by cases h;rfl
def toldR (x:Int):Int × Int:=if wd x=true then (x,0) else (0,2)
theorem told0 {x:Int} (h:(!(smallI x).2)=true):((0:Int),(2:Int))=((toldR x).1,(toldR x).2):=by
  unfold smallI at h
  split at h
  · cases h
  · unfold toldR
    rw [if_neg]
    rw [wd_iff];omega
theorem told1 {x:Int} (h:(!(smallI x).2)=false):((wordR (smallI x).1).1,(wordR (smallI x).1).2)=((toldR x).1,(toldR x).2):=by
  unfold smallI at h ⊢
  split
  · rfl
  · rename_i hc;rw [if_neg hc] at h;cases h
def I64 (n:Int):Prop := -9223372036854775808≤n∧n<9223372036854775808
section
set_option maxRecDepth 100000
set_option maxHeartbeats 1000000
def cGood:Con Try.prog:=conN 54 (fun _=>True) (fun v => .tv (tB (wd v))) ⟨_,Try.func54,by kernel_rfl,rfl⟩ (fun n w hl =>
  Ret.val ((good_calls n w).mono fun _ _ ⟨he,hw⟩=>⟨he,by rw [← hw];exact Below.refl _ _⟩))
def cWord:Con Try.prog:=conN 78 (fun _=>True) (fun v => .tv (tNN (wordR v).1 (wordR v).2)) ⟨_,Try.func78,by kernel_rfl,rfl⟩ (fun n w hl =>
  (word_calls n w).mono fun _ _ ⟨he,hw⟩=>⟨_,he,⟨[_,_],rfl,.cons ⟨_,rfl,rfl⟩ (.cons ⟨_,rfl,rfl⟩ .nil)⟩,by rw [← hw];exact Below.refl _ _⟩)
def cTold:Con Try.prog:=con1 47 (fun x=>True) (fun x => .tv (tNN (toldR x).1 (toldR x).2)) ⟨_,Try.func47,by kernel_rfl,rfl⟩ (fun x A c w hl hr=>by
  refine fn_ret (cxOk Try.prog ints_ok [] [cSmall,cWord]) follows Try.func47 rfl 100 _ rfl (by simp) ?_ (args1 hr)
  repeat' first
    | exact trivial
    | (refine And.intro (show regChk _ _ _ _ _=true from by kernel_rfl) (And.intro ?_ ?_))
    | (refine And.intro (fun hb=>?_) (fun hb'=>?_))
    | refine And.intro ?_ ?_
    | intro _
  all_goals first
    | (show (_:Int)=(_:Int);rfl)
    | (show some (CR.tv (tNN _ _))=some (CR.tv (tNN _ _));first|exact nn_eq (told0 (by assumption))|exact nn_eq (told1 (by assumption))))
def intsOf:List A0→Option (List Int)
  | []=>some []
  | .v (.int .i64 n)::r=>match intsOf r with
    | some l=>some (n::l)
    | none=>none
  | _::_=>none
theorem intsOf_get:∀ {cs:List A0} {l:List Int},intsOf cs=some l→cs=l.map fun n=>A0.v (.int .i64 n)
  | [],l,h=>by cases h;rfl
  | c :: r, l, h => by
    unfold intsOf at h
    split at h
    · rename_i e;cases e
    · rename_i n r' e
      cases e
      split at h
      · rename_i l' h';cases h;rw [intsOf_get h'];rfl
      · cases h
    · cases h
theorem row_ints {w:World} {n:Nat} {cs:List A0} {l:List Int} {u:Value} {β:Nat→Nat} {b:Nat} (h:(TV.row n cs).reads β b w u) (hi:intsOf cs=some l) (hn:n=cs.length) (hs:n≤1000):∃ A c,u = .slice A l.length c∧Kd.C (Kd.int .i64) w A l.length l:=by
  obtain ⟨A,c,rfl,hc,hh⟩:=h
  have e:=intsOf_get hi
  have hl:cs.length=l.length:=by rw [e];simp
  refine ⟨A,c,by rw [hn,hl],rfl,by omega,fun h0=>?_⟩
  obtain ⟨ad,rfl,_,hcs⟩:=hh (by omega)
  refine ⟨ad,rfl,fun j p hj=>⟨[.int .i64 p],rfl,rfl,fun i u hu=>?_⟩⟩
  have hi0:i=0:=by
    cases i with
    | zero=>rfl
    | succ i=>simp at hu
  subst hi0
  simp at hu
  subst hu
  obtain ⟨x,hx,hr⟩:=hcs j (.v (.int .i64 p)) (by rw [e,List.getElem?_map,hj];rfl)
  rw [show x=_ from hr] at hx
  rw [show j*(Kd.int .i64).sz+0=j from by show j*1+0=_;omega]
  exact hx
def cAll:Con Try.prog where
  f:=44
  sem := fun xs => match xs with
    | [.row n cs]=>match intsOf cs with
      | some l=>some (n=cs.length∧n≤1000,.tv (tB (allw l)))
      | none=>none
    | _=>none
  ok := by
    intro xs p r' h hp
    refine ⟨⟨_,Try.func44,by kernel_rfl,rfl⟩,fun us w ha=>?_⟩
    split at h
    · rename_i n cs
      split at h
      · rename_i l hi
        cases h
        obtain ⟨u,rfl,h1⟩:=all2_1 ha
        obtain ⟨A,c,rfl,hC⟩:=row_ints h1 hi hp.1 hp.2
        exact Ret.val ((all_calls l A c w hC).mono fun _ _ ⟨he,hw⟩=>⟨he,by rw [← hw];exact Below.refl _ _⟩)
      · cases h
    · cases h
end
end Go.Proofs.Ythokdnheijnmmaa.Wh
end
section
set_option linter.unusedVariables false
namespace Go.Proofs.Ythokdnheijnmmaa.FxWalk
open Go.RowKit Go.Proofs.YthokdnheijnmmaaW.PrintWords Go.Proofs.YthokdnheijnmmaaW.PrintLast Go.Proofs.YthokdnheijnmmaaW.PrintMore Go.Proofs.YthokdnheijnmmaaW.Aid Go.Proofs.Ythokdnheijnmmaa.BitsWalk
theorem quiet {P:Program} {f:FuncId} {args:Array Value} {w:World} {n:Nat} {v:Value} (h:Calls P f args (w.drewN n) fun e w'=>e = .returned v∧w.drewN n=w') :
    Calls P f args (w.drewN n) fun e w''=>e = .returned v∧∃ m,w''=w.drewN m:=Calls.quiet_of_same (h.mono fun _ _ ⟨a,b⟩=>⟨a,b.symm⟩)
def ab (a:Int):Int:=(a.natAbs:Int)
theorem ab_bd {a:Int} (h:wd a=true):0≤ab a∧ab a<35184372088832:=by
  rw [wd_iff] at h
  unfold ab
  omega
def rnd30 (P:Int):Int:=P/1073741824+(if P%1073741824>536870912∨(P%1073741824=536870912∧P/1073741824%2=1) then 1 else 0)
def signR (neg:Bool) (q:Int):Int × Int:=if q<35184372088832 then (if neg=true then -q else q,0) else (0,2)
def timesR (a b:Int):Int × Int:=signR (!(decide (a<0) == decide (b<0))) (rnd30 (ab a*ab b))
section
set_option maxRecDepth 100000
set_option maxHeartbeats 1000000
theorem abs_calls (a:Int) (w:World) (h:wd a=true):Calls Try.prog 74 #[.int .i64 a] w fun e w'=>e = .returned (.int .u64 (ab a))∧w=w':=by
  rw [wd_iff] at h
  obtain ⟨h1,h2⟩:=h
  by_cases hn:a<0
  · have e:Aside0 (ab a = -a):=⟨by unfold ab;omega⟩
    rw [e.out]
    go_enter Try.func74,Try.ntmps74
    go_wp2
    go_ret
    refine ⟨ret1 ?_,rfl⟩
    simp only [u64_wrap]
    omega
  · have e:Aside0 (ab a=a):=⟨by unfold ab;omega⟩
    rw [e.out]
    go_enter Try.func74,Try.ntmps74
    go_wp2
    go_ret
    refine ⟨ret1 ?_,rfl⟩
    first|rfl|(simp only [u64_wrap];omega)
theorem signed_calls (neg:Bool) (q:Int) (w:World) (h0:0≤q) (h1:q<9223372036854775808):Calls Try.prog 76 #[.bool neg,.int .u64 0,.int .u64 q] w fun e w'=>e = .returned (.tuple #[.int .i64 (signR neg q).1,.int .i64 (signR neg q).2])∧w=w':=by
  by_cases hq:q<35184372088832
  · cases neg with
    | true =>
      have e:Aside0 (signR true q=(-q,0)):=⟨by unfold signR;rw [if_pos hq];rfl⟩
      rw [e.out]
      have hb:decide (35184372088832≤q)=false:=decide_eq_false (by omega)
      clear h1
      go_enter Try.func76,Try.ntmps76
      go_wp2
      go_ret2
      exact ⟨rfl,rfl⟩
    | false =>
      have e:Aside0 (signR false q=(q,0)):=⟨by unfold signR;rw [if_pos hq];rfl⟩
      rw [e.out]
      have hb:decide (35184372088832≤q)=false:=decide_eq_false (by omega)
      clear h1
      go_enter Try.func76,Try.ntmps76
      go_wp2
      go_ret2
      exact ⟨rfl,rfl⟩
  · have e:Aside0 (signR neg q=(0,2)):=⟨by unfold signR;rw [if_neg hq]⟩
    rw [e.out]
    have hb:decide (35184372088832≤q)=true:=decide_eq_true (by omega)
    clear h1 hq
    go_enter Try.func76,Try.ntmps76
    go_wp2
    go_ret2
    exact ⟨rfl,rfl⟩
theorem rnd_parts {P hi lo:Int} (h0:0≤P) (hh:P/18446744073709551616=hi) (hl:P%18446744073709551616=lo):P/1073741824=hi*17179869184+lo/1073741824∧P%1073741824=lo%1073741824:=by omega
theorem times_calls (a b:Int) (w:World) (ha:wd a=true) (hb:wd b=true):Calls Try.prog 41 #[.agg #[.int .i64 a,.int .i64 b]] w (PairPost (timesR a b) w):=by
  have HA:=Aside0.mk ha
  have HB:=Aside0.mk hb
  obtain ⟨A0,A1⟩:=ab_bd ha
  obtain ⟨B0,B1⟩:=ab_bd hb
  have hP0:0≤ab a*ab b:=Int.mul_nonneg A0 B0
  have hP1:ab a*ab b≤35184372088831*35184372088831:=Int.mul_le_mul (by omega) (by omega) B0 (by omega)
  have HR:Aside0 (timesR a b=signR (!(decide (a<0) == decide (b<0))) (rnd30 (ab a*ab b))):=⟨rfl⟩
  generalize timesR a b=R at *
  have A1':ab a<18446744073709551616:=by omega
  have B1':ab b<18446744073709551616:=by omega
  have M:=Aside0.mk (fun n=>mul64_calls (ab a) (ab b) (World.drewN (w.alloc (.cells #[.int .i64 a,.int .i64 b] 50)) n) A0 A1' B0 B1')
  have Z:Aside0 (∃ hi lo:Int,ab a*ab b/18446744073709551616=hi∧ab a*ab b%18446744073709551616=lo∧0≤hi∧hi≤67108864∧0≤lo∧lo<18446744073709551616∧0≤ab a*ab b):=⟨_,_,rfl,rfl,by omega,by omega,by omega,by omega,hP0⟩
  clear ha hb A0 A1 B0 B1 A1' B1' hP0 hP1
  go_enter Try.func41,Try.ntmps41
  go_wp2_with fail
  go_quiet ((first|(go_at_call 74;exact quiet (abs_calls _ _ (by first|exact HA.out|exact HB.out)))|(go_at_call 73;exact quiet (M.out _))))
  obtain ⟨hi,lo,e1,e2,h1,h2,h3,h4,h5⟩:=Z.out
  obtain ⟨r1,r2⟩:=rnd_parts h5 e1 e2
  have E1:Go.bits .and .u64 lo 1073741823=lo%1073741824:=and30 h3 h4
  have E2:Go.bits .or .u64 (hi*17179869184) (lo/1073741824)=hi*17179869184+lo/1073741824:=or34 h1 (by omega) (by omega) (by omega)
  have q0:0≤hi*17179869184+lo/1073741824:=by omega
  have q1:hi*17179869184+lo/1073741824≤1152921504606846976+17179869184:=by omega
  have l0:0≤lo/1073741824:=by omega
  have HQ:Aside0 (R=signR (!(decide (a<0) == decide (b<0))) (hi*17179869184+lo/1073741824+(if lo%1073741824>536870912∨(lo%1073741824=536870912∧(hi*17179869184+lo/1073741824)%2=1) then 1 else 0))):=⟨by rw [HR.out];unfold rnd30;rw [r1,r2]⟩
  rw [e1,e2]
  generalize hq:hi*17179869184+lo/1073741824=qq at *
  generalize hr:lo%1073741824=rst at *
  clear M Z HR r1 r2 e1 e2 h4 h5 HA HB hq hr
  have Q1:=Aside0.mk q1
  clear q1
  have mod:Int.tmod qq 2=qq%2:=tmod_pos q0
  have Hmod:=Aside0.mk mod
  clear mod
  have fin:∀ (q:Int) (w1:World),(w1=(w.alloc (.cells #[.int .i64 a,.int .i64 b] 50)).drewN nq)→0≤q→q≤2305843009213693952→R=signR (!(decide (a<0) == decide (b<0))) q →
      Calls Try.prog 76 #[.bool (!(decide (a<0) == decide (b<0))),.int .u64 0,.int .u64 q] w1 fun e w'=>e = .returned (.tuple #[.int .i64 R.1,.int .i64 R.2])∧w1=w':=by
    intro q w1 _ h0 h1 hR
    have:=signed_calls (!(decide (a<0) == decide (b<0))) q w1 h0 (by omega)
    rwa [← hR] at this
  have Fin:=Aside0.mk fin
  have hz:hi/1073741824=0:=by omega
  clear fin
  by_cases c1:536870912<rst
  · have HQ':Aside0 (R=signR (!(decide (a<0) == decide (b<0))) (qq+1)):=⟨by rw [HQ.out,if_pos (.inl c1)]⟩
    have A1:=fun w=>add64_run qq 1 0 q0 (by omega) (by omega) (by omega) w
    have e1:(qq+1+0)%18446744073709551616=qq+1:=by have:=Q1.out;omega
    have e2:(qq+1+0)/18446744073709551616=0:=by have:=Q1.out;omega
    simp only [e1,e2] at A1
    clear e1 e2 HQ Hmod
    go_wp2_with fail
    refine (Fin.out (qq+1) _ rfl (by omega) (by have:=Q1.out;omega) HQ'.out).mono ?_
    rintro e w1 ⟨rfl,rfl⟩
    go_wp2
    go_ret2
    exact ⟨rfl,pw_below_drewN (below_alloc (Below.refl _ _) _) _⟩
  · by_cases c2:rst=536870912
    · subst c2
      by_cases c3:qq%2=1
      · have HQ':Aside0 (R=signR (!(decide (a<0) == decide (b<0))) (qq+1)):=⟨by rw [HQ.out,if_pos (.inr ⟨rfl,c3⟩)]⟩
        have m1:(Int.tmod qq 2 == 1)=true:=by rw [Hmod.out,c3];rfl
        have m2:(qq%2 == 1)=true:=by rw [c3];rfl
        clear c3
        have A1:=fun w=>add64_run qq 1 0 q0 (by omega) (by omega) (by omega) w
        have e1:(qq+1+0)%18446744073709551616=qq+1:=by have:=Q1.out;omega
        have e2:(qq+1+0)/18446744073709551616=0:=by have:=Q1.out;omega
        simp only [e1,e2] at A1
        clear e1 e2 HQ Hmod
        go_wp2_with fail
        refine (Fin.out (qq+1) _ rfl (by omega) (by have:=Q1.out;omega) HQ'.out).mono ?_
        rintro e w1 ⟨rfl,rfl⟩
        go_wp2
        go_ret2
        exact ⟨rfl,pw_below_drewN (below_alloc (Below.refl _ _) _) _⟩
      · have HQ':Aside0 (R=signR (!(decide (a<0) == decide (b<0))) qq):=⟨by rw [HQ.out,if_neg (by rintro (h|⟨_,h⟩);exact c1 h;exact c3 h),Int.add_zero]⟩
        have m2:(qq%2 == 1)=false:=by simpa using c3
        have m1:(Int.tmod qq 2 == 1)=false:=by rw [Hmod.out,m2]
        clear c3 HQ Hmod
        go_wp2_with fail
        refine (Fin.out qq _ rfl (by omega) (by have:=Q1.out;omega) HQ'.out).mono ?_
        rintro e w1 ⟨rfl,rfl⟩
        go_wp2
        go_ret2
        exact ⟨rfl,pw_below_drewN (below_alloc (Below.refl _ _) _) _⟩
    · have HQ':Aside0 (R=signR (!(decide (a<0) == decide (b<0))) qq):=⟨by rw [HQ.out,if_neg (by rintro (h|⟨h,_⟩);exact c1 h;exact c2 h),Int.add_zero]⟩
      have m1:(rst == 536870912)=false:=by simpa using c2
      clear HQ Hmod c2
      go_wp2_with fail
      refine (Fin.out qq _ rfl (by omega) (by have:=Q1.out;omega) HQ'.out).mono ?_
      rintro e w1 ⟨rfl,rfl⟩
      go_wp2
      go_ret2
      exact ⟨rfl,pw_below_drewN (below_alloc (Below.refl _ _) _) _⟩
theorem reckon_times (F:Int × Int) (a b:Int) (w:World) (ha:wd a=true) (hb:wd b=true) (H:∀ w,Calls Try.prog 41 #[.agg #[.int .i64 a,.int .i64 b]] w (PairPost F w)) :
    Calls Try.prog 40 #[.agg #[.int .i64 a,.int .i64 b],.func (.func 41) #[] #[]] w (PairPost F w):=by
  have hall:Aside0 (allw [a,b]=true):=⟨by simp [allw,ha,hb]⟩
  have HH:=Aside0.mk H
  clear H ha hb
  go_enter Try.func40,Try.ntmps40
  go_wp2_with fail
  refine (all_calls [a,b] _ _ _ (pair_row _ a b (w.heap.size+1) (by have:=blk_new (w.alloc (.cells #[.int .i64 a,.int .i64 b] 50)) (.cells #[.int .i64 a,.int .i64 b] 2);simpa using this))).mono ?_
  rintro e w1 ⟨rfl,rfl⟩
  rw [hall.out]
  go_wp2_with fail
  refine (HH.out _).mono ?_
  rintro e w1 ⟨rfl,hB⟩
  have HB:=Aside0.mk hB
  clear hB
  go_wp2
  go_ret2
  exact ⟨rfl,(below_alloc (below_alloc (Below.refl _ _) _) _).trans (HB.out.mono (by simp;omega))⟩
theorem reckon_times_no (a b:Int) (w:World) (h:(wd a&&wd b)=false) :
    Calls Try.prog 40 #[.agg #[.int .i64 a,.int .i64 b],.func (.func 41) #[] #[]] w (PairPost (0,1) w):=by
  have hall:Aside0 (allw [a,b]=false):=⟨by simp only [allw,Bool.and_true];exact h⟩
  clear h
  go_enter Try.func40,Try.ntmps40
  go_wp2_with fail
  refine (all_calls [a,b] _ _ _ (pair_row _ a b (w.heap.size+1) (by have:=blk_new (w.alloc (.cells #[.int .i64 a,.int .i64 b] 50)) (.cells #[.int .i64 a,.int .i64 b] 2);simpa using this))).mono ?_
  rintro e w1 ⟨rfl,rfl⟩
  rw [hall.out]
  go_wp2
  go_ret2
  exact ⟨rfl,below_alloc (below_alloc (Below.refl _ _) _) _⟩
theorem mul_yes (a b:Int) (w:World) (ha:wd a=true) (hb:wd b=true):Calls Try.prog 13 #[.int .i64 a,.int .i64 b] w (PairPost (timesR a b) w):=by
  go_enter Try.func13,Try.ntmps13
  go_wp2_with fail
  refine (reckon_times _ _ _ _ ha hb (fun w=>times_calls _ _ w ha hb)).mono ?_
  rintro e w1 ⟨rfl,hB⟩
  have HB:=Aside0.mk hB
  clear hB
  go_wp2
  go_ret2
  exact ⟨rfl,HB.out⟩
theorem mul_no (a b:Int) (w:World) (h:(wd a&&wd b)=false):Calls Try.prog 13 #[.int .i64 a,.int .i64 b] w (PairPost (0,1) w):=by
  go_enter Try.func13,Try.ntmps13
  go_wp2_with fail
  refine (reckon_times_no _ _ _ h).mono ?_
  rintro e w1 ⟨rfl,hB⟩
  have HB:=Aside0.mk hB
  clear hB
  go_wp2
  go_ret2
  exact ⟨rfl,HB.out⟩
end
end Go.Proofs.Ythokdnheijnmmaa.FxWalk
end
section
set_option linter.unusedVariables false
set_option linter.unusedSimpArgs false
namespace Go.Proofs.Ythokdnheijnmmaa.Wh
open Go.Proofs.Ythokdnheijnmmaa.FxWalk
def RN (x c r:Int):Prop:=(2*(x-c*r)<c ∧ -c<2*(x-c*r))∨((2*(x-c*r)=c∨2*(x-c*r) = -c)∧r%2=0)
theorem rn_round {x c:Int} (hc:0<c):RN x c (roundP x c):=by
  have e:=Int.emod_add_mul_ediv x c
  have h0:=Int.emod_nonneg x (by omega:c≠0)
  have h1:=Int.emod_lt_of_pos x hc
  unfold RN roundP
  generalize x%c=m at *
  generalize x/c=q at *
  split
  · rename_i h
    rw [Int.mul_add]
    generalize c*q=p at *
    rcases h with h|h<;>omega
  · rename_i h
    generalize c*q=p at *
    omega
theorem rn_mono {x y c r s:Int} (hc:0<c) (hx:RN x c r) (hy:RN y c s) (h:x≤y):r≤s:=by
  by_cases hrs:r≤s
  · exact hrs
  · exfalso
    obtain ⟨d,rfl⟩:∃ d,r=s+1+d:=⟨r-s-1,by omega⟩
    have hd:0≤c*d:=Int.mul_nonneg (by omega) (by omega)
    unfold RN at hx hy
    rw [Int.mul_add,Int.mul_add] at hx
    by_cases h0:d=0
    · subst h0
      generalize c*s=p at *
      omega
    · have hd':c≤c*d:=by
        have:=Int.mul_le_mul_of_nonneg_left (show (1:Int)≤d by omega) (show 0≤c by omega)
        omega
      generalize c*s=p at *
      generalize c*d=t at *
      omega
theorem rn_eq {x c r s:Int} (hc:0<c) (hx:RN x c r) (hy:RN x c s):r=s :=
  Int.le_antisymm (rn_mono hc hx hy (Int.le_refl _)) (rn_mono hc hy hx (Int.le_refl _))
theorem rn_neg {x c r:Int} (h:RN x c r):RN (-x) c (-r):=by
  unfold RN at h ⊢
  rw [Int.mul_neg]
  generalize c*r=p at *
  omega
theorem roundP_neg {x c:Int} (hc:0<c):roundP (-x) c = -roundP x c:=rn_eq hc (rn_round hc) (rn_neg (rn_round hc))
theorem roundP_one_pos {x c:Int} (hc:0<c) (hx:0≤x):0≤roundP x c∧roundP x c≤x:=by
  have h:=rn_round (x:=x) hc
  have z:RN 0 c 0:=by unfold RN;simp only [Int.mul_zero];omega
  refine ⟨rn_mono hc z h hx,?_⟩
  by_cases h1:c=1
  · subst h1
    have:RN x 1 x:=by unfold RN;omega
    exact Int.le_of_eq (rn_eq (by decide) h this)
  · -- c from 2 on: r c lies within c/2 of x
    by_cases hr:roundP x c≤x
    · exact hr
    · exfalso
      generalize roundP x c=r at *
      obtain ⟨d,rfl⟩:∃ d,r=x+1+d:=⟨r-x-1,by omega⟩
      have hd:0≤c*d:=Int.mul_nonneg (by omega) (by omega)
      have hcx:2*x≤c*x:=Int.mul_le_mul_of_nonneg_right (by omega) hx
      unfold RN at h
      rw [Int.mul_add,Int.mul_add] at h
      generalize c*x=p at *
      generalize c*d=t at *
      omega
theorem roundP_abs {x c:Int} (hc:0<c):(0≤x→0≤roundP x c∧roundP x c≤x)∧(x≤0→x≤roundP x c∧roundP x c≤0):=by
  refine ⟨roundP_one_pos hc,fun h=>?_⟩
  have:=roundP_one_pos (x := -x) hc (by omega)
  rw [roundP_neg hc] at this
  omega
theorem rnd30_eq {P:Int}:rnd30 P=roundP P 1073741824:=by
  unfold rnd30 roundP
  by_cases h:P%1073741824>536870912∨(P%1073741824=536870912∧P/1073741824%2=1)
  · rw [if_pos h,if_pos (by omega)]
  · rw [if_neg h,if_neg (by omega),Int.add_zero]
theorem mul_ab {a b:Int}:ab a*ab b=if (!(decide (a<0) == decide (b<0)))=true then -(a*b) else a*b:=by
  unfold ab
  by_cases ha:a<0<;>by_cases hb:b<0
  · rw [show (a.natAbs:Int) = -a by omega,show (b.natAbs:Int) = -b by omega];simp [ha,hb,Int.neg_mul,Int.mul_neg]
  · rw [show (a.natAbs:Int) = -a by omega,show (b.natAbs:Int)=b by omega];simp [ha,hb,Int.neg_mul,Int.mul_neg]
  · rw [show (a.natAbs:Int)=a by omega,show (b.natAbs:Int) = -b by omega];simp [ha,hb,Int.neg_mul,Int.mul_neg]
  · rw [show (a.natAbs:Int)=a by omega,show (b.natAbs:Int)=b by omega];simp [ha,hb,Int.neg_mul,Int.mul_neg]
theorem timesR_eq {a b:Int}:timesR a b=toldR (roundP (a*b) 1073741824):=by
  unfold timesR
  rw [rnd30_eq]
  have hp:0≤ab a*ab b:=Int.mul_nonneg (by unfold ab;omega) (by unfold ab;omega)
  have e:=mul_ab (a:=a) (b:=b)
  generalize (!(decide (a<0) == decide (b<0)))=n at *
  generalize ab a*ab b=P at *
  have h0:=((roundP_abs (x:=P) (c:=1073741824) (by decide)).1 hp).1
  cases n with
  | true =>
    rw [if_pos rfl] at e
    have e2:a*b = -P:=by omega
    rw [e2,roundP_neg (by decide)]
    generalize roundP P 1073741824=r at *
    unfold signR toldR
    by_cases h:r<35184372088832
    · rw [if_pos h,if_pos rfl,if_pos (wd_iff.2 (by omega))]
    · rw [if_neg h,if_neg (by rw [wd_iff];omega)]
  | false =>
    rw [if_neg (by decide)] at e
    rw [← e]
    generalize roundP P 1073741824=r at *
    unfold signR toldR
    by_cases h:r<35184372088832
    · rw [if_pos h,if_neg (by decide),if_pos (wd_iff.2 (by omega))]
    · rw [if_neg h,if_neg (by rw [wd_iff];omega)]
end Go.Proofs.Ythokdnheijnmmaa.Wh
end
section
set_option linter.unusedVariables false
set_option linter.unusedSimpArgs false
namespace Go.Proofs.Ythokdnheijnmmaa.Wh
open Go Go.RowKit Go.Proofs.YthokdnheijnmmaaW.PrintWords Go.Proofs.YthokdnheijnmmaaW.PrintMore Go.Proofs.YthokdnheijnmmaaW.PrintLast Go.Proofs.YthokdnheijnmmaaW.Aid Go.Proofs.YthokdnheijnmmaaW.Big Go.Proofs.YthokdnheijnmmaaW.Sx Go.Proofs.Ythokdnheijnmmaa.BitsWalk Go.Proofs.Ythokdnheijnmmaa.Limbs Go.Proofs.Ythokdnheijnmmaa.Whole Go.Proofs.Ythokdnheijnmmaa.FxWalk Go.Proofs
def isqN (m:Nat):Nat→Nat
  | 0=>0
  | k+1=>if (k+1)*(k+1)≤m then k+1 else isqN m k
theorem isqN_spec (m:Nat):∀ k,isqN m k*isqN m k≤m∧∀ j,j≤k→j*j≤m→j≤isqN m k
  | 0=>⟨Nat.zero_le _,fun j h _=>by omega⟩
  | k + 1 => by
    unfold isqN
    split
    · rename_i h;exact ⟨h,fun j hj _=>hj⟩
    · rename_i h
      refine ⟨(isqN_spec m k).1,fun j hj hm=>?_⟩
      by_cases e:j=k+1
      · subst e;exact absurd hm h
      · exact (isqN_spec m k).2 j (by omega) hm
def isq (n:Int):Int:=(isqN n.natAbs n.natAbs:Nat)
theorem isq_spec {n:Int} (h:0≤n):0≤isq n∧isq n*isq n≤n∧n<(isq n+1)*(isq n+1):=by
  obtain ⟨m,rfl⟩:∃ m:Nat,n=(m:Int):=⟨n.natAbs,by omega⟩
  obtain ⟨h1,h2⟩:=isqN_spec m m
  unfold isq
  rw [Int.natAbs_natCast]
  generalize isqN m m=r at *
  refine ⟨by omega,by exact_mod_cast h1,?_⟩
  by_cases hc:(r+1)*(r+1)≤m
  · have:=h2 (r+1) (by have:=Nat.le_mul_self (r+1);omega) hc
    omega
  · have:m<(r+1)*(r+1):=by omega
    exact_mod_cast this
theorem sq_lt {a b:Int} (ha:0≤a) (hb:0≤b) (h:a*a<b*b):a<b:=by
  by_cases hc:a<b
  · exact hc
  · exact absurd (Int.mul_le_mul (show b≤a by omega) (show b≤a by omega) hb ha) (by omega)
theorem isq_uniq {n r:Int} (h0:0≤r) (h1:r*r≤n) (h2:n<(r+1)*(r+1)):isq n=r:=by
  obtain ⟨a,b,c⟩:=isq_spec (n:=n) (Int.le_trans (Int.mul_nonneg h0 h0) h1)
  have:=sq_lt (a:=isq n) (b:=r+1) a (by omega) (by omega)
  have:=sq_lt (a:=r) (b:=isq n+1) h0 (by omega) (by omega)
  omega
theorem newton_ge {n x s:Int} (hx:0<x) (h:s*s≤n):s≤(x+n/x)/2:=by
  have e:(2*s-x)*x=s*s-(s-x)*(s-x):=by
    simp only [Int.sub_mul,Int.mul_sub,Int.mul_assoc,Int.mul_comm x s]
    omega
  have h0:0≤(s-x)*(s-x):=by
    rcases Int.le_total 0 (s-x) with h|h
    · exact Int.mul_nonneg h h
    · exact Int.mul_nonneg_of_nonpos_of_nonpos h h
  have:=Int.le_ediv_of_mul_le hx (show (2*s-x)*x≤n by omega)
  omega
theorem newton_le {n x:Int} (hx:0<x) (h:x≤(x+n/x)/2):x*x≤n:=Int.mul_le_of_le_ediv hx (by omega)
theorem bl_lt:∀ (f x:Nat),x<2 ^ f→x<2 ^ Lib.bitLenAux f x
  | 0,x,h=>h
  | f + 1, x, h => by
    unfold Lib.bitLenAux
    split
    · rename_i h0;subst h0;exact Nat.one_pos
    · have:=bl_lt f (x/2) (by rw [Nat.pow_succ] at h;omega)
      rw [Nat.add_comm,Nat.pow_succ]
      omega
theorem bl_le (x:Nat) (h:x<18446744073709551616):Lib.bitLen x≤64:=Lib.bitLen_le x 64 (by omega) h
def lenI (x:Int):Int:=if x.natAbs=0 then 0 else if x.natAbs<18446744073709551616 then (Lib.bitLen x.natAbs:Nat) else 64+(Lib.bitLen (x.natAbs/18446744073709551616):Nat)
theorem len_spec {x:Int} (h:x.natAbs<340282366920938463463374607431768211456):0≤lenI x∧lenI x≤128∧x.natAbs<2 ^ (lenI x).toNat:=by
  unfold lenI
  split
  · rename_i h0;rw [h0];decide
  · split
    · rename_i h1
      have:=bl_le _ h1
      refine ⟨by omega,by omega,?_⟩
      rw [Int.toNat_natCast]
      exact bl_lt 64 _ h1
    · have h2:x.natAbs/18446744073709551616<18446744073709551616:=by omega
      have h3:=bl_le _ h2
      have h4:x.natAbs/18446744073709551616<2 ^ Lib.bitLen (x.natAbs/18446744073709551616):=bl_lt 64 _ h2
      refine ⟨by omega,by omega,?_⟩
      rw [show (64+(Lib.bitLen (x.natAbs/18446744073709551616):Int)).toNat=64+Lib.bitLen (x.natAbs/18446744073709551616) by omega,Nat.pow_add]
      generalize 2 ^ Lib.bitLen (x.natAbs/18446744073709551616)=p at *
      omega
def conU (f:FuncId) (pre:Int→Prop) (r:Int→CR) (hf:FOk Try.prog f) (ok:∀ n w,pre n→Ret Try.prog f #[.int .u64 n] w (r n)):Con Try.prog where
  f:=f
  sem:=fun xs=>match xs with
    | [.sc (.v (.int .u64 n))]=>some (pre n,r n)
    | _=>none
  ok:=by
    intro xs p r' h hp
    refine ⟨hf,fun us w ha=>?_⟩
    split at h
    · rename_i n
      cases h
      obtain ⟨u,rfl,h1⟩:=all2_1 ha
      rw [show _=_ from h1]
      exact ok n w hp
    · cases h
def cLen64:Con Try.prog:=conU 115 (fun n=>0≤n∧n<18446744073709551616) (fun n => .tv (tN .i64 ((Lib.bitLen n.toNat:Nat):Int))) ⟨_,Try.func115,by kernel_rfl,rfl⟩
  (fun n w h=>(Long.len64_calls n w h.1 h.2).mono fun e w' h=>⟨_,h.1,rfl,by rw [← h.2];exact Below.refl _ w⟩)
theorem top_ix {x:Int} (hl:x.natAbs<340282366920938463463374607431768211456) (h:(((lm x).length:Int) == 0)=false):IntKind.i64.wrap (((lm x).length:Int)-1)=((lm x).length:Int)-1∧0<(lm x).length∧(lm x).length≤2:=by
  have h2:(lm x).length≤2:=limbs_len (k:=2) (by simpa using hl)
  have h0:0<(lm x).length:=by have:=len_gt h;omega
  refine ⟨?_,h0,h2⟩
  rw [i64_w,wrap64_id (by omega) (by omega)]
theorem len_fin {x:Int} (hl:x.natAbs<340282366920938463463374607431768211456) (h:(((lm x).length:Int) == 0)=false) :
    IntKind.i64.wrap (IntKind.i64.wrap (64*IntKind.i64.wrap (((lm x).length:Int)-1))+((Lib.bitLen (rd (lm x) (IntKind.i64.wrap (((lm x).length:Int)-1))).toNat:Nat):Int))=lenI x:=by
  rw [(top_ix hl h).1]
  have h0:x.natAbs≠0:=by
    intro e
    have:=(top_ix hl h).2.1
    unfold lm at this;rw [e,limbs_zero] at this;exact absurd this (by decide)
  unfold lenI
  rw [if_neg h0]
  by_cases h1:x.natAbs<18446744073709551616
  · have e:lm x=[(x.natAbs:Int)]:=limbs_word h0 h1
    have:=bl_le _ h1
    rw [if_pos h1,e]
    simp only [i64_w,List.length_singleton]
    rw [show (64*(((1:Nat):Int)-1))=0 from rfl,show ((1:Nat):Int)-1=0 from rfl,show wrap64 0=0 from wrap64_id (by omega) (by omega),show rd [(x.natAbs:Int)] 0=(x.natAbs:Int) from rfl,Int.toNat_natCast,wrap64_id (by omega) (by omega)]
    omega
  · have e:lm x=[((x.natAbs%18446744073709551616:Nat):Int),((x.natAbs/18446744073709551616:Nat):Int)]:=by
      show limbs x.natAbs=_
      rw [limbs_pos h0,limbs_word (by omega) (by omega)]
    have:=bl_le (x.natAbs/18446744073709551616) (by omega)
    rw [if_neg h1,e]
    simp only [i64_w,List.length_cons,List.length_nil]
    rw [show (64*(((0+1+1:Nat):Int)-1))=64 from rfl,show ((0+1+1:Nat):Int)-1=1 from rfl,show wrap64 64=64 from wrap64_id (by omega) (by omega),show rd [((x.natAbs%18446744073709551616:Nat):Int),((x.natAbs/18446744073709551616:Nat):Int)] 1=((x.natAbs/18446744073709551616:Nat):Int) from rfl,Int.toNat_natCast,wrap64_id (by omega) (by omega)]
theorem rd_lm (x i:Int):0≤rd (lm x) i∧rd (lm x) i<18446744073709551616:=by
  by_cases h:i.toNat<(lm x).length
  · have e:rd (lm x) i=(lm x)[i.toNat]:=by unfold rd;simp [List.getD_eq_getElem?_getD,h]
    rw [e]
    exact limbs_dig _ _ (List.getElem_mem h)
  · have e:rd (lm x) i=0:=by unfold rd;simp [List.getD_eq_getElem?_getD,h]
    rw [e];decide
theorem top_ge {x:Int} (hl:x.natAbs<340282366920938463463374607431768211456) (h:(((lm x).length:Int) == 0)=false):0≤IntKind.i64.wrap (((lm x).length:Int)-1)∧IntKind.i64.wrap (((lm x).length:Int)-1)<((lm x).length:Int):=by
  obtain ⟨h1,h2,h3⟩:=top_ix hl h
  omega
theorem len_zero {x:Int} (h:(((lm x).length:Int) == 0)=true):0=lenI x:=by
  have h':=beq_iff_eq.1 h
  have:x=0:=lm_nil'.1 (by omega)
  subst this
  rfl
theorem n_eq {z z':Int} (h:z=z'):(some (CR.tv (tN .i64 z)):Option CR)=some (CR.tv (tN .i64 z')):=by rw [h]
section
set_option maxRecDepth 100000
set_option maxHeartbeats 1000000
def cLen:Con Try.prog:=con1 89 (fun x=>x.natAbs<340282366920938463463374607431768211456) (fun x => .tv (tN .i64 (lenI x))) ⟨_,Try.func89,by kernel_rfl,rfl⟩ (fun x A c w hl hr=>by
  refine fn_ret (cxOk Try.prog ints_ok [] [cLen64]) follows Try.func89 rfl 100 _ rfl (by simp) ?_ (args1 hr)
  repeat' first
    | exact trivial
    | (refine And.intro (show regChk _ _ _ _ _=true from by kernel_rfl) (And.intro ?_ ?_))
    | (refine And.intro (fun hb=>?_) (fun hb'=>?_))
    | refine And.intro ?_ ?_
    | intro _
  all_goals first
    | (show some (CR.tv (tN .i64 _))=some (CR.tv (tN .i64 _));first|exact n_eq (len_fin hl (by assumption))|exact n_eq (len_zero (by assumption)))
    | (show (0:Int)≤rd _ _;exact (rd_lm _ _).1)
    | (show rd _ _<(_:Int);exact (rd_lm _ _).2)
    | (show (0:Int)≤IntKind.i64.wrap _;exact (top_ge hl (by assumption)).1)
    | (show IntKind.i64.wrap _<(_:Int);exact (top_ge hl (by assumption)).2))
def flL (n:Int):LI Int where
  gs:=fun x=>[(1,.ptr 1 0),(2,.ptr 2 0),(3,.ptr 3 0)]
  bs:=fun x=>[(1,58,[.neg n,.mag n]),(2,58,[.neg 0,.mag 0]),(3,58,[.neg x,.mag x])]
  I:=fun x=>isq n≤x∧x≤4611686018427387904
  μ:=fun x=>x.toNat
theorem len_128 {x:Int} (h0:0≤x) (h:x<340282366920938463463374607431768211456):Len0 x:=by
  have:(lm x).length≤2:=limbs_len (k:=2) (by show x.natAbs<340282366920938463463374607431768211456;omega)
  show (lm x).length≤1000
  omega
theorem isq_pos {n:Int} (h0:0≤n) (h:decide (n=0)=false):1≤isq n:=by
  have h':=of_decide_eq_false h
  obtain ⟨a,b,c⟩:=isq_spec h0
  by_cases hz:isq n=0
  · rw [hz] at c;omega
  · omega
theorem fl_v {n v:Int} (h0:0≤n) (h:decide (n=0)=false) (hv:isq n≤v∧v≤4611686018427387904):0<v∧v<18446744073709551616:=by
  have:=isq_pos h0 h
  omega
theorem fl_q {n v:Int} (h0:0≤n) (hn:n<1329227995784915872903807060280344576) (h:decide (n=0)=false) (hv:isq n≤v∧v≤4611686018427387904):0≤n/v∧n/v<1329227995784915872903807060280344576:=by
  have hp:=(fl_v h0 h hv).1
  have:=Int.ediv_nonneg h0 (show 0≤v by omega)
  have:=Int.ediv_le_self v h0
  omega
theorem fl_e (x:Int):x/2 ^ Int.toNat 1=x/2:=rfl
theorem cmpI_ge {x y:Int} (h:decide (cmpI x y≥0)=true):y≤x:=by
  have:=of_decide_eq_true h
  unfold cmpI at this
  split at this
  · omega
  · omega
theorem cmpI_lt {x y:Int} (h:decide (cmpI x y≥0)=false):x<y:=by
  have:=of_decide_eq_false h
  unfold cmpI at this
  split at this
  · assumption
  · split at this<;>omega
theorem fl_done {n v:Int} (h0:0≤n) (h:decide (n=0)=false) (hv:isq n≤v∧v≤4611686018427387904) (hc:decide (cmpI ((v+n/v)/2 ^ Int.toNat 1) v≥0)=true):v=isq n:=by
  have hp:=(fl_v h0 h hv).1
  have h1:=newton_le hp (cmpI_ge (by rw [fl_e] at hc;exact hc))
  obtain ⟨a,b,c⟩:=isq_spec h0
  have:=sq_lt (a:=v) (b:=isq n+1) (by omega) (by omega) (by omega)
  omega
theorem fl_next {n v:Int} (h0:0≤n) (h:decide (n=0)=false) (hv:isq n≤v∧v≤4611686018427387904) (hc:decide (cmpI ((v+n/v)/2 ^ Int.toNat 1) v≥0)=false) :
    ((v+n/v)/2 ^ Int.toNat 1).toNat<v.toNat∧isq n≤(v+n/v)/2 ^ Int.toNat 1∧(v+n/v)/2 ^ Int.toNat 1≤4611686018427387904:=by
  have hp:=(fl_v h0 h hv).1
  rw [fl_e] at hc ⊢
  have h1:=cmpI_lt hc
  have h2:=newton_ge hp (isq_spec h0).2.1
  have:=isq_pos h0 h
  generalize (v+n/v)/2=y at *
  omega
theorem fl_zero {n:Int} (h:decide (n=0)=true):0=isq n:=by
  rw [of_decide_eq_true h];rfl
theorem fl_pw {n:Int} (h0:0≤n) (hn:n<1329227995784915872903807060280344576):0≤IntKind.i64.wrap (IntKind.i64.wrap ((lenI n).tdiv 2)+1)∧IntKind.i64.wrap (IntKind.i64.wrap ((lenI n).tdiv 2)+1)≤61∧isq n≤2 ^ (IntKind.i64.wrap (IntKind.i64.wrap ((lenI n).tdiv 2)+1)).toNat:=by
  have hb:lenI n≤120:=by
    unfold lenI
    split
    · decide
    · split
      · have:=bl_le n.natAbs (by omega);omega
      · have:=Lib.bitLen_le (n.natAbs/18446744073709551616) 56 (by omega) (by show _<72057594037927936;omega);omega
  obtain ⟨a,b,c⟩:=len_spec (x:=n) (by omega)
  have e:(lenI n).tdiv 2=lenI n/2:=Int.tdiv_eq_ediv_of_nonneg a
  rw [i64_w,i64_w,e,wrap64_id (x:=lenI n/2) (by omega) (by omega),wrap64_id (by omega) (by omega)]
  refine ⟨by omega,by omega,?_⟩
  generalize lenI n=L at *
  obtain ⟨r1,r2,r3⟩:=isq_spec h0
  have:isq n<2 ^ (L/2+1).toNat:=by
    refine sq_lt r1 (Int.pow_nonneg (by decide)) (Int.lt_of_le_of_lt r2 ?_)
    rw [← Int.pow_add]
    have h1:(n.natAbs:Int)<2 ^ L.toNat:=by exact_mod_cast c
    have h2:(2:Int) ^ L.toNat≤2 ^ ((L/2+1).toNat+(L/2+1).toNat):=by
      have:=Nat.pow_le_pow_right (show 0<2 by decide) (show L.toNat≤(L/2+1).toNat+(L/2+1).toNat by omega)
      exact_mod_cast this
    omega
  omega
theorem pow_61 {k:Int} (h:k≤61):(2:Int) ^ k.toNat≤4611686018427387904:=by
  have h1:2 ^ k.toNat≤2 ^ 62:=Nat.pow_le_pow_right (show 0<2 by decide) (show k.toNat≤62 by omega)
  have h2:=Int.ofNat_le.2 h1
  rw [Int.natCast_pow] at h2
  exact h2
def cFloor:Con Try.prog:=con1 55 (fun n=>0≤n∧n<1329227995784915872903807060280344576) (fun n => .tv (tI (isq n))) ⟨_,Try.func55,by kernel_rfl,rfl⟩ (fun n A c w hl hr=>by
  obtain ⟨h0,hn⟩:=hl
  refine fnl_ret (flL n) (cxOk Try.prog ints_ok [] [cLen,cDown,cRight,cAdd,cCmp,cZero,cPower]) follows Try.func55 rfl 100 _ rfl (by simp) ?_ (args1 hr)
  repeat' first
    | exact trivial
    | (refine And.intro (show regChk _ _ _ _ _=true from by kernel_rfl) (And.intro ?_ ?_))
    | (refine And.intro (fun hb=>?_) (fun hb'=>?_))
    | refine And.intro ?_ ?_
    | (show ¬ _;show (2:Int)≠0;decide)
    | intro _
  all_goals first
    | (show (_:Int)=(_:Int);rfl)
    | (show wfB _ _=true;rfl)
    | (show Int.natAbs _<(_:Nat);omega)
    | (show (0:Int)≤IntKind.i64.wrap _;exact (fl_pw h0 hn).1)
    | (show IntKind.i64.wrap _≤(6400:Int);exact Int.le_trans (fl_pw h0 hn).2.1 (by decide))
    | (show (∃ v,atL (flL n) v _);exact ⟨_,⟨(fl_pw h0 hn).2.2,pow_61 (fl_pw h0 hn).2.1⟩,⟨rfl,rfl,rfl,trivial⟩,⟨rfl,⟨rfl,rfl,trivial⟩,⟨rfl,⟨rfl,rfl,trivial⟩,⟨rfl,⟨rfl,rfl,trivial⟩,trivial⟩⟩⟩⟩)
    | (show (∃ v',(flL n).μ v'<(flL n).μ _∧atL (flL n) v' _);exact ⟨_,(fl_next h0 (by assumption) (by assumption) (by assumption)).1,(fl_next h0 (by assumption) (by assumption) (by assumption)).2,⟨rfl,rfl,rfl,trivial⟩,⟨rfl,⟨rfl,rfl,trivial⟩,⟨rfl,⟨rfl,rfl,trivial⟩,⟨rfl,⟨rfl,rfl,trivial⟩,trivial⟩⟩⟩⟩)
    | (show Len0 n;exact len_128 h0 (by omega))
    | (show Len0 (_+_);exact len_128 (by have:=fl_v h0 (by assumption) (by assumption);have:=fl_q h0 hn (by assumption) (by assumption);omega) (by have:=fl_v h0 (by assumption) (by assumption);have:=fl_q h0 hn (by assumption) (by assumption);omega))
    | (show Len0 (_/_);exact len_128 (fl_q h0 hn (by assumption) (by assumption)).1 (by have:=fl_q h0 hn (by assumption) (by assumption);omega))
    | (show Len0 _;exact len_128 (by have:=fl_v h0 (by assumption) (by assumption);omega) (by have:=fl_v h0 (by assumption) (by assumption);omega))
    | (show (0:Int)<_;exact (fl_v h0 (by assumption) (by assumption)).1)
    | (show _<(18446744073709551616:Int);exact (fl_v h0 (by assumption) (by assumption)).2)
    | (show (0:Int)≤_+_;have:=fl_v h0 (by assumption) (by assumption);have:=fl_q h0 hn (by assumption) (by assumption);omega)
    | (show (_:Int)≤_;decide)
    | (show some (CR.tv (tI _))=some (CR.tv (tI _));first|exact wh_eq (fl_zero (by assumption))|exact wh_eq (fl_done h0 (by assumption) (by assumption) (by assumption))))
theorem len_mul (x y:Int):(lm (x*y)).length≤(lm x).length+(lm y).length:=by
  refine limbs_len ?_
  rw [Int.natAbs_mul,Nat.pow_add]
  have h1:x.natAbs<18446744073709551616 ^ (lm x).length:=by have:=val_lt (limbs_dig x.natAbs);rw [val_limbs] at this;exact this
  have h2:y.natAbs<18446744073709551616 ^ (lm y).length:=by have:=val_lt (limbs_dig y.natAbs);rw [val_limbs] at this;exact this
  exact Nat.mul_lt_mul'' h1 h2
def nearB (n d x:Int):Bool:=bif decide (cmpI ((x*2 ^ Int.toNat 1+1)*(x*2 ^ Int.toNat 1+1)*d) (n*2 ^ Int.toNat 2)<0) then true else bif cmpI ((x*2 ^ Int.toNat 1+1)*(x*2 ^ Int.toNat 1+1)*d) (n*2 ^ Int.toNat 2) == 0 then !decide (x%2=0) else false
def nearR (n d:Int):Int:=if nearB n d (isq (n/d))=true then isq (n/d)+1 else isq (n/d)
theorem isq_le {n:Int} (h0:0≤n) (hn:n<1329227995784915872903807060280344576):0≤isq n∧isq n<1329227995784915872903807060280344576:=by
  obtain ⟨a,b,c⟩:=isq_spec h0
  refine ⟨a,?_⟩
  by_cases h:isq n=0
  · omega
  · have:=Int.mul_le_mul_of_nonneg_left (show 1≤isq n by omega) a
    omega
theorem div_bd {n d:Int} (h0:0≤n) (hn:n<1329227995784915872903807060280344576) (hd:0<d):0≤n/d∧n/d<1329227995784915872903807060280344576:=by
  have:=Int.ediv_nonneg h0 (show 0≤d by omega)
  have:=Int.ediv_le_self d h0
  omega
theorem len2 {x:Int} (h0:0≤x) (h:x<340282366920938463463374607431768211456):(lm x).length≤2:=limbs_len (k:=2) (by show x.natAbs<340282366920938463463374607431768211456;omega)
theorem near1 {n d:Int} (h:nearB n d (isq (n/d))=true):isq (n/d)+1=nearR n d:=by unfold nearR;rw [if_pos h]
theorem near0 {n d:Int} (h:nearB n d (isq (n/d))=false):isq (n/d)=nearR n d:=by unfold nearR;rw [h];rfl
def cNearest:Con Try.prog:=con2 60 (fun n d=>(0≤n∧n<1329227995784915872903807060280344576)∧0<d∧d<18446744073709551616) (fun n d => .tv (tI (nearR n d))) ⟨_,Try.func60,by kernel_rfl,rfl⟩ (fun n d A A' c c' w hl hr hr'=>by
  obtain ⟨⟨h0,hn⟩,hd,hd'⟩:=hl
  have q:=div_bd h0 hn hd
  have s:=isq_le q.1 q.2
  have l1:Len0 (isq (n/d)):=len_128 s.1 (by omega)
  have l2:Len0 (isq (n/d)*2 ^ Int.toNat 1):=len_128 (by show 0≤_*2;omega) (by show _*2<(_:Int);omega)
  have l4:(lm (isq (n/d)*2 ^ Int.toNat 1+1)).length≤2:=len2 (by show 0≤_*2+1;omega) (by show _*2+1<(_:Int);omega)
  have l3:Len0 (isq (n/d)*2 ^ Int.toNat 1+1):=Nat.le_trans l4 (by decide)
  have l5:Len0 ((isq (n/d)*2 ^ Int.toNat 1+1)*(isq (n/d)*2 ^ Int.toNat 1+1)):=Nat.le_trans (len_mul _ _) (by omega)
  have l6:(lm d).length≤1:=lm_one d (by omega)
  have l7:Len0 n:=len_128 h0 (by omega)
  refine fn_ret (cxOk Try.prog ints_ok [] [cFloor,cDown,cLeft,cOne,cAdd,cMul,cCmp,cEven]) follows Try.func60 rfl 100 _ rfl (by simp) ?_ (args2 hr hr')
  repeat' first
    | exact trivial
    | (refine And.intro (show regChk _ _ _ _ _=true from by kernel_rfl) (And.intro ?_ ?_))
    | (refine And.intro (fun hb=>?_) (fun hb'=>?_))
    | refine And.intro ?_ ?_
    | intro _
  all_goals first
    | (show (_:Int)=(_:Int);rfl)
    | (show Len0 _;first|exact l7|exact l1|exact l2|exact l3|exact l5|exact len_1)
    | (show List.length _<24;first|exact Nat.lt_of_le_of_lt l6 (by decide)|exact Nat.lt_of_le_of_lt l4 (by decide))
    | (show (0:Int)≤(1:Int);decide)
    | (show (0:Int)≤(2:Int);decide)
    | (show (_:Int)≤6400;decide)
    | exact q.1
    | exact q.2
    | exact hd
    | exact hd'
    | (show some (CR.tv (tI _))=some (CR.tv (tI _));first|exact wh_eq (near1 (by assumption))|exact wh_eq (near0 (by assumption)))
    | (show (_:Bool)=(_:Bool);first|assumption|exact beq_iff_eq.2 (by assumption)|exact g2 (by assumption) (by assumption)))
def sqrtR (a:Int):Int × Int:=if wd a=true∧0≤a then toldR (isq a) else (0,1)
def rootR (a:Int):Int × Int:=if wd a=true∧0≤a then toldR (nearR (a*1073741824) 1) else (0,1)
theorem word0 {a:Int} (h:(bif !wd a then true else decide (a<0))=false):wd a=true∧0≤a∧a<35184372088832:=by
  cases hw:wd a with
  | false=>rw [hw] at h;cases h
  | true =>
    rw [hw] at h
    have h1:¬ a<0:=of_decide_eq_false h
    have:=(wd_iff.1 hw).2
    exact ⟨rfl,by omega,this⟩
theorem word1 {a:Int} (h:(bif !wd a then true else decide (a<0))=true):¬ (wd a=true∧0≤a):=by
  rintro ⟨hw,h0⟩
  rw [hw] at h
  have h1:a<0:=of_decide_eq_true h
  omega
theorem sqrt0 {a:Int} (h:(bif !wd a then true else decide (a<0))=false):((toldR (isq a)).1,(toldR (isq a)).2)=((sqrtR a).1,(sqrtR a).2):=by
  unfold sqrtR;rw [if_pos ⟨(word0 h).1,(word0 h).2.1⟩]
theorem sqrt1 {a:Int} (h:(bif !wd a then true else decide (a<0))=true):((0:Int),(1:Int))=((sqrtR a).1,(sqrtR a).2):=by
  unfold sqrtR;rw [if_neg (word1 h)]
theorem root0 {a:Int} (h:(bif !wd a then true else decide (a<0))=false):((toldR (nearR (a*2 ^ Int.toNat 30) 1)).1,(toldR (nearR (a*2 ^ Int.toNat 30) 1)).2)=((rootR a).1,(rootR a).2):=by
  unfold rootR;rw [if_pos ⟨(word0 h).1,(word0 h).2.1⟩];rfl
theorem root1 {a:Int} (h:(bif !wd a then true else decide (a<0))=true):((0:Int),(1:Int))=((rootR a).1,(rootR a).2):=by
  unfold rootR;rw [if_neg (word1 h)]
def cSqrt:Con Try.prog:=conN 30 (fun _=>True) (fun a => .tv (tNN (sqrtR a).1 (sqrtR a).2)) ⟨_,Try.func30,by kernel_rfl,rfl⟩ (fun a w hl=>by
  refine fn_ret (cxOk Try.prog ints_ok [] [cGood,cFrom,cFloor,cTold]) follows Try.func30 rfl 100 _ rfl (by simp) ?_ (xs:=[tN .i64 a]) (.cons rfl .nil)
  repeat' first
    | exact trivial
    | (refine And.intro (show regChk _ _ _ _ _=true from by kernel_rfl) (And.intro ?_ ?_))
    | (refine And.intro (fun hb=>?_) (fun hb'=>?_))
    | refine And.intro ?_ ?_
    | intro _
  all_goals first
    | (show (_:Int)=(_:Int);rfl)
    | (show (_:Bool)=(_:Bool);first|assumption|exact beq_iff_eq.2 (by assumption))
    | (show some (CR.tv (tNN _ _))=some (CR.tv (tNN _ _));first|(have h1:=sqrt0 (a:=a) (by assumption);exact nn_eq h1)|(have h1:=sqrt1 (a:=a) (by assumption);exact nn_eq h1))
    | (show Len0 (_*_);exact len_128 (by have:=word0 (a:=a) (by assumption);show 0≤a*1073741824;omega) (by have:=word0 (a:=a) (by assumption);show a*1073741824<(_:Int);omega))
    | (show Len0 _;exact len_128 (word0 (a:=a) (by assumption)).2.1 (by have:=word0 (a:=a) (by assumption);omega))
    | (show (0:Int)≤a*2 ^ _;have:=word0 (a:=a) (by assumption);show 0≤a*1073741824;omega)
    | (show a*2 ^ _<(_:Int);have:=word0 (a:=a) (by assumption);show a*1073741824<(_:Int);omega)
    | (show (_:Int)≤a;have:=word0 (a:=a) (by assumption);omega)
    | (show a<(_:Int);have:=word0 (a:=a) (by assumption);omega)
    | (show (0:Int)≤(30:Int);decide)
    | (show (30:Int)≤(6400:Int);decide)
    | (show (0:Int)<(1:Int);decide)
    | (show (1:Int)<(18446744073709551616:Int);decide))
def cRoot:Con Try.prog:=conN 33 (fun _=>True) (fun a => .tv (tNN (rootR a).1 (rootR a).2)) ⟨_,Try.func33,by kernel_rfl,rfl⟩ (fun a w hl=>by
  refine fn_ret (cxOk Try.prog ints_ok [] [cGood,cFrom,cLeft,cOne,cNearest,cTold]) follows Try.func33 rfl 100 _ rfl (by simp) ?_ (xs:=[tN .i64 a]) (.cons rfl .nil)
  repeat' first
    | exact trivial
    | (refine And.intro (show regChk _ _ _ _ _=true from by kernel_rfl) (And.intro ?_ ?_))
    | (refine And.intro (fun hb=>?_) (fun hb'=>?_))
    | refine And.intro ?_ ?_
    | intro _
  all_goals first
    | (show (_:Int)=(_:Int);rfl)
    | (show (_:Bool)=(_:Bool);first|assumption|exact beq_iff_eq.2 (by assumption))
    | (show some (CR.tv (tNN _ _))=some (CR.tv (tNN _ _));first|(have h1:=root0 (a:=a) (by assumption);exact nn_eq h1)|(have h1:=root1 (a:=a) (by assumption);exact nn_eq h1))
    | (show Len0 (_*_);exact len_128 (by have:=word0 (a:=a) (by assumption);show 0≤a*1073741824;omega) (by have:=word0 (a:=a) (by assumption);show a*1073741824<(_:Int);omega))
    | (show Len0 _;exact len_128 (word0 (a:=a) (by assumption)).2.1 (by have:=word0 (a:=a) (by assumption);omega))
    | (show (0:Int)≤a*2 ^ _;have:=word0 (a:=a) (by assumption);show 0≤a*1073741824;omega)
    | (show a*2 ^ _<(_:Int);have:=word0 (a:=a) (by assumption);show a*1073741824<(_:Int);omega)
    | (show (_:Int)≤a;have:=word0 (a:=a) (by assumption);omega)
    | (show a<(_:Int);have:=word0 (a:=a) (by assumption);omega)
    | (show (0:Int)≤(30:Int);decide)
    | (show (30:Int)≤(6400:Int);decide)
    | (show (0:Int)<(1:Int);decide)
    | (show (1:Int)<(18446744073709551616:Int);decide))
end
end Go.Proofs.Ythokdnheijnmmaa.Wh
end
section
set_option linter.unusedVariables false
set_option linter.unusedSimpArgs false
namespace Go.Proofs.Ythokdnheijnmmaa.Wh
open Go Go.RowKit Go.Proofs.YthokdnheijnmmaaW.PrintWords Go.Proofs.YthokdnheijnmmaaW.PrintMore Go.Proofs.YthokdnheijnmmaaW.Aid Go.Proofs.YthokdnheijnmmaaW.Big Go.Proofs.YthokdnheijnmmaaW.Sx Go.Proofs.Ythokdnheijnmmaa.BitsWalk Go.Proofs.Ythokdnheijnmmaa.Limbs Go.Proofs.Ythokdnheijnmmaa.Whole Go.Proofs.Ythokdnheijnmmaa.R90 Go.Proofs.Ythokdnheijnmmaa.QN90 Go.Proofs
theorem Ret.conv {f:FuncId} {us:Array Value} {w:World} {r r':CR} (h:Ret Try.prog f us w r) (hc:∀ w' u,r.told w w' u→r'.told w w' u):Ret Try.prog f us w r' :=
  h.mono fun _ _ ⟨u,he,ht,hb⟩=>⟨u,he,hc _ _ ht,hb⟩
theorem told_made {b:Bool} {m z:Int} {w w':World} {u:Value} (h:(CR.tv (.agg [.v (.bool b),.mag m])).told w w' u) (hb:b=sgn z) (hm:lm m=lm z):(CR.tv (tI z)).told w w' u:=by
  obtain ⟨us,rfl,h⟩:=h
  cases h with
  | cons h1 h2 =>
    cases h2 with
    | cons h2 h3 =>
      cases h3
      obtain ⟨A,c,rfl,hr⟩:=h2
      refine ⟨_,rfl,.cons ?_ (.cons ⟨A,c,by rw [hm],by rw [← hm];exact hr⟩ .nil)⟩
      show _=Value.bool (sgn z)
      rw [show _=Value.bool b from h1,hb]
abbrev tMade (b:Bool) (m:Int):CR := .tv (.agg [.v (.bool b),.mag m])
theorem ncmp_ge {x y:Int} (h:decide (cmpN x.natAbs y.natAbs≥0)=true):y.natAbs≤x.natAbs:=by
  have h:=of_decide_eq_true h
  unfold cmpN at h
  split at h
  · omega
  · omega
theorem ncmp_lt {x y:Int} (h:decide (cmpN x.natAbs y.natAbs≥0)=false):x.natAbs≤y.natAbs:=by
  have h:=of_decide_eq_false h
  unfold cmpN at h
  split at h
  · omega
  · split at h<;>omega
theorem sign_p {x:Int} (h:sgn x=false) (h':decide (((lm x).length:Int)>0)=true):1=cmpI x 0:=by
  have h1:=sgn_f h
  have h2:=lm_pos.1 h'
  unfold cmpI;rw [if_neg (by omega),if_pos (by omega)]
theorem sign_z {x:Int} (h:sgn x=false) (h':decide (((lm x).length:Int)>0)=false):0=cmpI x 0:=by
  have h1:=sgn_f h
  have h2:x=0:=by
    by_cases hz:x=0
    · exact hz
    · rw [lm_pos.2 hz] at h';cases h'
  unfold cmpI;rw [if_neg (by omega),if_neg (by omega)]
theorem div_pow_cases (x:Int) (k:Nat) (hx:x<0):(x.natAbs/2 ^ k*2 ^ k=x.natAbs∧x/2 ^ k = -((x.natAbs/2 ^ k:Nat):Int))∨(x.natAbs/2 ^ k*2 ^ k<x.natAbs∧x/2 ^ k = -((x.natAbs/2 ^ k:Nat):Int)-1):=by
  have hp:0<2 ^ k:=Nat.two_pow_pos k
  have hpi:((2 ^ k:Nat):Int)=2 ^ k:=by norm_cast
  obtain ⟨Q,R,e1,e2,h⟩:=div_cases (x:=x) (y:=((2 ^ k:Nat):Int)) (by omega)
  rw [Int.natAbs_natCast] at e1 e2
  rw [hpi] at h
  have e3:=Nat.div_add_mod x.natAbs (2 ^ k)
  rw [e1,e2] at e3
  rw [e1]
  rw [Nat.mul_comm] at e3
  rcases h with h|h|h
  · omega
  · left;exact ⟨by omega,h.2.2.1⟩
  · right;exact ⟨by omega,h.2.2.1⟩
theorem right_up {x:Int} {k:Nat} (h:(bif sgn x then cmpN (((((x.natAbs/2 ^ k:Nat):Int).natAbs*2 ^ k:Nat):Int)).natAbs x.natAbs != 0 else false)=true) :
    ofS (sgn x) (((((x.natAbs/2 ^ k:Nat):Int).natAbs+(((1:Int).toNat:Nat):Int).natAbs:Nat):Int)).natAbs=x/2 ^ k:=by
  have h1:=and1 h
  have h2:=and2 h
  have hx:=sgn_t h1
  rw [Int.natAbs_natCast,Int.natAbs_natCast] at h2
  simp only [Int.natAbs_natCast]
  rw [h1]
  rcases div_pow_cases x k hx with ⟨e1,e2⟩|⟨e1,e2⟩
  · rw [e1] at h2
    unfold cmpN at h2
    simp at h2
  · rw [e2]
    show -(((x.natAbs/2 ^ k+1:Nat)):Int)=_
    omega
theorem right_dn {x:Int} {k:Nat} (h:(bif sgn x then cmpN (((((x.natAbs/2 ^ k:Nat):Int).natAbs*2 ^ k:Nat):Int)).natAbs x.natAbs != 0 else false)=false) :
    ofS (sgn x) ((x.natAbs/2 ^ k:Nat):Int).natAbs=x/2 ^ k:=by
  rw [Int.natAbs_natCast]
  by_cases h1:sgn x=true
  · have h2:=and3 h h1
    have hx:=sgn_t h1
    rw [Int.natAbs_natCast,Int.natAbs_natCast] at h2
    rw [h1]
    rcases div_pow_cases x k hx with ⟨e1,e2⟩|⟨e1,e2⟩
    · rw [e2];rfl
    · unfold cmpN at h2
      rw [if_pos e1] at h2
      simp at h2
  · have hs:sgn x=false:=by simpa using h1
    rw [hs]
    have hx:=sgn_f hs
    show ((x.natAbs/2 ^ k:Nat):Int)=_
    have hpi:((2 ^ k:Nat):Int)=2 ^ k:=by norm_cast
    rw [Int.natCast_ediv,hpi,Int.natAbs_of_nonneg hx]
theorem bif_comm {a b:Bool}:(bif a then b else false)=(bif b then a else false):=by cases a<;>cases b<;>rfl
theorem rdv1 {x y:Int} (hy:0<y) (hb:(bif !(sgn x == sgn y) then decide (((lm ((x.natAbs%y.natAbs:Nat):Int)).length:Int)>0) else false)=true) :
    ofS (!(sgn x == sgn y)) ((x.natAbs/y.natAbs:Nat):Int).natAbs-1=x/y∧x-(ofS (!(sgn x == sgn y)) ((x.natAbs/y.natAbs:Nat):Int).natAbs-1)*y=x%y:=by
  rw [bif_comm] at hb
  have h:=(dv1 hy hb).1
  refine ⟨h,?_⟩
  rw [h,Int.emod_def,Int.mul_comm]
theorem rdv2 {x y:Int} (hy:0<y) (hb:(bif !(sgn x == sgn y) then decide (((lm ((x.natAbs%y.natAbs:Nat):Int)).length:Int)>0) else false)=false) :
    ofS (!(sgn x == sgn y)) ((x.natAbs/y.natAbs:Nat):Int).natAbs=x/y∧x-ofS (!(sgn x == sgn y)) ((x.natAbs/y.natAbs:Nat):Int).natAbs*y=x%y:=by
  rw [bif_comm] at hb
  have h:=(dv2 hy hb).1
  refine ⟨h,?_⟩
  rw [h,Int.emod_def,Int.mul_comm]
theorem small_bits {x:Int} (h0:(((lm x).length:Int) == 0)=false) {b:Bool} (h:(bif (bif decide (((lm x).length:Int)>1) then true else bif sgn x then decide (rd (lm x) 0>9223372036854775808) else false) then true else bif !(sgn x) then decide (rd (lm x) 0≥9223372036854775808) else false)=b) :
    (b=true→¬ (-9223372036854775808≤x∧x≤9223372036854775807))∧(b=false→(-9223372036854775808≤x∧x≤9223372036854775807)∧rd (lm x) 0=(x.natAbs:Int)):=by
  have hz:x≠0:=by
    rintro rfl
    rw [lm_zero] at h0;cases h0
  by_cases h1:((lm x).length:Int)>1
  · have hm:=low_many h1
    rw [decide_eq_true h1] at h
    simp only [cond_true] at h
    subst h
    exact ⟨fun _=>(by omega),fun h=>(by cases h)⟩
  · have hw:=low_word hz h1
    rw [decide_eq_false h1,hw] at h
    simp only [cond_false] at h
    cases hs:sgn x with
    | true =>
      have hx:=sgn_t hs
      rw [hs] at h
      simp only [cond_true,Bool.not_true,cond_false] at h
      by_cases h2:(x.natAbs:Int)>9223372036854775808
      · rw [decide_eq_true h2] at h
        simp only [cond_true] at h
        subst h
        exact ⟨fun _=>(by omega),fun h=>(by cases h)⟩
      · rw [decide_eq_false h2] at h
        simp only [cond_false] at h
        subst h
        exact ⟨fun h=>(by cases h),fun _=>⟨by omega,hw⟩⟩
    | false =>
      have hx:=sgn_f hs
      rw [hs] at h
      simp only [cond_true,Bool.not_false,cond_false] at h
      by_cases h2:(x.natAbs:Int)≥9223372036854775808
      · rw [decide_eq_true h2] at h
        subst h
        exact ⟨fun _=>(by omega),fun h=>(by cases h)⟩
      · rw [decide_eq_false h2] at h
        subst h
        exact ⟨fun h=>(by cases h),fun _=>⟨by omega,hw⟩⟩
theorem rsmall1 {x:Int} (h0:(((lm x).length:Int) == 0)=false) (h:(bif (bif decide (((lm x).length:Int)>1) then true else bif sgn x then decide (rd (lm x) 0>9223372036854775808) else false) then true else bif !(sgn x) then decide (rd (lm x) 0≥9223372036854775808) else false)=true) :
    ((0:Int),false)=((smallI x).1,(smallI x).2):=by
  rw [small_no ((small_bits h0 h).1 rfl)]
theorem rsmall2 {x:Int} (h0:(((lm x).length:Int) == 0)=false) (h:(bif (bif decide (((lm x).length:Int)>1) then true else bif sgn x then decide (rd (lm x) 0>9223372036854775808) else false) then true else bif !(sgn x) then decide (rd (lm x) 0≥9223372036854775808) else false)=false) (hs:sgn x=true) :
    (IntKind.i64.wrap (IntKind.u64.wrap (0-rd (lm x) 0)),true)=((smallI x).1,(smallI x).2):=by
  obtain ⟨h1,h2⟩:=(small_bits h0 h).2 rfl
  have hx:=sgn_t hs
  rw [small_yes h1,h2,u64_wrap,i64_wrap]
  unfold wrap64
  have:((0-(x.natAbs:Int))%18446744073709551616+9223372036854775808)%18446744073709551616-9223372036854775808=x:=by omega
  rw [this]
theorem rsmall3 {x:Int} (h0:(((lm x).length:Int) == 0)=false) (h:(bif (bif decide (((lm x).length:Int)>1) then true else bif sgn x then decide (rd (lm x) 0>9223372036854775808) else false) then true else bif !(sgn x) then decide (rd (lm x) 0≥9223372036854775808) else false)=false) (hs:sgn x=false) :
    (IntKind.i64.wrap (rd (lm x) 0),true)=((smallI x).1,(smallI x).2):=by
  obtain ⟨h1,h2⟩:=(small_bits h0 h).2 rfl
  have hx:=sgn_f hs
  rw [small_yes h1,h2,i64_wrap]
  unfold wrap64
  have:((x.natAbs:Int)+9223372036854775808)%18446744073709551616-9223372036854775808=x:=by omega
  rw [this]
theorem cmp_sub (x y:Int):cmpI (x-y) 0=cmpI x y:=by
  unfold cmpI
  by_cases h:x<y
  · rw [if_pos (by omega),if_pos h]
  · rw [if_neg (by omega),if_neg h]
    by_cases h2:y<x
    · rw [if_pos (by omega),if_pos h2]
    · rw [if_neg (by omega),if_neg h2]
section
set_option maxRecDepth 100000
set_option maxHeartbeats 1000000
def rMade:Con Try.prog:=conOf 64 (fun b m => .tv (tI (ofS b m))) ⟨_,Try.func64,by kernel_rfl,rfl⟩ (fun b m A c w hr=>by
  refine Ret.conv (r:=tMade (bif b then decide (((lm (m:Int)).length:Int)>0) else false) (m:Int)) ?_ (fun w' u h=>told_made h ?_ (by rw [lm_ofS,lm_nat]))
  · refine fn_ret (cxOk Try.prog intsR_ok [] refK) follows Try.func64 rfl 100 _ rfl (by simp) ?_ (xs:=[tB b,tM m]) (.cons rfl (.cons ⟨A,c,by rw [lm_nat],by rw [lm_nat];exact hr⟩ .nil))
    repeat' first
      | exact trivial
      | (refine And.intro (show regChk _ _ _ _ _=true from by kernel_rfl) (And.intro ?_ ?_))
      | (refine And.intro (fun hb=>?_) (fun hb'=>?_))
      | refine And.intro ?_ ?_
      | intro _
    all_goals first
      | assumption
      | exact beq_iff_eq.2 (by assumption)
      | (show some (CR.tv _)=some (CR.tv _);rfl)
      -- PVC
  · rw [sgn_ofS,lm_nat]
    cases b
    · rfl
    · rw [Bool.true_and,Bool.eq_iff_iff]
      simp only [cond_true,decide_eq_true_eq]
      omega)
def rSize:Con Try.prog:=conN 67 I64 (fun n => .tv (tN .u64 n.natAbs)) ⟨_,Try.func67,by kernel_rfl,rfl⟩ (fun n w hl=>by
  refine fn_ret (cxOk Try.prog intsR_ok [] refK) follows Try.func67 rfl 100 _ rfl (by simp) ?_ (xs:=[tN .i64 n]) (.cons rfl .nil)
  repeat' first
    | exact trivial
    | (refine And.intro (show regChk _ _ _ _ _=true from by kernel_rfl) (And.intro ?_ ?_))
    | (refine And.intro (fun hb=>?_) (fun hb'=>?_))
    | refine And.intro ?_ ?_
    | intro _
  all_goals first
    | (show some (CR.tv (tN _ _))=some (CR.tv (tN _ _));refine tN_eq ?_;rw [u64_wrap];(try rw [u64_wrap]);have:=hl;unfold I64 at this;(first|(have h0:n<0:=of_decide_eq_true (by assumption);omega)|(have h0:¬ n<0:=of_decide_eq_false (by assumption);omega)))
    -- PVC
  )
def rFrom:Con Try.prog:=conN 36 I64 (fun n => .tv (tI n)) ⟨_,Try.func36,by kernel_rfl,rfl⟩ (fun n w hl=>by
  have hl1 : -9223372036854775808≤n∧n<9223372036854775808:=hl
  refine fn_ret (cxOk Try.prog intsR_ok [] [rMade,rSize,cNOf]) follows Try.func36 rfl 100 _ rfl (by simp) ?_ (xs:=[tN .i64 n]) (.cons rfl .nil)
  repeat' first
    | exact trivial
    | (refine And.intro (show regChk _ _ _ _ _=true from by kernel_rfl) (And.intro ?_ ?_))
    | (refine And.intro (fun hb=>?_) (fun hb'=>?_))
    | refine And.intro ?_ ?_
    | intro _
  all_goals first
    | (show (_:Int)=(_:Int);rfl)
    | (show (_:Bool)=(_:Bool);first|assumption|exact beq_iff_eq.2 (by assumption)|exact g2 (by assumption) (by assumption))
    | (with_reducible exact hl1.1)
    | (with_reducible exact hl1.2)
    | (with_reducible exact Int.natCast_nonneg _)
    | (show ((n.natAbs:Nat):Int)<_;have:=hl;unfold I64 at this;omega)
    | (show some (CR.tv (tI _))=some (CR.tv (tI _));(refine wh_eq ?_;show ofS (decide (n<0)) n.natAbs=n;unfold ofS;split<;>simp_all<;>omega))
    -- PVC
  )
def rSign:Con Try.prog:=con1 63 (fun _=>True) (fun x => .tv (tN .i64 (cmpI x 0))) ⟨_,Try.func63,by kernel_rfl,rfl⟩ (fun x A c w hl hr=>by
  refine fn_ret (cxOk Try.prog intsR_ok [] []) follows Try.func63 rfl 100 _ rfl (by simp) ?_ (args1 hr)
  repeat' first
    | exact trivial
    | (refine And.intro (show regChk _ _ _ _ _=true from by kernel_rfl) (And.intro ?_ ?_))
    | (refine And.intro (fun hb=>?_) (fun hb'=>?_))
    | refine And.intro ?_ ?_
    | intro _
  all_goals first
    | (show (_:Int)=(_:Int);rfl)
    | (show (_:Bool)=(_:Bool);first|assumption|exact beq_iff_eq.2 (by assumption)|exact g2 (by assumption) (by assumption))
    | (show some (CR.tv (tN _ _))=some (CR.tv (tN _ _));first|exact tN_eq (cmpI_np (sgn_t (by assumption)) (Int.le_refl 0))|exact tN_eq (sign_p (by assumption) (by assumption))|exact tN_eq (sign_z (by assumption) (by assumption)))
    -- PVC
  )
def rNeg:Con Try.prog:=con1 72 (fun _=>True) (fun x => .tv (tI (-x))) ⟨_,Try.func72,by kernel_rfl,rfl⟩ (fun x A c w hl hr=>by
  refine fn_ret (cxOk Try.prog intsR_ok [] [rMade]) follows Try.func72 rfl 100 _ rfl (by simp) ?_ (args1 hr)
  repeat' first
    | exact trivial
    | (refine And.intro (show regChk _ _ _ _ _=true from by kernel_rfl) (And.intro ?_ ?_))
    | (refine And.intro (fun hb=>?_) (fun hb'=>?_))
    | refine And.intro ?_ ?_
    | intro _
  all_goals first
    | (show (_:Int)=(_:Int);rfl)
    | (show (_:Bool)=(_:Bool);first|assumption|exact beq_iff_eq.2 (by assumption)|exact g2 (by assumption) (by assumption))
    | (show some (CR.tv (tI _))=some (CR.tv (tI _));exact wh_eq (ofS_neg' x))
    -- PVC
  )
def rLen:Con Try.prog:=con1 92 (BI 20000) (fun x => .tv (tN .i64 (bitsN x.natAbs))) ⟨_,Try.func92,by kernel_rfl,rfl⟩ (fun x A c w hl hr=>by
  refine fn_ret (cxOk Try.prog intsR_ok [] [cNLen]) follows Try.func92 rfl 100 _ rfl (by simp) ?_ (args1 hr)
  repeat' first
    | exact trivial
    | (refine And.intro (show regChk _ _ _ _ _=true from by kernel_rfl) (And.intro ?_ ?_))
    | (refine And.intro (fun hb=>?_) (fun hb'=>?_))
    | refine And.intro ?_ ?_
    | intro _
  all_goals first
    | (show (_:Int)=(_:Int);rfl)
    | (show (_:Bool)=(_:Bool);first|assumption|exact beq_iff_eq.2 (by assumption)|exact g2 (by assumption) (by assumption))
    | exact hl
    | (show some (CR.tv (tN _ _))=some (CR.tv (tN _ _));rfl)
    -- PVC
  )
def rPlus:Con Try.prog:=con2 37 (fun x y=>BI 20000 x∧BI 20000 y) (fun x y => .tv (tI (x+y))) ⟨_,Try.func37,by kernel_rfl,rfl⟩ (fun x y A A' c c' w hl hr hr'=>by
  refine fn_ret (cxOk Try.prog intsR_ok [] [rMade,cNPlus,cNLess,cNCmp]) follows Try.func37 rfl 100 _ rfl (by simp) ?_ (args2 hr hr')
  repeat' first
    | exact trivial
    | (refine And.intro (show regChk _ _ _ _ _=true from by kernel_rfl) (And.intro ?_ ?_))
    | (refine And.intro (fun hb=>?_) (fun hb'=>?_))
    | refine And.intro ?_ ?_
    | intro _
  all_goals first
    | (show (_:Int)=(_:Int);rfl)
    | (show (_:Bool)=(_:Bool);first|assumption|exact beq_iff_eq.2 (by assumption)|exact g2 (by assumption) (by assumption))
    | exact hl.1
    | exact hl.2
    | (show (_:Nat)≤(_:Nat);first|exact ncmp_ge (by assumption)|exact ncmp_lt (by assumption))
    | (show some (CR.tv (tI _))=some (CR.tv (tI _));(first|exact wh_eq (ofS_add' (by assumption))|exact wh_eq (ofS_sub' (by assumption) (ncmp_ge (by assumption)))|exact wh_eq ((ofS_sub' (x:=y) (y:=x) (by rw [show (sgn y == sgn x)=(sgn x == sgn y) from Bool.beq_comm];assumption) (ncmp_lt (by assumption))).trans (Int.add_comm _ _))))
    -- PVC
  )
def rLess:Con Try.prog:=con2 39 (fun x y=>BI 20000 x∧BI 20000 y) (fun x y => .tv (tI (x-y))) ⟨_,Try.func39,by kernel_rfl,rfl⟩ (fun x y A A' c c' w hl hr hr'=>by
  refine fn_ret (cxOk Try.prog intsR_ok [] [rPlus,rNeg]) follows Try.func39 rfl 100 _ rfl (by simp) ?_ (args2 hr hr')
  repeat' first
    | exact trivial
    | (refine And.intro (show regChk _ _ _ _ _=true from by kernel_rfl) (And.intro ?_ ?_))
    | (refine And.intro (fun hb=>?_) (fun hb'=>?_))
    | refine And.intro ?_ ?_
    | intro _
  all_goals first
    | (show (_:Int)=(_:Int);rfl)
    | (show (_:Bool)=(_:Bool);first|assumption|exact beq_iff_eq.2 (by assumption)|exact g2 (by assumption) (by assumption))
    | exact hl.1
    | (show BI 20000 (-y);exact hl.2.neg)
    | (show some (CR.tv (tI _))=some (CR.tv (tI _));exact wh_eq (by omega))
    -- PVC
  )
def rTimes:Con Try.prog:=con2 35 (fun x y=>BI 20000 x∧BI 20000 y) (fun x y => .tv (tI (x*y))) ⟨_,Try.func35,by kernel_rfl,rfl⟩ (fun x y A A' c c' w hl hr hr'=>by
  refine fn_ret (cxOk Try.prog intsR_ok [] [rMade,cNTimes]) follows Try.func35 rfl 100 _ rfl (by simp) ?_ (args2 hr hr')
  repeat' first
    | exact trivial
    | (refine And.intro (show regChk _ _ _ _ _=true from by kernel_rfl) (And.intro ?_ ?_))
    | (refine And.intro (fun hb=>?_) (fun hb'=>?_))
    | refine And.intro ?_ ?_
    | intro _
  all_goals first
    | (show (_:Int)=(_:Int);rfl)
    | (show (_:Bool)=(_:Bool);first|assumption|exact beq_iff_eq.2 (by assumption)|exact g2 (by assumption) (by assumption))
    | exact hl.1
    | exact hl.2
    | (show some (CR.tv (tI _))=some (CR.tv (tI _));exact wh_eq (ofS_prod' x y))
    -- PVC
  )
def rCmp:Con Try.prog:=con2 34 (fun x y=>BI 20000 x∧BI 20000 y) (fun x y => .tv (tN .i64 (cmpI x y))) ⟨_,Try.func34,by kernel_rfl,rfl⟩ (fun x y A A' c c' w hl hr hr'=>by
  refine fn_ret (cxOk Try.prog intsR_ok [] [rSign,rLess]) follows Try.func34 rfl 100 _ rfl (by simp) ?_ (args2 hr hr')
  repeat' first
    | exact trivial
    | (refine And.intro (show regChk _ _ _ _ _=true from by kernel_rfl) (And.intro ?_ ?_))
    | (refine And.intro (fun hb=>?_) (fun hb'=>?_))
    | refine And.intro ?_ ?_
    | intro _
  all_goals first
    | (show (_:Int)=(_:Int);rfl)
    | (show (_:Bool)=(_:Bool);first|assumption|exact beq_iff_eq.2 (by assumption)|exact g2 (by assumption) (by assumption))
    | exact hl.1
    | exact hl.2
    | (show some (CR.tv (tN _ _))=some (CR.tv (tN _ _));exact tN_eq (cmp_sub x y))
    -- PVC
  )
def rLeft:Con Try.prog:=con1n 38 (fun x n=>BI 20000 x∧0≤n∧n≤6400) (fun x n => .tv (tI (x*2 ^ n.toNat))) ⟨_,Try.func38,by kernel_rfl,rfl⟩ (fun x n A c w hl hr=>by
  have e:=ofS_mul' x (2 ^ n.toNat)
  rw [Int.natCast_pow] at e
  refine fn_ret (cxOk Try.prog intsR_ok [] [rMade,cUp2]) follows Try.func38 rfl 100 _ rfl (by simp) ?_ (args1n hr)
  repeat' first
    | exact trivial
    | (refine And.intro (show regChk _ _ _ _ _=true from by kernel_rfl) (And.intro ?_ ?_))
    | (refine And.intro (fun hb=>?_) (fun hb'=>?_))
    | refine And.intro ?_ ?_
    | intro _
  all_goals first
    | (show (_:Int)=(_:Int);rfl)
    | (show (_:Bool)=(_:Bool);first|assumption|exact beq_iff_eq.2 (by assumption)|exact g2 (by assumption) (by assumption))
    | exact hl.1
    | exact hl.2.1
    | exact hl.2.2
    | (show some (CR.tv (tI _))=some (CR.tv (tI _));exact wh_eq e)
    -- PVC
  )
def rRight:Con Try.prog:=con1n 97 (fun x n=>BI 10000 x∧0≤n∧n≤6400) (fun x n => .tv (tI (x/2 ^ n.toNat))) ⟨_,Try.func97,by kernel_rfl,rfl⟩ (fun x n A c w hl hr=>by
  refine fn_ret (cxOk Try.prog intsR_ok [] [rMade,cUp2,cDown2,cNCmp,cNPlus,cNOf]) follows Try.func97 rfl 100 _ rfl (by simp) ?_ (args1n hr)
  repeat' first
    | exact trivial
    | (refine And.intro (show regChk _ _ _ _ _=true from by kernel_rfl) (And.intro ?_ ?_))
    | (refine And.intro (fun hb=>?_) (fun hb'=>?_))
    | refine And.intro ?_ ?_
    | intro _
  all_goals first
    | (show (_:Int)=(_:Int);rfl)
    | (show (_:Bool)=(_:Bool);first|assumption|exact beq_iff_eq.2 (by assumption)|exact g2 (by assumption) (by assumption))
    | (show B 20000 (_:Nat);first|exact hl.1.mono (by decide)|exact (B.div hl.1 _).mono (by decide)|exact ((B.le hl.1 (Nat.div_mul_le_self _ _)).mono (by decide))|exact B.mono (e:=1) (show (1:Nat)<2 ^ 1 by decide) (by decide))
    | exact hl.2.1
    | exact hl.2.2
    | (show (0:Int)≤1;decide)
    | (show (1:Int)<18446744073709551616;decide)
    | (show some (CR.tv (tI _))=some (CR.tv (tI _));(first|exact wh_eq (right_up (by assumption))|exact wh_eq (right_dn (by assumption))))
    -- PVC
  )
def rDivide:Con Try.prog:=con2 113 (fun x y=>BI 9000 x∧BI 9000 y∧0<y) (fun x y => .tv (tQR (x/y) (x%y))) ⟨_,Try.func113,by kernel_rfl,rfl⟩ (fun x y A A' c c' w hl hr hr'=>by
  refine fn_ret (cxOk Try.prog intsR_ok [] [rMade,cNDivide,rLess,rFrom,rTimes]) follows Try.func113 rfl 100 _ rfl (by simp) ?_ (args2 hr hr')
  repeat' first
    | exact trivial
    | (refine And.intro (show regChk _ _ _ _ _=true from by kernel_rfl) (And.intro ?_ ?_))
    | (refine And.intro (fun hb=>?_) (fun hb'=>?_))
    | refine And.intro ?_ ?_
    | intro _
  all_goals first
    | (show (_:Int)=(_:Int);rfl)
    | (show (_:Bool)=(_:Bool);first|assumption|exact beq_iff_eq.2 (by assumption)|exact g2 (by assumption) (by assumption))
    | (show B 20000 (_:Nat);first|exact hl.1.mono (by decide)|exact hl.2.1.mono (by decide))
    | (show 0<y.natAbs;have:=hl.2.2;omega)
    | (show (-9223372036854775808:Int)≤1;decide)
    | (show (1:Int)<9223372036854775808;decide)
    | (show BI 20000 _;first|exact BI.one.mono (by decide)|exact hl.1.mono (by decide)|exact hl.2.1.mono (by decide)|exact (BI.ofS _ (B.div hl.1 _)).mono (by decide)|exact BI.sub (e:=9000) (BI.ofS _ (B.div hl.1 _)) (BI.one.mono (by decide)) (by decide)|exact BI.mul (e:=9001) (f:=9000) (BI.sub (e:=9000) (BI.ofS _ (B.div hl.1 _)) (BI.one.mono (by decide)) (by decide)) hl.2.1 (by decide)|exact BI.mul (e:=9000) (f:=9000) (BI.ofS _ (B.div hl.1 _)) hl.2.1 (by decide))
    | (show some (CR.tv (tQR _ _))=some (CR.tv (tQR _ _));first|exact qr_eq (rdv1 hl.2.2 (by assumption)).1 (rdv1 hl.2.2 (by assumption)).2|exact qr_eq (rdv2 hl.2.2 (by assumption)).1 (rdv2 hl.2.2 (by assumption)).2)
    -- PVC
  )
def rSmall:Con Try.prog:=con1 56 (fun _=>True) (fun x => .tv (tNB (smallI x).1 (smallI x).2)) ⟨_,Try.func56,by kernel_rfl,rfl⟩ (fun x A c w hl hr=>by
  refine fn_ret (cxOk Try.prog intsR_ok [] []) follows Try.func56 rfl 100 _ rfl (by simp) ?_ (args1 hr)
  repeat' first
    | exact trivial
    | (refine And.intro (show regChk _ _ _ _ _=true from by kernel_rfl) (And.intro ?_ ?_))
    | (refine And.intro (fun hb=>?_) (fun hb'=>?_))
    | refine And.intro ?_ ?_
    | intro _
  all_goals first
    | (show (_:Int)=(_:Int);rfl)
    | (show (_:Bool)=(_:Bool);first|assumption|exact beq_iff_eq.2 (by assumption)|exact g2 (by assumption) (by assumption))
    | (show (0:Int)<((lm x).length:Int);exact len_gt (by assumption))
    | (show (0:Int)≤0;decide)
    | (show (0:Int)<_;exact len_gt (by assumption))
    | (show some (CR.tv (tNB _ _))=some (CR.tv (tNB _ _));first|exact nb_eq (small0 (by assumption))|exact nb_eq (rsmall1 (by assumption) (by assumption))|exact nb_eq (rsmall2 (by assumption) (by assumption) (by assumption))|exact nb_eq (rsmall3 (by assumption) (by assumption) (by assumption)))
    -- PVC
  )
end
end Go.Proofs.Ythokdnheijnmmaa.Wh
end
section
set_option linter.unusedVariables false
set_option linter.unusedSimpArgs false
namespace Go.Proofs.Ythokdnheijnmmaa.Wh
open Go Go.RowKit Go.Proofs.YthokdnheijnmmaaW.PrintWords Go.Proofs.YthokdnheijnmmaaW.PrintMore Go.Proofs.YthokdnheijnmmaaW.Aid Go.Proofs.YthokdnheijnmmaaW.Big Go.Proofs.YthokdnheijnmmaaW.Sx Go.Proofs.Ythokdnheijnmmaa.BitsWalk Go.Proofs.Ythokdnheijnmmaa.Limbs Go.Proofs.Ythokdnheijnmmaa.Whole Go.Proofs.Ythokdnheijnmmaa.R90 Go.Proofs.Ythokdnheijnmmaa.QN90 Go.Proofs.Ythokdnheijnmmaa.FxWalk Go.Proofs
abbrev tRat (x d:Int):TV := .agg [.neg x,.mag x,.mag d]
def gcdI (n d:Int):Int:=((Nat.gcd n.natAbs d.natAbs:Nat):Int)
theorem rat_eq {x d x' d':Int} (h:x=x') (h':d=d'):(some (CR.tv (tRat x d)):Option CR)=some (CR.tv (tRat x' d')):=by rw [h,h']
theorem ofS_false {d:Int} (h:0≤d):ofS false d.natAbs=d:=by
  show ((d.natAbs:Nat):Int)=d
  omega
theorem gcd_pos (n:Nat) {d:Int} (h:0<d):0<Nat.gcd n d.natAbs:=Nat.gcd_pos_of_pos_right _ (by omega)
theorem make_num {n:Int} {g:Nat} (h:g∣n.natAbs) (hg:0<g):ofS (sgn n) (n.natAbs/g)=n/(g:Int):=by
  obtain ⟨q,hq⟩:=h
  rw [hq,Nat.mul_div_cancel_left _ hg]
  cases hs:sgn n with
  | true =>
    have hn:=sgn_t hs
    have e:n=(g:Int)*(-(q:Int)):=by rw [Int.mul_neg,← Int.natCast_mul,← hq];omega
    rw [e,Int.mul_ediv_cancel_left _ (by omega)]
    rfl
  | false =>
    have hn:=sgn_f hs
    have e:n=(g:Int)*(q:Int):=by rw [← Int.natCast_mul,← hq];omega
    rw [e,Int.mul_ediv_cancel_left _ (by omega)]
    rfl
theorem make_den {d:Int} {g:Nat} (h:0≤d):((d.natAbs/g:Nat):Int)=d/(g:Int):=by rw [Int.natCast_ediv,Int.natAbs_of_nonneg h]
theorem cmpI_zero {x y:Int}:cmpI x y=0↔x=y:=by
  unfold cmpI
  split
  · constructor<;>intro h<;>omega
  · split
    · constructor<;>intro h<;>omega
    · constructor<;>intro h<;>omega
theorem den_mul {d e:Int} (hd:0<d) (he:0<e):((d.natAbs*e.natAbs:Nat):Int)=d*e:=by
  rw [Int.natCast_mul,Int.natAbs_of_nonneg (Int.le_of_lt hd),Int.natAbs_of_nonneg (Int.le_of_lt he)]
theorem may_eq (v:Int):(bif decide (v > -35184372088832) then decide (v<35184372088832) else false)=wd v:=by
  rw [Bool.eq_iff_iff,wd_iff]
  by_cases h:v > -35184372088832
  · rw [decide_eq_true h];simp;omega
  · rw [decide_eq_false h];simp;omega
theorem gtold0 {x:Int} (h:(bif !(smallI x).2 then true else !wd (smallI x).1)=true):((0:Int),(2:Int))=toldR x:=by
  cases hs:(smallI x).2 with
  | false=>have:=told0 (x:=x) (by rw [hs];rfl);exact this
  | true =>
    rw [hs] at h
    have h2:wd (smallI x).1=false:=by simpa using h
    have e:(smallI x).1=x:=by
      unfold smallI at hs ⊢
      split
      · rfl
      · rename_i hc;rw [if_neg hc] at hs;cases hs
    rw [e] at h2
    unfold toldR;rw [h2];rfl
theorem gtold1 {x:Int} (h:(bif !(smallI x).2 then true else !wd (smallI x).1)=false):((smallI x).1,(0:Int))=toldR x:=by
  cases hs:(smallI x).2 with
  | false=>rw [hs] at h;cases h
  | true =>
    rw [hs] at h
    have h2:wd (smallI x).1=true:=by simpa using h
    have e:(smallI x).1=x:=by
      unfold smallI at hs ⊢
      split
      · rfl
      · rename_i hc;rw [if_neg hc] at hs;cases hs
    rw [e] at h2 ⊢
    unfold toldR;rw [h2];rfl
def rootL (a:Int):LI (Int × Int) where
  gs:=fun v=>[(1,tN .i64 2),(2,.ptr 2 0),(4,.ptr 4 0),(5,.ptr 5 0),(6,tN .i64 v.2)]
  bs:=fun v=>[(2,44,[.neg a,.mag a]),(4,44,[.neg 0,.mag 0]),(5,44,[.neg v.1,.mag v.1])]
  I:=fun v => -1≤v.2∧v.2≤501∧0≤v.1∧v.1*v.1≤a∧a<(v.1+2 ^ (v.2+1).toNat)*(v.1+2 ^ (v.2+1).toNat)
  μ:=fun v=>(v.2+1).toNat
theorem wrap_id {x:Int} (h : -1000000≤x) (h':x≤1000000):IntKind.i64.wrap x=x:=by rw [i64_wrap];exact wrap64_id (by omega) (by omega)
theorem root_start {a:Int} (h0:0≤a) (hx:BI 1000 a):(rootL a).I (0,IntKind.i64.wrap (IntKind.i64.wrap (Int.tdiv (bitsN a.natAbs:Int) 2)+1)):=by
  have hb:=bits_le hx
  have hl:=bits_lt a.natAbs
  clear hx
  rw [Int.tdiv_eq_ediv_of_nonneg (by omega),wrap_id (x:=(bitsN a.natAbs:Int)/2) (by omega) (by omega),wrap_id (by omega) (by omega)]
  refine ⟨by show (-1:Int)≤_/2+1;omega,by show (_:Int)/2+1≤501;omega,by show (0:Int)≤0;omega,by show (0:Int)*0≤a;omega,?_⟩
  show a<(0+2 ^ ((bitsN a.natAbs:Int)/2+1+1).toNat)*(0+2 ^ ((bitsN a.natAbs:Int)/2+1+1).toNat)
  rw [Int.zero_add,← Int.pow_add]
  have h1:bitsN a.natAbs≤((bitsN a.natAbs:Int)/2+1+1).toNat+((bitsN a.natAbs:Int)/2+1+1).toNat:=by omega
  generalize ((bitsN a.natAbs:Int)/2+1+1).toNat+((bitsN a.natAbs:Int)/2+1+1).toNat=N at *
  have h2:2 ^ bitsN a.natAbs≤2 ^ N:=Nat.pow_le_pow_right (by omega) h1
  have h3:((2 ^ N:Nat):Int)=2 ^ N:=by norm_cast
  omega
theorem root_pow {k:Int} (h:0≤k):(2:Int) ^ (k+1).toNat=2 ^ k.toNat+2 ^ k.toNat:=by
  rw [show (k+1).toNat=k.toNat+1 by omega,Int.pow_succ];omega
theorem root_yes {a:Int} {v:Int × Int} (h:(rootL a).I v) (hk:decide (v.2≥0)=true) (hc:decide (cmpI ((v.1+1*2 ^ v.2.toNat)*(v.1+1*2 ^ v.2.toNat)) a≤0)=true) :
    (rootL a).μ (v.1+1*2 ^ v.2.toNat,IntKind.i64.wrap (v.2-1))<(rootL a).μ v∧(rootL a).I (v.1+1*2 ^ v.2.toNat,IntKind.i64.wrap (v.2-1)):=by
  obtain ⟨r,k⟩:=v
  obtain ⟨h1,h2,h3,h4,h5⟩:=h
  have hk:=of_decide_eq_true hk
  have hc:=of_decide_eq_true hc
  simp only at *
  have hp:(0:Int)<2 ^ k.toNat:=Int.pow_pos (by omega)
  rw [Int.one_mul] at *
  rw [wrap_id (by omega) (by omega)]
  refine ⟨by show (k-1+1).toNat<(k+1).toNat;omega,by show -1≤k-1;omega,by show k-1≤501;omega,by show 0≤r+2 ^ k.toNat;omega,?_,?_⟩
  · show (r+2 ^ k.toNat)*(r+2 ^ k.toNat)≤a
    unfold cmpI at hc
    split at hc
    · omega
    · split at hc
      · omega
      · omega
  · show a<(r+2 ^ k.toNat+2 ^ (k-1+1).toNat)*(r+2 ^ k.toNat+2 ^ (k-1+1).toNat)
    rw [show k-1+1=k by omega]
    rw [root_pow hk,← Int.add_assoc] at h5
    exact h5
theorem root_no {a:Int} {v:Int × Int} (h:(rootL a).I v) (hk:decide (v.2≥0)=true) (hc:decide (cmpI ((v.1+1*2 ^ v.2.toNat)*(v.1+1*2 ^ v.2.toNat)) a≤0)=false) :
    (rootL a).μ (v.1,IntKind.i64.wrap (v.2-1))<(rootL a).μ v∧(rootL a).I (v.1,IntKind.i64.wrap (v.2-1)):=by
  obtain ⟨r,k⟩:=v
  obtain ⟨h1,h2,h3,h4,h5⟩:=h
  have hk:=of_decide_eq_true hk
  have hc:=of_decide_eq_false hc
  simp only at *
  rw [Int.one_mul] at *
  rw [wrap_id (by omega) (by omega)]
  refine ⟨by show (k-1+1).toNat<(k+1).toNat;omega,by show -1≤k-1;omega,by show k-1≤501;omega,h3,h4,?_⟩
  show a<(r+2 ^ (k-1+1).toNat)*(r+2 ^ (k-1+1).toNat)
  rw [show k-1+1=k by omega]
  unfold cmpI at hc
  split at hc
  · omega
  · split at hc
    · assumption
    · omega
theorem root_done {a:Int} {v:Int × Int} (h:(rootL a).I v) (hk:decide (v.2≥0)=false):v.1=isq a:=by
  obtain ⟨r,k⟩:=v
  obtain ⟨h1,h2,h3,h4,h5⟩:=h
  have hk:=of_decide_eq_false hk
  simp only at *
  have:k = -1:=by omega
  subst this
  exact (isq_uniq h3 h4 h5).symm
theorem pow_be {k : Int} {e : Nat} (hk : k.toNat < e) : BI e ((2 : Int) ^ k.toNat) := by
  show ((2 : Int) ^ k.toNat).natAbs < 2 ^ e
  rw [Int.natAbs_pow]
  exact Nat.pow_lt_pow_right (by decide) hk
theorem root_bd {a:Int} {v:Int × Int} (hx:BI 1000 a) (h:(rootL a).I v):BI 1000 v.1∧BI 502 ((1:Int)*2 ^ v.2.toNat)∧v.2≤6400:=by
  obtain ⟨r,k⟩:=v
  obtain ⟨h1,h2,h3,h4,h5⟩:=h
  simp only at *
  refine ⟨B.le hx ?_,?_,by omega⟩
  · by_cases hr:r=0
    · omega
    · have:=Int.mul_le_mul_of_nonneg_left (show 1≤r by omega) h3
      omega
  · rw [Int.one_mul]
    exact pow_be (by omega)
theorem gcd_odd (k:Int) (h:0≤k):gcdI (k*2 ^ Int.toNat 1+1) 2=1:=by
  have h2:(2:Int) ^ Int.toNat 1=2:=rfl
  rw [h2]
  obtain ⟨m,rfl⟩:∃ m:Nat,k=(m:Int):=⟨k.toNat,by omega⟩
  unfold gcdI
  rw [show ((m:Int)*2+1).natAbs=1+2*m by omega,show (2:Int).natAbs=2 from rfl,Nat.gcd_comm,Nat.gcd_rec,Nat.add_mul_mod_self_left]
  rfl
theorem gcd_odd2 (k:Int) (h:0≤k):gcdI ((k*2 ^ Int.toNat 1+1)*(k*2 ^ Int.toNat 1+1)) (2*2)=1:=by
  have h2:(2:Int) ^ Int.toNat 1=2:=rfl
  rw [h2]
  obtain ⟨m,rfl⟩:∃ m:Nat,k=(m:Int):=⟨k.toNat,by omega⟩
  have e:((m:Int)*2+1)*((m:Int)*2+1)=((1+4*(m*m+m):Nat):Int):=by
    rw [Int.mul_add,Int.add_mul,Int.natCast_add,Int.natCast_mul,Int.natCast_add,Int.natCast_mul]
    rw [show (m:Int)*2*((m:Int)*2)=4*((m:Int)*(m:Int)) by rw [Int.mul_assoc,Int.mul_comm 2,Int.mul_assoc,← Int.mul_assoc];omega]
    omega
  unfold gcdI
  rw [e,Int.natAbs_natCast,show ((2:Int)*2).natAbs=4 from rfl,Nat.gcd_comm,Nat.gcd_rec,Nat.add_mul_mod_self_left]
  rfl
abbrev rnA (k:Int):Int:=(k*2 ^ Int.toNat 1+1)/gcdI (k*2 ^ Int.toNat 1+1) ((Int.toNat 2:Nat):Int)
abbrev rnE (k:Int):Int:=((Int.toNat 2:Nat):Int)/gcdI (k*2 ^ Int.toNat 1+1) ((Int.toNat 2:Nat):Int)
abbrev rnC (k:Int):Int:=rnA k*rnA k/gcdI (rnA k*rnA k) (rnE k*rnE k)
abbrev rnD (k:Int):Int:=rnE k*rnE k/gcdI (rnA k*rnA k) (rnE k*rnE k)
theorem rn_vals {k:Int} (h:0≤k):rnA k=k*2 ^ Int.toNat 1+1∧rnE k=2∧rnC k=(k*2 ^ Int.toNat 1+1)*(k*2 ^ Int.toNat 1+1)∧rnD k=4:=by
  have g:=gcd_odd k h
  have h1:rnA k=k*2 ^ Int.toNat 1+1:=by
    show (k*2 ^ Int.toNat 1+1)/gcdI (k*2 ^ Int.toNat 1+1) 2=_
    rw [g,Int.ediv_one]
  have h2:rnE k=2:=by
    show (2:Int)/gcdI (k*2 ^ Int.toNat 1+1) 2=_
    rw [g,Int.ediv_one]
  have h3:rnC k=(k*2 ^ Int.toNat 1+1)*(k*2 ^ Int.toNat 1+1):=by
    show rnA k*rnA k/gcdI (rnA k*rnA k) (rnE k*rnE k)=_
    rw [h1,h2,gcd_odd2 k h,Int.ediv_one]
  have h4:rnD k=4:=by
    show rnE k*rnE k/gcdI (rnA k*rnA k) (rnE k*rnE k)=_
    rw [h1,h2,gcd_odd2 k h,Int.ediv_one];rfl
  exact ⟨h1,h2,h3,h4⟩
def rnBool (x d k:Int):Bool:=bif decide (cmpI (rnC k*d) (x*rnD k)<0) then true else bif cmpI (rnC k*d) (x*rnD k) == 0 then cmpI (k/2 ^ Int.toNat 1*2 ^ Int.toNat 1) k != 0 else false
theorem rnB_eq {x d k:Int} (h:0≤k):rnBool x d k=nearB x d k:=by
  obtain ⟨_,_,h3,h4⟩:=rn_vals h
  have e:(cmpI (k/2 ^ Int.toNat 1*2 ^ Int.toNat 1) k != 0)=!decide (k%2=0):=by
    have h2:(2:Int) ^ Int.toNat 1=2:=rfl
    rw [h2,Bool.eq_iff_iff]
    simp only [bne_iff_ne,ne_eq,cmpI_zero,Bool.not_eq_true',decide_eq_false_iff_not]
    omega
  unfold rnBool nearB
  rw [e,show rnC k*d=(k*2 ^ Int.toNat 1+1)*(k*2 ^ Int.toNat 1+1)*d by rw [h3],show x*rnD k=x*2 ^ Int.toNat 2 by rw [h4];rfl]
theorem rn_yes {x d:Int} (hx:0≤x) (hd:0<d) (h:rnBool x d (isq (x/d))=true):isq (x/d)+1=nearR x d:=near1 (by rw [← rnB_eq (isq_spec (Int.ediv_nonneg hx (Int.le_of_lt hd))).1];exact h)
theorem rn_no {x d:Int} (hx:0≤x) (hd:0<d) (h:rnBool x d (isq (x/d))=false):isq (x/d)=nearR x d:=near0 (by rw [← rnB_eq (isq_spec (Int.ediv_nonneg hx (Int.le_of_lt hd))).1];exact h)
theorem isq_self {n:Int} (h:0≤n):isq n≤n:=by
  obtain ⟨a,b,c⟩:=isq_spec h
  by_cases hz:isq n=0
  · omega
  · have:=Int.mul_le_mul_of_nonneg_left (show 1≤isq n by omega) a
    omega
theorem b22:BI 2 2:=by show (2:Int).natAbs<2 ^ 2;decide
theorem isq_small {a:Int} (h0:0≤a) (h:a<9223372036854775808):smallI (isq a)=(isq a,true):=by
  obtain ⟨h1,h2,h3⟩:=isq_spec h0
  refine small_yes ⟨by omega,?_⟩
  by_cases hz:isq a=0
  · omega
  · have:=Int.mul_le_mul_of_nonneg_left (show 1≤isq a by omega) h1
    omega
section
set_option maxRecDepth 100000
set_option maxHeartbeats 1000000
def rPow:Con Try.prog where
  f:=93
  sem:=fun xs=>match xs with
    | [.agg [.neg x,.mag x'],.sc (.v (.int .i64 n))]=>some (x'=x∧n=2∧BI 5000 x,.tv (tI (x*x)))
    | _=>none
  ok := by
    intro xs p r' h hp
    refine ⟨⟨_,Try.func93,by kernel_rfl,rfl⟩,fun us w ha=>?_⟩
    split at h
    · rename_i x x' n
      cases h
      obtain ⟨rfl,rfl,hx⟩:=hp
      refine fn_ret (cxOk Try.prog intsR_ok [] [rFrom,rTimes]) follows Try.func93 rfl 100 _ rfl (by simp) ?_ ha
      repeat' first
        | exact trivial
        | (refine And.intro (show regChk _ _ _ _ _=true from by kernel_rfl) (And.intro ?_ ?_))
        | (refine And.intro (fun _=>?_) (fun h=>absurd (show true=false from h) (by decide)))
        | (refine And.intro (fun h=>absurd (show false=true from h) (by decide)) (fun _=>?_))
        | (refine And.intro (fun hb=>?_) (fun hb'=>?_))
        | refine And.intro ?_ ?_
        | intro _
      all_goals first
        | (show (_:Int)=(_:Int);rfl)
        | (show (_:Bool)=(_:Bool);first|assumption|exact beq_iff_eq.2 (by assumption)|exact g2 (by assumption) (by assumption))
        | (show BI 20000 _;first|exact hx.mono (by decide)|exact BI.one.mono (by decide)|exact BI.mul (e:=1) (f:=5000) BI.one hx (by decide))
        | (show (-9223372036854775808:Int)≤1;decide)
        | (show (1:Int)<9223372036854775808;decide)
        | (show some (CR.tv (tI _))=some (CR.tv (tI _));exact wh_eq (by rw [Int.one_mul]))
        -- PVC
    · cases h
def rRoot:Con Try.prog where
  f:=57
  sem:=fun xs=>match xs with
    | [.agg [.neg a,.mag a'],.sc (.v (.int .i64 n))]=>some (a'=a∧n=2∧0≤a∧BI 1000 a,.tv (tI (isq a)))
    | _=>none
  ok := by
    intro xs p r' h hp
    refine ⟨⟨_,Try.func57,by kernel_rfl,rfl⟩,fun us w ha=>?_⟩
    split at h
    · rename_i a a' n
      cases h
      obtain ⟨rfl,rfl,h0,hx⟩:=hp
      refine fnl_ret (rootL a') (cxOk Try.prog intsR_ok [] [rFrom,rLen,rLeft,rPlus,rPow,rCmp]) follows Try.func57 rfl 100 _ rfl (by simp) ?_ ha
      repeat' first
        | exact trivial
        | (refine And.intro (show regChk _ _ _ _ _=true from by kernel_rfl) (And.intro ?_ ?_))
        | (refine And.intro (fun _=>?_) (fun h=>absurd (show true=false from h) (by decide)))
        | (refine And.intro (fun h=>absurd (show false=true from h) (by decide)) (fun _=>?_))
        | (refine And.intro (fun hb=>?_) (fun hb'=>?_))
        | refine And.intro ?_ ?_
        | intro _
      all_goals first
        | (show (_:Int)=(_:Int);rfl)
        | (show (_:Bool)=(_:Bool);first|assumption|exact beq_iff_eq.2 (by assumption)|exact g2 (by assumption) (by assumption))
        | (show (-9223372036854775808:Int)≤0;decide)
        | (show (-9223372036854775808:Int)≤1;decide)
        | (show (0:Int)<9223372036854775808;decide)
        | (show (1:Int)<9223372036854775808;decide)
        | (show (0:Int)≤1;decide)
        | (show (1:Int)≤6400;decide)
        | (show (1:Int)<18446744073709551616;decide)
        | (show (0:Int)≤2;decide)
        | (show (2:Int)<18446744073709551616;decide)
        | (show (0:Int)≤30;decide)
        | (show (30:Int)≤6400;decide)
        | (show (2:Int)=2;rfl)
        | (show (_:Nat)=(_:Nat);rfl)
        | (show False;omega)
        | (show wfB _ _=true;rfl)
        | (show (∃ v,atL (rootL a') v _);exact ⟨_,root_start h0 hx,⟨rfl,rfl,rfl,rfl,rfl,trivial⟩,⟨rfl,⟨rfl,rfl,trivial⟩,rfl,⟨rfl,rfl,trivial⟩,rfl,⟨rfl,rfl,trivial⟩,trivial⟩⟩)
        | (show (∃ v',(rootL a').μ v'<(rootL a').μ _∧atL (rootL a') v' _);first|exact ⟨_,(root_yes (by assumption) (by assumption) (by assumption)).1,(root_yes (by assumption) (by assumption) (by assumption)).2,⟨rfl,rfl,rfl,rfl,rfl,trivial⟩,⟨rfl,⟨rfl,rfl,trivial⟩,rfl,⟨rfl,rfl,trivial⟩,rfl,⟨rfl,rfl,trivial⟩,trivial⟩⟩|exact ⟨_,(root_no (by assumption) (by assumption) (by assumption)).1,(root_no (by assumption) (by assumption) (by assumption)).2,⟨rfl,rfl,rfl,rfl,rfl,trivial⟩,⟨rfl,⟨rfl,rfl,trivial⟩,rfl,⟨rfl,rfl,trivial⟩,rfl,⟨rfl,rfl,trivial⟩,trivial⟩⟩)
        | (show BI _ _;first|exact BI.mono hx (by decide)|exact BI.mono BI.one (by decide)|exact BI.mono (root_bd hx (by assumption)).1 (by decide)|exact BI.mono (root_bd hx (by assumption)).2.1 (by decide)|exact BI.mono (BI.add (e:=1000) (g:=1001) (root_bd hx (by assumption)).1 (BI.mono (root_bd hx (by assumption)).2.1 (by decide)) (by decide)) (by decide)|exact BI.mul (e:=1001) (f:=1001) (BI.add (e:=1000) (g:=1001) (root_bd hx (by assumption)).1 (BI.mono (root_bd hx (by assumption)).2.1 (by decide)) (by decide)) (BI.add (e:=1000) (g:=1001) (root_bd hx (by assumption)).1 (BI.mono (root_bd hx (by assumption)).2.1 (by decide)) (by decide)) (by decide))
        | (show (0:Int)≤_;exact of_decide_eq_true (by assumption))
        | (show (_:Int)≤6400;exact (root_bd hx (by assumption)).2.2)
        | (show some (CR.tv (tI _))=some (CR.tv (tI _));exact wh_eq (root_done (by assumption) (by assumption)))
        -- PVC
    · cases h
def qMake:Con Try.prog where
  f:=77
  sem:=fun xs=>match xs with
    | [.agg [.neg n,.mag n'],.sc (.mag d)]=>some (n'=n∧0<d∧BI 8000 n∧BI 8000 d,.tv (tRat (n/gcdI n d) (d/gcdI n d)))
    | _=>none
  ok := by
    intro xs p r' h hp
    refine ⟨⟨_,Try.func77,by kernel_rfl,rfl⟩,fun us w ha=>?_⟩
    split at h
    · rename_i n n' d
      cases h
      obtain ⟨rfl,h0,hn,hd⟩:=hp
      have gp:=gcd_pos n'.natAbs h0
      have gl:B 8000 (Nat.gcd n'.natAbs d.natAbs):=B.le hd (Nat.gcd_le_right _ (by omega))
      refine fn_ret (cxOk Try.prog intsR_ok [] [cNGcd,cNDivide,rMade]) follows Try.func77 rfl 100 _ rfl (by simp) ?_ ha
      repeat' first
        | exact trivial
        | (refine And.intro (show regChk _ _ _ _ _=true from by kernel_rfl) (And.intro ?_ ?_))
        | (refine And.intro (fun _=>?_) (fun h=>absurd (show true=false from h) (by decide)))
        | (refine And.intro (fun h=>absurd (show false=true from h) (by decide)) (fun _=>?_))
        | (refine And.intro (fun hb=>?_) (fun hb'=>?_))
        | refine And.intro ?_ ?_
        | intro _
      all_goals first
        | (show (_:Int)=(_:Int);rfl)
        | (show (_:Bool)=(_:Bool);first|assumption|exact beq_iff_eq.2 (by assumption)|exact g2 (by assumption) (by assumption))
        | (show B _ _;first|exact B.mono hn (by decide)|exact B.mono hd (by decide)|exact B.mono gl (by decide))
        | (show 0<Int.natAbs _;exact gp)
        | (show some (CR.tv (tRat _ _))=some (CR.tv (tRat _ _));exact rat_eq (by simp only [Int.natAbs_natCast];exact make_num (Nat.gcd_dvd_left _ _) gp) (by simp only [Int.natAbs_natCast];exact make_den (Int.le_of_lt h0)))
        -- PVC
    · cases h
def qFrom:Con Try.prog where
  f:=59
  sem:=fun xs=>match xs with
    | [.agg [.neg x,.mag x']]=>some (x'=x,.tv (tRat x 1))
    | _=>none
  ok := by
    intro xs p r' h hp
    refine ⟨⟨_,Try.func59,by kernel_rfl,rfl⟩,fun us w ha=>?_⟩
    split at h
    · rename_i x x'
      cases h
      obtain rfl:=hp
      refine fn_ret (cxOk Try.prog intsR_ok [] [cNOf]) follows Try.func59 rfl 100 _ rfl (by simp) ?_ ha
      repeat' first
        | exact trivial
        | (refine And.intro (show regChk _ _ _ _ _=true from by kernel_rfl) (And.intro ?_ ?_))
        | (refine And.intro (fun _=>?_) (fun h=>absurd (show true=false from h) (by decide)))
        | (refine And.intro (fun h=>absurd (show false=true from h) (by decide)) (fun _=>?_))
        | (refine And.intro (fun hb=>?_) (fun hb'=>?_))
        | refine And.intro ?_ ?_
        | intro _
      all_goals first
        | (show (_:Int)=(_:Int);rfl)
        | (show (_:Bool)=(_:Bool);first|assumption|exact beq_iff_eq.2 (by assumption)|exact g2 (by assumption) (by assumption))
        | (show (-9223372036854775808:Int)≤0;decide)
        | (show (-9223372036854775808:Int)≤1;decide)
        | (show (0:Int)<9223372036854775808;decide)
        | (show (1:Int)<9223372036854775808;decide)
        | (show (0:Int)≤1;decide)
        | (show (1:Int)≤6400;decide)
        | (show (1:Int)<18446744073709551616;decide)
        | (show (0:Int)≤2;decide)
        | (show (2:Int)<18446744073709551616;decide)
        | (show (0:Int)≤30;decide)
        | (show (30:Int)≤6400;decide)
        | (show (2:Int)=2;rfl)
        | (show (_:Nat)=(_:Nat);rfl)
        | (show some (CR.tv (tRat _ _))=some (CR.tv (tRat _ _));exact rat_eq rfl rfl)
        -- PVC
    · cases h
def qden:Con Try.prog where
  f:=118
  sem:=fun xs=>match xs with
    | [.agg [.neg x,.mag x',.mag d]]=>some (0≤d,.tv (tI d))
    | _=>none
  ok := by
    intro xs p r' h hp
    refine ⟨⟨_,Try.func118,by kernel_rfl,rfl⟩,fun us w ha=>?_⟩
    split at h
    · rename_i x x' d
      cases h
      refine fn_ret (cxOk Try.prog intsR_ok [] [rMade]) follows Try.func118 rfl 100 _ rfl (by simp) ?_ ha
      repeat' first
        | exact trivial
        | (refine And.intro (show regChk _ _ _ _ _=true from by kernel_rfl) (And.intro ?_ ?_))
        | (refine And.intro (fun _=>?_) (fun h=>absurd (show true=false from h) (by decide)))
        | (refine And.intro (fun h=>absurd (show false=true from h) (by decide)) (fun _=>?_))
        | (refine And.intro (fun hb=>?_) (fun hb'=>?_))
        | refine And.intro ?_ ?_
        | intro _
      all_goals first
        | (show (_:Int)=(_:Int);rfl)
        | (show (_:Bool)=(_:Bool);first|assumption|exact beq_iff_eq.2 (by assumption)|exact g2 (by assumption) (by assumption))
        | (show some (CR.tv (tI _))=some (CR.tv (tI _));exact wh_eq (ofS_false hp))
        -- PVC
    · cases h
def qFloor:Con Try.prog where
  f:=94
  sem:=fun xs=>match xs with
    | [.agg [.neg x,.mag x',.mag d]]=>some (x'=x∧0<d∧BI 8000 x∧BI 8000 d,.tv (tI (x/d)))
    | _=>none
  ok := by
    intro xs p r' h hp
    refine ⟨⟨_,Try.func94,by kernel_rfl,rfl⟩,fun us w ha=>?_⟩
    split at h
    · rename_i x x' d
      cases h
      obtain ⟨rfl,h0,hn,hd⟩:=hp
      refine fn_ret (cxOk Try.prog intsR_ok [] [qden,rDivide]) follows Try.func94 rfl 100 _ rfl (by simp) ?_ ha
      repeat' first
        | exact trivial
        | (refine And.intro (show regChk _ _ _ _ _=true from by kernel_rfl) (And.intro ?_ ?_))
        | (refine And.intro (fun _=>?_) (fun h=>absurd (show true=false from h) (by decide)))
        | (refine And.intro (fun h=>absurd (show false=true from h) (by decide)) (fun _=>?_))
        | (refine And.intro (fun hb=>?_) (fun hb'=>?_))
        | refine And.intro ?_ ?_
        | intro _
      all_goals first
        | (show (_:Int)=(_:Int);rfl)
        | (show (_:Bool)=(_:Bool);first|assumption|exact beq_iff_eq.2 (by assumption)|exact g2 (by assumption) (by assumption))
        | (show BI _ _;first|exact BI.mono hn (by decide)|exact BI.mono hd (by decide))
        | (show (0:Int)≤d;exact Int.le_of_lt h0)
        | (show (0:Int)<d;exact h0)
        | (show some (CR.tv (tI _))=some (CR.tv (tI _));rfl)
        -- PVC
    · cases h
def qCmp:Con Try.prog where
  f:=95
  sem:=fun xs=>match xs with
    | [.agg [.neg x,.mag x',.mag d],.agg [.neg y,.mag y',.mag e]]=>some (x'=x∧y'=y∧0≤d∧0≤e∧BI 4000 x∧BI 4000 d∧BI 4000 y∧BI 4000 e,.tv (tN .i64 (cmpI (x*e) (y*d))))
    | _=>none
  ok := by
    intro xs p r' h hp
    refine ⟨⟨_,Try.func95,by kernel_rfl,rfl⟩,fun us w ha=>?_⟩
    split at h
    · rename_i x x' d y y' e
      cases h
      obtain ⟨rfl,rfl,h0,h1,hx,hd,hy,he⟩:=hp
      refine fn_ret (cxOk Try.prog intsR_ok [] [qden,rTimes,rCmp]) follows Try.func95 rfl 100 _ rfl (by simp) ?_ ha
      repeat' first
        | exact trivial
        | (refine And.intro (show regChk _ _ _ _ _=true from by kernel_rfl) (And.intro ?_ ?_))
        | (refine And.intro (fun _=>?_) (fun h=>absurd (show true=false from h) (by decide)))
        | (refine And.intro (fun h=>absurd (show false=true from h) (by decide)) (fun _=>?_))
        | (refine And.intro (fun hb=>?_) (fun hb'=>?_))
        | refine And.intro ?_ ?_
        | intro _
      all_goals first
        | (show (_:Int)=(_:Int);rfl)
        | (show (_:Bool)=(_:Bool);first|assumption|exact beq_iff_eq.2 (by assumption)|exact g2 (by assumption) (by assumption))
        | (show BI _ _;first|exact BI.mono hx (by decide)|exact BI.mono hd (by decide)|exact BI.mono hy (by decide)|exact BI.mono he (by decide)|exact BI.mono (BI.mul hx he (Nat.le_refl _)) (by decide)|exact BI.mono (BI.mul hy hd (Nat.le_refl _)) (by decide))
        | (show (0:Int)≤d;exact h0)
        | (show (0:Int)≤e;exact h1)
        | (show some (CR.tv (tN _ _))=some (CR.tv (tN _ _));rfl)
        -- PVC
    · cases h
def qTimes:Con Try.prog where
  f:=96
  sem:=fun xs=>match xs with
    | [.agg [.neg x,.mag x',.mag d],.agg [.neg y,.mag y',.mag e]]=>some (x'=x∧y'=y∧0<d∧0<e∧BI 4000 x∧BI 4000 d∧BI 4000 y∧BI 4000 e,.tv (tRat (x*y/gcdI (x*y) (d*e)) (d*e/gcdI (x*y) (d*e))))
    | _=>none
  ok := by
    intro xs p r' h hp
    refine ⟨⟨_,Try.func96,by kernel_rfl,rfl⟩,fun us w ha=>?_⟩
    split at h
    · rename_i x x' d y y' e
      cases h
      obtain ⟨rfl,rfl,h0,h1,hx,hd,hy,he⟩:=hp
      have hde:=den_mul h0 h1
      have b1:BI 8000 (((d.natAbs*e.natAbs:Nat):Int)):=by rw [hde];exact BI.mul hd he (Nat.le_refl _)
      refine fn_ret (cxOk Try.prog intsR_ok [] [qMake,rTimes,cNTimes]) follows Try.func96 rfl 100 _ rfl (by simp) ?_ ha
      repeat' first
        | exact trivial
        | (refine And.intro (show regChk _ _ _ _ _=true from by kernel_rfl) (And.intro ?_ ?_))
        | (refine And.intro (fun _=>?_) (fun h=>absurd (show true=false from h) (by decide)))
        | (refine And.intro (fun h=>absurd (show false=true from h) (by decide)) (fun _=>?_))
        | (refine And.intro (fun hb=>?_) (fun hb'=>?_))
        | refine And.intro ?_ ?_
        | intro _
      all_goals first
        | (show (_:Int)=(_:Int);rfl)
        | (show (_:Bool)=(_:Bool);first|assumption|exact beq_iff_eq.2 (by assumption)|exact g2 (by assumption) (by assumption))
        | (show BI _ _;first|exact BI.mono hx (by decide)|exact BI.mono hd (by decide)|exact BI.mono hy (by decide)|exact BI.mono he (by decide)|exact BI.mono (BI.mul hx hy (Nat.le_refl _)) (by decide)|exact BI.mono b1 (by decide))
        | (show B _ _;first|exact B.mono hx (by decide)|exact B.mono hd (by decide)|exact B.mono hy (by decide)|exact B.mono he (by decide))
        | (show (0:Int)<((_*_:Nat):Int);rw [hde];exact Int.mul_pos h0 h1)
        | (show some (CR.tv (tRat _ _))=some (CR.tv (tRat _ _));exact rat_eq (by rw [hde]) (by rw [hde]))
        -- PVC
    · cases h
def gMay:Con Try.prog where
  f:=14
  sem:=fun xs=>match xs with
    | [.sc (.v (.int .i64 v))]=>some (True,.tv (tB (wd v)))
    | _=>none
  ok := by
    intro xs p r' h hp
    refine ⟨⟨_,Try.func14,by kernel_rfl,rfl⟩,fun us w ha=>?_⟩
    split at h
    · rename_i v
      cases h
      refine fn_ret (cxOk Try.prog intsR_ok [] []) follows Try.func14 rfl 100 _ rfl (by simp) ?_ ha
      repeat' first
        | exact trivial
        | (refine And.intro (show regChk _ _ _ _ _=true from by kernel_rfl) (And.intro ?_ ?_))
        | (refine And.intro (fun _=>?_) (fun h=>absurd (show true=false from h) (by decide)))
        | (refine And.intro (fun h=>absurd (show false=true from h) (by decide)) (fun _=>?_))
        | (refine And.intro (fun hb=>?_) (fun hb'=>?_))
        | refine And.intro ?_ ?_
        | intro _
      all_goals first
        | (show (_:Int)=(_:Int);rfl)
        | (show (_:Bool)=(_:Bool);first|assumption|exact beq_iff_eq.2 (by assumption)|exact g2 (by assumption) (by assumption))
        | (show some (CR.tv (tB _))=some (CR.tv (tB _));exact tB_eq (may_eq v))
        -- PVC
    · cases h
def gWord:Con Try.prog where
  f:=53
  sem:=fun xs=>match xs with
    | [.agg [.neg x,.mag x']]=>some (x'=x,.tv (tNN (toldR x).1 (toldR x).2))
    | _=>none
  ok := by
    intro xs p r' h hp
    refine ⟨⟨_,Try.func53,by kernel_rfl,rfl⟩,fun us w ha=>?_⟩
    split at h
    · rename_i x x'
      cases h
      obtain rfl:=hp
      refine fn_ret (cxOk Try.prog intsR_ok [] [rSmall,gMay]) follows Try.func53 rfl 100 _ rfl (by simp) ?_ ha
      repeat' first
        | exact trivial
        | (refine And.intro (show regChk _ _ _ _ _=true from by kernel_rfl) (And.intro ?_ ?_))
        | (refine And.intro (fun _=>?_) (fun h=>absurd (show true=false from h) (by decide)))
        | (refine And.intro (fun h=>absurd (show false=true from h) (by decide)) (fun _=>?_))
        | (refine And.intro (fun hb=>?_) (fun hb'=>?_))
        | refine And.intro ?_ ?_
        | intro _
      all_goals first
        | (show (_:Int)=(_:Int);rfl)
        | (show (_:Bool)=(_:Bool);first|assumption|exact beq_iff_eq.2 (by assumption)|exact g2 (by assumption) (by assumption))
        | (show some (CR.tv (tNN _ _))=some (CR.tv (tNN _ _));first|exact nn_eq (gtold0 (by assumption))|exact nn_eq (gtold1 (by assumption)))
        -- PVC
    · cases h
def gRootNear:Con Try.prog where
  f:=58
  sem:=fun xs=>match xs with
    | [.agg [.neg x,.mag x',.mag d]]=>some (x'=x∧0≤x∧0<d∧BI 900 x∧BI 900 d,.tv (tI (nearR x d)))
    | _=>none
  ok := by
    intro xs p r' h hp
    refine ⟨⟨_,Try.func58,by kernel_rfl,rfl⟩,fun us w ha=>?_⟩
    split at h
    · rename_i x x' d
      cases h
      obtain ⟨rfl,h0,hd0,hn,hd⟩:=hp
      have hq:0≤x'/d:=Int.ediv_nonneg h0 (Int.le_of_lt hd0)
      have hk:=(isq_spec hq).1
      obtain ⟨hA,hE,hC,hD⟩:=rn_vals hk
      have b1:BI 900 (isq (x'/d)):=B.le (hn.div d) (by have:=isq_self hq;omega)
      have b2:BI 901 ((isq (x'/d))*2 ^ Int.toNat 1):=BI.shl 1 b1 (by decide)
      have b3:BI 902 ((isq (x'/d))*2 ^ Int.toNat 1+1):=BI.add b2 (BI.one.mono (by decide)) (by decide)
      have bA:BI 902 (rnA (isq (x'/d))):=by rw [hA];exact b3
      have bE:BI 902 (rnE (isq (x'/d))):=by rw [hE];exact b22.mono (by decide)
      have bC:BI 1804 (rnC (isq (x'/d))):=by rw [hC];exact BI.mul b3 b3 (by decide)
      have bD:BI 902 (rnD (isq (x'/d))):=by rw [hD];exact BI.mono (e:=3) (show (4:Int).natAbs<2 ^ 3 by decide) (by decide)
      have b4:BI 900 ((isq (x'/d))/2 ^ Int.toNat 1):=b1.div _
      have b5:BI 901 ((isq (x'/d))/2 ^ Int.toNat 1*2 ^ Int.toNat 1):=BI.shl 1 b4 (by decide)
      have hE':rnE (isq (x'/d))=2:=hE
      have hD':rnD (isq (x'/d))=4:=hD
      refine fn_ret (cxOk Try.prog intsR_ok [] [qFloor,rRoot,rLeft,rFrom,rPlus,cNOf,qMake,qTimes,qCmp,rCmp,rRight]) follows Try.func58 rfl 100 _ rfl (by simp) ?_ ha
      repeat' first
        | exact trivial
        | (refine And.intro (show regChk _ _ _ _ _=true from by kernel_rfl) (And.intro ?_ ?_))
        | (refine And.intro (fun _=>?_) (fun h=>absurd (show true=false from h) (by decide)))
        | (refine And.intro (fun h=>absurd (show false=true from h) (by decide)) (fun _=>?_))
        | (refine And.intro (fun hb=>?_) (fun hb'=>?_))
        | refine And.intro ?_ ?_
        | intro _
      all_goals first
        | (show (_:Int)=(_:Int);rfl)
        | (show (_:Bool)=(_:Bool);first|assumption|exact beq_iff_eq.2 (by assumption)|exact g2 (by assumption) (by assumption))
        | (show (-9223372036854775808:Int)≤0;decide)
        | (show (-9223372036854775808:Int)≤1;decide)
        | (show (0:Int)<9223372036854775808;decide)
        | (show (1:Int)<9223372036854775808;decide)
        | (show (0:Int)≤1;decide)
        | (show (1:Int)≤6400;decide)
        | (show (1:Int)<18446744073709551616;decide)
        | (show (0:Int)≤2;decide)
        | (show (2:Int)<18446744073709551616;decide)
        | (show (0:Int)≤30;decide)
        | (show (30:Int)≤6400;decide)
        | (show (2:Int)=2;rfl)
        | (show (_:Nat)=(_:Nat);rfl)
        | (show (0:Int)<d;exact hd0)
        | (show (0:Int)≤d;exact Int.le_of_lt hd0)
        | (show (0:Int)≤x'/d;exact hq)
        | (show (0:Int)<((Int.toNat 2:Nat):Int);decide)
        | (show (0:Int)<rnE (isq (x'/d));rw [hE];decide)
        | (show (0:Int)≤rnD (isq (x'/d));rw [hD];decide)
        | (show BI _ _;first|exact BI.mono hn (by decide)|exact BI.mono hd (by decide)|exact BI.mono (hn.div d) (by decide)|exact BI.mono b1 (by decide)|exact BI.mono b2 (by decide)|exact BI.mono b3 (by decide)|exact BI.mono BI.one (by decide)|exact BI.mono bA (by decide)|exact BI.mono bE (by decide)|exact BI.mono bC (by decide)|exact BI.mono bD (by decide)|exact BI.mono b4 (by decide)|exact BI.mono b5 (by decide)|exact BI.mono (show BI 2 ((Int.toNat 2:Nat):Int) from b22) (by decide))
        | (show some (CR.tv (tI _))=some (CR.tv (tI _));first|exact wh_eq (rn_yes h0 hd0 (by assumption))|exact wh_eq (rn_no h0 hd0 (by assumption)))
        -- PVC
    · cases h
def gSqrt:Con Try.prog where
  f:=31
  sem:=fun xs=>match xs with
    | [.sc (.v (.int .i64 a))]=>some (0≤a∧(-9223372036854775808≤a∧a<9223372036854775808),.tv (tN .i64 (isq a)))
    | _=>none
  ok := by
    intro xs p r' h hp
    refine ⟨⟨_,Try.func31,by kernel_rfl,rfl⟩,fun us w ha=>?_⟩
    split at h
    · rename_i a
      cases h
      obtain ⟨h0,pa⟩:=hp
      refine fn_ret (cxOk Try.prog intsR_ok [] [rFrom,rRoot,rSmall]) follows Try.func31 rfl 100 _ rfl (by simp) ?_ ha
      repeat' first
        | exact trivial
        | (refine And.intro (show regChk _ _ _ _ _=true from by kernel_rfl) (And.intro ?_ ?_))
        | (refine And.intro (fun _=>?_) (fun h=>absurd (show true=false from h) (by decide)))
        | (refine And.intro (fun h=>absurd (show false=true from h) (by decide)) (fun _=>?_))
        | (refine And.intro (fun hb=>?_) (fun hb'=>?_))
        | refine And.intro ?_ ?_
        | intro _
      all_goals first
        | (show (_:Int)=(_:Int);rfl)
        | (show (_:Bool)=(_:Bool);first|assumption|exact beq_iff_eq.2 (by assumption)|exact g2 (by assumption) (by assumption))
        | (show (-9223372036854775808:Int)≤0;decide)
        | (show (-9223372036854775808:Int)≤1;decide)
        | (show (0:Int)<9223372036854775808;decide)
        | (show (1:Int)<9223372036854775808;decide)
        | (show (0:Int)≤1;decide)
        | (show (1:Int)≤6400;decide)
        | (show (1:Int)<18446744073709551616;decide)
        | (show (0:Int)≤2;decide)
        | (show (2:Int)<18446744073709551616;decide)
        | (show (0:Int)≤30;decide)
        | (show (30:Int)≤6400;decide)
        | (show (2:Int)=2;rfl)
        | (show (_:Nat)=(_:Nat);rfl)
        | (with_reducible exact pa.1)
        | (with_reducible exact pa.2)
        | (show (0:Int)≤a;exact h0)
        | (show BI _ _;exact BI.mono (BI.i64 pa) (by decide))
        | (show some (CR.tv (tN _ _))=some (CR.tv (tN _ _));exact tN_eq (by rw [isq_small h0 pa.2]))
        -- PVC
    · cases h
def gRoot:Con Try.prog where
  f:=32
  sem:=fun xs=>match xs with
    | [.sc (.v (.int .i64 a))]=>some (0≤a∧(-9223372036854775808≤a∧a<9223372036854775808),.tv (tNN (toldR (nearR (a*1073741824) 1)).1 (toldR (nearR (a*1073741824) 1)).2))
    | _=>none
  ok := by
    intro xs p r' h hp
    refine ⟨⟨_,Try.func32,by kernel_rfl,rfl⟩,fun us w ha=>?_⟩
    split at h
    · rename_i a
      cases h
      obtain ⟨h0,pa⟩:=hp
      refine fn_ret (cxOk Try.prog intsR_ok [] [rFrom,rLeft,qFrom,gRootNear,gWord]) follows Try.func32 rfl 100 _ rfl (by simp) ?_ ha
      repeat' first
        | exact trivial
        | (refine And.intro (show regChk _ _ _ _ _=true from by kernel_rfl) (And.intro ?_ ?_))
        | (refine And.intro (fun _=>?_) (fun h=>absurd (show true=false from h) (by decide)))
        | (refine And.intro (fun h=>absurd (show false=true from h) (by decide)) (fun _=>?_))
        | (refine And.intro (fun hb=>?_) (fun hb'=>?_))
        | refine And.intro ?_ ?_
        | intro _
      all_goals first
        | (show (_:Int)=(_:Int);rfl)
        | (show (_:Bool)=(_:Bool);first|assumption|exact beq_iff_eq.2 (by assumption)|exact g2 (by assumption) (by assumption))
        | (show (-9223372036854775808:Int)≤0;decide)
        | (show (-9223372036854775808:Int)≤1;decide)
        | (show (0:Int)<9223372036854775808;decide)
        | (show (1:Int)<9223372036854775808;decide)
        | (show (0:Int)≤1;decide)
        | (show (1:Int)≤6400;decide)
        | (show (1:Int)<18446744073709551616;decide)
        | (show (0:Int)≤2;decide)
        | (show (2:Int)<18446744073709551616;decide)
        | (show (0:Int)≤30;decide)
        | (show (30:Int)≤6400;decide)
        | (show (2:Int)=2;rfl)
        | (show (_:Nat)=(_:Nat);rfl)
        | (with_reducible exact pa.1)
        | (with_reducible exact pa.2)
        | (show (0:Int)≤a*2 ^ _;show 0≤a*1073741824;omega)
        | (show (0:Int)<1;decide)
        | (show BI _ _;first|exact BI.mono (BI.i64 pa) (by decide)|exact BI.mono BI.one (by decide)|exact BI.mono (BI.shl 30 (BI.i64 pa) (Nat.le_refl _)) (by decide))
        | (show some (CR.tv (tNN _ _))=some (CR.tv (tNN _ _));rfl)
        -- PVC
    · cases h
end
end Go.Proofs.Ythokdnheijnmmaa.Wh
end
section
set_option linter.unusedVariables false
set_option linter.unusedSimpArgs false
namespace Go.Proofs.Ythokdnheijnmmaa.Wh
open Go Go.RowKit Go.Proofs.YthokdnheijnmmaaW.PrintWords Go.Proofs.YthokdnheijnmmaaW.PrintMore Go.Proofs.YthokdnheijnmmaaW.Aid Go.Proofs.YthokdnheijnmmaaW.Big Go.Proofs.YthokdnheijnmmaaW.Sx Go.Proofs.Ythokdnheijnmmaa.BitsWalk Go.Proofs.Ythokdnheijnmmaa.Limbs Go.Proofs.Ythokdnheijnmmaa.Whole Go.Proofs.Ythokdnheijnmmaa.FxWalk Go.Proofs
def mulR (a b:Int):Int × Int:=if (wd a&&wd b)=true then toldR (roundP (a*b) 1073741824) else (0,1)
def isR (v e w b:Int):Bool:=decide (e=b)&&(v == w)
theorem is_bif (v e w b:Int):(bif e == b then v == w else false)=isR v e w b:=by
  unfold isR
  by_cases h:e=b
  · rw [decide_eq_true h,h];simp
  · rw [decide_eq_false h];simp [h]
theorem Ret.pair {f:FuncId} {us:Array Value} {w:World} {p:Int × Int} (h:Calls Try.prog f us w fun e w'=>e = .returned (.tuple #[.int .i64 p.1,.int .i64 p.2])∧Below w.heap.size w w'):Ret Try.prog f us w (.tv (tNN p.1 p.2)) :=
  h.mono fun _ _ ⟨he,hb⟩=>⟨_,he,⟨[_,_],rfl,.cons ⟨_,rfl,rfl⟩ (.cons ⟨_,rfl,rfl⟩ .nil)⟩,hb⟩
section
set_option maxRecDepth 100000
set_option maxHeartbeats 1000000
def cFMul:Con Try.prog:=conNN 13 (fun _ _=>True) (fun a b => .tv (tNN (mulR a b).1 (mulR a b).2)) ⟨_,Try.func13,by kernel_rfl,rfl⟩ (fun a b w _=>by
  refine Ret.pair ?_
  cases hw:(wd a&&wd b) with
  | true =>
    have h2:=hw
    rw [Bool.and_eq_true] at h2
    have:=mul_yes a b w h2.1 h2.2
    rw [timesR_eq] at this
    rw [show mulR a b=_ from if_pos hw]
    exact this
  | false =>
    rw [show mulR a b=_ from if_neg (by rw [hw];decide)]
    exact mul_no a b w hw)
def cNum:Con Try.prog:=conN 19 (fun _=>True) (fun a => .tv (tN .i64 a)) ⟨_,Try.func19,by kernel_rfl,rfl⟩ (fun a w hl=>by
  refine fn_ret (cxOk Try.prog ints_ok [] []) follows Try.func19 rfl 100 _ rfl (by simp) ?_ (xs:=[tN .i64 a]) (.cons rfl .nil)
  repeat' first
    | exact trivial
    | (refine And.intro (show regChk _ _ _ _ _=true from by kernel_rfl) (And.intro ?_ ?_))
    | (refine And.intro (fun _=>?_) (fun h=>absurd (show true=false from h) (by decide)))
    | (refine And.intro (fun h=>absurd (show false=true from h) (by decide)) (fun _=>?_))
    | (refine And.intro (fun hb=>?_) (fun hb'=>?_))
    | refine And.intro ?_ ?_
    | intro _
  all_goals first
    | (show some (CR.tv (tN _ _))=some (CR.tv (tN _ _));rfl)
    -- PVC
  )
def cIs : Con Try.prog where
  f:=16
  sem:=fun xs=>match xs with
    | [.sc (.v (.int .i64 v)),.sc (.v (.int .i64 e)),.sc (.v (.int .i64 u)),.sc (.v (.int .i64 b))]=>some (True,.tv (tB (isR v e u b)))
    | _=>none
  ok := by
    intro xs p r' h hp
    refine ⟨⟨_,Try.func16,by kernel_rfl,rfl⟩,fun us w ha=>?_⟩
    split at h
    · rename_i v e u b
      cases h
      refine fn_ret (cxOk Try.prog ints_ok [] [cNum]) follows Try.func16 rfl 100 _ rfl (by simp) ?_ ha
      repeat' first
        | exact trivial
        | (refine And.intro (show regChk _ _ _ _ _=true from by kernel_rfl) (And.intro ?_ ?_))
        | (refine And.intro (fun _=>?_) (fun h=>absurd (show true=false from h) (by decide)))
        | (refine And.intro (fun h=>absurd (show false=true from h) (by decide)) (fun _=>?_))
        | (refine And.intro (fun hb=>?_) (fun hb'=>?_))
        | refine And.intro ?_ ?_
        | intro _
      all_goals first
        | (show (_:Bool)=(_:Bool);first|assumption|exact beq_iff_eq.2 (by assumption))
        | (show some (CR.tv (tB _))=some (CR.tv (tB _));exact tB_eq (is_bif v e u b))
        -- PVC
    · cases h
end
end Go.Proofs.Ythokdnheijnmmaa.Wh
end
section
set_option linter.unusedVariables false
set_option linter.unusedSimpArgs false
namespace Go.Proofs.Ythokdnheijnmmaa.Wh
open Go Go.RowKit Go.Proofs.YthokdnheijnmmaaW.PrintWords Go.Proofs.YthokdnheijnmmaaW.PrintMore Go.Proofs.YthokdnheijnmmaaW.Aid Go.Proofs.YthokdnheijnmmaaW.Big Go.Proofs.YthokdnheijnmmaaW.Sx Go.Proofs.Ythokdnheijnmmaa.BitsWalk Go.Proofs.Ythokdnheijnmmaa.Limbs Go.Proofs.Ythokdnheijnmmaa.Whole Go.Proofs.Ythokdnheijnmmaa.FxWalk Go.Proofs
abbrev In64 (g:Nat→Int):Prop:=∀ j,-9223372036854775808≤g j∧g j<9223372036854775808
abbrev row6 (a b c d e f:Nat→Int):Nat→List A0:=fun j=>[.v (.int .i64 (a j)),.v (.int .i64 (b j)),.v (.int .i64 (c j)),.v (.int .i64 (d j)),.v (.int .i64 (e j)),.v (.int .i64 (f j))]
def lawL (m n:Nat) (r:Nat→List A0) (q:Nat):LI Int where
  gs:=fun i=>[(0,.rowF n m r),(q,tB false),(q+1,tN .i64 i)]
  bs:=fun i=>[]
  I:=fun i=>0≤i∧i≤(n:Int)
  μ:=fun i=>((n:Int)-i).toNat
theorem wrap1 {i:Int} (h0:0≤i) (h:i≤100000000000000000):IntKind.i64.wrap (i+1)=i+1:=by rw [i64_wrap];exact wrap64_id (by omega) (by omega)
section
set_option maxRecDepth 100000
set_option maxHeartbeats 4000000
def cWakes:Con Try.prog:=con0 17 (.tv (tB true)) ⟨_,Try.func17,by kernel_rfl,rfl⟩ (fun w=>by
  refine fn_ret (cxOk Try.prog ints_ok [] [cFMul,cNum]) follows Try.func17 rfl 100 _ rfl (by simp) ?_ (xs:=[]) .nil
  repeat' first
    | exact trivial
    | (refine And.intro (show regChk _ _ _ _ _=true from by kernel_rfl) (And.intro ?_ ?_))
    | (refine And.intro (fun _=>?_) (fun h=>absurd (show true=false from h) (by decide)))
    | (refine And.intro (fun h=>absurd (show false=true from h) (by decide)) (fun _=>?_))
    | (refine And.intro (fun hb=>?_) (fun hb'=>?_))
    | refine And.intro ?_ ?_
    | intro _
  all_goals first
    | (show (_:Bool)=(_:Bool);first|assumption|exact beq_iff_eq.2 (by assumption))
    | (show some (CR.tv (tB _))=some (CR.tv (tB true));exact tB_eq (by decide +kernel))
    -- PVC
  )
theorem no {c:Bool} (h:c=false) (hb:c=true):False:=by rw [h] at hb;exact absurd hb (by decide)
theorem is_self (v e:Int):(!isR v e v e)=false:=by simp [isR]
theorem hC1 {v:Int} {n:Nat} (h:(bif decide (v<(n:Int)) then decide (v<30) else false)=true):v<n∧v<30:=by
  by_cases h1:v<(n:Int)
  · rw [decide_eq_true h1] at h;exact ⟨h1,of_decide_eq_true h⟩
  · rw [decide_eq_false h1] at h;exact absurd (show false=true from h) (by decide)
theorem stepL {m n q:Nat} {r:Nat→List A0} {v:Int} (hv:(lawL m n r q).I v) (hC:(bif decide (v<(n:Int)) then decide (v<30) else false)=true):(lawL m n r q).μ (IntKind.i64.wrap (v+1))<(lawL m n r q).μ v∧(lawL m n r q).I (IntKind.i64.wrap (v+1)):=by
  have h1:=hC1 hC
  have h0:0≤v∧v≤(n:Int):=hv
  rw [wrap1 h0.1 (by omega)]
  exact ⟨show ((n:Int)-(v+1)).toNat<((n:Int)-v).toNat by omega,show 0≤v+1∧v+1≤(n:Int) by omega⟩
end
end Go.Proofs.Ythokdnheijnmmaa.Wh
end
section
namespace Go.Proofs.Ythokdnheijnmmaa.QFxE
open Go.RowKit Go.Proofs.YthokdnheijnmmaaW.PrintWords Go.Proofs.YthokdnheijnmmaaW.PrintLast Go.Proofs.YthokdnheijnmmaaW.PrintMore
attribute [local go_sem] max2_int min2_int max_two min_two max_three min_three max_four min_four   -- for this text's walks alone
set_option linter.unusedVariables false
set_option linter.unusedSimpArgs false
structure S24 where
  f0:Int
  f1:Int
  f2:Int
  f3:Int
  f4:Int
  f5:Int
def z24:S24:=⟨(0:Int),(0:Int),(0:Int),(0:Int),(0:Int),(0:Int)⟩
def k24:Kd S24:=Kd.iso (Kd.pair (Kd.int .i64) (Kd.pair (Kd.int .i64) (Kd.pair (Kd.int .i64) (Kd.pair (Kd.int .i64) (Kd.pair (Kd.int .i64) (Kd.int .i64)))))) (fun x:S24=>(x.f0,x.f1,x.f2,x.f3,x.f4,x.f5))
theorem k24_open {w:World} {x:S24} {cs:List Value} (h:k24.K w x cs):cs=[.int .i64 x.f0,.int .i64 x.f1,.int .i64 x.f2,.int .i64 x.f3,.int .i64 x.f4,.int .i64 x.f5]:=by
  obtain ⟨_,_,rfl,rfl,⟨_,_,rfl,rfl,⟨_,_,rfl,rfl,⟨_,_,rfl,rfl,⟨_,_,rfl,rfl,rfl⟩⟩⟩⟩⟩:=h
  exact rfl
end Go.Proofs.Ythokdnheijnmmaa.QFxE
end
section
set_option linter.unusedVariables false
set_option linter.unusedSimpArgs false
namespace Go.Proofs.Ythokdnheijnmmaa.Wh
open Go Go.RowKit Go.Proofs.Ythokdnheijnmmaa.QFxE Go.Proofs.YthokdnheijnmmaaW.PrintWords Go.Proofs.YthokdnheijnmmaaW.PrintMore Go.Proofs.YthokdnheijnmmaaW.Aid Go.Proofs.YthokdnheijnmmaaW.Big Go.Proofs.YthokdnheijnmmaaW.Sx Go.Proofs
def G24 (x:S24):Prop:=(fun n=>(Lit.int .i64 n).wf=true) x.f0∧(fun n=>(Lit.int .i64 n).wf=true) x.f1∧(fun n=>(Lit.int .i64 n).wf=true) x.f2∧(fun n=>(Lit.int .i64 n).wf=true) x.f3∧(fun n=>(Lit.int .i64 n).wf=true) x.f4∧(fun n=>(Lit.int .i64 n).wf=true) x.f5
abbrev at24 (l:List S24) (j:Nat):S24:=l.getD j z24
theorem at24_g {l:List S24} (h:∀ x∈l,G24 x) (j:Nat):G24 (at24 l j):=by
  unfold at24;rw [List.getD_eq_getElem?_getD]
  cases e:l[j]? with
  | none=>exact ⟨rfl,rfl,rfl,rfl,rfl,rfl⟩
  | some x=>exact h x (List.mem_of_getElem? e)
theorem i64w {n:Int} (h:(Lit.int .i64 n).wf=true) : -9223372036854775808≤n∧n<9223372036854775808:=by
  have h1:=wf_i64 h
  omega
abbrev rows24 (l:List S24):Nat→List A0:=row6 (fun j=>(at24 l j).f0) (fun j=>(at24 l j).f1) (fun j=>(at24 l j).f2) (fun j=>(at24 l j).f3) (fun j=>(at24 l j).f4) (fun j=>(at24 l j).f5)
theorem reads24 {w:World} {A:Option Addr} {c:Nat} {l:List S24} (hC:Kd.C k24 w A l.length l) (hle:l.length≤c) {β:Nat→Nat}:TV.reads β w.heap.size w (.rowF l.length 6 (rows24 l)) (.slice A l.length c):=by
  refine ⟨A,c,rfl,hle,fun h0=>?_⟩
  obtain ⟨ad,cs,e,_,hK,hc⟩:=Kd.C_get hC z24 0 (Int.le_refl _) (by omega)
  have hb:ad.block<w.heap.size:=by
    obtain rfl:=k24_open hK
    have:=World.block_lt_of_cell? w _ (hc 0 _ rfl)
    exact this
  refine ⟨ad,e,hb,fun i hi=>?_⟩
  obtain ⟨ad',cs',e',_,hK',hc'⟩:=Kd.C_get hC z24 i (Int.natCast_nonneg _) (by omega)
  obtain rfl:ad'=ad:=by rw [e] at e';exact (Option.some.inj e').symm
  obtain rfl:=k24_open hK'
  intro j q hj
  have key:∀ u,([.int .i64 (l.getD (Int.toNat (i:Int)) z24).f0,.int .i64 (l.getD (Int.toNat (i:Int)) z24).f1,.int .i64 (l.getD (Int.toNat (i:Int)) z24).f2,.int .i64 (l.getD (Int.toNat (i:Int)) z24).f3,.int .i64 (l.getD (Int.toNat (i:Int)) z24).f4,.int .i64 (l.getD (Int.toNat (i:Int)) z24).f5]:List Value)[j]?=some u→q = .v u→∃ x,w.cell? ((ad'.add (i*6)).add j)=some x∧q.reads w x:=by
    intro u hu hq
    subst hq
    refine ⟨u,?_,rfl⟩
    have h1:w.cell? (ad'.add (i*6+j))=some u:=hc' j u hu
    rw [Addr.add_add];exact h1
  match j,hj with
  | 0,hj=>exact key _ rfl (Option.some.inj hj).symm
  | 1,hj=>exact key _ rfl (Option.some.inj hj).symm
  | 2,hj=>exact key _ rfl (Option.some.inj hj).symm
  | 3,hj=>exact key _ rfl (Option.some.inj hj).symm
  | 4,hj=>exact key _ rfl (Option.some.inj hj).symm
  | 5,hj=>exact key _ rfl (Option.some.inj hj).symm
theorem args24 {w:World} {A:Option Addr} {c:Nat} {l:List S24} (hC:Kd.C k24 w A l.length l) (hle:l.length≤c):All2 (TV.reads (fun _=>0) w.heap.size w) [.rowF l.length 6 (rows24 l)] [.slice A l.length c] := .cons (reads24 hC hle) .nil
end Go.Proofs.Ythokdnheijnmmaa.Wh
end
section
set_option linter.unusedVariables false
set_option linter.unusedSimpArgs false
namespace Go.Proofs.Ythokdnheijnmmaa.Wh
open Go Go.RowKit Go.Proofs.YthokdnheijnmmaaW.PrintWords Go.Proofs.YthokdnheijnmmaaW.PrintMore Go.Proofs.YthokdnheijnmmaaW.Aid Go.Proofs.YthokdnheijnmmaaW.Big Go.Proofs.YthokdnheijnmmaaW.Sx Go.Proofs.Ythokdnheijnmmaa.BitsWalk Go.Proofs.Ythokdnheijnmmaa.Limbs Go.Proofs.Ythokdnheijnmmaa.Whole Go.Proofs.Ythokdnheijnmmaa.FxWalk Go.Proofs
def clampB (v lo hi:Int):Bool:=bif !(allw [v,lo,hi]) then true else decide (lo>hi)
def clampR (v lo hi:Int):Int × Int:=if clampB v lo hi=true then (0,1) else (if (if hi<v then hi else v)>lo then (if hi<v then hi else v) else lo,0)
theorem clamp1 {v lo hi:Int} (h:clampB v lo hi=true):((0:Int),(1:Int))=((clampR v lo hi).1,(clampR v lo hi).2):=by unfold clampR;rw [if_pos h]
theorem clamp0 {v lo hi:Int} (h:clampB v lo hi=false):((if (if hi<v then hi else v)>lo then (if hi<v then hi else v) else lo),(0:Int))=((clampR v lo hi).1,(clampR v lo hi).2):=by unfold clampR;rw [if_neg (show ¬ clampB v lo hi=true by rw [h];decide)]
section
set_option maxRecDepth 100000
set_option maxHeartbeats 4000000
def cFClamp:Con Try.prog where
  f:=18
  sem:=fun xs=>match xs with
    | [.sc (.v (.int .i64 v)),.sc (.v (.int .i64 e)),.sc (.v (.int .i64 u))]=>some (True,.tv (tNN (clampR v e u).1 (clampR v e u).2))
    | _=>none
  ok := by
    intro xs p r' h hp
    refine ⟨⟨_,Try.func18,by kernel_rfl,rfl⟩,fun us w ha=>?_⟩
    split at h
    · rename_i v e u
      cases h
      refine fn_ret (cxOk Try.prog ints_ok [] [cAll]) follows Try.func18 rfl 100 _ rfl (by simp) ?_ ha
      repeat' first
        | exact trivial
        | (refine And.intro (show regChk _ _ _ _ _=true from by kernel_rfl) (And.intro ?_ ?_))
        | (refine And.intro (fun _=>?_) (fun h=>absurd (show true=false from h) (by decide)))
        | (refine And.intro (fun h=>absurd (show false=true from h) (by decide)) (fun _=>?_))
        | (refine And.intro (fun hb=>?_) (fun hb=>?_))
        | refine And.intro ?_ ?_
        | intro _
      all_goals first
        | (show (_:Bool)=(_:Bool);first|assumption|exact beq_iff_eq.2 (by assumption))
        | (show (3:Nat)=3;rfl)
        | (show (3:Nat)≤1000;decide)
        | (show some (CR.tv (tNN _ _))=some (CR.tv (tNN _ _));first|exact nn_eq (clamp1 hb)|exact nn_eq (clamp0 hb))
        -- PVC
    · cases h
theorem r_neg {a:Int} (h:(bif !wd a then true else decide (a<0))=false):wd a=true∧0≤a:=by
  cases hx:wd a with
  | false=>rw [hx] at h;exact absurd (show true=false from h) (by decide)
  | true=>rw [hx] at h;have:=of_decide_eq_false (show decide (a<0)=false from h);exact ⟨rfl,by omega⟩
theorem r_pos {a:Int} (h:(bif !wd a then true else decide (a<0))=true):¬ (wd a=true∧0≤a):=by
  rintro ⟨hx,h0⟩
  rw [hx] at h;have:=of_decide_eq_true (show decide (a<0)=true from h);omega
theorem isq_wd {a:Int} (h:wd a=true) (h0:0≤a):wd (isq a)=true:=by
  have h1:isq a≤a:=by
    unfold isq
    have h2:=(isqN_spec a.natAbs a.natAbs).1
    have h3:=Nat.le_mul_self (isqN a.natAbs a.natAbs)
    omega
  have h2:0≤isq a:=Int.natCast_nonneg _
  have:=wd_iff.1 h
  exact wd_iff.2 (by omega)
theorem e_sq0 {a:Int} (h:(bif !wd a then true else decide (a<0))=false):(!isR (sqrtR a).1 (sqrtR a).2 (isq a) 0)=false:=by
  have:=r_neg h
  unfold sqrtR toldR;rw [if_pos this,if_pos (isq_wd this.1 this.2)];exact is_self _ _
theorem e_sq1 {a:Int} (h:(bif !wd a then true else decide (a<0))=true):(!isR (sqrtR a).1 (sqrtR a).2 0 1)=false:=by
  unfold sqrtR;rw [if_neg (r_pos h)];exact is_self _ _
theorem e_rt0 {a:Int} (h:(bif !wd a then true else decide (a<0))=false):(!isR (rootR a).1 (rootR a).2 (toldR (nearR (a*1073741824) 1)).1 (toldR (nearR (a*1073741824) 1)).2)=false:=by
  unfold rootR;rw [if_pos (r_neg h)];exact is_self _ _
theorem e_rt1 {a:Int} (h:(bif !wd a then true else decide (a<0))=true):(!isR (rootR a).1 (rootR a).2 0 1)=false:=by
  unfold rootR;rw [if_neg (r_pos h)];exact is_self _ _
theorem cl_eq (a l u:Int):clampB a l u=(bif (bif (bif !wd a then true else !wd l) then true else !wd u) then true else decide (l>u)):=by
  show (bif !(wd a&&(wd l&&(wd u&&true))) then true else decide (l>u))=_
  cases wd a<;>cases wd l<;>cases wd u<;>rfl
theorem e_cl1 {a l u:Int} (h:(bif (bif (bif !wd a then true else !wd l) then true else !wd u) then true else decide (l>u))=true):(!isR (clampR a l u).1 (clampR a l u).2 0 1)=false:=by
  rw [← cl_eq] at h;unfold clampR;rw [if_pos h];exact is_self _ _
theorem mn (a b:Int):(if b<a then b else a)=(if a<b then a else b):=by split<;>split<;>omega
theorem e_cl0 {a l u:Int} (h:(bif (bif (bif !wd a then true else !wd l) then true else !wd u) then true else decide (l>u))=false):(!isR (clampR a l u).1 (clampR a l u).2 (if (if a<u then a else u)>l then (if a<u then a else u) else l) 0)=false:=by
  rw [← cl_eq] at h;unfold clampR;rw [if_neg (show ¬ clampB a l u=true by rw [h];decide),mn];exact is_self _ _
attribute [local irreducible] sqrtR rootR isq nearR toldR clampR isR
theorem roots_law (n:Nat) (a b c d e f:Nat→Int) (ha:In64 a) {us:List Value} {w:World} (hargs:All2 (TV.reads (fun _=>0) w.heap.size w) [.rowF n 6 (row6 a b c d e f)] us):Ret Try.prog 11 us.toArray w (.tv (tB true)):=by
  refine fnl_ret (lawL 6 n (row6 a b c d e f) 2) (cxOk Try.prog intsR_ok [] [gMay,gSqrt,gRoot,cSqrt,cRoot,cFClamp,cNum,cIs,cWakes]) follows Try.func11 rfl 300 _ rfl (by simp) ?_ hargs
  repeat' first
    | exact trivial
    | (refine And.intro (show regChk _ _ _ _ _=true from by kernel_rfl) (And.intro ?_ ?_))
    | (refine And.intro (fun _=>?_) (fun h=>absurd (show true=false from h) (by decide)))
    | (refine And.intro (fun h=>absurd (show false=true from h) (by decide)) (fun _=>?_))
    | (have:=hB;refine And.intro (fun hb=>?_) (fun hb'=>?_))
    | (have:=hA;refine And.intro (fun hB=>?_) (fun hB=>?_))
    | (have:=hC;refine And.intro (fun hA=>?_) (fun hA=>?_))
    | refine And.intro (fun hC=>?_) (fun hC=>?_)
    | refine And.intro ?_ ?_
    | (intro v hv)
    | intro _
  all_goals first
    | (show wfB _ _=true;rfl)
    | (show (_:Bool)=true;assumption)
    | (show (_:Bool)=true;exact beq_iff_eq.2 (by assumption))
    | (show (0:Int)≤v;exact hv.1)
    | (show v<(n:Int);exact (hC1 hC).1)
    | (show (0:Int)≤a v.toNat;exact (r_neg hA).2)
    | (show (-9223372036854775808:Int)≤a v.toNat;with_reducible exact (ha _).1)
    | (show a v.toNat<(9223372036854775808:Int);with_reducible exact (ha _).2)
    | (exact ⟨0,⟨Int.le_refl _,Int.natCast_nonneg _⟩,⟨rfl,rfl,rfl,trivial⟩,trivial⟩)
    | (exact ⟨IntKind.i64.wrap (v+1),(stepL hv hC).1,(stepL hv hC).2,⟨rfl,rfl,rfl,trivial⟩,trivial⟩)
    | (show some (CR.tv (tB true))=some (CR.tv (tB true));rfl)
    | (show some (CR.tv (tB false))=some (CR.tv (tB true));exfalso;first
        | exact no (e_sq0 (a:=a v.toNat) hA) hb
        | exact no (e_sq1 (a:=a v.toNat) hA) hb
        | exact no (e_rt0 (a:=a v.toNat) hA) hb
        | exact no (e_rt1 (a:=a v.toNat) hA) hb
        | exact no (e_cl0 (a:=a v.toNat) (l:=e v.toNat) (u:=f v.toNat) hB) hb
        | exact no (e_cl1 (a:=a v.toNat) (l:=e v.toNat) (u:=f v.toNat) hB) hb)
    -- PVC
end
end Go.Proofs.Ythokdnheijnmmaa.Wh
end
section
set_option linter.unusedVariables false
namespace Go.Proofs.Ythokdnheijnmmaa.Wh
open Go Go.RowKit Go.Proofs.Ythokdnheijnmmaa.QFxE Go.Proofs.YthokdnheijnmmaaW.PrintWords Go.Proofs.YthokdnheijnmmaaW.PrintMore Go.Proofs.YthokdnheijnmmaaW.Aid Go.Proofs.YthokdnheijnmmaaW.Big Go.Proofs.YthokdnheijnmmaaW.Sx Go.Proofs
theorem roots24 {w:World} {A:Option Addr} {c:Nat} {l:List S24} (hC:Kd.C k24 w A l.length l) (hle:l.length≤c) (hg:∀ x∈l,G24 x):Ret Try.prog 11 #[.slice A l.length c] w (.tv (tB true)) :=
  roots_law l.length _ _ _ _ _ _ (fun j=>i64w (at24_g hg j).1) (args24 hC hle)
end Go.Proofs.Ythokdnheijnmmaa.Wh
end
section
namespace Go.Proofs.YthokdnheijnmmaaW.Opens
open Go.RowKit Go.Proofs.YthokdnheijnmmaaW.PrintWords Go.Deep
variable {P:Program}
def Opens (P:Program) (t:TypeId) {α:Type} (d:Kd α) (G:α→Prop):Prop :=
  P.cellsOf t=d.sz∧∀ {H:Type} (enc:TypeId × Value→H) (w:World) (base:Nat) (spare:Nat→Bool) (held:Bool) (fuel:Nat) (cs:List Value) (x:DataW H × List MemPlace),
    DataW.trod enc P w base spare held fuel t cs=some x→(∀ n∈x.1.weights P t,n≤reachBytes)→∃ a,d.K w a cs∧G a
theorem opens_int {t:TypeId} {k:IntKind} (hu:P.underlying t=some (.int k)) (hc:P.cellsOf t=1):Opens P t (Kd.int k) (fun n=>(Lit.int k n).wf=true):=by
  refine ⟨hc,fun enc w base spare held fuel cs x h _=>?_⟩
  obtain ⟨n,rfl,_,hw⟩:=DataW.trod_int hu h
  exact ⟨n,rfl,hw⟩
theorem opens_bool {t:TypeId} (hu:P.underlying t=some .bool) (hc:P.cellsOf t=1):Opens P t Kd.bool (fun _=>True):=by
  refine ⟨hc,fun enc w base spare held fuel cs x h _=>?_⟩
  obtain ⟨n,rfl,_⟩:=DataW.trod_bool hu h
  exact ⟨n,rfl,trivial⟩
theorem opens_string {t:TypeId} (hu:P.underlying t=some .string) (hc:P.cellsOf t=1):Opens P t Kd.string (fun s=>s.size≤140737488351232):=by
  refine ⟨hc,fun enc w base spare held fuel cs x h hw=>?_⟩
  obtain ⟨s,rfl,rfl,_⟩:=DataW.trod_string hu h
  have z:=hw s.data.toList.length (by simp [DataW.weights])
  exact ⟨s,rfl,by simpa [reachBytes] using z⟩
theorem list_of {α:Type} {Q:Nat→α→Prop}:∀ n:Nat,(∀ i,i<n→∃ a,Q i a)→∃ xs:List α,xs.length=n∧∀ j p,xs[j]?=some p→Q j p
  | 0,_=>⟨[],rfl,fun j p h=>by simp at h⟩
  | n + 1, h => by
    obtain ⟨xs,hl,hx⟩:=list_of n (fun i hi=>h i (by omega))
    obtain ⟨a,ha⟩:=h n (by omega)
    refine ⟨xs++[a],by simp [hl],fun j p hj=>?_⟩
    by_cases hjl:j<xs.length
    · rw [List.getElem?_append_left hjl] at hj
      exact hx j p hj
    · have hj2:j<(xs++[a]).length:=(List.getElem?_eq_some_iff.1 hj).1
      have:j=n:=by simp at hj2;omega
      subst this
      rw [List.getElem?_append_right (by omega)] at hj
      simp [hl] at hj
      subst hj
      exact ha
theorem weights_mem_all {H:Type} {e:TypeId}:∀ {l:List (DataW H)} {d:DataW H},d∈l→∀ n∈d.weights P e,n∈DataW.weightsAll P e l
  | [],_,h,_,_=>by simp at h
  | y::l,d,h,n,hn=>by
    rw [DataW.weightsAll]
    rcases List.mem_cons.1 h with rfl|h
    · exact List.mem_append_left _ hn
    · exact List.mem_append_right _ (weights_mem_all h n hn)
theorem opens_slice {t e:TypeId} {α:Type} {d:Kd α} {G:α→Prop} (hu:P.underlying t=some (.slice e)) (hc:P.cellsOf t=1) {B:Nat} (hB:P.bytesOf e=B) (he:Opens P e d G) :
    Opens P t (Kd.slice e d) (fun xs=>xs.length*B≤140737488351232∧∀ x∈xs,G x):=by
  obtain ⟨hsz,he⟩:=he
  refine ⟨hc,fun enc w base spare held fuel cs x h hw=>?_⟩
  rcases open_slice hu h with ⟨rfl,_⟩|⟨a,len,cap,m,n,D,Pl,rfl,_,hl,hm,hmm,rfl,hi⟩
  · exact ⟨[],⟨none,0,rfl,Nat.le_refl _,rfl,by simp,fun h=>absurd h (by simp)⟩,by simp,fun _ h=>by simp at h⟩
  · have hlm:len≤m:=by rw [hmm];split<;>omega
    have hw2:∀ i,i<len→∀ q∈(D i).weights P e,q≤reachBytes:=fun i hil q hq=>by
      refine hw q ?_
      rw [DataW.weights,hu]
      refine List.mem_cons_of_mem _ (List.mem_append_left _ (weights_mem_all (d:=D i) ?_ q hq))
      exact List.mem_map.2 ⟨i,List.mem_range.2 hil,rfl⟩
    obtain ⟨xs,hxl,hx⟩:=list_of (Q:=fun i p=>(∃ c,c.length=d.sz∧d.K w p c∧∀ j u,c[j]?=some u→w.cell? (a.add (i*d.sz+j))=some u)∧G p) len (fun i hil=>by
      obtain ⟨cs',h1,h2⟩:=hi i (by omega)
      obtain ⟨p,hk,hg⟩:=he enc w base spare held n cs' _ h2 (hw2 i hil)
      obtain ⟨_,hcl,hat⟩:=World.cells?_some h1
      refine ⟨p,⟨cs',d.K_len hk,hk,fun j u hj=>?_⟩,hg⟩
      have hjl:j<cs'.length:=(List.getElem?_eq_some_iff.1 hj).1
      have h3:=hat j (by omega)
      rw [hj,hsz,Go.Deep.add_add] at h3
      exact h3)
    subst hxl
    refine ⟨xs,⟨some a,cap,rfl,hl,rfl,by unfold maxLen at hm;omega,fun _=>⟨a,rfl,fun j p hj=>(hx j p hj).1⟩⟩,?_,fun x hx'=>?_⟩
    · have z:=hw ((((List.range xs.length).map D).length+((List.range (m-xs.length)).map fun j=>D (xs.length+j)).length)*P.bytesOf e) (by rw [DataW.weights,hu];exact List.mem_cons_self)
      simp only [List.length_map,List.length_range,hB,reachBytes] at z
      exact Nat.le_trans (Nat.mul_le_mul_right _ (Nat.le_add_right _ _)) z
    · obtain ⟨j,hj⟩:=List.getElem?_of_mem hx'
      exact (hx j x hj).2
def OpensF (P:Program) (o:Nat) (fs:List (TypeId × Nat)) {α:Type} (d:Kd α) (G:α→Prop):Prop :=
  ∀ {H:Type} (enc:TypeId × Value→H) (w:World) (base:Nat) (spare:Nat→Bool) (held:Bool) (n:Nat) (cs:List Value) (ys:List (DataW H × List MemPlace)),cs.length=o+d.sz→ys.length=fs.length →
    (∀ (i:Nat) (f:TypeId × Nat),fs[i]?=some f→DataW.trod enc P w base spare held n f.1 ((cs.drop f.2).take (P.cellsOf f.1))=ys[i]?) →
    (∀ q∈DataW.weightsEach P (fs.map (·.1)) (ys.map (·.1)),q≤reachBytes)→∃ a,d.K w a (cs.drop o)∧G a
theorem opensF_one {t:TypeId} {o:Nat} {α:Type} {d:Kd α} {G:α→Prop} (h:Opens P t d G):OpensF P o [(t,o)] d G:=by
  obtain ⟨hsz,he⟩:=h
  intro H enc w base spare held n cs ys hl hyl hg hw
  match ys,hyl with
  | [y],_ =>
    have h1:=hg 0 (t,o) rfl
    simp only at h1
    rw [hsz,List.take_of_length_le (by simp;omega)] at h1
    exact he enc w base spare held n _ y h1 (fun q hq=>hw q (by simpa [DataW.weightsEach] using hq))
theorem opensF_cons {t:TypeId} {fs:List (TypeId × Nat)} {o o':Nat} {α β:Type} {d:Kd α} {d':Kd β} {G:α→Prop} {G':β→Prop} (h:Opens P t d G) (ho':o+d.sz=o') (h':OpensF P o' fs d' G') :
    OpensF P o ((t,o)::fs) (Kd.pair d d') (fun x=>G x.1∧G' x.2):=by
  obtain ⟨hsz,he⟩:=h
  intro H enc w base spare held n cs ys hl hyl hg hw
  match ys,hyl with
  | y :: ys, hyl =>
    have h1:=hg 0 (t,o) rfl
    simp only at h1
    rw [hsz] at h1
    obtain ⟨a,ka,ga⟩:=he enc w base spare held n _ y h1 (fun q hq=>hw q (by simp only [List.map_cons,DataW.weightsEach];exact List.mem_append_left _ hq))
    have hl':cs.length=o'+d'.sz:=by
      have:(Kd.pair d d').sz=d.sz+d'.sz:=rfl
      omega
    obtain ⟨b,kb,gb⟩:=h' enc w base spare held n cs ys hl' (by simpa using hyl) (fun i f' hf=>hg (i+1) f' (by simpa using hf)) (fun q hq=>hw q (by simp only [List.map_cons,DataW.weightsEach];exact List.mem_append_right _ hq))
    refine ⟨(a,b),⟨(cs.drop o).take d.sz,cs.drop o',?_,ka,kb⟩,ga,gb⟩
    rw [← ho',← List.drop_drop,List.take_append_drop]
theorem opens_struct {t:TypeId} {fs:Array Field} {α β:Type} {d:Kd α} {G:α→Prop} (hu:P.underlying t=some (.struct fs)) (hc:P.cellsOf t=d.sz) {l:List (TypeId × Nat)} (hl:fs.toList.map (fun f=>(f.type,f.offset))=l) (h:OpensF P 0 l d G) (f:β→α) (g:α→β) (hfg:∀ x,f (g x)=x) :
    Opens P t (Kd.iso d f) (fun x=>G (f x)):=by
  refine ⟨hc,fun enc w base spare held fuel cs x hx hw=>?_⟩
  obtain ⟨ys,n,_,rfl,hcl,hyl,hg⟩:=DataW.trod_struct hu hx
  have hg':∀ (i:Nat) (f:TypeId × Nat),l[i]?=some f→DataW.trod enc P w base spare held n f.1 ((cs.drop f.2).take (P.cellsOf f.1))=ys[i]?:=by
    intro i f hf
    rw [← hl,List.getElem?_map] at hf
    obtain ⟨f0,hf0,rfl⟩:=Option.map_eq_some_iff.1 hf
    exact hg i f0 (by simpa using hf0)
  obtain ⟨a,ka,ga⟩:=h enc w base spare held n cs ys (by omega) (by rw [hyl,← hl];simp) hg' (fun q hq=>hw q (by rw [← hl,List.map_map] at hq;simp only [DataW.weights,hu];exact hq))
  exact ⟨g a,by show d.K w (f (g a)) cs;rw [hfg];exact ka,by show G (f (g a));rw [hfg];exact ga⟩
theorem opens_arg {H:Type} {enc:TypeId × Value→H} {W:World} {base:Nat} {spare:Nat→Bool} {held:Bool} {t:TypeId} {v:Value} {x:DataW H} {ps:List MemPlace} {ts:List TypeId} {ds:List (DataW H)} {j:Nat} {α:Type} {d:Kd α} {G:α→Prop}
    (ho:Opens P t d G) (hsz:(DataW.weightsEach P ts ds).all (·≤reachBytes)=true) (ht:ts[j]?=some t) (hd:ds[j]?=some x) (h:DataW.Trod enc P W base spare held t v x ps):∃ a,d.K W a v.cells.toList∧G a:=by
  obtain ⟨fuel,hf⟩:=h
  refine ho.2 enc W base spare held fuel _ (x,ps) hf (fun n hn=>?_)
  simpa using List.all_eq_true.1 hsz n (DataW.weights_mem_each ht hd n hn)
end Go.Proofs.YthokdnheijnmmaaW.Opens
end
section
namespace Go.Proofs.Ythokdnheijnmmaa.fxRoots
open Go.ChangeShapes Go.WideShapes Go.ChangeAt Go.RowKit Go.Proofs.YthokdnheijnmmaaW.Opens Go.Proofs.YthokdnheijnmmaaW.PrintWords Go.Proofs.Ythokdnheijnmmaa.QFxE Go.Proofs.Ythokdnheijnmmaa.Wh
set_option linter.unusedVariables false
theorem own:ownKnob Try.prog.godebug=none:=by kernel_rfl
theorem laidOut:laidOutB Try.prog=true:=by kernel_rfl
theorem opens24:Opens Try.prog 24 k24 G24 :=
  opens_struct (l:=[(2,0),(2,1),(2,2),(2,3),(2,4),(2,5)]) Try.underlying24 (by kernel_rfl) rfl (opensF_cons (o:=0) (o':=1) (opens_int Try.underlying2 (by kernel_rfl)) rfl (opensF_cons (o:=1) (o':=2) (opens_int Try.underlying2 (by kernel_rfl)) rfl (opensF_cons (o:=2) (o':=3) (opens_int Try.underlying2 (by kernel_rfl)) rfl (opensF_cons (o:=3) (o':=4) (opens_int Try.underlying2 (by kernel_rfl)) rfl (opensF_cons (o:=4) (o':=5) (opens_int Try.underlying2 (by kernel_rfl)) rfl (opensF_one (o:=5) (opens_int Try.underlying2 (by kernel_rfl)))))))) (fun x:S24=>(x.f0,x.f1,x.f2,x.f3,x.f4,x.f5)) (fun p=>⟨p.1,p.2.1,p.2.2.1,p.2.2.2.1,p.2.2.2.2.1,p.2.2.2.2.2⟩) (fun _=>rfl)
set_option maxRecDepth 100000 in
theorem lifted (os:Os) (started:os.Started) (H:Type) (enc:TypeId × Value→H) :
    ReturnsInHanded {} Try.checked os 11 .any (Rows.fxRootsSpec.pre6 enc Try.prog Try.f11 Rows.fxRootsRow.domain false) (Rows.fxRootsSpec.post enc Try.prog Try.f11 false true false false):=by
  refine returnsInHanded_of_change_sized (C:=Try.checked) own started (by kernel_rfl) Try.func11
    (ChangeSpec.witness6 (enc:=enc) (C:=Try.checked) false ⟨#[],#[.slice none 0 0],[]⟩ 8 (by kernel_rfl) (by kernel_rfl) (by kernel_rfl) (by kernel_rfl)) ?_
  intro W base args ds gs before hval0 hW hcnd hsz0 _
  have hsz:(DataW.weightsEach Try.prog (Try.f11.params.toList++Rows.fxRootsSpec.plain.varTypes Try.prog) (ds++gs)).all (·≤reachBytes)=true:=hsz0
  have hval:∀ (j:Nat) t v,Try.f11.params[j]?=some t→args[j]?=some v→Value.okWide Try.prog W .any base t v:=hval0
  have hW':=hW
  obtain ⟨p,q,hA0,hV,rfl,hfz,hnd⟩:=hW
  have hA:DataW.TrodAll enc Try.prog W 0 (fun _=>true) true Try.f11.params.toList args.toList ds p:=hA0
  rw [Try.params11] at hA hval hsz
  obtain ⟨v0,vs0,d0,ds0,p0,q0,hargs,rfl,rfl,h0,r0⟩:=trodAll_cons hA
  obtain ⟨rfl,rfl,rfl⟩:=trodAll_nil r0
  obtain rfl:args=#[v0]:=by cases args;simp_all
  obtain ⟨rfl,rfl⟩:=trodVars_none hV
  have k0:=h0
  have lt0:∀ x∈p0,x.block<W.heap.size:=by obtain ⟨m,hm⟩:=k0;exact DataW.trod_lt m _ _ _ hm
  have hv0:=hval 0 22 v0 rfl rfl
  obtain ⟨x0,hk0,hg0⟩:=opens_arg (opens_slice (B:=48) Try.underlying22 (by kernel_rfl) (by kernel_rfl) opens24) hsz (j:=0) (t:=22) rfl rfl h0
  obtain ⟨a0,len0,cap0,rfl⟩:=okWide_slice Try.underlying22 hv0
  obtain ⟨A1,c1,hcs,hle,hC⟩:=hk0
  have hcs:[Value.slice a0 len0 cap0]=[.slice A1 x0.length c1]:=hcs
  simp only [List.cons.injEq,Value.slice.injEq,and_true] at hcs
  obtain ⟨rfl,rfl,rfl⟩:=hcs
  clear hA0 hval0 hsz0 hsz
  refine Calls.mono (roots24 hC hle hg0.2) fun e W' hpost=>?_
  obtain ⟨u,rfl,hu,bel⟩:=hpost
  obtain rfl:u = .bool true:=hu
  exact ⟨_,rfl,_,_,_,[],_,[],hW',trodAll_mk1 (shut_bool Try.underlying4 _),(trodAll_cons_mk (Below.trod laidOut (by kernel_rfl) (of_decide_eq_true (by kernel_rfl)) k0 bel lt0) trodAll_mk0),rfl,bel.frame _,fun h=>by cases h⟩
theorem over:Rows.fxRootsRow.holds Try.pinned (OpenSpec.ofChange Rows.fxRootsSpec) :=
  OpenClaim.holds_of_wide 11 Try.f11 rfl rfl rfl rfl rfl rfl rfl ⟨rfl,rfl,rfl,rfl,rfl⟩ rfl rfl rfl rfl rfl (by kernel_rfl) Try.func11 (by kernel_rfl)
    (of_decide_eq_true (by kernel_rfl)) (by unfold Func.isWrapper;first|(rw [if_pos (by decide +kernel)];kernel_rfl)|(rw [if_neg (by decide +kernel)];exact ⟨rfl,rfl⟩))
    (fun os started H enc _=>lifted os started H enc)
theorem proved:Rows.FxRootsSaid:=over
end Go.Proofs.Ythokdnheijnmmaa.fxRoots
namespace Go.Proofs.Ythokdnheijnmmaa
theorem fxRoots_holds:Rows.FxRootsSaid:=fxRoots.proved
end Go.Proofs.Ythokdnheijnmmaa
end
