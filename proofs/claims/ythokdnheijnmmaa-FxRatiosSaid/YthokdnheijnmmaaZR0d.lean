/- The row of FxRatios, out of its law over numbers and the printed walk: for every argument that reads as data the call returns true and leaves the argument as it was. -/
import Derived.Test.YthokdnheijnmmaaZR0c
import Derived.Test.YthokdnheijnmmaaWWords
import Derived.Deep.Slices
import Derived.Deep.Fields
import Derived.SizedLaws
import Derived.ChangeArms
import Derived.Test.YthokdnheijnmmaaRows
import Derived.WalkKit
import Derived.ProofKit
import Derived.OpenShut
import Derived.ShutString
import Derived.ChangeOld
import Derived.Below
import Derived.Carry
section
set_option linter.unusedVariables false
namespace Go.Proofs.Ythokdnheijnmmaa.FxWalk
open Go.RowKit Go.Proofs.YthokdnheijnmmaaW.PrintWords Go.Proofs.YthokdnheijnmmaaW.PrintLast Go.Proofs.YthokdnheijnmmaaW.PrintMore Go.Proofs.YthokdnheijnmmaaW.Aid Go.Proofs.Ythokdnheijnmmaa.BitsWalk
theorem quiet {P:Program} {f:FuncId} {args:Array Value} {w:World} {n:Nat} {v:Value} (h:Calls P f args (w.drewN n) fun e w'=>e = .returned v∧w.drewN n=w') :
    Calls P f args (w.drewN n) fun e w''=>e = .returned v∧∃ m,w''=w.drewN m:=Calls.quiet_of_same (h.mono fun _ _ ⟨a,b⟩=>⟨a,b.symm⟩)
def ab (a:Int):Int:=(a.natAbs:Int)
theorem ab_bd {a:Int} (h:wd a=true):0≤ab a∧ab a<35184372088832:=by
  rw [wd_iff] at h
  unfold ab
  omega
def rnd30 (P:Int):Int:=P/1073741824+(if P%1073741824>536870912∨(P%1073741824=536870912∧P/1073741824%2=1) then 1 else 0)
def signR (neg:Bool) (q:Int):Int × Int:=if q<35184372088832 then (if neg=true then -q else q,0) else (0,2)
def timesR (a b:Int):Int × Int:=signR (!(decide (a<0) == decide (b<0))) (rnd30 (ab a*ab b))
section
set_option maxRecDepth 100000
set_option maxHeartbeats 1000000
theorem abs_calls (a:Int) (w:World) (h:wd a=true):Calls Try.prog 74 #[.int .i64 a] w fun e w'=>e = .returned (.int .u64 (ab a))∧w=w':=by
  rw [wd_iff] at h
  obtain ⟨h1,h2⟩:=h
  by_cases hn:a<0
  · have e:Aside0 (ab a = -a):=⟨by unfold ab;omega⟩
    rw [e.out]
    go_enter Try.func74,Try.ntmps74
    go_wp2
    go_ret
    refine ⟨ret1 ?_,rfl⟩
    simp only [u64_wrap]
    omega
  · have e:Aside0 (ab a=a):=⟨by unfold ab;omega⟩
    rw [e.out]
    go_enter Try.func74,Try.ntmps74
    go_wp2
    go_ret
    refine ⟨ret1 ?_,rfl⟩
    first|rfl|(simp only [u64_wrap];omega)
theorem signed_calls (neg:Bool) (q:Int) (w:World) (h0:0≤q) (h1:q<9223372036854775808):Calls Try.prog 76 #[.bool neg,.int .u64 0,.int .u64 q] w fun e w'=>e = .returned (.tuple #[.int .i64 (signR neg q).1,.int .i64 (signR neg q).2])∧w=w':=by
  by_cases hq:q<35184372088832
  · cases neg with
    | true =>
      have e:Aside0 (signR true q=(-q,0)):=⟨by unfold signR;rw [if_pos hq];rfl⟩
      rw [e.out]
      have hb:decide (35184372088832≤q)=false:=decide_eq_false (by omega)
      clear h1
      go_enter Try.func76,Try.ntmps76
      go_wp2
      go_ret2
      exact ⟨rfl,rfl⟩
    | false =>
      have e:Aside0 (signR false q=(q,0)):=⟨by unfold signR;rw [if_pos hq];rfl⟩
      rw [e.out]
      have hb:decide (35184372088832≤q)=false:=decide_eq_false (by omega)
      clear h1
      go_enter Try.func76,Try.ntmps76
      go_wp2
      go_ret2
      exact ⟨rfl,rfl⟩
  · have e:Aside0 (signR neg q=(0,2)):=⟨by unfold signR;rw [if_neg hq]⟩
    rw [e.out]
    have hb:decide (35184372088832≤q)=true:=decide_eq_true (by omega)
    clear h1 hq
    go_enter Try.func76,Try.ntmps76
    go_wp2
    go_ret2
    exact ⟨rfl,rfl⟩
theorem rnd_parts {P hi lo:Int} (h0:0≤P) (hh:P/18446744073709551616=hi) (hl:P%18446744073709551616=lo):P/1073741824=hi*17179869184+lo/1073741824∧P%1073741824=lo%1073741824:=by omega
theorem times_calls (a b:Int) (w:World) (ha:wd a=true) (hb:wd b=true):Calls Try.prog 41 #[.agg #[.int .i64 a,.int .i64 b]] w (PairPost (timesR a b) w):=by
  have HA:=Aside0.mk ha
  have HB:=Aside0.mk hb
  obtain ⟨A0,A1⟩:=ab_bd ha
  obtain ⟨B0,B1⟩:=ab_bd hb
  have hP0:0≤ab a*ab b:=Int.mul_nonneg A0 B0
  have hP1:ab a*ab b≤35184372088831*35184372088831:=Int.mul_le_mul (by omega) (by omega) B0 (by omega)
  have HR:Aside0 (timesR a b=signR (!(decide (a<0) == decide (b<0))) (rnd30 (ab a*ab b))):=⟨rfl⟩
  generalize timesR a b=R at *
  have A1':ab a<18446744073709551616:=by omega
  have B1':ab b<18446744073709551616:=by omega
  have M:=Aside0.mk (fun n=>mul64_calls (ab a) (ab b) (World.drewN (w.alloc (.cells #[.int .i64 a,.int .i64 b] 50)) n) A0 A1' B0 B1')
  have Z:Aside0 (∃ hi lo:Int,ab a*ab b/18446744073709551616=hi∧ab a*ab b%18446744073709551616=lo∧0≤hi∧hi≤67108864∧0≤lo∧lo<18446744073709551616∧0≤ab a*ab b):=⟨_,_,rfl,rfl,by omega,by omega,by omega,by omega,hP0⟩
  clear ha hb A0 A1 B0 B1 A1' B1' hP0 hP1
  go_enter Try.func41,Try.ntmps41
  go_wp2_with fail
  go_quiet ((first|(go_at_call 74;exact quiet (abs_calls _ _ (by first|exact HA.out|exact HB.out)))|(go_at_call 73;exact quiet (M.out _))))
  obtain ⟨hi,lo,e1,e2,h1,h2,h3,h4,h5⟩:=Z.out
  obtain ⟨r1,r2⟩:=rnd_parts h5 e1 e2
  have E1:Go.bits .and .u64 lo 1073741823=lo%1073741824:=and30 h3 h4
  have E2:Go.bits .or .u64 (hi*17179869184) (lo/1073741824)=hi*17179869184+lo/1073741824:=or34 h1 (by omega) (by omega) (by omega)
  have q0:0≤hi*17179869184+lo/1073741824:=by omega
  have q1:hi*17179869184+lo/1073741824≤1152921504606846976+17179869184:=by omega
  have l0:0≤lo/1073741824:=by omega
  have HQ:Aside0 (R=signR (!(decide (a<0) == decide (b<0))) (hi*17179869184+lo/1073741824+(if lo%1073741824>536870912∨(lo%1073741824=536870912∧(hi*17179869184+lo/1073741824)%2=1) then 1 else 0))):=⟨by rw [HR.out];unfold rnd30;rw [r1,r2]⟩
  rw [e1,e2]
  generalize hq:hi*17179869184+lo/1073741824=qq at *
  generalize hr:lo%1073741824=rst at *
  clear M Z HR r1 r2 e1 e2 h4 h5 HA HB hq hr
  have Q1:=Aside0.mk q1
  clear q1
  have mod:Int.tmod qq 2=qq%2:=tmod_pos q0
  have Hmod:=Aside0.mk mod
  clear mod
  have fin:∀ (q:Int) (w1:World),(w1=(w.alloc (.cells #[.int .i64 a,.int .i64 b] 50)).drewN nq)→0≤q→q≤2305843009213693952→R=signR (!(decide (a<0) == decide (b<0))) q →
      Calls Try.prog 76 #[.bool (!(decide (a<0) == decide (b<0))),.int .u64 0,.int .u64 q] w1 fun e w'=>e = .returned (.tuple #[.int .i64 R.1,.int .i64 R.2])∧w1=w':=by
    intro q w1 _ h0 h1 hR
    have:=signed_calls (!(decide (a<0) == decide (b<0))) q w1 h0 (by omega)
    rwa [← hR] at this
  have Fin:=Aside0.mk fin
  have hz:hi/1073741824=0:=by omega
  clear fin
  by_cases c1:536870912<rst
  · have HQ':Aside0 (R=signR (!(decide (a<0) == decide (b<0))) (qq+1)):=⟨by rw [HQ.out,if_pos (.inl c1)]⟩
    have A1:=fun w=>add64_run qq 1 0 q0 (by omega) (by omega) (by omega) w
    have e1:(qq+1+0)%18446744073709551616=qq+1:=by have:=Q1.out;omega
    have e2:(qq+1+0)/18446744073709551616=0:=by have:=Q1.out;omega
    simp only [e1,e2] at A1
    clear e1 e2 HQ Hmod
    go_wp2_with fail
    refine (Fin.out (qq+1) _ rfl (by omega) (by have:=Q1.out;omega) HQ'.out).mono ?_
    rintro e w1 ⟨rfl,rfl⟩
    go_wp2
    go_ret2
    exact ⟨rfl,pw_below_drewN (below_alloc (Below.refl _ _) _) _⟩
  · by_cases c2:rst=536870912
    · subst c2
      by_cases c3:qq%2=1
      · have HQ':Aside0 (R=signR (!(decide (a<0) == decide (b<0))) (qq+1)):=⟨by rw [HQ.out,if_pos (.inr ⟨rfl,c3⟩)]⟩
        have m1:(Int.tmod qq 2 == 1)=true:=by rw [Hmod.out,c3];rfl
        have m2:(qq%2 == 1)=true:=by rw [c3];rfl
        clear c3
        have A1:=fun w=>add64_run qq 1 0 q0 (by omega) (by omega) (by omega) w
        have e1:(qq+1+0)%18446744073709551616=qq+1:=by have:=Q1.out;omega
        have e2:(qq+1+0)/18446744073709551616=0:=by have:=Q1.out;omega
        simp only [e1,e2] at A1
        clear e1 e2 HQ Hmod
        go_wp2_with fail
        refine (Fin.out (qq+1) _ rfl (by omega) (by have:=Q1.out;omega) HQ'.out).mono ?_
        rintro e w1 ⟨rfl,rfl⟩
        go_wp2
        go_ret2
        exact ⟨rfl,pw_below_drewN (below_alloc (Below.refl _ _) _) _⟩
      · have HQ':Aside0 (R=signR (!(decide (a<0) == decide (b<0))) qq):=⟨by rw [HQ.out,if_neg (by rintro (h|⟨_,h⟩);exact c1 h;exact c3 h),Int.add_zero]⟩
        have m2:(qq%2 == 1)=false:=by simpa using c3
        have m1:(Int.tmod qq 2 == 1)=false:=by rw [Hmod.out,m2]
        clear c3 HQ Hmod
        go_wp2_with fail
        refine (Fin.out qq _ rfl (by omega) (by have:=Q1.out;omega) HQ'.out).mono ?_
        rintro e w1 ⟨rfl,rfl⟩
        go_wp2
        go_ret2
        exact ⟨rfl,pw_below_drewN (below_alloc (Below.refl _ _) _) _⟩
    · have HQ':Aside0 (R=signR (!(decide (a<0) == decide (b<0))) qq):=⟨by rw [HQ.out,if_neg (by rintro (h|⟨h,_⟩);exact c1 h;exact c2 h),Int.add_zero]⟩
      have m1:(rst == 536870912)=false:=by simpa using c2
      clear HQ Hmod c2
      go_wp2_with fail
      refine (Fin.out qq _ rfl (by omega) (by have:=Q1.out;omega) HQ'.out).mono ?_
      rintro e w1 ⟨rfl,rfl⟩
      go_wp2
      go_ret2
      exact ⟨rfl,pw_below_drewN (below_alloc (Below.refl _ _) _) _⟩
theorem reckon_times (F:Int × Int) (a b:Int) (w:World) (ha:wd a=true) (hb:wd b=true) (H:∀ w,Calls Try.prog 41 #[.agg #[.int .i64 a,.int .i64 b]] w (PairPost F w)) :
    Calls Try.prog 40 #[.agg #[.int .i64 a,.int .i64 b],.func (.func 41) #[] #[]] w (PairPost F w):=by
  have hall:Aside0 (allw [a,b]=true):=⟨by simp [allw,ha,hb]⟩
  have HH:=Aside0.mk H
  clear H ha hb
  go_enter Try.func40,Try.ntmps40
  go_wp2_with fail
  refine (all_calls [a,b] _ _ _ (pair_row _ a b (w.heap.size+1) (by have:=blk_new (w.alloc (.cells #[.int .i64 a,.int .i64 b] 50)) (.cells #[.int .i64 a,.int .i64 b] 2);simpa using this))).mono ?_
  rintro e w1 ⟨rfl,rfl⟩
  rw [hall.out]
  go_wp2_with fail
  refine (HH.out _).mono ?_
  rintro e w1 ⟨rfl,hB⟩
  have HB:=Aside0.mk hB
  clear hB
  go_wp2
  go_ret2
  exact ⟨rfl,(below_alloc (below_alloc (Below.refl _ _) _) _).trans (HB.out.mono (by simp;omega))⟩
theorem reckon_times_no (a b:Int) (w:World) (h:(wd a&&wd b)=false) :
    Calls Try.prog 40 #[.agg #[.int .i64 a,.int .i64 b],.func (.func 41) #[] #[]] w (PairPost (0,1) w):=by
  have hall:Aside0 (allw [a,b]=false):=⟨by simp only [allw,Bool.and_true];exact h⟩
  clear h
  go_enter Try.func40,Try.ntmps40
  go_wp2_with fail
  refine (all_calls [a,b] _ _ _ (pair_row _ a b (w.heap.size+1) (by have:=blk_new (w.alloc (.cells #[.int .i64 a,.int .i64 b] 50)) (.cells #[.int .i64 a,.int .i64 b] 2);simpa using this))).mono ?_
  rintro e w1 ⟨rfl,rfl⟩
  rw [hall.out]
  go_wp2
  go_ret2
  exact ⟨rfl,below_alloc (below_alloc (Below.refl _ _) _) _⟩
theorem mul_yes (a b:Int) (w:World) (ha:wd a=true) (hb:wd b=true):Calls Try.prog 13 #[.int .i64 a,.int .i64 b] w (PairPost (timesR a b) w):=by
  go_enter Try.func13,Try.ntmps13
  go_wp2_with fail
  refine (reckon_times _ _ _ _ ha hb (fun w=>times_calls _ _ w ha hb)).mono ?_
  rintro e w1 ⟨rfl,hB⟩
  have HB:=Aside0.mk hB
  clear hB
  go_wp2
  go_ret2
  exact ⟨rfl,HB.out⟩
theorem mul_no (a b:Int) (w:World) (h:(wd a&&wd b)=false):Calls Try.prog 13 #[.int .i64 a,.int .i64 b] w (PairPost (0,1) w):=by
  go_enter Try.func13,Try.ntmps13
  go_wp2_with fail
  refine (reckon_times_no _ _ _ h).mono ?_
  rintro e w1 ⟨rfl,hB⟩
  have HB:=Aside0.mk hB
  clear hB
  go_wp2
  go_ret2
  exact ⟨rfl,HB.out⟩
end
end Go.Proofs.Ythokdnheijnmmaa.FxWalk
end
section
set_option linter.unusedVariables false
set_option linter.unusedSimpArgs false
namespace Go.Proofs.Ythokdnheijnmmaa.Wh
open Go.Proofs.Ythokdnheijnmmaa.FxWalk
theorem roundP_scale {x c k:Int} (hk:0<k) (hc:0<c):roundP (k*x) (k*c)=roundP x c:=by
  unfold roundP
  rw [Int.mul_ediv_mul_of_pos _ _ hk,Int.mul_emod_mul_of_pos _ _ hk]
  have e:2*(k*(x%c))=k*(2*(x%c)):=by rw [← Int.mul_assoc,Int.mul_comm 2 k,Int.mul_assoc]
  rw [e]
  have g1:(k*(2*(x%c))>k*c)↔2*(x%c)>c:=Int.mul_lt_mul_left hk
  have g2:(k*(2*(x%c))=k*c)↔2*(x%c)=c:=Int.mul_eq_mul_left_iff (by omega)
  simp only [g1,g2]
end Go.Proofs.Ythokdnheijnmmaa.Wh
end
section
set_option linter.unusedVariables false
set_option linter.unusedSimpArgs false
namespace Go.Proofs.Ythokdnheijnmmaa.Wh
open Go Go.RowKit Go.Proofs.YthokdnheijnmmaaW.PrintWords Go.Proofs.YthokdnheijnmmaaW.PrintMore Go.Proofs.YthokdnheijnmmaaW.Aid Go.Proofs.YthokdnheijnmmaaW.Big Go.Proofs.YthokdnheijnmmaaW.Sx Go.Proofs.Ythokdnheijnmmaa.BitsWalk Go.Proofs.Ythokdnheijnmmaa.Limbs Go.Proofs.Ythokdnheijnmmaa.Whole Go.Proofs.Ythokdnheijnmmaa.R90 Go.Proofs.Ythokdnheijnmmaa.QN90 Go.Proofs
theorem Ret.conv {f:FuncId} {us:Array Value} {w:World} {r r':CR} (h:Ret Try.prog f us w r) (hc:∀ w' u,r.told w w' u→r'.told w w' u):Ret Try.prog f us w r' :=
  h.mono fun _ _ ⟨u,he,ht,hb⟩=>⟨u,he,hc _ _ ht,hb⟩
theorem told_made {b:Bool} {m z:Int} {w w':World} {u:Value} (h:(CR.tv (.agg [.v (.bool b),.mag m])).told w w' u) (hb:b=sgn z) (hm:lm m=lm z):(CR.tv (tI z)).told w w' u:=by
  obtain ⟨us,rfl,h⟩:=h
  cases h with
  | cons h1 h2 =>
    cases h2 with
    | cons h2 h3 =>
      cases h3
      obtain ⟨A,c,rfl,hr⟩:=h2
      refine ⟨_,rfl,.cons ?_ (.cons ⟨A,c,by rw [hm],by rw [← hm];exact hr⟩ .nil)⟩
      show _=Value.bool (sgn z)
      rw [show _=Value.bool b from h1,hb]
abbrev tMade (b:Bool) (m:Int):CR := .tv (.agg [.v (.bool b),.mag m])
theorem ncmp_ge {x y:Int} (h:decide (cmpN x.natAbs y.natAbs≥0)=true):y.natAbs≤x.natAbs:=by
  have h:=of_decide_eq_true h
  unfold cmpN at h
  split at h
  · omega
  · omega
theorem ncmp_lt {x y:Int} (h:decide (cmpN x.natAbs y.natAbs≥0)=false):x.natAbs≤y.natAbs:=by
  have h:=of_decide_eq_false h
  unfold cmpN at h
  split at h
  · omega
  · split at h<;>omega
theorem sign_p {x:Int} (h:sgn x=false) (h':decide (((lm x).length:Int)>0)=true):1=cmpI x 0:=by
  have h1:=sgn_f h
  have h2:=lm_pos.1 h'
  unfold cmpI;rw [if_neg (by omega),if_pos (by omega)]
theorem sign_z {x:Int} (h:sgn x=false) (h':decide (((lm x).length:Int)>0)=false):0=cmpI x 0:=by
  have h1:=sgn_f h
  have h2:x=0:=by
    by_cases hz:x=0
    · exact hz
    · rw [lm_pos.2 hz] at h';cases h'
  unfold cmpI;rw [if_neg (by omega),if_neg (by omega)]
theorem div_pow_cases (x:Int) (k:Nat) (hx:x<0):(x.natAbs/2 ^ k*2 ^ k=x.natAbs∧x/2 ^ k = -((x.natAbs/2 ^ k:Nat):Int))∨(x.natAbs/2 ^ k*2 ^ k<x.natAbs∧x/2 ^ k = -((x.natAbs/2 ^ k:Nat):Int)-1):=by
  have hp:0<2 ^ k:=Nat.two_pow_pos k
  have hpi:((2 ^ k:Nat):Int)=2 ^ k:=by norm_cast
  obtain ⟨Q,R,e1,e2,h⟩:=div_cases (x:=x) (y:=((2 ^ k:Nat):Int)) (by omega)
  rw [Int.natAbs_natCast] at e1 e2
  rw [hpi] at h
  have e3:=Nat.div_add_mod x.natAbs (2 ^ k)
  rw [e1,e2] at e3
  rw [e1]
  rw [Nat.mul_comm] at e3
  rcases h with h|h|h
  · omega
  · left;exact ⟨by omega,h.2.2.1⟩
  · right;exact ⟨by omega,h.2.2.1⟩
theorem right_up {x:Int} {k:Nat} (h:(bif sgn x then cmpN (((((x.natAbs/2 ^ k:Nat):Int).natAbs*2 ^ k:Nat):Int)).natAbs x.natAbs != 0 else false)=true) :
    ofS (sgn x) (((((x.natAbs/2 ^ k:Nat):Int).natAbs+(((1:Int).toNat:Nat):Int).natAbs:Nat):Int)).natAbs=x/2 ^ k:=by
  have h1:=and1 h
  have h2:=and2 h
  have hx:=sgn_t h1
  rw [Int.natAbs_natCast,Int.natAbs_natCast] at h2
  simp only [Int.natAbs_natCast]
  rw [h1]
  rcases div_pow_cases x k hx with ⟨e1,e2⟩|⟨e1,e2⟩
  · rw [e1] at h2
    unfold cmpN at h2
    simp at h2
  · rw [e2]
    show -(((x.natAbs/2 ^ k+1:Nat)):Int)=_
    omega
theorem right_dn {x:Int} {k:Nat} (h:(bif sgn x then cmpN (((((x.natAbs/2 ^ k:Nat):Int).natAbs*2 ^ k:Nat):Int)).natAbs x.natAbs != 0 else false)=false) :
    ofS (sgn x) ((x.natAbs/2 ^ k:Nat):Int).natAbs=x/2 ^ k:=by
  rw [Int.natAbs_natCast]
  by_cases h1:sgn x=true
  · have h2:=and3 h h1
    have hx:=sgn_t h1
    rw [Int.natAbs_natCast,Int.natAbs_natCast] at h2
    rw [h1]
    rcases div_pow_cases x k hx with ⟨e1,e2⟩|⟨e1,e2⟩
    · rw [e2];rfl
    · unfold cmpN at h2
      rw [if_pos e1] at h2
      simp at h2
  · have hs:sgn x=false:=by simpa using h1
    rw [hs]
    have hx:=sgn_f hs
    show ((x.natAbs/2 ^ k:Nat):Int)=_
    have hpi:((2 ^ k:Nat):Int)=2 ^ k:=by norm_cast
    rw [Int.natCast_ediv,hpi,Int.natAbs_of_nonneg hx]
theorem bif_comm {a b:Bool}:(bif a then b else false)=(bif b then a else false):=by cases a<;>cases b<;>rfl
theorem rdv1 {x y:Int} (hy:0<y) (hb:(bif !(sgn x == sgn y) then decide (((lm ((x.natAbs%y.natAbs:Nat):Int)).length:Int)>0) else false)=true) :
    ofS (!(sgn x == sgn y)) ((x.natAbs/y.natAbs:Nat):Int).natAbs-1=x/y∧x-(ofS (!(sgn x == sgn y)) ((x.natAbs/y.natAbs:Nat):Int).natAbs-1)*y=x%y:=by
  rw [bif_comm] at hb
  have h:=(dv1 hy hb).1
  refine ⟨h,?_⟩
  rw [h,Int.emod_def,Int.mul_comm]
theorem rdv2 {x y:Int} (hy:0<y) (hb:(bif !(sgn x == sgn y) then decide (((lm ((x.natAbs%y.natAbs:Nat):Int)).length:Int)>0) else false)=false) :
    ofS (!(sgn x == sgn y)) ((x.natAbs/y.natAbs:Nat):Int).natAbs=x/y∧x-ofS (!(sgn x == sgn y)) ((x.natAbs/y.natAbs:Nat):Int).natAbs*y=x%y:=by
  rw [bif_comm] at hb
  have h:=(dv2 hy hb).1
  refine ⟨h,?_⟩
  rw [h,Int.emod_def,Int.mul_comm]
theorem small_bits {x:Int} (h0:(((lm x).length:Int) == 0)=false) {b:Bool} (h:(bif (bif decide (((lm x).length:Int)>1) then true else bif sgn x then decide (rd (lm x) 0>9223372036854775808) else false) then true else bif !(sgn x) then decide (rd (lm x) 0≥9223372036854775808) else false)=b) :
    (b=true→¬ (-9223372036854775808≤x∧x≤9223372036854775807))∧(b=false→(-9223372036854775808≤x∧x≤9223372036854775807)∧rd (lm x) 0=(x.natAbs:Int)):=by
  have hz:x≠0:=by
    rintro rfl
    rw [lm_zero] at h0;cases h0
  by_cases h1:((lm x).length:Int)>1
  · have hm:=low_many h1
    rw [decide_eq_true h1] at h
    simp only [cond_true] at h
    subst h
    exact ⟨fun _=>(by omega),fun h=>(by cases h)⟩
  · have hw:=low_word hz h1
    rw [decide_eq_false h1,hw] at h
    simp only [cond_false] at h
    cases hs:sgn x with
    | true =>
      have hx:=sgn_t hs
      rw [hs] at h
      simp only [cond_true,Bool.not_true,cond_false] at h
      by_cases h2:(x.natAbs:Int)>9223372036854775808
      · rw [decide_eq_true h2] at h
        simp only [cond_true] at h
        subst h
        exact ⟨fun _=>(by omega),fun h=>(by cases h)⟩
      · rw [decide_eq_false h2] at h
        simp only [cond_false] at h
        subst h
        exact ⟨fun h=>(by cases h),fun _=>⟨by omega,hw⟩⟩
    | false =>
      have hx:=sgn_f hs
      rw [hs] at h
      simp only [cond_true,Bool.not_false,cond_false] at h
      by_cases h2:(x.natAbs:Int)≥9223372036854775808
      · rw [decide_eq_true h2] at h
        subst h
        exact ⟨fun _=>(by omega),fun h=>(by cases h)⟩
      · rw [decide_eq_false h2] at h
        subst h
        exact ⟨fun h=>(by cases h),fun _=>⟨by omega,hw⟩⟩
theorem rsmall1 {x:Int} (h0:(((lm x).length:Int) == 0)=false) (h:(bif (bif decide (((lm x).length:Int)>1) then true else bif sgn x then decide (rd (lm x) 0>9223372036854775808) else false) then true else bif !(sgn x) then decide (rd (lm x) 0≥9223372036854775808) else false)=true) :
    ((0:Int),false)=((smallI x).1,(smallI x).2):=by
  rw [small_no ((small_bits h0 h).1 rfl)]
theorem rsmall2 {x:Int} (h0:(((lm x).length:Int) == 0)=false) (h:(bif (bif decide (((lm x).length:Int)>1) then true else bif sgn x then decide (rd (lm x) 0>9223372036854775808) else false) then true else bif !(sgn x) then decide (rd (lm x) 0≥9223372036854775808) else false)=false) (hs:sgn x=true) :
    (IntKind.i64.wrap (IntKind.u64.wrap (0-rd (lm x) 0)),true)=((smallI x).1,(smallI x).2):=by
  obtain ⟨h1,h2⟩:=(small_bits h0 h).2 rfl
  have hx:=sgn_t hs
  rw [small_yes h1,h2,u64_wrap,i64_wrap]
  unfold wrap64
  have:((0-(x.natAbs:Int))%18446744073709551616+9223372036854775808)%18446744073709551616-9223372036854775808=x:=by omega
  rw [this]
theorem rsmall3 {x:Int} (h0:(((lm x).length:Int) == 0)=false) (h:(bif (bif decide (((lm x).length:Int)>1) then true else bif sgn x then decide (rd (lm x) 0>9223372036854775808) else false) then true else bif !(sgn x) then decide (rd (lm x) 0≥9223372036854775808) else false)=false) (hs:sgn x=false) :
    (IntKind.i64.wrap (rd (lm x) 0),true)=((smallI x).1,(smallI x).2):=by
  obtain ⟨h1,h2⟩:=(small_bits h0 h).2 rfl
  have hx:=sgn_f hs
  rw [small_yes h1,h2,i64_wrap]
  unfold wrap64
  have:((x.natAbs:Int)+9223372036854775808)%18446744073709551616-9223372036854775808=x:=by omega
  rw [this]
theorem cmp_sub (x y:Int):cmpI (x-y) 0=cmpI x y:=by
  unfold cmpI
  by_cases h:x<y
  · rw [if_pos (by omega),if_pos h]
  · rw [if_neg (by omega),if_neg h]
    by_cases h2:y<x
    · rw [if_pos (by omega),if_pos h2]
    · rw [if_neg (by omega),if_neg h2]
section
set_option maxRecDepth 100000
set_option maxHeartbeats 1000000
def rMade:Con Try.prog:=conOf 64 (fun b m => .tv (tI (ofS b m))) ⟨_,Try.func64,by kernel_rfl,rfl⟩ (fun b m A c w hr=>by
  refine Ret.conv (r:=tMade (bif b then decide (((lm (m:Int)).length:Int)>0) else false) (m:Int)) ?_ (fun w' u h=>told_made h ?_ (by rw [lm_ofS,lm_nat]))
  · refine fn_ret (cxOk Try.prog intsR_ok [] refK) follows Try.func64 rfl 100 _ rfl (by simp) ?_ (xs:=[tB b,tM m]) (.cons rfl (.cons ⟨A,c,by rw [lm_nat],by rw [lm_nat];exact hr⟩ .nil))
    repeat' first
      | exact trivial
      | (refine And.intro (show regChk _ _ _ _ _=true from by kernel_rfl) (And.intro ?_ ?_))
      | (refine And.intro (fun hb=>?_) (fun hb'=>?_))
      | refine And.intro ?_ ?_
      | intro _
    all_goals first
      | assumption
      | exact beq_iff_eq.2 (by assumption)
      | (show some (CR.tv _)=some (CR.tv _);rfl)
      -- PVC
  · rw [sgn_ofS,lm_nat]
    cases b
    · rfl
    · rw [Bool.true_and,Bool.eq_iff_iff]
      simp only [cond_true,decide_eq_true_eq]
      omega)
def rSize:Con Try.prog:=conN 67 I64 (fun n => .tv (tN .u64 n.natAbs)) ⟨_,Try.func67,by kernel_rfl,rfl⟩ (fun n w hl=>by
  refine fn_ret (cxOk Try.prog intsR_ok [] refK) follows Try.func67 rfl 100 _ rfl (by simp) ?_ (xs:=[tN .i64 n]) (.cons rfl .nil)
  repeat' first
    | exact trivial
    | (refine And.intro (show regChk _ _ _ _ _=true from by kernel_rfl) (And.intro ?_ ?_))
    | (refine And.intro (fun hb=>?_) (fun hb'=>?_))
    | refine And.intro ?_ ?_
    | intro _
  all_goals first
    | (show some (CR.tv (tN _ _))=some (CR.tv (tN _ _));refine tN_eq ?_;rw [u64_wrap];(try rw [u64_wrap]);have:=hl;unfold I64 at this;(first|(have h0:n<0:=of_decide_eq_true (by assumption);omega)|(have h0:¬ n<0:=of_decide_eq_false (by assumption);omega)))
    -- PVC
  )
def rFrom:Con Try.prog:=conN 36 I64 (fun n => .tv (tI n)) ⟨_,Try.func36,by kernel_rfl,rfl⟩ (fun n w hl=>by
  have hl1 : -9223372036854775808≤n∧n<9223372036854775808:=hl
  refine fn_ret (cxOk Try.prog intsR_ok [] [rMade,rSize,cNOf]) follows Try.func36 rfl 100 _ rfl (by simp) ?_ (xs:=[tN .i64 n]) (.cons rfl .nil)
  repeat' first
    | exact trivial
    | (refine And.intro (show regChk _ _ _ _ _=true from by kernel_rfl) (And.intro ?_ ?_))
    | (refine And.intro (fun hb=>?_) (fun hb'=>?_))
    | refine And.intro ?_ ?_
    | intro _
  all_goals first
    | (show (_:Int)=(_:Int);rfl)
    | (show (_:Bool)=(_:Bool);first|assumption|exact beq_iff_eq.2 (by assumption)|exact g2 (by assumption) (by assumption))
    | (with_reducible exact hl1.1)
    | (with_reducible exact hl1.2)
    | (with_reducible exact Int.natCast_nonneg _)
    | (show ((n.natAbs:Nat):Int)<_;have:=hl;unfold I64 at this;omega)
    | (show some (CR.tv (tI _))=some (CR.tv (tI _));(refine wh_eq ?_;show ofS (decide (n<0)) n.natAbs=n;unfold ofS;split<;>simp_all<;>omega))
    -- PVC
  )
def rSign:Con Try.prog:=con1 63 (fun _=>True) (fun x => .tv (tN .i64 (cmpI x 0))) ⟨_,Try.func63,by kernel_rfl,rfl⟩ (fun x A c w hl hr=>by
  refine fn_ret (cxOk Try.prog intsR_ok [] []) follows Try.func63 rfl 100 _ rfl (by simp) ?_ (args1 hr)
  repeat' first
    | exact trivial
    | (refine And.intro (show regChk _ _ _ _ _=true from by kernel_rfl) (And.intro ?_ ?_))
    | (refine And.intro (fun hb=>?_) (fun hb'=>?_))
    | refine And.intro ?_ ?_
    | intro _
  all_goals first
    | (show (_:Int)=(_:Int);rfl)
    | (show (_:Bool)=(_:Bool);first|assumption|exact beq_iff_eq.2 (by assumption)|exact g2 (by assumption) (by assumption))
    | (show some (CR.tv (tN _ _))=some (CR.tv (tN _ _));first|exact tN_eq (cmpI_np (sgn_t (by assumption)) (Int.le_refl 0))|exact tN_eq (sign_p (by assumption) (by assumption))|exact tN_eq (sign_z (by assumption) (by assumption)))
    -- PVC
  )
def rNeg:Con Try.prog:=con1 72 (fun _=>True) (fun x => .tv (tI (-x))) ⟨_,Try.func72,by kernel_rfl,rfl⟩ (fun x A c w hl hr=>by
  refine fn_ret (cxOk Try.prog intsR_ok [] [rMade]) follows Try.func72 rfl 100 _ rfl (by simp) ?_ (args1 hr)
  repeat' first
    | exact trivial
    | (refine And.intro (show regChk _ _ _ _ _=true from by kernel_rfl) (And.intro ?_ ?_))
    | (refine And.intro (fun hb=>?_) (fun hb'=>?_))
    | refine And.intro ?_ ?_
    | intro _
  all_goals first
    | (show (_:Int)=(_:Int);rfl)
    | (show (_:Bool)=(_:Bool);first|assumption|exact beq_iff_eq.2 (by assumption)|exact g2 (by assumption) (by assumption))
    | (show some (CR.tv (tI _))=some (CR.tv (tI _));exact wh_eq (ofS_neg' x))
    -- PVC
  )
def rZero:Con Try.prog:=con1 114 (fun _=>True) (fun x => .tv (tB (decide (x=0)))) ⟨_,Try.func114,by kernel_rfl,rfl⟩ (fun x A c w hl hr=>by
  refine fn_ret (cxOk Try.prog intsR_ok [] []) follows Try.func114 rfl 100 _ rfl (by simp) ?_ (args1 hr)
  repeat' first
    | exact trivial
    | (refine And.intro (show regChk _ _ _ _ _=true from by kernel_rfl) (And.intro ?_ ?_))
    | (refine And.intro (fun hb=>?_) (fun hb'=>?_))
    | refine And.intro ?_ ?_
    | intro _
  all_goals first
    | (show (_:Int)=(_:Int);rfl)
    | (show (_:Bool)=(_:Bool);first|assumption|exact beq_iff_eq.2 (by assumption)|exact g2 (by assumption) (by assumption))
    | (show some (CR.tv (tB _))=some (CR.tv (tB _));exact tB_eq (show (((lm x).length:Int) == 0)=_ by rw [Bool.eq_iff_iff];simp only [beq_iff_eq,decide_eq_true_eq];have:=lm_nil' (x:=x);omega))
    -- PVC
  )
def rPlus:Con Try.prog:=con2 37 (fun x y=>BI 20000 x∧BI 20000 y) (fun x y => .tv (tI (x+y))) ⟨_,Try.func37,by kernel_rfl,rfl⟩ (fun x y A A' c c' w hl hr hr'=>by
  refine fn_ret (cxOk Try.prog intsR_ok [] [rMade,cNPlus,cNLess,cNCmp]) follows Try.func37 rfl 100 _ rfl (by simp) ?_ (args2 hr hr')
  repeat' first
    | exact trivial
    | (refine And.intro (show regChk _ _ _ _ _=true from by kernel_rfl) (And.intro ?_ ?_))
    | (refine And.intro (fun hb=>?_) (fun hb'=>?_))
    | refine And.intro ?_ ?_
    | intro _
  all_goals first
    | (show (_:Int)=(_:Int);rfl)
    | (show (_:Bool)=(_:Bool);first|assumption|exact beq_iff_eq.2 (by assumption)|exact g2 (by assumption) (by assumption))
    | exact hl.1
    | exact hl.2
    | (show (_:Nat)≤(_:Nat);first|exact ncmp_ge (by assumption)|exact ncmp_lt (by assumption))
    | (show some (CR.tv (tI _))=some (CR.tv (tI _));(first|exact wh_eq (ofS_add' (by assumption))|exact wh_eq (ofS_sub' (by assumption) (ncmp_ge (by assumption)))|exact wh_eq ((ofS_sub' (x:=y) (y:=x) (by rw [show (sgn y == sgn x)=(sgn x == sgn y) from Bool.beq_comm];assumption) (ncmp_lt (by assumption))).trans (Int.add_comm _ _))))
    -- PVC
  )
def rLess:Con Try.prog:=con2 39 (fun x y=>BI 20000 x∧BI 20000 y) (fun x y => .tv (tI (x-y))) ⟨_,Try.func39,by kernel_rfl,rfl⟩ (fun x y A A' c c' w hl hr hr'=>by
  refine fn_ret (cxOk Try.prog intsR_ok [] [rPlus,rNeg]) follows Try.func39 rfl 100 _ rfl (by simp) ?_ (args2 hr hr')
  repeat' first
    | exact trivial
    | (refine And.intro (show regChk _ _ _ _ _=true from by kernel_rfl) (And.intro ?_ ?_))
    | (refine And.intro (fun hb=>?_) (fun hb'=>?_))
    | refine And.intro ?_ ?_
    | intro _
  all_goals first
    | (show (_:Int)=(_:Int);rfl)
    | (show (_:Bool)=(_:Bool);first|assumption|exact beq_iff_eq.2 (by assumption)|exact g2 (by assumption) (by assumption))
    | exact hl.1
    | (show BI 20000 (-y);exact hl.2.neg)
    | (show some (CR.tv (tI _))=some (CR.tv (tI _));exact wh_eq (by omega))
    -- PVC
  )
def rTimes:Con Try.prog:=con2 35 (fun x y=>BI 20000 x∧BI 20000 y) (fun x y => .tv (tI (x*y))) ⟨_,Try.func35,by kernel_rfl,rfl⟩ (fun x y A A' c c' w hl hr hr'=>by
  refine fn_ret (cxOk Try.prog intsR_ok [] [rMade,cNTimes]) follows Try.func35 rfl 100 _ rfl (by simp) ?_ (args2 hr hr')
  repeat' first
    | exact trivial
    | (refine And.intro (show regChk _ _ _ _ _=true from by kernel_rfl) (And.intro ?_ ?_))
    | (refine And.intro (fun hb=>?_) (fun hb'=>?_))
    | refine And.intro ?_ ?_
    | intro _
  all_goals first
    | (show (_:Int)=(_:Int);rfl)
    | (show (_:Bool)=(_:Bool);first|assumption|exact beq_iff_eq.2 (by assumption)|exact g2 (by assumption) (by assumption))
    | exact hl.1
    | exact hl.2
    | (show some (CR.tv (tI _))=some (CR.tv (tI _));exact wh_eq (ofS_prod' x y))
    -- PVC
  )
def rCmp:Con Try.prog:=con2 34 (fun x y=>BI 20000 x∧BI 20000 y) (fun x y => .tv (tN .i64 (cmpI x y))) ⟨_,Try.func34,by kernel_rfl,rfl⟩ (fun x y A A' c c' w hl hr hr'=>by
  refine fn_ret (cxOk Try.prog intsR_ok [] [rSign,rLess]) follows Try.func34 rfl 100 _ rfl (by simp) ?_ (args2 hr hr')
  repeat' first
    | exact trivial
    | (refine And.intro (show regChk _ _ _ _ _=true from by kernel_rfl) (And.intro ?_ ?_))
    | (refine And.intro (fun hb=>?_) (fun hb'=>?_))
    | refine And.intro ?_ ?_
    | intro _
  all_goals first
    | (show (_:Int)=(_:Int);rfl)
    | (show (_:Bool)=(_:Bool);first|assumption|exact beq_iff_eq.2 (by assumption)|exact g2 (by assumption) (by assumption))
    | exact hl.1
    | exact hl.2
    | (show some (CR.tv (tN _ _))=some (CR.tv (tN _ _));exact tN_eq (cmp_sub x y))
    -- PVC
  )
def rLeft:Con Try.prog:=con1n 38 (fun x n=>BI 20000 x∧0≤n∧n≤6400) (fun x n => .tv (tI (x*2 ^ n.toNat))) ⟨_,Try.func38,by kernel_rfl,rfl⟩ (fun x n A c w hl hr=>by
  have e:=ofS_mul' x (2 ^ n.toNat)
  rw [Int.natCast_pow] at e
  refine fn_ret (cxOk Try.prog intsR_ok [] [rMade,cUp2]) follows Try.func38 rfl 100 _ rfl (by simp) ?_ (args1n hr)
  repeat' first
    | exact trivial
    | (refine And.intro (show regChk _ _ _ _ _=true from by kernel_rfl) (And.intro ?_ ?_))
    | (refine And.intro (fun hb=>?_) (fun hb'=>?_))
    | refine And.intro ?_ ?_
    | intro _
  all_goals first
    | (show (_:Int)=(_:Int);rfl)
    | (show (_:Bool)=(_:Bool);first|assumption|exact beq_iff_eq.2 (by assumption)|exact g2 (by assumption) (by assumption))
    | exact hl.1
    | exact hl.2.1
    | exact hl.2.2
    | (show some (CR.tv (tI _))=some (CR.tv (tI _));exact wh_eq e)
    -- PVC
  )
def rRight:Con Try.prog:=con1n 97 (fun x n=>BI 10000 x∧0≤n∧n≤6400) (fun x n => .tv (tI (x/2 ^ n.toNat))) ⟨_,Try.func97,by kernel_rfl,rfl⟩ (fun x n A c w hl hr=>by
  refine fn_ret (cxOk Try.prog intsR_ok [] [rMade,cUp2,cDown2,cNCmp,cNPlus,cNOf]) follows Try.func97 rfl 100 _ rfl (by simp) ?_ (args1n hr)
  repeat' first
    | exact trivial
    | (refine And.intro (show regChk _ _ _ _ _=true from by kernel_rfl) (And.intro ?_ ?_))
    | (refine And.intro (fun hb=>?_) (fun hb'=>?_))
    | refine And.intro ?_ ?_
    | intro _
  all_goals first
    | (show (_:Int)=(_:Int);rfl)
    | (show (_:Bool)=(_:Bool);first|assumption|exact beq_iff_eq.2 (by assumption)|exact g2 (by assumption) (by assumption))
    | (show B 20000 (_:Nat);first|exact hl.1.mono (by decide)|exact (B.div hl.1 _).mono (by decide)|exact ((B.le hl.1 (Nat.div_mul_le_self _ _)).mono (by decide))|exact B.mono (e:=1) (show (1:Nat)<2 ^ 1 by decide) (by decide))
    | exact hl.2.1
    | exact hl.2.2
    | (show (0:Int)≤1;decide)
    | (show (1:Int)<18446744073709551616;decide)
    | (show some (CR.tv (tI _))=some (CR.tv (tI _));(first|exact wh_eq (right_up (by assumption))|exact wh_eq (right_dn (by assumption))))
    -- PVC
  )
def rDivide:Con Try.prog:=con2 113 (fun x y=>BI 9000 x∧BI 9000 y∧0<y) (fun x y => .tv (tQR (x/y) (x%y))) ⟨_,Try.func113,by kernel_rfl,rfl⟩ (fun x y A A' c c' w hl hr hr'=>by
  refine fn_ret (cxOk Try.prog intsR_ok [] [rMade,cNDivide,rLess,rFrom,rTimes]) follows Try.func113 rfl 100 _ rfl (by simp) ?_ (args2 hr hr')
  repeat' first
    | exact trivial
    | (refine And.intro (show regChk _ _ _ _ _=true from by kernel_rfl) (And.intro ?_ ?_))
    | (refine And.intro (fun hb=>?_) (fun hb'=>?_))
    | refine And.intro ?_ ?_
    | intro _
  all_goals first
    | (show (_:Int)=(_:Int);rfl)
    | (show (_:Bool)=(_:Bool);first|assumption|exact beq_iff_eq.2 (by assumption)|exact g2 (by assumption) (by assumption))
    | (show B 20000 (_:Nat);first|exact hl.1.mono (by decide)|exact hl.2.1.mono (by decide))
    | (show 0<y.natAbs;have:=hl.2.2;omega)
    | (show (-9223372036854775808:Int)≤1;decide)
    | (show (1:Int)<9223372036854775808;decide)
    | (show BI 20000 _;first|exact BI.one.mono (by decide)|exact hl.1.mono (by decide)|exact hl.2.1.mono (by decide)|exact (BI.ofS _ (B.div hl.1 _)).mono (by decide)|exact BI.sub (e:=9000) (BI.ofS _ (B.div hl.1 _)) (BI.one.mono (by decide)) (by decide)|exact BI.mul (e:=9001) (f:=9000) (BI.sub (e:=9000) (BI.ofS _ (B.div hl.1 _)) (BI.one.mono (by decide)) (by decide)) hl.2.1 (by decide)|exact BI.mul (e:=9000) (f:=9000) (BI.ofS _ (B.div hl.1 _)) hl.2.1 (by decide))
    | (show some (CR.tv (tQR _ _))=some (CR.tv (tQR _ _));first|exact qr_eq (rdv1 hl.2.2 (by assumption)).1 (rdv1 hl.2.2 (by assumption)).2|exact qr_eq (rdv2 hl.2.2 (by assumption)).1 (rdv2 hl.2.2 (by assumption)).2)
    -- PVC
  )
def rSmall:Con Try.prog:=con1 56 (fun _=>True) (fun x => .tv (tNB (smallI x).1 (smallI x).2)) ⟨_,Try.func56,by kernel_rfl,rfl⟩ (fun x A c w hl hr=>by
  refine fn_ret (cxOk Try.prog intsR_ok [] []) follows Try.func56 rfl 100 _ rfl (by simp) ?_ (args1 hr)
  repeat' first
    | exact trivial
    | (refine And.intro (show regChk _ _ _ _ _=true from by kernel_rfl) (And.intro ?_ ?_))
    | (refine And.intro (fun hb=>?_) (fun hb'=>?_))
    | refine And.intro ?_ ?_
    | intro _
  all_goals first
    | (show (_:Int)=(_:Int);rfl)
    | (show (_:Bool)=(_:Bool);first|assumption|exact beq_iff_eq.2 (by assumption)|exact g2 (by assumption) (by assumption))
    | (show (0:Int)<((lm x).length:Int);exact len_gt (by assumption))
    | (show (0:Int)≤0;decide)
    | (show (0:Int)<_;exact len_gt (by assumption))
    | (show some (CR.tv (tNB _ _))=some (CR.tv (tNB _ _));first|exact nb_eq (small0 (by assumption))|exact nb_eq (rsmall1 (by assumption) (by assumption))|exact nb_eq (rsmall2 (by assumption) (by assumption) (by assumption))|exact nb_eq (rsmall3 (by assumption) (by assumption) (by assumption)))
    -- PVC
  )
end
end Go.Proofs.Ythokdnheijnmmaa.Wh
end
section
set_option linter.unusedVariables false
set_option linter.unusedSimpArgs false
namespace Go.Proofs.Ythokdnheijnmmaa.Wh
open Go Go.RowKit Go.Proofs.YthokdnheijnmmaaW.PrintWords Go.Proofs.YthokdnheijnmmaaW.PrintMore Go.Proofs.YthokdnheijnmmaaW.Aid Go.Proofs.YthokdnheijnmmaaW.Big Go.Proofs.YthokdnheijnmmaaW.Sx Go.Proofs.Ythokdnheijnmmaa.BitsWalk Go.Proofs.Ythokdnheijnmmaa.Limbs Go.Proofs.Ythokdnheijnmmaa.Whole Go.Proofs.Ythokdnheijnmmaa.R90 Go.Proofs.Ythokdnheijnmmaa.QN90 Go.Proofs.Ythokdnheijnmmaa.FxWalk Go.Proofs
abbrev tRat (x d:Int):TV := .agg [.neg x,.mag x,.mag d]
def gcdI (n d:Int):Int:=((Nat.gcd n.natAbs d.natAbs:Nat):Int)
theorem nn_eq2 {p q:Int × Int} (h:p=q):(some (CR.tv (tNN p.1 p.2)):Option CR)=some (CR.tv (tNN q.1 q.2)):=by rw [h]
theorem rat_eq {x d x' d':Int} (h:x=x') (h':d=d'):(some (CR.tv (tRat x d)):Option CR)=some (CR.tv (tRat x' d')):=by rw [h,h']
theorem ofS_false {d:Int} (h:0≤d):ofS false d.natAbs=d:=by
  show ((d.natAbs:Nat):Int)=d
  omega
theorem gcd_pos (n:Nat) {d:Int} (h:0<d):0<Nat.gcd n d.natAbs:=Nat.gcd_pos_of_pos_right _ (by omega)
theorem gcdI_pos (n:Int) {d:Int} (h:0<d):0<gcdI n d:=by
  have:=gcd_pos n.natAbs h
  unfold gcdI;omega
theorem make_num {n:Int} {g:Nat} (h:g∣n.natAbs) (hg:0<g):ofS (sgn n) (n.natAbs/g)=n/(g:Int):=by
  obtain ⟨q,hq⟩:=h
  rw [hq,Nat.mul_div_cancel_left _ hg]
  cases hs:sgn n with
  | true =>
    have hn:=sgn_t hs
    have e:n=(g:Int)*(-(q:Int)):=by rw [Int.mul_neg,← Int.natCast_mul,← hq];omega
    rw [e,Int.mul_ediv_cancel_left _ (by omega)]
    rfl
  | false =>
    have hn:=sgn_f hs
    have e:n=(g:Int)*(q:Int):=by rw [← Int.natCast_mul,← hq];omega
    rw [e,Int.mul_ediv_cancel_left _ (by omega)]
    rfl
theorem make_den {d:Int} {g:Nat} (h:0≤d):((d.natAbs/g:Nat):Int)=d/(g:Int):=by rw [Int.natCast_ediv,Int.natAbs_of_nonneg h]
theorem gcdI_n (n d:Int):∃ q,n=gcdI n d*q:=by
  obtain ⟨q,hq⟩:=Nat.gcd_dvd_left n.natAbs d.natAbs
  rcases Int.le_total 0 n with h|h
  · exact ⟨q,by unfold gcdI;rw [← Int.natCast_mul,← hq];omega⟩
  · exact ⟨-(q:Int),by unfold gcdI;rw [Int.mul_neg,← Int.natCast_mul,← hq];omega⟩
theorem gcdI_d (n:Int) {d:Int} (h:0≤d):∃ q,d=gcdI n d*q:=by
  obtain ⟨q,hq⟩:=Nat.gcd_dvd_right n.natAbs d.natAbs
  exact ⟨q,by unfold gcdI;rw [← Int.natCast_mul,← hq];omega⟩
theorem round_gcd (n:Int) {d:Int} (h:0<d):roundP (n/gcdI n d) (d/gcdI n d)=roundP n d∧0<d/gcdI n d:=by
  have hg:=gcdI_pos n h
  obtain ⟨q,hq⟩:=gcdI_n n d
  obtain ⟨r,hr⟩:=gcdI_d n (Int.le_of_lt h)
  generalize gcdI n d=g at *
  subst hq hr
  rw [Int.mul_ediv_cancel_left _ (by omega),Int.mul_ediv_cancel_left _ (by omega)]
  have hr0:0<r:=by
    by_cases h1:0<r
    · exact h1
    · have:=Int.mul_le_mul_of_nonneg_left (show r≤0 by omega) (Int.le_of_lt hg)
      rw [Int.mul_zero] at this;omega
  exact ⟨(roundP_scale hg hr0).symm,hr0⟩
theorem near_cases (x:Int) {d:Int} (hd:0<d):(2*(x%d)<d∧x*2/d=2*(x/d)∧x*2%d=2*(x%d))∨(d≤2*(x%d)∧x*2/d=2*(x/d)+1∧x*2%d=2*(x%d)-d):=by
  have e:=Int.emod_add_mul_ediv x d
  have h0:=Int.emod_nonneg x (by omega:d≠0)
  have h1:=Int.emod_lt_of_pos x hd
  generalize x%d=m at *
  generalize x/d=q at *
  by_cases h:2*m<d
  · left
    have e2:x*2=2*m+d*(2*q):=by rw [show d*(2*q)=2*(d*q) by rw [← Int.mul_assoc,Int.mul_comm d 2,Int.mul_assoc]];omega
    refine ⟨h,?_,?_⟩
    · rw [e2,Int.add_mul_ediv_left _ _ (by omega),Int.ediv_eq_zero_of_lt (by omega) h];omega
    · rw [e2,Int.add_mul_emod_self_left,Int.emod_eq_of_lt (by omega) h]
  · right
    have e2:x*2=(2*m-d)+d*(2*q+1):=by rw [Int.mul_add,show d*(2*q)=2*(d*q) by rw [← Int.mul_assoc,Int.mul_comm d 2,Int.mul_assoc]];omega
    refine ⟨by omega,?_,?_⟩
    · rw [e2,Int.add_mul_ediv_left _ _ (by omega),Int.ediv_eq_zero_of_lt (by omega) (by omega)];omega
    · rw [e2,Int.add_mul_emod_self_left,Int.emod_eq_of_lt (by omega) (by omega)]
theorem cmpI_zero {x y:Int}:cmpI x y=0↔x=y:=by
  unfold cmpI
  split
  · constructor<;>intro h<;>omega
  · split
    · constructor<;>intro h<;>omega
    · constructor<;>intro h<;>omega
theorem near_even {x d:Int} (hd:0<d) (h:(!(cmpI (x*2 ^ Int.toNat 1/ofS false d.natAbs/2 ^ Int.toNat 1*2 ^ Int.toNat 1) (x*2 ^ Int.toNat 1/ofS false d.natAbs) != 0))=true):x*2 ^ Int.toNat 1/ofS false d.natAbs/2 ^ Int.toNat 1=roundP x d:=by
  rw [ofS_false (Int.le_of_lt hd)] at *
  have h2:(2:Int) ^ Int.toNat 1=2:=rfl
  rw [h2] at *
  have h3:cmpI (x*2/d/2*2) (x*2/d)=0:=by simpa using h
  rw [cmpI_zero] at h3
  unfold roundP
  rcases near_cases x hd with ⟨a,b,c⟩|⟨a,b,c⟩
  · rw [b,if_neg (by omega)];omega
  · rw [b] at h3;omega
theorem near_up {x d:Int} (hd:0<d) (h:(!(cmpI (x*2 ^ Int.toNat 1/ofS false d.natAbs/2 ^ Int.toNat 1*2 ^ Int.toNat 1) (x*2 ^ Int.toNat 1/ofS false d.natAbs) != 0))=false) (hr:(!decide (x*2 ^ Int.toNat 1%ofS false d.natAbs=0))=true):x*2 ^ Int.toNat 1/ofS false d.natAbs/2 ^ Int.toNat 1+1=roundP x d:=by
  rw [ofS_false (Int.le_of_lt hd)] at *
  have h2:(2:Int) ^ Int.toNat 1=2:=rfl
  rw [h2] at *
  have h3:¬ cmpI (x*2/d/2*2) (x*2/d)=0:=by simpa using h
  rw [cmpI_zero] at h3
  have h4:¬ x*2%d=0:=by simpa using hr
  unfold roundP
  rcases near_cases x hd with ⟨a,b,c⟩|⟨a,b,c⟩
  · rw [b] at h3;omega
  · rw [b,if_pos (by omega)];omega
theorem near_tie {x d:Int} (hd:0<d) (h:(!(cmpI (x*2 ^ Int.toNat 1/ofS false d.natAbs/2 ^ Int.toNat 1*2 ^ Int.toNat 1) (x*2 ^ Int.toNat 1/ofS false d.natAbs) != 0))=false) (hr:(!decide (x*2 ^ Int.toNat 1%ofS false d.natAbs=0))=false) {b:Bool}
    (hc:(cmpI (x*2 ^ Int.toNat 1/ofS false d.natAbs/2 ^ Int.toNat 1/2 ^ Int.toNat 1*2 ^ Int.toNat 1) (x*2 ^ Int.toNat 1/ofS false d.natAbs/2 ^ Int.toNat 1) == 0)=b) :
    x*2 ^ Int.toNat 1/ofS false d.natAbs/2 ^ Int.toNat 1+(if b then 0 else 1)=roundP x d:=by
  rw [ofS_false (Int.le_of_lt hd)] at h hr hc ⊢
  have h2:(2:Int) ^ Int.toNat 1=2:=rfl
  simp only [h2] at h hr hc ⊢
  have h3:¬ cmpI (x*2/d/2*2) (x*2/d)=0:=by simpa using h
  rw [cmpI_zero] at h3
  have h4:x*2%d=0:=by simpa using hr
  unfold roundP
  rcases near_cases x hd with ⟨a,b',c⟩|⟨a,b',c⟩
  · rw [b'] at h3;omega
  · rw [b'] at hc ⊢
    have e:(2*(x/d)+1)/2=x/d:=by omega
    rw [e] at hc ⊢
    cases b with
    | true =>
      have h5:=cmpI_zero.1 (beq_iff_eq.1 hc)
      rw [if_pos rfl,if_neg (by omega)];omega
    | false =>
      have h5:¬ x/d/2*2=x/d:=fun e=>by
        have:=cmpI_zero.2 e
        rw [this] at hc;cases hc
      rw [if_neg (by decide),if_pos (by omega)]
theorem near_t1 {x d:Int} (hd:0<d) (h:(!(cmpI (x*2 ^ Int.toNat 1/ofS false d.natAbs/2 ^ Int.toNat 1*2 ^ Int.toNat 1) (x*2 ^ Int.toNat 1/ofS false d.natAbs) != 0))=false) (hr:(!decide (x*2 ^ Int.toNat 1%ofS false d.natAbs=0))=false)
    (hc:(cmpI (x*2 ^ Int.toNat 1/ofS false d.natAbs/2 ^ Int.toNat 1/2 ^ Int.toNat 1*2 ^ Int.toNat 1) (x*2 ^ Int.toNat 1/ofS false d.natAbs/2 ^ Int.toNat 1) == 0)=true) :
    x*2 ^ Int.toNat 1/ofS false d.natAbs/2 ^ Int.toNat 1=roundP x d:=by
  have:=near_tie hd h hr hc
  rwa [if_pos rfl,Int.add_zero] at this
theorem near_t0 {x d:Int} (hd:0<d) (h:(!(cmpI (x*2 ^ Int.toNat 1/ofS false d.natAbs/2 ^ Int.toNat 1*2 ^ Int.toNat 1) (x*2 ^ Int.toNat 1/ofS false d.natAbs) != 0))=false) (hr:(!decide (x*2 ^ Int.toNat 1%ofS false d.natAbs=0))=false)
    (hc:(cmpI (x*2 ^ Int.toNat 1/ofS false d.natAbs/2 ^ Int.toNat 1/2 ^ Int.toNat 1*2 ^ Int.toNat 1) (x*2 ^ Int.toNat 1/ofS false d.natAbs/2 ^ Int.toNat 1) == 0)=false) :
    x*2 ^ Int.toNat 1/ofS false d.natAbs/2 ^ Int.toNat 1+1=roundP x d:=by
  have:=near_tie hd h hr hc
  rwa [if_neg (by decide)] at this
def ovN (n d:Int):Int:=if d<0 then -n else n
theorem round_over (n:Int) {d:Int} (h:d≠0):roundP (ovN n d) ((d.natAbs:Nat):Int)=roundI n d:=by
  unfold roundI ovN
  by_cases hd:d<0
  · rw [if_pos hd,if_pos hd,show ((d.natAbs:Nat):Int) = -d by omega]
  · rw [if_neg hd,if_neg hd,show ((d.natAbs:Nat):Int)=d by omega]
theorem may_eq (v:Int):(bif decide (v > -35184372088832) then decide (v<35184372088832) else false)=wd v:=by
  rw [Bool.eq_iff_iff,wd_iff]
  by_cases h:v > -35184372088832
  · rw [decide_eq_true h];simp;omega
  · rw [decide_eq_false h];simp;omega
theorem gtold0 {x:Int} (h:(bif !(smallI x).2 then true else !wd (smallI x).1)=true):((0:Int),(2:Int))=toldR x:=by
  cases hs:(smallI x).2 with
  | false=>have:=told0 (x:=x) (by rw [hs];rfl);exact this
  | true =>
    rw [hs] at h
    have h2:wd (smallI x).1=false:=by simpa using h
    have e:(smallI x).1=x:=by
      unfold smallI at hs ⊢
      split
      · rfl
      · rename_i hc;rw [if_neg hc] at hs;cases hs
    rw [e] at h2
    unfold toldR;rw [h2];rfl
theorem gtold1 {x:Int} (h:(bif !(smallI x).2 then true else !wd (smallI x).1)=false):((smallI x).1,(0:Int))=toldR x:=by
  cases hs:(smallI x).2 with
  | false=>rw [hs] at h;cases h
  | true =>
    rw [hs] at h
    have h2:wd (smallI x).1=true:=by simpa using h
    have e:(smallI x).1=x:=by
      unfold smallI at hs ⊢
      split
      · rfl
      · rename_i hc;rw [if_neg hc] at hs;cases hs
    rw [e] at h2 ⊢
    unfold toldR;rw [h2];rfl
theorem over_gcd (n:Int) {d:Int} (h:d≠0):roundP (ovN n d/gcdI (ovN n d) ((d.natAbs:Nat):Int)) (((d.natAbs:Nat):Int)/gcdI (ovN n d) ((d.natAbs:Nat):Int))=roundI n d∧0<((d.natAbs:Nat):Int)/gcdI (ovN n d) ((d.natAbs:Nat):Int):=by
  have:=round_gcd (ovN n d) (show 0<((d.natAbs:Nat):Int) by omega)
  rw [round_over n h] at this
  exact this
theorem ov_neg {n d:Int} (h:sgn d=true):ovN n d = -n:=by unfold ovN;rw [if_pos (sgn_t h)]
theorem ov_pos {n d:Int} (h:sgn d=false):ovN n d=n:=by unfold ovN;rw [if_neg (by have:=sgn_f h;omega)]
theorem BI.ov {e:Nat} {n:Int} (h:BI e n) (d:Int):BI e (ovN n d):=by
  unfold ovN
  split
  · exact h.neg
  · exact h
theorem make_denA (d:Int) (g:Nat):((d.natAbs/g:Nat):Int)=((d.natAbs:Nat):Int)/(g:Int):=by rw [Int.natCast_ediv]
theorem gcdI_abs (n d:Int):gcdI n ((d.natAbs:Nat):Int)=gcdI n d:=by unfold gcdI;rw [Int.natAbs_natCast]
theorem over_gcd' (n:Int) {d:Int} (h:d≠0):roundP (ovN n d/gcdI (ovN n d) d) (((d.natAbs:Nat):Int)/gcdI (ovN n d) d)=roundI n d∧0<((d.natAbs:Nat):Int)/gcdI (ovN n d) d:=by
  have:=over_gcd n h
  rwa [gcdI_abs] at this
theorem BI.abs {e:Nat} {x:Int} (h:BI e x):BI e ((x.natAbs:Nat):Int):=by unfold BI;rw [Int.natAbs_natCast];exact h
theorem ratio_over {a b:Int} (h:(b == 0)=false):toldR (roundP (ovN a b/gcdI (ovN a b) b) (((b.natAbs:Nat):Int)/gcdI (ovN a b) b))=ratioR a b:=by
  have hb:=beq_eq_false_iff_ne.1 h
  rw [(over_gcd' a hb).1]
  unfold ratioR;rw [if_neg hb]
section
set_option maxRecDepth 100000
set_option maxHeartbeats 1000000
def rPow:Con Try.prog where
  f:=93
  sem:=fun xs=>match xs with
    | [.agg [.neg x,.mag x'],.sc (.v (.int .i64 n))]=>some (x'=x∧n=2∧BI 5000 x,.tv (tI (x*x)))
    | _=>none
  ok := by
    intro xs p r' h hp
    refine ⟨⟨_,Try.func93,by kernel_rfl,rfl⟩,fun us w ha=>?_⟩
    split at h
    · rename_i x x' n
      cases h
      obtain ⟨rfl,rfl,hx⟩:=hp
      refine fn_ret (cxOk Try.prog intsR_ok [] [rFrom,rTimes]) follows Try.func93 rfl 100 _ rfl (by simp) ?_ ha
      repeat' first
        | exact trivial
        | (refine And.intro (show regChk _ _ _ _ _=true from by kernel_rfl) (And.intro ?_ ?_))
        | (refine And.intro (fun _=>?_) (fun h=>absurd (show true=false from h) (by decide)))
        | (refine And.intro (fun h=>absurd (show false=true from h) (by decide)) (fun _=>?_))
        | (refine And.intro (fun hb=>?_) (fun hb'=>?_))
        | refine And.intro ?_ ?_
        | intro _
      all_goals first
        | (show (_:Int)=(_:Int);rfl)
        | (show (_:Bool)=(_:Bool);first|assumption|exact beq_iff_eq.2 (by assumption)|exact g2 (by assumption) (by assumption))
        | (show BI 20000 _;first|exact hx.mono (by decide)|exact BI.one.mono (by decide)|exact BI.mul (e:=1) (f:=5000) BI.one hx (by decide))
        | (show (-9223372036854775808:Int)≤1;decide)
        | (show (1:Int)<9223372036854775808;decide)
        | (show some (CR.tv (tI _))=some (CR.tv (tI _));exact wh_eq (by rw [Int.one_mul]))
        -- PVC
    · cases h
def qMake:Con Try.prog where
  f:=77
  sem:=fun xs=>match xs with
    | [.agg [.neg n,.mag n'],.sc (.mag d)]=>some (n'=n∧0<d∧BI 8000 n∧BI 8000 d,.tv (tRat (n/gcdI n d) (d/gcdI n d)))
    | _=>none
  ok := by
    intro xs p r' h hp
    refine ⟨⟨_,Try.func77,by kernel_rfl,rfl⟩,fun us w ha=>?_⟩
    split at h
    · rename_i n n' d
      cases h
      obtain ⟨rfl,h0,hn,hd⟩:=hp
      have gp:=gcd_pos n'.natAbs h0
      have gl:B 8000 (Nat.gcd n'.natAbs d.natAbs):=B.le hd (Nat.gcd_le_right _ (by omega))
      refine fn_ret (cxOk Try.prog intsR_ok [] [cNGcd,cNDivide,rMade]) follows Try.func77 rfl 100 _ rfl (by simp) ?_ ha
      repeat' first
        | exact trivial
        | (refine And.intro (show regChk _ _ _ _ _=true from by kernel_rfl) (And.intro ?_ ?_))
        | (refine And.intro (fun _=>?_) (fun h=>absurd (show true=false from h) (by decide)))
        | (refine And.intro (fun h=>absurd (show false=true from h) (by decide)) (fun _=>?_))
        | (refine And.intro (fun hb=>?_) (fun hb'=>?_))
        | refine And.intro ?_ ?_
        | intro _
      all_goals first
        | (show (_:Int)=(_:Int);rfl)
        | (show (_:Bool)=(_:Bool);first|assumption|exact beq_iff_eq.2 (by assumption)|exact g2 (by assumption) (by assumption))
        | (show B _ _;first|exact B.mono hn (by decide)|exact B.mono hd (by decide)|exact B.mono gl (by decide))
        | (show 0<Int.natAbs _;exact gp)
        | (show some (CR.tv (tRat _ _))=some (CR.tv (tRat _ _));exact rat_eq (by simp only [Int.natAbs_natCast];exact make_num (Nat.gcd_dvd_left _ _) gp) (by simp only [Int.natAbs_natCast];exact make_den (Int.le_of_lt h0)))
        -- PVC
    · cases h
def qFrom:Con Try.prog where
  f:=59
  sem:=fun xs=>match xs with
    | [.agg [.neg x,.mag x']]=>some (x'=x,.tv (tRat x 1))
    | _=>none
  ok := by
    intro xs p r' h hp
    refine ⟨⟨_,Try.func59,by kernel_rfl,rfl⟩,fun us w ha=>?_⟩
    split at h
    · rename_i x x'
      cases h
      obtain rfl:=hp
      refine fn_ret (cxOk Try.prog intsR_ok [] [cNOf]) follows Try.func59 rfl 100 _ rfl (by simp) ?_ ha
      repeat' first
        | exact trivial
        | (refine And.intro (show regChk _ _ _ _ _=true from by kernel_rfl) (And.intro ?_ ?_))
        | (refine And.intro (fun _=>?_) (fun h=>absurd (show true=false from h) (by decide)))
        | (refine And.intro (fun h=>absurd (show false=true from h) (by decide)) (fun _=>?_))
        | (refine And.intro (fun hb=>?_) (fun hb'=>?_))
        | refine And.intro ?_ ?_
        | intro _
      all_goals first
        | (show (_:Int)=(_:Int);rfl)
        | (show (_:Bool)=(_:Bool);first|assumption|exact beq_iff_eq.2 (by assumption)|exact g2 (by assumption) (by assumption))
        | (show (-9223372036854775808:Int)≤0;decide)
        | (show (-9223372036854775808:Int)≤1;decide)
        | (show (0:Int)<9223372036854775808;decide)
        | (show (1:Int)<9223372036854775808;decide)
        | (show (0:Int)≤1;decide)
        | (show (1:Int)≤6400;decide)
        | (show (1:Int)<18446744073709551616;decide)
        | (show (0:Int)≤2;decide)
        | (show (2:Int)<18446744073709551616;decide)
        | (show (0:Int)≤30;decide)
        | (show (30:Int)≤6400;decide)
        | (show (2:Int)=2;rfl)
        | (show (_:Nat)=(_:Nat);rfl)
        | (show some (CR.tv (tRat _ _))=some (CR.tv (tRat _ _));exact rat_eq rfl rfl)
        -- PVC
    · cases h
def qden:Con Try.prog where
  f:=118
  sem:=fun xs=>match xs with
    | [.agg [.neg x,.mag x',.mag d]]=>some (0≤d,.tv (tI d))
    | _=>none
  ok := by
    intro xs p r' h hp
    refine ⟨⟨_,Try.func118,by kernel_rfl,rfl⟩,fun us w ha=>?_⟩
    split at h
    · rename_i x x' d
      cases h
      refine fn_ret (cxOk Try.prog intsR_ok [] [rMade]) follows Try.func118 rfl 100 _ rfl (by simp) ?_ ha
      repeat' first
        | exact trivial
        | (refine And.intro (show regChk _ _ _ _ _=true from by kernel_rfl) (And.intro ?_ ?_))
        | (refine And.intro (fun _=>?_) (fun h=>absurd (show true=false from h) (by decide)))
        | (refine And.intro (fun h=>absurd (show false=true from h) (by decide)) (fun _=>?_))
        | (refine And.intro (fun hb=>?_) (fun hb'=>?_))
        | refine And.intro ?_ ?_
        | intro _
      all_goals first
        | (show (_:Int)=(_:Int);rfl)
        | (show (_:Bool)=(_:Bool);first|assumption|exact beq_iff_eq.2 (by assumption)|exact g2 (by assumption) (by assumption))
        | (show some (CR.tv (tI _))=some (CR.tv (tI _));exact wh_eq (ofS_false hp))
        -- PVC
    · cases h
def qNear:Con Try.prog where
  f:=86
  sem:=fun xs=>match xs with
    | [.agg [.neg x,.mag x',.mag d]]=>some (x'=x∧0<d∧BI 8000 x∧BI 8000 d,.tv (tI (roundP x d)))
    | _=>none
  ok := by
    intro xs p r' h hp
    refine ⟨⟨_,Try.func86,by kernel_rfl,rfl⟩,fun us w ha=>?_⟩
    split at h
    · rename_i x x' d
      cases h
      obtain ⟨rfl,h0,hn,hd⟩:=hp
      have b1:BI 8001 (x'*2 ^ Int.toNat 1):=BI.shl 1 hn (by decide)
      have b2:BI 8000 (ofS false d.natAbs):=by rw [ofS_false (Int.le_of_lt h0)];exact hd
      have b3:BI 8001 (x'*2 ^ Int.toNat 1/ofS false d.natAbs):=b1.div _
      have b4:BI 8001 (x'*2 ^ Int.toNat 1/ofS false d.natAbs/2 ^ Int.toNat 1):=b3.div _
      have b5:BI 8002 (x'*2 ^ Int.toNat 1/ofS false d.natAbs/2 ^ Int.toNat 1*2 ^ Int.toNat 1):=BI.shl 1 b4 (by decide)
      have b6:BI 8002 (x'*2 ^ Int.toNat 1/ofS false d.natAbs/2 ^ Int.toNat 1/2 ^ Int.toNat 1*2 ^ Int.toNat 1):=BI.shl 1 (b4.div _) (by decide)
      refine fn_ret (cxOk Try.prog intsR_ok [] [rMade,rDivide,rLeft,rRight,rCmp,rPlus,rFrom,rZero]) follows Try.func86 rfl 100 _ rfl (by simp) ?_ ha
      repeat' first
        | exact trivial
        | (refine And.intro (show regChk _ _ _ _ _=true from by kernel_rfl) (And.intro ?_ ?_))
        | (refine And.intro (fun _=>?_) (fun h=>absurd (show true=false from h) (by decide)))
        | (refine And.intro (fun h=>absurd (show false=true from h) (by decide)) (fun _=>?_))
        | (refine And.intro (fun hb=>?_) (fun hb'=>?_))
        | refine And.intro ?_ ?_
        | intro _
      all_goals first
        | (show (_:Int)=(_:Int);rfl)
        | (show (_:Bool)=(_:Bool);first|assumption|exact beq_iff_eq.2 (by assumption)|exact g2 (by assumption) (by assumption))
        | (show (-9223372036854775808:Int)≤0;decide)
        | (show (-9223372036854775808:Int)≤1;decide)
        | (show (0:Int)<9223372036854775808;decide)
        | (show (1:Int)<9223372036854775808;decide)
        | (show (0:Int)≤1;decide)
        | (show (1:Int)≤6400;decide)
        | (show (1:Int)<18446744073709551616;decide)
        | (show (0:Int)≤2;decide)
        | (show (2:Int)<18446744073709551616;decide)
        | (show (0:Int)≤30;decide)
        | (show (30:Int)≤6400;decide)
        | (show (2:Int)=2;rfl)
        | (show (_:Nat)=(_:Nat);rfl)
        | (show (0:Int)<ofS _ _;rw [ofS_false (Int.le_of_lt h0)];exact h0)
        | (show BI _ _;first|exact BI.mono hn (by decide)|exact BI.mono b2 (by decide)|exact BI.mono BI.one (by decide)|exact BI.mono b3 (by decide)|exact BI.mono b4 (by decide)|exact BI.mono b5 (by decide)|exact BI.mono (b4.div _) (by decide)|exact BI.mono b6 (by decide)|exact BI.mono b1 (by decide))
        | (show some (CR.tv (tI _))=some (CR.tv (tI _));first|exact wh_eq (near_even h0 (by assumption))|exact wh_eq (near_up h0 (by assumption) (by assumption))|exact wh_eq (near_t1 h0 (by assumption) (by assumption) (by assumption))|exact wh_eq (near_t0 h0 (by assumption) (by assumption) (by assumption)))
        -- PVC
    · cases h
def gMay:Con Try.prog where
  f:=14
  sem:=fun xs=>match xs with
    | [.sc (.v (.int .i64 v))]=>some (True,.tv (tB (wd v)))
    | _=>none
  ok := by
    intro xs p r' h hp
    refine ⟨⟨_,Try.func14,by kernel_rfl,rfl⟩,fun us w ha=>?_⟩
    split at h
    · rename_i v
      cases h
      refine fn_ret (cxOk Try.prog intsR_ok [] []) follows Try.func14 rfl 100 _ rfl (by simp) ?_ ha
      repeat' first
        | exact trivial
        | (refine And.intro (show regChk _ _ _ _ _=true from by kernel_rfl) (And.intro ?_ ?_))
        | (refine And.intro (fun _=>?_) (fun h=>absurd (show true=false from h) (by decide)))
        | (refine And.intro (fun h=>absurd (show false=true from h) (by decide)) (fun _=>?_))
        | (refine And.intro (fun hb=>?_) (fun hb'=>?_))
        | refine And.intro ?_ ?_
        | intro _
      all_goals first
        | (show (_:Int)=(_:Int);rfl)
        | (show (_:Bool)=(_:Bool);first|assumption|exact beq_iff_eq.2 (by assumption)|exact g2 (by assumption) (by assumption))
        | (show some (CR.tv (tB _))=some (CR.tv (tB _));exact tB_eq (may_eq v))
        -- PVC
    · cases h
def gWord:Con Try.prog where
  f:=53
  sem:=fun xs=>match xs with
    | [.agg [.neg x,.mag x']]=>some (x'=x,.tv (tNN (toldR x).1 (toldR x).2))
    | _=>none
  ok := by
    intro xs p r' h hp
    refine ⟨⟨_,Try.func53,by kernel_rfl,rfl⟩,fun us w ha=>?_⟩
    split at h
    · rename_i x x'
      cases h
      obtain rfl:=hp
      refine fn_ret (cxOk Try.prog intsR_ok [] [rSmall,gMay]) follows Try.func53 rfl 100 _ rfl (by simp) ?_ ha
      repeat' first
        | exact trivial
        | (refine And.intro (show regChk _ _ _ _ _=true from by kernel_rfl) (And.intro ?_ ?_))
        | (refine And.intro (fun _=>?_) (fun h=>absurd (show true=false from h) (by decide)))
        | (refine And.intro (fun h=>absurd (show false=true from h) (by decide)) (fun _=>?_))
        | (refine And.intro (fun hb=>?_) (fun hb'=>?_))
        | refine And.intro ?_ ?_
        | intro _
      all_goals first
        | (show (_:Int)=(_:Int);rfl)
        | (show (_:Bool)=(_:Bool);first|assumption|exact beq_iff_eq.2 (by assumption)|exact g2 (by assumption) (by assumption))
        | (show some (CR.tv (tNN _ _))=some (CR.tv (tNN _ _));first|exact nn_eq (gtold0 (by assumption))|exact nn_eq (gtold1 (by assumption)))
        -- PVC
    · cases h
def gNear:Con Try.prog where
  f:=50
  sem:=fun xs=>match xs with
    | [.agg [.neg x,.mag x',.mag d]]=>some (x'=x∧0<d∧BI 8000 x∧BI 8000 d,.tv (tNN (toldR (roundP x d)).1 (toldR (roundP x d)).2))
    | _=>none
  ok := by
    intro xs p r' h hp
    refine ⟨⟨_,Try.func50,by kernel_rfl,rfl⟩,fun us w ha=>?_⟩
    split at h
    · rename_i x x' d
      cases h
      obtain ⟨rfl,h0,hn,hd⟩:=hp
      refine fn_ret (cxOk Try.prog intsR_ok [] [qNear,gWord]) follows Try.func50 rfl 100 _ rfl (by simp) ?_ ha
      repeat' first
        | exact trivial
        | (refine And.intro (show regChk _ _ _ _ _=true from by kernel_rfl) (And.intro ?_ ?_))
        | (refine And.intro (fun _=>?_) (fun h=>absurd (show true=false from h) (by decide)))
        | (refine And.intro (fun h=>absurd (show false=true from h) (by decide)) (fun _=>?_))
        | (refine And.intro (fun hb=>?_) (fun hb'=>?_))
        | refine And.intro ?_ ?_
        | intro _
      all_goals first
        | (show (_:Int)=(_:Int);rfl)
        | (show (_:Bool)=(_:Bool);first|assumption|exact beq_iff_eq.2 (by assumption)|exact g2 (by assumption) (by assumption))
        | (show BI _ _;first|exact BI.mono hn (by decide)|exact BI.mono hd (by decide))
        | (show (0:Int)<d;exact h0)
        | (show some (CR.tv (tNN _ _))=some (CR.tv (tNN _ _));rfl)
        -- PVC
    · cases h
def qMakeA:Con Try.prog where
  f:=77
  sem:=fun xs=>match xs with
    | [.agg [.neg n,.mag n'],.sc (.mag d)]=>some (n'=n∧d≠0∧BI 8000 n∧BI 8000 d,.tv (tRat (n/gcdI n d) (((d.natAbs:Nat):Int)/gcdI n d)))
    | _=>none
  ok := by
    intro xs p r' h hp
    refine ⟨⟨_,Try.func77,by kernel_rfl,rfl⟩,fun us w ha=>?_⟩
    split at h
    · rename_i n n' d
      cases h
      obtain ⟨rfl,h0,hn,hd⟩:=hp
      have gp:0<Nat.gcd n'.natAbs d.natAbs:=Nat.gcd_pos_of_pos_right _ (by omega)
      have gl:B 8000 (Nat.gcd n'.natAbs d.natAbs):=B.le hd (Nat.gcd_le_right _ (by omega))
      refine fn_ret (cxOk Try.prog intsR_ok [] [cNGcd,cNDivide,rMade]) follows Try.func77 rfl 100 _ rfl (by simp) ?_ ha
      repeat' first
        | exact trivial
        | (refine And.intro (show regChk _ _ _ _ _=true from by kernel_rfl) (And.intro ?_ ?_))
        | (refine And.intro (fun _=>?_) (fun h=>absurd (show true=false from h) (by decide)))
        | (refine And.intro (fun h=>absurd (show false=true from h) (by decide)) (fun _=>?_))
        | (refine And.intro (fun hb=>?_) (fun hb'=>?_))
        | refine And.intro ?_ ?_
        | intro _
      all_goals first
        | (show (_:Int)=(_:Int);rfl)
        | (show (_:Bool)=(_:Bool);first|assumption|exact beq_iff_eq.2 (by assumption)|exact g2 (by assumption) (by assumption))
        | (show B _ _;first|exact B.mono hn (by decide)|exact B.mono hd (by decide)|exact B.mono gl (by decide))
        | (show 0<Int.natAbs _;exact gp)
        | (show some (CR.tv (tRat _ _))=some (CR.tv (tRat _ _));exact rat_eq (by simp only [Int.natAbs_natCast];exact make_num (Nat.gcd_dvd_left _ _) gp) (by simp only [Int.natAbs_natCast];exact make_denA _ _))
        -- PVC
    · cases h
def gOver:Con Try.prog where
  f:=51
  sem:=fun xs=>match xs with
    | [.agg [.neg n,.mag n'],.agg [.neg d,.mag d']]=>some (n'=n∧d'=d∧d≠0∧BI 4000 n∧BI 4000 d,.tv (tRat (ovN n d/gcdI (ovN n d) d) (((d.natAbs:Nat):Int)/gcdI (ovN n d) d)))
    | _=>none
  ok := by
    intro xs p r' h hp
    refine ⟨⟨_,Try.func51,by kernel_rfl,rfl⟩,fun us w ha=>?_⟩
    split at h
    · rename_i n n' d d'
      cases h
      obtain ⟨rfl,rfl,h0,hn,hd⟩:=hp
      refine fn_ret (cxOk Try.prog intsR_ok [] [rNeg,qMakeA]) follows Try.func51 rfl 100 _ rfl (by simp) ?_ ha
      repeat' first
        | exact trivial
        | (refine And.intro (show regChk _ _ _ _ _=true from by kernel_rfl) (And.intro ?_ ?_))
        | (refine And.intro (fun _=>?_) (fun h=>absurd (show true=false from h) (by decide)))
        | (refine And.intro (fun h=>absurd (show false=true from h) (by decide)) (fun _=>?_))
        | (refine And.intro (fun hb=>?_) (fun hb'=>?_))
        | refine And.intro ?_ ?_
        | intro _
      all_goals first
        | (show (_:Int)=(_:Int);rfl)
        | (show (_:Bool)=(_:Bool);first|assumption|exact beq_iff_eq.2 (by assumption)|exact g2 (by assumption) (by assumption))
        | (show BI _ _;first|exact BI.mono hn (by decide)|exact BI.mono hd (by decide)|exact BI.mono hn.neg (by decide))
        | (show ¬ _;exact h0)
        | (show False;exact h0 (by assumption))
        | (show some (CR.tv (tRat _ _))=some (CR.tv (tRat _ _));first|exact rat_eq (by rw [ov_neg (by assumption)]) (by rw [ov_neg (by assumption)])|exact rat_eq (by rw [ov_pos (by assumption)]) (by rw [ov_pos (by assumption)]))
        -- PVC
    · cases h
def gProd:Con Try.prog where
  f:=43
  sem:=fun xs=>match xs with
    | [.sc (.v (.int .i64 a)),.sc (.v (.int .i64 b))]=>some ((-9223372036854775808≤a∧a<9223372036854775808)∧(-9223372036854775808≤b∧b<9223372036854775808),.tv (tI (a*b)))
    | _=>none
  ok := by
    intro xs p r' h hp
    refine ⟨⟨_,Try.func43,by kernel_rfl,rfl⟩,fun us w ha=>?_⟩
    split at h
    · rename_i a b
      cases h
      obtain ⟨pa,pb⟩:=hp
      refine fn_ret (cxOk Try.prog intsR_ok [] [rFrom,rTimes]) follows Try.func43 rfl 100 _ rfl (by simp) ?_ ha
      repeat' first
        | exact trivial
        | (refine And.intro (show regChk _ _ _ _ _=true from by kernel_rfl) (And.intro ?_ ?_))
        | (refine And.intro (fun _=>?_) (fun h=>absurd (show true=false from h) (by decide)))
        | (refine And.intro (fun h=>absurd (show false=true from h) (by decide)) (fun _=>?_))
        | (refine And.intro (fun hb=>?_) (fun hb'=>?_))
        | refine And.intro ?_ ?_
        | intro _
      all_goals first
        | (show (_:Int)=(_:Int);rfl)
        | (show (_:Bool)=(_:Bool);first|assumption|exact beq_iff_eq.2 (by assumption)|exact g2 (by assumption) (by assumption))
        | (with_reducible exact pa.1)
        | (with_reducible exact pa.2)
        | (with_reducible exact pb.1)
        | (with_reducible exact pb.2)
        | (show BI _ _;first|exact BI.mono (BI.i64 pa) (by decide)|exact BI.mono (BI.i64 pb) (by decide))
        | (show some (CR.tv (tI _))=some (CR.tv (tI _));rfl)
        -- PVC
    · cases h
def gRatio:Con Try.prog where
  f:=23
  sem:=fun xs=>match xs with
    | [.sc (.v (.int .i64 a)),.sc (.v (.int .i64 b))]=>some ((-9223372036854775808≤a∧a<9223372036854775808)∧(-9223372036854775808≤b∧b<9223372036854775808),.tv (tNN (ratioR a b).1 (ratioR a b).2))
    | _=>none
  ok := by
    intro xs p r' h hp
    refine ⟨⟨_,Try.func23,by kernel_rfl,rfl⟩,fun us w ha=>?_⟩
    split at h
    · rename_i a b
      cases h
      obtain ⟨pa,pb⟩:=hp
      refine fn_ret (cxOk Try.prog intsR_ok [] [rFrom,gOver,gNear]) follows Try.func23 rfl 100 _ rfl (by simp) ?_ ha
      repeat' first
        | exact trivial
        | (refine And.intro (show regChk _ _ _ _ _=true from by kernel_rfl) (And.intro ?_ ?_))
        | (refine And.intro (fun _=>?_) (fun h=>absurd (show true=false from h) (by decide)))
        | (refine And.intro (fun h=>absurd (show false=true from h) (by decide)) (fun _=>?_))
        | (refine And.intro (fun hb=>?_) (fun hb'=>?_))
        | refine And.intro ?_ ?_
        | intro _
      all_goals first
        | (show (_:Int)=(_:Int);rfl)
        | (show (_:Bool)=(_:Bool);first|assumption|exact beq_iff_eq.2 (by assumption)|exact g2 (by assumption) (by assumption))
        | (show (-9223372036854775808:Int)≤0;decide)
        | (show (-9223372036854775808:Int)≤1;decide)
        | (show (0:Int)<9223372036854775808;decide)
        | (show (1:Int)<9223372036854775808;decide)
        | (show (0:Int)≤1;decide)
        | (show (1:Int)≤6400;decide)
        | (show (1:Int)<18446744073709551616;decide)
        | (show (0:Int)≤2;decide)
        | (show (2:Int)<18446744073709551616;decide)
        | (show (0:Int)≤30;decide)
        | (show (30:Int)≤6400;decide)
        | (show (2:Int)=2;rfl)
        | (show (_:Nat)=(_:Nat);rfl)
        | (with_reducible exact pa.1)
        | (with_reducible exact pa.2)
        | (with_reducible exact pb.1)
        | (with_reducible exact pb.2)
        | (show BI _ _;first|exact BI.mono (BI.i64 pa) (by decide)|exact BI.mono (BI.i64 pb) (by decide))
        | (show ¬ _;exact beq_eq_false_iff_ne.1 (by assumption))
        | (show False;exact beq_eq_false_iff_ne.1 (by assumption:(b == 0)=false) (by assumption))
        | (show BI _ _;first|exact BI.mono (BI.div (BI.ov (BI.i64 pa) _) _) (by decide)|exact BI.mono (BI.div (BI.abs (BI.i64 pb)) _) (by decide))
        | (show (0:Int)<_/gcdI _ _;exact (over_gcd' a (beq_eq_false_iff_ne.1 (by assumption))).2)
        | (show some (CR.tv (tNN _ _))=some (CR.tv (tNN _ _));first|exact nn_eq (ratio0 (by assumption))|exact nn_eq2 (ratio_over (by assumption)))
        -- PVC
    · cases h
end
end Go.Proofs.Ythokdnheijnmmaa.Wh
end
section
namespace Go.Proofs.Ythokdnheijnmmaa.QFxE
open Go.RowKit Go.Proofs.YthokdnheijnmmaaW.PrintWords Go.Proofs.YthokdnheijnmmaaW.PrintLast Go.Proofs.YthokdnheijnmmaaW.PrintMore
attribute [local go_sem] max2_int min2_int max_two min_two max_three min_three max_four min_four   -- for this text's walks alone
set_option linter.unusedVariables false
set_option linter.unusedSimpArgs false
def fx_Mul.f (a0 a1:Int):Option (Int × Int):=some (if (FxWalk.wd a0&&FxWalk.wd a1)=true then FxWalk.timesR a0 a1 else (0,1))
theorem fx_Mul.calls (a0:Int) (a1:Int) (r1:Int) (r2:Int) (w:World) (h:fx_Mul.f a0 a1=some (r1,r2)) :
    Calls Try.prog 13 #[.int .i64 a0,.int .i64 a1] w fun e w'=>e = .returned (.tuple #[.int .i64 r1,.int .i64 r2])∧Below w.heap.size w w':=by
  have h':=Option.some.inj h
  cases hw:(FxWalk.wd a0&&FxWalk.wd a1) with
  | true =>
    rw [if_pos hw] at h'
    have h2:=hw
    rw [Bool.and_eq_true] at h2
    have:=FxWalk.mul_yes a0 a1 w h2.1 h2.2
    rw [h'] at this
    exact this
  | false =>
    rw [hw,if_neg (by decide)] at h'
    have:=FxWalk.mul_no a0 a1 w hw
    rw [h'] at this
    exact this
def gimballaw1_num.f (a0:Int):Option (Int):=some a0
set_option maxHeartbeats 8000000 in
set_option maxRecDepth 100000 in
theorem gimballaw1_num.calls (a0:Int) (r:Int) (w:World) (h:gimballaw1_num.f a0=some r) :
    Calls Try.prog 19 #[.int .i64 a0] w fun e w'=>e = .returned (.int .i64 r)∧Drawn0 w w':=by
  have H:(some a0)=some r:=h
  clear h
  obtain rfl:=Option.some.inj H
  go_enter Try.func19,Try.ntmps19
  go_wp2
  go_ret
  exact ⟨by first|rfl|(simp;done)|(simp [*];done),by repeat (first|exact Drawn0.refl _|apply Drawn0.step)⟩
def gimballaw1_is.f (a0:Int) (a1:Int) (a2:Int) (a3:Int):Option (Bool):=(gimballaw1_num.f a1).bind fun t101=>(if t101=a3 then (some (a0 == a2)) else (some false))
set_option maxHeartbeats 8000000 in
set_option maxRecDepth 100000 in
theorem gimballaw1_is.calls (a0:Int) (a1:Int) (a2:Int) (a3:Int) (r:Bool) (w:World) (h:gimballaw1_is.f a0 a1 a2 a3=some r) :
    Calls Try.prog 16 #[.int .i64 a0,.int .i64 a1,.int .i64 a2,.int .i64 a3] w fun e w'=>e = .returned (.bool r)∧Drawn0 w w':=by
  have H:((gimballaw1_num.f a1).bind fun t101=>(if t101=a3 then (some (a0 == a2)) else (some false)))=some r:=h
  clear h
  replace H:=Option.bind_eq_some_iff.mp H
  obtain ⟨t101,A50,H⟩:=H
  replace H:(if t101=a3 then (some (a0 == a2)) else (some false))=some r:=H
  have A5:=Aside0.mk A50
  clear A50
  by_cases c6:t101=a3
  · rw [if_pos c6] at H
    have c6b0:(t101 == a3)=true:=beq_iff_eq.mpr c6
    have c6b1:(t101 != a3)=false:=bne_eq_false_iff_eq.mpr c6
    clear c6
    obtain rfl:=Option.some.inj H
    go_enter Try.func16,Try.ntmps16
    go_wp2_with (first|((with_reducible refine gate_callee (f:=19) rfl ?_);refine goesL_ (some 10) rfl rfl Try.func19 (by kernel_rfl) rfl #[.int .i64 a1] rfl (by (try simp only [List.map_toArray,List.map_cons,List.map_nil]);first|done|rfl|(simp only [List.length_drop,List.length_take];rfl)) ?_;(with_reducible refine (gimballaw1_num.calls a1 t101 _ A5.out).mono ?_);rintro e w' ⟨rfl,⟨nd,rfl⟩⟩;refine ⟨_,rfl,?_⟩))
    go_ret
    exact ⟨by first|rfl|(simp;done)|(simp [*];done),by repeat (first|exact Drawn0.refl _|apply Drawn0.step)⟩
  · rw [if_neg c6] at H
    have c6b0:(t101 == a3)=false:=beq_eq_false_iff_ne.mpr c6
    have c6b1:(t101 != a3)=true:=bne_iff_ne.mpr c6
    obtain rfl:=Option.some.inj H
    go_enter Try.func16,Try.ntmps16
    go_wp2_with (first|((with_reducible refine gate_callee (f:=19) rfl ?_);refine goesL_ (some 10) rfl rfl Try.func19 (by kernel_rfl) rfl #[.int .i64 a1] rfl (by (try simp only [List.map_toArray,List.map_cons,List.map_nil]);first|done|rfl|(simp only [List.length_drop,List.length_take];rfl)) ?_;(with_reducible refine (gimballaw1_num.calls a1 t101 _ A5.out).mono ?_);rintro e w' ⟨rfl,⟨nd,rfl⟩⟩;refine ⟨_,rfl,?_⟩))
    go_ret
    exact ⟨by first|rfl|(simp;done)|(simp [*];done),by repeat (first|exact Drawn0.refl _|apply Drawn0.step)⟩
def gimballaw1_wakes.f :Option (Bool):=(fx_Mul.f 1073741824 7).bind fun bt102=>((gimballaw1_num.f bt102.2).bind fun t104=>(if t104=0 then (some (bt102.1 == 7)) else (some false)))
set_option maxHeartbeats 8000000 in
set_option maxRecDepth 100000 in
theorem gimballaw1_wakes.calls  (r:Bool) (w:World) (h:gimballaw1_wakes.f =some r) :
    Calls Try.prog 17 #[] w fun e w'=>e = .returned (.bool r)∧Below w.heap.size w w':=by
  have HB:=Aside0.mk (Below.refl w.heap.size w)
  have H:((fx_Mul.f 1073741824 7).bind fun bt102=>((gimballaw1_num.f bt102.2).bind fun t104=>(if t104=0 then (some (bt102.1 == 7)) else (some false))))=some r:=h
  clear h
  replace H:=Option.bind_eq_some_iff.mp H
  obtain ⟨⟨t102,t103⟩,A10,H⟩:=H
  replace H:((gimballaw1_num.f t103).bind fun t104=>(if t104=0 then (some (t102 == 7)) else (some false)))=some r:=H
  have A1:=Aside0.mk A10
  clear A10
  replace H:=Option.bind_eq_some_iff.mp H
  obtain ⟨t104,A20,H⟩:=H
  replace H:(if t104=0 then (some (t102 == 7)) else (some false))=some r:=H
  have A2:=Aside0.mk A20
  clear A20
  by_cases c3:t104=0
  · rw [if_pos c3] at H
    have c3b0:(t104 == 0)=true:=beq_iff_eq.mpr c3
    have c3b1:(t104 != 0)=false:=bne_eq_false_iff_eq.mpr c3
    clear c3
    obtain rfl:=Option.some.inj H
    go_enter Try.func17,Try.ntmps17
    go_wp2_with (first|((with_reducible refine gate_callee (f:=13) rfl ?_);refine goesL_ (some 4) rfl rfl Try.func13 (by kernel_rfl) rfl #[.int .i64 1073741824,.int .i64 7] rfl (by (try simp only [List.map_toArray,List.map_cons,List.map_nil]);first|done|rfl|(simp only [List.length_drop,List.length_take];rfl)) ?_;(with_reducible refine (fx_Mul.calls 1073741824 7 t102 t103 _ A1.out).mono ?_);rintro e w4 ⟨rfl,hb⟩;refine ⟨_,rfl,?_⟩;have n0_:=Aside0.mk (below_step (by repeat (first|(with_reducible first|exact HB.out|apply below_alloc|apply pw_below_drewN|apply below_drew1)|exact HB.out)) hb);clear HB;have HB:=n0_;clear n0_;(try clear hb);(try clear hb2);(try clear hk);(try clear hi))|((with_reducible refine gate_callee (f:=19) rfl ?_);refine goesL_ (some 8) rfl rfl Try.func19 (by kernel_rfl) rfl #[.int .i64 t103] rfl (by (try simp only [List.map_toArray,List.map_cons,List.map_nil]);first|done|rfl|(simp only [List.length_drop,List.length_take];rfl)) ?_;(with_reducible refine (gimballaw1_num.calls t103 t104 _ A2.out).mono ?_);rintro e w' ⟨rfl,⟨nd,rfl⟩⟩;refine ⟨_,rfl,?_⟩))
    go_ret
    exact ⟨by first|rfl|(simp [errW_none,errW_some]<;>rfl)|(simp [*,errW_none,errW_some]<;>rfl),by repeat (first|(with_reducible first|exact HB.out|apply below_alloc|apply pw_below_drewN|apply below_drew1)|exact HB.out)⟩
  · rw [if_neg c3] at H
    have c3b0:(t104 == 0)=false:=beq_eq_false_iff_ne.mpr c3
    have c3b1:(t104 != 0)=true:=bne_iff_ne.mpr c3
    obtain rfl:=Option.some.inj H
    go_enter Try.func17,Try.ntmps17
    go_wp2_with (first|((with_reducible refine gate_callee (f:=13) rfl ?_);refine goesL_ (some 4) rfl rfl Try.func13 (by kernel_rfl) rfl #[.int .i64 1073741824,.int .i64 7] rfl (by (try simp only [List.map_toArray,List.map_cons,List.map_nil]);first|done|rfl|(simp only [List.length_drop,List.length_take];rfl)) ?_;(with_reducible refine (fx_Mul.calls 1073741824 7 t102 t103 _ A1.out).mono ?_);rintro e w5 ⟨rfl,hb⟩;refine ⟨_,rfl,?_⟩;have n0_:=Aside0.mk (below_step (by repeat (first|(with_reducible first|exact HB.out|apply below_alloc|apply pw_below_drewN|apply below_drew1)|exact HB.out)) hb);clear HB;have HB:=n0_;clear n0_;(try clear hb);(try clear hb2);(try clear hk);(try clear hi))|((with_reducible refine gate_callee (f:=19) rfl ?_);refine goesL_ (some 8) rfl rfl Try.func19 (by kernel_rfl) rfl #[.int .i64 t103] rfl (by (try simp only [List.map_toArray,List.map_cons,List.map_nil]);first|done|rfl|(simp only [List.length_drop,List.length_take];rfl)) ?_;(with_reducible refine (gimballaw1_num.calls t103 t104 _ A2.out).mono ?_);rintro e w' ⟨rfl,⟨nd,rfl⟩⟩;refine ⟨_,rfl,?_⟩))
    go_ret
    exact ⟨by first|rfl|(simp [errW_none,errW_some]<;>rfl)|(simp [*,errW_none,errW_some]<;>rfl),by repeat (first|(with_reducible first|exact HB.out|apply below_alloc|apply pw_below_drewN|apply below_drew1)|exact HB.out)⟩
end Go.Proofs.Ythokdnheijnmmaa.QFxE
end
section
namespace Go.Proofs.Ythokdnheijnmmaa.QFxE
open Go.RowKit Go.Proofs.YthokdnheijnmmaaW.PrintWords Go.Proofs.YthokdnheijnmmaaW.PrintLast Go.Proofs.YthokdnheijnmmaaW.PrintMore
attribute [local go_sem] max2_int min2_int max_two min_two max_three min_three max_four min_four   -- for this text's walks alone
set_option linter.unusedVariables false
set_option linter.unusedSimpArgs false
def fx_Ratio.f (a0 a1:Int):Option (Int × Int):=if (-9223372036854775808≤a0∧a0<9223372036854775808) ∧ -9223372036854775808≤a1∧a1<9223372036854775808 then some (Wh.ratioR a0 a1) else none
theorem fx_Ratio.calls (a0:Int) (a1:Int) (r1:Int) (r2:Int) (w:World) (h:fx_Ratio.f a0 a1=some (r1,r2)) :
    Calls Try.prog 22 #[.int .i64 a0,.int .i64 a1] w fun e w'=>e = .returned (.tuple #[.int .i64 r1,.int .i64 r2])∧Below w.heap.size w w':=by
  unfold fx_Ratio.f at h
  split at h
  · rename_i hr
    have h':=Option.some.inj h
    have:=Wh.ratio_calls a0 a1 w hr.1 hr.2
    rw [h'] at this
    exact this
  · cases h
def gimbalref1_Ratio.f (a0 a1:Int):Option (Int × Int):=if (-9223372036854775808≤a0∧a0<9223372036854775808)∧(-9223372036854775808≤a1∧a1<9223372036854775808) then some (Wh.ratioR a0 a1) else none
theorem gimbalref1_Ratio.calls (a0:Int) (a1:Int) (r1:Int) (r2:Int) (w:World) (h:gimbalref1_Ratio.f a0 a1=some (r1,r2)) :
    Calls Try.prog 23 #[.int .i64 a0,.int .i64 a1] w fun e w'=>e = .returned (.tuple #[.int .i64 r1,.int .i64 r2])∧Below w.heap.size w w':=by
  unfold gimbalref1_Ratio.f at h
  split at h
  · rename_i hr
    have h':=Option.some.inj h
    have:=Wh.told_nn ((Wh.gRatio.ok [Go.Proofs.YthokdnheijnmmaaW.Sx.tN .i64 a0,Go.Proofs.YthokdnheijnmmaaW.Sx.tN .i64 a1] _ _ rfl hr).2 _ w (Wh.nn_args a0 a1))
    rw [h'] at this
    exact this
  · cases h
end Go.Proofs.Ythokdnheijnmmaa.QFxE
end
section
namespace Go.Proofs.Ythokdnheijnmmaa.QFxE
open Go.RowKit Go.Proofs.YthokdnheijnmmaaW.PrintWords Go.Proofs.YthokdnheijnmmaaW.PrintLast Go.Proofs.YthokdnheijnmmaaW.PrintMore
attribute [local go_sem] max2_int min2_int max_two min_two max_three min_three max_four min_four   -- for this text's walks alone
set_option linter.unusedVariables false
set_option linter.unusedSimpArgs false
mutual
def gimballaw1_FxRatios.l0:Nat→List (S24)→Int→Option (Bool)
  | 0,_,_=>none
  | k+1,x0,x3=>if x3<(x0.length:Int) then (gimballaw1_FxRatios.j1 k x0 x3 (decide (x3<30))) else (gimballaw1_FxRatios.j1 k x0 x3 false)
def gimballaw1_FxRatios.j1:Nat→List (S24)→Int→Bool→Option (Bool)
  | 0,_,_,_=>none
  | k+1,x0,x3,x15=>if x15=true then (if 0≤x3 then (if x3<(x0.length:Int) then ((fx_Ratio.f ((rd_T24 x0 x3).f2) ((rd_T24 x0 x3).f3)).bind fun bt130=>((gimbalref1_Ratio.f ((rd_T24 x0 x3).f2) ((rd_T24 x0 x3).f3)).bind fun bt134=>((gimballaw1_is.f bt130.1 bt130.2 bt134.1 bt134.2).bind fun t136=>(if t136=true then (gimballaw1_FxRatios.l0 k x0 (wrap64 (x3+1))) else (some false))))) else (none)) else (none)) else ((gimballaw1_wakes.f).bind fun t127=>(some t127))
end
def gimballaw1_FxRatios.f (k:Nat) (l0:List (S24)):Option (Bool):=gimballaw1_FxRatios.l0 k l0 0
def gimballaw1_FxRatios.T4:Bool × List (List Nat × List Nat):=(true,[([],[]),([],[]),([0,1],[0,1]),([2],[2]),([3],[3]),([],[]),([],[]),([5,6],[5,6]),([7],[7]),([8],[8]),([4,9],[4,9]),([10],[10]),([11],[11]),([11],[11]),([12,10,0,1,2,3,4,5,6,7,8,9,10,11,12],[12]),([13,14,0,1,2,3,4,5,6,7,8,9,10,11,12,13,14],[13])])
def gimballaw1_FxRatios.B4:List Nat:=[0,0,3,7,15,0,0,96,224,480,1023,2047,4095,4095,8191,32767]
theorem gimballaw1_FxRatios.tab4:rtab .any (opsOf Try.f6 4)=gimballaw1_FxRatios.T4:=by kernel_rfl
theorem gimballaw1_FxRatios.bits4:waitsOk gimballaw1_FxRatios.T4.2 gimballaw1_FxRatios.B4=true:=by kernel_rfl
def gimballaw1_FxRatios.T5:Bool × List (List Nat × List Nat):=(true,[([],[]),([],[]),([0,1],[0,1]),([2],[2]),([3],[3]),([],[]),([],[]),([5,6],[5,6]),([7],[7]),([8],[8]),([4,9],[4,9]),([10],[10]),([11],[11]),([11],[11]),([12,10,0,1,2,3,4,5,6,7,8,9,10,11,12],[12]),([13,14,0,1,2,3,4,5,6,7,8,9,10,11,12,13,14],[13])])
def gimballaw1_FxRatios.B5:List Nat:=[0,0,3,7,15,0,0,96,224,480,1023,2047,4095,4095,8191,32767]
theorem gimballaw1_FxRatios.tab5:rtab .any (opsOf Try.f6 5)=gimballaw1_FxRatios.T5:=by kernel_rfl
theorem gimballaw1_FxRatios.bits5:waitsOk gimballaw1_FxRatios.T5.2 gimballaw1_FxRatios.B5=true:=by kernel_rfl
set_option maxHeartbeats 8000000 in
set_option maxRecDepth 100000 in
theorem gimballaw1_FxRatios.calls (k:Nat) (A0:Option Addr) (c0:Nat) (l0:List (S24)) (r:Bool) (w:World) (hr0:Kd.C k24 w A0 l0.length l0) (hc0:l0.length≤c0) (h:gimballaw1_FxRatios.f k l0=some r) :
    Calls Try.prog 6 #[.slice A0 l0.length c0] w fun e w'=>e = .returned (.bool r)∧Below w.heap.size w w':=by
  have HR0:=Aside0.mk hr0
  have HC0:=Aside0.mk hc0
  clear hr0 hc0
  have HB:=Aside0.mk (Below.refl w.heap.size w)
  have H:(gimballaw1_FxRatios.l0 k l0 0)=some r:=h
  clear h
  have H':=Aside0.mk H
  clear H
  go_enter Try.func6,Try.ntmps6
  go_wp2
  go_loopg [3] k (fun kq v3 w'=>∃ (x3_1:Int),v3 = .int .i64 x3_1∧Aside0 (gimballaw1_FxRatios.l0 kq l0 x3_1=some r)∧Aside0 (kq≤k)∧Aside0 (Below w.heap.size w w'))
  case atStart=>exact ⟨(0),(by first|rfl|(simp;done)|(simp [*];done)),H',⟨Nat.le_refl _⟩,⟨by repeat (first|(with_reducible first|exact HB.out|apply below_alloc|apply pw_below_drewN|apply below_drew1)|exact HB.out)⟩⟩
  case round =>
    clear H'
    obtain ⟨x3_1,rfl,HA,HK1,HB⟩:=hrel
    cases gk with
    | zero=>exact absurd HA.out (by simp [gimballaw1_FxRatios.l0])
    | succ k1 =>
      have H:=HA.out
      clear HA
      simp only [gimballaw1_FxRatios.l0] at H
      have HC2:=Aside0.mk H
      clear H
      go_upto_region 2 with (fail)
      go_cut [15] (fun v15 wc=>∃ (kq:Nat) (x15_1:Bool),v15 = .bool x15_1∧Aside0 (gimballaw1_FxRatios.j1 kq l0 x3_1 x15_1=some r)∧Aside0 (kq≤k1)∧Aside0 (Below w.heap.size w wc))
      case first =>
        have H:=HC2.out
        clear HC2
        by_cases c3:x3_1<(l0.length:Int)
        · rw [if_pos c3] at H
          have c3b0:decide (x3_1<(l0.length:Int))=true:=decide_eq_true c3
          clear c3
          (first|rw [c3b0]|(simp only [i64_w,i32_w];rw [c3b0])|skip)
          have H':=Aside0.mk H
          clear H
          go_wp2
          go_meet
          case rel=>exact ⟨_,(decide (x3_1<30)),(by first|rfl|(simp;done)|(simp [*];done)),H',⟨by have:=HK1.out;first|omega|exact Nat.le_refl _⟩,⟨by repeat (first|(with_reducible first|exact HB.out|apply below_alloc|apply pw_below_drewN|apply below_drew1)|exact HB.out)⟩⟩
        · rw [if_neg c3] at H
          have c3b0:decide (x3_1<(l0.length:Int))=false:=decide_eq_false c3
          clear c3
          (first|rw [c3b0]|(simp only [i64_w,i32_w];rw [c3b0])|skip)
          have H':=Aside0.mk H
          clear H
          go_wp2
          go_meet
          case rel=>exact ⟨_,(false),(by first|rfl|(simp;done)|(simp [*];done)),H',⟨by have:=HK1.out;first|omega|exact Nat.le_refl _⟩,⟨by repeat (first|(with_reducible first|exact HB.out|apply below_alloc|apply pw_below_drewN|apply below_drew1)|exact HB.out)⟩⟩
      case rest =>
        clear HC2
        try clear p2
        try clear c3
        try clear c3b0
        obtain ⟨kq,x15_1,rfl,HA,HJ1,HB⟩:=hcut
        cases kq with
        | zero=>exact absurd HA.out (by simp [gimballaw1_FxRatios.j1])
        | succ kj1 =>
          have H:=HA.out
          clear HA
          simp only [gimballaw1_FxRatios.j1] at H
          by_cases c4:x15_1=true
          · subst c4
            have H1:(if 0≤x3_1 then (if x3_1<(l0.length:Int) then ((fx_Ratio.f ((rd_T24 l0 x3_1).f2) ((rd_T24 l0 x3_1).f3)).bind fun bt130=>((gimbalref1_Ratio.f ((rd_T24 l0 x3_1).f2) ((rd_T24 l0 x3_1).f3)).bind fun bt134=>((gimballaw1_is.f bt130.1 bt130.2 bt134.1 bt134.2).bind fun t136=>(if t136=true then (gimballaw1_FxRatios.l0 kj1 l0 (wrap64 (x3_1+1))) else (some false))))) else (none)) else (none))=some r:=by rw [if_pos rfl] at H;exact H
            clear H
            have H:=H1
            clear H1
            by_cases c5:0≤x3_1
            · rw [if_pos c5] at H
              have c5b0:decide (0≤x3_1)=true:=decide_eq_true c5
              clear c5
              by_cases c6:x3_1<(l0.length:Int)
              · rw [if_pos c6] at H
                have c6b0:decide (x3_1<(l0.length:Int))=true:=decide_eq_true c6
                clear c6
                replace H:=Option.bind_eq_some_iff.mp H
                obtain ⟨⟨t130,t131⟩,A70,H⟩:=H
                replace H:((gimbalref1_Ratio.f ((rd_T24 l0 x3_1).f2) ((rd_T24 l0 x3_1).f3)).bind fun bt134=>((gimballaw1_is.f t130 t131 bt134.1 bt134.2).bind fun t136=>(if t136=true then (gimballaw1_FxRatios.l0 kj1 l0 (wrap64 (x3_1+1))) else (some false))))=some r:=H
                have A7:=Aside0.mk A70
                clear A70
                replace H:=Option.bind_eq_some_iff.mp H
                obtain ⟨⟨t134,t135⟩,A80,H⟩:=H
                replace H:((gimballaw1_is.f t130 t131 t134 t135).bind fun t136=>(if t136=true then (gimballaw1_FxRatios.l0 kj1 l0 (wrap64 (x3_1+1))) else (some false)))=some r:=H
                have A8:=Aside0.mk A80
                clear A80
                replace H:=Option.bind_eq_some_iff.mp H
                obtain ⟨t136,A90,H⟩:=H
                replace H:(if t136=true then (gimballaw1_FxRatios.l0 kj1 l0 (wrap64 (x3_1+1))) else (some false))=some r:=H
                have A9:=Aside0.mk A90
                clear A90
                by_cases c10:t136=true
                · subst c10
                  have H1:(gimballaw1_FxRatios.l0 kj1 l0 (wrap64 (x3_1+1)))=some r:=by rw [if_pos rfl] at H;exact H
                  clear H
                  have H:=H1
                  clear H1
                  have H':=Aside0.mk H
                  clear H
                  try go_wp2
                  have n0_:=Aside0.mk (below_drew1 HB.out)
                  clear HB
                  have HB:=n0_
                  clear n0_
                  have p128:0≤(x3_1:Int):=of_decide_eq_true (by first|(with_reducible assumption)|assumption)
                  have q128:x3_1<(l0.length:Int):=of_decide_eq_true (by first|(with_reducible assumption)|assumption)
                  obtain ⟨ad128,e128,hx128_0,hx128_1,hx128_2,hx128_3,hx128_4,hx128_5⟩:=at_T24 HR0.out x3_1 p128 q128
                  have hw128_5:=hx128_5
                  have hw128_4:=hx128_4
                  have hw128_3:=hx128_3
                  have hw128_2:=hx128_2
                  have hw128_1:=hx128_1
                  have hw128_0:=hx128_0
                  cases e128
                  replace hx128_0:=(HB.out.cell (World.block_lt_of_cell? w _ hx128_0)).trans hx128_0
                  replace hx128_1:=(HB.out.cell (World.block_lt_of_cell? w _ hx128_1)).trans hx128_1
                  replace hx128_2:=(HB.out.cell (World.block_lt_of_cell? w _ hx128_2)).trans hx128_2
                  replace hx128_3:=(HB.out.cell (World.block_lt_of_cell? w _ hx128_3)).trans hx128_3
                  replace hx128_4:=(HB.out.cell (World.block_lt_of_cell? w _ hx128_4)).trans hx128_4
                  replace hx128_5:=(HB.out.cell (World.block_lt_of_cell? w _ hx128_5)).trans hx128_5
                  replace p128:=eq_true p128
                  replace q128:=eq_true q128
                  have p129:0≤(x3_1:Int):=of_decide_eq_true (by first|(with_reducible assumption)|assumption)
                  have q129:x3_1<(l0.length:Int):=of_decide_eq_true (by first|(with_reducible assumption)|assumption)
                  obtain ⟨ad129,e129,hx129_0,hx129_1,hx129_2,hx129_3,hx129_4,hx129_5⟩:=at_T24 HR0.out x3_1 p129 q129
                  have hw129_5:=hx129_5
                  have hw129_4:=hx129_4
                  have hw129_3:=hx129_3
                  have hw129_2:=hx129_2
                  have hw129_1:=hx129_1
                  have hw129_0:=hx129_0
                  obtain rfl:ad128=ad129:=(by injection e129)
                  replace hx129_0:=(HB.out.cell (World.block_lt_of_cell? w _ hx129_0)).trans hx129_0
                  replace hx129_1:=(HB.out.cell (World.block_lt_of_cell? w _ hx129_1)).trans hx129_1
                  replace hx129_2:=(HB.out.cell (World.block_lt_of_cell? w _ hx129_2)).trans hx129_2
                  replace hx129_3:=(HB.out.cell (World.block_lt_of_cell? w _ hx129_3)).trans hx129_3
                  replace hx129_4:=(HB.out.cell (World.block_lt_of_cell? w _ hx129_4)).trans hx129_4
                  replace hx129_5:=(HB.out.cell (World.block_lt_of_cell? w _ hx129_5)).trans hx129_5
                  replace p129:=eq_true p129
                  replace q129:=eq_true q129
                  refine start_ (n:=16) (S:=fun w'=>w'.cell? (ad128.add ((x3_1).toNat*6))=some (.int .i64 ((rd_T24 l0 x3_1).f0))∧w'.cell? ⟨(ad128.add ((x3_1).toNat*6)).block,(ad128.add ((x3_1).toNat*6)).off+1,none⟩=some (.int .i64 ((rd_T24 l0 x3_1).f1))∧w'.cell? ⟨(ad128.add ((x3_1).toNat*6)).block,(ad128.add ((x3_1).toNat*6)).off+2,none⟩=some (.int .i64 ((rd_T24 l0 x3_1).f2))∧w'.cell? ⟨(ad128.add ((x3_1).toNat*6)).block,(ad128.add ((x3_1).toNat*6)).off+3,none⟩=some (.int .i64 ((rd_T24 l0 x3_1).f3))∧w'.cell? ⟨(ad128.add ((x3_1).toNat*6)).block,(ad128.add ((x3_1).toNat*6)).off+4,none⟩=some (.int .i64 ((rd_T24 l0 x3_1).f4))∧w'.cell? ⟨(ad128.add ((x3_1).toNat*6)).block,(ad128.add ((x3_1).toNat*6)).off+5,none⟩=some (.int .i64 ((rd_T24 l0 x3_1).f5))∧w'.cell? (ad128.add ((x3_1).toNat*6))=some (.int .i64 ((rd_T24 l0 x3_1).f0))∧w'.cell? ⟨(ad128.add ((x3_1).toNat*6)).block,(ad128.add ((x3_1).toNat*6)).off+1,none⟩=some (.int .i64 ((rd_T24 l0 x3_1).f1))∧w'.cell? ⟨(ad128.add ((x3_1).toNat*6)).block,(ad128.add ((x3_1).toNat*6)).off+2,none⟩=some (.int .i64 ((rd_T24 l0 x3_1).f2))∧w'.cell? ⟨(ad128.add ((x3_1).toNat*6)).block,(ad128.add ((x3_1).toNat*6)).off+3,none⟩=some (.int .i64 ((rd_T24 l0 x3_1).f3))∧w'.cell? ⟨(ad128.add ((x3_1).toNat*6)).block,(ad128.add ((x3_1).toNat*6)).off+4,none⟩=some (.int .i64 ((rd_T24 l0 x3_1).f4))∧w'.cell? ⟨(ad128.add ((x3_1).toNat*6)).block,(ad128.add ((x3_1).toNat*6)).off+5,none⟩=some (.int .i64 ((rd_T24 l0 x3_1).f5))) (ds:=[]) #[false,false,false,false,false,false,false,false,false,false,false,false,false,false,false,false] (by kernel_rfl) rfl rfl ⟨((HB.out.cell (World.block_lt_of_cell? w _ hw128_0)).trans hw128_0),((HB.out.cell (World.block_lt_of_cell? w _ hw128_1)).trans hw128_1),((HB.out.cell (World.block_lt_of_cell? w _ hw128_2)).trans hw128_2),((HB.out.cell (World.block_lt_of_cell? w _ hw128_3)).trans hw128_3),((HB.out.cell (World.block_lt_of_cell? w _ hw128_4)).trans hw128_4),((HB.out.cell (World.block_lt_of_cell? w _ hw128_5)).trans hw128_5),((HB.out.cell (World.block_lt_of_cell? w _ hw129_0)).trans hw129_0),((HB.out.cell (World.block_lt_of_cell? w _ hw129_1)).trans hw129_1),((HB.out.cell (World.block_lt_of_cell? w _ hw129_2)).trans hw129_2),((HB.out.cell (World.block_lt_of_cell? w _ hw129_3)).trans hw129_3),((HB.out.cell (World.block_lt_of_cell? w _ hw129_4)).trans hw129_4),((HB.out.cell (World.block_lt_of_cell? w _ hw129_5)).trans hw129_5)⟩ (fun hHeld=>?_);refine with_tabW gimballaw1_FxRatios.tab4 gimballaw1_FxRatios.bits4 (fun HT_ HW_=>?_)
                  generalize wc.drew=w11 at HB hx128_0 hx128_1 hx128_2 hx128_3 hx128_4 hx128_5 hx129_0 hx129_1 hx129_2 hx129_3 hx129_4 hx129_5 hHeld ⊢
                  refine pure_ (i:=0) (N:=some 19) (v:=?_) (a':=?_) #[true,false,false,false,false,false,false,false,false,false,false,false,false,false,false,false] rfl rfl (any_of HT_.out (by kernel_rfl)) (fun _ _ _ h=>h) (Or.inl ⟨by rfl,?_⟩) ?_ ?_
                  rotate_left
                  · intro w'
                    go_simp
                    with_reducible rfl
                  rotate_left
                  · simp only [Act.put,List.setIfInBounds_toArray,List.set_cons_zero,List.set_cons_succ,i64_w,i32_w]
                    rfl
                  refine pure_ (i:=1) (N:=some 20) (v:=?_) (a':=?_) #[true,true,false,false,false,false,false,false,false,false,false,false,false,false,false,false] rfl rfl (any_of HT_.out (by kernel_rfl)) (fun _ _ _ h=>h) (Or.inl ⟨by rfl,?_⟩) ?_ ?_
                  rotate_left
                  · intro w'
                    go_simp
                    with_reducible rfl
                  rotate_left
                  · simp only [Act.put,List.setIfInBounds_toArray,List.set_cons_zero,List.set_cons_succ,i64_w,i32_w]
                    rfl
                  refine pure_ (i:=2) (N:=some 21) (v:=?_) (a':=?_) #[true,true,true,false,false,false,false,false,false,false,false,false,false,false,false,false] rfl rfl (any_of HT_.out (by kernel_rfl)) (fun _ _ _ h=>h) (Or.inl ⟨by rfl,?_⟩) ?_ ?_
                  rotate_left
                  · intro w'
                    go_simp
                    with_reducible rfl
                  rotate_left
                  · simp only [Act.put,List.setIfInBounds_toArray,List.set_cons_zero,List.set_cons_succ,i64_w,i32_w]
                    rfl
                  refine pure_ (i:=3) (N:=some 22) (v:=?_) (a':=?_) #[true,true,true,true,false,false,false,false,false,false,false,false,false,false,false,false] rfl rfl (any_of HT_.out (by kernel_rfl)) (fun _ _ _ h=>h) (Or.inl ⟨by rfl,?_⟩) ?_ ?_
                  rotate_left
                  · intro w'
                    go_simp
                    with_reducible rfl
                  rotate_left
                  · simp only [Act.put,List.setIfInBounds_toArray,List.set_cons_zero,List.set_cons_succ,i64_w,i32_w]
                    rfl
                  refine pure_ (i:=5) (N:=some 24) (v:=?_) (a':=?_) #[true,true,true,true,false,true,false,false,false,false,false,false,false,false,false,false] rfl rfl (any_of HT_.out (by kernel_rfl)) (fun _ _ _ h=>h) (Or.inl ⟨by rfl,?_⟩) ?_ ?_
                  rotate_left
                  · intro w'
                    go_simp
                    with_reducible rfl
                  rotate_left
                  · simp only [Act.put,List.setIfInBounds_toArray,List.set_cons_zero,List.set_cons_succ,i64_w,i32_w]
                    rfl
                  refine pure_ (i:=6) (N:=some 25) (v:=?_) (a':=?_) #[true,true,true,true,false,true,true,false,false,false,false,false,false,false,false,false] rfl rfl (any_of HT_.out (by kernel_rfl)) (fun _ _ _ h=>h) (Or.inl ⟨by rfl,?_⟩) ?_ ?_
                  rotate_left
                  · intro w'
                    go_simp
                    with_reducible rfl
                  rotate_left
                  · simp only [Act.put,List.setIfInBounds_toArray,List.set_cons_zero,List.set_cons_succ,i64_w,i32_w]
                    rfl
                  refine pure_ (i:=7) (N:=some 26) (v:=?_) (a':=?_) #[true,true,true,true,false,true,true,true,false,false,false,false,false,false,false,false] rfl rfl (any_of HT_.out (by kernel_rfl)) (fun _ _ _ h=>h) (Or.inl ⟨by rfl,?_⟩) ?_ ?_
                  rotate_left
                  · intro w'
                    go_simp
                    with_reducible rfl
                  rotate_left
                  · simp only [Act.put,List.setIfInBounds_toArray,List.set_cons_zero,List.set_cons_succ,i64_w,i32_w]
                    rfl
                  refine pure_ (i:=8) (N:=some 27) (v:=?_) (a':=?_) #[true,true,true,true,false,true,true,true,true,false,false,false,false,false,false,false] rfl rfl (any_of HT_.out (by kernel_rfl)) (fun _ _ _ h=>h) (Or.inl ⟨by rfl,?_⟩) ?_ ?_
                  rotate_left
                  · intro w'
                    go_simp
                    with_reducible rfl
                  rotate_left
                  · simp only [Act.put,List.setIfInBounds_toArray,List.set_cons_zero,List.set_cons_succ,i64_w,i32_w]
                    rfl
                  refine take_ (i:=4) (N:=some 23) (v:=?_) (a':=?_) #[true,true,true,true,true,true,true,true,true,false,false,false,false,false,false,false] rfl rfl (take_ofW HT_.out HW_.out (by kernel_rfl)) (fun _ _ _ h=>h) (Or.inl ⟨by rfl,?_⟩) hHeld ?_ ?_
                  rotate_left
                  · rintro w' ⟨s0,s1,s2,s3,s4,s5,s6,s7,s8,s9,s10,s11⟩
                    go_simp
                    with_reducible rfl
                  rotate_left
                  · simp only [Act.put,List.setIfInBounds_toArray,List.set_cons_zero,List.set_cons_succ,i64_w,i32_w]
                    rfl
                  refine take_ (i:=9) (N:=some 28) (v:=?_) (a':=?_) #[true,true,true,true,true,true,true,true,true,true,false,false,false,false,false,false] rfl rfl (take_ofW HT_.out HW_.out (by kernel_rfl)) (fun _ _ _ h=>h) (Or.inl ⟨by rfl,?_⟩) hHeld ?_ ?_
                  rotate_left
                  · rintro w' ⟨s0,s1,s2,s3,s4,s5,s6,s7,s8,s9,s10,s11⟩
                    go_simp
                    with_reducible rfl
                  rotate_left
                  · simp only [Act.put,List.setIfInBounds_toArray,List.set_cons_zero,List.set_cons_succ,i64_w,i32_w]
                    rfl
                  refine one_ (i:=10) (N:=some 29) #[true,true,true,true,true,true,true,true,true,true,true,false,false,false,false,false] rfl rfl (one_of HT_.out (by kernel_rfl)) (by decide) (fun K hK=>?_)
                  refine goes_ Try.func22 (by kernel_rfl) rfl #[.int .i64 ((rd_T24 l0 x3_1).f2),.int .i64 ((rd_T24 l0 x3_1).f3)] (by rfl) rfl rfl (by (try simp only [List.map_toArray,List.map_cons,List.map_nil]);first|done|rfl|(simp only [List.length_drop,List.length_take];rfl)) ?_
                  with_reducible refine (fx_Ratio.calls ((rd_T24 l0 x3_1).f2) ((rd_T24 l0 x3_1).f3) t130 t131 _ A7.out).mono ?_
                  rintro e w12 ⟨rfl,hb⟩
                  refine ⟨_,rfl,?_⟩
                  have n0_:=Aside0.mk (below_step (by repeat (first|(with_reducible first|exact HB.out|apply below_alloc|apply pw_below_drewN|apply below_drew1)|exact HB.out)) hb)
                  clear HB
                  have HB:=n0_
                  clear n0_
                  (try clear hb)
                  (try clear hb2)
                  (try clear hk)
                  (try clear hi)
                  refine hK.out _ _ ⟨((HB.out.cell (World.block_lt_of_cell? w _ hw128_0)).trans hw128_0),((HB.out.cell (World.block_lt_of_cell? w _ hw128_1)).trans hw128_1),((HB.out.cell (World.block_lt_of_cell? w _ hw128_2)).trans hw128_2),((HB.out.cell (World.block_lt_of_cell? w _ hw128_3)).trans hw128_3),((HB.out.cell (World.block_lt_of_cell? w _ hw128_4)).trans hw128_4),((HB.out.cell (World.block_lt_of_cell? w _ hw128_5)).trans hw128_5),((HB.out.cell (World.block_lt_of_cell? w _ hw129_0)).trans hw129_0),((HB.out.cell (World.block_lt_of_cell? w _ hw129_1)).trans hw129_1),((HB.out.cell (World.block_lt_of_cell? w _ hw129_2)).trans hw129_2),((HB.out.cell (World.block_lt_of_cell? w _ hw129_3)).trans hw129_3),((HB.out.cell (World.block_lt_of_cell? w _ hw129_4)).trans hw129_4),((HB.out.cell (World.block_lt_of_cell? w _ hw129_5)).trans hw129_5)⟩ (fun hHeld=>?_)
                  clear hK K
                  refine norm_ (a':=?_) ?_ ?_
                  rotate_left
                  · show Act.put _ (some 29) _=_
                    simp only [Act.put,List.setIfInBounds_toArray,List.set_cons_zero,List.set_cons_succ,i64_w,i32_w]
                    rfl
                  refine pure_ (i:=11) (N:=some 18) (v:=?_) (a':=?_) #[true,true,true,true,true,true,true,true,true,true,true,true,false,false,false,false] rfl rfl (any_of HT_.out (by kernel_rfl)) (fun _ _ _ h=>h) (Or.inl ⟨by rfl,?_⟩) ?_ ?_
                  rotate_left
                  · intro w'
                    go_simp
                    with_reducible rfl
                  rotate_left
                  · simp only [Act.put,List.setIfInBounds_toArray,List.set_cons_zero,List.set_cons_succ,i64_w,i32_w]
                    rfl
                  refine pure_ (i:=12) (N:=some 30) (v:=?_) (a':=?_) #[true,true,true,true,true,true,true,true,true,true,true,true,true,false,false,false] rfl rfl (any_of HT_.out (by kernel_rfl)) (fun _ _ _ h=>h) (Or.inl ⟨by rfl,?_⟩) ?_ ?_
                  rotate_left
                  · intro w'
                    go_simp
                    with_reducible rfl
                  rotate_left
                  · simp only [Act.put,List.setIfInBounds_toArray,List.set_cons_zero,List.set_cons_succ,i64_w,i32_w]
                    rfl
                  refine pure_ (i:=13) (N:=some 31) (v:=?_) (a':=?_) #[true,true,true,true,true,true,true,true,true,true,true,true,true,true,false,false] rfl rfl (any_of HT_.out (by kernel_rfl)) (fun _ _ _ h=>h) (Or.inl ⟨by rfl,?_⟩) ?_ ?_
                  rotate_left
                  · intro w'
                    go_simp
                    with_reducible rfl
                  rotate_left
                  · simp only [Act.put,List.setIfInBounds_toArray,List.set_cons_zero,List.set_cons_succ,i64_w,i32_w]
                    rfl
                  refine pure_ (i:=14) (N:=some 4) (v:=?_) (a':=?_) #[true,true,true,true,true,true,true,true,true,true,true,true,true,true,true,false] rfl rfl (any_of HT_.out (by kernel_rfl)) (fun _ _ _ h=>h) (Or.inl ⟨by rfl,?_⟩) ?_ ?_
                  rotate_left
                  · intro w'
                    go_simp
                    with_reducible rfl
                  rotate_left
                  · simp only [Act.put,List.setIfInBounds_toArray,List.set_cons_zero,List.set_cons_succ,i64_w,i32_w]
                    rfl
                  refine pure_ (i:=15) (N:=some 5) (v:=?_) (a':=?_) #[true,true,true,true,true,true,true,true,true,true,true,true,true,true,true,true] rfl rfl (any_of HT_.out (by kernel_rfl)) (fun _ _ _ h=>h) (Or.inl ⟨by rfl,?_⟩) ?_ ?_
                  rotate_left
                  · intro w'
                    go_simp
                    with_reducible rfl
                  rotate_left
                  · simp only [Act.put,List.setIfInBounds_toArray,List.set_cons_zero,List.set_cons_succ,i64_w,i32_w]
                    rfl
                  refine done_ (done_of HT_.out (by kernel_rfl)) ?_
                  try go_wp2
                  have n0_:=Aside0.mk (below_drew1 HB.out)
                  clear HB
                  have HB:=n0_
                  clear n0_
                  have p132:0≤(x3_1:Int):=of_decide_eq_true (by first|(with_reducible assumption)|assumption)
                  have q132:x3_1<(l0.length:Int):=of_decide_eq_true (by first|(with_reducible assumption)|assumption)
                  obtain ⟨ad132,e132,hx132_0,hx132_1,hx132_2,hx132_3,hx132_4,hx132_5⟩:=at_T24 HR0.out x3_1 p132 q132
                  have hw132_5:=hx132_5
                  have hw132_4:=hx132_4
                  have hw132_3:=hx132_3
                  have hw132_2:=hx132_2
                  have hw132_1:=hx132_1
                  have hw132_0:=hx132_0
                  obtain rfl:ad128=ad132:=(by injection e132)
                  replace hx132_0:=(HB.out.cell (World.block_lt_of_cell? w _ hx132_0)).trans hx132_0
                  replace hx132_1:=(HB.out.cell (World.block_lt_of_cell? w _ hx132_1)).trans hx132_1
                  replace hx132_2:=(HB.out.cell (World.block_lt_of_cell? w _ hx132_2)).trans hx132_2
                  replace hx132_3:=(HB.out.cell (World.block_lt_of_cell? w _ hx132_3)).trans hx132_3
                  replace hx132_4:=(HB.out.cell (World.block_lt_of_cell? w _ hx132_4)).trans hx132_4
                  replace hx132_5:=(HB.out.cell (World.block_lt_of_cell? w _ hx132_5)).trans hx132_5
                  replace p132:=eq_true p132
                  replace q132:=eq_true q132
                  have p133:0≤(x3_1:Int):=of_decide_eq_true (by first|(with_reducible assumption)|assumption)
                  have q133:x3_1<(l0.length:Int):=of_decide_eq_true (by first|(with_reducible assumption)|assumption)
                  obtain ⟨ad133,e133,hx133_0,hx133_1,hx133_2,hx133_3,hx133_4,hx133_5⟩:=at_T24 HR0.out x3_1 p133 q133
                  have hw133_5:=hx133_5
                  have hw133_4:=hx133_4
                  have hw133_3:=hx133_3
                  have hw133_2:=hx133_2
                  have hw133_1:=hx133_1
                  have hw133_0:=hx133_0
                  obtain rfl:ad128=ad133:=(by injection e133)
                  replace hx133_0:=(HB.out.cell (World.block_lt_of_cell? w _ hx133_0)).trans hx133_0
                  replace hx133_1:=(HB.out.cell (World.block_lt_of_cell? w _ hx133_1)).trans hx133_1
                  replace hx133_2:=(HB.out.cell (World.block_lt_of_cell? w _ hx133_2)).trans hx133_2
                  replace hx133_3:=(HB.out.cell (World.block_lt_of_cell? w _ hx133_3)).trans hx133_3
                  replace hx133_4:=(HB.out.cell (World.block_lt_of_cell? w _ hx133_4)).trans hx133_4
                  replace hx133_5:=(HB.out.cell (World.block_lt_of_cell? w _ hx133_5)).trans hx133_5
                  replace p133:=eq_true p133
                  replace q133:=eq_true q133
                  refine start_ (n:=16) (S:=fun w'=>w'.cell? (ad128.add ((x3_1).toNat*6))=some (.int .i64 ((rd_T24 l0 x3_1).f0))∧w'.cell? ⟨(ad128.add ((x3_1).toNat*6)).block,(ad128.add ((x3_1).toNat*6)).off+1,none⟩=some (.int .i64 ((rd_T24 l0 x3_1).f1))∧w'.cell? ⟨(ad128.add ((x3_1).toNat*6)).block,(ad128.add ((x3_1).toNat*6)).off+2,none⟩=some (.int .i64 ((rd_T24 l0 x3_1).f2))∧w'.cell? ⟨(ad128.add ((x3_1).toNat*6)).block,(ad128.add ((x3_1).toNat*6)).off+3,none⟩=some (.int .i64 ((rd_T24 l0 x3_1).f3))∧w'.cell? ⟨(ad128.add ((x3_1).toNat*6)).block,(ad128.add ((x3_1).toNat*6)).off+4,none⟩=some (.int .i64 ((rd_T24 l0 x3_1).f4))∧w'.cell? ⟨(ad128.add ((x3_1).toNat*6)).block,(ad128.add ((x3_1).toNat*6)).off+5,none⟩=some (.int .i64 ((rd_T24 l0 x3_1).f5))∧w'.cell? (ad128.add ((x3_1).toNat*6))=some (.int .i64 ((rd_T24 l0 x3_1).f0))∧w'.cell? ⟨(ad128.add ((x3_1).toNat*6)).block,(ad128.add ((x3_1).toNat*6)).off+1,none⟩=some (.int .i64 ((rd_T24 l0 x3_1).f1))∧w'.cell? ⟨(ad128.add ((x3_1).toNat*6)).block,(ad128.add ((x3_1).toNat*6)).off+2,none⟩=some (.int .i64 ((rd_T24 l0 x3_1).f2))∧w'.cell? ⟨(ad128.add ((x3_1).toNat*6)).block,(ad128.add ((x3_1).toNat*6)).off+3,none⟩=some (.int .i64 ((rd_T24 l0 x3_1).f3))∧w'.cell? ⟨(ad128.add ((x3_1).toNat*6)).block,(ad128.add ((x3_1).toNat*6)).off+4,none⟩=some (.int .i64 ((rd_T24 l0 x3_1).f4))∧w'.cell? ⟨(ad128.add ((x3_1).toNat*6)).block,(ad128.add ((x3_1).toNat*6)).off+5,none⟩=some (.int .i64 ((rd_T24 l0 x3_1).f5))) (ds:=[]) #[false,false,false,false,false,false,false,false,false,false,false,false,false,false,false,false] (by kernel_rfl) rfl rfl ⟨((HB.out.cell (World.block_lt_of_cell? w _ hw132_0)).trans hw132_0),((HB.out.cell (World.block_lt_of_cell? w _ hw132_1)).trans hw132_1),((HB.out.cell (World.block_lt_of_cell? w _ hw132_2)).trans hw132_2),((HB.out.cell (World.block_lt_of_cell? w _ hw132_3)).trans hw132_3),((HB.out.cell (World.block_lt_of_cell? w _ hw132_4)).trans hw132_4),((HB.out.cell (World.block_lt_of_cell? w _ hw132_5)).trans hw132_5),((HB.out.cell (World.block_lt_of_cell? w _ hw133_0)).trans hw133_0),((HB.out.cell (World.block_lt_of_cell? w _ hw133_1)).trans hw133_1),((HB.out.cell (World.block_lt_of_cell? w _ hw133_2)).trans hw133_2),((HB.out.cell (World.block_lt_of_cell? w _ hw133_3)).trans hw133_3),((HB.out.cell (World.block_lt_of_cell? w _ hw133_4)).trans hw133_4),((HB.out.cell (World.block_lt_of_cell? w _ hw133_5)).trans hw133_5)⟩ (fun hHeld=>?_);refine with_tabW gimballaw1_FxRatios.tab5 gimballaw1_FxRatios.bits5 (fun HT_ HW_=>?_)
                  generalize w12.drew=w13 at HB hx132_0 hx132_1 hx132_2 hx132_3 hx132_4 hx132_5 hx133_0 hx133_1 hx133_2 hx133_3 hx133_4 hx133_5 hHeld ⊢
                  refine pure_ (i:=0) (N:=some 33) (v:=?_) (a':=?_) #[true,false,false,false,false,false,false,false,false,false,false,false,false,false,false,false] rfl rfl (any_of HT_.out (by kernel_rfl)) (fun _ _ _ h=>h) (Or.inl ⟨by rfl,?_⟩) ?_ ?_
                  rotate_left
                  · intro w'
                    go_simp
                    with_reducible rfl
                  rotate_left
                  · simp only [Act.put,List.setIfInBounds_toArray,List.set_cons_zero,List.set_cons_succ,i64_w,i32_w]
                    rfl
                  refine pure_ (i:=1) (N:=some 34) (v:=?_) (a':=?_) #[true,true,false,false,false,false,false,false,false,false,false,false,false,false,false,false] rfl rfl (any_of HT_.out (by kernel_rfl)) (fun _ _ _ h=>h) (Or.inl ⟨by rfl,?_⟩) ?_ ?_
                  rotate_left
                  · intro w'
                    go_simp
                    with_reducible rfl
                  rotate_left
                  · simp only [Act.put,List.setIfInBounds_toArray,List.set_cons_zero,List.set_cons_succ,i64_w,i32_w]
                    rfl
                  refine pure_ (i:=2) (N:=some 35) (v:=?_) (a':=?_) #[true,true,true,false,false,false,false,false,false,false,false,false,false,false,false,false] rfl rfl (any_of HT_.out (by kernel_rfl)) (fun _ _ _ h=>h) (Or.inl ⟨by rfl,?_⟩) ?_ ?_
                  rotate_left
                  · intro w'
                    go_simp
                    with_reducible rfl
                  rotate_left
                  · simp only [Act.put,List.setIfInBounds_toArray,List.set_cons_zero,List.set_cons_succ,i64_w,i32_w]
                    rfl
                  refine pure_ (i:=3) (N:=some 36) (v:=?_) (a':=?_) #[true,true,true,true,false,false,false,false,false,false,false,false,false,false,false,false] rfl rfl (any_of HT_.out (by kernel_rfl)) (fun _ _ _ h=>h) (Or.inl ⟨by rfl,?_⟩) ?_ ?_
                  rotate_left
                  · intro w'
                    go_simp
                    with_reducible rfl
                  rotate_left
                  · simp only [Act.put,List.setIfInBounds_toArray,List.set_cons_zero,List.set_cons_succ,i64_w,i32_w]
                    rfl
                  refine pure_ (i:=5) (N:=some 38) (v:=?_) (a':=?_) #[true,true,true,true,false,true,false,false,false,false,false,false,false,false,false,false] rfl rfl (any_of HT_.out (by kernel_rfl)) (fun _ _ _ h=>h) (Or.inl ⟨by rfl,?_⟩) ?_ ?_
                  rotate_left
                  · intro w'
                    go_simp
                    with_reducible rfl
                  rotate_left
                  · simp only [Act.put,List.setIfInBounds_toArray,List.set_cons_zero,List.set_cons_succ,i64_w,i32_w]
                    rfl
                  refine pure_ (i:=6) (N:=some 39) (v:=?_) (a':=?_) #[true,true,true,true,false,true,true,false,false,false,false,false,false,false,false,false] rfl rfl (any_of HT_.out (by kernel_rfl)) (fun _ _ _ h=>h) (Or.inl ⟨by rfl,?_⟩) ?_ ?_
                  rotate_left
                  · intro w'
                    go_simp
                    with_reducible rfl
                  rotate_left
                  · simp only [Act.put,List.setIfInBounds_toArray,List.set_cons_zero,List.set_cons_succ,i64_w,i32_w]
                    rfl
                  refine pure_ (i:=7) (N:=some 40) (v:=?_) (a':=?_) #[true,true,true,true,false,true,true,true,false,false,false,false,false,false,false,false] rfl rfl (any_of HT_.out (by kernel_rfl)) (fun _ _ _ h=>h) (Or.inl ⟨by rfl,?_⟩) ?_ ?_
                  rotate_left
                  · intro w'
                    go_simp
                    with_reducible rfl
                  rotate_left
                  · simp only [Act.put,List.setIfInBounds_toArray,List.set_cons_zero,List.set_cons_succ,i64_w,i32_w]
                    rfl
                  refine pure_ (i:=8) (N:=some 41) (v:=?_) (a':=?_) #[true,true,true,true,false,true,true,true,true,false,false,false,false,false,false,false] rfl rfl (any_of HT_.out (by kernel_rfl)) (fun _ _ _ h=>h) (Or.inl ⟨by rfl,?_⟩) ?_ ?_
                  rotate_left
                  · intro w'
                    go_simp
                    with_reducible rfl
                  rotate_left
                  · simp only [Act.put,List.setIfInBounds_toArray,List.set_cons_zero,List.set_cons_succ,i64_w,i32_w]
                    rfl
                  refine take_ (i:=4) (N:=some 37) (v:=?_) (a':=?_) #[true,true,true,true,true,true,true,true,true,false,false,false,false,false,false,false] rfl rfl (take_ofW HT_.out HW_.out (by kernel_rfl)) (fun _ _ _ h=>h) (Or.inl ⟨by rfl,?_⟩) hHeld ?_ ?_
                  rotate_left
                  · rintro w' ⟨s0,s1,s2,s3,s4,s5,s6,s7,s8,s9,s10,s11⟩
                    go_simp
                    with_reducible rfl
                  rotate_left
                  · simp only [Act.put,List.setIfInBounds_toArray,List.set_cons_zero,List.set_cons_succ,i64_w,i32_w]
                    rfl
                  refine take_ (i:=9) (N:=some 42) (v:=?_) (a':=?_) #[true,true,true,true,true,true,true,true,true,true,false,false,false,false,false,false] rfl rfl (take_ofW HT_.out HW_.out (by kernel_rfl)) (fun _ _ _ h=>h) (Or.inl ⟨by rfl,?_⟩) hHeld ?_ ?_
                  rotate_left
                  · rintro w' ⟨s0,s1,s2,s3,s4,s5,s6,s7,s8,s9,s10,s11⟩
                    go_simp
                    with_reducible rfl
                  rotate_left
                  · simp only [Act.put,List.setIfInBounds_toArray,List.set_cons_zero,List.set_cons_succ,i64_w,i32_w]
                    rfl
                  refine one_ (i:=10) (N:=some 43) #[true,true,true,true,true,true,true,true,true,true,true,false,false,false,false,false] rfl rfl (one_of HT_.out (by kernel_rfl)) (by decide) (fun K hK=>?_)
                  refine goes_ Try.func23 (by kernel_rfl) rfl #[.int .i64 ((rd_T24 l0 x3_1).f2),.int .i64 ((rd_T24 l0 x3_1).f3)] (by rfl) rfl rfl (by (try simp only [List.map_toArray,List.map_cons,List.map_nil]);first|done|rfl|(simp only [List.length_drop,List.length_take];rfl)) ?_
                  with_reducible refine (gimbalref1_Ratio.calls ((rd_T24 l0 x3_1).f2) ((rd_T24 l0 x3_1).f3) t134 t135 _ A8.out).mono ?_
                  rintro e w14 ⟨rfl,hb⟩
                  refine ⟨_,rfl,?_⟩
                  have n0_:=Aside0.mk (below_step (by repeat (first|(with_reducible first|exact HB.out|apply below_alloc|apply pw_below_drewN|apply below_drew1)|exact HB.out)) hb)
                  clear HB
                  have HB:=n0_
                  clear n0_
                  (try clear hb)
                  (try clear hb2)
                  (try clear hk)
                  (try clear hi)
                  refine hK.out _ _ ⟨((HB.out.cell (World.block_lt_of_cell? w _ hw132_0)).trans hw132_0),((HB.out.cell (World.block_lt_of_cell? w _ hw132_1)).trans hw132_1),((HB.out.cell (World.block_lt_of_cell? w _ hw132_2)).trans hw132_2),((HB.out.cell (World.block_lt_of_cell? w _ hw132_3)).trans hw132_3),((HB.out.cell (World.block_lt_of_cell? w _ hw132_4)).trans hw132_4),((HB.out.cell (World.block_lt_of_cell? w _ hw132_5)).trans hw132_5),((HB.out.cell (World.block_lt_of_cell? w _ hw133_0)).trans hw133_0),((HB.out.cell (World.block_lt_of_cell? w _ hw133_1)).trans hw133_1),((HB.out.cell (World.block_lt_of_cell? w _ hw133_2)).trans hw133_2),((HB.out.cell (World.block_lt_of_cell? w _ hw133_3)).trans hw133_3),((HB.out.cell (World.block_lt_of_cell? w _ hw133_4)).trans hw133_4),((HB.out.cell (World.block_lt_of_cell? w _ hw133_5)).trans hw133_5)⟩ (fun hHeld=>?_)
                  clear hK K
                  refine norm_ (a':=?_) ?_ ?_
                  rotate_left
                  · show Act.put _ (some 43) _=_
                    simp only [Act.put,List.setIfInBounds_toArray,List.set_cons_zero,List.set_cons_succ,i64_w,i32_w]
                    rfl
                  refine pure_ (i:=11) (N:=some 32) (v:=?_) (a':=?_) #[true,true,true,true,true,true,true,true,true,true,true,true,false,false,false,false] rfl rfl (any_of HT_.out (by kernel_rfl)) (fun _ _ _ h=>h) (Or.inl ⟨by rfl,?_⟩) ?_ ?_
                  rotate_left
                  · intro w'
                    go_simp
                    with_reducible rfl
                  rotate_left
                  · simp only [Act.put,List.setIfInBounds_toArray,List.set_cons_zero,List.set_cons_succ,i64_w,i32_w]
                    rfl
                  refine pure_ (i:=12) (N:=some 44) (v:=?_) (a':=?_) #[true,true,true,true,true,true,true,true,true,true,true,true,true,false,false,false] rfl rfl (any_of HT_.out (by kernel_rfl)) (fun _ _ _ h=>h) (Or.inl ⟨by rfl,?_⟩) ?_ ?_
                  rotate_left
                  · intro w'
                    go_simp
                    with_reducible rfl
                  rotate_left
                  · simp only [Act.put,List.setIfInBounds_toArray,List.set_cons_zero,List.set_cons_succ,i64_w,i32_w]
                    rfl
                  refine pure_ (i:=13) (N:=some 45) (v:=?_) (a':=?_) #[true,true,true,true,true,true,true,true,true,true,true,true,true,true,false,false] rfl rfl (any_of HT_.out (by kernel_rfl)) (fun _ _ _ h=>h) (Or.inl ⟨by rfl,?_⟩) ?_ ?_
                  rotate_left
                  · intro w'
                    go_simp
                    with_reducible rfl
                  rotate_left
                  · simp only [Act.put,List.setIfInBounds_toArray,List.set_cons_zero,List.set_cons_succ,i64_w,i32_w]
                    rfl
                  refine pure_ (i:=14) (N:=some 6) (v:=?_) (a':=?_) #[true,true,true,true,true,true,true,true,true,true,true,true,true,true,true,false] rfl rfl (any_of HT_.out (by kernel_rfl)) (fun _ _ _ h=>h) (Or.inl ⟨by rfl,?_⟩) ?_ ?_
                  rotate_left
                  · intro w'
                    go_simp
                    with_reducible rfl
                  rotate_left
                  · simp only [Act.put,List.setIfInBounds_toArray,List.set_cons_zero,List.set_cons_succ,i64_w,i32_w]
                    rfl
                  refine pure_ (i:=15) (N:=some 7) (v:=?_) (a':=?_) #[true,true,true,true,true,true,true,true,true,true,true,true,true,true,true,true] rfl rfl (any_of HT_.out (by kernel_rfl)) (fun _ _ _ h=>h) (Or.inl ⟨by rfl,?_⟩) ?_ ?_
                  rotate_left
                  · intro w'
                    go_simp
                    with_reducible rfl
                  rotate_left
                  · simp only [Act.put,List.setIfInBounds_toArray,List.set_cons_zero,List.set_cons_succ,i64_w,i32_w]
                    rfl
                  refine done_ (done_of HT_.out (by kernel_rfl)) ?_
                  try go_wp2_with (first|((with_reducible refine gate_callee (f:=16) rfl ?_);refine goesL_ (some 50) rfl rfl Try.func16 (by kernel_rfl) rfl #[.int .i64 t130,.int .i64 t131,.int .i64 t134,.int .i64 t135] rfl (by (try simp only [List.map_toArray,List.map_cons,List.map_nil]);first|done|rfl|(simp only [List.length_drop,List.length_take];rfl)) ?_;(with_reducible refine (gimballaw1_is.calls t130 t131 t134 t135 true _ A9.out).mono ?_);rintro e w' ⟨rfl,⟨nd,rfl⟩⟩;refine ⟨_,rfl,?_⟩))
                  go_roundg kj1
                  case measure=>have:=HK1.out;have:=HJ1.out;omega
                  case rel=>exact ⟨(wrap64 (x3_1+1)),(by first|rfl|(simp;done)|(simp [*];done)),H',⟨by have:=HK1.out;have:=HJ1.out;omega⟩,⟨by repeat (first|(with_reducible first|exact HB.out|apply below_alloc|apply pw_below_drewN|apply below_drew1)|exact HB.out)⟩⟩
                · replace c10:=Bool.eq_false_iff.mpr c10
                  subst c10
                  have H1:(some false)=some r:=by rw [if_neg (show ¬ (false=true) by decide)] at H;exact H
                  clear H
                  have H:=H1
                  clear H1
                  obtain rfl:=Option.some.inj H
                  try go_wp2
                  have n0_:=Aside0.mk (below_drew1 HB.out)
                  clear HB
                  have HB:=n0_
                  clear n0_
                  have p128:0≤(x3_1:Int):=of_decide_eq_true (by first|(with_reducible assumption)|assumption)
                  have q128:x3_1<(l0.length:Int):=of_decide_eq_true (by first|(with_reducible assumption)|assumption)
                  obtain ⟨ad128,e128,hx128_0,hx128_1,hx128_2,hx128_3,hx128_4,hx128_5⟩:=at_T24 HR0.out x3_1 p128 q128
                  have hw128_5:=hx128_5
                  have hw128_4:=hx128_4
                  have hw128_3:=hx128_3
                  have hw128_2:=hx128_2
                  have hw128_1:=hx128_1
                  have hw128_0:=hx128_0
                  cases e128
                  replace hx128_0:=(HB.out.cell (World.block_lt_of_cell? w _ hx128_0)).trans hx128_0
                  replace hx128_1:=(HB.out.cell (World.block_lt_of_cell? w _ hx128_1)).trans hx128_1
                  replace hx128_2:=(HB.out.cell (World.block_lt_of_cell? w _ hx128_2)).trans hx128_2
                  replace hx128_3:=(HB.out.cell (World.block_lt_of_cell? w _ hx128_3)).trans hx128_3
                  replace hx128_4:=(HB.out.cell (World.block_lt_of_cell? w _ hx128_4)).trans hx128_4
                  replace hx128_5:=(HB.out.cell (World.block_lt_of_cell? w _ hx128_5)).trans hx128_5
                  replace p128:=eq_true p128
                  replace q128:=eq_true q128
                  have p129:0≤(x3_1:Int):=of_decide_eq_true (by first|(with_reducible assumption)|assumption)
                  have q129:x3_1<(l0.length:Int):=of_decide_eq_true (by first|(with_reducible assumption)|assumption)
                  obtain ⟨ad129,e129,hx129_0,hx129_1,hx129_2,hx129_3,hx129_4,hx129_5⟩:=at_T24 HR0.out x3_1 p129 q129
                  have hw129_5:=hx129_5
                  have hw129_4:=hx129_4
                  have hw129_3:=hx129_3
                  have hw129_2:=hx129_2
                  have hw129_1:=hx129_1
                  have hw129_0:=hx129_0
                  obtain rfl:ad128=ad129:=(by injection e129)
                  replace hx129_0:=(HB.out.cell (World.block_lt_of_cell? w _ hx129_0)).trans hx129_0
                  replace hx129_1:=(HB.out.cell (World.block_lt_of_cell? w _ hx129_1)).trans hx129_1
                  replace hx129_2:=(HB.out.cell (World.block_lt_of_cell? w _ hx129_2)).trans hx129_2
                  replace hx129_3:=(HB.out.cell (World.block_lt_of_cell? w _ hx129_3)).trans hx129_3
                  replace hx129_4:=(HB.out.cell (World.block_lt_of_cell? w _ hx129_4)).trans hx129_4
                  replace hx129_5:=(HB.out.cell (World.block_lt_of_cell? w _ hx129_5)).trans hx129_5
                  replace p129:=eq_true p129
                  replace q129:=eq_true q129
                  refine start_ (n:=16) (S:=fun w'=>w'.cell? (ad128.add ((x3_1).toNat*6))=some (.int .i64 ((rd_T24 l0 x3_1).f0))∧w'.cell? ⟨(ad128.add ((x3_1).toNat*6)).block,(ad128.add ((x3_1).toNat*6)).off+1,none⟩=some (.int .i64 ((rd_T24 l0 x3_1).f1))∧w'.cell? ⟨(ad128.add ((x3_1).toNat*6)).block,(ad128.add ((x3_1).toNat*6)).off+2,none⟩=some (.int .i64 ((rd_T24 l0 x3_1).f2))∧w'.cell? ⟨(ad128.add ((x3_1).toNat*6)).block,(ad128.add ((x3_1).toNat*6)).off+3,none⟩=some (.int .i64 ((rd_T24 l0 x3_1).f3))∧w'.cell? ⟨(ad128.add ((x3_1).toNat*6)).block,(ad128.add ((x3_1).toNat*6)).off+4,none⟩=some (.int .i64 ((rd_T24 l0 x3_1).f4))∧w'.cell? ⟨(ad128.add ((x3_1).toNat*6)).block,(ad128.add ((x3_1).toNat*6)).off+5,none⟩=some (.int .i64 ((rd_T24 l0 x3_1).f5))∧w'.cell? (ad128.add ((x3_1).toNat*6))=some (.int .i64 ((rd_T24 l0 x3_1).f0))∧w'.cell? ⟨(ad128.add ((x3_1).toNat*6)).block,(ad128.add ((x3_1).toNat*6)).off+1,none⟩=some (.int .i64 ((rd_T24 l0 x3_1).f1))∧w'.cell? ⟨(ad128.add ((x3_1).toNat*6)).block,(ad128.add ((x3_1).toNat*6)).off+2,none⟩=some (.int .i64 ((rd_T24 l0 x3_1).f2))∧w'.cell? ⟨(ad128.add ((x3_1).toNat*6)).block,(ad128.add ((x3_1).toNat*6)).off+3,none⟩=some (.int .i64 ((rd_T24 l0 x3_1).f3))∧w'.cell? ⟨(ad128.add ((x3_1).toNat*6)).block,(ad128.add ((x3_1).toNat*6)).off+4,none⟩=some (.int .i64 ((rd_T24 l0 x3_1).f4))∧w'.cell? ⟨(ad128.add ((x3_1).toNat*6)).block,(ad128.add ((x3_1).toNat*6)).off+5,none⟩=some (.int .i64 ((rd_T24 l0 x3_1).f5))) (ds:=[]) #[false,false,false,false,false,false,false,false,false,false,false,false,false,false,false,false] (by kernel_rfl) rfl rfl ⟨((HB.out.cell (World.block_lt_of_cell? w _ hw128_0)).trans hw128_0),((HB.out.cell (World.block_lt_of_cell? w _ hw128_1)).trans hw128_1),((HB.out.cell (World.block_lt_of_cell? w _ hw128_2)).trans hw128_2),((HB.out.cell (World.block_lt_of_cell? w _ hw128_3)).trans hw128_3),((HB.out.cell (World.block_lt_of_cell? w _ hw128_4)).trans hw128_4),((HB.out.cell (World.block_lt_of_cell? w _ hw128_5)).trans hw128_5),((HB.out.cell (World.block_lt_of_cell? w _ hw129_0)).trans hw129_0),((HB.out.cell (World.block_lt_of_cell? w _ hw129_1)).trans hw129_1),((HB.out.cell (World.block_lt_of_cell? w _ hw129_2)).trans hw129_2),((HB.out.cell (World.block_lt_of_cell? w _ hw129_3)).trans hw129_3),((HB.out.cell (World.block_lt_of_cell? w _ hw129_4)).trans hw129_4),((HB.out.cell (World.block_lt_of_cell? w _ hw129_5)).trans hw129_5)⟩ (fun hHeld=>?_);refine with_tabW gimballaw1_FxRatios.tab4 gimballaw1_FxRatios.bits4 (fun HT_ HW_=>?_)
                  generalize wc.drew=w15 at HB hx128_0 hx128_1 hx128_2 hx128_3 hx128_4 hx128_5 hx129_0 hx129_1 hx129_2 hx129_3 hx129_4 hx129_5 hHeld ⊢
                  refine pure_ (i:=0) (N:=some 19) (v:=?_) (a':=?_) #[true,false,false,false,false,false,false,false,false,false,false,false,false,false,false,false] rfl rfl (any_of HT_.out (by kernel_rfl)) (fun _ _ _ h=>h) (Or.inl ⟨by rfl,?_⟩) ?_ ?_
                  rotate_left
                  · intro w'
                    go_simp
                    with_reducible rfl
                  rotate_left
                  · simp only [Act.put,List.setIfInBounds_toArray,List.set_cons_zero,List.set_cons_succ,i64_w,i32_w]
                    rfl
                  refine pure_ (i:=1) (N:=some 20) (v:=?_) (a':=?_) #[true,true,false,false,false,false,false,false,false,false,false,false,false,false,false,false] rfl rfl (any_of HT_.out (by kernel_rfl)) (fun _ _ _ h=>h) (Or.inl ⟨by rfl,?_⟩) ?_ ?_
                  rotate_left
                  · intro w'
                    go_simp
                    with_reducible rfl
                  rotate_left
                  · simp only [Act.put,List.setIfInBounds_toArray,List.set_cons_zero,List.set_cons_succ,i64_w,i32_w]
                    rfl
                  refine pure_ (i:=2) (N:=some 21) (v:=?_) (a':=?_) #[true,true,true,false,false,false,false,false,false,false,false,false,false,false,false,false] rfl rfl (any_of HT_.out (by kernel_rfl)) (fun _ _ _ h=>h) (Or.inl ⟨by rfl,?_⟩) ?_ ?_
                  rotate_left
                  · intro w'
                    go_simp
                    with_reducible rfl
                  rotate_left
                  · simp only [Act.put,List.setIfInBounds_toArray,List.set_cons_zero,List.set_cons_succ,i64_w,i32_w]
                    rfl
                  refine pure_ (i:=3) (N:=some 22) (v:=?_) (a':=?_) #[true,true,true,true,false,false,false,false,false,false,false,false,false,false,false,false] rfl rfl (any_of HT_.out (by kernel_rfl)) (fun _ _ _ h=>h) (Or.inl ⟨by rfl,?_⟩) ?_ ?_
                  rotate_left
                  · intro w'
                    go_simp
                    with_reducible rfl
                  rotate_left
                  · simp only [Act.put,List.setIfInBounds_toArray,List.set_cons_zero,List.set_cons_succ,i64_w,i32_w]
                    rfl
                  refine pure_ (i:=5) (N:=some 24) (v:=?_) (a':=?_) #[true,true,true,true,false,true,false,false,false,false,false,false,false,false,false,false] rfl rfl (any_of HT_.out (by kernel_rfl)) (fun _ _ _ h=>h) (Or.inl ⟨by rfl,?_⟩) ?_ ?_
                  rotate_left
                  · intro w'
                    go_simp
                    with_reducible rfl
                  rotate_left
                  · simp only [Act.put,List.setIfInBounds_toArray,List.set_cons_zero,List.set_cons_succ,i64_w,i32_w]
                    rfl
                  refine pure_ (i:=6) (N:=some 25) (v:=?_) (a':=?_) #[true,true,true,true,false,true,true,false,false,false,false,false,false,false,false,false] rfl rfl (any_of HT_.out (by kernel_rfl)) (fun _ _ _ h=>h) (Or.inl ⟨by rfl,?_⟩) ?_ ?_
                  rotate_left
                  · intro w'
                    go_simp
                    with_reducible rfl
                  rotate_left
                  · simp only [Act.put,List.setIfInBounds_toArray,List.set_cons_zero,List.set_cons_succ,i64_w,i32_w]
                    rfl
                  refine pure_ (i:=7) (N:=some 26) (v:=?_) (a':=?_) #[true,true,true,true,false,true,true,true,false,false,false,false,false,false,false,false] rfl rfl (any_of HT_.out (by kernel_rfl)) (fun _ _ _ h=>h) (Or.inl ⟨by rfl,?_⟩) ?_ ?_
                  rotate_left
                  · intro w'
                    go_simp
                    with_reducible rfl
                  rotate_left
                  · simp only [Act.put,List.setIfInBounds_toArray,List.set_cons_zero,List.set_cons_succ,i64_w,i32_w]
                    rfl
                  refine pure_ (i:=8) (N:=some 27) (v:=?_) (a':=?_) #[true,true,true,true,false,true,true,true,true,false,false,false,false,false,false,false] rfl rfl (any_of HT_.out (by kernel_rfl)) (fun _ _ _ h=>h) (Or.inl ⟨by rfl,?_⟩) ?_ ?_
                  rotate_left
                  · intro w'
                    go_simp
                    with_reducible rfl
                  rotate_left
                  · simp only [Act.put,List.setIfInBounds_toArray,List.set_cons_zero,List.set_cons_succ,i64_w,i32_w]
                    rfl
                  refine take_ (i:=4) (N:=some 23) (v:=?_) (a':=?_) #[true,true,true,true,true,true,true,true,true,false,false,false,false,false,false,false] rfl rfl (take_ofW HT_.out HW_.out (by kernel_rfl)) (fun _ _ _ h=>h) (Or.inl ⟨by rfl,?_⟩) hHeld ?_ ?_
                  rotate_left
                  · rintro w' ⟨s0,s1,s2,s3,s4,s5,s6,s7,s8,s9,s10,s11⟩
                    go_simp
                    with_reducible rfl
                  rotate_left
                  · simp only [Act.put,List.setIfInBounds_toArray,List.set_cons_zero,List.set_cons_succ,i64_w,i32_w]
                    rfl
                  refine take_ (i:=9) (N:=some 28) (v:=?_) (a':=?_) #[true,true,true,true,true,true,true,true,true,true,false,false,false,false,false,false] rfl rfl (take_ofW HT_.out HW_.out (by kernel_rfl)) (fun _ _ _ h=>h) (Or.inl ⟨by rfl,?_⟩) hHeld ?_ ?_
                  rotate_left
                  · rintro w' ⟨s0,s1,s2,s3,s4,s5,s6,s7,s8,s9,s10,s11⟩
                    go_simp
                    with_reducible rfl
                  rotate_left
                  · simp only [Act.put,List.setIfInBounds_toArray,List.set_cons_zero,List.set_cons_succ,i64_w,i32_w]
                    rfl
                  refine one_ (i:=10) (N:=some 29) #[true,true,true,true,true,true,true,true,true,true,true,false,false,false,false,false] rfl rfl (one_of HT_.out (by kernel_rfl)) (by decide) (fun K hK=>?_)
                  refine goes_ Try.func22 (by kernel_rfl) rfl #[.int .i64 ((rd_T24 l0 x3_1).f2),.int .i64 ((rd_T24 l0 x3_1).f3)] (by rfl) rfl rfl (by (try simp only [List.map_toArray,List.map_cons,List.map_nil]);first|done|rfl|(simp only [List.length_drop,List.length_take];rfl)) ?_
                  with_reducible refine (fx_Ratio.calls ((rd_T24 l0 x3_1).f2) ((rd_T24 l0 x3_1).f3) t130 t131 _ A7.out).mono ?_
                  rintro e w16 ⟨rfl,hb⟩
                  refine ⟨_,rfl,?_⟩
                  have n0_:=Aside0.mk (below_step (by repeat (first|(with_reducible first|exact HB.out|apply below_alloc|apply pw_below_drewN|apply below_drew1)|exact HB.out)) hb)
                  clear HB
                  have HB:=n0_
                  clear n0_
                  (try clear hb)
                  (try clear hb2)
                  (try clear hk)
                  (try clear hi)
                  refine hK.out _ _ ⟨((HB.out.cell (World.block_lt_of_cell? w _ hw128_0)).trans hw128_0),((HB.out.cell (World.block_lt_of_cell? w _ hw128_1)).trans hw128_1),((HB.out.cell (World.block_lt_of_cell? w _ hw128_2)).trans hw128_2),((HB.out.cell (World.block_lt_of_cell? w _ hw128_3)).trans hw128_3),((HB.out.cell (World.block_lt_of_cell? w _ hw128_4)).trans hw128_4),((HB.out.cell (World.block_lt_of_cell? w _ hw128_5)).trans hw128_5),((HB.out.cell (World.block_lt_of_cell? w _ hw129_0)).trans hw129_0),((HB.out.cell (World.block_lt_of_cell? w _ hw129_1)).trans hw129_1),((HB.out.cell (World.block_lt_of_cell? w _ hw129_2)).trans hw129_2),((HB.out.cell (World.block_lt_of_cell? w _ hw129_3)).trans hw129_3),((HB.out.cell (World.block_lt_of_cell? w _ hw129_4)).trans hw129_4),((HB.out.cell (World.block_lt_of_cell? w _ hw129_5)).trans hw129_5)⟩ (fun hHeld=>?_)
                  clear hK K
                  refine norm_ (a':=?_) ?_ ?_
                  rotate_left
                  · show Act.put _ (some 29) _=_
                    simp only [Act.put,List.setIfInBounds_toArray,List.set_cons_zero,List.set_cons_succ,i64_w,i32_w]
                    rfl
                  refine pure_ (i:=11) (N:=some 18) (v:=?_) (a':=?_) #[true,true,true,true,true,true,true,true,true,true,true,true,false,false,false,false] rfl rfl (any_of HT_.out (by kernel_rfl)) (fun _ _ _ h=>h) (Or.inl ⟨by rfl,?_⟩) ?_ ?_
                  rotate_left
                  · intro w'
                    go_simp
                    with_reducible rfl
                  rotate_left
                  · simp only [Act.put,List.setIfInBounds_toArray,List.set_cons_zero,List.set_cons_succ,i64_w,i32_w]
                    rfl
                  refine pure_ (i:=12) (N:=some 30) (v:=?_) (a':=?_) #[true,true,true,true,true,true,true,true,true,true,true,true,true,false,false,false] rfl rfl (any_of HT_.out (by kernel_rfl)) (fun _ _ _ h=>h) (Or.inl ⟨by rfl,?_⟩) ?_ ?_
                  rotate_left
                  · intro w'
                    go_simp
                    with_reducible rfl
                  rotate_left
                  · simp only [Act.put,List.setIfInBounds_toArray,List.set_cons_zero,List.set_cons_succ,i64_w,i32_w]
                    rfl
                  refine pure_ (i:=13) (N:=some 31) (v:=?_) (a':=?_) #[true,true,true,true,true,true,true,true,true,true,true,true,true,true,false,false] rfl rfl (any_of HT_.out (by kernel_rfl)) (fun _ _ _ h=>h) (Or.inl ⟨by rfl,?_⟩) ?_ ?_
                  rotate_left
                  · intro w'
                    go_simp
                    with_reducible rfl
                  rotate_left
                  · simp only [Act.put,List.setIfInBounds_toArray,List.set_cons_zero,List.set_cons_succ,i64_w,i32_w]
                    rfl
                  refine pure_ (i:=14) (N:=some 4) (v:=?_) (a':=?_) #[true,true,true,true,true,true,true,true,true,true,true,true,true,true,true,false] rfl rfl (any_of HT_.out (by kernel_rfl)) (fun _ _ _ h=>h) (Or.inl ⟨by rfl,?_⟩) ?_ ?_
                  rotate_left
                  · intro w'
                    go_simp
                    with_reducible rfl
                  rotate_left
                  · simp only [Act.put,List.setIfInBounds_toArray,List.set_cons_zero,List.set_cons_succ,i64_w,i32_w]
                    rfl
                  refine pure_ (i:=15) (N:=some 5) (v:=?_) (a':=?_) #[true,true,true,true,true,true,true,true,true,true,true,true,true,true,true,true] rfl rfl (any_of HT_.out (by kernel_rfl)) (fun _ _ _ h=>h) (Or.inl ⟨by rfl,?_⟩) ?_ ?_
                  rotate_left
                  · intro w'
                    go_simp
                    with_reducible rfl
                  rotate_left
                  · simp only [Act.put,List.setIfInBounds_toArray,List.set_cons_zero,List.set_cons_succ,i64_w,i32_w]
                    rfl
                  refine done_ (done_of HT_.out (by kernel_rfl)) ?_
                  try go_wp2
                  have n0_:=Aside0.mk (below_drew1 HB.out)
                  clear HB
                  have HB:=n0_
                  clear n0_
                  have p132:0≤(x3_1:Int):=of_decide_eq_true (by first|(with_reducible assumption)|assumption)
                  have q132:x3_1<(l0.length:Int):=of_decide_eq_true (by first|(with_reducible assumption)|assumption)
                  obtain ⟨ad132,e132,hx132_0,hx132_1,hx132_2,hx132_3,hx132_4,hx132_5⟩:=at_T24 HR0.out x3_1 p132 q132
                  have hw132_5:=hx132_5
                  have hw132_4:=hx132_4
                  have hw132_3:=hx132_3
                  have hw132_2:=hx132_2
                  have hw132_1:=hx132_1
                  have hw132_0:=hx132_0
                  obtain rfl:ad128=ad132:=(by injection e132)
                  replace hx132_0:=(HB.out.cell (World.block_lt_of_cell? w _ hx132_0)).trans hx132_0
                  replace hx132_1:=(HB.out.cell (World.block_lt_of_cell? w _ hx132_1)).trans hx132_1
                  replace hx132_2:=(HB.out.cell (World.block_lt_of_cell? w _ hx132_2)).trans hx132_2
                  replace hx132_3:=(HB.out.cell (World.block_lt_of_cell? w _ hx132_3)).trans hx132_3
                  replace hx132_4:=(HB.out.cell (World.block_lt_of_cell? w _ hx132_4)).trans hx132_4
                  replace hx132_5:=(HB.out.cell (World.block_lt_of_cell? w _ hx132_5)).trans hx132_5
                  replace p132:=eq_true p132
                  replace q132:=eq_true q132
                  have p133:0≤(x3_1:Int):=of_decide_eq_true (by first|(with_reducible assumption)|assumption)
                  have q133:x3_1<(l0.length:Int):=of_decide_eq_true (by first|(with_reducible assumption)|assumption)
                  obtain ⟨ad133,e133,hx133_0,hx133_1,hx133_2,hx133_3,hx133_4,hx133_5⟩:=at_T24 HR0.out x3_1 p133 q133
                  have hw133_5:=hx133_5
                  have hw133_4:=hx133_4
                  have hw133_3:=hx133_3
                  have hw133_2:=hx133_2
                  have hw133_1:=hx133_1
                  have hw133_0:=hx133_0
                  obtain rfl:ad128=ad133:=(by injection e133)
                  replace hx133_0:=(HB.out.cell (World.block_lt_of_cell? w _ hx133_0)).trans hx133_0
                  replace hx133_1:=(HB.out.cell (World.block_lt_of_cell? w _ hx133_1)).trans hx133_1
                  replace hx133_2:=(HB.out.cell (World.block_lt_of_cell? w _ hx133_2)).trans hx133_2
                  replace hx133_3:=(HB.out.cell (World.block_lt_of_cell? w _ hx133_3)).trans hx133_3
                  replace hx133_4:=(HB.out.cell (World.block_lt_of_cell? w _ hx133_4)).trans hx133_4
                  replace hx133_5:=(HB.out.cell (World.block_lt_of_cell? w _ hx133_5)).trans hx133_5
                  replace p133:=eq_true p133
                  replace q133:=eq_true q133
                  refine start_ (n:=16) (S:=fun w'=>w'.cell? (ad128.add ((x3_1).toNat*6))=some (.int .i64 ((rd_T24 l0 x3_1).f0))∧w'.cell? ⟨(ad128.add ((x3_1).toNat*6)).block,(ad128.add ((x3_1).toNat*6)).off+1,none⟩=some (.int .i64 ((rd_T24 l0 x3_1).f1))∧w'.cell? ⟨(ad128.add ((x3_1).toNat*6)).block,(ad128.add ((x3_1).toNat*6)).off+2,none⟩=some (.int .i64 ((rd_T24 l0 x3_1).f2))∧w'.cell? ⟨(ad128.add ((x3_1).toNat*6)).block,(ad128.add ((x3_1).toNat*6)).off+3,none⟩=some (.int .i64 ((rd_T24 l0 x3_1).f3))∧w'.cell? ⟨(ad128.add ((x3_1).toNat*6)).block,(ad128.add ((x3_1).toNat*6)).off+4,none⟩=some (.int .i64 ((rd_T24 l0 x3_1).f4))∧w'.cell? ⟨(ad128.add ((x3_1).toNat*6)).block,(ad128.add ((x3_1).toNat*6)).off+5,none⟩=some (.int .i64 ((rd_T24 l0 x3_1).f5))∧w'.cell? (ad128.add ((x3_1).toNat*6))=some (.int .i64 ((rd_T24 l0 x3_1).f0))∧w'.cell? ⟨(ad128.add ((x3_1).toNat*6)).block,(ad128.add ((x3_1).toNat*6)).off+1,none⟩=some (.int .i64 ((rd_T24 l0 x3_1).f1))∧w'.cell? ⟨(ad128.add ((x3_1).toNat*6)).block,(ad128.add ((x3_1).toNat*6)).off+2,none⟩=some (.int .i64 ((rd_T24 l0 x3_1).f2))∧w'.cell? ⟨(ad128.add ((x3_1).toNat*6)).block,(ad128.add ((x3_1).toNat*6)).off+3,none⟩=some (.int .i64 ((rd_T24 l0 x3_1).f3))∧w'.cell? ⟨(ad128.add ((x3_1).toNat*6)).block,(ad128.add ((x3_1).toNat*6)).off+4,none⟩=some (.int .i64 ((rd_T24 l0 x3_1).f4))∧w'.cell? ⟨(ad128.add ((x3_1).toNat*6)).block,(ad128.add ((x3_1).toNat*6)).off+5,none⟩=some (.int .i64 ((rd_T24 l0 x3_1).f5))) (ds:=[]) #[false,false,false,false,false,false,false,false,false,false,false,false,false,false,false,false] (by kernel_rfl) rfl rfl ⟨((HB.out.cell (World.block_lt_of_cell? w _ hw132_0)).trans hw132_0),((HB.out.cell (World.block_lt_of_cell? w _ hw132_1)).trans hw132_1),((HB.out.cell (World.block_lt_of_cell? w _ hw132_2)).trans hw132_2),((HB.out.cell (World.block_lt_of_cell? w _ hw132_3)).trans hw132_3),((HB.out.cell (World.block_lt_of_cell? w _ hw132_4)).trans hw132_4),((HB.out.cell (World.block_lt_of_cell? w _ hw132_5)).trans hw132_5),((HB.out.cell (World.block_lt_of_cell? w _ hw133_0)).trans hw133_0),((HB.out.cell (World.block_lt_of_cell? w _ hw133_1)).trans hw133_1),((HB.out.cell (World.block_lt_of_cell? w _ hw133_2)).trans hw133_2),((HB.out.cell (World.block_lt_of_cell? w _ hw133_3)).trans hw133_3),((HB.out.cell (World.block_lt_of_cell? w _ hw133_4)).trans hw133_4),((HB.out.cell (World.block_lt_of_cell? w _ hw133_5)).trans hw133_5)⟩ (fun hHeld=>?_);refine with_tabW gimballaw1_FxRatios.tab5 gimballaw1_FxRatios.bits5 (fun HT_ HW_=>?_)
                  generalize w16.drew=w17 at HB hx132_0 hx132_1 hx132_2 hx132_3 hx132_4 hx132_5 hx133_0 hx133_1 hx133_2 hx133_3 hx133_4 hx133_5 hHeld ⊢
                  refine pure_ (i:=0) (N:=some 33) (v:=?_) (a':=?_) #[true,false,false,false,false,false,false,false,false,false,false,false,false,false,false,false] rfl rfl (any_of HT_.out (by kernel_rfl)) (fun _ _ _ h=>h) (Or.inl ⟨by rfl,?_⟩) ?_ ?_
                  rotate_left
                  · intro w'
                    go_simp
                    with_reducible rfl
                  rotate_left
                  · simp only [Act.put,List.setIfInBounds_toArray,List.set_cons_zero,List.set_cons_succ,i64_w,i32_w]
                    rfl
                  refine pure_ (i:=1) (N:=some 34) (v:=?_) (a':=?_) #[true,true,false,false,false,false,false,false,false,false,false,false,false,false,false,false] rfl rfl (any_of HT_.out (by kernel_rfl)) (fun _ _ _ h=>h) (Or.inl ⟨by rfl,?_⟩) ?_ ?_
                  rotate_left
                  · intro w'
                    go_simp
                    with_reducible rfl
                  rotate_left
                  · simp only [Act.put,List.setIfInBounds_toArray,List.set_cons_zero,List.set_cons_succ,i64_w,i32_w]
                    rfl
                  refine pure_ (i:=2) (N:=some 35) (v:=?_) (a':=?_) #[true,true,true,false,false,false,false,false,false,false,false,false,false,false,false,false] rfl rfl (any_of HT_.out (by kernel_rfl)) (fun _ _ _ h=>h) (Or.inl ⟨by rfl,?_⟩) ?_ ?_
                  rotate_left
                  · intro w'
                    go_simp
                    with_reducible rfl
                  rotate_left
                  · simp only [Act.put,List.setIfInBounds_toArray,List.set_cons_zero,List.set_cons_succ,i64_w,i32_w]
                    rfl
                  refine pure_ (i:=3) (N:=some 36) (v:=?_) (a':=?_) #[true,true,true,true,false,false,false,false,false,false,false,false,false,false,false,false] rfl rfl (any_of HT_.out (by kernel_rfl)) (fun _ _ _ h=>h) (Or.inl ⟨by rfl,?_⟩) ?_ ?_
                  rotate_left
                  · intro w'
                    go_simp
                    with_reducible rfl
                  rotate_left
                  · simp only [Act.put,List.setIfInBounds_toArray,List.set_cons_zero,List.set_cons_succ,i64_w,i32_w]
                    rfl
                  refine pure_ (i:=5) (N:=some 38) (v:=?_) (a':=?_) #[true,true,true,true,false,true,false,false,false,false,false,false,false,false,false,false] rfl rfl (any_of HT_.out (by kernel_rfl)) (fun _ _ _ h=>h) (Or.inl ⟨by rfl,?_⟩) ?_ ?_
                  rotate_left
                  · intro w'
                    go_simp
                    with_reducible rfl
                  rotate_left
                  · simp only [Act.put,List.setIfInBounds_toArray,List.set_cons_zero,List.set_cons_succ,i64_w,i32_w]
                    rfl
                  refine pure_ (i:=6) (N:=some 39) (v:=?_) (a':=?_) #[true,true,true,true,false,true,true,false,false,false,false,false,false,false,false,false] rfl rfl (any_of HT_.out (by kernel_rfl)) (fun _ _ _ h=>h) (Or.inl ⟨by rfl,?_⟩) ?_ ?_
                  rotate_left
                  · intro w'
                    go_simp
                    with_reducible rfl
                  rotate_left
                  · simp only [Act.put,List.setIfInBounds_toArray,List.set_cons_zero,List.set_cons_succ,i64_w,i32_w]
                    rfl
                  refine pure_ (i:=7) (N:=some 40) (v:=?_) (a':=?_) #[true,true,true,true,false,true,true,true,false,false,false,false,false,false,false,false] rfl rfl (any_of HT_.out (by kernel_rfl)) (fun _ _ _ h=>h) (Or.inl ⟨by rfl,?_⟩) ?_ ?_
                  rotate_left
                  · intro w'
                    go_simp
                    with_reducible rfl
                  rotate_left
                  · simp only [Act.put,List.setIfInBounds_toArray,List.set_cons_zero,List.set_cons_succ,i64_w,i32_w]
                    rfl
                  refine pure_ (i:=8) (N:=some 41) (v:=?_) (a':=?_) #[true,true,true,true,false,true,true,true,true,false,false,false,false,false,false,false] rfl rfl (any_of HT_.out (by kernel_rfl)) (fun _ _ _ h=>h) (Or.inl ⟨by rfl,?_⟩) ?_ ?_
                  rotate_left
                  · intro w'
                    go_simp
                    with_reducible rfl
                  rotate_left
                  · simp only [Act.put,List.setIfInBounds_toArray,List.set_cons_zero,List.set_cons_succ,i64_w,i32_w]
                    rfl
                  refine take_ (i:=4) (N:=some 37) (v:=?_) (a':=?_) #[true,true,true,true,true,true,true,true,true,false,false,false,false,false,false,false] rfl rfl (take_ofW HT_.out HW_.out (by kernel_rfl)) (fun _ _ _ h=>h) (Or.inl ⟨by rfl,?_⟩) hHeld ?_ ?_
                  rotate_left
                  · rintro w' ⟨s0,s1,s2,s3,s4,s5,s6,s7,s8,s9,s10,s11⟩
                    go_simp
                    with_reducible rfl
                  rotate_left
                  · simp only [Act.put,List.setIfInBounds_toArray,List.set_cons_zero,List.set_cons_succ,i64_w,i32_w]
                    rfl
                  refine take_ (i:=9) (N:=some 42) (v:=?_) (a':=?_) #[true,true,true,true,true,true,true,true,true,true,false,false,false,false,false,false] rfl rfl (take_ofW HT_.out HW_.out (by kernel_rfl)) (fun _ _ _ h=>h) (Or.inl ⟨by rfl,?_⟩) hHeld ?_ ?_
                  rotate_left
                  · rintro w' ⟨s0,s1,s2,s3,s4,s5,s6,s7,s8,s9,s10,s11⟩
                    go_simp
                    with_reducible rfl
                  rotate_left
                  · simp only [Act.put,List.setIfInBounds_toArray,List.set_cons_zero,List.set_cons_succ,i64_w,i32_w]
                    rfl
                  refine one_ (i:=10) (N:=some 43) #[true,true,true,true,true,true,true,true,true,true,true,false,false,false,false,false] rfl rfl (one_of HT_.out (by kernel_rfl)) (by decide) (fun K hK=>?_)
                  refine goes_ Try.func23 (by kernel_rfl) rfl #[.int .i64 ((rd_T24 l0 x3_1).f2),.int .i64 ((rd_T24 l0 x3_1).f3)] (by rfl) rfl rfl (by (try simp only [List.map_toArray,List.map_cons,List.map_nil]);first|done|rfl|(simp only [List.length_drop,List.length_take];rfl)) ?_
                  with_reducible refine (gimbalref1_Ratio.calls ((rd_T24 l0 x3_1).f2) ((rd_T24 l0 x3_1).f3) t134 t135 _ A8.out).mono ?_
                  rintro e w18 ⟨rfl,hb⟩
                  refine ⟨_,rfl,?_⟩
                  have n0_:=Aside0.mk (below_step (by repeat (first|(with_reducible first|exact HB.out|apply below_alloc|apply pw_below_drewN|apply below_drew1)|exact HB.out)) hb)
                  clear HB
                  have HB:=n0_
                  clear n0_
                  (try clear hb)
                  (try clear hb2)
                  (try clear hk)
                  (try clear hi)
                  refine hK.out _ _ ⟨((HB.out.cell (World.block_lt_of_cell? w _ hw132_0)).trans hw132_0),((HB.out.cell (World.block_lt_of_cell? w _ hw132_1)).trans hw132_1),((HB.out.cell (World.block_lt_of_cell? w _ hw132_2)).trans hw132_2),((HB.out.cell (World.block_lt_of_cell? w _ hw132_3)).trans hw132_3),((HB.out.cell (World.block_lt_of_cell? w _ hw132_4)).trans hw132_4),((HB.out.cell (World.block_lt_of_cell? w _ hw132_5)).trans hw132_5),((HB.out.cell (World.block_lt_of_cell? w _ hw133_0)).trans hw133_0),((HB.out.cell (World.block_lt_of_cell? w _ hw133_1)).trans hw133_1),((HB.out.cell (World.block_lt_of_cell? w _ hw133_2)).trans hw133_2),((HB.out.cell (World.block_lt_of_cell? w _ hw133_3)).trans hw133_3),((HB.out.cell (World.block_lt_of_cell? w _ hw133_4)).trans hw133_4),((HB.out.cell (World.block_lt_of_cell? w _ hw133_5)).trans hw133_5)⟩ (fun hHeld=>?_)
                  clear hK K
                  refine norm_ (a':=?_) ?_ ?_
                  rotate_left
                  · show Act.put _ (some 43) _=_
                    simp only [Act.put,List.setIfInBounds_toArray,List.set_cons_zero,List.set_cons_succ,i64_w,i32_w]
                    rfl
                  refine pure_ (i:=11) (N:=some 32) (v:=?_) (a':=?_) #[true,true,true,true,true,true,true,true,true,true,true,true,false,false,false,false] rfl rfl (any_of HT_.out (by kernel_rfl)) (fun _ _ _ h=>h) (Or.inl ⟨by rfl,?_⟩) ?_ ?_
                  rotate_left
                  · intro w'
                    go_simp
                    with_reducible rfl
                  rotate_left
                  · simp only [Act.put,List.setIfInBounds_toArray,List.set_cons_zero,List.set_cons_succ,i64_w,i32_w]
                    rfl
                  refine pure_ (i:=12) (N:=some 44) (v:=?_) (a':=?_) #[true,true,true,true,true,true,true,true,true,true,true,true,true,false,false,false] rfl rfl (any_of HT_.out (by kernel_rfl)) (fun _ _ _ h=>h) (Or.inl ⟨by rfl,?_⟩) ?_ ?_
                  rotate_left
                  · intro w'
                    go_simp
                    with_reducible rfl
                  rotate_left
                  · simp only [Act.put,List.setIfInBounds_toArray,List.set_cons_zero,List.set_cons_succ,i64_w,i32_w]
                    rfl
                  refine pure_ (i:=13) (N:=some 45) (v:=?_) (a':=?_) #[true,true,true,true,true,true,true,true,true,true,true,true,true,true,false,false] rfl rfl (any_of HT_.out (by kernel_rfl)) (fun _ _ _ h=>h) (Or.inl ⟨by rfl,?_⟩) ?_ ?_
                  rotate_left
                  · intro w'
                    go_simp
                    with_reducible rfl
                  rotate_left
                  · simp only [Act.put,List.setIfInBounds_toArray,List.set_cons_zero,List.set_cons_succ,i64_w,i32_w]
                    rfl
                  refine pure_ (i:=14) (N:=some 6) (v:=?_) (a':=?_) #[true,true,true,true,true,true,true,true,true,true,true,true,true,true,true,false] rfl rfl (any_of HT_.out (by kernel_rfl)) (fun _ _ _ h=>h) (Or.inl ⟨by rfl,?_⟩) ?_ ?_
                  rotate_left
                  · intro w'
                    go_simp
                    with_reducible rfl
                  rotate_left
                  · simp only [Act.put,List.setIfInBounds_toArray,List.set_cons_zero,List.set_cons_succ,i64_w,i32_w]
                    rfl
                  refine pure_ (i:=15) (N:=some 7) (v:=?_) (a':=?_) #[true,true,true,true,true,true,true,true,true,true,true,true,true,true,true,true] rfl rfl (any_of HT_.out (by kernel_rfl)) (fun _ _ _ h=>h) (Or.inl ⟨by rfl,?_⟩) ?_ ?_
                  rotate_left
                  · intro w'
                    go_simp
                    with_reducible rfl
                  rotate_left
                  · simp only [Act.put,List.setIfInBounds_toArray,List.set_cons_zero,List.set_cons_succ,i64_w,i32_w]
                    rfl
                  refine done_ (done_of HT_.out (by kernel_rfl)) ?_
                  try go_wp2_with (first|((with_reducible refine gate_callee (f:=16) rfl ?_);refine goesL_ (some 50) rfl rfl Try.func16 (by kernel_rfl) rfl #[.int .i64 t130,.int .i64 t131,.int .i64 t134,.int .i64 t135] rfl (by (try simp only [List.map_toArray,List.map_cons,List.map_nil]);first|done|rfl|(simp only [List.length_drop,List.length_take];rfl)) ?_;(with_reducible refine (gimballaw1_is.calls t130 t131 t134 t135 false _ A9.out).mono ?_);rintro e w' ⟨rfl,⟨nd,rfl⟩⟩;refine ⟨_,rfl,?_⟩))
                  go_ret
                  exact ⟨by first|rfl|(simp [errW_none,errW_some]<;>rfl)|(simp [*,errW_none,errW_some]<;>rfl),by repeat (first|(with_reducible first|exact HB.out|apply below_alloc|apply pw_below_drewN|apply below_drew1)|exact HB.out)⟩
              · rw [if_neg c6] at H
                exact absurd H (by simp)
            · rw [if_neg c5] at H
              exact absurd H (by simp)
          · replace c4:=Bool.eq_false_iff.mpr c4
            subst c4
            have H1:((gimballaw1_wakes.f).bind fun t127=>(some t127))=some r:=by rw [if_neg (show ¬ (false=true) by decide)] at H;exact H
            clear H
            have H:=H1
            clear H1
            replace H:=Option.bind_eq_some_iff.mp H
            obtain ⟨t127,A190,H⟩:=H
            replace H:(some t127)=some r:=H
            have A19:=Aside0.mk A190
            clear A190
            obtain rfl:=Option.some.inj H
            go_wp2_with (first|((with_reducible refine gate_callee (f:=17) rfl ?_);refine goesL_ (some 52) rfl rfl Try.func17 (by kernel_rfl) rfl #[] rfl (by (try simp only [List.map_toArray,List.map_cons,List.map_nil]);first|done|rfl|(simp only [List.length_drop,List.length_take];rfl)) ?_;(with_reducible refine (gimballaw1_wakes.calls  t127 _ A19.out).mono ?_);rintro e w20 ⟨rfl,hb⟩;refine ⟨_,rfl,?_⟩;have n0_:=Aside0.mk (below_step (by repeat (first|(with_reducible first|exact HB.out|apply below_alloc|apply pw_below_drewN|apply below_drew1)|exact HB.out)) hb);clear HB;have HB:=n0_;clear n0_;(try clear hb);(try clear hb2);(try clear hk);(try clear hi)))
            go_ret
            exact ⟨by first|rfl|(simp [errW_none,errW_some]<;>rfl)|(simp [*,errW_none,errW_some]<;>rfl),by repeat (first|(with_reducible first|exact HB.out|apply below_alloc|apply pw_below_drewN|apply below_drew1)|exact HB.out)⟩
end Go.Proofs.Ythokdnheijnmmaa.QFxE
end
section
namespace Go.Proofs.Ythokdnheijnmmaa.fxRatios
open Go.RowKit Go.Proofs.Ythokdnheijnmmaa.QFxE Go.Proofs.YthokdnheijnmmaaW.PrintWords Go.Proofs.YthokdnheijnmmaaW.PrintLast
def G24 (x:S24):Prop:=(fun n=>(Lit.int .i64 n).wf=true) x.f0∧(fun n=>(Lit.int .i64 n).wf=true) x.f1∧(fun n=>(Lit.int .i64 n).wf=true) x.f2∧(fun n=>(Lit.int .i64 n).wf=true) x.f3∧(fun n=>(Lit.int .i64 n).wf=true) x.f4∧(fun n=>(Lit.int .i64 n).wf=true) x.f5
def Pure:Prop:=∀ (x0:List (S24)),(fun xs=>xs.length*48≤140737488351232∧∀ x∈xs,G24 x) x0→∃ k,gimballaw1_FxRatios.f k x0=some true
end Go.Proofs.Ythokdnheijnmmaa.fxRatios
end
section
set_option linter.unusedVariables false
set_option linter.unusedSimpArgs false
namespace Go.Proofs.Ythokdnheijnmmaa.fxRatios
open Go.RowKit Go.Proofs.Ythokdnheijnmmaa.QFxE Go.Proofs.YthokdnheijnmmaaW.PrintWords Go.Proofs.YthokdnheijnmmaaW.PrintMore Go.Proofs.YthokdnheijnmmaaW.Aid
open Go.Proofs.Ythokdnheijnmmaa.FxWalk Go.Proofs.Ythokdnheijnmmaa.Wh
theorem wakes_ev:Ev (fun _=>gimballaw1_wakes.f) true:=Ev.pure (fun _=>by decide +kernel)
theorem is_f (v e w b:Int):gimballaw1_is.f v e w b=some (decide (e=b)&&(v == w)):=by
  unfold gimballaw1_is.f gimballaw1_num.f
  simp only [Option.bind_some]
  by_cases h:e=b
  · rw [if_pos h,decide_eq_true h,Bool.true_and]
  · rw [if_neg h,decide_eq_false h,Bool.false_and]
theorem i64 {n:Int} (h:(Lit.int .i64 n).wf=true) : -9223372036854775808≤n∧n<9223372036854775808:=by
  have h1:=wf_i64 h
  omega
theorem l0_ev (l:List S24) (hg:∀ x∈l,G24 x) (hn:l.length*48≤140737488351232) (d:Nat):∀ i:Int,0≤i→(l.length:Int)-i≤d→i≤l.length→Ev (fun k=>gimballaw1_FxRatios.l0 k l i) true:=by
  have fin:∀ i,Ev (fun k=>gimballaw1_FxRatios.j1 k l i false) true:=by
    intro i
    refine Ev.shift ?_
    simp only [gimballaw1_FxRatios.j1,Bool.false_eq_true,if_false]
    exact Ev.bind wakes_ev (Ev.pure fun _=>rfl)
  induction d with
  | zero =>
    intro i h0 h1 h2
    refine Ev.shift ?_
    simp only [gimballaw1_FxRatios.l0,if_neg (show ¬ i<(l.length:Int) by omega)]
    exact fin i
  | succ d ih =>
    intro i h0 h1 h2
    refine Ev.shift ?_
    simp only [gimballaw1_FxRatios.l0]
    by_cases hl:i<(l.length:Int)
    · simp only [hl,if_true]
      by_cases hc:i<30
      · rw [decide_eq_true hc]
        have w1:wrap64 (i+1)=i+1:=wrap64_id (by omega) (by omega)
        have next:=ih (i+1) (by omega) (by omega) (by omega)
        refine Ev.shift ?_
        have hx:G24 (rd_T24 l i):=hg _ (getD_mem z24 h0 hl)
        simp only [gimballaw1_FxRatios.j1,if_true,h0,hl]
        generalize rd_T24 l i=x at *
        obtain ⟨⟨a,b,c,d,e,f⟩,rfl⟩:∃ y:S24,x=y:=⟨x,rfl⟩
        have ra:=i64 hx.2.2.1
        have rb:=i64 hx.2.2.2.1
        simp only at ra rb
        simp only [fx_Ratio.f,gimbalref1_Ratio.f,if_pos (And.intro ra rb),Option.bind_some,is_f,decide_true,beq_self_eq_true,Bool.and_self,if_true,w1]
        exact next
      · rw [decide_eq_false hc]
        exact fin i
    · simp only [hl,if_false]
      exact fin i
theorem pure:Pure:=by
  intro l h
  exact Ev.rounds (l0_ev l h.2 h.1 l.length 0 (by omega) (by omega) (by omega))
end Go.Proofs.Ythokdnheijnmmaa.fxRatios
end
section
namespace Go.Proofs.YthokdnheijnmmaaW.Opens
open Go.RowKit Go.Proofs.YthokdnheijnmmaaW.PrintWords Go.Deep
variable {P:Program}
def Opens (P:Program) (t:TypeId) {α:Type} (d:Kd α) (G:α→Prop):Prop :=
  P.cellsOf t=d.sz∧∀ {H:Type} (enc:TypeId × Value→H) (w:World) (base:Nat) (spare:Nat→Bool) (held:Bool) (fuel:Nat) (cs:List Value) (x:DataW H × List MemPlace),
    DataW.trod enc P w base spare held fuel t cs=some x→(∀ n∈x.1.weights P t,n≤reachBytes)→∃ a,d.K w a cs∧G a
theorem opens_int {t:TypeId} {k:IntKind} (hu:P.underlying t=some (.int k)) (hc:P.cellsOf t=1):Opens P t (Kd.int k) (fun n=>(Lit.int k n).wf=true):=by
  refine ⟨hc,fun enc w base spare held fuel cs x h _=>?_⟩
  obtain ⟨n,rfl,_,hw⟩:=DataW.trod_int hu h
  exact ⟨n,rfl,hw⟩
theorem opens_bool {t:TypeId} (hu:P.underlying t=some .bool) (hc:P.cellsOf t=1):Opens P t Kd.bool (fun _=>True):=by
  refine ⟨hc,fun enc w base spare held fuel cs x h _=>?_⟩
  obtain ⟨n,rfl,_⟩:=DataW.trod_bool hu h
  exact ⟨n,rfl,trivial⟩
theorem opens_string {t:TypeId} (hu:P.underlying t=some .string) (hc:P.cellsOf t=1):Opens P t Kd.string (fun s=>s.size≤140737488351232):=by
  refine ⟨hc,fun enc w base spare held fuel cs x h hw=>?_⟩
  obtain ⟨s,rfl,rfl,_⟩:=DataW.trod_string hu h
  have z:=hw s.data.toList.length (by simp [DataW.weights])
  exact ⟨s,rfl,by simpa [reachBytes] using z⟩
theorem list_of {α:Type} {Q:Nat→α→Prop}:∀ n:Nat,(∀ i,i<n→∃ a,Q i a)→∃ xs:List α,xs.length=n∧∀ j p,xs[j]?=some p→Q j p
  | 0,_=>⟨[],rfl,fun j p h=>by simp at h⟩
  | n + 1, h => by
    obtain ⟨xs,hl,hx⟩:=list_of n (fun i hi=>h i (by omega))
    obtain ⟨a,ha⟩:=h n (by omega)
    refine ⟨xs++[a],by simp [hl],fun j p hj=>?_⟩
    by_cases hjl:j<xs.length
    · rw [List.getElem?_append_left hjl] at hj
      exact hx j p hj
    · have hj2:j<(xs++[a]).length:=(List.getElem?_eq_some_iff.1 hj).1
      have:j=n:=by simp at hj2;omega
      subst this
      rw [List.getElem?_append_right (by omega)] at hj
      simp [hl] at hj
      subst hj
      exact ha
theorem weights_mem_all {H:Type} {e:TypeId}:∀ {l:List (DataW H)} {d:DataW H},d∈l→∀ n∈d.weights P e,n∈DataW.weightsAll P e l
  | [],_,h,_,_=>by simp at h
  | y::l,d,h,n,hn=>by
    rw [DataW.weightsAll]
    rcases List.mem_cons.1 h with rfl|h
    · exact List.mem_append_left _ hn
    · exact List.mem_append_right _ (weights_mem_all h n hn)
theorem opens_slice {t e:TypeId} {α:Type} {d:Kd α} {G:α→Prop} (hu:P.underlying t=some (.slice e)) (hc:P.cellsOf t=1) {B:Nat} (hB:P.bytesOf e=B) (he:Opens P e d G) :
    Opens P t (Kd.slice e d) (fun xs=>xs.length*B≤140737488351232∧∀ x∈xs,G x):=by
  obtain ⟨hsz,he⟩:=he
  refine ⟨hc,fun enc w base spare held fuel cs x h hw=>?_⟩
  rcases open_slice hu h with ⟨rfl,_⟩|⟨a,len,cap,m,n,D,Pl,rfl,_,hl,hm,hmm,rfl,hi⟩
  · exact ⟨[],⟨none,0,rfl,Nat.le_refl _,rfl,by simp,fun h=>absurd h (by simp)⟩,by simp,fun _ h=>by simp at h⟩
  · have hlm:len≤m:=by rw [hmm];split<;>omega
    have hw2:∀ i,i<len→∀ q∈(D i).weights P e,q≤reachBytes:=fun i hil q hq=>by
      refine hw q ?_
      rw [DataW.weights,hu]
      refine List.mem_cons_of_mem _ (List.mem_append_left _ (weights_mem_all (d:=D i) ?_ q hq))
      exact List.mem_map.2 ⟨i,List.mem_range.2 hil,rfl⟩
    obtain ⟨xs,hxl,hx⟩:=list_of (Q:=fun i p=>(∃ c,c.length=d.sz∧d.K w p c∧∀ j u,c[j]?=some u→w.cell? (a.add (i*d.sz+j))=some u)∧G p) len (fun i hil=>by
      obtain ⟨cs',h1,h2⟩:=hi i (by omega)
      obtain ⟨p,hk,hg⟩:=he enc w base spare held n cs' _ h2 (hw2 i hil)
      obtain ⟨_,hcl,hat⟩:=World.cells?_some h1
      refine ⟨p,⟨cs',d.K_len hk,hk,fun j u hj=>?_⟩,hg⟩
      have hjl:j<cs'.length:=(List.getElem?_eq_some_iff.1 hj).1
      have h3:=hat j (by omega)
      rw [hj,hsz,Go.Deep.add_add] at h3
      exact h3)
    subst hxl
    refine ⟨xs,⟨some a,cap,rfl,hl,rfl,by unfold maxLen at hm;omega,fun _=>⟨a,rfl,fun j p hj=>(hx j p hj).1⟩⟩,?_,fun x hx'=>?_⟩
    · have z:=hw ((((List.range xs.length).map D).length+((List.range (m-xs.length)).map fun j=>D (xs.length+j)).length)*P.bytesOf e) (by rw [DataW.weights,hu];exact List.mem_cons_self)
      simp only [List.length_map,List.length_range,hB,reachBytes] at z
      exact Nat.le_trans (Nat.mul_le_mul_right _ (Nat.le_add_right _ _)) z
    · obtain ⟨j,hj⟩:=List.getElem?_of_mem hx'
      exact (hx j x hj).2
def OpensF (P:Program) (o:Nat) (fs:List (TypeId × Nat)) {α:Type} (d:Kd α) (G:α→Prop):Prop :=
  ∀ {H:Type} (enc:TypeId × Value→H) (w:World) (base:Nat) (spare:Nat→Bool) (held:Bool) (n:Nat) (cs:List Value) (ys:List (DataW H × List MemPlace)),cs.length=o+d.sz→ys.length=fs.length →
    (∀ (i:Nat) (f:TypeId × Nat),fs[i]?=some f→DataW.trod enc P w base spare held n f.1 ((cs.drop f.2).take (P.cellsOf f.1))=ys[i]?) →
    (∀ q∈DataW.weightsEach P (fs.map (·.1)) (ys.map (·.1)),q≤reachBytes)→∃ a,d.K w a (cs.drop o)∧G a
theorem opensF_one {t:TypeId} {o:Nat} {α:Type} {d:Kd α} {G:α→Prop} (h:Opens P t d G):OpensF P o [(t,o)] d G:=by
  obtain ⟨hsz,he⟩:=h
  intro H enc w base spare held n cs ys hl hyl hg hw
  match ys,hyl with
  | [y],_ =>
    have h1:=hg 0 (t,o) rfl
    simp only at h1
    rw [hsz,List.take_of_length_le (by simp;omega)] at h1
    exact he enc w base spare held n _ y h1 (fun q hq=>hw q (by simpa [DataW.weightsEach] using hq))
theorem opensF_cons {t:TypeId} {fs:List (TypeId × Nat)} {o o':Nat} {α β:Type} {d:Kd α} {d':Kd β} {G:α→Prop} {G':β→Prop} (h:Opens P t d G) (ho':o+d.sz=o') (h':OpensF P o' fs d' G') :
    OpensF P o ((t,o)::fs) (Kd.pair d d') (fun x=>G x.1∧G' x.2):=by
  obtain ⟨hsz,he⟩:=h
  intro H enc w base spare held n cs ys hl hyl hg hw
  match ys,hyl with
  | y :: ys, hyl =>
    have h1:=hg 0 (t,o) rfl
    simp only at h1
    rw [hsz] at h1
    obtain ⟨a,ka,ga⟩:=he enc w base spare held n _ y h1 (fun q hq=>hw q (by simp only [List.map_cons,DataW.weightsEach];exact List.mem_append_left _ hq))
    have hl':cs.length=o'+d'.sz:=by
      have:(Kd.pair d d').sz=d.sz+d'.sz:=rfl
      omega
    obtain ⟨b,kb,gb⟩:=h' enc w base spare held n cs ys hl' (by simpa using hyl) (fun i f' hf=>hg (i+1) f' (by simpa using hf)) (fun q hq=>hw q (by simp only [List.map_cons,DataW.weightsEach];exact List.mem_append_right _ hq))
    refine ⟨(a,b),⟨(cs.drop o).take d.sz,cs.drop o',?_,ka,kb⟩,ga,gb⟩
    rw [← ho',← List.drop_drop,List.take_append_drop]
theorem opens_struct {t:TypeId} {fs:Array Field} {α β:Type} {d:Kd α} {G:α→Prop} (hu:P.underlying t=some (.struct fs)) (hc:P.cellsOf t=d.sz) {l:List (TypeId × Nat)} (hl:fs.toList.map (fun f=>(f.type,f.offset))=l) (h:OpensF P 0 l d G) (f:β→α) (g:α→β) (hfg:∀ x,f (g x)=x) :
    Opens P t (Kd.iso d f) (fun x=>G (f x)):=by
  refine ⟨hc,fun enc w base spare held fuel cs x hx hw=>?_⟩
  obtain ⟨ys,n,_,rfl,hcl,hyl,hg⟩:=DataW.trod_struct hu hx
  have hg':∀ (i:Nat) (f:TypeId × Nat),l[i]?=some f→DataW.trod enc P w base spare held n f.1 ((cs.drop f.2).take (P.cellsOf f.1))=ys[i]?:=by
    intro i f hf
    rw [← hl,List.getElem?_map] at hf
    obtain ⟨f0,hf0,rfl⟩:=Option.map_eq_some_iff.1 hf
    exact hg i f0 (by simpa using hf0)
  obtain ⟨a,ka,ga⟩:=h enc w base spare held n cs ys (by omega) (by rw [hyl,← hl];simp) hg' (fun q hq=>hw q (by rw [← hl,List.map_map] at hq;simp only [DataW.weights,hu];exact hq))
  exact ⟨g a,by show d.K w (f (g a)) cs;rw [hfg];exact ka,by show G (f (g a));rw [hfg];exact ga⟩
theorem opens_arg {H:Type} {enc:TypeId × Value→H} {W:World} {base:Nat} {spare:Nat→Bool} {held:Bool} {t:TypeId} {v:Value} {x:DataW H} {ps:List MemPlace} {ts:List TypeId} {ds:List (DataW H)} {j:Nat} {α:Type} {d:Kd α} {G:α→Prop}
    (ho:Opens P t d G) (hsz:(DataW.weightsEach P ts ds).all (·≤reachBytes)=true) (ht:ts[j]?=some t) (hd:ds[j]?=some x) (h:DataW.Trod enc P W base spare held t v x ps):∃ a,d.K W a v.cells.toList∧G a:=by
  obtain ⟨fuel,hf⟩:=h
  refine ho.2 enc W base spare held fuel _ (x,ps) hf (fun n hn=>?_)
  simpa using List.all_eq_true.1 hsz n (DataW.weights_mem_each ht hd n hn)
end Go.Proofs.YthokdnheijnmmaaW.Opens
end
section
namespace Go.Proofs.Ythokdnheijnmmaa.fxRatios
open Go.ChangeShapes Go.WideShapes Go.ChangeAt Go.RowKit Go.Proofs.YthokdnheijnmmaaW.Opens Go.Proofs.YthokdnheijnmmaaW.PrintWords Go.Proofs.Ythokdnheijnmmaa.QFxE
set_option linter.unusedVariables false
theorem own:ownKnob Try.prog.godebug=none:=by kernel_rfl
theorem laidOut:laidOutB Try.prog=true:=by kernel_rfl
theorem opens24:Opens Try.prog 24 k24 G24 :=
  opens_struct (l:=[(2,0),(2,1),(2,2),(2,3),(2,4),(2,5)]) Try.underlying24 (by kernel_rfl) rfl (opensF_cons (o:=0) (o':=1) (opens_int Try.underlying2 (by kernel_rfl)) rfl (opensF_cons (o:=1) (o':=2) (opens_int Try.underlying2 (by kernel_rfl)) rfl (opensF_cons (o:=2) (o':=3) (opens_int Try.underlying2 (by kernel_rfl)) rfl (opensF_cons (o:=3) (o':=4) (opens_int Try.underlying2 (by kernel_rfl)) rfl (opensF_cons (o:=4) (o':=5) (opens_int Try.underlying2 (by kernel_rfl)) rfl (opensF_one (o:=5) (opens_int Try.underlying2 (by kernel_rfl)))))))) (fun x:S24=>(x.f0,x.f1,x.f2,x.f3,x.f4,x.f5)) (fun p=>⟨p.1,p.2.1,p.2.2.1,p.2.2.2.1,p.2.2.2.2.1,p.2.2.2.2.2⟩) (fun _=>rfl)
set_option maxRecDepth 100000 in
theorem lifted (os:Os) (started:os.Started) (H:Type) (enc:TypeId × Value→H) :
    ReturnsInHanded {} Try.checked os 6 .any (Rows.fxRatiosSpec.pre6 enc Try.prog Try.f6 Rows.fxRatiosRow.domain false) (Rows.fxRatiosSpec.post enc Try.prog Try.f6 false true false false):=by
  refine returnsInHanded_of_change_sized (C:=Try.checked) own started (by kernel_rfl) Try.func6
    (ChangeSpec.witness6 (enc:=enc) (C:=Try.checked) false ⟨#[],#[.slice none 0 0],[]⟩ 8 (by kernel_rfl) (by kernel_rfl) (by kernel_rfl) (by kernel_rfl)) ?_
  intro W base args ds gs before hval0 hW hcnd hsz0 _
  have hsz:(DataW.weightsEach Try.prog (Try.f6.params.toList++Rows.fxRatiosSpec.plain.varTypes Try.prog) (ds++gs)).all (·≤reachBytes)=true:=hsz0
  have hval:∀ (j:Nat) t v,Try.f6.params[j]?=some t→args[j]?=some v→Value.okWide Try.prog W .any base t v:=hval0
  have hW':=hW
  obtain ⟨p,q,hA0,hV,rfl,hfz,hnd⟩:=hW
  have hA:DataW.TrodAll enc Try.prog W 0 (fun _=>true) true Try.f6.params.toList args.toList ds p:=hA0
  rw [Try.params6] at hA hval hsz
  obtain ⟨v0,vs0,d0,ds0,p0,q0,hargs,rfl,rfl,h0,r0⟩:=trodAll_cons hA
  obtain ⟨rfl,rfl,rfl⟩:=trodAll_nil r0
  obtain rfl:args=#[v0]:=by cases args;simp_all
  obtain ⟨rfl,rfl⟩:=trodVars_none hV
  have k0:=h0
  have lt0:∀ x∈p0,x.block<W.heap.size:=by obtain ⟨m,hm⟩:=k0;exact DataW.trod_lt m _ _ _ hm
  have hv0:=hval 0 22 v0 rfl rfl
  obtain ⟨x0,hk0,hg0⟩:=opens_arg (opens_slice (B:=48) Try.underlying22 (by kernel_rfl) (by kernel_rfl) opens24) hsz (j:=0) (t:=22) rfl rfl h0
  obtain ⟨k,hp⟩:=pure x0 hg0
  obtain ⟨a0,len0,cap0,rfl⟩:=okWide_slice Try.underlying22 hv0
  obtain ⟨A1,c1,hcs,hle,hC⟩:=hk0
  have hcs:[Value.slice a0 len0 cap0]=[.slice A1 x0.length c1]:=hcs
  simp only [List.cons.injEq,Value.slice.injEq,and_true] at hcs
  obtain ⟨rfl,rfl,rfl⟩:=hcs
  clear hA0 hval0 hsz0 hsz
  refine (gimballaw1_FxRatios.calls k _ _ x0 true W hC hle hp).mono fun e W' hpost=>?_
  obtain ⟨rfl,bel⟩:=hpost
  exact ⟨_,rfl,_,_,_,[],_,[],hW',trodAll_mk1 (shut_bool Try.underlying4 _),(trodAll_cons_mk (Below.trod laidOut (by kernel_rfl) (of_decide_eq_true (by kernel_rfl)) k0 bel lt0) trodAll_mk0),rfl,bel.frame _,fun h=>by cases h⟩
theorem over:Rows.fxRatiosRow.holds Try.pinned (OpenSpec.ofChange Rows.fxRatiosSpec) :=
  OpenClaim.holds_of_wide 6 Try.f6 rfl rfl rfl rfl rfl rfl rfl ⟨rfl,rfl,rfl,rfl,rfl⟩ rfl rfl rfl rfl rfl (by kernel_rfl) Try.func6 (by kernel_rfl)
    (of_decide_eq_true (by kernel_rfl)) (by unfold Func.isWrapper;first|(rw [if_pos (by decide +kernel)];kernel_rfl)|(rw [if_neg (by decide +kernel)];exact ⟨rfl,rfl⟩))
    (fun os started H enc _=>lifted os started H enc)
theorem proved:Rows.FxRatiosSaid:=over
end Go.Proofs.Ythokdnheijnmmaa.fxRatios
namespace Go.Proofs.Ythokdnheijnmmaa
theorem fxRatios_holds:Rows.FxRatiosSaid:=fxRatios.proved
end Go.Proofs.Ythokdnheijnmmaa
end
