/- The row of FxDivs, out of its law over numbers and the printed walk: for every argument that reads as data the call returns true and leaves the argument as it was. -/
import Derived.Test.YthokdnheijnmmaaZEd
import Derived.Test.YthokdnheijnmmaaRows
import Derived.WalkKit
import Derived.ProofKit
import Derived.OpenShut
import Derived.ShutString
import Derived.ChangeOld
import Derived.Below
import Derived.SizedLaws
import Derived.Carry
section
namespace Go.Proofs.Ythokdnheijnmmaa.fxDivs
open Go.RowKit Go.Proofs.Ythokdnheijnmmaa.QFxE Go.Proofs.YthokdnheijnmmaaW.PrintWords Go.Proofs.YthokdnheijnmmaaW.PrintLast
def G24 (x:S24):Prop:=(fun n=>(Lit.int .i64 n).wf=true) x.f0∧(fun n=>(Lit.int .i64 n).wf=true) x.f1∧(fun n=>(Lit.int .i64 n).wf=true) x.f2∧(fun n=>(Lit.int .i64 n).wf=true) x.f3∧(fun n=>(Lit.int .i64 n).wf=true) x.f4∧(fun n=>(Lit.int .i64 n).wf=true) x.f5
def Pure:Prop:=∀ (x0:List (S24)),(fun xs=>xs.length*48≤140737488351232∧∀ x∈xs,G24 x) x0→∃ k,gimballaw1_FxDivs.f k x0=some true
end Go.Proofs.Ythokdnheijnmmaa.fxDivs
end
section
set_option linter.unusedVariables false
set_option linter.unusedSimpArgs false
namespace Go.Proofs.Ythokdnheijnmmaa.fxDivs
open Go.RowKit Go.Proofs.Ythokdnheijnmmaa.QFxE Go.Proofs.YthokdnheijnmmaaW.PrintWords Go.Proofs.YthokdnheijnmmaaW.PrintMore Go.Proofs.YthokdnheijnmmaaW.Aid
open Go.Proofs.Ythokdnheijnmmaa.FxWalk Go.Proofs.Ythokdnheijnmmaa.Wh
theorem wakes_ev:Ev (fun _=>gimballaw1_wakes.f) true:=Ev.pure (fun _=>by decide +kernel)
theorem may_f (x:Int):gimbalref1_May.f x=some (wd x):=by
  unfold gimbalref1_May.f wd
  by_cases h : -35184372088832<x
  · rw [if_pos h,decide_eq_true h];rfl
  · rw [if_neg h,decide_eq_false h];rfl
theorem is_f (v e w b:Int):gimballaw1_is.f v e w b=some (decide (e=b)&&(v == w)):=by
  unfold gimballaw1_is.f gimballaw1_num.f
  simp only [Option.bind_some]
  by_cases h:e=b
  · rw [if_pos h,decide_eq_true h,Bool.true_and]
  · rw [if_neg h,decide_eq_false h,Bool.false_and]
theorem i64 {n:Int} (h:(Lit.int .i64 n).wf=true) : -9223372036854775808≤n∧n<9223372036854775808:=by
  have h1:=wf_i64 h
  omega
theorem l0_ev (l:List S24) (hg:∀ x∈l,G24 x) (hn:l.length*48≤140737488351232) (d:Nat):∀ i:Int,0≤i→(l.length:Int)-i≤d→i≤l.length→Ev (fun k=>gimballaw1_FxDivs.l0 k l i) true:=by
  have fin:∀ i,Ev (fun k=>gimballaw1_FxDivs.j1 k l i false) true:=by
    intro i
    refine Ev.shift ?_
    simp only [gimballaw1_FxDivs.j1,Bool.false_eq_true,if_false]
    exact Ev.bind wakes_ev (Ev.pure fun _=>rfl)
  induction d with
  | zero =>
    intro i h0 h1 h2
    refine Ev.shift ?_
    simp only [gimballaw1_FxDivs.l0,if_neg (show ¬ i<(l.length:Int) by omega)]
    exact fin i
  | succ d ih =>
    intro i h0 h1 h2
    refine Ev.shift ?_
    simp only [gimballaw1_FxDivs.l0]
    by_cases hl:i<(l.length:Int)
    · simp only [hl,if_true]
      by_cases hc:i<30
      · rw [decide_eq_true hc]
        have w1:wrap64 (i+1)=i+1:=wrap64_id (by omega) (by omega)
        have next:=ih (i+1) (by omega) (by omega) (by omega)
        refine Ev.shift ?_
        have hx:G24 (rd_T24 l i):=hg _ (getD_mem z24 h0 hl)
        simp only [gimballaw1_FxDivs.j1,if_true,h0,hl]
        generalize rd_T24 l i=x at *
        obtain ⟨⟨a,b,c,d,e,f⟩,rfl⟩:∃ y:S24,x=y:=⟨x,rfl⟩
        have ra:=i64 hx.1
        have rb:=i64 hx.2.1
        simp only at ra rb
        simp only [fx_Div.f,may_f,Option.bind_some,divR]
        have stop:∀ p:Int × Int,Ev (fun k=>gimballaw1_FxDivs.j2 k l i a b p.1 p.2 0 1 false) true→True:=fun _ _=>trivial
        have no:Ev (fun k=>gimballaw1_FxDivs.j2 k l i a b 0 1 0 1 false) true:=by
          refine Ev.shift ?_
          simp only [gimballaw1_FxDivs.j2,Bool.false_eq_true,if_false,is_f,Option.bind_some,w1]
          exact next
        cases ha:wd a with
        | false =>
          simp only [Bool.false_and,Bool.false_eq_true,if_false]
          exact no
        | true =>
          cases hb:wd b with
          | false =>
            simp only [Bool.and_false,Bool.false_eq_true,if_false,if_true]
            exact no
          | true =>
            simp only [Bool.and_self,if_true]
            refine Ev.shift ?_
            simp only [gimballaw1_FxDivs.j2,if_true,gimbalref1_Div.f,if_pos (And.intro ra rb),Option.bind_some,is_f,decide_true,beq_self_eq_true,Bool.and_self,if_true,w1]
            exact next
      · rw [decide_eq_false hc]
        exact fin i
    · simp only [hl,if_false]
      exact fin i
theorem pure:Pure:=by
  intro l h
  exact Ev.rounds (l0_ev l h.2 h.1 l.length 0 (by omega) (by omega) (by omega))
end Go.Proofs.Ythokdnheijnmmaa.fxDivs
end
section
namespace Go.Proofs.Ythokdnheijnmmaa.fxDivs
open Go.ChangeShapes Go.WideShapes Go.ChangeAt Go.RowKit Go.Proofs.YthokdnheijnmmaaW.Opens Go.Proofs.YthokdnheijnmmaaW.PrintWords Go.Proofs.Ythokdnheijnmmaa.QFxE
set_option linter.unusedVariables false
theorem own:ownKnob Try.prog.godebug=none:=by kernel_rfl
theorem laidOut:laidOutB Try.prog=true:=by kernel_rfl
theorem opens24:Opens Try.prog 24 k24 G24 :=
  opens_struct (l:=[(2,0),(2,1),(2,2),(2,3),(2,4),(2,5)]) Try.underlying24 (by kernel_rfl) rfl (opensF_cons (o:=0) (o':=1) (opens_int Try.underlying2 (by kernel_rfl)) rfl (opensF_cons (o:=1) (o':=2) (opens_int Try.underlying2 (by kernel_rfl)) rfl (opensF_cons (o:=2) (o':=3) (opens_int Try.underlying2 (by kernel_rfl)) rfl (opensF_cons (o:=3) (o':=4) (opens_int Try.underlying2 (by kernel_rfl)) rfl (opensF_cons (o:=4) (o':=5) (opens_int Try.underlying2 (by kernel_rfl)) rfl (opensF_one (o:=5) (opens_int Try.underlying2 (by kernel_rfl)))))))) (fun x:S24=>(x.f0,x.f1,x.f2,x.f3,x.f4,x.f5)) (fun p=>⟨p.1,p.2.1,p.2.2.1,p.2.2.2.1,p.2.2.2.2.1,p.2.2.2.2.2⟩) (fun _=>rfl)
set_option maxRecDepth 100000 in
theorem lifted (os:Os) (started:os.Started) (H:Type) (enc:TypeId × Value→H) :
    ReturnsInHanded {} Try.checked os 7 .any (Rows.fxDivsSpec.pre6 enc Try.prog Try.f7 Rows.fxDivsRow.domain false) (Rows.fxDivsSpec.post enc Try.prog Try.f7 false true false false):=by
  refine returnsInHanded_of_change_sized (C:=Try.checked) own started (by kernel_rfl) Try.func7
    (ChangeSpec.witness6 (enc:=enc) (C:=Try.checked) false ⟨#[],#[.slice none 0 0],[]⟩ 8 (by kernel_rfl) (by kernel_rfl) (by kernel_rfl) (by kernel_rfl)) ?_
  intro W base args ds gs before hval0 hW hcnd hsz0 _
  have hsz:(DataW.weightsEach Try.prog (Try.f7.params.toList++Rows.fxDivsSpec.plain.varTypes Try.prog) (ds++gs)).all (·≤reachBytes)=true:=hsz0
  have hval:∀ (j:Nat) t v,Try.f7.params[j]?=some t→args[j]?=some v→Value.okWide Try.prog W .any base t v:=hval0
  have hW':=hW
  obtain ⟨p,q,hA0,hV,rfl,hfz,hnd⟩:=hW
  have hA:DataW.TrodAll enc Try.prog W 0 (fun _=>true) true Try.f7.params.toList args.toList ds p:=hA0
  rw [Try.params7] at hA hval hsz
  obtain ⟨v0,vs0,d0,ds0,p0,q0,hargs,rfl,rfl,h0,r0⟩:=trodAll_cons hA
  obtain ⟨rfl,rfl,rfl⟩:=trodAll_nil r0
  obtain rfl:args=#[v0]:=by cases args;simp_all
  obtain ⟨rfl,rfl⟩:=trodVars_none hV
  have k0:=h0
  have lt0:∀ x∈p0,x.block<W.heap.size:=by obtain ⟨m,hm⟩:=k0;exact DataW.trod_lt m _ _ _ hm
  have hv0:=hval 0 22 v0 rfl rfl
  obtain ⟨x0,hk0,hg0⟩:=opens_arg (opens_slice (B:=48) Try.underlying22 (by kernel_rfl) (by kernel_rfl) opens24) hsz (j:=0) (t:=22) rfl rfl h0
  obtain ⟨k,hp⟩:=pure x0 hg0
  obtain ⟨a0,len0,cap0,rfl⟩:=okWide_slice Try.underlying22 hv0
  obtain ⟨A1,c1,hcs,hle,hC⟩:=hk0
  have hcs:[Value.slice a0 len0 cap0]=[.slice A1 x0.length c1]:=hcs
  simp only [List.cons.injEq,Value.slice.injEq,and_true] at hcs
  obtain ⟨rfl,rfl,rfl⟩:=hcs
  clear hA0 hval0 hsz0 hsz
  refine (gimballaw1_FxDivs.calls k _ _ x0 true W hC hle hp).mono fun e W' hpost=>?_
  obtain ⟨rfl,bel⟩:=hpost
  exact ⟨_,rfl,_,_,_,[],_,[],hW',trodAll_mk1 (shut_bool Try.underlying4 _),(trodAll_cons_mk (Below.trod laidOut (by kernel_rfl) (of_decide_eq_true (by kernel_rfl)) k0 bel lt0) trodAll_mk0),rfl,bel.frame _,fun h=>by cases h⟩
theorem over:Rows.fxDivsRow.holds Try.pinned (OpenSpec.ofChange Rows.fxDivsSpec) :=
  OpenClaim.holds_of_wide 7 Try.f7 rfl rfl rfl rfl rfl rfl rfl ⟨rfl,rfl,rfl,rfl,rfl⟩ rfl rfl rfl rfl rfl (by kernel_rfl) Try.func7 (by kernel_rfl)
    (of_decide_eq_true (by kernel_rfl)) (by unfold Func.isWrapper;first|(rw [if_pos (by decide +kernel)];kernel_rfl)|(rw [if_neg (by decide +kernel)];exact ⟨rfl,rfl⟩))
    (fun os started H enc _=>lifted os started H enc)
theorem proved:Rows.FxDivsSaid:=over
end Go.Proofs.Ythokdnheijnmmaa.fxDivs
namespace Go.Proofs.Ythokdnheijnmmaa
theorem fxDivs_holds:Rows.FxDivsSaid:=fxDivs.proved
end Go.Proofs.Ythokdnheijnmmaa
end
