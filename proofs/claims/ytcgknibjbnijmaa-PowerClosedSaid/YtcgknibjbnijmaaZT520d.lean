/- The row of PowerClosed, out of its law over numbers and the printed walk: for every argument that reads as data the call returns true and leaves the argument as it was. -/
import Derived.Test.YtcgknibjbnijmaaZT520c
import Derived.Deep.Slices
import Derived.Deep.Fields
import Derived.SizedLaws
import Derived.ChangeArms
import Derived.Test.YtcgknibjbnijmaaRows
import Derived.WalkKit
import Derived.ProofKit
import Derived.OpenShut
import Derived.ShutString
import Derived.ChangeOld
import Derived.Below
import Derived.Carry
section
set_option linter.unusedVariables false
set_option linter.unusedSimpArgs false
namespace Go.Proofs.Ytcgknibjbnijmaa.PPw
open Go RowKit Ytcgknibjbnijmaa.QPw YtcgknibjbnijmaaW.PrintWords YtcgknibjbnijmaaW.PrintMore YtcgknibjbnijmaaW.Aid YtcgknibjbnijmaaW.Big YtcgknibjbnijmaaW.Sy Go.Proofs
theorem bfA {a b:Bool} (h1:a=true) (h2:b=true):(a&&b)=true:=by rw [h1,h2];rfl
section
set_option maxRecDepth 100000
set_option maxHeartbeats 8000000
theorem oneKC (L:List (List (List Int))) (i:Int) (l:List (List Int)) (hl:l.length≤100) (ha:l.all rOk=true) (k:Int) (h0:0≤k) (h1:k<(l.length:Int)) (d a:Int) {c:Code} (hc:bodyAt Try.f9 [true,false,true,true,true,true,false,true,true,true,true,true,true,true,true,false,true,true,true,true,false,true,true,false,true,true,true,true,false,true]=some c) (w0:World):SpecC Try.prog Try.f9.ntmps (fun _=>False) w0 c (fun s=>leG s [(0,rowsA L),(3,tI i),(4,.sc (.op (.flat 70 4 l))),(5,.ptr 5 0),(11,tI d),(12,tI (lstep d a (l.getD k.toNat []))),(13,tI k)]∧leB s [(5,63,c5 (wR l).1)]) (fun _ _=>False) (fun s=>resCR (cxOf Try.prog [eq5] [cNum,cMaySubs,cWants,cNeeds,cIn,cRising,cWakes] [] []) Try.f9.results.toList s=some (.tv (tB true))) (stB [(0,rowsA L),(3,tI i),(4,.sc (.op (.flat 70 4 l))),(5,.ptr 5 0),(11,tI d),(12,tI a),(13,tI k)] [(5,63,c5 (wR l).1)]):=by
  refine spec_of hc rfl ?_
  have hr:=at_ok ha h0 h1
  have hs:=rOk_sensor hr
  have hn:=ndR_len ((l.getD k.toNat []).getD 1 0)
  refine spec_vc (cxOk Try.prog [eq5] [cNum,cMaySubs,cWants,cNeeds,cIn,cRising,cWakes] [] []) follows 60 ?_
  repeat' first
    | exact trivial
    | (refine And.intro (show regChk _ _ _ _ _=true from by kernel_rfl) (And.intro ?_ ?_))
    | (refine And.intro (fun _=>?_) (fun h=>absurd (show true=false from h) (by decide)))
    | (refine And.intro (fun h=>absurd (show false=true from h) (by decide)) (fun _=>?_))
    | (refine And.intro (fun _=>?_) (fun h=>absurd (show false=true from h) (by decide)))
    | (refine And.intro (fun h=>absurd (show true=false from h) (by decide)) (fun _=>?_))
    | (refine And.intro (fun hb=>?_) (fun hb'=>?_))
    | refine And.intro ?_ ?_
    | intro _
  all_goals first
    | (show (0:Int)≤k;exact h0)
    | (show k<(l.length:Int);exact h1)
    | (show ∃ s,_;exact ⟨_,hs,ndR_nd hs⟩)
    | (show (_:List Int).length≤1000000;show (ndR ((l.getD k.toNat []).getD 1 0)).1.length≤1000000;omega)
    | (show some (TV.sc (A0.v _))=some (tI (lstep d a (l.getD k.toNat [])));first|exact congrArg (fun z=>some (TV.sc (.v (.int .i64 z)))) (ls_t hr (by assumption)).symm|exact congrArg (fun z=>some (TV.sc (.v (.int .i64 z)))) (ls_f hr (by assumption)).symm)
    | (show (_:Option CR)=some (CR.tv (tB true));first|rfl|exact (clC hs (by assumption)).elim)
    | exact bfF (by assumption)
    | exact bfE (by assumption)
    | exact bfA (by assumption) (bfF (by assumption))
    | exact bfA (by assumption) (bfE (by assumption))
    | (show (_:Option TV)=_;rfl)
    | (show (_:Option A0)=_;rfl)
    | (show (_:Option TypeId)=_;rfl)
    | (show True;trivial)
    | (show (_:Option CR)=_;rfl)
    | (show (_:Nat)=(_:Nat);rfl)
    | (show (_:Int)=(_:Int);rfl)
    | (show (_:Bool)=(_:Bool);first|assumption|rfl)
    | (show _=_;rfl)
def LKC (L:List (List (List Int))) (i:Int) (l:List (List Int)) (d:Int):LI Int where
  gs:=fun k=>[(0,rowsA L),(3,tI i),(4,.sc (.op (.flat 70 4 l))),(5,.ptr 5 0),(11,tI d),(12,tI (least (l.take k.toNat) d)),(13,tI k)]
  bs:=fun k=>[(5,63,c5 (wR l).1)]
  I:=fun k=>0≤k∧k≤(l.length:Int)
  μ:=fun k=>((l.length:Int)-k).toNat
theorem loopKC (L:List (List (List Int))) (i:Int) (l:List (List Int)) (hl:l.length≤100) (ha:l.all rOk=true) (d:Int) {c:Code} (hc:bodyAt Try.f9 [true,false,true,true,true,true,false,true,true,true,true,true,true,true,true,false,true,true,true,true,false,true,true,false,true,true]=some c) (w0:World):SpecC Try.prog Try.f9.ntmps (fun _=>False) w0 c (fun _=>False) (fun id s=>id=6∧leG s [(0,rowsA L),(3,tI i),(4,.sc (.op (.flat 70 4 l))),(5,.ptr 5 0),(11,tI d),(12,tI (least l d))]∧leB s [(5,63,c5 (wR l).1)]) (fun s=>resCR (cxOf Try.prog [eq5] [cNum,cMaySubs,cWants,cNeeds,cIn,cRising,cWakes] [] []) Try.f9.results.toList s=some (.tv (tB true))) (stB [(0,rowsA L),(3,tI i),(4,.sc (.op (.flat 70 4 l))),(5,.ptr 5 0),(11,tI d),(12,tI 0),(13,tI 0)] [(5,63,c5 (wR l).1)]):=by
  refine spec_of hc rfl ?_
  refine spec_loopI (LKC L i l d) ⟨0,⟨Int.le_refl _,Int.natCast_nonneg _⟩,⟨rfl,rfl,rfl,rfl,rfl,rfl,rfl,trivial⟩,⟨rfl,⟨rfl,rfl,rfl,rfl,rfl,trivial⟩,trivial⟩⟩ (fun k hv=>⟨rfl,?_⟩)
  obtain ⟨hv0,hv1⟩:=hv
  refine spec_vch (kx:=fun s=>k<(l.length:Int)∧leG s [(0,rowsA L),(3,tI i),(4,.sc (.op (.flat 70 4 l))),(5,.ptr 5 0),(11,tI d),(12,tI (least (l.take k.toNat) d)),(13,tI k)]∧leB s [(5,63,c5 (wR l).1)]) (cxOk Try.prog [eq5] [cNum,cMaySubs,cWants,cNeeds,cIn,cRising,cWakes] [] []) follows 60 1 _ _ ?_ (fun s' hk=>?_)
  · skip
    repeat' first
      | exact trivial
      | (refine And.intro (show regChk _ _ _ _ _=true from by kernel_rfl) (And.intro ?_ ?_))
      | (refine And.intro (fun _=>?_) (fun h=>absurd (show true=false from h) (by decide)))
      | (refine And.intro (fun h=>absurd (show false=true from h) (by decide)) (fun _=>?_))
      | (refine And.intro (fun _=>?_) (fun h=>absurd (show false=true from h) (by decide)))
      | (refine And.intro (fun h=>absurd (show true=false from h) (by decide)) (fun _=>?_))
      | (refine And.intro (fun hb=>?_) (fun hb'=>?_))
      | refine And.intro ?_ ?_
      | intro _
    all_goals first
      | (show k<(l.length:Int);exact of_decide_eq_true (by assumption))
      | (show (6:Nat)=6;rfl)
      | (show some (TV.sc (A0.v _))=some (tI (least l d));exact congrArg (fun z=>some (tI (least z d))) (take_all l k (by assumption)))
      | exact bfF (by assumption)
      | exact bfE (by assumption)
      | exact bfA (by assumption) (bfF (by assumption))
      | exact bfA (by assumption) (bfE (by assumption))
      | (show (_:Option TV)=_;rfl)
      | (show (_:Option A0)=_;rfl)
      | (show (_:Option TypeId)=_;rfl)
      | (show True;trivial)
      | (show (_:Option CR)=_;rfl)
      | (show (_:Nat)=(_:Nat);rfl)
      | (show (_:Int)=(_:Int);rfl)
      | (show (_:Bool)=(_:Bool);first|assumption|rfl)
      | (show _=_;rfl)
  · obtain ⟨hlt,hg,hb⟩:=hk
    refine spec_le hg hb rfl ?_
    refine spec_seq (kx:=fun s=>leG s [(0,rowsA L),(3,tI i),(4,.sc (.op (.flat 70 4 l))),(5,.ptr 5 0),(11,tI d),(12,tI (least (l.take (k+1).toNat) d)),(13,tI k)]∧leB s [(5,63,c5 (wR l).1)]) ?_ (fun s' hk=>spec_le hk.1 hk.2 rfl ?_)
    · rw [least_step hv0 hlt]
      refine spec_block ?_
      exact spec_mono (oneKC L i l hl ha k hv0 hlt d _ rfl w0) (fun s h=>h) (fun id s h=>h.elim) (fun s h=>h)
    · refine spec_vc (cxOk Try.prog [eq5] [cNum,cMaySubs,cWants,cNeeds,cIn,cRising,cWakes] [] []) follows 60 ?_
      repeat' first
        | exact trivial
        | (refine And.intro (show regChk _ _ _ _ _=true from by kernel_rfl) (And.intro ?_ ?_))
        | (refine And.intro (fun _=>?_) (fun h=>absurd (show true=false from h) (by decide)))
        | (refine And.intro (fun h=>absurd (show false=true from h) (by decide)) (fun _=>?_))
        | (refine And.intro (fun _=>?_) (fun h=>absurd (show false=true from h) (by decide)))
        | (refine And.intro (fun h=>absurd (show true=false from h) (by decide)) (fun _=>?_))
        | (refine And.intro (fun hb=>?_) (fun hb'=>?_))
        | refine And.intro ?_ ?_
        | intro _
      all_goals first
        | (show ∃ v',_;exact ⟨IntKind.i64.wrap (k+1),by rw [wid (by omega) (by omega)];show ((l.length:Int)-(k+1)).toNat<((l.length:Int)-k).toNat;omega,by rw [wid (by omega) (by omega)];exact ⟨by omega,by omega⟩,⟨rfl,rfl,rfl,rfl,rfl,congrArg (fun z:Int=>some (tI (least (l.take z.toNat) d))) (wid (n:=k+1) (by omega) (by omega)).symm,rfl,trivial⟩,⟨rfl,⟨rfl,rfl,rfl,rfl,rfl,trivial⟩,trivial⟩⟩)
        | exact bfF (by assumption)
        | exact bfE (by assumption)
        | exact bfA (by assumption) (bfF (by assumption))
        | exact bfA (by assumption) (bfE (by assumption))
        | (show (_:Option TV)=_;rfl)
        | (show (_:Option A0)=_;rfl)
        | (show (_:Option TypeId)=_;rfl)
        | (show True;trivial)
        | (show (_:Option CR)=_;rfl)
        | (show (_:Nat)=(_:Nat);rfl)
        | (show (_:Int)=(_:Int);rfl)
        | (show (_:Bool)=(_:Bool);first|assumption|rfl)
        | (show _=_;rfl)
theorem oneDC (L:List (List (List Int))) (i:Int) (l:List (List Int)) (hl:l.length≤100) (ha:l.all rOk=true) (d:Int) (hd:1≤d∧d≤5) {c:Code} (hc:bodyAt Try.f9 [true,false,true,true,true,true,false,true,true,true,true,true,true,true,true,false,true,true,true,true,false,true]=some c) (w0:World):SpecC Try.prog Try.f9.ntmps (fun _=>False) w0 c (fun s=>leG s [(0,rowsA L),(3,tI i),(4,.sc (.op (.flat 70 4 l))),(5,.ptr 5 0),(11,tI d)]∧leB s [(5,63,c5 (wR l).1)]) (fun _ _=>False) (fun s=>resCR (cxOf Try.prog [eq5] [cNum,cMaySubs,cWants,cNeeds,cIn,cRising,cWakes] [] []) Try.f9.results.toList s=some (.tv (tB true))) (stB [(0,rowsA L),(3,tI i),(4,.sc (.op (.flat 70 4 l))),(5,.ptr 5 0),(11,tI d)] [(5,63,c5 (wR l).1)]):=by
  refine spec_of hc rfl ?_
  refine spec_vch (kx:=fun s=>leG s [(0,rowsA L),(3,tI i),(4,.sc (.op (.flat 70 4 l))),(5,.ptr 5 0),(11,tI d),(12,tI 0)]∧leB s [(5,63,c5 (wR l).1)]) (cxOk Try.prog [eq5] [cNum,cMaySubs,cWants,cNeeds,cIn,cRising,cWakes] [] []) follows 60 1 _ _ ?_ (fun s' hk=>spec_le hk.1 hk.2 rfl ?_)
  · skip
    repeat' first
      | exact trivial
      | (refine And.intro (show regChk _ _ _ _ _=true from by kernel_rfl) (And.intro ?_ ?_))
      | (refine And.intro (fun _=>?_) (fun h=>absurd (show true=false from h) (by decide)))
      | (refine And.intro (fun h=>absurd (show false=true from h) (by decide)) (fun _=>?_))
      | (refine And.intro (fun _=>?_) (fun h=>absurd (show false=true from h) (by decide)))
      | (refine And.intro (fun h=>absurd (show true=false from h) (by decide)) (fun _=>?_))
      | (refine And.intro (fun hb=>?_) (fun hb'=>?_))
      | refine And.intro ?_ ?_
      | intro _
    all_goals first
      | exact bfF (by assumption)
      | exact bfE (by assumption)
      | exact bfA (by assumption) (bfF (by assumption))
      | exact bfA (by assumption) (bfE (by assumption))
      | (show (_:Option TV)=_;rfl)
      | (show (_:Option A0)=_;rfl)
      | (show (_:Option TypeId)=_;rfl)
      | (show True;trivial)
      | (show (_:Option CR)=_;rfl)
      | (show (_:Nat)=(_:Nat);rfl)
      | (show (_:Int)=(_:Int);rfl)
      | (show (_:Bool)=(_:Bool);first|assumption|rfl)
      | (show _=_;rfl)
  refine spec_seq (kx:=fun s=>leG s [(0,rowsA L),(3,tI i),(4,.sc (.op (.flat 70 4 l))),(5,.ptr 5 0),(11,tI d),(12,tI (least l d))]∧leB s [(5,63,c5 (wR l).1)]) ?_ (fun s' hk=>spec_le hk.1 hk.2 rfl ?_)
  · refine spec_vch (kx:=fun s=>leG s [(0,rowsA L),(3,tI i),(4,.sc (.op (.flat 70 4 l))),(5,.ptr 5 0),(11,tI d),(12,tI 0),(13,tI 0)]∧leB s [(5,63,c5 (wR l).1)]) (cxOk Try.prog [eq5] [cNum,cMaySubs,cWants,cNeeds,cIn,cRising,cWakes] [] []) follows 60 1 _ _ ?_ (fun s' hk=>spec_le hk.1 hk.2 rfl ?_)
    · skip
      repeat' first
        | exact trivial
        | (refine And.intro (show regChk _ _ _ _ _=true from by kernel_rfl) (And.intro ?_ ?_))
        | (refine And.intro (fun _=>?_) (fun h=>absurd (show true=false from h) (by decide)))
        | (refine And.intro (fun h=>absurd (show false=true from h) (by decide)) (fun _=>?_))
        | (refine And.intro (fun _=>?_) (fun h=>absurd (show false=true from h) (by decide)))
        | (refine And.intro (fun h=>absurd (show true=false from h) (by decide)) (fun _=>?_))
        | (refine And.intro (fun hb=>?_) (fun hb'=>?_))
        | refine And.intro ?_ ?_
        | intro _
      all_goals first
        | exact bfF (by assumption)
        | exact bfE (by assumption)
        | exact bfA (by assumption) (bfF (by assumption))
        | exact bfA (by assumption) (bfE (by assumption))
        | (show (_:Option TV)=_;rfl)
        | (show (_:Option A0)=_;rfl)
        | (show (_:Option TypeId)=_;rfl)
        | (show True;trivial)
        | (show (_:Option CR)=_;rfl)
        | (show (_:Nat)=(_:Nat);rfl)
        | (show (_:Int)=(_:Int);rfl)
        | (show (_:Bool)=(_:Bool);first|assumption|rfl)
        | (show _=_;rfl)
    · refine spec_block ?_
      exact spec_mono (loopKC L i l hl ha d rfl w0) (fun s h=>h.elim) (fun id s h=>by obtain ⟨rfl,h⟩:=h;rw [if_pos rfl];exact h) (fun s h=>h)
  · have hdd:d=1∨d=2∨d=3∨d=4∨d=5:=by omega
    rcases hdd with rfl|rfl|rfl|rfl|rfl
    · refine spec_vc (cxOk Try.prog [eq5] [cNum,cMaySubs,cWants,cNeeds,cIn,cRising,cWakes] [] []) follows 60 ?_
      repeat' first
        | exact trivial
        | (refine And.intro (show regChk _ _ _ _ _=true from by kernel_rfl) (And.intro ?_ ?_))
        | (refine And.intro (fun _=>?_) (fun h=>absurd (show true=false from h) (by decide)))
        | (refine And.intro (fun h=>absurd (show false=true from h) (by decide)) (fun _=>?_))
        | (refine And.intro (fun _=>?_) (fun h=>absurd (show false=true from h) (by decide)))
        | (refine And.intro (fun h=>absurd (show true=false from h) (by decide)) (fun _=>?_))
        | (refine And.intro (fun hb=>?_) (fun hb'=>?_))
        | refine And.intro ?_ ?_
        | intro _
      all_goals first
        | (show (_:Option CR)=some (CR.tv (tB true));first|rfl|exact (clD (d:=1) ha (by decide) (by decide) rfl (by assumption)).elim)
        | (show (0:Int)≤_;decide)
        | (show (_:Int)<_;decide)
        | exact bfF (by assumption)
        | exact bfE (by assumption)
        | exact bfA (by assumption) (bfF (by assumption))
        | exact bfA (by assumption) (bfE (by assumption))
        | (show (_:Option TV)=_;rfl)
        | (show (_:Option A0)=_;rfl)
        | (show (_:Option TypeId)=_;rfl)
        | (show True;trivial)
        | (show (_:Option CR)=_;rfl)
        | (show (_:Nat)=(_:Nat);rfl)
        | (show (_:Int)=(_:Int);rfl)
        | (show (_:Bool)=(_:Bool);first|assumption|rfl)
        | (show _=_;rfl)
    · refine spec_vc (cxOk Try.prog [eq5] [cNum,cMaySubs,cWants,cNeeds,cIn,cRising,cWakes] [] []) follows 60 ?_
      repeat' first
        | exact trivial
        | (refine And.intro (show regChk _ _ _ _ _=true from by kernel_rfl) (And.intro ?_ ?_))
        | (refine And.intro (fun _=>?_) (fun h=>absurd (show true=false from h) (by decide)))
        | (refine And.intro (fun h=>absurd (show false=true from h) (by decide)) (fun _=>?_))
        | (refine And.intro (fun _=>?_) (fun h=>absurd (show false=true from h) (by decide)))
        | (refine And.intro (fun h=>absurd (show true=false from h) (by decide)) (fun _=>?_))
        | (refine And.intro (fun hb=>?_) (fun hb'=>?_))
        | refine And.intro ?_ ?_
        | intro _
      all_goals first
        | (show (_:Option CR)=some (CR.tv (tB true));first|rfl|exact (clD (d:=2) ha (by decide) (by decide) rfl (by assumption)).elim)
        | (show (0:Int)≤_;decide)
        | (show (_:Int)<_;decide)
        | exact bfF (by assumption)
        | exact bfE (by assumption)
        | exact bfA (by assumption) (bfF (by assumption))
        | exact bfA (by assumption) (bfE (by assumption))
        | (show (_:Option TV)=_;rfl)
        | (show (_:Option A0)=_;rfl)
        | (show (_:Option TypeId)=_;rfl)
        | (show True;trivial)
        | (show (_:Option CR)=_;rfl)
        | (show (_:Nat)=(_:Nat);rfl)
        | (show (_:Int)=(_:Int);rfl)
        | (show (_:Bool)=(_:Bool);first|assumption|rfl)
        | (show _=_;rfl)
    · refine spec_vc (cxOk Try.prog [eq5] [cNum,cMaySubs,cWants,cNeeds,cIn,cRising,cWakes] [] []) follows 60 ?_
      repeat' first
        | exact trivial
        | (refine And.intro (show regChk _ _ _ _ _=true from by kernel_rfl) (And.intro ?_ ?_))
        | (refine And.intro (fun _=>?_) (fun h=>absurd (show true=false from h) (by decide)))
        | (refine And.intro (fun h=>absurd (show false=true from h) (by decide)) (fun _=>?_))
        | (refine And.intro (fun _=>?_) (fun h=>absurd (show false=true from h) (by decide)))
        | (refine And.intro (fun h=>absurd (show true=false from h) (by decide)) (fun _=>?_))
        | (refine And.intro (fun hb=>?_) (fun hb'=>?_))
        | refine And.intro ?_ ?_
        | intro _
      all_goals first
        | (show (_:Option CR)=some (CR.tv (tB true));first|rfl|exact (clD (d:=3) ha (by decide) (by decide) rfl (by assumption)).elim)
        | (show (0:Int)≤_;decide)
        | (show (_:Int)<_;decide)
        | exact bfF (by assumption)
        | exact bfE (by assumption)
        | exact bfA (by assumption) (bfF (by assumption))
        | exact bfA (by assumption) (bfE (by assumption))
        | (show (_:Option TV)=_;rfl)
        | (show (_:Option A0)=_;rfl)
        | (show (_:Option TypeId)=_;rfl)
        | (show True;trivial)
        | (show (_:Option CR)=_;rfl)
        | (show (_:Nat)=(_:Nat);rfl)
        | (show (_:Int)=(_:Int);rfl)
        | (show (_:Bool)=(_:Bool);first|assumption|rfl)
        | (show _=_;rfl)
    · refine spec_vc (cxOk Try.prog [eq5] [cNum,cMaySubs,cWants,cNeeds,cIn,cRising,cWakes] [] []) follows 60 ?_
      repeat' first
        | exact trivial
        | (refine And.intro (show regChk _ _ _ _ _=true from by kernel_rfl) (And.intro ?_ ?_))
        | (refine And.intro (fun _=>?_) (fun h=>absurd (show true=false from h) (by decide)))
        | (refine And.intro (fun h=>absurd (show false=true from h) (by decide)) (fun _=>?_))
        | (refine And.intro (fun _=>?_) (fun h=>absurd (show false=true from h) (by decide)))
        | (refine And.intro (fun h=>absurd (show true=false from h) (by decide)) (fun _=>?_))
        | (refine And.intro (fun hb=>?_) (fun hb'=>?_))
        | refine And.intro ?_ ?_
        | intro _
      all_goals first
        | (show (_:Option CR)=some (CR.tv (tB true));first|rfl|exact (clD (d:=4) ha (by decide) (by decide) rfl (by assumption)).elim)
        | (show (0:Int)≤_;decide)
        | (show (_:Int)<_;decide)
        | exact bfF (by assumption)
        | exact bfE (by assumption)
        | exact bfA (by assumption) (bfF (by assumption))
        | exact bfA (by assumption) (bfE (by assumption))
        | (show (_:Option TV)=_;rfl)
        | (show (_:Option A0)=_;rfl)
        | (show (_:Option TypeId)=_;rfl)
        | (show True;trivial)
        | (show (_:Option CR)=_;rfl)
        | (show (_:Nat)=(_:Nat);rfl)
        | (show (_:Int)=(_:Int);rfl)
        | (show (_:Bool)=(_:Bool);first|assumption|rfl)
        | (show _=_;rfl)
    · refine spec_vc (cxOk Try.prog [eq5] [cNum,cMaySubs,cWants,cNeeds,cIn,cRising,cWakes] [] []) follows 60 ?_
      repeat' first
        | exact trivial
        | (refine And.intro (show regChk _ _ _ _ _=true from by kernel_rfl) (And.intro ?_ ?_))
        | (refine And.intro (fun _=>?_) (fun h=>absurd (show true=false from h) (by decide)))
        | (refine And.intro (fun h=>absurd (show false=true from h) (by decide)) (fun _=>?_))
        | (refine And.intro (fun _=>?_) (fun h=>absurd (show false=true from h) (by decide)))
        | (refine And.intro (fun h=>absurd (show true=false from h) (by decide)) (fun _=>?_))
        | (refine And.intro (fun hb=>?_) (fun hb'=>?_))
        | refine And.intro ?_ ?_
        | intro _
      all_goals first
        | (show (_:Option CR)=some (CR.tv (tB true));first|rfl|exact (clD (d:=5) ha (by decide) (by decide) rfl (by assumption)).elim)
        | (show (0:Int)≤_;decide)
        | (show (_:Int)<_;decide)
        | exact bfF (by assumption)
        | exact bfE (by assumption)
        | exact bfA (by assumption) (bfF (by assumption))
        | exact bfA (by assumption) (bfE (by assumption))
        | (show (_:Option TV)=_;rfl)
        | (show (_:Option A0)=_;rfl)
        | (show (_:Option TypeId)=_;rfl)
        | (show True;trivial)
        | (show (_:Option CR)=_;rfl)
        | (show (_:Nat)=(_:Nat);rfl)
        | (show (_:Int)=(_:Int);rfl)
        | (show (_:Bool)=(_:Bool);first|assumption|rfl)
        | (show _=_;rfl)
def LDC (L:List (List (List Int))) (i:Int) (l:List (List Int)):LI Int where
  gs:=fun d=>[(0,rowsA L),(3,tI i),(4,.sc (.op (.flat 70 4 l))),(5,.ptr 5 0),(11,tI d)]
  bs:=fun d=>[(5,63,c5 (wR l).1)]
  I:=fun d=>1≤d∧d≤6
  μ:=fun d=>(7-d).toNat
theorem loopDC (L:List (List (List Int))) (i:Int) (l:List (List Int)) (hl:l.length≤100) (ha:l.all rOk=true) {c:Code} (hc:bodyAt Try.f9 [true,false,true,true,true,true,false,true,true,true,true,true,true,true,true,false,true,true]=some c) (w0:World):SpecC Try.prog Try.f9.ntmps (fun _=>False) w0 c (fun _=>False) (fun id s=>id=4∧leG s [(0,rowsA L),(3,tI i),(4,.sc (.op (.flat 70 4 l))),(5,.ptr 5 0)]∧leB s [(5,63,c5 (wR l).1)]) (fun s=>resCR (cxOf Try.prog [eq5] [cNum,cMaySubs,cWants,cNeeds,cIn,cRising,cWakes] [] []) Try.f9.results.toList s=some (.tv (tB true))) (stB [(0,rowsA L),(3,tI i),(4,.sc (.op (.flat 70 4 l))),(5,.ptr 5 0),(11,tI 1)] [(5,63,c5 (wR l).1)]):=by
  refine spec_of hc rfl ?_
  refine spec_loopI (LDC L i l) ⟨1,⟨Int.le_refl _,by decide⟩,⟨rfl,rfl,rfl,rfl,rfl,trivial⟩,⟨rfl,⟨rfl,rfl,rfl,rfl,rfl,trivial⟩,trivial⟩⟩ (fun d hv=>⟨rfl,?_⟩)
  obtain ⟨hv0,hv1⟩:=hv
  refine spec_vch (kx:=fun s=>d≤5∧leG s [(0,rowsA L),(3,tI i),(4,.sc (.op (.flat 70 4 l))),(5,.ptr 5 0),(11,tI d)]∧leB s [(5,63,c5 (wR l).1)]) (cxOk Try.prog [eq5] [cNum,cMaySubs,cWants,cNeeds,cIn,cRising,cWakes] [] []) follows 60 1 _ _ ?_ (fun s' hk=>?_)
  · skip
    repeat' first
      | exact trivial
      | (refine And.intro (show regChk _ _ _ _ _=true from by kernel_rfl) (And.intro ?_ ?_))
      | (refine And.intro (fun _=>?_) (fun h=>absurd (show true=false from h) (by decide)))
      | (refine And.intro (fun h=>absurd (show false=true from h) (by decide)) (fun _=>?_))
      | (refine And.intro (fun _=>?_) (fun h=>absurd (show false=true from h) (by decide)))
      | (refine And.intro (fun h=>absurd (show true=false from h) (by decide)) (fun _=>?_))
      | (refine And.intro (fun hb=>?_) (fun hb'=>?_))
      | refine And.intro ?_ ?_
      | intro _
    all_goals first
      | (show d≤5;exact of_decide_eq_true (by assumption))
      | (show (4:Nat)=4;rfl)
      | exact bfF (by assumption)
      | exact bfE (by assumption)
      | exact bfA (by assumption) (bfF (by assumption))
      | exact bfA (by assumption) (bfE (by assumption))
      | (show (_:Option TV)=_;rfl)
      | (show (_:Option A0)=_;rfl)
      | (show (_:Option TypeId)=_;rfl)
      | (show True;trivial)
      | (show (_:Option CR)=_;rfl)
      | (show (_:Nat)=(_:Nat);rfl)
      | (show (_:Int)=(_:Int);rfl)
      | (show (_:Bool)=(_:Bool);first|assumption|rfl)
      | (show _=_;rfl)
  · obtain ⟨hlt,hg,hb⟩:=hk
    refine spec_le hg hb rfl ?_
    refine spec_seq (kx:=fun s=>leG s [(0,rowsA L),(3,tI i),(4,.sc (.op (.flat 70 4 l))),(5,.ptr 5 0),(11,tI d)]∧leB s [(5,63,c5 (wR l).1)]) ?_ (fun s' hk=>spec_le hk.1 hk.2 rfl ?_)
    · refine spec_block ?_
      exact spec_mono (oneDC L i l hl ha d ⟨hv0,hlt⟩ rfl w0) (fun s h=>h) (fun id s h=>h.elim) (fun s h=>h)
    · refine spec_vc (cxOk Try.prog [eq5] [cNum,cMaySubs,cWants,cNeeds,cIn,cRising,cWakes] [] []) follows 60 ?_
      repeat' first
        | exact trivial
        | (refine And.intro (show regChk _ _ _ _ _=true from by kernel_rfl) (And.intro ?_ ?_))
        | (refine And.intro (fun _=>?_) (fun h=>absurd (show true=false from h) (by decide)))
        | (refine And.intro (fun h=>absurd (show false=true from h) (by decide)) (fun _=>?_))
        | (refine And.intro (fun _=>?_) (fun h=>absurd (show false=true from h) (by decide)))
        | (refine And.intro (fun h=>absurd (show true=false from h) (by decide)) (fun _=>?_))
        | (refine And.intro (fun hb=>?_) (fun hb'=>?_))
        | refine And.intro ?_ ?_
        | intro _
      all_goals first
        | (show ∃ v',_;exact ⟨IntKind.i64.wrap (d+1),by rw [wid (by omega) (by omega)];show (7-(d+1)).toNat<(7-d).toNat;omega,by rw [wid (by omega) (by omega)];exact ⟨by omega,by omega⟩,⟨rfl,rfl,rfl,rfl,rfl,trivial⟩,⟨rfl,⟨rfl,rfl,rfl,rfl,rfl,trivial⟩,trivial⟩⟩)
        | exact bfF (by assumption)
        | exact bfE (by assumption)
        | exact bfA (by assumption) (bfF (by assumption))
        | exact bfA (by assumption) (bfE (by assumption))
        | (show (_:Option TV)=_;rfl)
        | (show (_:Option A0)=_;rfl)
        | (show (_:Option TypeId)=_;rfl)
        | (show True;trivial)
        | (show (_:Option CR)=_;rfl)
        | (show (_:Nat)=(_:Nat);rfl)
        | (show (_:Int)=(_:Int);rfl)
        | (show (_:Bool)=(_:Bool);first|assumption|rfl)
        | (show _=_;rfl)
theorem oneLC (L:List (List (List Int))) (i:Int) (l:List (List Int)) (hl:l.length≤100) (ha:l.all rOk=true) (d:Int) (hd:0≤d∧d≤4) {c:Code} (hc:bodyAt Try.f9 [true,false,true,true,true,true,false,true,true,true,true,true,true,true,true,true,true,false,true,true,true,true,true,false,true]=some c) (w0:World):SpecC Try.prog Try.f9.ntmps (fun _=>False) w0 c (fun s=>leG s [(0,rowsA L),(3,tI i),(4,.sc (.op (.flat 70 4 l))),(5,.ptr 5 0),(16,.ptr 16 0),(17,tI (wR (l.drop 1)).2),(18,tI d)]∧leB s [(5,63,c5 (wR l).1),(16,63,c5 (wR (l.drop 1)).1)]) (fun _ _=>False) (fun s=>resCR (cxOf Try.prog [eq5] [cNum,cMaySubs,cWants,cNeeds,cIn,cRising,cWakes] [] []) Try.f9.results.toList s=some (.tv (tB true))) (stB [(0,rowsA L),(3,tI i),(4,.sc (.op (.flat 70 4 l))),(5,.ptr 5 0),(16,.ptr 16 0),(17,tI (wR (l.drop 1)).2),(18,tI d)] [(5,63,c5 (wR l).1),(16,63,c5 (wR (l.drop 1)).1)]):=by
  refine spec_of hc rfl ?_
  have he:(wR (l.drop 1)).2=0:=by rw [wR_ok (by rw [List.all_eq_true] at ha ⊢;exact fun x hx=>ha x (List.mem_of_mem_drop hx))]
  have hdd:d=0∨d=1∨d=2∨d=3∨d=4:=by omega
  rcases hdd with rfl|rfl|rfl|rfl|rfl
  · have H:0<(wR (l.drop 1)).1.1→0<(wR l).1.1∧(wR l).1.1≤(wR (l.drop 1)).1.1:=less_g5 (e:=1) ha (by decide) (by decide)
    refine spec_vc (cxOk Try.prog [eq5] [cNum,cMaySubs,cWants,cNeeds,cIn,cRising,cWakes] [] []) follows 60 ?_
    repeat' first
      | exact trivial
      | (refine And.intro (show regChk _ _ _ _ _=true from by kernel_rfl) (And.intro ?_ ?_))
      | (refine And.intro (fun _=>?_) (fun h=>absurd (show true=false from h) (by decide)))
      | (refine And.intro (fun h=>absurd (show false=true from h) (by decide)) (fun _=>?_))
      | (refine And.intro (fun _=>?_) (fun h=>absurd (show false=true from h) (by decide)))
      | (refine And.intro (fun h=>absurd (show true=false from h) (by decide)) (fun _=>?_))
      | (refine And.intro (fun hb=>?_) (fun hb'=>?_))
      | refine And.intro ?_ ?_
      | intro _
    all_goals first
      | (show (_:Option CR)=some (CR.tv (tB true));first|exact (clE he H (by assumption)).elim|rfl)
      | (show (0:Int)≤_;decide)
      | (show (_:Int)<_;decide)
      | exact bfF (by assumption)
      | exact bfE (by assumption)
      | exact bfA (by assumption) (bfF (by assumption))
      | exact bfA (by assumption) (bfE (by assumption))
      | (show (_:Option TV)=_;rfl)
      | (show (_:Option A0)=_;rfl)
      | (show (_:Option TypeId)=_;rfl)
      | (show True;trivial)
      | (show (_:Option CR)=_;rfl)
      | (show (_:Nat)=(_:Nat);rfl)
      | (show (_:Int)=(_:Int);rfl)
      | (show (_:Bool)=(_:Bool);first|assumption|rfl)
      | (show _=_;rfl)
  · have H:0<(wR (l.drop 1)).1.2.1→0<(wR l).1.2.1∧(wR l).1.2.1≤(wR (l.drop 1)).1.2.1:=less_g5 (e:=2) ha (by decide) (by decide)
    refine spec_vc (cxOk Try.prog [eq5] [cNum,cMaySubs,cWants,cNeeds,cIn,cRising,cWakes] [] []) follows 60 ?_
    repeat' first
      | exact trivial
      | (refine And.intro (show regChk _ _ _ _ _=true from by kernel_rfl) (And.intro ?_ ?_))
      | (refine And.intro (fun _=>?_) (fun h=>absurd (show true=false from h) (by decide)))
      | (refine And.intro (fun h=>absurd (show false=true from h) (by decide)) (fun _=>?_))
      | (refine And.intro (fun _=>?_) (fun h=>absurd (show false=true from h) (by decide)))
      | (refine And.intro (fun h=>absurd (show true=false from h) (by decide)) (fun _=>?_))
      | (refine And.intro (fun hb=>?_) (fun hb'=>?_))
      | refine And.intro ?_ ?_
      | intro _
    all_goals first
      | (show (_:Option CR)=some (CR.tv (tB true));first|exact (clE he H (by assumption)).elim|rfl)
      | (show (0:Int)≤_;decide)
      | (show (_:Int)<_;decide)
      | exact bfF (by assumption)
      | exact bfE (by assumption)
      | exact bfA (by assumption) (bfF (by assumption))
      | exact bfA (by assumption) (bfE (by assumption))
      | (show (_:Option TV)=_;rfl)
      | (show (_:Option A0)=_;rfl)
      | (show (_:Option TypeId)=_;rfl)
      | (show True;trivial)
      | (show (_:Option CR)=_;rfl)
      | (show (_:Nat)=(_:Nat);rfl)
      | (show (_:Int)=(_:Int);rfl)
      | (show (_:Bool)=(_:Bool);first|assumption|rfl)
      | (show _=_;rfl)
  · have H:0<(wR (l.drop 1)).1.2.2.1→0<(wR l).1.2.2.1∧(wR l).1.2.2.1≤(wR (l.drop 1)).1.2.2.1:=less_g5 (e:=3) ha (by decide) (by decide)
    refine spec_vc (cxOk Try.prog [eq5] [cNum,cMaySubs,cWants,cNeeds,cIn,cRising,cWakes] [] []) follows 60 ?_
    repeat' first
      | exact trivial
      | (refine And.intro (show regChk _ _ _ _ _=true from by kernel_rfl) (And.intro ?_ ?_))
      | (refine And.intro (fun _=>?_) (fun h=>absurd (show true=false from h) (by decide)))
      | (refine And.intro (fun h=>absurd (show false=true from h) (by decide)) (fun _=>?_))
      | (refine And.intro (fun _=>?_) (fun h=>absurd (show false=true from h) (by decide)))
      | (refine And.intro (fun h=>absurd (show true=false from h) (by decide)) (fun _=>?_))
      | (refine And.intro (fun hb=>?_) (fun hb'=>?_))
      | refine And.intro ?_ ?_
      | intro _
    all_goals first
      | (show (_:Option CR)=some (CR.tv (tB true));first|exact (clE he H (by assumption)).elim|rfl)
      | (show (0:Int)≤_;decide)
      | (show (_:Int)<_;decide)
      | exact bfF (by assumption)
      | exact bfE (by assumption)
      | exact bfA (by assumption) (bfF (by assumption))
      | exact bfA (by assumption) (bfE (by assumption))
      | (show (_:Option TV)=_;rfl)
      | (show (_:Option A0)=_;rfl)
      | (show (_:Option TypeId)=_;rfl)
      | (show True;trivial)
      | (show (_:Option CR)=_;rfl)
      | (show (_:Nat)=(_:Nat);rfl)
      | (show (_:Int)=(_:Int);rfl)
      | (show (_:Bool)=(_:Bool);first|assumption|rfl)
      | (show _=_;rfl)
  · have H:0<(wR (l.drop 1)).1.2.2.2.1→0<(wR l).1.2.2.2.1∧(wR l).1.2.2.2.1≤(wR (l.drop 1)).1.2.2.2.1:=less_g5 (e:=4) ha (by decide) (by decide)
    refine spec_vc (cxOk Try.prog [eq5] [cNum,cMaySubs,cWants,cNeeds,cIn,cRising,cWakes] [] []) follows 60 ?_
    repeat' first
      | exact trivial
      | (refine And.intro (show regChk _ _ _ _ _=true from by kernel_rfl) (And.intro ?_ ?_))
      | (refine And.intro (fun _=>?_) (fun h=>absurd (show true=false from h) (by decide)))
      | (refine And.intro (fun h=>absurd (show false=true from h) (by decide)) (fun _=>?_))
      | (refine And.intro (fun _=>?_) (fun h=>absurd (show false=true from h) (by decide)))
      | (refine And.intro (fun h=>absurd (show true=false from h) (by decide)) (fun _=>?_))
      | (refine And.intro (fun hb=>?_) (fun hb'=>?_))
      | refine And.intro ?_ ?_
      | intro _
    all_goals first
      | (show (_:Option CR)=some (CR.tv (tB true));first|exact (clE he H (by assumption)).elim|rfl)
      | (show (0:Int)≤_;decide)
      | (show (_:Int)<_;decide)
      | exact bfF (by assumption)
      | exact bfE (by assumption)
      | exact bfA (by assumption) (bfF (by assumption))
      | exact bfA (by assumption) (bfE (by assumption))
      | (show (_:Option TV)=_;rfl)
      | (show (_:Option A0)=_;rfl)
      | (show (_:Option TypeId)=_;rfl)
      | (show True;trivial)
      | (show (_:Option CR)=_;rfl)
      | (show (_:Nat)=(_:Nat);rfl)
      | (show (_:Int)=(_:Int);rfl)
      | (show (_:Bool)=(_:Bool);first|assumption|rfl)
      | (show _=_;rfl)
  · have H:0<(wR (l.drop 1)).1.2.2.2.2→0<(wR l).1.2.2.2.2∧(wR l).1.2.2.2.2≤(wR (l.drop 1)).1.2.2.2.2:=less_g5 (e:=5) ha (by decide) (by decide)
    refine spec_vc (cxOk Try.prog [eq5] [cNum,cMaySubs,cWants,cNeeds,cIn,cRising,cWakes] [] []) follows 60 ?_
    repeat' first
      | exact trivial
      | (refine And.intro (show regChk _ _ _ _ _=true from by kernel_rfl) (And.intro ?_ ?_))
      | (refine And.intro (fun _=>?_) (fun h=>absurd (show true=false from h) (by decide)))
      | (refine And.intro (fun h=>absurd (show false=true from h) (by decide)) (fun _=>?_))
      | (refine And.intro (fun _=>?_) (fun h=>absurd (show false=true from h) (by decide)))
      | (refine And.intro (fun h=>absurd (show true=false from h) (by decide)) (fun _=>?_))
      | (refine And.intro (fun hb=>?_) (fun hb'=>?_))
      | refine And.intro ?_ ?_
      | intro _
    all_goals first
      | (show (_:Option CR)=some (CR.tv (tB true));first|exact (clE he H (by assumption)).elim|rfl)
      | (show (0:Int)≤_;decide)
      | (show (_:Int)<_;decide)
      | exact bfF (by assumption)
      | exact bfE (by assumption)
      | exact bfA (by assumption) (bfF (by assumption))
      | exact bfA (by assumption) (bfE (by assumption))
      | (show (_:Option TV)=_;rfl)
      | (show (_:Option A0)=_;rfl)
      | (show (_:Option TypeId)=_;rfl)
      | (show True;trivial)
      | (show (_:Option CR)=_;rfl)
      | (show (_:Nat)=(_:Nat);rfl)
      | (show (_:Int)=(_:Int);rfl)
      | (show (_:Bool)=(_:Bool);first|assumption|rfl)
      | (show _=_;rfl)
def LLC (L:List (List (List Int))) (i:Int) (l:List (List Int)):LI Int where
  gs:=fun d=>[(0,rowsA L),(3,tI i),(4,.sc (.op (.flat 70 4 l))),(5,.ptr 5 0),(16,.ptr 16 0),(17,tI (wR (l.drop 1)).2),(18,tI d)]
  bs:=fun d=>[(5,63,c5 (wR l).1),(16,63,c5 (wR (l.drop 1)).1)]
  I:=fun d=>0≤d∧d≤5
  μ:=fun d=>(6-d).toNat
theorem loopLC (L:List (List (List Int))) (i:Int) (l:List (List Int)) (hl:l.length≤100) (ha:l.all rOk=true) {c:Code} (hc:bodyAt Try.f9 [true,false,true,true,true,true,false,true,true,true,true,true,true,true,true,true,true,false,true,true,true]=some c) (w0:World):SpecC Try.prog Try.f9.ntmps (fun _=>False) w0 c (fun _=>False) (fun id s=>id=8∧leG s [(0,rowsA L),(3,tI i)]∧leB s []) (fun s=>resCR (cxOf Try.prog [eq5] [cNum,cMaySubs,cWants,cNeeds,cIn,cRising,cWakes] [] []) Try.f9.results.toList s=some (.tv (tB true))) (stB [(0,rowsA L),(3,tI i),(4,.sc (.op (.flat 70 4 l))),(5,.ptr 5 0),(16,.ptr 16 0),(17,tI (wR (l.drop 1)).2),(18,tI 0)] [(5,63,c5 (wR l).1),(16,63,c5 (wR (l.drop 1)).1)]):=by
  refine spec_of hc rfl ?_
  refine spec_loopI (LLC L i l) ⟨0,⟨Int.le_refl _,by decide⟩,⟨rfl,rfl,rfl,rfl,rfl,rfl,rfl,trivial⟩,⟨rfl,⟨rfl,rfl,rfl,rfl,rfl,trivial⟩,rfl,⟨rfl,rfl,rfl,rfl,rfl,trivial⟩,trivial⟩⟩ (fun d hv=>⟨rfl,?_⟩)
  obtain ⟨hv0,hv1⟩:=hv
  refine spec_vch (kx:=fun s=>d<5∧leG s [(0,rowsA L),(3,tI i),(4,.sc (.op (.flat 70 4 l))),(5,.ptr 5 0),(16,.ptr 16 0),(17,tI (wR (l.drop 1)).2),(18,tI d)]∧leB s [(5,63,c5 (wR l).1),(16,63,c5 (wR (l.drop 1)).1)]) (cxOk Try.prog [eq5] [cNum,cMaySubs,cWants,cNeeds,cIn,cRising,cWakes] [] []) follows 60 1 _ _ ?_ (fun s' hk=>?_)
  · skip
    repeat' first
      | exact trivial
      | (refine And.intro (show regChk _ _ _ _ _=true from by kernel_rfl) (And.intro ?_ ?_))
      | (refine And.intro (fun _=>?_) (fun h=>absurd (show true=false from h) (by decide)))
      | (refine And.intro (fun h=>absurd (show false=true from h) (by decide)) (fun _=>?_))
      | (refine And.intro (fun _=>?_) (fun h=>absurd (show false=true from h) (by decide)))
      | (refine And.intro (fun h=>absurd (show true=false from h) (by decide)) (fun _=>?_))
      | (refine And.intro (fun hb=>?_) (fun hb'=>?_))
      | refine And.intro ?_ ?_
      | intro _
    all_goals first
      | (show d<5;exact of_decide_eq_true (by assumption))
      | (show (8:Nat)=8;rfl)
      | exact bfF (by assumption)
      | exact bfE (by assumption)
      | exact bfA (by assumption) (bfF (by assumption))
      | exact bfA (by assumption) (bfE (by assumption))
      | (show (_:Option TV)=_;rfl)
      | (show (_:Option A0)=_;rfl)
      | (show (_:Option TypeId)=_;rfl)
      | (show True;trivial)
      | (show (_:Option CR)=_;rfl)
      | (show (_:Nat)=(_:Nat);rfl)
      | (show (_:Int)=(_:Int);rfl)
      | (show (_:Bool)=(_:Bool);first|assumption|rfl)
      | (show _=_;rfl)
  · obtain ⟨hlt,hg,hb⟩:=hk
    refine spec_le hg hb rfl ?_
    refine spec_seq (kx:=fun s=>leG s [(0,rowsA L),(3,tI i),(4,.sc (.op (.flat 70 4 l))),(5,.ptr 5 0),(16,.ptr 16 0),(17,tI (wR (l.drop 1)).2),(18,tI d)]∧leB s [(5,63,c5 (wR l).1),(16,63,c5 (wR (l.drop 1)).1)]) ?_ (fun s' hk=>spec_le hk.1 hk.2 rfl ?_)
    · refine spec_block ?_
      exact spec_mono (oneLC L i l hl ha d ⟨hv0,by omega⟩ rfl w0) (fun s h=>h) (fun id s h=>h.elim) (fun s h=>h)
    · refine spec_vc (cxOk Try.prog [eq5] [cNum,cMaySubs,cWants,cNeeds,cIn,cRising,cWakes] [] []) follows 60 ?_
      repeat' first
        | exact trivial
        | (refine And.intro (show regChk _ _ _ _ _=true from by kernel_rfl) (And.intro ?_ ?_))
        | (refine And.intro (fun _=>?_) (fun h=>absurd (show true=false from h) (by decide)))
        | (refine And.intro (fun h=>absurd (show false=true from h) (by decide)) (fun _=>?_))
        | (refine And.intro (fun _=>?_) (fun h=>absurd (show false=true from h) (by decide)))
        | (refine And.intro (fun h=>absurd (show true=false from h) (by decide)) (fun _=>?_))
        | (refine And.intro (fun hb=>?_) (fun hb'=>?_))
        | refine And.intro ?_ ?_
        | intro _
      all_goals first
        | (show ∃ v',_;exact ⟨IntKind.i64.wrap (d+1),by rw [wid (by omega) (by omega)];show (6-(d+1)).toNat<(6-d).toNat;omega,by rw [wid (by omega) (by omega)];exact ⟨by omega,by omega⟩,⟨rfl,rfl,rfl,rfl,rfl,rfl,rfl,trivial⟩,⟨rfl,⟨rfl,rfl,rfl,rfl,rfl,trivial⟩,rfl,⟨rfl,rfl,rfl,rfl,rfl,trivial⟩,trivial⟩⟩)
        | exact bfF (by assumption)
        | exact bfE (by assumption)
        | exact bfA (by assumption) (bfF (by assumption))
        | exact bfA (by assumption) (bfE (by assumption))
        | (show (_:Option TV)=_;rfl)
        | (show (_:Option A0)=_;rfl)
        | (show (_:Option TypeId)=_;rfl)
        | (show True;trivial)
        | (show (_:Option CR)=_;rfl)
        | (show (_:Nat)=(_:Nat);rfl)
        | (show (_:Int)=(_:Int);rfl)
        | (show (_:Bool)=(_:Bool);first|assumption|rfl)
        | (show _=_;rfl)
theorem tailC (L:List (List (List Int))) (i:Int) (l:List (List Int)) (hl:l.length≤100) (ha:l.all rOk=true) {c:Code} (hc:bodyAt Try.f9 [true,false,true,true,true,true,false,true,true,true,true,true,true,true,true,true]=some c) (w0:World):SpecC Try.prog Try.f9.ntmps (fun _=>False) w0 c (fun s=>leG s [(0,rowsA L),(3,tI i)]∧leB s []) (fun _ _=>False) (fun s=>resCR (cxOf Try.prog [eq5] [cNum,cMaySubs,cWants,cNeeds,cIn,cRising,cWakes] [] []) Try.f9.results.toList s=some (.tv (tB true))) (stB [(0,rowsA L),(3,tI i),(4,.sc (.op (.flat 70 4 l))),(5,.ptr 5 0)] [(5,63,c5 (wR l).1)]):=by
  refine spec_of hc rfl ?_
  have hdl:(l.drop 1).length≤1000000:=by rw [List.length_drop];omega
  refine spec_vch (kx:=fun s=>leG s [(0,rowsA L),(3,tI i),(4,.sc (.op (.flat 70 4 l))),(5,.ptr 5 0),(135,tB (decide ((l.length:Int)>0)))]∧leB s [(5,63,c5 (wR l).1)]) (cxOk Try.prog [eq5] [cNum,cMaySubs,cWants,cNeeds,cIn,cRising,cWakes] [] []) follows 60 1 _ _ ?_ (fun s' hk=>spec_le hk.1 hk.2 rfl ?_)
  · skip
    repeat' first
      | exact trivial
      | (refine And.intro (show regChk _ _ _ _ _=true from by kernel_rfl) (And.intro ?_ ?_))
      | (refine And.intro (fun _=>?_) (fun h=>absurd (show true=false from h) (by decide)))
      | (refine And.intro (fun h=>absurd (show false=true from h) (by decide)) (fun _=>?_))
      | (refine And.intro (fun _=>?_) (fun h=>absurd (show false=true from h) (by decide)))
      | (refine And.intro (fun h=>absurd (show true=false from h) (by decide)) (fun _=>?_))
      | (refine And.intro (fun hb=>?_) (fun hb'=>?_))
      | refine And.intro ?_ ?_
      | intro _
    all_goals first
      | exact bfF (by assumption)
      | exact bfE (by assumption)
      | exact bfA (by assumption) (bfF (by assumption))
      | exact bfA (by assumption) (bfE (by assumption))
      | (show (_:Option TV)=_;rfl)
      | (show (_:Option A0)=_;rfl)
      | (show (_:Option TypeId)=_;rfl)
      | (show True;trivial)
      | (show (_:Option CR)=_;rfl)
      | (show (_:Nat)=(_:Nat);rfl)
      | (show (_:Int)=(_:Int);rfl)
      | (show (_:Bool)=(_:Bool);first|assumption|rfl)
      | (show _=_;rfl)
  refine spec_cond (b:=decide ((l.length:Int)>0)) rfl (fun hp=>?_) (fun hp=>?_)
  · have hp:=of_decide_eq_true hp
    refine spec_vch (kx:=fun s=>leG s [(0,rowsA L),(3,tI i),(4,.sc (.op (.flat 70 4 l))),(5,.ptr 5 0),(16,.ptr 16 0),(17,tI (wR (l.drop 1)).2),(18,tI 0)]∧leB s [(5,63,c5 (wR l).1),(16,63,c5 (wR (l.drop 1)).1)]) (cxOk Try.prog [eq5] [cNum,cMaySubs,cWants,cNeeds,cIn,cRising,cWakes] [] []) follows 60 2 _ _ ?_ (fun s' hk=>spec_le hk.1 hk.2 rfl ?_)
    · skip
      repeat' first
        | exact trivial
        | (refine And.intro (show regChk _ _ _ _ _=true from by kernel_rfl) (And.intro ?_ ?_))
        | (refine And.intro (fun _=>?_) (fun h=>absurd (show true=false from h) (by decide)))
        | (refine And.intro (fun h=>absurd (show false=true from h) (by decide)) (fun _=>?_))
        | (refine And.intro (fun _=>?_) (fun h=>absurd (show false=true from h) (by decide)))
        | (refine And.intro (fun h=>absurd (show true=false from h) (by decide)) (fun _=>?_))
        | (refine And.intro (fun hb=>?_) (fun hb'=>?_))
        | refine And.intro ?_ ?_
        | intro _
      all_goals first
        | (show (0:Int)≤1;decide)
        | (show (1:Int)≤(l.length:Int);omega)
        | (show (l.drop 1).length≤1000000;exact hdl)
        | exact bfF (by assumption)
        | exact bfE (by assumption)
        | exact bfA (by assumption) (bfF (by assumption))
        | exact bfA (by assumption) (bfE (by assumption))
        | (show (_:Option TV)=_;rfl)
        | (show (_:Option A0)=_;rfl)
        | (show (_:Option TypeId)=_;rfl)
        | (show True;trivial)
        | (show (_:Option CR)=_;rfl)
        | (show (_:Nat)=(_:Nat);rfl)
        | (show (_:Int)=(_:Int);rfl)
        | (show (_:Bool)=(_:Bool);first|assumption|rfl)
        | (show _=_;rfl)
    · refine spec_block ?_
      exact spec_mono (loopLC L i l hl ha rfl w0) (fun s h=>h.elim) (fun id s h=>by obtain ⟨rfl,h⟩:=h;rw [if_pos rfl];exact h) (fun s h=>h)
  · exact spec_skip ⟨⟨rfl,rfl,trivial⟩,trivial⟩
theorem listC (L:List (List (List Int))) (i:Int) (h0:0≤i) (h1:i<(L.length:Int)) (l:List (List Int)) (hll:l=L.getD i.toNat []) {c:Code} (hc:bodyAt Try.f9 [true,false,true,true,true,true,false,true]=some c) (w0:World):SpecC Try.prog Try.f9.ntmps (fun _=>False) w0 c (fun s=>leG s [(0,rowsA L),(3,tI i)]∧leB s []) (fun id s=>id=1∧leG s [(0,rowsA L),(3,tI i)]∧leB s []) (fun s=>resCR (cxOf Try.prog [eq5] [cNum,cMaySubs,cWants,cNeeds,cIn,cRising,cWakes] [] []) Try.f9.results.toList s=some (.tv (tB true))) (stB [(0,rowsA L),(3,tI i)] []):=by
  refine spec_of hc rfl ?_
  refine spec_vch (kx:=fun s=>(l.length≤100∧l.all rOk=true)∧leG s [(0,rowsA L),(3,tI i),(4,.sc (.op (.flat 70 4 l))),(5,.ptr 5 0),(6,tI (wR l).2),(7,.sc (.v (.slice none 0 0)))]∧leB s [(5,63,c5 (wR l).1)]) (cxOk Try.prog [eq5] [cNum,cMaySubs,cWants,cNeeds,cIn,cRising,cWakes] [] []) follows 60 4 _ _ ?_ (fun s' hk=>?_)
  · subst hll
    repeat' first
      | exact trivial
      | (refine And.intro (show regChk _ _ _ _ _=true from by kernel_rfl) (And.intro ?_ ?_))
      | (refine And.intro (fun _=>?_) (fun h=>absurd (show true=false from h) (by decide)))
      | (refine And.intro (fun h=>absurd (show false=true from h) (by decide)) (fun _=>?_))
      | (refine And.intro (fun _=>?_) (fun h=>absurd (show false=true from h) (by decide)))
      | (refine And.intro (fun h=>absurd (show true=false from h) (by decide)) (fun _=>?_))
      | (refine And.intro (fun hb=>?_) (fun hb'=>?_))
      | refine And.intro ?_ ?_
      | intro _
    all_goals first
      | (show (0:Int)≤i;exact h0)
      | (show i<(L.length:Int);exact h1)
      | (show (_:List (List Int)).length≤100;exact (clA (by assumption)).1)
      | (show (_:List (List Int)).all rOk=true;exact (clA (by assumption)).2)
      | (show (_:List (List Int)).length≤1000000;first|exact le100' (by assumption)|exact Nat.le_trans (clA (by assumption)).1 (by decide))
      | (show (1:Nat)=1;rfl)
      | exact bfF (by assumption)
      | exact bfE (by assumption)
      | exact bfA (by assumption) (bfF (by assumption))
      | exact bfA (by assumption) (bfE (by assumption))
      | (show (_:Option TV)=_;rfl)
      | (show (_:Option A0)=_;rfl)
      | (show (_:Option TypeId)=_;rfl)
      | (show True;trivial)
      | (show (_:Option CR)=_;rfl)
      | (show (_:Nat)=(_:Nat);rfl)
      | (show (_:Int)=(_:Int);rfl)
      | (show (_:Bool)=(_:Bool);first|assumption|rfl)
      | (show _=_;rfl)
  obtain ⟨⟨hl,ha⟩,hg,hb⟩:=hk
  refine spec_le hg hb rfl ?_
  refine spec_seq (kx:=fun s=>leG s ((7,bk (bkL l))::[(0,rowsA L),(3,tI i),(4,.sc (.op (.flat 70 4 l))),(5,.ptr 5 0),(6,tI (wR l).2)])∧leB s ((5,63,c5 (wR l).1)::bkB (bkL l))) ?_ (fun s' hk=>spec_le hk.1 hk.2 (wf_bk _ _ rfl) ?_)
  · refine spec_vch (kx:=fun s=>leG s ((7,bk [])::[(0,rowsA L),(3,tI i),(4,.sc (.op (.flat 70 4 l))),(5,.ptr 5 0),(6,tI (wR l).2),(8,tI ((l.length:Int)-1))])∧leB s ((5,63,c5 (wR l).1)::bkB [])) (cxOk Try.prog [eq5] [cNum,cMaySubs,cWants,cNeeds,cIn,cRising,cWakes] [] []) follows 60 1 _ _ ?_ (fun s' hk=>spec_le hk.1 hk.2 rfl ?_)
    · skip
      repeat' first
        | exact trivial
        | (refine And.intro (show regChk _ _ _ _ _=true from by kernel_rfl) (And.intro ?_ ?_))
        | (refine And.intro (fun _=>?_) (fun h=>absurd (show true=false from h) (by decide)))
        | (refine And.intro (fun h=>absurd (show false=true from h) (by decide)) (fun _=>?_))
        | (refine And.intro (fun _=>?_) (fun h=>absurd (show false=true from h) (by decide)))
        | (refine And.intro (fun h=>absurd (show true=false from h) (by decide)) (fun _=>?_))
        | (refine And.intro (fun hb=>?_) (fun hb'=>?_))
        | refine And.intro ?_ ?_
        | intro _
      all_goals first
        | (show some (TV.sc (A0.v _))=some (tI ((l.length:Int)-1));exact congrArg (fun z=>some (tI z)) (wid (n:=(l.length:Int)-1) (by omega) (by omega)))
        | exact bfF (by assumption)
        | exact bfE (by assumption)
        | exact bfA (by assumption) (bfF (by assumption))
        | exact bfA (by assumption) (bfE (by assumption))
        | (show (_:Option TV)=_;rfl)
        | (show (_:Option A0)=_;rfl)
        | (show (_:Option TypeId)=_;rfl)
        | (show True;trivial)
        | (show (_:Option CR)=_;rfl)
        | (show (_:Nat)=(_:Nat);rfl)
        | (show (_:Int)=(_:Int);rfl)
        | (show (_:Bool)=(_:Bool);first|assumption|rfl)
        | (show _=_;rfl)
    · refine spec_block ?_
      exact spec_mono (backL L i l hl rfl w0) (fun s h=>h.elim) (fun id s h=>by obtain ⟨rfl,h⟩:=h;rw [if_pos rfl];exact h) (fun s h=>h)
  have hbl:(bkL l).length≤1000000:=by unfold bkL;rw [List.length_map,List.length_reverse];omega
  refine spec_seq (kx:=fun s=>leG s [(0,rowsA L),(3,tI i),(4,.sc (.op (.flat 70 4 l))),(5,.ptr 5 0),(6,tI (wR l).2),(9,.ptr 9 0),(10,tI (wR (bkL l)).2)]∧leB s [(5,63,c5 (wR l).1),(9,63,c5 (wR (bkL l)).1)]) ?_ (fun s' hk=>spec_le hk.1 hk.2 rfl ?_)
  · generalize bkL l=m at *
    cases m
    · refine spec_vc (cxOk Try.prog [eq5] [cNum,cMaySubs,cWants,cNeeds,cIn,cRising,cWakes] [] []) follows 60 ?_
      repeat' first
        | exact trivial
        | (refine And.intro (show regChk _ _ _ _ _=true from by kernel_rfl) (And.intro ?_ ?_))
        | (refine And.intro (fun _=>?_) (fun h=>absurd (show true=false from h) (by decide)))
        | (refine And.intro (fun h=>absurd (show false=true from h) (by decide)) (fun _=>?_))
        | (refine And.intro (fun _=>?_) (fun h=>absurd (show false=true from h) (by decide)))
        | (refine And.intro (fun h=>absurd (show true=false from h) (by decide)) (fun _=>?_))
        | (refine And.intro (fun hb=>?_) (fun hb'=>?_))
        | refine And.intro ?_ ?_
        | intro _
      all_goals first
        | (show (_:List (List Int)).length≤1000000;exact hbl)
        | exact bfF (by assumption)
        | exact bfE (by assumption)
        | exact bfA (by assumption) (bfF (by assumption))
        | exact bfA (by assumption) (bfE (by assumption))
        | (show (_:Option TV)=_;rfl)
        | (show (_:Option A0)=_;rfl)
        | (show (_:Option TypeId)=_;rfl)
        | (show True;trivial)
        | (show (_:Option CR)=_;rfl)
        | (show (_:Nat)=(_:Nat);rfl)
        | (show (_:Int)=(_:Int);rfl)
        | (show (_:Bool)=(_:Bool);first|assumption|rfl)
        | (show _=_;rfl)
    · refine spec_vc (cxOk Try.prog [eq5] [cNum,cMaySubs,cWants,cNeeds,cIn,cRising,cWakes] [] []) follows 60 ?_
      repeat' first
        | exact trivial
        | (refine And.intro (show regChk _ _ _ _ _=true from by kernel_rfl) (And.intro ?_ ?_))
        | (refine And.intro (fun _=>?_) (fun h=>absurd (show true=false from h) (by decide)))
        | (refine And.intro (fun h=>absurd (show false=true from h) (by decide)) (fun _=>?_))
        | (refine And.intro (fun _=>?_) (fun h=>absurd (show false=true from h) (by decide)))
        | (refine And.intro (fun h=>absurd (show true=false from h) (by decide)) (fun _=>?_))
        | (refine And.intro (fun hb=>?_) (fun hb'=>?_))
        | refine And.intro ?_ ?_
        | intro _
      all_goals first
        | (show (_:List (List Int)).length≤1000000;exact hbl)
        | exact bfF (by assumption)
        | exact bfE (by assumption)
        | exact bfA (by assumption) (bfF (by assumption))
        | exact bfA (by assumption) (bfE (by assumption))
        | (show (_:Option TV)=_;rfl)
        | (show (_:Option A0)=_;rfl)
        | (show (_:Option TypeId)=_;rfl)
        | (show True;trivial)
        | (show (_:Option CR)=_;rfl)
        | (show (_:Nat)=(_:Nat);rfl)
        | (show (_:Int)=(_:Int);rfl)
        | (show (_:Bool)=(_:Bool);first|assumption|rfl)
        | (show _=_;rfl)
  refine spec_vch (kx:=fun s=>leG s [(0,rowsA L),(3,tI i),(4,.sc (.op (.flat 70 4 l))),(5,.ptr 5 0)]∧leB s [(5,63,c5 (wR l).1)]) (cxOk Try.prog [eq5] [cNum,cMaySubs,cWants,cNeeds,cIn,cRising,cWakes] [] []) follows 60 1 _ _ ?_ (fun s' hk=>spec_le hk.1 hk.2 rfl ?_)
  · skip
    repeat' first
      | exact trivial
      | (refine And.intro (show regChk _ _ _ _ _=true from by kernel_rfl) (And.intro ?_ ?_))
      | (refine And.intro (fun _=>?_) (fun h=>absurd (show true=false from h) (by decide)))
      | (refine And.intro (fun h=>absurd (show false=true from h) (by decide)) (fun _=>?_))
      | (refine And.intro (fun _=>?_) (fun h=>absurd (show false=true from h) (by decide)))
      | (refine And.intro (fun h=>absurd (show true=false from h) (by decide)) (fun _=>?_))
      | (refine And.intro (fun hb=>?_) (fun hb'=>?_))
      | refine And.intro ?_ ?_
      | intro _
    all_goals first
      | (show (_:Option CR)=some (CR.tv (tB true));first|rfl|exact (clB ha (by assumption)).elim)
      | exact bfF (by assumption)
      | exact bfE (by assumption)
      | exact bfA (by assumption) (bfF (by assumption))
      | exact bfA (by assumption) (bfE (by assumption))
      | (show (_:Option TV)=_;rfl)
      | (show (_:Option A0)=_;rfl)
      | (show (_:Option TypeId)=_;rfl)
      | (show True;trivial)
      | (show (_:Option CR)=_;rfl)
      | (show (_:Nat)=(_:Nat);rfl)
      | (show (_:Int)=(_:Int);rfl)
      | (show (_:Bool)=(_:Bool);first|assumption|rfl)
      | (show _=_;rfl)
  refine spec_seq (kx:=fun s=>leG s [(0,rowsA L),(3,tI i),(4,.sc (.op (.flat 70 4 l))),(5,.ptr 5 0)]∧leB s [(5,63,c5 (wR l).1)]) ?_ (fun s' hk=>spec_le hk.1 hk.2 rfl ?_)
  · refine spec_vch (kx:=fun s=>leG s [(0,rowsA L),(3,tI i),(4,.sc (.op (.flat 70 4 l))),(5,.ptr 5 0),(11,tI 1)]∧leB s [(5,63,c5 (wR l).1)]) (cxOk Try.prog [eq5] [cNum,cMaySubs,cWants,cNeeds,cIn,cRising,cWakes] [] []) follows 60 1 _ _ ?_ (fun s' hk=>spec_le hk.1 hk.2 rfl ?_)
    · skip
      repeat' first
        | exact trivial
        | (refine And.intro (show regChk _ _ _ _ _=true from by kernel_rfl) (And.intro ?_ ?_))
        | (refine And.intro (fun _=>?_) (fun h=>absurd (show true=false from h) (by decide)))
        | (refine And.intro (fun h=>absurd (show false=true from h) (by decide)) (fun _=>?_))
        | (refine And.intro (fun _=>?_) (fun h=>absurd (show false=true from h) (by decide)))
        | (refine And.intro (fun h=>absurd (show true=false from h) (by decide)) (fun _=>?_))
        | (refine And.intro (fun hb=>?_) (fun hb'=>?_))
        | refine And.intro ?_ ?_
        | intro _
      all_goals first
        | exact bfF (by assumption)
        | exact bfE (by assumption)
        | exact bfA (by assumption) (bfF (by assumption))
        | exact bfA (by assumption) (bfE (by assumption))
        | (show (_:Option TV)=_;rfl)
        | (show (_:Option A0)=_;rfl)
        | (show (_:Option TypeId)=_;rfl)
        | (show True;trivial)
        | (show (_:Option CR)=_;rfl)
        | (show (_:Nat)=(_:Nat);rfl)
        | (show (_:Int)=(_:Int);rfl)
        | (show (_:Bool)=(_:Bool);first|assumption|rfl)
        | (show _=_;rfl)
    · refine spec_block ?_
      exact spec_mono (loopDC L i l hl ha rfl w0) (fun s h=>h.elim) (fun id s h=>by obtain ⟨rfl,h⟩:=h;rw [if_pos rfl];exact h) (fun s h=>h)
  · exact spec_mono (tailC L i l hl ha rfl w0) (fun s h=>h) (fun id s h=>h.elim) (fun s h=>h)
def LOC (L:List (List (List Int))):LI Int where
  gs:=fun i=>[(0,rowsA L),(3,tI i)]
  bs:=fun i=>[]
  I:=fun i=>0≤i∧i≤15
  μ:=fun i=>(15-i).toNat
theorem loopC (L:List (List (List Int))) {c:Code} (hc:bodyAt Try.f9 [true,false,true,true]=some c) (w0:World):SpecC Try.prog Try.f9.ntmps (fun _=>False) w0 c (fun _=>False) (fun id s=>id=0∧leG s []∧leB s []) (fun s=>resCR (cxOf Try.prog [eq5] [cNum,cMaySubs,cWants,cNeeds,cIn,cRising,cWakes] [] []) Try.f9.results.toList s=some (.tv (tB true))) (stB [(0,rowsA L),(3,tI 0)] []):=by
  refine spec_of hc rfl ?_
  refine spec_loopI (LOC L) ⟨0,⟨Int.le_refl _,by decide⟩,⟨rfl,rfl,trivial⟩,trivial⟩ (fun i hv=>⟨rfl,?_⟩)
  obtain ⟨hv0,hv1⟩:=hv
  refine spec_vch (kx:=fun s=>(i<(L.length:Int)∧i<15)∧leG s [(0,rowsA L),(3,tI i)]∧leB s []) (cxOk Try.prog [eq5] [cNum,cMaySubs,cWants,cNeeds,cIn,cRising,cWakes] [] []) follows 60 1 _ _ ?_ (fun s' hk=>?_)
  · skip
    repeat' first
      | exact trivial
      | (refine And.intro (show regChk _ _ _ _ _=true from by kernel_rfl) (And.intro ?_ ?_))
      | (refine And.intro (fun _=>?_) (fun h=>absurd (show true=false from h) (by decide)))
      | (refine And.intro (fun h=>absurd (show false=true from h) (by decide)) (fun _=>?_))
      | (refine And.intro (fun _=>?_) (fun h=>absurd (show false=true from h) (by decide)))
      | (refine And.intro (fun h=>absurd (show true=false from h) (by decide)) (fun _=>?_))
      | (refine And.intro (fun hb=>?_) (fun hb'=>?_))
      | refine And.intro ?_ ?_
      | intro _
    all_goals first
      | (show i<(L.length:Int);exact (tstT (by assumption)).1)
      | (show i<15;exact (tstT (by assumption)).2)
      | (show (0:Nat)=0;rfl)
      | exact bfF (by assumption)
      | exact bfE (by assumption)
      | exact bfA (by assumption) (bfF (by assumption))
      | exact bfA (by assumption) (bfE (by assumption))
      | (show (_:Option TV)=_;rfl)
      | (show (_:Option A0)=_;rfl)
      | (show (_:Option TypeId)=_;rfl)
      | (show True;trivial)
      | (show (_:Option CR)=_;rfl)
      | (show (_:Nat)=(_:Nat);rfl)
      | (show (_:Int)=(_:Int);rfl)
      | (show (_:Bool)=(_:Bool);first|assumption|rfl)
      | (show _=_;rfl)
  · obtain ⟨hlt,hg,hb⟩:=hk
    refine spec_le hg hb rfl ?_
    refine spec_seq (kx:=fun s=>leG s [(0,rowsA L),(3,tI i)]∧leB s []) ?_ (fun s' hk=>spec_le hk.1 hk.2 rfl ?_)
    · refine spec_block ?_
      exact spec_mono (listC L i hv0 hlt.1 _ rfl rfl w0) (fun s h=>h) (fun id s h=>by obtain ⟨rfl,h⟩:=h;rw [if_pos rfl];exact h) (fun s h=>h)
    · refine spec_vc (cxOk Try.prog [eq5] [cNum,cMaySubs,cWants,cNeeds,cIn,cRising,cWakes] [] []) follows 60 ?_
      repeat' first
        | exact trivial
        | (refine And.intro (show regChk _ _ _ _ _=true from by kernel_rfl) (And.intro ?_ ?_))
        | (refine And.intro (fun _=>?_) (fun h=>absurd (show true=false from h) (by decide)))
        | (refine And.intro (fun h=>absurd (show false=true from h) (by decide)) (fun _=>?_))
        | (refine And.intro (fun _=>?_) (fun h=>absurd (show false=true from h) (by decide)))
        | (refine And.intro (fun h=>absurd (show true=false from h) (by decide)) (fun _=>?_))
        | (refine And.intro (fun hb=>?_) (fun hb'=>?_))
        | refine And.intro ?_ ?_
        | intro _
      all_goals first
        | (show ∃ v',_;exact ⟨IntKind.i64.wrap (i+1),by rw [wid (by omega) (by omega)];show (15-(i+1)).toNat<(15-i).toNat;omega,by rw [wid (by omega) (by omega)];exact ⟨by omega,by omega⟩,⟨rfl,rfl,trivial⟩,trivial⟩)
        | exact bfF (by assumption)
        | exact bfE (by assumption)
        | exact bfA (by assumption) (bfF (by assumption))
        | exact bfA (by assumption) (bfE (by assumption))
        | (show (_:Option TV)=_;rfl)
        | (show (_:Option A0)=_;rfl)
        | (show (_:Option TypeId)=_;rfl)
        | (show True;trivial)
        | (show (_:Option CR)=_;rfl)
        | (show (_:Nat)=(_:Nat);rfl)
        | (show (_:Int)=(_:Int);rfl)
        | (show (_:Bool)=(_:Bool);first|assumption|rfl)
        | (show _=_;rfl)
theorem powerClosed (L:List (List (List Int))) (us:List Value) (w:World) (h:All2 (TV.reads pl0 w) [rowsA L] us):Ret Try.prog 9 us.toArray w (.tv (tB true)):=by
  refine fns_ret (cxOk Try.prog [eq5] [cNum,cMaySubs,cWants,cNeeds,cIn,cRising,cWakes] [] []) Try.func9 rfl (X:=(cxOf Try.prog [eq5] [cNum,cMaySubs,cWants,cNeeds,cIn,cRising,cWakes] [] [])) _ rfl (by show 1≤171;decide) ?_ h
  refine spec_vch (kx:=fun s=>leG s [(0,rowsA L)]∧leB s []) (cxOk Try.prog [eq5] [cNum,cMaySubs,cWants,cNeeds,cIn,cRising,cWakes] [] []) follows 60 1 _ _ ?_ (fun s' hk=>spec_le hk.1 hk.2 rfl ?_)
  · skip
    repeat' first
      | exact trivial
      | (refine And.intro (show regChk _ _ _ _ _=true from by kernel_rfl) (And.intro ?_ ?_))
      | (refine And.intro (fun _=>?_) (fun h=>absurd (show true=false from h) (by decide)))
      | (refine And.intro (fun h=>absurd (show false=true from h) (by decide)) (fun _=>?_))
      | (refine And.intro (fun _=>?_) (fun h=>absurd (show false=true from h) (by decide)))
      | (refine And.intro (fun h=>absurd (show true=false from h) (by decide)) (fun _=>?_))
      | (refine And.intro (fun hb=>?_) (fun hb'=>?_))
      | refine And.intro ?_ ?_
      | intro _
    all_goals first
      | exact bfF (by assumption)
      | exact bfE (by assumption)
      | exact bfA (by assumption) (bfF (by assumption))
      | exact bfA (by assumption) (bfE (by assumption))
      | (show (_:Option TV)=_;rfl)
      | (show (_:Option A0)=_;rfl)
      | (show (_:Option TypeId)=_;rfl)
      | (show True;trivial)
      | (show (_:Option CR)=_;rfl)
      | (show (_:Nat)=(_:Nat);rfl)
      | (show (_:Int)=(_:Int);rfl)
      | (show (_:Bool)=(_:Bool);first|assumption|rfl)
      | (show _=_;rfl)
  refine spec_seq (kx:=fun s=>leG s []∧leB s []) ?_ (fun s' hk=>spec_le hk.1 hk.2 rfl ?_)
  · refine spec_vch (kx:=fun s=>leG s [(0,rowsA L),(3,tI 0)]∧leB s []) (cxOk Try.prog [eq5] [cNum,cMaySubs,cWants,cNeeds,cIn,cRising,cWakes] [] []) follows 60 1 _ _ ?_ (fun s' hk=>spec_le hk.1 hk.2 rfl ?_)
    · skip
      repeat' first
        | exact trivial
        | (refine And.intro (show regChk _ _ _ _ _=true from by kernel_rfl) (And.intro ?_ ?_))
        | (refine And.intro (fun _=>?_) (fun h=>absurd (show true=false from h) (by decide)))
        | (refine And.intro (fun h=>absurd (show false=true from h) (by decide)) (fun _=>?_))
        | (refine And.intro (fun _=>?_) (fun h=>absurd (show false=true from h) (by decide)))
        | (refine And.intro (fun h=>absurd (show true=false from h) (by decide)) (fun _=>?_))
        | (refine And.intro (fun hb=>?_) (fun hb'=>?_))
        | refine And.intro ?_ ?_
        | intro _
      all_goals first
        | exact bfF (by assumption)
        | exact bfE (by assumption)
        | exact bfA (by assumption) (bfF (by assumption))
        | exact bfA (by assumption) (bfE (by assumption))
        | (show (_:Option TV)=_;rfl)
        | (show (_:Option A0)=_;rfl)
        | (show (_:Option TypeId)=_;rfl)
        | (show True;trivial)
        | (show (_:Option CR)=_;rfl)
        | (show (_:Nat)=(_:Nat);rfl)
        | (show (_:Int)=(_:Int);rfl)
        | (show (_:Bool)=(_:Bool);first|assumption|rfl)
        | (show _=_;rfl)
    · refine spec_block ?_
      exact spec_mono (loopC L rfl w) (fun s h=>h.elim) (fun id s h=>by obtain ⟨rfl,h⟩:=h;rw [if_pos rfl];exact h) (fun s h=>h)
  · refine spec_vc (cxOk Try.prog [eq5] [cNum,cMaySubs,cWants,cNeeds,cIn,cRising,cWakes] [] []) follows 60 ?_
    repeat' first
      | exact trivial
      | (refine And.intro (show regChk _ _ _ _ _=true from by kernel_rfl) (And.intro ?_ ?_))
      | (refine And.intro (fun _=>?_) (fun h=>absurd (show true=false from h) (by decide)))
      | (refine And.intro (fun h=>absurd (show false=true from h) (by decide)) (fun _=>?_))
      | (refine And.intro (fun _=>?_) (fun h=>absurd (show false=true from h) (by decide)))
      | (refine And.intro (fun h=>absurd (show true=false from h) (by decide)) (fun _=>?_))
      | (refine And.intro (fun hb=>?_) (fun hb'=>?_))
      | refine And.intro ?_ ?_
      | intro _
    all_goals first
      | exact bfF (by assumption)
      | exact bfE (by assumption)
      | exact bfA (by assumption) (bfF (by assumption))
      | exact bfA (by assumption) (bfE (by assumption))
      | (show (_:Option TV)=_;rfl)
      | (show (_:Option A0)=_;rfl)
      | (show (_:Option TypeId)=_;rfl)
      | (show True;trivial)
      | (show (_:Option CR)=_;rfl)
      | (show (_:Nat)=(_:Nat);rfl)
      | (show (_:Int)=(_:Int);rfl)
      | (show (_:Bool)=(_:Bool);first|assumption|rfl)
      | (show _=_;rfl)
end
end Go.Proofs.Ytcgknibjbnijmaa.PPw
end
section
set_option linter.unusedVariables false
set_option linter.unusedSimpArgs false
namespace Go.Proofs.Ytcgknibjbnijmaa.PPw
open Go RowKit Ytcgknibjbnijmaa.QPw YtcgknibjbnijmaaW.PrintWords YtcgknibjbnijmaaW.PrintMore YtcgknibjbnijmaaW.Aid YtcgknibjbnijmaaW.Big YtcgknibjbnijmaaW.Sy Go.Proofs
theorem powerClosedRow {w:World} {A:Option Addr} {c:Nat} {xs:List (List S70)} (h:Kd.C (Kd.slice 70 k70) w A xs.length xs) (hle:xs.length≤c) (_hg:True):Calls Try.prog 9 #[.slice A xs.length c] w fun e w'=>∃ u,e = .returned u∧u = .bool true∧Below w.heap.size w w' :=
  (powerClosed (rowsL xs) [.slice A xs.length c] w (.cons (rows_reads h hle) .nil)).mono fun e w' ⟨u,he,ht,hB⟩=>⟨u,he,(by obtain ⟨_,_,_,hv⟩:=ht;exact hv),hB⟩
end Go.Proofs.Ytcgknibjbnijmaa.PPw
end
section
namespace Go.Proofs.YtcgknibjbnijmaaW.Opens
open RowKit YtcgknibjbnijmaaW.PrintWords Go.Deep
variable {P:Program}
def Opens (P:Program) (t:TypeId) {α:Type} (d:Kd α) (G:α→Prop):Prop :=
  P.cellsOf t=d.sz∧∀ {H:Type} (enc:TypeId × Value→H) (w:World) (base:Nat) (spare:Nat→Bool) (held:Bool) (fuel:Nat) (cs:List Value) (x:DataW H × List MemPlace),
    DataW.trod enc P w base spare held fuel t cs=some x→(∀ n∈x.1.weights P t,n≤reachBytes)→∃ a,d.K w a cs∧G a
theorem opens_int {t:TypeId} {k:IntKind} (hu:P.underlying t=some (.int k)) (hc:P.cellsOf t=1):Opens P t (Kd.int k) (fun n=>(Lit.int k n).wf=true):=by
  refine ⟨hc,fun enc w base spare held fuel cs x h _=>?_⟩
  obtain ⟨n,rfl,_,hw⟩:=DataW.trod_int hu h
  exact ⟨n,rfl,hw⟩
theorem opens_bool {t:TypeId} (hu:P.underlying t=some .bool) (hc:P.cellsOf t=1):Opens P t Kd.bool (fun _=>True):=by
  refine ⟨hc,fun enc w base spare held fuel cs x h _=>?_⟩
  obtain ⟨n,rfl,_⟩:=DataW.trod_bool hu h
  exact ⟨n,rfl,trivial⟩
theorem opens_string {t:TypeId} (hu:P.underlying t=some .string) (hc:P.cellsOf t=1):Opens P t Kd.string (fun s=>s.size≤140737488351232):=by
  refine ⟨hc,fun enc w base spare held fuel cs x h hw=>?_⟩
  obtain ⟨s,rfl,rfl,_⟩:=DataW.trod_string hu h
  have z:=hw s.data.toList.length (by simp [DataW.weights])
  exact ⟨s,rfl,by simpa [reachBytes] using z⟩
theorem list_of {α:Type} {Q:Nat→α→Prop}:∀ n:Nat,(∀ i,i<n→∃ a,Q i a)→∃ xs:List α,xs.length=n∧∀ j p,xs[j]?=some p→Q j p
  | 0,_=>⟨[],rfl,fun j p h=>by simp at h⟩
  | n + 1, h => by
    obtain ⟨xs,hl,hx⟩:=list_of n (fun i hi=>h i (by omega))
    obtain ⟨a,ha⟩:=h n (by omega)
    refine ⟨xs++[a],by simp [hl],fun j p hj=>?_⟩
    by_cases hjl:j<xs.length
    · rw [List.getElem?_append_left hjl] at hj
      exact hx j p hj
    · have hj2:j<(xs++[a]).length:=(List.getElem?_eq_some_iff.1 hj).1
      have:j=n:=by simp at hj2;omega
      subst this
      rw [List.getElem?_append_right (by omega)] at hj
      simp [hl] at hj
      subst hj
      exact ha
theorem weights_mem_all {H:Type} {e:TypeId}:∀ {l:List (DataW H)} {d:DataW H},d∈l→∀ n∈d.weights P e,n∈DataW.weightsAll P e l
  | [],_,h,_,_=>by simp at h
  | y::l,d,h,n,hn=>by
    rw [DataW.weightsAll]
    rcases List.mem_cons.1 h with rfl|h
    · exact List.mem_append_left _ hn
    · exact List.mem_append_right _ (weights_mem_all h n hn)
theorem opens_slice {t e:TypeId} {α:Type} {d:Kd α} {G:α→Prop} (hu:P.underlying t=some (.slice e)) (hc:P.cellsOf t=1) {B:Nat} (hB:P.bytesOf e=B) (he:Opens P e d G) :
    Opens P t (Kd.slice e d) (fun xs=>xs.length*B≤140737488351232∧∀ x∈xs,G x):=by
  obtain ⟨hsz,he⟩:=he
  refine ⟨hc,fun enc w base spare held fuel cs x h hw=>?_⟩
  rcases open_slice hu h with ⟨rfl,_⟩|⟨a,len,cap,m,n,D,Pl,rfl,_,hl,hm,hmm,rfl,hi⟩
  · exact ⟨[],⟨none,0,rfl,Nat.le_refl _,rfl,by simp,fun h=>absurd h (by simp)⟩,by simp,fun _ h=>by simp at h⟩
  · have hlm:len≤m:=by rw [hmm];split<;>omega
    have hw2:∀ i,i<len→∀ q∈(D i).weights P e,q≤reachBytes:=fun i hil q hq=>by
      refine hw q ?_
      rw [DataW.weights,hu]
      refine List.mem_cons_of_mem _ (List.mem_append_left _ (weights_mem_all (d:=D i) ?_ q hq))
      exact List.mem_map.2 ⟨i,List.mem_range.2 hil,rfl⟩
    obtain ⟨xs,hxl,hx⟩:=list_of (Q:=fun i p=>(∃ c,c.length=d.sz∧d.K w p c∧∀ j u,c[j]?=some u→w.cell? (a.add (i*d.sz+j))=some u)∧G p) len (fun i hil=>by
      obtain ⟨cs',h1,h2⟩:=hi i (by omega)
      obtain ⟨p,hk,hg⟩:=he enc w base spare held n cs' _ h2 (hw2 i hil)
      obtain ⟨_,hcl,hat⟩:=World.cells?_some h1
      refine ⟨p,⟨cs',d.K_len hk,hk,fun j u hj=>?_⟩,hg⟩
      have hjl:j<cs'.length:=(List.getElem?_eq_some_iff.1 hj).1
      have h3:=hat j (by omega)
      rw [hj,hsz,Go.Deep.add_add] at h3
      exact h3)
    subst hxl
    refine ⟨xs,⟨some a,cap,rfl,hl,rfl,by unfold maxLen at hm;omega,fun _=>⟨a,rfl,fun j p hj=>(hx j p hj).1⟩⟩,?_,fun x hx'=>?_⟩
    · have z:=hw ((((List.range xs.length).map D).length+((List.range (m-xs.length)).map fun j=>D (xs.length+j)).length)*P.bytesOf e) (by rw [DataW.weights,hu];exact List.mem_cons_self)
      simp only [List.length_map,List.length_range,hB,reachBytes] at z
      exact Nat.le_trans (Nat.mul_le_mul_right _ (Nat.le_add_right _ _)) z
    · obtain ⟨j,hj⟩:=List.getElem?_of_mem hx'
      exact (hx j x hj).2
def OpensF (P:Program) (o:Nat) (fs:List (TypeId × Nat)) {α:Type} (d:Kd α) (G:α→Prop):Prop :=
  ∀ {H:Type} (enc:TypeId × Value→H) (w:World) (base:Nat) (spare:Nat→Bool) (held:Bool) (n:Nat) (cs:List Value) (ys:List (DataW H × List MemPlace)),cs.length=o+d.sz→ys.length=fs.length →
    (∀ (i:Nat) (f:TypeId × Nat),fs[i]?=some f→DataW.trod enc P w base spare held n f.1 ((cs.drop f.2).take (P.cellsOf f.1))=ys[i]?) →
    (∀ q∈DataW.weightsEach P (fs.map (·.1)) (ys.map (·.1)),q≤reachBytes)→∃ a,d.K w a (cs.drop o)∧G a
theorem opensF_one {t:TypeId} {o:Nat} {α:Type} {d:Kd α} {G:α→Prop} (h:Opens P t d G):OpensF P o [(t,o)] d G:=by
  obtain ⟨hsz,he⟩:=h
  intro H enc w base spare held n cs ys hl hyl hg hw
  match ys,hyl with
  | [y],_ =>
    have h1:=hg 0 (t,o) rfl
    simp only at h1
    rw [hsz,List.take_of_length_le (by simp;omega)] at h1
    exact he enc w base spare held n _ y h1 (fun q hq=>hw q (by simpa [DataW.weightsEach] using hq))
theorem opensF_cons {t:TypeId} {fs:List (TypeId × Nat)} {o o':Nat} {α β:Type} {d:Kd α} {d':Kd β} {G:α→Prop} {G':β→Prop} (h:Opens P t d G) (ho':o+d.sz=o') (h':OpensF P o' fs d' G') :
    OpensF P o ((t,o)::fs) (Kd.pair d d') (fun x=>G x.1∧G' x.2):=by
  obtain ⟨hsz,he⟩:=h
  intro H enc w base spare held n cs ys hl hyl hg hw
  match ys,hyl with
  | y :: ys, hyl =>
    have h1:=hg 0 (t,o) rfl
    simp only at h1
    rw [hsz] at h1
    obtain ⟨a,ka,ga⟩:=he enc w base spare held n _ y h1 (fun q hq=>hw q (by simp only [List.map_cons,DataW.weightsEach];exact List.mem_append_left _ hq))
    have hl':cs.length=o'+d'.sz:=by
      have:(Kd.pair d d').sz=d.sz+d'.sz:=rfl
      omega
    obtain ⟨b,kb,gb⟩:=h' enc w base spare held n cs ys hl' (by simpa using hyl) (fun i f' hf=>hg (i+1) f' (by simpa using hf)) (fun q hq=>hw q (by simp only [List.map_cons,DataW.weightsEach];exact List.mem_append_right _ hq))
    refine ⟨(a,b),⟨(cs.drop o).take d.sz,cs.drop o',?_,ka,kb⟩,ga,gb⟩
    rw [← ho',← List.drop_drop,List.take_append_drop]
theorem opens_struct {t:TypeId} {fs:Array Field} {α β:Type} {d:Kd α} {G:α→Prop} (hu:P.underlying t=some (.struct fs)) (hc:P.cellsOf t=d.sz) {l:List (TypeId × Nat)} (hl:fs.toList.map (fun f=>(f.type,f.offset))=l) (h:OpensF P 0 l d G) (f:β→α) (g:α→β) (hfg:∀ x,f (g x)=x) :
    Opens P t (Kd.iso d f) (fun x=>G (f x)):=by
  refine ⟨hc,fun enc w base spare held fuel cs x hx hw=>?_⟩
  obtain ⟨ys,n,_,rfl,hcl,hyl,hg⟩:=DataW.trod_struct hu hx
  have hg':∀ (i:Nat) (f:TypeId × Nat),l[i]?=some f→DataW.trod enc P w base spare held n f.1 ((cs.drop f.2).take (P.cellsOf f.1))=ys[i]?:=by
    intro i f hf
    rw [← hl,List.getElem?_map] at hf
    obtain ⟨f0,hf0,rfl⟩:=Option.map_eq_some_iff.1 hf
    exact hg i f0 (by simpa using hf0)
  obtain ⟨a,ka,ga⟩:=h enc w base spare held n cs ys (by omega) (by rw [hyl,← hl];simp) hg' (fun q hq=>hw q (by rw [← hl,List.map_map] at hq;simp only [DataW.weights,hu];exact hq))
  exact ⟨g a,by show d.K w (f (g a)) cs;rw [hfg];exact ka,by show G (f (g a));rw [hfg];exact ga⟩
theorem opens_arg {H:Type} {enc:TypeId × Value→H} {W:World} {base:Nat} {spare:Nat→Bool} {held:Bool} {t:TypeId} {v:Value} {x:DataW H} {ps:List MemPlace} {ts:List TypeId} {ds:List (DataW H)} {j:Nat} {α:Type} {d:Kd α} {G:α→Prop}
    (ho:Opens P t d G) (hsz:(DataW.weightsEach P ts ds).all (·≤reachBytes)=true) (ht:ts[j]?=some t) (hd:ds[j]?=some x) (h:DataW.Trod enc P W base spare held t v x ps):∃ a,d.K W a v.cells.toList∧G a:=by
  obtain ⟨fuel,hf⟩:=h
  refine ho.2 enc W base spare held fuel _ (x,ps) hf (fun n hn=>?_)
  simpa using List.all_eq_true.1 hsz n (DataW.weights_mem_each ht hd n hn)
end Go.Proofs.YtcgknibjbnijmaaW.Opens
end
section
namespace Go.Proofs.Ytcgknibjbnijmaa.powerClosed
open Go.ChangeShapes Go.WideShapes Go.ChangeAt RowKit YtcgknibjbnijmaaW.Opens YtcgknibjbnijmaaW.PrintWords Ytcgknibjbnijmaa.QPw Ytcgknibjbnijmaa.PPw
set_option linter.unusedVariables false
theorem own:ownKnob Try.prog.godebug=none:=by kernel_rfl
theorem laidOut:laidOutB Try.prog=true:=by kernel_rfl
theorem opens70:Opens Try.prog 70 k70 G70 :=
  opens_struct (l:=[(3,0),(3,1),(3,2),(3,3)]) Try.underlying70 (by kernel_rfl) rfl (opensF_cons (o:=0) (o':=1) (opens_int Try.underlying3 (by kernel_rfl)) rfl (opensF_cons (o:=1) (o':=2) (opens_int Try.underlying3 (by kernel_rfl)) rfl (opensF_cons (o:=2) (o':=3) (opens_int Try.underlying3 (by kernel_rfl)) rfl (opensF_one (o:=3) (opens_int Try.underlying3 (by kernel_rfl)))))) (fun x:S70=>(x.f0,x.f1,x.f2,x.f3)) (fun p=>⟨p.1,p.2.1,p.2.2.1,p.2.2.2⟩) (fun _=>rfl)
set_option maxRecDepth 100000 in
theorem lifted (os:Os) (started:os.Started) (H:Type) (enc:TypeId × Value→H) :
    ReturnsInHanded {} Try.checked os 9 .any (Rows.powerClosedSpec.pre6 enc Try.prog Try.f9 Rows.powerClosedRow.domain false) (Rows.powerClosedSpec.post enc Try.prog Try.f9 false true false false):=by
  refine returnsInHanded_of_change_sized (C:=Try.checked) own started (by kernel_rfl) Try.func9
    (ChangeSpec.witness6 (enc:=enc) (C:=Try.checked) false ⟨#[],#[.slice none 0 0],[]⟩ 8 (by kernel_rfl) (by kernel_rfl) (by kernel_rfl) (by kernel_rfl)) ?_
  intro W base args ds gs before hval0 hW hcnd hsz0 _
  have hsz:(DataW.weightsEach Try.prog (Try.f9.params.toList++Rows.powerClosedSpec.plain.varTypes Try.prog) (ds++gs)).all (·≤reachBytes)=true:=hsz0
  have hval:∀ (j:Nat) t v,Try.f9.params[j]?=some t→args[j]?=some v→Value.okWide Try.prog W .any base t v:=hval0
  have hW':=hW
  obtain ⟨p,q,hA0,hV,rfl,hfz,hnd⟩:=hW
  have hA:DataW.TrodAll enc Try.prog W 0 (fun _=>true) true Try.f9.params.toList args.toList ds p:=hA0
  rw [Try.params9] at hA hval hsz
  obtain ⟨v0,vs0,d0,ds0,p0,q0,hargs,rfl,rfl,h0,r0⟩:=trodAll_cons hA
  obtain ⟨rfl,rfl,rfl⟩:=trodAll_nil r0
  obtain rfl:args=#[v0]:=by cases args;simp_all
  obtain ⟨rfl,rfl⟩:=trodVars_none hV
  have k0:=h0
  have lt0:∀ x∈p0,x.block<W.heap.size:=by obtain ⟨m,hm⟩:=k0;exact DataW.trod_lt m _ _ _ hm
  have hv0:=hval 0 61 v0 rfl rfl
  obtain ⟨x0,hk0,hg0⟩:=opens_arg (opens_slice (B:=24) Try.underlying61 (by kernel_rfl) (by kernel_rfl) (opens_slice (B:=32) Try.underlying62 (by kernel_rfl) (by kernel_rfl) opens70)) hsz (j:=0) (t:=61) rfl rfl h0
  obtain ⟨a0,len0,cap0,rfl⟩:=okWide_slice Try.underlying61 hv0
  obtain ⟨A1,c1,hcs,hle,hC⟩:=hk0
  have hcs:[Value.slice a0 len0 cap0]=[.slice A1 x0.length c1]:=hcs
  simp only [List.cons.injEq,Value.slice.injEq,and_true] at hcs
  obtain ⟨rfl,rfl,rfl⟩:=hcs
  clear hA0 hval0 hsz0 hsz
  refine Calls.mono (powerClosedRow hC hle trivial) fun e W' hpost=>?_
  obtain ⟨u,rfl,hu,bel⟩:=hpost
  obtain rfl:u = .bool true:=hu
  exact ⟨_,rfl,_,_,_,[],_,[],hW',trodAll_mk1 (shut_bool Try.underlying4 _),(trodAll_cons_mk (Below.trod laidOut (by kernel_rfl) (of_decide_eq_true (by kernel_rfl)) k0 bel lt0) trodAll_mk0),rfl,bel.frame _,fun h=>by cases h⟩
theorem over:Rows.powerClosedRow.holds Try.pinned (OpenSpec.ofChange Rows.powerClosedSpec) :=
  OpenClaim.holds_of_wide 9 Try.f9 rfl rfl rfl rfl rfl rfl rfl ⟨rfl,rfl,rfl,rfl,rfl⟩ rfl rfl rfl rfl rfl (by kernel_rfl) Try.func9 (by kernel_rfl)
    (of_decide_eq_true (by kernel_rfl)) (by unfold Func.isWrapper;first|(rw [if_pos (by decide +kernel)];kernel_rfl)|(rw [if_neg (by decide +kernel)];exact ⟨rfl,rfl⟩))
    (fun os started H enc _=>lifted os started H enc)
theorem proved:Rows.PowerClosedSaid:=over
end Go.Proofs.Ytcgknibjbnijmaa.powerClosed
namespace Go.Proofs.Ytcgknibjbnijmaa
theorem powerClosed_holds:Rows.PowerClosedSaid:=powerClosed.proved
end Go.Proofs.Ytcgknibjbnijmaa
end
