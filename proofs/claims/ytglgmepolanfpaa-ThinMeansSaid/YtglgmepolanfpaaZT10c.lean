/- The row of ThinMeans, out of its law by the reckoner: for every argument that reads as data the call returns true and leaves the argument as it was. -/
import Derived.Test.YtglgmepolanfpaaZT10b
import Derived.Deep.Slices
import Derived.OpenShut
import Derived.SizedLaws
import Derived.Test.YtglgmepolanfpaaRows
import Derived.WalkKit
import Derived.ProofKit
import Derived.ShutString
import Derived.ChangeOld
import Derived.Below
import Derived.Carry
section
set_option linter.unusedVariables false
set_option linter.unusedSimpArgs false
namespace Go.Proofs.Ytglgmepolanfpaa.Wh
open Go Go.RowKit Go.Proofs.YtglgmepolanfpaaW.PrintWords Go.Proofs.YtglgmepolanfpaaW.PrintMore Go.Proofs.YtglgmepolanfpaaW.Aid Go.Proofs.YtglgmepolanfpaaW.Big Go.Proofs.YtglgmepolanfpaaW.Sx Go.Proofs.Ytglgmepolanfpaa.BitsWalk Go.Proofs.Ytglgmepolanfpaa.Limbs Go.Proofs.Ytglgmepolanfpaa.Whole Go.Proofs.Ytglgmepolanfpaa.FxWalk Go.Proofs
abbrev tV4 (p:Int × Int × Int × Int):TV := .tup [(true,[.v (.int .i64 p.1),.v (.int .i64 p.2.1),.v (.int .i64 p.2.2.1)]),(false,[.v (.int .i64 p.2.2.2)])]
theorem v4_eq {x y z e:Int} {p:Int × Int × Int × Int} (h:(x,y,z,e)=p):(some (CR.tv (.tup [(true,[.v (.int .i64 x),.v (.int .i64 y),.v (.int .i64 z)]),(false,[.v (.int .i64 e)])])):Option CR)=some (CR.tv (tV4 p)):=by rw [← h]
def vT (a b c:Int):Int × Int × Int × Int:=if (wd a&&(wd b&&wd c))=true then (a,b,c,0) else (0,0,0,2)
theorem tR_bad {a:Int} (h:((toldR a).2 != 0)=true):wd a=false∧(toldR a).2=2:=by
  unfold toldR at *
  by_cases hw:wd a=true
  · rw [if_pos hw] at h;exact absurd (show ((0:Int) != 0)=true from h) (by decide)
  · rw [if_neg hw];exact ⟨by simpa using hw,rfl⟩
theorem tR_ok {a:Int} (h:((toldR a).2 != 0)=false):wd a=true∧(toldR a).1=a:=by
  unfold toldR at *
  by_cases hw:wd a=true
  · rw [if_pos hw];exact ⟨hw,rfl⟩
  · rw [if_neg hw] at h;exact absurd (show ((2:Int) != 0)=false from h) (by decide)
theorem vT_1 {a b c:Int} (h:((toldR a).2 != 0)=true):((0:Int),(0:Int),(0:Int),(toldR a).2)=vT a b c:=by
  obtain ⟨h1,h2⟩:=tR_bad h
  unfold vT;rw [h2,if_neg (by simp [h1])]
theorem vT_2 {a b c:Int} (h:((toldR b).2 != 0)=true):((0:Int),(0:Int),(0:Int),(toldR b).2)=vT a b c:=by
  obtain ⟨h1,h2⟩:=tR_bad h
  unfold vT;rw [h2,if_neg (by simp [h1])]
theorem vT_3 {a b c:Int} (h:((toldR c).2 != 0)=true):((0:Int),(0:Int),(0:Int),(toldR c).2)=vT a b c:=by
  obtain ⟨h1,h2⟩:=tR_bad h
  unfold vT;rw [h2,if_neg (by simp [h1])]
theorem vT_4 {a b c:Int} (h:((toldR a).2 != 0)=false) (h':((toldR b).2 != 0)=false) (h'':((toldR c).2 != 0)=false):((toldR a).1,(toldR b).1,(toldR c).1,(0:Int))=vT a b c:=by
  obtain ⟨h1,h2⟩:=tR_ok h
  obtain ⟨h3,h4⟩:=tR_ok h'
  obtain ⟨h5,h6⟩:=tR_ok h''
  unfold vT;rw [h2,h4,h6,if_pos (by simp [h1,h3,h5])]
abbrev gV (x y z:Int):Bool:=allw [x,y,z]
theorem gV_iff {x y z:Int}:gV x y z=true↔wd x=true∧wd y=true∧wd z=true:=by simp [gV,allw]
theorem gV_bd {a b c:Int} (h:gV a b c=true):(-35184372088832<a∧a<35184372088832)∧(-35184372088832<b∧b<35184372088832)∧(-35184372088832<c∧c<35184372088832):=by
  obtain ⟨h1,h2,h3⟩:=gV_iff.1 h
  exact ⟨wd_iff.1 h1,wd_iff.1 h2,wd_iff.1 h3⟩
theorem and_tt {a b:Bool} (h:a=true) (h':b=true):(a&&b)=true:=by rw [h,h'];rfl
section
set_option maxRecDepth 100000
set_option maxHeartbeats 4000000
def cVOf:Con Try.prog where
  f:=38
  sem:=fun xs=>match xs with
    | [.agg [.v (.int .i64 x),.v (.int .i64 y),.v (.int .i64 z)]]=>some (True,.new 2 3 1 [.v (.int .i64 x),.v (.int .i64 y),.v (.int .i64 z)])
    | _=>none
  ok := by
    intro xs p r' h hp
    refine ⟨⟨_,Try.func38,by kernel_rfl,rfl⟩,fun us w ha=>?_⟩
    split at h
    · rename_i x y z
      cases h
      refine fn_ret (cxOk Try.prog ints_ok [] []) follows Try.func38 rfl 100 _ rfl (by simp) ?_ ha
      repeat' first
        | exact trivial
        | (refine And.intro (show regChk _ _ _ _ _=true from by kernel_rfl) (And.intro ?_ ?_))
        | (refine And.intro (fun _=>?_) (fun h=>absurd (show true=false from h) (by decide)))
        | (refine And.intro (fun h=>absurd (show false=true from h) (by decide)) (fun _=>?_))
        | (refine And.intro (fun hb=>?_) (fun hb'=>?_))
        | refine And.intro ?_ ?_
      all_goals first
        | (show some (CR.new _ _ _ _)=some (CR.new _ _ _ _);rfl)
        | (show (_:Nat)=(_:Nat);rfl)
        | (show (_:Nat)≤1000;decide)
        | (show (_:Int)=(_:Int);rfl)
        | (show (_:Int)≤_;decide)
        | (show (_:Int)<_;decide)
        -- PVC
    · cases h
def cVGood:Con Try.prog where
  f:=35
  sem:=fun xs=>match xs with
    | [.agg [.v (.int .i64 x),.v (.int .i64 y),.v (.int .i64 z)]]=>some (True,.tv (tB (gV x y z)))
    | _=>none
  ok := by
    intro xs p r' h hp
    refine ⟨⟨_,Try.func35,by kernel_rfl,rfl⟩,fun us w ha=>?_⟩
    split at h
    · rename_i x y z
      cases h
      refine fn_ret (cxOk Try.prog ints_ok [] [cAll]) follows Try.func35 rfl 100 _ rfl (by simp) ?_ ha
      repeat' first
        | exact trivial
        | (refine And.intro (show regChk _ _ _ _ _=true from by kernel_rfl) (And.intro ?_ ?_))
        | (refine And.intro (fun _=>?_) (fun h=>absurd (show true=false from h) (by decide)))
        | (refine And.intro (fun h=>absurd (show false=true from h) (by decide)) (fun _=>?_))
        | (refine And.intro (fun hb=>?_) (fun hb'=>?_))
        | refine And.intro ?_ ?_
      all_goals first
        | (show some (CR.tv (tB _))=some (CR.tv (tB _));exact tB_eq rfl)
        | (show (_:Nat)=(_:Nat);rfl)
        | (show (_:Nat)≤1000;decide)
        | (show (_:Int)=(_:Int);rfl)
        | (show (_:Int)≤_;decide)
        | (show (_:Int)<_;decide)
        -- PVC
    · cases h
def cVTold:Con Try.prog where
  f:=36
  sem:=fun xs=>match xs with
    | [.row 3 [.neg a,.mag a',.neg b,.mag b',.neg c,.mag c']]=>some (a'=a∧b'=b∧c'=c,.tv (tV4 (vT a b c)))
    | _=>none
  ok := by
    intro xs p r' h hp
    refine ⟨⟨_,Try.func36,by kernel_rfl,rfl⟩,fun us w ha=>?_⟩
    split at h
    · rename_i a a' b b' c c'
      cases h
      obtain ⟨rfl,rfl,rfl⟩:=hp
      refine fnu_ret (cxOk Try.prog ints_ok [] [cTold]) follows [0,2,3,4,9,10,11] Try.func36 rfl 100 _ rfl (by simp) ?_ ha
      repeat' first
        | exact trivial
        | (refine And.intro (show regChk _ _ _ _ _=true from by kernel_rfl) (And.intro ?_ ?_))
        | (refine And.intro (fun _=>?_) (fun h=>absurd (show true=false from h) (by decide)))
        | (refine And.intro (fun h=>absurd (show false=true from h) (by decide)) (fun _=>?_))
        | (refine And.intro (fun hb=>?_) (fun hb'=>?_))
        | refine And.intro ?_ ?_
      all_goals first
        | (show some (CR.tv (.tup _))=some (CR.tv (tV4 _));first|exact v4_eq (vT_1 (by assumption))|exact v4_eq (vT_2 (by assumption))|exact v4_eq (vT_3 (by assumption))|exact v4_eq (vT_4 (by assumption) (by assumption) (by assumption)))
        | (show (_:Nat)=(_:Nat);rfl)
        | (show (_:Nat)≤1000;decide)
        | (show (_:Int)=(_:Int);rfl)
        | (show (_:Int)≤_;decide)
        | (show (_:Int)<_;decide)
        -- PVC
    · cases h
end
end Go.Proofs.Ytglgmepolanfpaa.Wh
end
section
set_option linter.unusedVariables false
set_option linter.unusedSimpArgs false
namespace Go.Proofs.YtglgmepolanfpaaW.Sx
open Go Go.RowKit Go.Proofs.YtglgmepolanfpaaW.PrintWords Go.Proofs.YtglgmepolanfpaaW.PrintMore Go.Proofs.YtglgmepolanfpaaW.Aid Go.Proofs.YtglgmepolanfpaaW.Big
def wfV:Value→Bool
  | .int k n=>(Lit.int k n).wf
  | _=>true
def okV (ks:List (Option IntKind)) (xs:List Value):Prop:=isKs ks xs=true∧∀ x∈xs,wfV x=true
theorem isKs_app:∀ {ks ks':List (Option IntKind)} {xs ys:List Value},isKs ks xs=true→isKs ks' ys=true→isKs (ks++ks') (xs++ys)=true
  | [],ks',[],ys,_,h=>h
  | k::ks,ks',x::xs,ys,h,h'=>by
    simp only [isKs,Bool.and_eq_true] at h
    simp only [List.cons_append,isKs,h.1,isKs_app h.2 h',Bool.and_self]
  | [],_,_::_,_,h,_=>by cases h
  | _::_,_,[],_,h,_=>by cases h
theorem okV_app {ks ks':List (Option IntKind)} {xs ys:List Value} (h:okV ks xs) (h':okV ks' ys):okV (ks++ks') (xs++ys) :=
  ⟨isKs_app h.1 h'.1,fun x hx=>(List.mem_append.1 hx).elim (h.2 x) (h'.2 x)⟩
section
variable {H:Type} {enc:TypeId × Value→H} {P:Program} {w:World} {base:Nat} {spare:Nat→Bool} {held:Bool}
theorem rep_take (ks:List (Option IntKind)):∀ (n:Nat) (xs:List Value),xs.length=(rep ks n).length→(∀ i,i<n→okV ks ((xs.drop (i*ks.length)).take ks.length))→okV (rep ks n) xs
  | 0,xs,hl,_=>by
    cases xs with
    | nil=>exact ⟨rfl,fun _ h=>by cases h⟩
    | cons _ _=>simp [rep] at hl
  | n + 1, xs, hl, h => by
    have h0:=h 0 (by omega)
    rw [Nat.zero_mul,List.drop_zero] at h0
    have hl':xs.length=ks.length+(rep ks n).length:=by rw [hl,rep,List.length_append]
    have ih:=rep_take ks n (xs.drop ks.length) (by rw [List.length_drop];omega) (fun i hi=>by
      have:=h (i+1) (by omega)
      rw [List.drop_drop,show ks.length+i*ks.length=(i+1)*ks.length by rw [Nat.add_mul,Nat.one_mul];omega]
      exact this)
    have:=okV_app h0 ih
    rw [List.take_append_drop] at this
    exact this
theorem flat_trod (arr:Bool):∀ (d:Nat),(∀ (T:TypeId) (ks:List (Option IntKind)) (fuel:Nat) (cs:List Value) (x:DataW H × List MemPlace),lvs P arr d T=some ks→DataW.trod enc P w base spare held fuel T cs=some x→okV ks cs) ∧
    (∀ (fs:List Field) (off:Nat) (ks:List (Option IntKind)) (n:Nat) (cs:List Value) (ys:List (DataW H × List MemPlace)),lvsF P arr d fs off=some ks→cs.length=off+ks.length→ys.length=fs.length →
      (∀ (i:Nat) (f:Field),fs[i]?=some f→DataW.trod enc P w base spare held n f.type ((cs.drop f.offset).take (P.cellsOf f.type))=ys[i]?)→okV ks (cs.drop off)):=by
  intro d
  induction d with
  | zero =>
    refine ⟨fun T ks fuel cs x h=>(by cases h),fun fs off ks n cs ys h hl hy _=>?_⟩
    cases fs with
    | nil =>
      cases h
      rw [List.drop_of_length_le (by simp at hl;omega)]
      exact ⟨rfl,fun _ h=>by cases h⟩
    | cons f fs=>cases h
  | succ d ih =>
    obtain ⟨ih1,ih2⟩:=ih
    constructor
    · intro T ks fuel cs x h hx
      rw [lvs] at h
      split at h
      · rename_i k inf hu hi
        split at h
        case isFalse=>cases h
        cases h
        obtain ⟨n,rfl,_,hw⟩:=DataW.trod_int hu hx
        exact ⟨by simp [isKs,isK],fun y hy=>by rw [List.mem_singleton.1 hy];exact hw⟩
      · rename_i inf hu hi
        split at h
        case isFalse=>cases h
        cases h
        obtain ⟨n,rfl,_⟩:=DataW.trod_bool hu hx
        exact ⟨rfl,fun y hy=>by rw [List.mem_singleton.1 hy];rfl⟩
      · rename_i fs inf hu hi
        split at h
        · cases h
        · split at h
          · rename_i ks' hf
            split at h
            · rename_i hs
              cases h
              obtain ⟨ys,n,_,rfl,hcl,hyl,hg⟩:=DataW.trod_struct hu hx
              have hcl':cs.length=0+ks.length:=by
                rw [hcl];unfold Program.cellsOf;rw [hi];simpa using hs
              have:=ih2 fs.toList 0 ks n cs ys hf hcl' (by simpa using hyl) (fun i f hf=>hg i f (by simpa using hf))
              rwa [List.drop_zero] at this
            · cases h
          · cases h
      · rename_i n e inf hu hi
        split at h
        · split at h
          · rename_i ks' he
            split at h
            · rename_i hs
              cases h
              obtain ⟨ys,m,_,rfl,hcl,hyl,hg⟩:=DataW.trod_array hu hx
              have hce:=lvs_cells he
              rw [hce] at hg
              refine rep_take ks' n cs (by rw [hcl];unfold Program.cellsOf;rw [hi];simpa using hs) (fun i hi=>?_)
              obtain ⟨y,hy⟩:∃ y,ys[i]?=some y:=⟨ys[i],by simp⟩
              exact ih1 e ks' m _ y he (by rw [hg i hi,hy])
            · cases h
          · cases h
        · cases h
      · cases h
    · intro fs off ks n cs ys h hl hy hg
      cases fs with
      | nil =>
        cases h
        rw [List.drop_of_length_le (by simp at hl;omega)]
        exact ⟨rfl,fun _ h=>by cases h⟩
      | cons f fs =>
        rw [lvsF] at h
        split at h
        · cases h
        · rename_i hc
          have hoff:f.offset=off:=Decidable.byContradiction fun e=>hc (Or.inr e)
          split at h
          · rename_i k ks1 hl1
            split at h
            · rename_i r hr
              cases h
              match ys,hy with
              | y::ys,hy =>
                have h1:=hg 0 f rfl
                rw [hoff,lvs_cells hl1] at h1
                have g1:=ih1 f.type _ n _ y hl1 h1
                have g2:=ih2 fs (off+(k::ks1).length) r n cs ys hr (by rw [hl];simp;omega) (by simpa using hy) (fun i f' hf=>hg (i+1) f' (by simpa using hf))
                have:=okV_app g1 g2
                rw [← List.drop_drop,List.take_append_drop] at this
                exact this
            · cases h
          · cases h
def gI (f:Nat→List Value) (i j:Nat):Int:=match (f j)[i]? with
  | some (.int _ n)=>n
  | _=>0
def gB (f:Nat→List Value) (i j:Nat):Bool:=match (f j)[i]? with
  | some (.bool b)=>b
  | _=>false
def cellsG (f:Nat→List Value) (j:Nat):Nat→List (Option IntKind)→List A0
  | _,[]=>[]
  | i,some k::ks => .v (.int k (gI f i j))::cellsG f j (i+1) ks
  | i,none::ks => .v (.bool (gB f i j))::cellsG f j (i+1) ks
theorem cellsG_eq (f:Nat→List Value) (j:Nat):∀ (ks:List (Option IntKind)) (i:Nat),isKs ks ((f j).drop i)=true→cellsG f j i ks=((f j).drop i).map A0.v
  | [],i,h=>by
    cases hx:(f j).drop i with
    | nil=>rfl
    | cons _ _=>rw [hx] at h;cases h
  | k :: ks, i, h => by
    cases hx:(f j).drop i with
    | nil=>rw [hx] at h;cases h
    | cons x xs =>
      have h0:(f j)[i]?=some x:=by rw [← List.head?_drop,hx];rfl
      have h1:(f j).drop (i+1)=xs:=by rw [← List.tail_drop,hx];rfl
      rw [hx] at h
      simp only [isKs,Bool.and_eq_true] at h
      have ih:=cellsG_eq f j ks (i+1) (by rw [h1];exact h.2)
      rw [h1] at ih
      cases k with
      | some k =>
        cases x<;>simp only [isK] at h<;>try (exact absurd h.1 (by decide))
        rename_i k' n
        obtain rfl:=of_decide_eq_true h.1
        simp only [cellsG,gI,h0,List.map_cons,ih]
      | none =>
        cases x<;>simp only [isK] at h<;>try (exact absurd h.1 (by decide))
        simp only [cellsG,gB,h0,List.map_cons,ih]
def zv:Option IntKind→Value
  | some k => .int k 0
  | none => .bool false
theorem zs_ok:∀ ks:List (Option IntKind),okV ks (ks.map zv)
  | []=>⟨rfl,fun _ h=>by cases h⟩
  | k :: ks => by
    obtain ⟨h1,h2⟩:=zs_ok ks
    refine ⟨?_,fun x hx=>?_⟩
    · simp only [List.map_cons,isKs,h1,Bool.and_true]
      cases k<;>simp [zv,isK]
    · rcases List.mem_cons.1 hx with rfl|hx
      · cases k with
        | none=>rfl
        | some k=>cases k<;>decide
      · exact h2 x hx
theorem rowF_congr {n sz:Nat} {f g:Nat→List A0} {β:Nat→Nat} {base:Nat} {w:World} {u:Value} (h:∀ j,f j=g j) (hr:TV.reads β base w (.rowF n sz f) u):TV.reads β base w (.rowF n sz g) u:=by
  rw [show g=f from funext fun j=>(h j).symm];exact hr
theorem row_of {t e:TypeId} {arr:Bool} {d:Nat} {ks:List (Option IntKind)} (hu:P.underlying t=some (.slice e)) (hl:lvs P arr d e=some ks) (hk:0<ks.length) {A1:Option Addr} {n0 c0:Nat} {x:DataW H} {ps:List MemPlace} (h:DataW.Trod enc P w base spare held t (.slice A1 n0 c0) x ps) :
    ∃ f:Nat→List Value,(∀ j,okV ks (f j))∧∀ β:Nat→Nat,TV.reads β w.heap.size w (.rowF n0 ks.length (fun j=>cellsG f j 0 ks)) (.slice A1 n0 c0):=by
  obtain ⟨fuel,hf⟩:=h
  have hcell:(Value.slice A1 n0 c0).cells.toList=[.slice A1 n0 c0]:=rfl
  rw [hcell] at hf
  rcases Go.Deep.open_slice hu hf with ⟨h1,_⟩|⟨a,len,cap,m,n,D,Pl,h1,hb,hle,hm,hmm,_,hi⟩
  · cases h1
    exact ⟨fun _=>ks.map zv,fun j=>zs_ok ks,fun β=>⟨none,0,rfl,Nat.le_refl _,fun h=>absurd h (by omega)⟩⟩
  · cases h1
    have hlm:n0≤m:=by rw [hmm];split<;>omega
    have hch:∀ j,∃ l:List Value,okV ks l∧(j<n0→∀ i u,l[i]?=some u→w.cell? ((a.add (j*ks.length)).add i)=some u):=by
      intro j
      by_cases hj:j<n0
      · obtain ⟨cs',h2,h3⟩:=hi j (by omega)
        obtain ⟨_,hcl,hat⟩:=World.cells?_some h2
        have ok:=(flat_trod (enc:=enc) (P:=P) (w:=w) (base:=base) (spare:=spare) (held:=held) arr d).1 e ks n cs' _ hl h3
        refine ⟨cs',ok,fun _ i u hu=>?_⟩
        have hil:i<cs'.length:=(List.getElem?_eq_some_iff.1 hu).1
        have h4:=hat i (by omega)
        rw [hu,lvs_cells hl] at h4
        exact h4
      · exact ⟨ks.map zv,zs_ok ks,fun h=>absurd h hj⟩
    obtain ⟨f,hf⟩:=Classical.axiomOfChoice hch
    refine ⟨f,fun j=>(hf j).1,fun β=>?_⟩
    refine rowF_congr (f:=fun j=>(f j).map A0.v) (fun j=>?_) ⟨some a,c0,rfl,hle,fun h0=>⟨a,rfl,?_,fun i hi=>?_⟩⟩
    · have:=cellsG_eq f j ks 0 (by rw [List.drop_zero];exact (hf j).1.1)
      rw [this,List.drop_zero]
    · have h5:=(hf 0).1.1
      have h6:=isKs_len h5
      have h7:=(hf 0).2 h0 0 ((f 0)[0]'(by omega)) (by simp)
      have:=World.block_lt_of_cell? w _ h7
      rw [Nat.zero_mul] at this
      exact this
    · intro q c hq
      rw [List.getElem?_map,Option.map_eq_some_iff] at hq
      obtain ⟨u,hu,rfl⟩:=hq
      exact ⟨u,(hf i).2 hi q u hu,rfl⟩
end
end Go.Proofs.YtglgmepolanfpaaW.Sx
end
section
set_option linter.unusedVariables false
set_option linter.unusedSimpArgs false
namespace Go.Proofs.Ytglgmepolanfpaa.Wh
open Go Go.RowKit Go.Proofs.YtglgmepolanfpaaW.PrintWords Go.Proofs.YtglgmepolanfpaaW.PrintMore Go.Proofs.YtglgmepolanfpaaW.Aid Go.Proofs.YtglgmepolanfpaaW.Big Go.Proofs.YtglgmepolanfpaaW.Sx Go.Proofs.Ytglgmepolanfpaa.BitsWalk Go.Proofs.Ytglgmepolanfpaa.Limbs Go.Proofs.Ytglgmepolanfpaa.Whole Go.Proofs.Ytglgmepolanfpaa.FxWalk Go.Proofs
theorem wd_bif (v:Int):(bif decide (v > -35184372088832) then decide (v<35184372088832) else false)=wd v:=by
  unfold wd
  have e:decide (v > -35184372088832)=decide (-35184372088832<v):=rfl
  rw [e]
  cases decide (-35184372088832<v)<;>rfl
theorem gV_bif (x y z:Int):(bif bif wd x then wd y else false then wd z else false)=gV x y z:=by
  unfold gV
  simp only [allw]
  cases wd x<;>cases wd y<;>cases wd z<;>rfl
def withinR (i n:Int):Int:=i%18446744073709551616%n
theorem within_bd (i:Int) {n:Int} (h:0<n):0≤withinR i n∧withinR i n<n:=⟨Int.emod_nonneg _ (by omega),Int.emod_lt_of_pos _ h⟩
theorem within_w {i n:Int} (h0:0<n) (h1:n<9223372036854775808):IntKind.i64.wrap ((IntKind.u64.wrap i).tmod (IntKind.u64.wrap n))=withinR i n:=by
  have e:IntKind.u64.wrap n=n:=u64_id (by omega) (by omega)
  rw [e,u64_wrap]
  rw [Int.tmod_eq_emod_of_nonneg (Int.emod_nonneg _ (by decide))]
  have:=within_bd i h0
  rw [i64_wrap]
  exact wrap64_id (by unfold withinR at this;omega) (by unfold withinR at this;omega)
def broughtR (v m:Int):Int:=withinR v (2*m+1)-m
theorem brought_bd (v:Int) {m:Int} (h:0≤m) : -m≤broughtR v m∧broughtR v m≤m:=by
  have:=within_bd v (n:=2*m+1) (by omega)
  unfold broughtR;omega
theorem brought_w {v m:Int} (h0:0≤m) (h1:m<4611686018427387904):IntKind.i64.wrap (IntKind.i64.wrap ((IntKind.u64.wrap v).tmod (IntKind.u64.wrap (IntKind.i64.wrap (IntKind.i64.wrap (2*m)+1))))-m)=broughtR v m:=by
  have e1:IntKind.i64.wrap (2*m)=2*m:=by rw [i64_wrap];exact wrap64_id (by omega) (by omega)
  have e2:IntKind.i64.wrap (2*m+1)=2*m+1:=by rw [i64_wrap];exact wrap64_id (by omega) (by omega)
  rw [e1,e2,within_w (by omega) (by omega)]
  have:=brought_bd v h0
  rw [i64_wrap]
  unfold broughtR at this ⊢
  exact wrap64_id (by omega) (by omega)
theorem u64_nz {n:Int} (h0:0<n) (h1:n<9223372036854775808):IntKind.u64.wrap n≠0:=by rw [u64_id (by omega) (by omega)];omega
theorem b_nz {m:Int} (h0:0≤m) (h1:m<4611686018427387904):IntKind.u64.wrap (IntKind.i64.wrap (IntKind.i64.wrap (2*m)+1))≠0:=by
  have e1:IntKind.i64.wrap (2*m)=2*m:=by rw [i64_wrap];exact wrap64_id (by omega) (by omega)
  have e2:IntKind.i64.wrap (2*m+1)=2*m+1:=by rw [i64_wrap];exact wrap64_id (by omega) (by omega)
  rw [e1,e2];exact u64_nz (by omega) (by omega)
theorem no {c:Bool} (h:c=false) (hb:c=true):False:=by rw [h] at hb;exact absurd hb (by decide)
abbrev cells3 (x y z:Int):List Value:=[.int .i64 x,.int .i64 y,.int .i64 z]
theorem wrap1 {i:Int} (h0:0≤i) (h:i≤100000000000000000):IntKind.i64.wrap (i+1)=i+1:=by rw [i64_wrap];exact wrap64_id (by omega) (by omega)
theorem hC1 {v k:Int} {n:Nat} (h:(bif decide (v<(n:Int)) then decide (v<k) else false)=true):v<n∧v<k:=by
  by_cases h1:v<(n:Int)
  · rw [decide_eq_true h1] at h;exact ⟨h1,of_decide_eq_true h⟩
  · rw [decide_eq_false h1] at h;exact absurd (show false=true from h) (by decide)
section
set_option maxRecDepth 100000
set_option maxHeartbeats 4000000
abbrev eqVec:EqT Try.prog:=eqS Try.prog 24 [some .i64,some .i64,some .i64] (by kernel_rfl)
def cR1May:Con Try.prog where
  f:=42
  sem:=fun xs=>match xs with
    | [.sc (.v (.int .i64 v))]=>some (True,.tv (tB (wd v)))
    | _=>none
  ok := by
    intro xs p r' h hp
    refine ⟨⟨_,Try.func42,by kernel_rfl,rfl⟩,fun us w ha=>?_⟩
    split at h
    · rename_i v
      cases h
      refine fn_ret (cxOk Try.prog ints_ok [] []) follows Try.func42 rfl 100 _ rfl (by simp) ?_ ha
      repeat' first
        | exact trivial
        | (refine And.intro (show regChk _ _ _ _ _=true from by kernel_rfl) (And.intro ?_ ?_))
        | (refine And.intro (fun _=>?_) (fun h=>absurd (show true=false from h) (by decide)))
        | (refine And.intro (fun h=>absurd (show false=true from h) (by decide)) (fun _=>?_))
        | (refine And.intro (fun hb=>?_) (fun hb'=>?_))
        | refine And.intro ?_ ?_
        | intro _
      all_goals first
        | (show some (CR.tv (tB _))=some (CR.tv (tB _));exact tB_eq (wd_bif v))
        | (show (_:Bool)=(_:Bool);first|assumption|exact beq_iff_eq.2 (by assumption)|(exact and_tt (by first|assumption|exact beq_iff_eq.2 (by assumption)) (by first|assumption|exact beq_iff_eq.2 (by assumption))))
        | (show (_:Nat)=(_:Nat);rfl)
        | (show (_:Nat)≤1000;decide)
        | (show (_:Int)=(_:Int);rfl)
        | (show (_:Int)≤_;decide)
        | (show (_:Int)<_;decide)
        -- PVC
    · cases h
def cR3May:Con Try.prog where
  f:=21
  sem:=fun xs=>match xs with
    | [.agg [.v (.int .i64 x),.v (.int .i64 y),.v (.int .i64 z)]]=>some (True,.tv (tB (gV x y z)))
    | _=>none
  ok := by
    intro xs p r' h hp
    refine ⟨⟨_,Try.func21,by kernel_rfl,rfl⟩,fun us w ha=>?_⟩
    split at h
    · rename_i x y z
      cases h
      refine fn_ret (cxOk Try.prog ints_ok [] [cR1May]) follows Try.func21 rfl 100 _ rfl (by simp) ?_ ha
      repeat' first
        | exact trivial
        | (refine And.intro (show regChk _ _ _ _ _=true from by kernel_rfl) (And.intro ?_ ?_))
        | (refine And.intro (fun _=>?_) (fun h=>absurd (show true=false from h) (by decide)))
        | (refine And.intro (fun h=>absurd (show false=true from h) (by decide)) (fun _=>?_))
        | (refine And.intro (fun hb=>?_) (fun hb'=>?_))
        | refine And.intro ?_ ?_
        | intro _
      all_goals first
        | (show some (CR.tv (tB _))=some (CR.tv (tB _));exact tB_eq (gV_bif x y z))
        | (show (_:Bool)=(_:Bool);first|assumption|exact beq_iff_eq.2 (by assumption)|(exact and_tt (by first|assumption|exact beq_iff_eq.2 (by assumption)) (by first|assumption|exact beq_iff_eq.2 (by assumption))))
        | (show (_:Nat)=(_:Nat);rfl)
        | (show (_:Nat)≤1000;decide)
        | (show (_:Int)=(_:Int);rfl)
        | (show (_:Int)≤_;decide)
        | (show (_:Int)<_;decide)
        -- PVC
    · cases h
def cWithin:Con Try.prog where
  f:=26
  sem:=fun xs=>match xs with
    | [.sc (.v (.int .i64 i)),.sc (.v (.int .i64 n))]=>some (0<n∧n<9223372036854775808,.tv (tN .i64 (withinR i n)))
    | _=>none
  ok := by
    intro xs p r' h hp
    refine ⟨⟨_,Try.func26,by kernel_rfl,rfl⟩,fun us w ha=>?_⟩
    split at h
    · rename_i i n
      cases h
      refine fn_ret (cxOk Try.prog ints_ok [] []) follows Try.func26 rfl 100 _ rfl (by simp) ?_ ha
      repeat' first
        | exact trivial
        | (refine And.intro (show regChk _ _ _ _ _=true from by kernel_rfl) (And.intro ?_ ?_))
        | (refine And.intro (fun _=>?_) (fun h=>absurd (show true=false from h) (by decide)))
        | (refine And.intro (fun h=>absurd (show false=true from h) (by decide)) (fun _=>?_))
        | (refine And.intro (fun hb=>?_) (fun hb'=>?_))
        | refine And.intro ?_ ?_
      all_goals first
        | (show some (CR.tv (tN _ _))=some (CR.tv (tN _ _));exact tN_eq (within_w hp.1 hp.2))
        | (show (_:Int)≠_;exact u64_nz hp.1 hp.2)
        | (show (_:Nat)=(_:Nat);rfl)
        | (show (_:Nat)≤1000;decide)
        | (show (_:Int)=(_:Int);rfl)
        | (show (_:Int)≤_;decide)
        | (show (_:Int)<_;decide)
        -- PVC
    · cases h
def cBrought:Con Try.prog where
  f:=47
  sem:=fun xs=>match xs with
    | [.sc (.v (.int .i64 v)),.sc (.v (.int .i64 m))]=>some (0≤m∧m<4611686018427387904,.tv (tN .i64 (broughtR v m)))
    | _=>none
  ok := by
    intro xs p r' h hp
    refine ⟨⟨_,Try.func47,by kernel_rfl,rfl⟩,fun us w ha=>?_⟩
    split at h
    · rename_i v m
      cases h
      refine fn_ret (cxOk Try.prog ints_ok [] []) follows Try.func47 rfl 100 _ rfl (by simp) ?_ ha
      repeat' first
        | exact trivial
        | (refine And.intro (show regChk _ _ _ _ _=true from by kernel_rfl) (And.intro ?_ ?_))
        | (refine And.intro (fun _=>?_) (fun h=>absurd (show true=false from h) (by decide)))
        | (refine And.intro (fun h=>absurd (show false=true from h) (by decide)) (fun _=>?_))
        | (refine And.intro (fun hb=>?_) (fun hb'=>?_))
        | refine And.intro ?_ ?_
      all_goals first
        | (show some (CR.tv (tN _ _))=some (CR.tv (tN _ _));exact tN_eq (brought_w hp.1 hp.2))
        | (show (_:Int)≠_;exact b_nz hp.1 hp.2)
        | (show (_:Nat)=(_:Nat);rfl)
        | (show (_:Nat)≤1000;decide)
        | (show (_:Int)=(_:Int);rfl)
        | (show (_:Int)≤_;decide)
        | (show (_:Int)<_;decide)
        -- PVC
    · cases h
def cL0Vec:Con Try.prog where
  f:=27
  sem:=fun xs=>match xs with
    | [.agg [.v (.int .i64 x),.v (.int .i64 y),.v (.int .i64 z)],.sc (.v (.int .i64 m))]=>some (0≤m∧m<4611686018427387904,.tv (.agg [.v (.int .i64 (broughtR x m)),.v (.int .i64 (broughtR y m)),.v (.int .i64 (broughtR z m))]))
    | _=>none
  ok := by
    intro xs p r' h hp
    refine ⟨⟨_,Try.func27,by kernel_rfl,rfl⟩,fun us w ha=>?_⟩
    split at h
    · rename_i x y z m
      cases h
      refine fn_ret (cxOk Try.prog ints_ok [] [cBrought]) follows Try.func27 rfl 100 _ rfl (by simp) ?_ ha
      repeat' first
        | exact trivial
        | (refine And.intro (show regChk _ _ _ _ _=true from by kernel_rfl) (And.intro ?_ ?_))
        | (refine And.intro (fun _=>?_) (fun h=>absurd (show true=false from h) (by decide)))
        | (refine And.intro (fun h=>absurd (show false=true from h) (by decide)) (fun _=>?_))
        | (refine And.intro (fun hb=>?_) (fun hb'=>?_))
        | refine And.intro ?_ ?_
      all_goals first
        | (show some (CR.tv (.agg _))=some (CR.tv (.agg _));rfl)
        | exact hp.1
        | exact hp.2
        | (show (_:Nat)=(_:Nat);rfl)
        | (show (_:Nat)≤1000;decide)
        | (show (_:Int)=(_:Int);rfl)
        | (show (_:Int)≤_;decide)
        | (show (_:Int)<_;decide)
        -- PVC
    · cases h
def cNum14:Con Try.prog where
  f:=24
  sem:=fun xs=>match xs with
    | [.sc (.v (.int .i64 v))]=>some (True,.tv (tN .i64 v))
    | _=>none
  ok := by
    intro xs p r' h hp
    refine ⟨⟨_,Try.func24,by kernel_rfl,rfl⟩,fun us w ha=>?_⟩
    split at h
    · rename_i v
      cases h
      refine fn_ret (cxOk Try.prog ints_ok [] []) follows Try.func24 rfl 100 _ rfl (by simp) ?_ ha
      repeat' first
        | exact trivial
        | (refine And.intro (show regChk _ _ _ _ _=true from by kernel_rfl) (And.intro ?_ ?_))
        | (refine And.intro (fun _=>?_) (fun h=>absurd (show true=false from h) (by decide)))
        | (refine And.intro (fun h=>absurd (show false=true from h) (by decide)) (fun _=>?_))
        | (refine And.intro (fun hb=>?_) (fun hb'=>?_))
        | refine And.intro ?_ ?_
      all_goals first
        | (show some (CR.tv (tN _ _))=some (CR.tv (tN _ _));rfl)
        | (show (_:Nat)=(_:Nat);rfl)
        | (show (_:Nat)≤1000;decide)
        | (show (_:Int)=(_:Int);rfl)
        | (show (_:Int)≤_;decide)
        | (show (_:Int)<_;decide)
        -- PVC
    · cases h
end
end Go.Proofs.Ytglgmepolanfpaa.Wh
end
section
set_option linter.unusedVariables false
set_option linter.unusedSimpArgs false
namespace Go.Proofs.Ytglgmepolanfpaa.Wh
open Go Go.RowKit Go.Proofs.YtglgmepolanfpaaW.PrintWords Go.Proofs.YtglgmepolanfpaaW.PrintMore Go.Proofs.YtglgmepolanfpaaW.Aid Go.Proofs.YtglgmepolanfpaaW.Big Go.Proofs.YtglgmepolanfpaaW.Sx Go.Proofs.Ytglgmepolanfpaa.BitsWalk Go.Proofs.Ytglgmepolanfpaa.Limbs Go.Proofs.Ytglgmepolanfpaa.Whole Go.Proofs.Ytglgmepolanfpaa.FxWalk Go.Proofs
theorem len_t4 {x:Int} (h : -1000000000000000000000000000000000000000000000000000000000000000≤x) (h':x≤1000000000000000000000000000000000000000000000000000000000000000):Len0 x:=len_big (k:=4) (by decide) (Nat.lt_of_le_of_lt (show x.natAbs≤1000000000000000000000000000000000000000000000000000000000000000 by omega) (by decide +kernel))
abbrev badB (v:Int):Bool:=bif decide (v ≤ -9007199254740992) then true else decide (v≥9007199254740992)
theorem badB_f {v:Int}:badB v=false ↔ -9007199254740992<v∧v<9007199254740992:=by
  unfold badB
  by_cases h1:v ≤ -9007199254740992<;>by_cases h2:v≥9007199254740992<;>simp [h1,h2]<;>omega
abbrev endT (x y z n:Int):Bool:=bif bif decide (n≥0) then decide (n<256) else false then (bif decide (n>0) then true else eqL (cells3 x y z) (cells3 0 0 0)) else false
def goodT (x y z n:Int):Bool:=bif badB x then false else bif badB y then false else bif badB z then false else endT x y z n
theorem gt1 {x y z n:Int} (h:badB x=true):false=goodT x y z n:=by unfold goodT;rw [h];rfl
theorem gt2 {x y z n:Int} (h:badB x=false) (h':badB y=true):false=goodT x y z n:=by unfold goodT;rw [h,h'];rfl
theorem gt3 {x y z n:Int} (h:badB x=false) (h':badB y=false) (h'':badB z=true):false=goodT x y z n:=by unfold goodT;rw [h,h',h''];rfl
theorem gt4 {x y z n:Int} (h:badB x=false) (h':badB y=false) (h'':badB z=false):endT x y z n=goodT x y z n:=by unfold goodT;rw [h,h',h''];rfl
theorem goodT_iff {x y z n:Int}:goodT x y z n=true↔(-9007199254740992<x∧x<9007199254740992)∧(-9007199254740992<y∧y<9007199254740992)∧(-9007199254740992<z∧z<9007199254740992)∧0≤n∧n<256∧(0<n∨(x=0∧y=0∧z=0)):=by
  unfold goodT
  rw [← badB_f,← badB_f,← badB_f]
  have e:eqL (cells3 x y z) (cells3 0 0 0)=true↔(x=0∧y=0∧z=0):=by simp [eqL,eqV]
  cases badB x<;>cases badB y<;>cases badB z<;>simp
  rw [e];omega
def OkT (x y z n k a b c:Int):Prop:=goodT x y z n=true∧1≤k∧k≤256∧gV a b c=true
instance (x y z n k a b c:Int):Decidable (OkT x y z n k a b c):=inferInstanceAs (Decidable (_∧_))
abbrev badT (x y z n k a b c:Int):Bool:=bif bif bif !goodT x y z n then true else decide (k<1) then true else decide (k>256) then true else !gV a b c
theorem badT_f {x y z n k a b c:Int}:badT x y z n k a b c=false↔OkT x y z n k a b c:=by
  unfold badT OkT
  cases goodT x y z n<;>cases gV a b c<;>by_cases h3:k<1<;>by_cases h4:k>256<;>simp [h3,h4]<;>omega
abbrev meanV (x y z n:Int):Int × Int × Int × Int:=vT (roundI x n) (roundI y n) (roundI z n)
def thinR (x y z n k a b c:Int):(Int × Int × Int × Int) × (Int × Int × Int) × Bool × Int :=
  if OkT x y z n k a b c then (if n+1<k then ((x+a,y+b,z+c,n+1),(0,0,0),false,0) else if (meanV (x+a) (y+b) (z+c) (n+1)).2.2.2=0 then ((0,0,0,0),((meanV (x+a) (y+b) (z+c) (n+1)).1,(meanV (x+a) (y+b) (z+c) (n+1)).2.1,(meanV (x+a) (y+b) (z+c) (n+1)).2.2.1),true,0) else ((0,0,0,0),(0,0,0),false,(meanV (x+a) (y+b) (z+c) (n+1)).2.2.2)) else ((0,0,0,0),(0,0,0),false,1)
abbrev tTh (p:(Int × Int × Int × Int) × (Int × Int × Int) × Bool × Int):TV := .tup [(true,[.v (.int .i64 p.1.1),.v (.int .i64 p.1.2.1),.v (.int .i64 p.1.2.2.1),.v (.int .i64 p.1.2.2.2)]),(true,[.v (.int .i64 p.2.1.1),.v (.int .i64 p.2.1.2.1),.v (.int .i64 p.2.1.2.2)]),(false,[.v (.bool p.2.2.1)]),(false,[.v (.int .i64 p.2.2.2)])]
theorem th_eq {x y z n a b c e:Int} {t:Bool} {p:(Int × Int × Int × Int) × (Int × Int × Int) × Bool × Int} (h:((x,y,z,n),(a,b,c),t,e)=p):(some (CR.tv (.tup [(true,[.v (.int .i64 x),.v (.int .i64 y),.v (.int .i64 z),.v (.int .i64 n)]),(true,[.v (.int .i64 a),.v (.int .i64 b),.v (.int .i64 c)]),(false,[.v (.bool t)]),(false,[.v (.int .i64 e)])])):Option CR)=some (CR.tv (tTh p)):=by rw [← h]
theorem okT_bd {x y z n k a b c:Int} (h:OkT x y z n k a b c):((-9007199254740992<x∧x<9007199254740992)∧(-9007199254740992<y∧y<9007199254740992)∧(-9007199254740992<z∧z<9007199254740992)∧0≤n∧n<256)∧(1≤k∧k≤256)∧(-35184372088832<a∧a<35184372088832)∧(-35184372088832<b∧b<35184372088832)∧(-35184372088832<c∧c<35184372088832):=by
  obtain ⟨h1,h2,h3,h4⟩:=h
  have g1:=goodT_iff.1 h1
  have g2:=gV_bd h4
  exact ⟨⟨g1.1,g1.2.1,g1.2.2.1,g1.2.2.2.1,g1.2.2.2.2.1⟩,⟨h2,h3⟩,g2⟩
theorem wr {x:Int} (h : -9223372036854775808≤x) (h':x<9223372036854775808):IntKind.i64.wrap x=x:=by rw [i64_wrap];exact wrap64_id h (by omega)
theorem wrap_J (x:Int) : -9223372036854775808≤IntKind.i64.wrap x∧IntKind.i64.wrap x<9223372036854775808:=by rw [i64_wrap];unfold wrap64;omega
theorem sums {x y z n k a b c:Int} (h:badT x y z n k a b c=false):IntKind.i64.wrap (x+a)=x+a∧IntKind.i64.wrap (y+b)=y+b∧IntKind.i64.wrap (z+c)=z+c∧IntKind.i64.wrap (n+1)=n+1:=by
  have hk:=okT_bd (badT_f.1 h)
  exact ⟨wr (by omega) (by omega),wr (by omega) (by omega),wr (by omega) (by omega),wr (by omega) (by omega)⟩
theorem th1 {x y z n k a b c:Int} (h:badT x y z n k a b c=true):(((0:Int),(0:Int),(0:Int),(0:Int)),((0:Int),(0:Int),(0:Int)),false,(1:Int))=thinR x y z n k a b c:=by
  unfold thinR;rw [if_neg (fun hk=>by rw [badT_f.2 hk] at h;cases h)]
theorem th2 {x y z n k a b c:Int} (h:badT x y z n k a b c=false) (h2:decide (IntKind.i64.wrap (n+1)<k)=true):((IntKind.i64.wrap (x+a),IntKind.i64.wrap (y+b),IntKind.i64.wrap (z+c),IntKind.i64.wrap (n+1)),((0:Int),(0:Int),(0:Int)),false,(0:Int))=thinR x y z n k a b c:=by
  obtain ⟨e1,e2,e3,e4⟩:=sums h
  rw [e4] at h2
  unfold thinR;rw [if_pos (badT_f.1 h),if_pos (of_decide_eq_true h2),e1,e2,e3,e4]
theorem th3 {x y z n k a b c:Int} (h:badT x y z n k a b c=false) (h2:decide (IntKind.i64.wrap (n+1)<k)=false) (h3:((meanV (IntKind.i64.wrap (x+a)) (IntKind.i64.wrap (y+b)) (IntKind.i64.wrap (z+c)) (IntKind.i64.wrap (n+1))).2.2.2 != 0)=true):(((0:Int),(0:Int),(0:Int),(0:Int)),((0:Int),(0:Int),(0:Int)),false,(meanV (IntKind.i64.wrap (x+a)) (IntKind.i64.wrap (y+b)) (IntKind.i64.wrap (z+c)) (IntKind.i64.wrap (n+1))).2.2.2)=thinR x y z n k a b c:=by
  obtain ⟨e1,e2,e3,e4⟩:=sums h
  rw [e4] at h2
  rw [e1,e2,e3,e4] at h3
  rw [e1,e2,e3,e4]
  unfold thinR;rw [if_pos (badT_f.1 h),if_neg (of_decide_eq_false h2),if_neg (by simpa using h3)]
theorem th4 {x y z n k a b c:Int} (h:badT x y z n k a b c=false) (h2:decide (IntKind.i64.wrap (n+1)<k)=false) (h3:((meanV (IntKind.i64.wrap (x+a)) (IntKind.i64.wrap (y+b)) (IntKind.i64.wrap (z+c)) (IntKind.i64.wrap (n+1))).2.2.2 != 0)=false):(((0:Int),(0:Int),(0:Int),(0:Int)),((meanV (IntKind.i64.wrap (x+a)) (IntKind.i64.wrap (y+b)) (IntKind.i64.wrap (z+c)) (IntKind.i64.wrap (n+1))).1,(meanV (IntKind.i64.wrap (x+a)) (IntKind.i64.wrap (y+b)) (IntKind.i64.wrap (z+c)) (IntKind.i64.wrap (n+1))).2.1,(meanV (IntKind.i64.wrap (x+a)) (IntKind.i64.wrap (y+b)) (IntKind.i64.wrap (z+c)) (IntKind.i64.wrap (n+1))).2.2.1),true,(0:Int))=thinR x y z n k a b c:=by
  obtain ⟨e1,e2,e3,e4⟩:=sums h
  rw [e4] at h2
  rw [e1,e2,e3,e4] at h3
  rw [e1,e2,e3,e4]
  unfold thinR;rw [if_pos (badT_f.1 h),if_neg (of_decide_eq_false h2),if_pos (by simpa using h3)]
section
set_option maxRecDepth 100000
set_option maxHeartbeats 4000000
abbrev eqThin:EqT Try.prog:=eqS Try.prog 42 [some .i64,some .i64,some .i64,some .i64] (by kernel_rfl)
def cTGood:Con Try.prog where
  f:=45
  sem:=fun xs=>match xs with
    | [.agg [.v (.int .i64 x),.v (.int .i64 y),.v (.int .i64 z),.v (.int .i64 n)]]=>some (True,.tv (tB (goodT x y z n)))
    | _=>none
  ok := by
    intro xs p r' h hp
    refine ⟨⟨_,Try.func45,by kernel_rfl,rfl⟩,fun us w ha=>?_⟩
    split at h
    · rename_i x y z n
      cases h
      refine fnu_ret (cxOk Try.prog ints_ok [eqVec] [cVOf]) follows [1,2,7,8,9] Try.func45 rfl 100 _ rfl (by simp) ?_ ha
      repeat' first
        | exact trivial
        | (refine And.intro (show regChk _ _ _ _ _=true from by kernel_rfl) (And.intro ?_ ?_))
        | (refine And.intro (fun _=>?_) (fun h=>absurd (show true=false from h) (by decide)))
        | (refine And.intro (fun h=>absurd (show false=true from h) (by decide)) (fun _=>?_))
        | (refine And.intro (fun hb=>?_) (fun hb'=>?_))
        | refine And.intro ?_ ?_
        | intro _
      all_goals first
        | (show some (CR.tv (tB _))=some (CR.tv (tB _));first|exact tB_eq (gt1 (by assumption))|exact tB_eq (gt2 (by assumption) (by assumption))|exact tB_eq (gt3 (by assumption) (by assumption) (by assumption))|exact tB_eq (gt4 (by assumption) (by assumption) (by assumption)))
        | (show (_:Bool)=(_:Bool);first|assumption|exact beq_iff_eq.2 (by assumption)|(exact and_tt (by first|assumption|exact beq_iff_eq.2 (by assumption)) (by first|assumption|exact beq_iff_eq.2 (by assumption))))
        | (show (_:Nat)=(_:Nat);rfl)
        | (show (_:Nat)≤1000;decide)
        | (show (_:Int)=(_:Int);rfl)
        | (show (_:Int)≤_;decide)
        | (show (_:Int)<_;decide)
        -- PVC
    · cases h
def cTMean:Con Try.prog where
  f:=46
  sem:=fun xs=>match xs with
    | [.sc (.v (.int .i64 x)),.sc (.v (.int .i64 n))]=>some (I64 x∧I64 n∧0<n,.tv (tI (roundI x n)))
    | _=>none
  ok := by
    intro xs p r' h hp
    refine ⟨⟨_,Try.func46,by kernel_rfl,rfl⟩,fun us w ha=>?_⟩
    split at h
    · rename_i x n
      cases h
      obtain ⟨hx,hn,h0⟩:=hp
      have x1:=hx.1
      have x2:=hx.2
      have n1:=hn.1
      have n2:=hn.2
      refine fn_ret (cxOk Try.prog ints_ok [] [cRound,cFrom]) follows Try.func46 rfl 100 _ rfl (by simp) ?_ ha
      repeat' first
        | exact trivial
        | (refine And.intro (show regChk _ _ _ _ _=true from by kernel_rfl) (And.intro ?_ ?_))
        | (refine And.intro (fun _=>?_) (fun h=>absurd (show true=false from h) (by decide)))
        | (refine And.intro (fun h=>absurd (show false=true from h) (by decide)) (fun _=>?_))
        | (refine And.intro (fun hb=>?_) (fun hb'=>?_))
        | refine And.intro ?_ ?_
      all_goals first
        | (show Len0 _;exact len_t4 (by omega) (by omega))
        | (show (_:Int)≠0;omega)
        | (show Int.natAbs _<(_:Nat);omega)
        | (show (_:Int)≤_;omega)
        | (show (_:Int)<_;omega)
        | (show some (CR.tv (tI _))=some (CR.tv (tI _));rfl)
        | (show (_:Nat)=(_:Nat);rfl)
        | (show (_:Nat)≤1000;decide)
        | (show (_:Int)=(_:Int);rfl)
        | (show (_:Int)≤_;decide)
        | (show (_:Int)<_;decide)
        -- PVC
    · cases h
def cEachMean:Con Try.prog where
  f:=37
  sem:=fun xs=>match xs with
    | [.row 3 [.v (.int .i64 a),.v (.int .i64 b),.v (.int .i64 c)],.row 3 [.v (.int .i64 d),.v (.int .i64 e),.v (.int .i64 f)],.clo g []]=>if g=46 then some ((I64 a∧I64 b∧I64 c)∧(I64 d∧0<d)∧(I64 e∧0<e)∧(I64 f∧0<f),.new 77 3 2 [.neg (roundI a d),.mag (roundI a d),.neg (roundI b e),.mag (roundI b e),.neg (roundI c f),.mag (roundI c f)]) else none
    | _=>none
  ok := by
    intro xs p r' h hp
    refine ⟨⟨_,Try.func37,by kernel_rfl,rfl⟩,fun us w ha=>?_⟩
    split at h
    · rename_i a b c d e f g
      split at h
      case isFalse=>cases h
      rename_i hf
      subst hf
      cases h
      obtain ⟨⟨h1,h2,h3⟩,⟨h4,p4⟩,⟨h5,p5⟩,h6,p6⟩:=hp
      have g11:=h1.1
      have g12:=h1.2
      have g21:=h2.1
      have g22:=h2.2
      have g31:=h3.1
      have g32:=h3.2
      have g41:=h4.1
      have g42:=h4.2
      have g51:=h5.1
      have g52:=h5.2
      have g61:=h6.1
      have g62:=h6.2
      refine fnu_ret (cxOk Try.prog ints_ok [] [cTMean]) follows [0,1,2,6,9,10,11] Try.func37 rfl 100 _ rfl (by simp) ?_ ha
      repeat' first
        | exact trivial
        | (refine And.intro (show regChk _ _ _ _ _=true from by kernel_rfl) (And.intro ?_ ?_))
        | (refine And.intro (fun _=>?_) (fun h=>absurd (show true=false from h) (by decide)))
        | (refine And.intro (fun h=>absurd (show false=true from h) (by decide)) (fun _=>?_))
        | (refine And.intro (fun hb=>?_) (fun hb'=>?_))
        | refine And.intro ?_ ?_
      all_goals first
        | (show some (CR.new _ _ _ _)=some (CR.new _ _ _ _);rfl)
        | (show (_:Int)≤_;first|omega|decide)
        | (show (_:Int)<_;first|omega|decide)
        | (show (_:Nat)=(_:Nat);rfl)
        | (show (_:Nat)≤1000;decide)
        | (show (_:Int)=(_:Int);rfl)
        | (show (_:Int)≤_;decide)
        | (show (_:Int)<_;decide)
        -- PVC
    · cases h
def cThin:Con Try.prog where
  f:=23
  sem:=fun xs=>match xs with
    | [.agg [.v (.int .i64 x),.v (.int .i64 y),.v (.int .i64 z),.v (.int .i64 n)],.sc (.v (.int .i64 k)),.agg [.v (.int .i64 a),.v (.int .i64 b),.v (.int .i64 c)]]=>some (True,.tv (tTh (thinR x y z n k a b c)))
    | _=>none
  ok := by
    intro xs p r' h hp
    refine ⟨⟨_,Try.func23,by kernel_rfl,rfl⟩,fun us w ha=>?_⟩
    split at h
    · rename_i x y z n k a b c
      cases h
      refine fn_ret (cxOk Try.prog ints_ok [] [cTGood,cVGood,cVOf,cEachMean,cVTold]) follows Try.func23 rfl 100 _ rfl (by simp) ?_ ha
      repeat' first
        | exact trivial
        | (refine And.intro (show regChk _ _ _ _ _=true from by kernel_rfl) (And.intro ?_ ?_))
        | (refine And.intro (fun _=>?_) (fun h=>absurd (show true=false from h) (by decide)))
        | (refine And.intro (fun h=>absurd (show false=true from h) (by decide)) (fun _=>?_))
        | (refine And.intro (fun hb=>?_) (fun hb'=>?_))
        | refine And.intro ?_ ?_
        | intro _
      all_goals first
        | (show some (CR.tv (.tup _))=some (CR.tv (tTh _));first|exact th_eq (th1 (by assumption))|exact th_eq (th2 (by assumption) (by assumption))|exact th_eq (th3 (by assumption) (by assumption) (by assumption))|exact th_eq (th4 (by assumption) (by assumption) (by assumption)))
        | (show (_:Int)≤IntKind.i64.wrap _;exact (wrap_J _).1)
        | (show IntKind.i64.wrap _<(9223372036854775808:Int);exact (wrap_J _).2)
        | (show (0:Int)<IntKind.i64.wrap (n+1);have hk:=okT_bd (badT_f.1 (show badT x y z n k a b c=false from by assumption));rw [(sums (show badT x y z n k a b c=false from by assumption)).2.2.2];omega)
        | (show (_:Bool)=(_:Bool);first|assumption|exact beq_iff_eq.2 (by assumption)|(exact and_tt (by first|assumption|exact beq_iff_eq.2 (by assumption)) (by first|assumption|exact beq_iff_eq.2 (by assumption))))
        | (show (_:Nat)=(_:Nat);rfl)
        | (show (_:Nat)≤1000;decide)
        | (show (_:Int)=(_:Int);rfl)
        | (show (_:Int)≤_;decide)
        | (show (_:Int)<_;decide)
        -- PVC
    · cases h
def cWakes14:Con Try.prog where
  f:=25
  sem:=fun xs=>match xs with
    | []=>some (True,.tv (tB true))
    | _=>none
  ok := by
    intro xs p r' h hp
    refine ⟨⟨_,Try.func25,by kernel_rfl,rfl⟩,fun us w ha=>?_⟩
    split at h
    · skip
      cases h
      refine fn_ret (cxOk Try.prog ints_ok [] [cThin,cNum14]) follows Try.func25 rfl 100 _ rfl (by simp) ?_ ha
      repeat' first
        | exact trivial
        | (refine And.intro (show regChk _ _ _ _ _=true from by kernel_rfl) (And.intro ?_ ?_))
        | (refine And.intro (fun _=>?_) (fun h=>absurd (show true=false from h) (by decide)))
        | (refine And.intro (fun h=>absurd (show false=true from h) (by decide)) (fun _=>?_))
        | (refine And.intro (fun hb=>?_) (fun hb'=>?_))
        | refine And.intro ?_ ?_
        | intro _
      all_goals first
        | (show some (CR.tv (tB _))=some (CR.tv (tB _));exact tB_eq (by decide +kernel))
        | (show (_:Bool)=(_:Bool);first|assumption|exact beq_iff_eq.2 (by assumption)|(exact and_tt (by first|assumption|exact beq_iff_eq.2 (by assumption)) (by first|assumption|exact beq_iff_eq.2 (by assumption))))
        | (show (_:Nat)=(_:Nat);rfl)
        | (show (_:Nat)≤1000;decide)
        | (show (_:Int)=(_:Int);rfl)
        | (show (_:Int)≤_;decide)
        | (show (_:Int)<_;decide)
        -- PVC
    · cases h
end
end Go.Proofs.Ytglgmepolanfpaa.Wh
end
section
set_option linter.unusedVariables false
set_option linter.unusedSimpArgs false
namespace Go.Proofs.Ytglgmepolanfpaa.Wh
open Go Go.RowKit Go.Proofs.YtglgmepolanfpaaW.PrintWords Go.Proofs.YtglgmepolanfpaaW.PrintMore Go.Proofs.YtglgmepolanfpaaW.Aid Go.Proofs.YtglgmepolanfpaaW.Big Go.Proofs.YtglgmepolanfpaaW.Sx Go.Proofs.Ytglgmepolanfpaa.BitsWalk Go.Proofs.Ytglgmepolanfpaa.Limbs Go.Proofs.Ytglgmepolanfpaa.Whole Go.Proofs.Ytglgmepolanfpaa.FxWalk Go.Proofs
structure S14 where
  i:Int
  sx:Int
  sy:Int
  sz:Int
  tn:Int
  n:Int
  sum:Int
  lo:Int
  hi:Int
abbrev M14:Int:=17592186044416
def P14 (k sx sy sz tn n sum lo hi:Int):Prop:=tn=n∧0≤n∧n<k∧k≤9∧sz=sum∧n*lo≤sum∧sum≤n*hi∧(-M14≤lo∧lo≤M14)∧(-M14≤hi∧hi≤M14)∧(-(n*M14)≤sx∧sx≤n*M14)∧(-(n*M14)≤sy∧sy≤n*M14)
def I14 (k:Int) (N:Nat) (v:S14):Prop:=(0≤v.i∧v.i≤(N:Int))∧v.tn=v.n∧0≤v.n∧v.n<k∧k≤9∧(v.n=0→v.sx=0∧v.sy=0∧v.sz=0)∧(v.n≠0→P14 k v.sx v.sy v.sz v.tn v.n v.sum v.lo v.hi)
theorem pA {k b:Int} {N:Nat} {v:S14} (h:I14 k N v) (hn:(v.n == 0)=true) (hb : -M14≤b∧b≤M14):P14 k v.sx v.sy v.sz v.tn v.n 0 b b:=by
  obtain ⟨_,h1,h2,h3,h4,h5,h6⟩:=h
  have hn:=beq_iff_eq.1 hn
  obtain ⟨a,b',c⟩:=h5 hn
  exact ⟨h1,h2,h3,h4,c,by rw [hn];omega,by rw [hn];omega,hb,hb,by rw [hn];omega,by rw [hn];omega⟩
theorem pB {k:Int} {N:Nat} {v:S14} (h:I14 k N v) (hn:(v.n == 0)=false):P14 k v.sx v.sy v.sz v.tn v.n v.sum v.lo v.hi:=h.2.2.2.2.2.2 (by simpa using hn)
abbrev mnI (a b:Int):Int:=if b<a then b else a
abbrev mxI (a b:Int):Int:=if b>a then b else a
theorem wd_M {x:Int} (h : -M14≤x∧x≤M14):wd x=true:=by rw [wd_iff];unfold M14 at h;omega
theorem run14 {k sx sy sz tn n sum lo hi a b c:Int} (h:P14 k sx sy sz tn n sum lo hi) (h0:n=0→sx=0∧sy=0∧sz=0) (ha : -M14≤a∧a≤M14) (hb : -M14≤b∧b≤M14) (hc : -M14≤c∧c≤M14) :
    P14 (k+1) (sx+a) (sy+b) (sz+c) (tn+1) (n+1) (sum+c) (mnI lo c) (mxI hi c)∨k=9:=by
  by_cases hk:k=9
  · exact Or.inr hk
  · left
    obtain ⟨h1,h2,h3,h4,h5,h6,h7,h8,h9,h10,h11⟩:=h
    have e1:n*mnI lo c≤n*lo:=Int.mul_le_mul_of_nonneg_left (by unfold mnI;split<;>omega) h2
    have e2:n*hi≤n*mxI hi c:=Int.mul_le_mul_of_nonneg_left (by unfold mxI;split<;>omega) h2
    have e3:mnI lo c≤c:=by unfold mnI;split<;>omega
    have e4:c≤mxI hi c:=by unfold mxI;split<;>omega
    refine ⟨by omega,by omega,by omega,by omega,by omega,?_,?_,?_,?_,?_,?_⟩
    · rw [Int.add_mul,Int.one_mul];omega
    · rw [Int.add_mul,Int.one_mul];omega
    · unfold mnI;split<;>omega
    · unfold mxI;split<;>omega
    · rw [Int.add_mul,Int.one_mul];omega
    · rw [Int.add_mul,Int.one_mul];omega
theorem sum14 {k sx sy sz tn n sum lo hi a b c:Int} (h:P14 k sx sy sz tn n sum lo hi) (ha : -M14≤a∧a≤M14) (hb : -M14≤b∧b≤M14) (hc : -M14≤c∧c≤M14) :
    ((n+1)*mnI lo c≤sum+c∧sum+c≤(n+1)*mxI hi c)∧(-M14≤mnI lo c∧mnI lo c≤M14)∧(-M14≤mxI hi c∧mxI hi c≤M14)∧(-((n+1)*M14)≤sx+a∧sx+a≤(n+1)*M14)∧(-((n+1)*M14)≤sy+b∧sy+b≤(n+1)*M14)∧(-((n+1)*M14)≤sum+c∧sum+c≤(n+1)*M14):=by
  obtain ⟨h1,h2,h3,h4,h5,h6,h7,h8,h9,h10,h11⟩:=h
  have e1:n*mnI lo c≤n*lo:=Int.mul_le_mul_of_nonneg_left (by unfold mnI;split<;>omega) h2
  have e2:n*hi≤n*mxI hi c:=Int.mul_le_mul_of_nonneg_left (by unfold mxI;split<;>omega) h2
  have e3:mnI lo c≤c:=by unfold mnI;split<;>omega
  have e4:c≤mxI hi c:=by unfold mxI;split<;>omega
  have e5:n * -M14≤n*lo:=Int.mul_le_mul_of_nonneg_left h8.1 h2
  have e6:n*hi≤n*M14:=Int.mul_le_mul_of_nonneg_left h9.2 h2
  rw [Int.mul_neg] at e5
  refine ⟨⟨?_,?_⟩,?_,?_,?_,?_,?_⟩
  · rw [Int.add_mul,Int.one_mul];omega
  · rw [Int.add_mul,Int.one_mul];omega
  · unfold mnI;split<;>omega
  · unfold mxI;split<;>omega
  · rw [Int.add_mul,Int.one_mul];omega
  · rw [Int.add_mul,Int.one_mul];omega
  · rw [Int.add_mul,Int.one_mul];omega
theorem mulM {n:Int} (h0:0≤n) (h:n≤9):n*M14≤158329674399744:=by
  have:=Int.mul_le_mul_of_nonneg_right h (show 0≤M14 by decide)
  unfold M14 at *;omega
theorem ok14 {k sx sy sz tn n sum lo hi a b c:Int} (h:P14 k sx sy sz tn n sum lo hi) (h0:n=0→sx=0∧sy=0∧sz=0) (ha : -M14≤a∧a≤M14) (hb : -M14≤b∧b≤M14) (hc : -M14≤c∧c≤M14):OkT sx sy sz tn k a b c:=by
  obtain ⟨h1,h2,h3,h4,h5,h6,h7,h8,h9,h10,h11⟩:=h
  have e0:=mulM h2 (by omega)
  have e5:n * -M14≤n*lo:=Int.mul_le_mul_of_nonneg_left h8.1 h2
  have e6:n*hi≤n*M14:=Int.mul_le_mul_of_nonneg_left h9.2 h2
  rw [Int.mul_neg] at e5
  refine ⟨goodT_iff.2 ⟨by omega,by omega,by omega,by omega,by omega,?_⟩,by omega,by omega,gV_iff.2 ⟨wd_M ha,wd_M hb,wd_M hc⟩⟩
  by_cases hn:n=0
  · exact Or.inr (h0 hn)
  · exact Or.inl (by omega)
theorem mean_bd {s k:Int} (hk:0<k) (h : -(k*M14)≤s∧s≤k*M14) : -M14≤roundI s k∧roundI s k≤M14:=by
  rw [ri_p hk]
  exact ⟨le_rp hk (by rw [Int.mul_neg];omega),rp_le hk h.2⟩
theorem ans14 {k sx sy sz tn n sum lo hi a b c:Int} (h:P14 k sx sy sz tn n sum lo hi) (h0:n=0→sx=0∧sy=0∧sz=0) (ha : -M14≤a∧a≤M14) (hb : -M14≤b∧b≤M14) (hc : -M14≤c∧c≤M14) :
    (n+1<k∧thinR sx sy sz tn k a b c=((sx+a,sy+b,sz+c,tn+1),(0,0,0),false,0)) ∨
    (n+1=k∧thinR sx sy sz tn k a b c=((0,0,0,0),(roundI (sx+a) k,roundI (sy+b) k,roundI (sz+c) k),true,0)):=by
  have hok:=ok14 h h0 ha hb hc
  have hs:=sum14 h ha hb hc
  obtain ⟨h1,h2,h3,h4,h5,h6⟩:=h
  by_cases hlt:n+1<k
  · left
    refine ⟨hlt,?_⟩
    unfold thinR;rw [if_pos hok,if_pos (by omega)]
  · right
    have hk:n+1=k:=by omega
    refine ⟨hk,?_⟩
    have e1:=mean_bd (s:=sx+a) (k:=n+1) (by omega) hs.2.2.2.1
    have e2:=mean_bd (s:=sy+b) (k:=n+1) (by omega) hs.2.2.2.2.1
    have e3:=mean_bd (s:=sz+c) (k:=n+1) (by omega) (by rw [h5];exact hs.2.2.2.2.2)
    have ev:meanV (sx+a) (sy+b) (sz+c) (tn+1)=(roundI (sx+a) (n+1),roundI (sy+b) (n+1),roundI (sz+c) (n+1),0):=by
      rw [h1];unfold meanV vT;rw [if_pos (by simp [wd_M e1,wd_M e2,wd_M e3])]
    unfold thinR;rw [if_pos hok,if_neg (by omega),if_pos (by rw [ev]),ev,← hk]
theorem wr1 {n k:Int} (h:0≤n) (h':n<k) (h2:k≤9):IntKind.i64.wrap (n+1)=n+1:=wr (by omega) (by omega)
theorem te1 {k sx sy sz tn n sum lo hi a b c:Int} (h:P14 k sx sy sz tn n sum lo hi) (h0:n=0→sx=0∧sy=0∧sz=0) (ha : -M14≤a∧a≤M14) (hb : -M14≤b∧b≤M14) (hc : -M14≤c∧c≤M14):(bif (thinR sx sy sz tn k a b c).2.2.2 != 0 then true else !((thinR sx sy sz tn k a b c).2.2.1 == (IntKind.i64.wrap (n+1) == k)))=false:=by
  rw [wr1 h.2.1 h.2.2.1 h.2.2.2.1]
  rcases ans14 h h0 ha hb hc with ⟨h1,e⟩|⟨h1,e⟩
  · rw [e,beq_eq_false_iff_ne.2 (show n+1≠k by omega)];rfl
  · rw [e,beq_iff_eq.2 h1];rfl
abbrev d14 (m k s:Int):Int:=IntKind.i64.wrap (2*IntKind.i64.wrap (IntKind.i64.wrap (m*k)-s))
theorem sum_w {k sx sy sz tn n sum lo hi c:Int} (h:P14 k sx sy sz tn n sum lo hi) (hc : -M14≤c∧c≤M14):IntKind.i64.wrap (sum+c)=sum+c:=by
  have hs:=sum14 h hc hc hc
  have e0:=mulM (n:=n+1) (by have:=h.2.1;omega) (by have:=h.2.2.1;have:=h.2.2.2.1;omega)
  exact wr (by omega) (by omega)
theorem te2 {k sx sy sz tn n sum lo hi a b c:Int} (h:P14 k sx sy sz tn n sum lo hi) (h0:n=0→sx=0∧sy=0∧sz=0) (ha : -M14≤a∧a≤M14) (hb : -M14≤b∧b≤M14) (hc : -M14≤c∧c≤M14) (ht:(!(thinR sx sy sz tn k a b c).2.2.1)=false) :
    (bif bif bif bif decide ((thinR sx sy sz tn k a b c).2.1.2.2<mnI lo c) then true else decide ((thinR sx sy sz tn k a b c).2.1.2.2>mxI hi c) then true else decide (d14 (thinR sx sy sz tn k a b c).2.1.2.2 k (IntKind.i64.wrap (sum+c))>k) then true else decide (d14 (thinR sx sy sz tn k a b c).2.1.2.2 k (IntKind.i64.wrap (sum+c))<IntKind.i64.wrap (0-k)) then true
      else !eqL [.int .i64 (thinR sx sy sz tn k a b c).1.1,.int .i64 (thinR sx sy sz tn k a b c).1.2.1,.int .i64 (thinR sx sy sz tn k a b c).1.2.2.1,.int .i64 (thinR sx sy sz tn k a b c).1.2.2.2] [.int .i64 0,.int .i64 0,.int .i64 0,.int .i64 0])=false:=by
  rcases ans14 h h0 ha hb hc with ⟨h1,e⟩|⟨h1,e⟩
  · rw [e] at ht;cases ht
  · rw [e,sum_w h hc]
    have hs:=sum14 h ha hb hc
    obtain ⟨g1,g2,g3,g4,g5,g6⟩:=h
    have hk:0<k:=by omega
    rw [← g5] at hs ⊢
    have e1:=mean_bd (s:=sz+c) (k:=k) hk (by rw [← h1];exact hs.2.2.2.2.2)
    rw [h1] at hs
    have b1:mnI lo c≤roundI (sz+c) k:=by rw [ri_p hk];exact le_rp hk hs.1.1
    have b2:roundI (sz+c) k≤mxI hi c:=by rw [ri_p hk];exact rp_le hk hs.1.2
    have sp:=rp_spec (sz+c) hk
    rw [← ri_p hk] at sp
    obtain ⟨s1,s2,_⟩:=sp
    generalize roundI (sz+c) k=m at *
    have em:k*m=m*k:=Int.mul_comm _ _
    rw [em] at s1 s2
    have e0:=mulM (n:=k) (by omega) g4
    have w1:IntKind.i64.wrap (m*k)=m*k:=wr (by omega) (by omega)
    have w2:IntKind.i64.wrap (m*k-(sz+c))=m*k-(sz+c):=wr (by omega) (by omega)
    have w3:d14 m k (sz+c)=2*(m*k-(sz+c)):=by unfold d14;rw [w1,w2];exact wr (by omega) (by omega)
    have w4:IntKind.i64.wrap (0-k) = -k:=by rw [wr (by omega) (by omega)];omega
    dsimp only
    rw [w3,w4,decide_eq_false (by omega),decide_eq_false (by omega),decide_eq_false (by omega),decide_eq_false (by omega)]
    rfl
theorem i_step {v:Int} {N:Nat} (h0:0≤v∧v≤(N:Int)) (hC:(bif decide (v<(N:Int)) then decide (v<60) else false)=true):(0≤IntKind.i64.wrap (v+1)∧IntKind.i64.wrap (v+1)≤(N:Int))∧((N:Int)-IntKind.i64.wrap (v+1)).toNat<((N:Int)-v).toNat:=by
  have h1:=hC1 hC
  rw [wrap1 h0.1 (by omega)]
  omega
theorem go14 {k a b c sum lo hi:Int} {N:Nat} {v:S14} (hI:I14 k N v) (h:P14 k v.sx v.sy v.sz v.tn v.n sum lo hi) (ha : -M14≤a∧a≤M14) (hb : -M14≤b∧b≤M14) (hc : -M14≤c∧c≤M14) (hC:(bif decide (v.i<(N:Int)) then decide (v.i<60) else false)=true) (ht:(!(thinR v.sx v.sy v.sz v.tn k a b c).2.2.1)=true) :
    I14 k N ⟨IntKind.i64.wrap (v.i+1),(thinR v.sx v.sy v.sz v.tn k a b c).1.1,(thinR v.sx v.sy v.sz v.tn k a b c).1.2.1,(thinR v.sx v.sy v.sz v.tn k a b c).1.2.2.1,(thinR v.sx v.sy v.sz v.tn k a b c).1.2.2.2,IntKind.i64.wrap (v.n+1),IntKind.i64.wrap (sum+c),mnI lo c,mxI hi c⟩:=by
  have hi1:=i_step hI.1 hC
  rw [sum_w h hc,wr1 h.2.1 h.2.2.1 h.2.2.2.1]
  have hs:=sum14 h ha hb hc
  rcases ans14 h hI.2.2.2.2.2.1 ha hb hc with ⟨h1,e⟩|⟨h1,e⟩
  · rw [e]
    obtain ⟨g1,g2,g3,g4,g5,g6⟩:=h
    have p:P14 k (v.sx+a) (v.sy+b) (v.sz+c) (v.tn+1) (v.n+1) (sum+c) (mnI lo c) (mxI hi c):=⟨by omega,by omega,h1,g4,by omega,hs.1.1,hs.1.2,hs.2.1,hs.2.2.1,hs.2.2.2.1,hs.2.2.2.2.1⟩
    exact ⟨hi1.1,show v.tn+1=v.n+1 by omega,show 0≤v.n+1 by omega,h1,g4,fun h=>absurd (show v.n+1=0 from h) (by omega),fun _=>p⟩
  · rw [e] at ht;cases ht
theorem new14 {k a b c sum lo hi:Int} {N:Nat} {v:S14} (hI:I14 k N v) (h:P14 k v.sx v.sy v.sz v.tn v.n sum lo hi) (ha : -M14≤a∧a≤M14) (hb : -M14≤b∧b≤M14) (hc : -M14≤c∧c≤M14) (hC:(bif decide (v.i<(N:Int)) then decide (v.i<60) else false)=true) (ht:(!(thinR v.sx v.sy v.sz v.tn k a b c).2.2.1)=false) :
    I14 k N ⟨IntKind.i64.wrap (v.i+1),(thinR v.sx v.sy v.sz v.tn k a b c).1.1,(thinR v.sx v.sy v.sz v.tn k a b c).1.2.1,(thinR v.sx v.sy v.sz v.tn k a b c).1.2.2.1,(thinR v.sx v.sy v.sz v.tn k a b c).1.2.2.2,0,IntKind.i64.wrap (sum+c),mnI lo c,mxI hi c⟩:=by
  have hi1:=i_step hI.1 hC
  rcases ans14 h hI.2.2.2.2.2.1 ha hb hc with ⟨h1,e⟩|⟨h1,e⟩
  · rw [e] at ht;cases ht
  · rw [e]
    have g2:=h.2.1
    have g3:=h.2.2.1
    exact ⟨hi1.1,rfl,Int.le_refl _,show 0<k by omega,h.2.2.2.1,fun _=>⟨rfl,rfl,rfl⟩,fun h=>absurd rfl h⟩
theorem nz14 {n:Nat} (h:(((n:Int)) == 0)=false):(0:Int)<(n:Int):=Decidable.byContradiction fun hn=>by rw [show (n:Int)=0 by omega] at h;exact absurd h (by decide)
abbrev k14 (x:Int):Int:=IntKind.i64.wrap (1+withinR x 9)
theorem k14_bd (x:Int):1≤k14 x∧k14 x≤9:=by
  have:=within_bd x (n:=9) (by decide)
  unfold k14
  rw [wr (by omega) (by omega)];omega
theorem in14 {k:Int} (h:1≤k∧k≤9) (N:Nat):I14 k N ⟨0,0,0,0,0,0,0,0,0⟩:=⟨⟨Int.le_refl _,Int.natCast_nonneg _⟩,rfl,Int.le_refl _,show 0<k by omega,h.2,fun _=>⟨rfl,rfl,rfl⟩,fun h=>absurd rfl h⟩
theorem bM (x:Int) : -M14≤broughtR x 17592186044416∧broughtR x 17592186044416≤M14:=brought_bd x (by decide)
section
set_option maxRecDepth 100000
set_option maxHeartbeats 8000000
abbrev row14 (tx ty tz tn kk a b c:Nat→Int):Nat→List A0:=fun j=>[.v (.int .i64 (tx j)),.v (.int .i64 (ty j)),.v (.int .i64 (tz j)),.v (.int .i64 (tn j)),.v (.int .i64 (kk j)),.v (.int .i64 (a j)),.v (.int .i64 (b j)),.v (.int .i64 (c j))]
def law14 (n:Nat) (tx ty tz tn kk a b c:Nat→Int):LI S14 where
  gs:=fun v=>[(0,.rowF n 8 (row14 tx ty tz tn kk a b c)),(2,tB false),(3,tN .i64 (k14 (kk (Int.toNat 0)))),(4,.ptr 4 0),(5,tN .i64 v.n),(6,tN .i64 v.sum),(7,tN .i64 v.lo),(8,tN .i64 v.hi),(9,tN .i64 v.i)]
  bs:=fun v=>[(4,42,[.v (.int .i64 v.sx),.v (.int .i64 v.sy),.v (.int .i64 v.sz),.v (.int .i64 v.tn)])]
  I:=fun v=>I14 (k14 (kk (Int.toNat 0))) n v
  μ:=fun v=>((n:Int)-v.i).toNat
theorem means_law (n:Nat) (tx ty tz tn kk a b c:Nat→Int) {us:List Value} {w:World} (hargs:All2 (TV.reads (fun _=>0) w.heap.size w) [.rowF n 8 (row14 tx ty tz tn kk a b c)] us):Ret Try.prog 7 us.toArray w (.tv (tB true)):=by
  refine fnl_ret (law14 n tx ty tz tn kk a b c) (cxOk Try.prog ints_ok [eqThin] [cWakes14,cWithin,cL0Vec,cThin,cNum14]) follows Try.func7 rfl 300 _ rfl (by simp) ?_ hargs
  repeat' first
    | exact trivial
    | (refine And.intro (show regChk _ _ _ _ _=true from by kernel_rfl) (And.intro ?_ ?_))
    | (refine And.intro (fun _=>?_) (fun h=>absurd (show true=false from h) (by decide)))
    | (refine And.intro (fun h=>absurd (show false=true from h) (by decide)) (fun _=>?_))
    | (have:=hC;refine And.intro (fun hb=>?_) (fun hb'=>?_))
    | (have:=hZ;refine And.intro (fun hC=>?_) (fun hC=>?_))
    | refine And.intro (fun hZ=>?_) (fun hZ=>?_)
    | refine And.intro ?_ ?_
    | (intro v hv)
    | intro _
  all_goals first
    | (show wfB _ _=true;rfl)
    | (show (_:Bool)=true;assumption)
    | (show (_:Bool)=true;exact beq_iff_eq.2 (by assumption))
    | (show (0:Int)≤v.i;exact hv.1.1)
    | (show v.i<(n:Int);exact (hC1 hC).1)
    | (show (0:Int)≤_;decide)
    | (show (_:Int)<(n:Int);exact nz14 hZ)
    | (show (_:Int)<_;decide)
    | (exact ⟨⟨0,0,0,0,0,0,0,0,0⟩,in14 (k14_bd _) n,⟨rfl,rfl,rfl,rfl,rfl,rfl,rfl,rfl,rfl,trivial⟩,⟨rfl,⟨rfl,rfl,rfl,rfl,trivial⟩,trivial⟩⟩)
    | (show some (CR.tv (tB true))=some (CR.tv (tB true));rfl)
    | (show some (CR.tv (tB false))=some (CR.tv (tB true));exfalso;first
        | exact no (te1 (pA hv (by assumption) (bM (c v.i.toNat))) hv.2.2.2.2.2.1 (bM (a v.i.toNat)) (bM (b v.i.toNat)) (bM (c v.i.toNat))) (by assumption)
        | exact no (te1 (pB hv (by assumption)) hv.2.2.2.2.2.1 (bM (a v.i.toNat)) (bM (b v.i.toNat)) (bM (c v.i.toNat))) (by assumption)
        | exact no (te2 (pA hv (by assumption) (bM (c v.i.toNat))) hv.2.2.2.2.2.1 (bM (a v.i.toNat)) (bM (b v.i.toNat)) (bM (c v.i.toNat)) (by assumption)) (by assumption)
        | exact no (te2 (pB hv (by assumption)) hv.2.2.2.2.2.1 (bM (a v.i.toNat)) (bM (b v.i.toNat)) (bM (c v.i.toNat)) (by assumption)) (by assumption))
    | (refine ⟨_,?_,go14 hv (pA hv (by assumption) (bM (c v.i.toNat))) (bM (a v.i.toNat)) (bM (b v.i.toNat)) (bM (c v.i.toNat)) hC (by assumption),⟨rfl,rfl,rfl,rfl,rfl,rfl,rfl,rfl,rfl,trivial⟩,⟨rfl,⟨rfl,rfl,rfl,rfl,trivial⟩,trivial⟩⟩;exact (i_step hv.1 hC).2)
    | (refine ⟨_,?_,go14 hv (pB hv (by assumption)) (bM (a v.i.toNat)) (bM (b v.i.toNat)) (bM (c v.i.toNat)) hC (by assumption),⟨rfl,rfl,rfl,rfl,rfl,rfl,rfl,rfl,rfl,trivial⟩,⟨rfl,⟨rfl,rfl,rfl,rfl,trivial⟩,trivial⟩⟩;exact (i_step hv.1 hC).2)
    | (refine ⟨_,?_,new14 hv (pA hv (by assumption) (bM (c v.i.toNat))) (bM (a v.i.toNat)) (bM (b v.i.toNat)) (bM (c v.i.toNat)) hC (by assumption),⟨rfl,rfl,rfl,rfl,rfl,rfl,rfl,rfl,rfl,trivial⟩,⟨rfl,⟨rfl,rfl,rfl,rfl,trivial⟩,trivial⟩⟩;exact (i_step hv.1 hC).2)
    | (refine ⟨_,?_,new14 hv (pB hv (by assumption)) (bM (a v.i.toNat)) (bM (b v.i.toNat)) (bM (c v.i.toNat)) hC (by assumption),⟨rfl,rfl,rfl,rfl,rfl,rfl,rfl,rfl,rfl,trivial⟩,⟨rfl,⟨rfl,rfl,rfl,rfl,trivial⟩,trivial⟩⟩;exact (i_step hv.1 hC).2)
    -- PVC
abbrev ks14:List (Option IntKind):=[some .i64,some .i64,some .i64,some .i64,some .i64,some .i64,some .i64,some .i64]
theorem thinMeans_row (n:Nat) (f:Nat→List Value) (hf:∀ j,okV ks14 (f j)) {us:List Value} {w:World} (hargs:All2 (TV.reads (fun _=>0) w.heap.size w) [.rowF n 8 (fun j=>cellsG f j 0 ks14)] us):Ret Try.prog 7 us.toArray w (.tv (tB true)) :=
  means_law n (gI f 0) (gI f 1) (gI f 2) (gI f 3) (gI f 4) (gI f 5) (gI f 6) (gI f 7) hargs
end
end Go.Proofs.Ytglgmepolanfpaa.Wh
end
section
namespace Go.Proofs.Ytglgmepolanfpaa.thinMeans
open Go.ChangeShapes Go.WideShapes Go.ChangeAt Go.RowKit Go.Proofs.YtglgmepolanfpaaW.PrintWords Go.Proofs.YtglgmepolanfpaaW.Sx Go.Proofs.Ytglgmepolanfpaa.Wh
set_option linter.unusedVariables false
theorem own:ownKnob Try.prog.godebug=none:=by kernel_rfl
theorem laidOut:laidOutB Try.prog=true:=by kernel_rfl
theorem cells:lvs Try.prog true 30 44=some [some .i64,some .i64,some .i64,some .i64,some .i64,some .i64,some .i64,some .i64]:=by kernel_rfl
set_option maxRecDepth 100000 in
theorem lifted (os:Os) (started:os.Started) (H:Type) (enc:TypeId × Value→H) :
    ReturnsInHanded {} Try.checked os 7 .any (Rows.thinMeansSpec.pre6 enc Try.prog Try.f7 Rows.thinMeansRow.domain false) (Rows.thinMeansSpec.post enc Try.prog Try.f7 false true false false):=by
  refine returnsInHanded_of_change_sized (C:=Try.checked) own started (by kernel_rfl) Try.func7
    (ChangeSpec.witness6 (enc:=enc) (C:=Try.checked) false ⟨#[],#[.slice none 0 0],[]⟩ 8 (by kernel_rfl) (by kernel_rfl) (by kernel_rfl) (by kernel_rfl)) ?_
  intro W base args ds gs before hval0 hW hcnd hsz0 _
  have hval:∀ (j:Nat) t v,Try.f7.params[j]?=some t→args[j]?=some v→Value.okWide Try.prog W .any base t v:=hval0
  have hW':=hW
  obtain ⟨p,q,hA0,hV,rfl,hfz,hnd⟩:=hW
  have hA:DataW.TrodAll enc Try.prog W 0 (fun _=>true) true Try.f7.params.toList args.toList ds p:=hA0
  rw [Try.params7] at hA hval
  obtain ⟨v0,vs0,d0,ds0,p0,q0,hargs,rfl,rfl,h0,r0⟩:=trodAll_cons hA
  obtain ⟨rfl,rfl,rfl⟩:=trodAll_nil r0
  obtain rfl:args=#[v0]:=by cases args;simp_all
  obtain ⟨rfl,rfl⟩:=trodVars_none hV
  have k0:=h0
  have lt0:∀ x∈p0,x.block<W.heap.size:=by obtain ⟨m,hm⟩:=k0;exact DataW.trod_lt m _ _ _ hm
  have hv0:=hval 0 40 v0 rfl rfl
  obtain ⟨a0,len0,cap0,rfl⟩:=okWide_slice Try.underlying40 hv0
  obtain ⟨f,hf,hr⟩:=row_of Try.underlying40 cells (by decide) h0
  clear hA0 hval0 hsz0
  refine Calls.mono (thinMeans_row len0 f hf (us:=[_]) (.cons (hr _) .nil)) fun e W' hpost=>?_
  obtain ⟨u,rfl,hu,bel⟩:=hpost
  obtain rfl:u = .bool true:=hu
  exact ⟨_,rfl,_,_,_,[],_,[],hW',trodAll_mk1 (shut_bool Try.underlying4 _),(trodAll_cons_mk (Below.trod laidOut (by kernel_rfl) (of_decide_eq_true (by kernel_rfl)) k0 bel lt0) trodAll_mk0),rfl,bel.frame _,fun h=>by cases h⟩
theorem over:Rows.thinMeansRow.holds Try.pinned (OpenSpec.ofChange Rows.thinMeansSpec) :=
  OpenClaim.holds_of_wide 7 Try.f7 rfl rfl rfl rfl rfl rfl rfl ⟨rfl,rfl,rfl,rfl,rfl⟩ rfl rfl rfl rfl rfl (by kernel_rfl) Try.func7 (by kernel_rfl)
    (of_decide_eq_true (by kernel_rfl)) (by unfold Func.isWrapper;first|(rw [if_pos (by decide +kernel)];kernel_rfl)|(rw [if_neg (by decide +kernel)];exact ⟨rfl,rfl⟩))
    (fun os started H enc _=>lifted os started H enc)
theorem proved:Rows.ThinMeansSaid:=over
end Go.Proofs.Ytglgmepolanfpaa.thinMeans
namespace Go.Proofs.Ytglgmepolanfpaa
theorem thinMeans_holds:Rows.ThinMeansSaid:=thinMeans.proved
end Go.Proofs.Ytglgmepolanfpaa
end
