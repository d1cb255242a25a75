/- The row of ThinOnes, out of its law by the reckoner: for every argument that reads as data the call returns true and leaves the argument as it was. -/
import Derived.Test.YtglgmepolanfpaaZT20b
import Derived.Deep.Slices
import Derived.OpenShut
import Derived.SizedLaws
import Derived.Test.YtglgmepolanfpaaRows
import Derived.WalkKit
import Derived.ProofKit
import Derived.ShutString
import Derived.ChangeOld
import Derived.Below
import Derived.Carry
section
set_option linter.unusedVariables false
set_option linter.unusedSimpArgs false
namespace Go.Proofs.Ytglgmepolanfpaa.Wh
open Go Go.RowKit Go.Proofs.YtglgmepolanfpaaW.PrintWords Go.Proofs.YtglgmepolanfpaaW.PrintMore Go.Proofs.YtglgmepolanfpaaW.Aid Go.Proofs.YtglgmepolanfpaaW.Big Go.Proofs.YtglgmepolanfpaaW.Sx Go.Proofs.Ytglgmepolanfpaa.BitsWalk Go.Proofs.Ytglgmepolanfpaa.Limbs Go.Proofs.Ytglgmepolanfpaa.Whole Go.Proofs.Ytglgmepolanfpaa.FxWalk Go.Proofs
abbrev tV4 (p:Int × Int × Int × Int):TV := .tup [(true,[.v (.int .i64 p.1),.v (.int .i64 p.2.1),.v (.int .i64 p.2.2.1)]),(false,[.v (.int .i64 p.2.2.2)])]
theorem v4_eq {x y z e:Int} {p:Int × Int × Int × Int} (h:(x,y,z,e)=p):(some (CR.tv (.tup [(true,[.v (.int .i64 x),.v (.int .i64 y),.v (.int .i64 z)]),(false,[.v (.int .i64 e)])])):Option CR)=some (CR.tv (tV4 p)):=by rw [← h]
def vT (a b c:Int):Int × Int × Int × Int:=if (wd a&&(wd b&&wd c))=true then (a,b,c,0) else (0,0,0,2)
theorem tR_bad {a:Int} (h:((toldR a).2 != 0)=true):wd a=false∧(toldR a).2=2:=by
  unfold toldR at *
  by_cases hw:wd a=true
  · rw [if_pos hw] at h;exact absurd (show ((0:Int) != 0)=true from h) (by decide)
  · rw [if_neg hw];exact ⟨by simpa using hw,rfl⟩
theorem tR_ok {a:Int} (h:((toldR a).2 != 0)=false):wd a=true∧(toldR a).1=a:=by
  unfold toldR at *
  by_cases hw:wd a=true
  · rw [if_pos hw];exact ⟨hw,rfl⟩
  · rw [if_neg hw] at h;exact absurd (show ((2:Int) != 0)=false from h) (by decide)
theorem vT_1 {a b c:Int} (h:((toldR a).2 != 0)=true):((0:Int),(0:Int),(0:Int),(toldR a).2)=vT a b c:=by
  obtain ⟨h1,h2⟩:=tR_bad h
  unfold vT;rw [h2,if_neg (by simp [h1])]
theorem vT_2 {a b c:Int} (h:((toldR b).2 != 0)=true):((0:Int),(0:Int),(0:Int),(toldR b).2)=vT a b c:=by
  obtain ⟨h1,h2⟩:=tR_bad h
  unfold vT;rw [h2,if_neg (by simp [h1])]
theorem vT_3 {a b c:Int} (h:((toldR c).2 != 0)=true):((0:Int),(0:Int),(0:Int),(toldR c).2)=vT a b c:=by
  obtain ⟨h1,h2⟩:=tR_bad h
  unfold vT;rw [h2,if_neg (by simp [h1])]
theorem vT_4 {a b c:Int} (h:((toldR a).2 != 0)=false) (h':((toldR b).2 != 0)=false) (h'':((toldR c).2 != 0)=false):((toldR a).1,(toldR b).1,(toldR c).1,(0:Int))=vT a b c:=by
  obtain ⟨h1,h2⟩:=tR_ok h
  obtain ⟨h3,h4⟩:=tR_ok h'
  obtain ⟨h5,h6⟩:=tR_ok h''
  unfold vT;rw [h2,h4,h6,if_pos (by simp [h1,h3,h5])]
abbrev gV (x y z:Int):Bool:=allw [x,y,z]
theorem gV_iff {x y z:Int}:gV x y z=true↔wd x=true∧wd y=true∧wd z=true:=by simp [gV,allw]
theorem gV_bd {a b c:Int} (h:gV a b c=true):(-35184372088832<a∧a<35184372088832)∧(-35184372088832<b∧b<35184372088832)∧(-35184372088832<c∧c<35184372088832):=by
  obtain ⟨h1,h2,h3⟩:=gV_iff.1 h
  exact ⟨wd_iff.1 h1,wd_iff.1 h2,wd_iff.1 h3⟩
theorem and_tt {a b:Bool} (h:a=true) (h':b=true):(a&&b)=true:=by rw [h,h'];rfl
section
set_option maxRecDepth 100000
set_option maxHeartbeats 4000000
def cVOf:Con Try.prog where
  f:=38
  sem:=fun xs=>match xs with
    | [.agg [.v (.int .i64 x),.v (.int .i64 y),.v (.int .i64 z)]]=>some (True,.new 2 3 1 [.v (.int .i64 x),.v (.int .i64 y),.v (.int .i64 z)])
    | _=>none
  ok := by
    intro xs p r' h hp
    refine ⟨⟨_,Try.func38,by kernel_rfl,rfl⟩,fun us w ha=>?_⟩
    split at h
    · rename_i x y z
      cases h
      refine fn_ret (cxOk Try.prog ints_ok [] []) follows Try.func38 rfl 100 _ rfl (by simp) ?_ ha
      repeat' first
        | exact trivial
        | (refine And.intro (show regChk _ _ _ _ _=true from by kernel_rfl) (And.intro ?_ ?_))
        | (refine And.intro (fun _=>?_) (fun h=>absurd (show true=false from h) (by decide)))
        | (refine And.intro (fun h=>absurd (show false=true from h) (by decide)) (fun _=>?_))
        | (refine And.intro (fun hb=>?_) (fun hb'=>?_))
        | refine And.intro ?_ ?_
      all_goals first
        | (show some (CR.new _ _ _ _)=some (CR.new _ _ _ _);rfl)
        | (show (_:Nat)=(_:Nat);rfl)
        | (show (_:Nat)≤1000;decide)
        | (show (_:Int)=(_:Int);rfl)
        | (show (_:Int)≤_;decide)
        | (show (_:Int)<_;decide)
        -- PVC
    · cases h
def cVGood:Con Try.prog where
  f:=35
  sem:=fun xs=>match xs with
    | [.agg [.v (.int .i64 x),.v (.int .i64 y),.v (.int .i64 z)]]=>some (True,.tv (tB (gV x y z)))
    | _=>none
  ok := by
    intro xs p r' h hp
    refine ⟨⟨_,Try.func35,by kernel_rfl,rfl⟩,fun us w ha=>?_⟩
    split at h
    · rename_i x y z
      cases h
      refine fn_ret (cxOk Try.prog ints_ok [] [cAll]) follows Try.func35 rfl 100 _ rfl (by simp) ?_ ha
      repeat' first
        | exact trivial
        | (refine And.intro (show regChk _ _ _ _ _=true from by kernel_rfl) (And.intro ?_ ?_))
        | (refine And.intro (fun _=>?_) (fun h=>absurd (show true=false from h) (by decide)))
        | (refine And.intro (fun h=>absurd (show false=true from h) (by decide)) (fun _=>?_))
        | (refine And.intro (fun hb=>?_) (fun hb'=>?_))
        | refine And.intro ?_ ?_
      all_goals first
        | (show some (CR.tv (tB _))=some (CR.tv (tB _));exact tB_eq rfl)
        | (show (_:Nat)=(_:Nat);rfl)
        | (show (_:Nat)≤1000;decide)
        | (show (_:Int)=(_:Int);rfl)
        | (show (_:Int)≤_;decide)
        | (show (_:Int)<_;decide)
        -- PVC
    · cases h
def cVTold:Con Try.prog where
  f:=36
  sem:=fun xs=>match xs with
    | [.row 3 [.neg a,.mag a',.neg b,.mag b',.neg c,.mag c']]=>some (a'=a∧b'=b∧c'=c,.tv (tV4 (vT a b c)))
    | _=>none
  ok := by
    intro xs p r' h hp
    refine ⟨⟨_,Try.func36,by kernel_rfl,rfl⟩,fun us w ha=>?_⟩
    split at h
    · rename_i a a' b b' c c'
      cases h
      obtain ⟨rfl,rfl,rfl⟩:=hp
      refine fnu_ret (cxOk Try.prog ints_ok [] [cTold]) follows [0,2,3,4,9,10,11] Try.func36 rfl 100 _ rfl (by simp) ?_ ha
      repeat' first
        | exact trivial
        | (refine And.intro (show regChk _ _ _ _ _=true from by kernel_rfl) (And.intro ?_ ?_))
        | (refine And.intro (fun _=>?_) (fun h=>absurd (show true=false from h) (by decide)))
        | (refine And.intro (fun h=>absurd (show false=true from h) (by decide)) (fun _=>?_))
        | (refine And.intro (fun hb=>?_) (fun hb'=>?_))
        | refine And.intro ?_ ?_
      all_goals first
        | (show some (CR.tv (.tup _))=some (CR.tv (tV4 _));first|exact v4_eq (vT_1 (by assumption))|exact v4_eq (vT_2 (by assumption))|exact v4_eq (vT_3 (by assumption))|exact v4_eq (vT_4 (by assumption) (by assumption) (by assumption)))
        | (show (_:Nat)=(_:Nat);rfl)
        | (show (_:Nat)≤1000;decide)
        | (show (_:Int)=(_:Int);rfl)
        | (show (_:Int)≤_;decide)
        | (show (_:Int)<_;decide)
        -- PVC
    · cases h
end
end Go.Proofs.Ytglgmepolanfpaa.Wh
end
section
set_option linter.unusedVariables false
set_option linter.unusedSimpArgs false
namespace Go.Proofs.YtglgmepolanfpaaW.Sx
open Go Go.RowKit Go.Proofs.YtglgmepolanfpaaW.PrintWords Go.Proofs.YtglgmepolanfpaaW.PrintMore Go.Proofs.YtglgmepolanfpaaW.Aid Go.Proofs.YtglgmepolanfpaaW.Big
def wfV:Value→Bool
  | .int k n=>(Lit.int k n).wf
  | _=>true
def okV (ks:List (Option IntKind)) (xs:List Value):Prop:=isKs ks xs=true∧∀ x∈xs,wfV x=true
theorem isKs_app:∀ {ks ks':List (Option IntKind)} {xs ys:List Value},isKs ks xs=true→isKs ks' ys=true→isKs (ks++ks') (xs++ys)=true
  | [],ks',[],ys,_,h=>h
  | k::ks,ks',x::xs,ys,h,h'=>by
    simp only [isKs,Bool.and_eq_true] at h
    simp only [List.cons_append,isKs,h.1,isKs_app h.2 h',Bool.and_self]
  | [],_,_::_,_,h,_=>by cases h
  | _::_,_,[],_,h,_=>by cases h
theorem okV_app {ks ks':List (Option IntKind)} {xs ys:List Value} (h:okV ks xs) (h':okV ks' ys):okV (ks++ks') (xs++ys) :=
  ⟨isKs_app h.1 h'.1,fun x hx=>(List.mem_append.1 hx).elim (h.2 x) (h'.2 x)⟩
section
variable {H:Type} {enc:TypeId × Value→H} {P:Program} {w:World} {base:Nat} {spare:Nat→Bool} {held:Bool}
theorem rep_take (ks:List (Option IntKind)):∀ (n:Nat) (xs:List Value),xs.length=(rep ks n).length→(∀ i,i<n→okV ks ((xs.drop (i*ks.length)).take ks.length))→okV (rep ks n) xs
  | 0,xs,hl,_=>by
    cases xs with
    | nil=>exact ⟨rfl,fun _ h=>by cases h⟩
    | cons _ _=>simp [rep] at hl
  | n + 1, xs, hl, h => by
    have h0:=h 0 (by omega)
    rw [Nat.zero_mul,List.drop_zero] at h0
    have hl':xs.length=ks.length+(rep ks n).length:=by rw [hl,rep,List.length_append]
    have ih:=rep_take ks n (xs.drop ks.length) (by rw [List.length_drop];omega) (fun i hi=>by
      have:=h (i+1) (by omega)
      rw [List.drop_drop,show ks.length+i*ks.length=(i+1)*ks.length by rw [Nat.add_mul,Nat.one_mul];omega]
      exact this)
    have:=okV_app h0 ih
    rw [List.take_append_drop] at this
    exact this
theorem flat_trod (arr:Bool):∀ (d:Nat),(∀ (T:TypeId) (ks:List (Option IntKind)) (fuel:Nat) (cs:List Value) (x:DataW H × List MemPlace),lvs P arr d T=some ks→DataW.trod enc P w base spare held fuel T cs=some x→okV ks cs) ∧
    (∀ (fs:List Field) (off:Nat) (ks:List (Option IntKind)) (n:Nat) (cs:List Value) (ys:List (DataW H × List MemPlace)),lvsF P arr d fs off=some ks→cs.length=off+ks.length→ys.length=fs.length →
      (∀ (i:Nat) (f:Field),fs[i]?=some f→DataW.trod enc P w base spare held n f.type ((cs.drop f.offset).take (P.cellsOf f.type))=ys[i]?)→okV ks (cs.drop off)):=by
  intro d
  induction d with
  | zero =>
    refine ⟨fun T ks fuel cs x h=>(by cases h),fun fs off ks n cs ys h hl hy _=>?_⟩
    cases fs with
    | nil =>
      cases h
      rw [List.drop_of_length_le (by simp at hl;omega)]
      exact ⟨rfl,fun _ h=>by cases h⟩
    | cons f fs=>cases h
  | succ d ih =>
    obtain ⟨ih1,ih2⟩:=ih
    constructor
    · intro T ks fuel cs x h hx
      rw [lvs] at h
      split at h
      · rename_i k inf hu hi
        split at h
        case isFalse=>cases h
        cases h
        obtain ⟨n,rfl,_,hw⟩:=DataW.trod_int hu hx
        exact ⟨by simp [isKs,isK],fun y hy=>by rw [List.mem_singleton.1 hy];exact hw⟩
      · rename_i inf hu hi
        split at h
        case isFalse=>cases h
        cases h
        obtain ⟨n,rfl,_⟩:=DataW.trod_bool hu hx
        exact ⟨rfl,fun y hy=>by rw [List.mem_singleton.1 hy];rfl⟩
      · rename_i fs inf hu hi
        split at h
        · cases h
        · split at h
          · rename_i ks' hf
            split at h
            · rename_i hs
              cases h
              obtain ⟨ys,n,_,rfl,hcl,hyl,hg⟩:=DataW.trod_struct hu hx
              have hcl':cs.length=0+ks.length:=by
                rw [hcl];unfold Program.cellsOf;rw [hi];simpa using hs
              have:=ih2 fs.toList 0 ks n cs ys hf hcl' (by simpa using hyl) (fun i f hf=>hg i f (by simpa using hf))
              rwa [List.drop_zero] at this
            · cases h
          · cases h
      · rename_i n e inf hu hi
        split at h
        · split at h
          · rename_i ks' he
            split at h
            · rename_i hs
              cases h
              obtain ⟨ys,m,_,rfl,hcl,hyl,hg⟩:=DataW.trod_array hu hx
              have hce:=lvs_cells he
              rw [hce] at hg
              refine rep_take ks' n cs (by rw [hcl];unfold Program.cellsOf;rw [hi];simpa using hs) (fun i hi=>?_)
              obtain ⟨y,hy⟩:∃ y,ys[i]?=some y:=⟨ys[i],by simp⟩
              exact ih1 e ks' m _ y he (by rw [hg i hi,hy])
            · cases h
          · cases h
        · cases h
      · cases h
    · intro fs off ks n cs ys h hl hy hg
      cases fs with
      | nil =>
        cases h
        rw [List.drop_of_length_le (by simp at hl;omega)]
        exact ⟨rfl,fun _ h=>by cases h⟩
      | cons f fs =>
        rw [lvsF] at h
        split at h
        · cases h
        · rename_i hc
          have hoff:f.offset=off:=Decidable.byContradiction fun e=>hc (Or.inr e)
          split at h
          · rename_i k ks1 hl1
            split at h
            · rename_i r hr
              cases h
              match ys,hy with
              | y::ys,hy =>
                have h1:=hg 0 f rfl
                rw [hoff,lvs_cells hl1] at h1
                have g1:=ih1 f.type _ n _ y hl1 h1
                have g2:=ih2 fs (off+(k::ks1).length) r n cs ys hr (by rw [hl];simp;omega) (by simpa using hy) (fun i f' hf=>hg (i+1) f' (by simpa using hf))
                have:=okV_app g1 g2
                rw [← List.drop_drop,List.take_append_drop] at this
                exact this
            · cases h
          · cases h
def gI (f:Nat→List Value) (i j:Nat):Int:=match (f j)[i]? with
  | some (.int _ n)=>n
  | _=>0
def gB (f:Nat→List Value) (i j:Nat):Bool:=match (f j)[i]? with
  | some (.bool b)=>b
  | _=>false
def cellsG (f:Nat→List Value) (j:Nat):Nat→List (Option IntKind)→List A0
  | _,[]=>[]
  | i,some k::ks => .v (.int k (gI f i j))::cellsG f j (i+1) ks
  | i,none::ks => .v (.bool (gB f i j))::cellsG f j (i+1) ks
theorem cellsG_eq (f:Nat→List Value) (j:Nat):∀ (ks:List (Option IntKind)) (i:Nat),isKs ks ((f j).drop i)=true→cellsG f j i ks=((f j).drop i).map A0.v
  | [],i,h=>by
    cases hx:(f j).drop i with
    | nil=>rfl
    | cons _ _=>rw [hx] at h;cases h
  | k :: ks, i, h => by
    cases hx:(f j).drop i with
    | nil=>rw [hx] at h;cases h
    | cons x xs =>
      have h0:(f j)[i]?=some x:=by rw [← List.head?_drop,hx];rfl
      have h1:(f j).drop (i+1)=xs:=by rw [← List.tail_drop,hx];rfl
      rw [hx] at h
      simp only [isKs,Bool.and_eq_true] at h
      have ih:=cellsG_eq f j ks (i+1) (by rw [h1];exact h.2)
      rw [h1] at ih
      cases k with
      | some k =>
        cases x<;>simp only [isK] at h<;>try (exact absurd h.1 (by decide))
        rename_i k' n
        obtain rfl:=of_decide_eq_true h.1
        simp only [cellsG,gI,h0,List.map_cons,ih]
      | none =>
        cases x<;>simp only [isK] at h<;>try (exact absurd h.1 (by decide))
        simp only [cellsG,gB,h0,List.map_cons,ih]
def zv:Option IntKind→Value
  | some k => .int k 0
  | none => .bool false
theorem zs_ok:∀ ks:List (Option IntKind),okV ks (ks.map zv)
  | []=>⟨rfl,fun _ h=>by cases h⟩
  | k :: ks => by
    obtain ⟨h1,h2⟩:=zs_ok ks
    refine ⟨?_,fun x hx=>?_⟩
    · simp only [List.map_cons,isKs,h1,Bool.and_true]
      cases k<;>simp [zv,isK]
    · rcases List.mem_cons.1 hx with rfl|hx
      · cases k with
        | none=>rfl
        | some k=>cases k<;>decide
      · exact h2 x hx
theorem rowF_congr {n sz:Nat} {f g:Nat→List A0} {β:Nat→Nat} {base:Nat} {w:World} {u:Value} (h:∀ j,f j=g j) (hr:TV.reads β base w (.rowF n sz f) u):TV.reads β base w (.rowF n sz g) u:=by
  rw [show g=f from funext fun j=>(h j).symm];exact hr
theorem row_of {t e:TypeId} {arr:Bool} {d:Nat} {ks:List (Option IntKind)} (hu:P.underlying t=some (.slice e)) (hl:lvs P arr d e=some ks) (hk:0<ks.length) {A1:Option Addr} {n0 c0:Nat} {x:DataW H} {ps:List MemPlace} (h:DataW.Trod enc P w base spare held t (.slice A1 n0 c0) x ps) :
    ∃ f:Nat→List Value,(∀ j,okV ks (f j))∧∀ β:Nat→Nat,TV.reads β w.heap.size w (.rowF n0 ks.length (fun j=>cellsG f j 0 ks)) (.slice A1 n0 c0):=by
  obtain ⟨fuel,hf⟩:=h
  have hcell:(Value.slice A1 n0 c0).cells.toList=[.slice A1 n0 c0]:=rfl
  rw [hcell] at hf
  rcases Go.Deep.open_slice hu hf with ⟨h1,_⟩|⟨a,len,cap,m,n,D,Pl,h1,hb,hle,hm,hmm,_,hi⟩
  · cases h1
    exact ⟨fun _=>ks.map zv,fun j=>zs_ok ks,fun β=>⟨none,0,rfl,Nat.le_refl _,fun h=>absurd h (by omega)⟩⟩
  · cases h1
    have hlm:n0≤m:=by rw [hmm];split<;>omega
    have hch:∀ j,∃ l:List Value,okV ks l∧(j<n0→∀ i u,l[i]?=some u→w.cell? ((a.add (j*ks.length)).add i)=some u):=by
      intro j
      by_cases hj:j<n0
      · obtain ⟨cs',h2,h3⟩:=hi j (by omega)
        obtain ⟨_,hcl,hat⟩:=World.cells?_some h2
        have ok:=(flat_trod (enc:=enc) (P:=P) (w:=w) (base:=base) (spare:=spare) (held:=held) arr d).1 e ks n cs' _ hl h3
        refine ⟨cs',ok,fun _ i u hu=>?_⟩
        have hil:i<cs'.length:=(List.getElem?_eq_some_iff.1 hu).1
        have h4:=hat i (by omega)
        rw [hu,lvs_cells hl] at h4
        exact h4
      · exact ⟨ks.map zv,zs_ok ks,fun h=>absurd h hj⟩
    obtain ⟨f,hf⟩:=Classical.axiomOfChoice hch
    refine ⟨f,fun j=>(hf j).1,fun β=>?_⟩
    refine rowF_congr (f:=fun j=>(f j).map A0.v) (fun j=>?_) ⟨some a,c0,rfl,hle,fun h0=>⟨a,rfl,?_,fun i hi=>?_⟩⟩
    · have:=cellsG_eq f j ks 0 (by rw [List.drop_zero];exact (hf j).1.1)
      rw [this,List.drop_zero]
    · have h5:=(hf 0).1.1
      have h6:=isKs_len h5
      have h7:=(hf 0).2 h0 0 ((f 0)[0]'(by omega)) (by simp)
      have:=World.block_lt_of_cell? w _ h7
      rw [Nat.zero_mul] at this
      exact this
    · intro q c hq
      rw [List.getElem?_map,Option.map_eq_some_iff] at hq
      obtain ⟨u,hu,rfl⟩:=hq
      exact ⟨u,(hf i).2 hi q u hu,rfl⟩
end
end Go.Proofs.YtglgmepolanfpaaW.Sx
end
section
set_option linter.unusedVariables false
set_option linter.unusedSimpArgs false
namespace Go.Proofs.Ytglgmepolanfpaa.Wh
open Go Go.RowKit Go.Proofs.YtglgmepolanfpaaW.PrintWords Go.Proofs.YtglgmepolanfpaaW.PrintMore Go.Proofs.YtglgmepolanfpaaW.Aid Go.Proofs.YtglgmepolanfpaaW.Big Go.Proofs.YtglgmepolanfpaaW.Sx Go.Proofs.Ytglgmepolanfpaa.BitsWalk Go.Proofs.Ytglgmepolanfpaa.Limbs Go.Proofs.Ytglgmepolanfpaa.Whole Go.Proofs.Ytglgmepolanfpaa.FxWalk Go.Proofs
theorem wd_bif (v:Int):(bif decide (v > -35184372088832) then decide (v<35184372088832) else false)=wd v:=by
  unfold wd
  have e:decide (v > -35184372088832)=decide (-35184372088832<v):=rfl
  rw [e]
  cases decide (-35184372088832<v)<;>rfl
theorem gV_bif (x y z:Int):(bif bif wd x then wd y else false then wd z else false)=gV x y z:=by
  unfold gV
  simp only [allw]
  cases wd x<;>cases wd y<;>cases wd z<;>rfl
theorem no {c:Bool} (h:c=false) (hb:c=true):False:=by rw [h] at hb;exact absurd hb (by decide)
abbrev cells3 (x y z:Int):List Value:=[.int .i64 x,.int .i64 y,.int .i64 z]
def lawL (m n:Nat) (r:Nat→List A0) (q:Nat):LI Int where
  gs:=fun i=>[(0,.rowF n m r),(q,tB false),(q+1,tN .i64 i)]
  bs:=fun i=>[]
  I:=fun i=>0≤i∧i≤(n:Int)
  μ:=fun i=>((n:Int)-i).toNat
theorem wrap1 {i:Int} (h0:0≤i) (h:i≤100000000000000000):IntKind.i64.wrap (i+1)=i+1:=by rw [i64_wrap];exact wrap64_id (by omega) (by omega)
theorem hC1 {v k:Int} {n:Nat} (h:(bif decide (v<(n:Int)) then decide (v<k) else false)=true):v<n∧v<k:=by
  by_cases h1:v<(n:Int)
  · rw [decide_eq_true h1] at h;exact ⟨h1,of_decide_eq_true h⟩
  · rw [decide_eq_false h1] at h;exact absurd (show false=true from h) (by decide)
theorem stepL {m n q:Nat} {r:Nat→List A0} {v k:Int} (hv:(lawL m n r q).I v) (hC:(bif decide (v<(n:Int)) then decide (v<k) else false)=true) (hk:k≤1000):(lawL m n r q).μ (IntKind.i64.wrap (v+1))<(lawL m n r q).μ v∧(lawL m n r q).I (IntKind.i64.wrap (v+1)):=by
  have h1:=hC1 hC
  have h0:0≤v∧v≤(n:Int):=hv
  rw [wrap1 h0.1 (by omega)]
  exact ⟨show ((n:Int)-(v+1)).toNat<((n:Int)-v).toNat by omega,show 0≤v+1∧v+1≤(n:Int) by omega⟩
section
set_option maxRecDepth 100000
set_option maxHeartbeats 4000000
abbrev eqVec:EqT Try.prog:=eqS Try.prog 24 [some .i64,some .i64,some .i64] (by kernel_rfl)
def cR1May:Con Try.prog where
  f:=42
  sem:=fun xs=>match xs with
    | [.sc (.v (.int .i64 v))]=>some (True,.tv (tB (wd v)))
    | _=>none
  ok := by
    intro xs p r' h hp
    refine ⟨⟨_,Try.func42,by kernel_rfl,rfl⟩,fun us w ha=>?_⟩
    split at h
    · rename_i v
      cases h
      refine fn_ret (cxOk Try.prog ints_ok [] []) follows Try.func42 rfl 100 _ rfl (by simp) ?_ ha
      repeat' first
        | exact trivial
        | (refine And.intro (show regChk _ _ _ _ _=true from by kernel_rfl) (And.intro ?_ ?_))
        | (refine And.intro (fun _=>?_) (fun h=>absurd (show true=false from h) (by decide)))
        | (refine And.intro (fun h=>absurd (show false=true from h) (by decide)) (fun _=>?_))
        | (refine And.intro (fun hb=>?_) (fun hb'=>?_))
        | refine And.intro ?_ ?_
        | intro _
      all_goals first
        | (show some (CR.tv (tB _))=some (CR.tv (tB _));exact tB_eq (wd_bif v))
        | (show (_:Bool)=(_:Bool);first|assumption|exact beq_iff_eq.2 (by assumption)|(exact and_tt (by first|assumption|exact beq_iff_eq.2 (by assumption)) (by first|assumption|exact beq_iff_eq.2 (by assumption))))
        | (show (_:Nat)=(_:Nat);rfl)
        | (show (_:Nat)≤1000;decide)
        | (show (_:Int)=(_:Int);rfl)
        | (show (_:Int)≤_;decide)
        | (show (_:Int)<_;decide)
        -- PVC
    · cases h
def cR3May:Con Try.prog where
  f:=21
  sem:=fun xs=>match xs with
    | [.agg [.v (.int .i64 x),.v (.int .i64 y),.v (.int .i64 z)]]=>some (True,.tv (tB (gV x y z)))
    | _=>none
  ok := by
    intro xs p r' h hp
    refine ⟨⟨_,Try.func21,by kernel_rfl,rfl⟩,fun us w ha=>?_⟩
    split at h
    · rename_i x y z
      cases h
      refine fn_ret (cxOk Try.prog ints_ok [] [cR1May]) follows Try.func21 rfl 100 _ rfl (by simp) ?_ ha
      repeat' first
        | exact trivial
        | (refine And.intro (show regChk _ _ _ _ _=true from by kernel_rfl) (And.intro ?_ ?_))
        | (refine And.intro (fun _=>?_) (fun h=>absurd (show true=false from h) (by decide)))
        | (refine And.intro (fun h=>absurd (show false=true from h) (by decide)) (fun _=>?_))
        | (refine And.intro (fun hb=>?_) (fun hb'=>?_))
        | refine And.intro ?_ ?_
        | intro _
      all_goals first
        | (show some (CR.tv (tB _))=some (CR.tv (tB _));exact tB_eq (gV_bif x y z))
        | (show (_:Bool)=(_:Bool);first|assumption|exact beq_iff_eq.2 (by assumption)|(exact and_tt (by first|assumption|exact beq_iff_eq.2 (by assumption)) (by first|assumption|exact beq_iff_eq.2 (by assumption))))
        | (show (_:Nat)=(_:Nat);rfl)
        | (show (_:Nat)≤1000;decide)
        | (show (_:Int)=(_:Int);rfl)
        | (show (_:Int)≤_;decide)
        | (show (_:Int)<_;decide)
        -- PVC
    · cases h
def cNum14:Con Try.prog where
  f:=24
  sem:=fun xs=>match xs with
    | [.sc (.v (.int .i64 v))]=>some (True,.tv (tN .i64 v))
    | _=>none
  ok := by
    intro xs p r' h hp
    refine ⟨⟨_,Try.func24,by kernel_rfl,rfl⟩,fun us w ha=>?_⟩
    split at h
    · rename_i v
      cases h
      refine fn_ret (cxOk Try.prog ints_ok [] []) follows Try.func24 rfl 100 _ rfl (by simp) ?_ ha
      repeat' first
        | exact trivial
        | (refine And.intro (show regChk _ _ _ _ _=true from by kernel_rfl) (And.intro ?_ ?_))
        | (refine And.intro (fun _=>?_) (fun h=>absurd (show true=false from h) (by decide)))
        | (refine And.intro (fun h=>absurd (show false=true from h) (by decide)) (fun _=>?_))
        | (refine And.intro (fun hb=>?_) (fun hb'=>?_))
        | refine And.intro ?_ ?_
      all_goals first
        | (show some (CR.tv (tN _ _))=some (CR.tv (tN _ _));rfl)
        | (show (_:Nat)=(_:Nat);rfl)
        | (show (_:Nat)≤1000;decide)
        | (show (_:Int)=(_:Int);rfl)
        | (show (_:Int)≤_;decide)
        | (show (_:Int)<_;decide)
        -- PVC
    · cases h
end
end Go.Proofs.Ytglgmepolanfpaa.Wh
end
section
set_option linter.unusedVariables false
set_option linter.unusedSimpArgs false
namespace Go.Proofs.Ytglgmepolanfpaa.Wh
open Go Go.RowKit Go.Proofs.YtglgmepolanfpaaW.PrintWords Go.Proofs.YtglgmepolanfpaaW.PrintMore Go.Proofs.YtglgmepolanfpaaW.Aid Go.Proofs.YtglgmepolanfpaaW.Big Go.Proofs.YtglgmepolanfpaaW.Sx Go.Proofs.Ytglgmepolanfpaa.BitsWalk Go.Proofs.Ytglgmepolanfpaa.Limbs Go.Proofs.Ytglgmepolanfpaa.Whole Go.Proofs.Ytglgmepolanfpaa.FxWalk Go.Proofs
theorem len_t4 {x:Int} (h : -1000000000000000000000000000000000000000000000000000000000000000≤x) (h':x≤1000000000000000000000000000000000000000000000000000000000000000):Len0 x:=len_big (k:=4) (by decide) (Nat.lt_of_le_of_lt (show x.natAbs≤1000000000000000000000000000000000000000000000000000000000000000 by omega) (by decide +kernel))
abbrev badB (v:Int):Bool:=bif decide (v ≤ -9007199254740992) then true else decide (v≥9007199254740992)
theorem badB_f {v:Int}:badB v=false ↔ -9007199254740992<v∧v<9007199254740992:=by
  unfold badB
  by_cases h1:v ≤ -9007199254740992<;>by_cases h2:v≥9007199254740992<;>simp [h1,h2]<;>omega
abbrev endT (x y z n:Int):Bool:=bif bif decide (n≥0) then decide (n<256) else false then (bif decide (n>0) then true else eqL (cells3 x y z) (cells3 0 0 0)) else false
def goodT (x y z n:Int):Bool:=bif badB x then false else bif badB y then false else bif badB z then false else endT x y z n
theorem gt1 {x y z n:Int} (h:badB x=true):false=goodT x y z n:=by unfold goodT;rw [h];rfl
theorem gt2 {x y z n:Int} (h:badB x=false) (h':badB y=true):false=goodT x y z n:=by unfold goodT;rw [h,h'];rfl
theorem gt3 {x y z n:Int} (h:badB x=false) (h':badB y=false) (h'':badB z=true):false=goodT x y z n:=by unfold goodT;rw [h,h',h''];rfl
theorem gt4 {x y z n:Int} (h:badB x=false) (h':badB y=false) (h'':badB z=false):endT x y z n=goodT x y z n:=by unfold goodT;rw [h,h',h''];rfl
theorem goodT_iff {x y z n:Int}:goodT x y z n=true↔(-9007199254740992<x∧x<9007199254740992)∧(-9007199254740992<y∧y<9007199254740992)∧(-9007199254740992<z∧z<9007199254740992)∧0≤n∧n<256∧(0<n∨(x=0∧y=0∧z=0)):=by
  unfold goodT
  rw [← badB_f,← badB_f,← badB_f]
  have e:eqL (cells3 x y z) (cells3 0 0 0)=true↔(x=0∧y=0∧z=0):=by simp [eqL,eqV]
  cases badB x<;>cases badB y<;>cases badB z<;>simp
  rw [e];omega
def OkT (x y z n k a b c:Int):Prop:=goodT x y z n=true∧1≤k∧k≤256∧gV a b c=true
instance (x y z n k a b c:Int):Decidable (OkT x y z n k a b c):=inferInstanceAs (Decidable (_∧_))
abbrev badT (x y z n k a b c:Int):Bool:=bif bif bif !goodT x y z n then true else decide (k<1) then true else decide (k>256) then true else !gV a b c
theorem badT_f {x y z n k a b c:Int}:badT x y z n k a b c=false↔OkT x y z n k a b c:=by
  unfold badT OkT
  cases goodT x y z n<;>cases gV a b c<;>by_cases h3:k<1<;>by_cases h4:k>256<;>simp [h3,h4]<;>omega
abbrev meanV (x y z n:Int):Int × Int × Int × Int:=vT (roundI x n) (roundI y n) (roundI z n)
def thinR (x y z n k a b c:Int):(Int × Int × Int × Int) × (Int × Int × Int) × Bool × Int :=
  if OkT x y z n k a b c then (if n+1<k then ((x+a,y+b,z+c,n+1),(0,0,0),false,0) else if (meanV (x+a) (y+b) (z+c) (n+1)).2.2.2=0 then ((0,0,0,0),((meanV (x+a) (y+b) (z+c) (n+1)).1,(meanV (x+a) (y+b) (z+c) (n+1)).2.1,(meanV (x+a) (y+b) (z+c) (n+1)).2.2.1),true,0) else ((0,0,0,0),(0,0,0),false,(meanV (x+a) (y+b) (z+c) (n+1)).2.2.2)) else ((0,0,0,0),(0,0,0),false,1)
abbrev tTh (p:(Int × Int × Int × Int) × (Int × Int × Int) × Bool × Int):TV := .tup [(true,[.v (.int .i64 p.1.1),.v (.int .i64 p.1.2.1),.v (.int .i64 p.1.2.2.1),.v (.int .i64 p.1.2.2.2)]),(true,[.v (.int .i64 p.2.1.1),.v (.int .i64 p.2.1.2.1),.v (.int .i64 p.2.1.2.2)]),(false,[.v (.bool p.2.2.1)]),(false,[.v (.int .i64 p.2.2.2)])]
theorem th_eq {x y z n a b c e:Int} {t:Bool} {p:(Int × Int × Int × Int) × (Int × Int × Int) × Bool × Int} (h:((x,y,z,n),(a,b,c),t,e)=p):(some (CR.tv (.tup [(true,[.v (.int .i64 x),.v (.int .i64 y),.v (.int .i64 z),.v (.int .i64 n)]),(true,[.v (.int .i64 a),.v (.int .i64 b),.v (.int .i64 c)]),(false,[.v (.bool t)]),(false,[.v (.int .i64 e)])])):Option CR)=some (CR.tv (tTh p)):=by rw [← h]
theorem okT_bd {x y z n k a b c:Int} (h:OkT x y z n k a b c):((-9007199254740992<x∧x<9007199254740992)∧(-9007199254740992<y∧y<9007199254740992)∧(-9007199254740992<z∧z<9007199254740992)∧0≤n∧n<256)∧(1≤k∧k≤256)∧(-35184372088832<a∧a<35184372088832)∧(-35184372088832<b∧b<35184372088832)∧(-35184372088832<c∧c<35184372088832):=by
  obtain ⟨h1,h2,h3,h4⟩:=h
  have g1:=goodT_iff.1 h1
  have g2:=gV_bd h4
  exact ⟨⟨g1.1,g1.2.1,g1.2.2.1,g1.2.2.2.1,g1.2.2.2.2.1⟩,⟨h2,h3⟩,g2⟩
theorem wr {x:Int} (h : -9223372036854775808≤x) (h':x<9223372036854775808):IntKind.i64.wrap x=x:=by rw [i64_wrap];exact wrap64_id h (by omega)
theorem wrap_J (x:Int) : -9223372036854775808≤IntKind.i64.wrap x∧IntKind.i64.wrap x<9223372036854775808:=by rw [i64_wrap];unfold wrap64;omega
theorem sums {x y z n k a b c:Int} (h:badT x y z n k a b c=false):IntKind.i64.wrap (x+a)=x+a∧IntKind.i64.wrap (y+b)=y+b∧IntKind.i64.wrap (z+c)=z+c∧IntKind.i64.wrap (n+1)=n+1:=by
  have hk:=okT_bd (badT_f.1 h)
  exact ⟨wr (by omega) (by omega),wr (by omega) (by omega),wr (by omega) (by omega),wr (by omega) (by omega)⟩
theorem th1 {x y z n k a b c:Int} (h:badT x y z n k a b c=true):(((0:Int),(0:Int),(0:Int),(0:Int)),((0:Int),(0:Int),(0:Int)),false,(1:Int))=thinR x y z n k a b c:=by
  unfold thinR;rw [if_neg (fun hk=>by rw [badT_f.2 hk] at h;cases h)]
theorem th2 {x y z n k a b c:Int} (h:badT x y z n k a b c=false) (h2:decide (IntKind.i64.wrap (n+1)<k)=true):((IntKind.i64.wrap (x+a),IntKind.i64.wrap (y+b),IntKind.i64.wrap (z+c),IntKind.i64.wrap (n+1)),((0:Int),(0:Int),(0:Int)),false,(0:Int))=thinR x y z n k a b c:=by
  obtain ⟨e1,e2,e3,e4⟩:=sums h
  rw [e4] at h2
  unfold thinR;rw [if_pos (badT_f.1 h),if_pos (of_decide_eq_true h2),e1,e2,e3,e4]
theorem th3 {x y z n k a b c:Int} (h:badT x y z n k a b c=false) (h2:decide (IntKind.i64.wrap (n+1)<k)=false) (h3:((meanV (IntKind.i64.wrap (x+a)) (IntKind.i64.wrap (y+b)) (IntKind.i64.wrap (z+c)) (IntKind.i64.wrap (n+1))).2.2.2 != 0)=true):(((0:Int),(0:Int),(0:Int),(0:Int)),((0:Int),(0:Int),(0:Int)),false,(meanV (IntKind.i64.wrap (x+a)) (IntKind.i64.wrap (y+b)) (IntKind.i64.wrap (z+c)) (IntKind.i64.wrap (n+1))).2.2.2)=thinR x y z n k a b c:=by
  obtain ⟨e1,e2,e3,e4⟩:=sums h
  rw [e4] at h2
  rw [e1,e2,e3,e4] at h3
  rw [e1,e2,e3,e4]
  unfold thinR;rw [if_pos (badT_f.1 h),if_neg (of_decide_eq_false h2),if_neg (by simpa using h3)]
theorem th4 {x y z n k a b c:Int} (h:badT x y z n k a b c=false) (h2:decide (IntKind.i64.wrap (n+1)<k)=false) (h3:((meanV (IntKind.i64.wrap (x+a)) (IntKind.i64.wrap (y+b)) (IntKind.i64.wrap (z+c)) (IntKind.i64.wrap (n+1))).2.2.2 != 0)=false):(((0:Int),(0:Int),(0:Int),(0:Int)),((meanV (IntKind.i64.wrap (x+a)) (IntKind.i64.wrap (y+b)) (IntKind.i64.wrap (z+c)) (IntKind.i64.wrap (n+1))).1,(meanV (IntKind.i64.wrap (x+a)) (IntKind.i64.wrap (y+b)) (IntKind.i64.wrap (z+c)) (IntKind.i64.wrap (n+1))).2.1,(meanV (IntKind.i64.wrap (x+a)) (IntKind.i64.wrap (y+b)) (IntKind.i64.wrap (z+c)) (IntKind.i64.wrap (n+1))).2.2.1),true,(0:Int))=thinR x y z n k a b c:=by
  obtain ⟨e1,e2,e3,e4⟩:=sums h
  rw [e4] at h2
  rw [e1,e2,e3,e4] at h3
  rw [e1,e2,e3,e4]
  unfold thinR;rw [if_pos (badT_f.1 h),if_neg (of_decide_eq_false h2),if_pos (by simpa using h3)]
section
set_option maxRecDepth 100000
set_option maxHeartbeats 4000000
abbrev eqThin:EqT Try.prog:=eqS Try.prog 42 [some .i64,some .i64,some .i64,some .i64] (by kernel_rfl)
def cTGood:Con Try.prog where
  f:=45
  sem:=fun xs=>match xs with
    | [.agg [.v (.int .i64 x),.v (.int .i64 y),.v (.int .i64 z),.v (.int .i64 n)]]=>some (True,.tv (tB (goodT x y z n)))
    | _=>none
  ok := by
    intro xs p r' h hp
    refine ⟨⟨_,Try.func45,by kernel_rfl,rfl⟩,fun us w ha=>?_⟩
    split at h
    · rename_i x y z n
      cases h
      refine fnu_ret (cxOk Try.prog ints_ok [eqVec] [cVOf]) follows [1,2,7,8,9] Try.func45 rfl 100 _ rfl (by simp) ?_ ha
      repeat' first
        | exact trivial
        | (refine And.intro (show regChk _ _ _ _ _=true from by kernel_rfl) (And.intro ?_ ?_))
        | (refine And.intro (fun _=>?_) (fun h=>absurd (show true=false from h) (by decide)))
        | (refine And.intro (fun h=>absurd (show false=true from h) (by decide)) (fun _=>?_))
        | (refine And.intro (fun hb=>?_) (fun hb'=>?_))
        | refine And.intro ?_ ?_
        | intro _
      all_goals first
        | (show some (CR.tv (tB _))=some (CR.tv (tB _));first|exact tB_eq (gt1 (by assumption))|exact tB_eq (gt2 (by assumption) (by assumption))|exact tB_eq (gt3 (by assumption) (by assumption) (by assumption))|exact tB_eq (gt4 (by assumption) (by assumption) (by assumption)))
        | (show (_:Bool)=(_:Bool);first|assumption|exact beq_iff_eq.2 (by assumption)|(exact and_tt (by first|assumption|exact beq_iff_eq.2 (by assumption)) (by first|assumption|exact beq_iff_eq.2 (by assumption))))
        | (show (_:Nat)=(_:Nat);rfl)
        | (show (_:Nat)≤1000;decide)
        | (show (_:Int)=(_:Int);rfl)
        | (show (_:Int)≤_;decide)
        | (show (_:Int)<_;decide)
        -- PVC
    · cases h
def cTMean:Con Try.prog where
  f:=46
  sem:=fun xs=>match xs with
    | [.sc (.v (.int .i64 x)),.sc (.v (.int .i64 n))]=>some (I64 x∧I64 n∧0<n,.tv (tI (roundI x n)))
    | _=>none
  ok := by
    intro xs p r' h hp
    refine ⟨⟨_,Try.func46,by kernel_rfl,rfl⟩,fun us w ha=>?_⟩
    split at h
    · rename_i x n
      cases h
      obtain ⟨hx,hn,h0⟩:=hp
      have x1:=hx.1
      have x2:=hx.2
      have n1:=hn.1
      have n2:=hn.2
      refine fn_ret (cxOk Try.prog ints_ok [] [cRound,cFrom]) follows Try.func46 rfl 100 _ rfl (by simp) ?_ ha
      repeat' first
        | exact trivial
        | (refine And.intro (show regChk _ _ _ _ _=true from by kernel_rfl) (And.intro ?_ ?_))
        | (refine And.intro (fun _=>?_) (fun h=>absurd (show true=false from h) (by decide)))
        | (refine And.intro (fun h=>absurd (show false=true from h) (by decide)) (fun _=>?_))
        | (refine And.intro (fun hb=>?_) (fun hb'=>?_))
        | refine And.intro ?_ ?_
      all_goals first
        | (show Len0 _;exact len_t4 (by omega) (by omega))
        | (show (_:Int)≠0;omega)
        | (show Int.natAbs _<(_:Nat);omega)
        | (show (_:Int)≤_;omega)
        | (show (_:Int)<_;omega)
        | (show some (CR.tv (tI _))=some (CR.tv (tI _));rfl)
        | (show (_:Nat)=(_:Nat);rfl)
        | (show (_:Nat)≤1000;decide)
        | (show (_:Int)=(_:Int);rfl)
        | (show (_:Int)≤_;decide)
        | (show (_:Int)<_;decide)
        -- PVC
    · cases h
def cEachMean:Con Try.prog where
  f:=37
  sem:=fun xs=>match xs with
    | [.row 3 [.v (.int .i64 a),.v (.int .i64 b),.v (.int .i64 c)],.row 3 [.v (.int .i64 d),.v (.int .i64 e),.v (.int .i64 f)],.clo g []]=>if g=46 then some ((I64 a∧I64 b∧I64 c)∧(I64 d∧0<d)∧(I64 e∧0<e)∧(I64 f∧0<f),.new 77 3 2 [.neg (roundI a d),.mag (roundI a d),.neg (roundI b e),.mag (roundI b e),.neg (roundI c f),.mag (roundI c f)]) else none
    | _=>none
  ok := by
    intro xs p r' h hp
    refine ⟨⟨_,Try.func37,by kernel_rfl,rfl⟩,fun us w ha=>?_⟩
    split at h
    · rename_i a b c d e f g
      split at h
      case isFalse=>cases h
      rename_i hf
      subst hf
      cases h
      obtain ⟨⟨h1,h2,h3⟩,⟨h4,p4⟩,⟨h5,p5⟩,h6,p6⟩:=hp
      have g11:=h1.1
      have g12:=h1.2
      have g21:=h2.1
      have g22:=h2.2
      have g31:=h3.1
      have g32:=h3.2
      have g41:=h4.1
      have g42:=h4.2
      have g51:=h5.1
      have g52:=h5.2
      have g61:=h6.1
      have g62:=h6.2
      refine fnu_ret (cxOk Try.prog ints_ok [] [cTMean]) follows [0,1,2,6,9,10,11] Try.func37 rfl 100 _ rfl (by simp) ?_ ha
      repeat' first
        | exact trivial
        | (refine And.intro (show regChk _ _ _ _ _=true from by kernel_rfl) (And.intro ?_ ?_))
        | (refine And.intro (fun _=>?_) (fun h=>absurd (show true=false from h) (by decide)))
        | (refine And.intro (fun h=>absurd (show false=true from h) (by decide)) (fun _=>?_))
        | (refine And.intro (fun hb=>?_) (fun hb'=>?_))
        | refine And.intro ?_ ?_
      all_goals first
        | (show some (CR.new _ _ _ _)=some (CR.new _ _ _ _);rfl)
        | (show (_:Int)≤_;first|omega|decide)
        | (show (_:Int)<_;first|omega|decide)
        | (show (_:Nat)=(_:Nat);rfl)
        | (show (_:Nat)≤1000;decide)
        | (show (_:Int)=(_:Int);rfl)
        | (show (_:Int)≤_;decide)
        | (show (_:Int)<_;decide)
        -- PVC
    · cases h
def cThin:Con Try.prog where
  f:=23
  sem:=fun xs=>match xs with
    | [.agg [.v (.int .i64 x),.v (.int .i64 y),.v (.int .i64 z),.v (.int .i64 n)],.sc (.v (.int .i64 k)),.agg [.v (.int .i64 a),.v (.int .i64 b),.v (.int .i64 c)]]=>some (True,.tv (tTh (thinR x y z n k a b c)))
    | _=>none
  ok := by
    intro xs p r' h hp
    refine ⟨⟨_,Try.func23,by kernel_rfl,rfl⟩,fun us w ha=>?_⟩
    split at h
    · rename_i x y z n k a b c
      cases h
      refine fn_ret (cxOk Try.prog ints_ok [] [cTGood,cVGood,cVOf,cEachMean,cVTold]) follows Try.func23 rfl 100 _ rfl (by simp) ?_ ha
      repeat' first
        | exact trivial
        | (refine And.intro (show regChk _ _ _ _ _=true from by kernel_rfl) (And.intro ?_ ?_))
        | (refine And.intro (fun _=>?_) (fun h=>absurd (show true=false from h) (by decide)))
        | (refine And.intro (fun h=>absurd (show false=true from h) (by decide)) (fun _=>?_))
        | (refine And.intro (fun hb=>?_) (fun hb'=>?_))
        | refine And.intro ?_ ?_
        | intro _
      all_goals first
        | (show some (CR.tv (.tup _))=some (CR.tv (tTh _));first|exact th_eq (th1 (by assumption))|exact th_eq (th2 (by assumption) (by assumption))|exact th_eq (th3 (by assumption) (by assumption) (by assumption))|exact th_eq (th4 (by assumption) (by assumption) (by assumption)))
        | (show (_:Int)≤IntKind.i64.wrap _;exact (wrap_J _).1)
        | (show IntKind.i64.wrap _<(9223372036854775808:Int);exact (wrap_J _).2)
        | (show (0:Int)<IntKind.i64.wrap (n+1);have hk:=okT_bd (badT_f.1 (show badT x y z n k a b c=false from by assumption));rw [(sums (show badT x y z n k a b c=false from by assumption)).2.2.2];omega)
        | (show (_:Bool)=(_:Bool);first|assumption|exact beq_iff_eq.2 (by assumption)|(exact and_tt (by first|assumption|exact beq_iff_eq.2 (by assumption)) (by first|assumption|exact beq_iff_eq.2 (by assumption))))
        | (show (_:Nat)=(_:Nat);rfl)
        | (show (_:Nat)≤1000;decide)
        | (show (_:Int)=(_:Int);rfl)
        | (show (_:Int)≤_;decide)
        | (show (_:Int)<_;decide)
        -- PVC
    · cases h
def cWakes14:Con Try.prog where
  f:=25
  sem:=fun xs=>match xs with
    | []=>some (True,.tv (tB true))
    | _=>none
  ok := by
    intro xs p r' h hp
    refine ⟨⟨_,Try.func25,by kernel_rfl,rfl⟩,fun us w ha=>?_⟩
    split at h
    · skip
      cases h
      refine fn_ret (cxOk Try.prog ints_ok [] [cThin,cNum14]) follows Try.func25 rfl 100 _ rfl (by simp) ?_ ha
      repeat' first
        | exact trivial
        | (refine And.intro (show regChk _ _ _ _ _=true from by kernel_rfl) (And.intro ?_ ?_))
        | (refine And.intro (fun _=>?_) (fun h=>absurd (show true=false from h) (by decide)))
        | (refine And.intro (fun h=>absurd (show false=true from h) (by decide)) (fun _=>?_))
        | (refine And.intro (fun hb=>?_) (fun hb'=>?_))
        | refine And.intro ?_ ?_
        | intro _
      all_goals first
        | (show some (CR.tv (tB _))=some (CR.tv (tB _));exact tB_eq (by decide +kernel))
        | (show (_:Bool)=(_:Bool);first|assumption|exact beq_iff_eq.2 (by assumption)|(exact and_tt (by first|assumption|exact beq_iff_eq.2 (by assumption)) (by first|assumption|exact beq_iff_eq.2 (by assumption))))
        | (show (_:Nat)=(_:Nat);rfl)
        | (show (_:Nat)≤1000;decide)
        | (show (_:Int)=(_:Int);rfl)
        | (show (_:Int)≤_;decide)
        | (show (_:Int)<_;decide)
        -- PVC
    · cases h
end
end Go.Proofs.Ytglgmepolanfpaa.Wh
end
section
set_option linter.unusedVariables false
set_option linter.unusedSimpArgs false
namespace Go.Proofs.YtglgmepolanfpaaW.Sx
open Go Go.RowKit Go.Proofs.YtglgmepolanfpaaW.PrintWords Go.Proofs.YtglgmepolanfpaaW.PrintMore Go.Proofs.YtglgmepolanfpaaW.Aid Go.Proofs.YtglgmepolanfpaaW.Big
section
variable {P:Program} {X:Cx} {base:Nat} {w0:World} {n:Nat} {s s':St} {a:Act} {w:World} {Q:Exit→Act→World→Prop}
def lpN {α β:Type} (X:Cx) (n:Nat) (L:LI α) (L2:α→LI β) (f:Nat) (c:Code) (ke:Nat→St→Prop) (kr:St→Prop) (s:St):Prop :=
  (∃ v,atL L v s)∧∀ v,L.I v→wfB (L.gs v) (L.bs v)=true∧vcl X n (L2 v) f c (fun s'=>∃ v',L.μ v'<L.μ v∧atL L v' s') ke kr (stB (L.gs v) (L.bs v))
theorem lpN_sound {α β:Type} (ok:CxOk2 P X) (hmo:P.follows .mixedOrders=true) (L:LI α) (L2:α→LI β) (f:Nat) (c:Code) (ke:Nat→St→Prop) (kr:St→Prop) (h:lpN X n L L2 f c ke kr s) (hS:SatE base w0 n s a w)
    (he:∀ id s a w,ke id s→SatE base w0 n s a w→Q (.exit id) a w) (hr:∀ s a w,kr s→SatE base w0 n s a w→Q .ret a w):(Code.loop c).wp P Q a w:=by
  obtain ⟨⟨v,hv⟩,hI⟩:=h
  have key:∀ m v s a w,L.μ v<m→atL L v s→SatE base w0 n s a w→Code.rounds P c Q m a w:=by
    intro m
    induction m with
    | zero=>intro v s a w h;exact absurd h (Nat.not_lt_zero _)
    | succ m ih =>
      intro v s a w hm hv hS
      obtain ⟨β,hS⟩:=hS
      have hw:=(hI v hv.1).1
      have hS':SatE base w0 n (stB (L.gs v) (L.bs v)) a w:=⟨β,sat_le hS hv.2.1 hv.2.2 hw⟩
      exact vcl_sound ok hmo (L2 v) f c _ _ _ _ _ _ _ (hI v hv.1).2 hS' (fun s a w hk hS=>by obtain ⟨v',h1,h2⟩:=hk;exact ih v' s a w (by omega) h2 hS) (fun id s a w hk hS=>he id s a w hk hS) (fun s a w hk hS=>hr s a w hk hS)
  exact wp_loop_rounds (L.μ v+1) (key _ v s a w (by omega) hv hS)
def vcn {α β:Type} (X:Cx) (n:Nat) (L:LI α) (L2:α→LI β):Nat→Code→(St→Prop)→(Nat→St→Prop)→(St→Prop)→St→Prop
  | 0,_,_,_,_,_=>False
  | f+1,.skip,kn,_,_,s=>kn s
  | f+1,.seq x y,kn,ke,kr,s=>vcn X n L L2 f x (vcn X n L L2 f y kn ke kr) ke kr s
  | f+1,.region _ ops draw,kn,_,_,s=>match effs X ops.toList ops.toList s with
    | some (es,s')=>regChk X n ops.toList draw es=true∧pres es∧kn s'
    | none=>False
  | f+1,.cond c x y,kn,ke,kr,s=>match boolOf (getv s.g c) with
    | some b=>(b=true→vcn X n L L2 f x kn ke kr s)∧(b=false→vcn X n L L2 f y kn ke kr s)
    | none=>False
  | f+1,.block id c,kn,ke,kr,s=>vcn X n L L2 f c kn (fun id' s=>if id'=id then kn s else ke id' s) kr s
  | f+1,.loop c,_,ke,kr,s=>lpN X n L L2 f c ke kr s
  | f+1,.exit id,_,ke,_,s=>ke id s
  | f+1,.ret,_,_,kr,s=>kr s
  | _+1,_,_,_,_,_=>False
theorem vcn_sound {α β:Type} (ok:CxOk2 P X) (hmo:P.follows .mixedOrders=true) (L:LI α) (L2:α→LI β):∀ (f:Nat) (c:Code) (kn:St→Prop) (ke:Nat→St→Prop) (kr:St→Prop) (s:St) (a:Act) (w:World) (Q:Exit→Act→World→Prop),vcn X n L L2 f c kn ke kr s→SatE base w0 n s a w →
    (∀ s a w,kn s→SatE base w0 n s a w→Q .normal a w)→(∀ id s a w,ke id s→SatE base w0 n s a w→Q (.exit id) a w)→(∀ s a w,kr s→SatE base w0 n s a w→Q .ret a w)→c.wp P Q a w:=by
  intro f
  induction f with
  | zero=>intro c kn ke kr s a w Q h;cases h
  | succ f ih =>
    intro c kn ke kr s a w Q h hS hn he hr
    cases c with
    | skip=>exact wp_skip (hn s a w h hS)
    | seq x y =>
      refine wp_seq (ih x _ ke kr s a w _ h hS (fun s a w hk hS=>ih y kn ke kr s a w Q hk hS hn he hr) (fun id s a w hk hS=>he id s a w hk hS) (fun s a w hk hS=>hr s a w hk hS))
    | region id ops draw =>
      simp only [vcn] at h
      split at h
      · rename_i es s' heff
        exact region_sound ok hmo heff h.1 h.2.1 hS (fun a w hS'=>hn s' a w h.2.2 hS')
      · cases h
    | cond c x y =>
      simp only [vcn] at h
      split at h
      · rename_i b hb
        refine wp_cond (boolOf_eq hS hb) ?_
        cases b with
        | true=>exact ih x kn ke kr s a w Q (h.1 rfl) hS hn he hr
        | false=>exact ih y kn ke kr s a w Q (h.2 rfl) hS hn he hr
      · cases h
    | block id c =>
      refine wp_block (ih c kn _ kr s a w _ h hS (fun s a w hk hS=>hn s a w hk hS) (fun id' s a w hk hS=>?_) (fun s a w hk hS=>hr s a w hk hS))
      show if id'=id then Q .normal a w else Q (.exit id') a w
      split
      · rename_i e;rw [if_pos e] at hk;exact hn s a w hk hS
      · rename_i e;rw [if_neg e] at hk;exact he id' s a w hk hS
    | loop c=>exact lpN_sound ok hmo L L2 f c ke kr h hS he hr
    | exit id=>exact wp_exit (he id s a w h hS)
    | ret=>exact wp_ret (hr s a w h hS)
    | rangeFunc _ _ _ _=>cases h
    | scope _=>cases h
    | label _=>cases h
    | goto _=>cases h
    | refuse _=>cases h
theorem fnn_ret {α β:Type} (L:LI α) (L2:α→LI β) (ok:CxOk2 P X) (hmo:P.follows .mixedOrders=true) {fid:FuncId} {fn:Func} {c:Code} (hf:P.funcs[fid]?=some fn) (hb:fn.body=some c) {xs:List TV} {us:List Value} {w:World} (f:Nat) (r:CR)
    (hr:xs.all (fun x=>x.refs.isEmpty)=true) (hn:xs.length≤fn.ntmps) (h:vcn X fn.ntmps L L2 f c (fun s=>resCR X fn.results.toList s=some r) (fun _ _=>False) (fun s=>resCR X fn.results.toList s=some r) (st0 xs))
    (hargs:All2 (TV.reads (fun _=>0) w.heap.size w) xs us):Ret P fid us.toArray w r:=by
  refine calls_of_wp hf hb ?_
  have hS:=sat0 hargs hr (n:=fn.ntmps) (by rw [← All2.length hargs];exact hn)
  have fin:∀ (s:St) (a:Act) (w':World),resCR X fn.results.toList s=some r→SatE w.heap.size w fn.ntmps s a w'→a.defers=[]∧∃ v,(results fn a.tmps).run P w' = .ok v w'∧∃ u,Ending.returned v = .returned u∧r.told w w' u∧Below w.heap.size w w':=by
    rintro s a w' hr1 ⟨β,hS⟩
    obtain ⟨u,h1,h2⟩:=res_run ok.toCxOk hS hr1
    exact ⟨hS.defers,u,h1,u,rfl,h2,hS.below⟩
  exact vcn_sound ok hmo L L2 f c _ _ _ _ _ _ _ h hS (fun s a w' hk hS=>fin s a w' hk hS) (fun id s a w' hk=>hk.elim) (fun s a w' hk hS=>fin s a w' hk hS)
end
end Go.Proofs.YtglgmepolanfpaaW.Sx
end
section
set_option linter.unusedVariables false
set_option linter.unusedSimpArgs false
namespace Go.Proofs.Ytglgmepolanfpaa.Wh
open Go Go.RowKit Go.Proofs.YtglgmepolanfpaaW.PrintWords Go.Proofs.YtglgmepolanfpaaW.PrintMore Go.Proofs.YtglgmepolanfpaaW.Aid Go.Proofs.YtglgmepolanfpaaW.Big Go.Proofs.YtglgmepolanfpaaW.Sx Go.Proofs.Ytglgmepolanfpaa.BitsWalk Go.Proofs.Ytglgmepolanfpaa.Limbs Go.Proofs.Ytglgmepolanfpaa.Whole Go.Proofs.Ytglgmepolanfpaa.FxWalk Go.Proofs
structure S14o where
  k:Int
  sx:Int
  sy:Int
  sz:Int
  tn:Int
def I14o (K a b c:Int) (v:S14o):Prop:=(1≤v.k∧v.k≤K+1)∧(v.k≤K→v.sx=(v.k-1)*a∧v.sy=(v.k-1)*b∧v.sz=(v.k-1)*c∧v.tn=v.k-1)
abbrev mayO (k a b c:Int):Bool:=bif bif !gV a b c then true else decide (k<1) then true else decide (k>256)
theorem mayO_ok {k a b c:Int} (h:mayO k a b c=false):gV a b c=true∧1≤k∧k≤256:=by
  unfold mayO at h
  cases h1:gV a b c<;>by_cases h2:k<1<;>by_cases h3:k>256<;>simp [h1,h2,h3] at h ⊢<;>omega
theorem pm {m a:Int} (h0:0≤m) (h1:m≤256) (ha : -35184372088832<a∧a<35184372088832):m*a≤m*35184372088831 ∧ -(m*35184372088831)≤m*a∧m*35184372088831≤9007199254740736:=by
  have e1:=Int.mul_le_mul_of_nonneg_left (show a≤35184372088831 by omega) h0
  have e2:=Int.mul_le_mul_of_nonneg_left (show -35184372088831≤a by omega) h0
  rw [Int.mul_neg] at e2
  exact ⟨e1,e2,by omega⟩
theorem okO {K k a b c:Int} (hg:gV a b c=true) (hK:1≤K∧K≤256) (hk:1≤k∧k≤K):OkT ((k-1)*a) ((k-1)*b) ((k-1)*c) (k-1) K a b c:=by
  obtain ⟨h1,h2,h3⟩:=gV_bd hg
  have p1:=pm (m:=k-1) (by omega) (by omega) h1
  have p2:=pm (m:=k-1) (by omega) (by omega) h2
  have p3:=pm (m:=k-1) (by omega) (by omega) h3
  have hm:(k-1)*35184372088831≤255*35184372088831:=Int.mul_le_mul_of_nonneg_right (by omega) (by decide)
  refine ⟨goodT_iff.2 ⟨by omega,by omega,by omega,by omega,by omega,?_⟩,hK.1,hK.2,hg⟩
  by_cases h0:k=1
  · right;subst h0;simp
  · left;omega
theorem rk {k a:Int} (hk:0<k):roundI ((k-1)*a+a) k=a:=by
  rw [ri_p hk,show (k-1)*a+a=a*k by rw [Int.sub_mul,Int.one_mul,Int.mul_comm k a];omega]
  exact rp_can a hk
theorem ansO {K k a b c:Int} (hg:gV a b c=true) (hK:1≤K∧K≤256) (hk:1≤k∧k≤K) :
    (k<K∧thinR ((k-1)*a) ((k-1)*b) ((k-1)*c) (k-1) K a b c=(((k-1)*a+a,(k-1)*b+b,(k-1)*c+c,k-1+1),(0,0,0),false,0)) ∨
    (k=K∧thinR ((k-1)*a) ((k-1)*b) ((k-1)*c) (k-1) K a b c=((0,0,0,0),(a,b,c),true,0)):=by
  have hok:=okO hg hK hk
  obtain ⟨g1,g2,g3⟩:=gV_iff.1 hg
  by_cases hlt:k<K
  · left
    refine ⟨hlt,?_⟩
    unfold thinR;rw [if_pos hok,if_pos (by omega)]
  · right
    refine ⟨by omega,?_⟩
    have ev:meanV ((k-1)*a+a) ((k-1)*b+b) ((k-1)*c+c) (k-1+1)=(a,b,c,0):=by
      unfold meanV
      rw [show k-1+1=k by omega,rk (by omega),rk (by omega),rk (by omega)]
      unfold vT;rw [if_pos (by simp [g1,g2,g3])]
    unfold thinR;rw [if_pos hok,if_neg (by omega),if_pos (by rw [ev]),ev]
abbrev c4 (x y z n:Int):List Value:=[.int .i64 x,.int .i64 y,.int .i64 z,.int .i64 n]
abbrev chkA (p:(Int × Int × Int × Int) × (Int × Int × Int) × Bool × Int) (a b c:Int):Bool:=bif bif bif p.2.2.2 != 0 then true else !p.2.2.1 then true else !eqL (cells3 p.2.1.1 p.2.1.2.1 p.2.1.2.2) (cells3 a b c) then true else !eqL (c4 p.1.1 p.1.2.1 p.1.2.2.1 p.1.2.2.2) (c4 0 0 0 0)
theorem to1 {k a b c:Int} (h:mayO k a b c=false):chkA (thinR 0 0 0 0 1 a b c) a b c=false:=by
  obtain ⟨hg,_⟩:=mayO_ok h
  have:=ansO (K:=1) (k:=1) hg (by decide) (by decide)
  rw [show (1:Int)-1=0 from rfl,Int.zero_mul,Int.zero_mul,Int.zero_mul] at this
  rcases this with ⟨h1,_⟩|⟨_,e⟩
  · exact absurd h1 (by decide)
  · rw [e];simp [eqL,eqV]
abbrev chkB (p:(Int × Int × Int × Int) × (Int × Int × Int) × Bool × Int) (k K a b c:Int):Bool:=bif bif bif p.2.2.2 != 0 then true else !(p.2.2.1 == (k == K)) then true else (bif p.2.2.1 then !eqL (cells3 p.2.1.1 p.2.1.2.1 p.2.1.2.2) (cells3 a b c) else false) then true else (bif !p.2.2.1 then !eqL (cells3 p.2.1.1 p.2.1.2.1 p.2.1.2.2) (cells3 0 0 0) else false)
theorem to2 {K a b c:Int} {v:S14o} (h:mayO K a b c=false) (hI:I14o K a b c v) (hk:decide (v.k≤K)=true):chkB (thinR v.sx v.sy v.sz v.tn K a b c) v.k K a b c=false:=by
  obtain ⟨hg,hK⟩:=mayO_ok h
  have hk:=of_decide_eq_true hk
  obtain ⟨e1,e2,e3,e4⟩:=hI.2 hk
  rw [e1,e2,e3,e4]
  rcases ansO (K:=K) (k:=v.k) hg hK ⟨hI.1.1,hk⟩ with ⟨h1,e⟩|⟨h1,e⟩
  · rw [e];unfold chkB;rw [beq_eq_false_iff_ne.2 (show v.k≠K by omega)];simp [eqL,eqV]
  · rw [e];unfold chkB;rw [beq_iff_eq.2 h1];simp [eqL,eqV]
theorem to3 {K a b c:Int} {v:S14o} (h:mayO K a b c=false) (hI:I14o K a b c v) (hk:decide (v.k≤K)=true):I14o K a b c ⟨IntKind.i64.wrap (v.k+1),(thinR v.sx v.sy v.sz v.tn K a b c).1.1,(thinR v.sx v.sy v.sz v.tn K a b c).1.2.1,(thinR v.sx v.sy v.sz v.tn K a b c).1.2.2.1,(thinR v.sx v.sy v.sz v.tn K a b c).1.2.2.2⟩:=by
  obtain ⟨hg,hK⟩:=mayO_ok h
  have hk:=of_decide_eq_true hk
  have h0:=hI.1
  obtain ⟨e1,e2,e3,e4⟩:=hI.2 hk
  rw [e1,e2,e3,e4,wr (x:=v.k+1) (by omega) (by omega)]
  refine ⟨⟨by dsimp only;omega,by dsimp only;omega⟩,fun hk'=>?_⟩
  dsimp only at hk' ⊢
  rcases ansO (K:=K) (k:=v.k) hg hK ⟨hI.1.1,hk⟩ with ⟨h1,e⟩|⟨h1,e⟩
  · rw [e]
    have t:∀ x:Int,(v.k-1)*x+x=(v.k+1-1)*x:=fun x=>by rw [Int.sub_mul,Int.one_mul,show v.k+1-1=v.k by omega];omega
    exact ⟨t a,t b,t c,by dsimp only;omega⟩
  · omega
theorem mu3 {K a b c:Int} {v:S14o} (h:mayO K a b c=false) (hI:I14o K a b c v) (hk:decide (v.k≤K)=true):(K+1-IntKind.i64.wrap (v.k+1)).toNat<(K+1-v.k).toNat:=by
  obtain ⟨hg,hK⟩:=mayO_ok h
  have hk:=of_decide_eq_true hk
  have h0:=hI.1
  rw [wr (x:=v.k+1) (by omega) (by omega)];omega
theorem inO {K a b c:Int} (h:mayO K a b c=false):I14o K a b c ⟨1,0,0,0,0⟩:=by
  obtain ⟨hg,hK⟩:=mayO_ok h
  refine ⟨⟨Int.le_refl _,by dsimp only;omega⟩,fun _=>?_⟩
  dsimp only
  rw [show (1:Int)-1=0 from rfl,Int.zero_mul,Int.zero_mul,Int.zero_mul]
  exact ⟨rfl,rfl,rfl,rfl⟩
section
set_option maxRecDepth 100000
set_option maxHeartbeats 8000000
abbrev row14o (tx ty tz tn kk a b c:Nat→Int):Nat→List A0:=fun j=>[.v (.int .i64 (tx j)),.v (.int .i64 (ty j)),.v (.int .i64 (tz j)),.v (.int .i64 (tn j)),.v (.int .i64 (kk j)),.v (.int .i64 (a j)),.v (.int .i64 (b j)),.v (.int .i64 (c j))]
def law14o (n:Nat) (tx ty tz tn kk a b c:Nat→Int) (i:Int):LI S14o where
  gs:=fun v=>[(0,.rowF n 8 (row14o tx ty tz tn kk a b c)),(2,tB false),(3,tN .i64 i),(4,.ptr 4 0),(9,.ptr 9 0),(10,tN .i64 v.k)]
  bs:=fun v=>[(4,44,row14o tx ty tz tn kk a b c i.toNat),(9,42,[.v (.int .i64 v.sx),.v (.int .i64 v.sy),.v (.int .i64 v.sz),.v (.int .i64 v.tn)])]
  I:=fun v=>I14o (kk i.toNat) (a i.toNat) (b i.toNat) (c i.toNat) v
  μ:=fun v=>(kk i.toNat+1-v.k).toNat
theorem ones_law (n:Nat) (tx ty tz tn kk a b c:Nat→Int) {us:List Value} {w:World} (hargs:All2 (TV.reads (fun _=>0) w.heap.size w) [.rowF n 8 (row14o tx ty tz tn kk a b c)] us):Ret Try.prog 8 us.toArray w (.tv (tB true)):=by
  refine fnn_ret (lawL 8 n (row14o tx ty tz tn kk a b c) 2) (law14o n tx ty tz tn kk a b c) (cxOk Try.prog ints_ok [eqThin,eqVec] [cWakes14,cR3May,cThin,cNum14]) follows Try.func8 rfl 300 _ rfl (by simp) ?_ hargs
  repeat' first
    | exact trivial
    | (refine And.intro (show regChk _ _ _ _ _=true from by kernel_rfl) (And.intro ?_ ?_))
    | (refine And.intro (fun _=>?_) (fun h=>absurd (show true=false from h) (by decide)))
    | (refine And.intro (fun h=>absurd (show false=true from h) (by decide)) (fun _=>?_))
    | (have:=hJ;refine And.intro (fun hk=>?_) (fun hk=>?_))
    | (have:=hA;refine And.intro (fun hb=>?_) (fun hb'=>?_))
    | (have:=hC;refine And.intro (fun hA=>?_) (fun hA=>?_))
    | refine And.intro (fun hC=>?_) (fun hC=>?_)
    | refine And.intro ?_ ?_
    | (have:=hA;intro v2 hJ)
    | (intro v hv)
    | intro _
  all_goals first
    | (show wfB _ _=true;rfl)
    | (show (_:Bool)=true;first|assumption|exact beq_iff_eq.2 (by assumption)|(exact and_tt (by first|assumption|exact beq_iff_eq.2 (by assumption)) (by first|assumption|exact beq_iff_eq.2 (by assumption))))
    | (show (0:Int)≤v;exact hv.1)
    | (show v<(n:Int);exact (hC1 hC).1)
    | (exact ⟨0,⟨Int.le_refl _,Int.natCast_nonneg _⟩,⟨rfl,rfl,rfl,trivial⟩,trivial⟩)
    | (exact ⟨IntKind.i64.wrap (v+1),(stepL hv hC (by decide)).1,(stepL hv hC (by decide)).2,⟨rfl,rfl,rfl,trivial⟩,trivial⟩)
    | (exact ⟨⟨1,0,0,0,0⟩,inO hA,⟨rfl,rfl,rfl,rfl,rfl,rfl,trivial⟩,⟨rfl,⟨rfl,rfl,rfl,rfl,rfl,rfl,rfl,rfl,trivial⟩,rfl,⟨rfl,rfl,rfl,rfl,trivial⟩,trivial⟩⟩)
    | (refine ⟨_,?_,to3 hA hJ (by assumption),⟨rfl,rfl,rfl,rfl,rfl,rfl,trivial⟩,⟨rfl,⟨rfl,rfl,rfl,rfl,rfl,rfl,rfl,rfl,trivial⟩,rfl,⟨rfl,rfl,rfl,rfl,trivial⟩,trivial⟩⟩;exact mu3 hA hJ (by assumption))
    | (show some (CR.tv (tB true))=some (CR.tv (tB true));rfl)
    | (show some (CR.tv (tB false))=some (CR.tv (tB true));exfalso;first
        | exact no (to1 hA) (by assumption)
        | exact no (to2 hA hJ (by assumption)) (by assumption))
    -- PVC
abbrev ks14o:List (Option IntKind):=[some .i64,some .i64,some .i64,some .i64,some .i64,some .i64,some .i64,some .i64]
theorem thinOnes_row (n:Nat) (f:Nat→List Value) (hf:∀ j,okV ks14o (f j)) {us:List Value} {w:World} (hargs:All2 (TV.reads (fun _=>0) w.heap.size w) [.rowF n 8 (fun j=>cellsG f j 0 ks14o)] us):Ret Try.prog 8 us.toArray w (.tv (tB true)) :=
  ones_law n (gI f 0) (gI f 1) (gI f 2) (gI f 3) (gI f 4) (gI f 5) (gI f 6) (gI f 7) hargs
end
end Go.Proofs.Ytglgmepolanfpaa.Wh
end
section
namespace Go.Proofs.Ytglgmepolanfpaa.thinOnes
open Go.ChangeShapes Go.WideShapes Go.ChangeAt Go.RowKit Go.Proofs.YtglgmepolanfpaaW.PrintWords Go.Proofs.YtglgmepolanfpaaW.Sx Go.Proofs.Ytglgmepolanfpaa.Wh
set_option linter.unusedVariables false
theorem own:ownKnob Try.prog.godebug=none:=by kernel_rfl
theorem laidOut:laidOutB Try.prog=true:=by kernel_rfl
theorem cells:lvs Try.prog true 30 44=some [some .i64,some .i64,some .i64,some .i64,some .i64,some .i64,some .i64,some .i64]:=by kernel_rfl
set_option maxRecDepth 100000 in
theorem lifted (os:Os) (started:os.Started) (H:Type) (enc:TypeId × Value→H) :
    ReturnsInHanded {} Try.checked os 8 .any (Rows.thinOnesSpec.pre6 enc Try.prog Try.f8 Rows.thinOnesRow.domain false) (Rows.thinOnesSpec.post enc Try.prog Try.f8 false true false false):=by
  refine returnsInHanded_of_change_sized (C:=Try.checked) own started (by kernel_rfl) Try.func8
    (ChangeSpec.witness6 (enc:=enc) (C:=Try.checked) false ⟨#[],#[.slice none 0 0],[]⟩ 8 (by kernel_rfl) (by kernel_rfl) (by kernel_rfl) (by kernel_rfl)) ?_
  intro W base args ds gs before hval0 hW hcnd hsz0 _
  have hval:∀ (j:Nat) t v,Try.f8.params[j]?=some t→args[j]?=some v→Value.okWide Try.prog W .any base t v:=hval0
  have hW':=hW
  obtain ⟨p,q,hA0,hV,rfl,hfz,hnd⟩:=hW
  have hA:DataW.TrodAll enc Try.prog W 0 (fun _=>true) true Try.f8.params.toList args.toList ds p:=hA0
  rw [Try.params8] at hA hval
  obtain ⟨v0,vs0,d0,ds0,p0,q0,hargs,rfl,rfl,h0,r0⟩:=trodAll_cons hA
  obtain ⟨rfl,rfl,rfl⟩:=trodAll_nil r0
  obtain rfl:args=#[v0]:=by cases args;simp_all
  obtain ⟨rfl,rfl⟩:=trodVars_none hV
  have k0:=h0
  have lt0:∀ x∈p0,x.block<W.heap.size:=by obtain ⟨m,hm⟩:=k0;exact DataW.trod_lt m _ _ _ hm
  have hv0:=hval 0 40 v0 rfl rfl
  obtain ⟨a0,len0,cap0,rfl⟩:=okWide_slice Try.underlying40 hv0
  obtain ⟨f,hf,hr⟩:=row_of Try.underlying40 cells (by decide) h0
  clear hA0 hval0 hsz0
  refine Calls.mono (thinOnes_row len0 f hf (us:=[_]) (.cons (hr _) .nil)) fun e W' hpost=>?_
  obtain ⟨u,rfl,hu,bel⟩:=hpost
  obtain rfl:u = .bool true:=hu
  exact ⟨_,rfl,_,_,_,[],_,[],hW',trodAll_mk1 (shut_bool Try.underlying4 _),(trodAll_cons_mk (Below.trod laidOut (by kernel_rfl) (of_decide_eq_true (by kernel_rfl)) k0 bel lt0) trodAll_mk0),rfl,bel.frame _,fun h=>by cases h⟩
theorem over:Rows.thinOnesRow.holds Try.pinned (OpenSpec.ofChange Rows.thinOnesSpec) :=
  OpenClaim.holds_of_wide 8 Try.f8 rfl rfl rfl rfl rfl rfl rfl ⟨rfl,rfl,rfl,rfl,rfl⟩ rfl rfl rfl rfl rfl (by kernel_rfl) Try.func8 (by kernel_rfl)
    (of_decide_eq_true (by kernel_rfl)) (by unfold Func.isWrapper;first|(rw [if_pos (by decide +kernel)];kernel_rfl)|(rw [if_neg (by decide +kernel)];exact ⟨rfl,rfl⟩))
    (fun os started H enc _=>lifted os started H enc)
theorem proved:Rows.ThinOnesSaid:=over
end Go.Proofs.Ytglgmepolanfpaa.thinOnes
namespace Go.Proofs.Ytglgmepolanfpaa
theorem thinOnes_holds:Rows.ThinOnesSaid:=thinOnes.proved
end Go.Proofs.Ytglgmepolanfpaa
end
