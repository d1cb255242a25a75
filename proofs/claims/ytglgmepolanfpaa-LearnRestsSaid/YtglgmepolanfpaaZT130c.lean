/- The row of LearnRests, out of its law by the reckoner: for every argument that reads as data the call returns true and leaves the argument as it was. -/
import Derived.Test.YtglgmepolanfpaaZT130b
import Derived.Laws.StructEq
import Derived.Deep.Slices
import Derived.OpenShut
import Derived.SizedLaws
import Derived.Test.YtglgmepolanfpaaRows
import Derived.WalkKit
import Derived.ProofKit
import Derived.ShutString
import Derived.ChangeOld
import Derived.Below
import Derived.Carry
section
set_option linter.unusedVariables false
set_option linter.unusedSimpArgs false
namespace Go.Proofs.YtglgmepolanfpaaW.Sx
open Go Go.RowKit Go.Proofs.YtglgmepolanfpaaW.PrintWords Go.Proofs.YtglgmepolanfpaaW.PrintMore Go.Proofs.YtglgmepolanfpaaW.Aid Go.Proofs.YtglgmepolanfpaaW.Big
def eqV:Value→Value→Bool
  | .int _ a,.int _ b=>a == b
  | .bool a,.bool b=>a == b
  | _,_=>false
def eqL:List Value→List Value→Bool
  | [],[]=>true
  | [x],[y]=>eqV x y
  | x::xs,y::ys=>eqV x y&&eqL xs ys
  | _,_=>false
def isK:Option IntKind→Value→Bool
  | some k,.int k' _=>decide (k'=k)
  | none,.bool _=>true
  | _,_=>false
def isKs:List (Option IntKind)→List Value→Bool
  | [],[]=>true
  | k::ks,x::xs=>isK k x&&isKs ks xs
  | _,_=>false
def rep {α:Type} (l:List α):Nat→List α
  | 0=>[]
  | n+1=>l++rep l n
mutual
/-- What a struct's cells are,in line (arr: also of arrays). -/
def lvs (P:Program) (arr:Bool):Nat→TypeId→Option (List (Option IntKind))
  | 0,_=>none
  | d + 1, T => match P.underlying T, P.info? T with
    | some (.int k),some inf=>if inf.size=1 then some [some k] else none
    | some .bool,some inf=>if inf.size=1 then some [none] else none
    | some (.struct fs),some inf=>if P.stoodInHeld T then none else match lvsF P arr d fs.toList 0 with
      | some ks=>if inf.size=ks.length then some ks else none
      | none=>none
    | some (.array n e),some inf=>if arr then match lvs P arr d e with
      | some ks=>if inf.size=(rep ks n).length then some (rep ks n) else none
      | none=>none
      else none
    | _,_=>none
def lvsF (P:Program) (arr:Bool):Nat→List Field→Nat→Option (List (Option IntKind))
  | _,[],_=>some []
  | 0,_::_,_=>none
  | d + 1, f :: fs, off => if f.name = "_" ∨ f.offset ≠ off then none else match lvs P arr d f.type with
    | some (k::ks)=>match lvsF P arr d fs (off+(k::ks).length) with
      | some r=>some (k::ks++r)
      | none=>none
    | _=>none
end
theorem lvs_info {P:Program} {arr:Bool} {d:Nat} {T:TypeId} {ks:List (Option IntKind)} (h:lvs P arr d T=some ks):∃ inf,P.info? T=some inf∧inf.size=ks.length:=by
  cases d with
  | zero=>cases h
  | succ d =>
  rw [lvs] at h
  split at h
  · rename_i hi
    split at h
    · rename_i hs;cases h;exact ⟨_,hi,hs⟩
    · cases h
  · rename_i hi
    split at h
    · rename_i hs;cases h;exact ⟨_,hi,hs⟩
    · cases h
  · rename_i hi
    split at h
    · cases h
    · split at h
      · split at h
        · rename_i hs;cases h;exact ⟨_,hi,hs⟩
        · cases h
      · cases h
  · rename_i hi
    split at h
    · split at h
      · split at h
        · rename_i hs;cases h;exact ⟨_,hi,hs⟩
        · cases h
      · cases h
    · cases h
  · cases h
theorem lvs_cells {P:Program} {arr:Bool} {d:Nat} {T:TypeId} {ks:List (Option IntKind)} (h:lvs P arr d T=some ks):P.cellsOf T=ks.length:=by
  obtain ⟨inf,h1,h2⟩:=lvs_info h
  unfold Program.cellsOf
  rw [h1];exact h2
def isAggT (P:Program) (T:TypeId):Bool:=match P.underlying T with
  | some (.struct _)=>true
  | _=>false
theorem isKs_len:∀ {ks:List (Option IntKind)} {xs:List Value},isKs ks xs=true→xs.length=ks.length
  | [],[],_=>rfl
  | _::_,_::_,h=>by simp only [isKs,Bool.and_eq_true] at h;simp [isKs_len h.2]
  | [],_::_,h=>by cases h
  | _::_,[],h=>by cases h
theorem isKs_take:∀ {ks ks':List (Option IntKind)} {xs:List Value},isKs (ks++ks') xs=true→isKs ks (xs.take ks.length)=true∧isKs ks' (xs.drop ks.length)=true
  | [],ks',xs,h=>⟨by cases xs<;>rfl,h⟩
  | k::ks,ks',[],h=>by cases h
  | k::ks,ks',x::xs,h=>by
    simp only [List.cons_append,isKs,Bool.and_eq_true] at h
    have:=isKs_take h.2
    exact ⟨by simp only [List.length_cons,List.take_succ_cons,isKs,h.1,this.1,Bool.and_self],by simpa using this.2⟩
theorem eqL_cons (x y:Value) (xs ys:List Value) (h:xs.length=ys.length):eqL (x::xs) (y::ys)=(eqV x y&&eqL xs ys):=by
  cases xs with
  | nil=>cases ys with
    | nil=>simp [eqL]
    | cons _ _=>simp at h
  | cons _ _=>cases ys with
    | nil=>simp at h
    | cons _ _=>rfl
theorem eqL_append:∀ {xs ys xs' ys':List Value},xs.length=ys.length→xs'.length=ys'.length→eqL (xs++xs') (ys++ys')=(eqL xs ys&&eqL xs' ys')
  | [],[],xs',ys',_,_=>by simp [eqL]
  | x::xs,y::ys,xs',ys',h,h'=>by
    have h2:xs.length=ys.length:=by simpa using h
    rw [List.cons_append,List.cons_append,eqL_cons _ _ _ _ (by simp [h2,h']),eqL_append h2 h',eqL_cons _ _ _ _ h2,Bool.and_assoc]
section
variable {P:Program}
theorem run_isAgg' {T:TypeId} {d:TypeDesc} (hu:P.underlying T=some d) (w:World):(isAgg T).run P w = .ok (descAgg d) w:=by
  simp only [isAgg,Sem.run_bind,run_underlying hu,Result.andThen_ok]
  cases d<;>rfl
def valOf (P:Program) (T:TypeId) (xs:List Value):Option Value:=match P.underlying T with
  | some (.struct _)=>some (.agg xs.toArray)
  | _=>match xs with
    | [x]=>some x
    | _=>none
theorem eqV_run {k:Option IntKind} {T:TypeId} (hT:P.underlying T=some (match k with|some k => .int k|none => .bool)) {x y:Value} (hx:isK k x=true) (hy:isK k y=true) (d:Nat) (w:World):(Op.equalIn (d+1) T x y).run P w = .ok (eqV x y) w:=by
  cases k with
  | some k =>
    cases x<;>simp only [isK] at hx<;>try cases hx
    cases y<;>simp only [isK] at hy<;>try cases hy
    rw [of_decide_eq_true hx,of_decide_eq_true hy]
    exact run_equalIn_int w d T k k _ _ hT
  | none =>
    cases x<;>simp only [isK] at hx<;>try cases hx
    cases y<;>simp only [isK] at hy<;>try cases hy
    exact run_equalIn_bool' w d T _ _ hT
theorem part_run {T:TypeId} {ks:List (Option IntKind)} {xs:List Value} {off:Nat} {d:Nat} (hl:lvs P false d T=some ks) (hn:0<ks.length) (hx:off+ks.length≤xs.length) (w:World):∃ v,valOf P T ((xs.drop off).take ks.length)=some v∧(part T xs.toArray off).run P w = .ok v w:=by
  cases d with
  | zero=>cases hl
  | succ d =>
  rw [lvs] at hl
  split at hl
  · rename_i k inf hu hi
    split at hl
    case isFalse=>cases hl
    cases hl
    obtain ⟨x,hx0⟩:∃ x,xs[off]?=some x:=⟨xs[off]'(by simp at hx;omega),by simp⟩
    refine ⟨x,?_,?_⟩
    · unfold valOf;rw [hu]
      have:(xs.drop off).take 1=[x]:=by rw [List.take_one];rw [List.head?_drop,hx0];rfl
      simp only [List.length_cons,List.length_nil,Nat.zero_add,this]
    · simp only [part,Sem.run_bind,run_isAgg' hu,Result.andThen_ok,descAgg,Bool.false_eq_true,if_false,List.getElem?_toArray,hx0,Sem.run_pure]
  · rename_i inf hu hi
    split at hl
    case isFalse=>cases hl
    cases hl
    obtain ⟨x,hx0⟩:∃ x,xs[off]?=some x:=⟨xs[off]'(by simp at hx;omega),by simp⟩
    refine ⟨x,?_,?_⟩
    · unfold valOf;rw [hu]
      have:(xs.drop off).take 1=[x]:=by rw [List.take_one];rw [List.head?_drop,hx0];rfl
      simp only [List.length_cons,List.length_nil,Nat.zero_add,this]
    · simp only [part,Sem.run_bind,run_isAgg' hu,Result.andThen_ok,descAgg,Bool.false_eq_true,if_false,List.getElem?_toArray,hx0,Sem.run_pure]
  · rename_i fs inf hu hi
    split at hl
    · cases hl
    · split at hl
      · split at hl
        · rename_i hsz
          cases hl
          refine ⟨.agg ((xs.drop off).take ks.length).toArray,?_,?_⟩
          · unfold valOf;rw [hu]
          · simp only [part,Sem.run_bind,run_isAgg' hu,Result.andThen_ok,descAgg,if_true,run_sizeOf' hi,Sem.run_pure,hsz]
            congr 2
            rw [List.extract_toArray,List.extract_eq_take_drop]
            congr 2
            omega
        · cases hl
      · cases hl
  · cases hl
  · cases hl
theorem eq_run:∀ (d:Nat),(∀ (T:TypeId) (ks:List (Option IntKind)) (xs ys:List Value) (x y:Value) (D:Nat) (w:World),lvs P false d T=some ks→0<ks.length→isKs ks xs=true→isKs ks ys=true→valOf P T xs=some x→valOf P T ys=some y→d≤D→(Op.equalIn D T x y).run P w = .ok (eqL xs ys) w) ∧
    (∀ (fs:List Field) (off:Nat) (ks:List (Option IntKind)) (xs ys:List Value) (D:Nat) (w:World),lvsF P false d fs off=some ks→off+ks.length≤xs.length→off+ks.length≤ys.length→isKs ks ((xs.drop off).take ks.length)=true→isKs ks ((ys.drop off).take ks.length)=true→d≤D+1→(Op.eqFields D xs.toArray ys.toArray fs).run P w = .ok (eqL ((xs.drop off).take ks.length) ((ys.drop off).take ks.length)) w):=by
  intro d
  induction d with
  | zero =>
    refine ⟨fun T ks xs ys x y D w h=>(by cases h),fun fs off ks xs ys D w h=>?_⟩
    cases fs with
    | nil=>cases h;intro _ _ _ _ _;simp [Op.eqFields,eqL]
    | cons f fs=>cases h
  | succ d ih =>
    obtain ⟨ih1,ih2⟩:=ih
    constructor
    · intro T ks xs ys x y D w h hn hx hy hvx hvy hD
      obtain ⟨D,rfl⟩:∃ D',D=D'+1:=⟨D-1,by omega⟩
      have hlx:=isKs_len hx
      have hly:=isKs_len hy
      rw [lvs] at h
      split at h
      · rename_i k inf hu hi
        split at h
        case isFalse=>cases h
        cases h
        unfold valOf at hvx hvy
        rw [hu] at hvx hvy
        match xs,hlx with
        | [a],_=>match ys,hly with
          | [b],_ =>
            cases hvx;cases hvy
            simp only [isKs,Bool.and_true] at hx hy
            exact eqV_run (k:=some k) hu hx hy D w
      · rename_i inf hu hi
        split at h
        case isFalse=>cases h
        cases h
        unfold valOf at hvx hvy
        rw [hu] at hvx hvy
        match xs,hlx with
        | [a],_=>match ys,hly with
          | [b],_ =>
            cases hvx;cases hvy
            simp only [isKs,Bool.and_true] at hx hy
            exact eqV_run (k:=none) hu hx hy D w
      · rename_i fs inf hu hi
        unfold valOf at hvx hvy
        rw [hu] at hvx hvy
        cases hvx;cases hvy
        split at h
        · cases h
        · rename_i hst
          split at h
          · rename_i ks' hf
            split at h
            · cases h
              have hfo:P.fieldsOf T=fs:=by unfold Program.fieldsOf;rw [hu]
              rw [run_equalIn_struct w D T _ _ (by rw [hfo];exact hu) (by simpa using hst),hfo]
              have:=ih2 fs.toList 0 ks xs ys D w hf (by omega) (by omega) (by rw [List.drop_zero,← hlx,List.take_length];exact hx) (by rw [List.drop_zero,← hly,List.take_length];exact hy) (by omega)
              rw [this,List.drop_zero,List.drop_zero]
              congr 2
              · rw [← hlx,List.take_length]
              · rw [← hly,List.take_length]
            · cases h
          · cases h
      · cases h
      · cases h
    · intro fs off ks xs ys D w h hxs hys hx hy hD
      cases fs with
      | nil=>cases h;simp [Op.eqFields,eqL]
      | cons f fs =>
        rw [lvsF] at h
        split at h
        · cases h
        · rename_i hc
          have hname : f.name ≠ "_" := fun e => hc (Or.inl e)
          have hoff:f.offset=off:=Decidable.byContradiction fun e=>hc (Or.inr e)
          split at h
          · rename_i k ks1 hl
            split at h
            · rename_i r hr
              cases h
              have e1:(k::(ks1++r)).length=(k::ks1).length+r.length:=by simp;omega
              have hlen:(k::ks1++r).length=(k::ks1).length+r.length:=by simp;omega
              rw [hlen] at hxs hys hx hy
              have sx:(xs.drop off).take ((k::ks1).length+r.length)=(xs.drop off).take (k::ks1).length++(xs.drop (off+(k::ks1).length)).take r.length:=by rw [List.take_add,List.drop_drop]
              have sy:(ys.drop off).take ((k::ks1).length+r.length)=(ys.drop off).take (k::ks1).length++(ys.drop (off+(k::ks1).length)).take r.length:=by rw [List.take_add,List.drop_drop]
              have lx:((xs.drop off).take (k::ks1).length).length=(k::ks1).length:=by rw [List.length_take,List.length_drop];omega
              have ly:((ys.drop off).take (k::ks1).length).length=(k::ks1).length:=by rw [List.length_take,List.length_drop];omega
              have hx2:=isKs_take hx
              have hy2:=isKs_take hy
              rw [sx] at hx2;rw [sy] at hy2
              rw [List.take_left' lx,List.drop_left' lx] at hx2
              rw [List.take_left' ly,List.drop_left' ly] at hy2
              obtain ⟨va,hva,ha⟩:=part_run hl (by simp) (off:=off) (xs:=xs) (by omega) w
              obtain ⟨vb,hvb,hb⟩:=part_run hl (by simp) (off:=off) (xs:=ys) (by omega) w
              have h3:=ih1 f.type (k::ks1) _ _ va vb D w hl (by simp) hx2.1 hy2.1 hva hvb (by omega)
              simp only [Op.eqFields,hname,ne_eq,not_false_eq_true,if_true,Sem.run_bind,hoff,ha,hb,h3,Result.andThen_ok]
              rw [hlen,sx,sy,eqL_append (by rw [lx,ly]) (by rw [List.length_take,List.length_take,List.length_drop,List.length_drop];omega)]
              cases eqL ((xs.drop off).take (k::ks1).length) ((ys.drop off).take (k::ks1).length) with
              | false=>simp
              | true =>
                simp only [Bool.not_true,Bool.false_eq_true,if_false,Bool.true_and]
                exact ih2 fs (off+(k::ks1).length) r xs ys D w hr (by omega) (by omega) hx2.2 hy2.2 (by omega)
            · cases h
          · cases h
end
def valsOf:List A0→Option (List Value)
  | []=>some []
  | .v x::r=>match valsOf r with
    | some l=>some (x::l)
    | none=>none
  | .neg x::r=>match valsOf r with
    | some l=>some (.bool (sgn x)::l)
    | none=>none
  | _::_=>none
theorem valsOf_eq {w:World}:∀ {cs:List A0} {l us:List Value},valsOf cs=some l→All2 (A0.reads w) cs us→us=l
  | [],l,us,h,ha=>by cases h;cases ha;rfl
  | c :: r, l, us, h, ha => by
    cases ha with
    | cons h1 h2 =>
    cases c with
    | v x =>
      simp only [valsOf] at h
      split at h
      · rename_i l' hl;cases h;rw [valsOf_eq hl h2,show _=x from h1]
      · cases h
    | neg x =>
      simp only [valsOf] at h
      split at h
      · rename_i l' hl;cases h;rw [valsOf_eq hl h2,show _=Value.bool (sgn x) from h1]
      · cases h
    | sl k l'=>cases h
    | mag x=>cases h
def eqCells (ks:List (Option IntKind)) (xs ys:List A0):Option Bool:=match valsOf xs,valsOf ys with
  | some a,some b=>match isKs ks a,isKs ks b with
    | true,true=>some (eqL a b)
    | _,_=>none
  | _,_=>none
def eqOk (P:Program) (T:TypeId) (ks:List (Option IntKind)):Bool:=(match lvs P false 20 T with|some l=>decide (l=ks)|none=>false)&&!P.eqGuardType P.depth T&&isAggT P T&&!ks.isEmpty
def eqS (P:Program) (T:TypeId) (ks:List (Option IntKind)) (h:eqOk P T ks=true):EqT P where
  T:=T
  f:=eqCells ks
  ok := by
    intro xs ys z hz us vs w x y hx hy
    unfold eqOk at h
    simp only [Bool.and_eq_true] at h
    obtain ⟨⟨⟨h1,h2⟩,h3⟩,h4⟩:=h
    split at h1
    · rename_i l hl
      have:=of_decide_eq_true h1
      subst this
      unfold eqCells at hz
      split at hz
      · rename_i a b ha hb
        obtain rfl:=valsOf_eq ha hx
        obtain rfl:=valsOf_eq hb hy
        split at hz
        · rename_i k1 k2
          cases hz
          have hg:P.eqGuardType P.depth T=false:=by simpa using h2
          refine ⟨run_eqGuard_agg w .eql T x y _ _ hg,run_eqGuard_agg w .neq T x y _ _ hg,?_⟩
          unfold isAggT at h3
          split at h3
          · rename_i fs hu
            exact (eq_run 20).1 T l us vs _ _ Op.maxDepth w hl (by cases l with|nil=>cases h4|cons _ _=>simp) k1 k2 (by unfold valOf;rw [hu]) (by unfold valOf;rw [hu]) (by decide)
          · cases h3
        · cases hz
      · cases hz
    · cases h1
end Go.Proofs.YtglgmepolanfpaaW.Sx
end
section
set_option linter.unusedVariables false
set_option linter.unusedSimpArgs false
namespace Go.Proofs.Ytglgmepolanfpaa.Wh
open Go Go.RowKit Go.Proofs.YtglgmepolanfpaaW.PrintWords Go.Proofs.YtglgmepolanfpaaW.PrintMore Go.Proofs.YtglgmepolanfpaaW.Aid Go.Proofs.YtglgmepolanfpaaW.Big Go.Proofs.YtglgmepolanfpaaW.Sx Go.Proofs.Ytglgmepolanfpaa.BitsWalk Go.Proofs.Ytglgmepolanfpaa.Limbs Go.Proofs.Ytglgmepolanfpaa.Whole Go.Proofs.Ytglgmepolanfpaa.FxWalk Go.Proofs
abbrev tV4 (p:Int × Int × Int × Int):TV := .tup [(true,[.v (.int .i64 p.1),.v (.int .i64 p.2.1),.v (.int .i64 p.2.2.1)]),(false,[.v (.int .i64 p.2.2.2)])]
theorem v4_eq {x y z e:Int} {p:Int × Int × Int × Int} (h:(x,y,z,e)=p):(some (CR.tv (.tup [(true,[.v (.int .i64 x),.v (.int .i64 y),.v (.int .i64 z)]),(false,[.v (.int .i64 e)])])):Option CR)=some (CR.tv (tV4 p)):=by rw [← h]
def vT (a b c:Int):Int × Int × Int × Int:=if (wd a&&(wd b&&wd c))=true then (a,b,c,0) else (0,0,0,2)
theorem tR_bad {a:Int} (h:((toldR a).2 != 0)=true):wd a=false∧(toldR a).2=2:=by
  unfold toldR at *
  by_cases hw:wd a=true
  · rw [if_pos hw] at h;exact absurd (show ((0:Int) != 0)=true from h) (by decide)
  · rw [if_neg hw];exact ⟨by simpa using hw,rfl⟩
theorem tR_ok {a:Int} (h:((toldR a).2 != 0)=false):wd a=true∧(toldR a).1=a:=by
  unfold toldR at *
  by_cases hw:wd a=true
  · rw [if_pos hw];exact ⟨hw,rfl⟩
  · rw [if_neg hw] at h;exact absurd (show ((2:Int) != 0)=false from h) (by decide)
theorem vT_1 {a b c:Int} (h:((toldR a).2 != 0)=true):((0:Int),(0:Int),(0:Int),(toldR a).2)=vT a b c:=by
  obtain ⟨h1,h2⟩:=tR_bad h
  unfold vT;rw [h2,if_neg (by simp [h1])]
theorem vT_2 {a b c:Int} (h:((toldR b).2 != 0)=true):((0:Int),(0:Int),(0:Int),(toldR b).2)=vT a b c:=by
  obtain ⟨h1,h2⟩:=tR_bad h
  unfold vT;rw [h2,if_neg (by simp [h1])]
theorem vT_3 {a b c:Int} (h:((toldR c).2 != 0)=true):((0:Int),(0:Int),(0:Int),(toldR c).2)=vT a b c:=by
  obtain ⟨h1,h2⟩:=tR_bad h
  unfold vT;rw [h2,if_neg (by simp [h1])]
theorem vT_4 {a b c:Int} (h:((toldR a).2 != 0)=false) (h':((toldR b).2 != 0)=false) (h'':((toldR c).2 != 0)=false):((toldR a).1,(toldR b).1,(toldR c).1,(0:Int))=vT a b c:=by
  obtain ⟨h1,h2⟩:=tR_ok h
  obtain ⟨h3,h4⟩:=tR_ok h'
  obtain ⟨h5,h6⟩:=tR_ok h''
  unfold vT;rw [h2,h4,h6,if_pos (by simp [h1,h3,h5])]
abbrev gV (x y z:Int):Bool:=allw [x,y,z]
theorem gV_iff {x y z:Int}:gV x y z=true↔wd x=true∧wd y=true∧wd z=true:=by simp [gV,allw]
theorem gV_bd {a b c:Int} (h:gV a b c=true):(-35184372088832<a∧a<35184372088832)∧(-35184372088832<b∧b<35184372088832)∧(-35184372088832<c∧c<35184372088832):=by
  obtain ⟨h1,h2,h3⟩:=gV_iff.1 h
  exact ⟨wd_iff.1 h1,wd_iff.1 h2,wd_iff.1 h3⟩
theorem and_tt {a b:Bool} (h:a=true) (h':b=true):(a&&b)=true:=by rw [h,h'];rfl
section
set_option maxRecDepth 100000
set_option maxHeartbeats 4000000
def cVOf:Con Try.prog where
  f:=38
  sem:=fun xs=>match xs with
    | [.agg [.v (.int .i64 x),.v (.int .i64 y),.v (.int .i64 z)]]=>some (True,.new 2 3 1 [.v (.int .i64 x),.v (.int .i64 y),.v (.int .i64 z)])
    | _=>none
  ok := by
    intro xs p r' h hp
    refine ⟨⟨_,Try.func38,by kernel_rfl,rfl⟩,fun us w ha=>?_⟩
    split at h
    · rename_i x y z
      cases h
      refine fn_ret (cxOk Try.prog ints_ok [] []) follows Try.func38 rfl 100 _ rfl (by simp) ?_ ha
      repeat' first
        | exact trivial
        | (refine And.intro (show regChk _ _ _ _ _=true from by kernel_rfl) (And.intro ?_ ?_))
        | (refine And.intro (fun _=>?_) (fun h=>absurd (show true=false from h) (by decide)))
        | (refine And.intro (fun h=>absurd (show false=true from h) (by decide)) (fun _=>?_))
        | (refine And.intro (fun hb=>?_) (fun hb'=>?_))
        | refine And.intro ?_ ?_
      all_goals first
        | (show some (CR.new _ _ _ _)=some (CR.new _ _ _ _);rfl)
        | (show (_:Nat)=(_:Nat);rfl)
        | (show (_:Nat)≤1000;decide)
        | (show (_:Int)=(_:Int);rfl)
        | (show (_:Int)≤_;decide)
        | (show (_:Int)<_;decide)
        -- PVC
    · cases h
def cVGood:Con Try.prog where
  f:=35
  sem:=fun xs=>match xs with
    | [.agg [.v (.int .i64 x),.v (.int .i64 y),.v (.int .i64 z)]]=>some (True,.tv (tB (gV x y z)))
    | _=>none
  ok := by
    intro xs p r' h hp
    refine ⟨⟨_,Try.func35,by kernel_rfl,rfl⟩,fun us w ha=>?_⟩
    split at h
    · rename_i x y z
      cases h
      refine fn_ret (cxOk Try.prog ints_ok [] [cAll]) follows Try.func35 rfl 100 _ rfl (by simp) ?_ ha
      repeat' first
        | exact trivial
        | (refine And.intro (show regChk _ _ _ _ _=true from by kernel_rfl) (And.intro ?_ ?_))
        | (refine And.intro (fun _=>?_) (fun h=>absurd (show true=false from h) (by decide)))
        | (refine And.intro (fun h=>absurd (show false=true from h) (by decide)) (fun _=>?_))
        | (refine And.intro (fun hb=>?_) (fun hb'=>?_))
        | refine And.intro ?_ ?_
      all_goals first
        | (show some (CR.tv (tB _))=some (CR.tv (tB _));exact tB_eq rfl)
        | (show (_:Nat)=(_:Nat);rfl)
        | (show (_:Nat)≤1000;decide)
        | (show (_:Int)=(_:Int);rfl)
        | (show (_:Int)≤_;decide)
        | (show (_:Int)<_;decide)
        -- PVC
    · cases h
def cVTold:Con Try.prog where
  f:=36
  sem:=fun xs=>match xs with
    | [.row 3 [.neg a,.mag a',.neg b,.mag b',.neg c,.mag c']]=>some (a'=a∧b'=b∧c'=c,.tv (tV4 (vT a b c)))
    | _=>none
  ok := by
    intro xs p r' h hp
    refine ⟨⟨_,Try.func36,by kernel_rfl,rfl⟩,fun us w ha=>?_⟩
    split at h
    · rename_i a a' b b' c c'
      cases h
      obtain ⟨rfl,rfl,rfl⟩:=hp
      refine fnu_ret (cxOk Try.prog ints_ok [] [cTold]) follows [0,2,3,4,9,10,11] Try.func36 rfl 100 _ rfl (by simp) ?_ ha
      repeat' first
        | exact trivial
        | (refine And.intro (show regChk _ _ _ _ _=true from by kernel_rfl) (And.intro ?_ ?_))
        | (refine And.intro (fun _=>?_) (fun h=>absurd (show true=false from h) (by decide)))
        | (refine And.intro (fun h=>absurd (show false=true from h) (by decide)) (fun _=>?_))
        | (refine And.intro (fun hb=>?_) (fun hb'=>?_))
        | refine And.intro ?_ ?_
      all_goals first
        | (show some (CR.tv (.tup _))=some (CR.tv (tV4 _));first|exact v4_eq (vT_1 (by assumption))|exact v4_eq (vT_2 (by assumption))|exact v4_eq (vT_3 (by assumption))|exact v4_eq (vT_4 (by assumption) (by assumption) (by assumption)))
        | (show (_:Nat)=(_:Nat);rfl)
        | (show (_:Nat)≤1000;decide)
        | (show (_:Int)=(_:Int);rfl)
        | (show (_:Int)≤_;decide)
        | (show (_:Int)<_;decide)
        -- PVC
    · cases h
end
end Go.Proofs.Ytglgmepolanfpaa.Wh
end
section
set_option linter.unusedVariables false
set_option linter.unusedSimpArgs false
namespace Go.Proofs.Ytglgmepolanfpaa.Wh
open Go Go.RowKit Go.Proofs.YtglgmepolanfpaaW.PrintWords Go.Proofs.YtglgmepolanfpaaW.PrintMore Go.Proofs.YtglgmepolanfpaaW.Aid Go.Proofs.YtglgmepolanfpaaW.Big Go.Proofs.YtglgmepolanfpaaW.Sx Go.Proofs.Ytglgmepolanfpaa.BitsWalk Go.Proofs.Ytglgmepolanfpaa.Limbs Go.Proofs.Ytglgmepolanfpaa.Whole Go.Proofs.Ytglgmepolanfpaa.FxWalk Go.Proofs
theorem len_I {x:Int} (h:I64 x):Len0 x:=len_i64 h.1 h.2
theorem nbf {b:Bool} (h:(!b)=false):b=true:=by cases b with|true=>rfl|false=>cases h
section
set_option maxRecDepth 100000
set_option maxHeartbeats 4000000
end
end Go.Proofs.Ytglgmepolanfpaa.Wh
end
section
set_option linter.unusedVariables false
set_option linter.unusedSimpArgs false
namespace Go.Proofs.YtglgmepolanfpaaW.Sx
open Go Go.RowKit Go.Proofs.YtglgmepolanfpaaW.PrintWords Go.Proofs.YtglgmepolanfpaaW.PrintMore Go.Proofs.YtglgmepolanfpaaW.Aid Go.Proofs.YtglgmepolanfpaaW.Big
def wfV:Value→Bool
  | .int k n=>(Lit.int k n).wf
  | _=>true
def okV (ks:List (Option IntKind)) (xs:List Value):Prop:=isKs ks xs=true∧∀ x∈xs,wfV x=true
theorem isKs_app:∀ {ks ks':List (Option IntKind)} {xs ys:List Value},isKs ks xs=true→isKs ks' ys=true→isKs (ks++ks') (xs++ys)=true
  | [],ks',[],ys,_,h=>h
  | k::ks,ks',x::xs,ys,h,h'=>by
    simp only [isKs,Bool.and_eq_true] at h
    simp only [List.cons_append,isKs,h.1,isKs_app h.2 h',Bool.and_self]
  | [],_,_::_,_,h,_=>by cases h
  | _::_,_,[],_,h,_=>by cases h
theorem okV_app {ks ks':List (Option IntKind)} {xs ys:List Value} (h:okV ks xs) (h':okV ks' ys):okV (ks++ks') (xs++ys) :=
  ⟨isKs_app h.1 h'.1,fun x hx=>(List.mem_append.1 hx).elim (h.2 x) (h'.2 x)⟩
section
variable {H:Type} {enc:TypeId × Value→H} {P:Program} {w:World} {base:Nat} {spare:Nat→Bool} {held:Bool}
theorem rep_take (ks:List (Option IntKind)):∀ (n:Nat) (xs:List Value),xs.length=(rep ks n).length→(∀ i,i<n→okV ks ((xs.drop (i*ks.length)).take ks.length))→okV (rep ks n) xs
  | 0,xs,hl,_=>by
    cases xs with
    | nil=>exact ⟨rfl,fun _ h=>by cases h⟩
    | cons _ _=>simp [rep] at hl
  | n + 1, xs, hl, h => by
    have h0:=h 0 (by omega)
    rw [Nat.zero_mul,List.drop_zero] at h0
    have hl':xs.length=ks.length+(rep ks n).length:=by rw [hl,rep,List.length_append]
    have ih:=rep_take ks n (xs.drop ks.length) (by rw [List.length_drop];omega) (fun i hi=>by
      have:=h (i+1) (by omega)
      rw [List.drop_drop,show ks.length+i*ks.length=(i+1)*ks.length by rw [Nat.add_mul,Nat.one_mul];omega]
      exact this)
    have:=okV_app h0 ih
    rw [List.take_append_drop] at this
    exact this
theorem flat_trod (arr:Bool):∀ (d:Nat),(∀ (T:TypeId) (ks:List (Option IntKind)) (fuel:Nat) (cs:List Value) (x:DataW H × List MemPlace),lvs P arr d T=some ks→DataW.trod enc P w base spare held fuel T cs=some x→okV ks cs) ∧
    (∀ (fs:List Field) (off:Nat) (ks:List (Option IntKind)) (n:Nat) (cs:List Value) (ys:List (DataW H × List MemPlace)),lvsF P arr d fs off=some ks→cs.length=off+ks.length→ys.length=fs.length →
      (∀ (i:Nat) (f:Field),fs[i]?=some f→DataW.trod enc P w base spare held n f.type ((cs.drop f.offset).take (P.cellsOf f.type))=ys[i]?)→okV ks (cs.drop off)):=by
  intro d
  induction d with
  | zero =>
    refine ⟨fun T ks fuel cs x h=>(by cases h),fun fs off ks n cs ys h hl hy _=>?_⟩
    cases fs with
    | nil =>
      cases h
      rw [List.drop_of_length_le (by simp at hl;omega)]
      exact ⟨rfl,fun _ h=>by cases h⟩
    | cons f fs=>cases h
  | succ d ih =>
    obtain ⟨ih1,ih2⟩:=ih
    constructor
    · intro T ks fuel cs x h hx
      rw [lvs] at h
      split at h
      · rename_i k inf hu hi
        split at h
        case isFalse=>cases h
        cases h
        obtain ⟨n,rfl,_,hw⟩:=DataW.trod_int hu hx
        exact ⟨by simp [isKs,isK],fun y hy=>by rw [List.mem_singleton.1 hy];exact hw⟩
      · rename_i inf hu hi
        split at h
        case isFalse=>cases h
        cases h
        obtain ⟨n,rfl,_⟩:=DataW.trod_bool hu hx
        exact ⟨rfl,fun y hy=>by rw [List.mem_singleton.1 hy];rfl⟩
      · rename_i fs inf hu hi
        split at h
        · cases h
        · split at h
          · rename_i ks' hf
            split at h
            · rename_i hs
              cases h
              obtain ⟨ys,n,_,rfl,hcl,hyl,hg⟩:=DataW.trod_struct hu hx
              have hcl':cs.length=0+ks.length:=by
                rw [hcl];unfold Program.cellsOf;rw [hi];simpa using hs
              have:=ih2 fs.toList 0 ks n cs ys hf hcl' (by simpa using hyl) (fun i f hf=>hg i f (by simpa using hf))
              rwa [List.drop_zero] at this
            · cases h
          · cases h
      · rename_i n e inf hu hi
        split at h
        · split at h
          · rename_i ks' he
            split at h
            · rename_i hs
              cases h
              obtain ⟨ys,m,_,rfl,hcl,hyl,hg⟩:=DataW.trod_array hu hx
              have hce:=lvs_cells he
              rw [hce] at hg
              refine rep_take ks' n cs (by rw [hcl];unfold Program.cellsOf;rw [hi];simpa using hs) (fun i hi=>?_)
              obtain ⟨y,hy⟩:∃ y,ys[i]?=some y:=⟨ys[i],by simp⟩
              exact ih1 e ks' m _ y he (by rw [hg i hi,hy])
            · cases h
          · cases h
        · cases h
      · cases h
    · intro fs off ks n cs ys h hl hy hg
      cases fs with
      | nil =>
        cases h
        rw [List.drop_of_length_le (by simp at hl;omega)]
        exact ⟨rfl,fun _ h=>by cases h⟩
      | cons f fs =>
        rw [lvsF] at h
        split at h
        · cases h
        · rename_i hc
          have hoff:f.offset=off:=Decidable.byContradiction fun e=>hc (Or.inr e)
          split at h
          · rename_i k ks1 hl1
            split at h
            · rename_i r hr
              cases h
              match ys,hy with
              | y::ys,hy =>
                have h1:=hg 0 f rfl
                rw [hoff,lvs_cells hl1] at h1
                have g1:=ih1 f.type _ n _ y hl1 h1
                have g2:=ih2 fs (off+(k::ks1).length) r n cs ys hr (by rw [hl];simp;omega) (by simpa using hy) (fun i f' hf=>hg (i+1) f' (by simpa using hf))
                have:=okV_app g1 g2
                rw [← List.drop_drop,List.take_append_drop] at this
                exact this
            · cases h
          · cases h
def gI (f:Nat→List Value) (i j:Nat):Int:=match (f j)[i]? with
  | some (.int _ n)=>n
  | _=>0
def gB (f:Nat→List Value) (i j:Nat):Bool:=match (f j)[i]? with
  | some (.bool b)=>b
  | _=>false
def cellsG (f:Nat→List Value) (j:Nat):Nat→List (Option IntKind)→List A0
  | _,[]=>[]
  | i,some k::ks => .v (.int k (gI f i j))::cellsG f j (i+1) ks
  | i,none::ks => .v (.bool (gB f i j))::cellsG f j (i+1) ks
theorem cellsG_eq (f:Nat→List Value) (j:Nat):∀ (ks:List (Option IntKind)) (i:Nat),isKs ks ((f j).drop i)=true→cellsG f j i ks=((f j).drop i).map A0.v
  | [],i,h=>by
    cases hx:(f j).drop i with
    | nil=>rfl
    | cons _ _=>rw [hx] at h;cases h
  | k :: ks, i, h => by
    cases hx:(f j).drop i with
    | nil=>rw [hx] at h;cases h
    | cons x xs =>
      have h0:(f j)[i]?=some x:=by rw [← List.head?_drop,hx];rfl
      have h1:(f j).drop (i+1)=xs:=by rw [← List.tail_drop,hx];rfl
      rw [hx] at h
      simp only [isKs,Bool.and_eq_true] at h
      have ih:=cellsG_eq f j ks (i+1) (by rw [h1];exact h.2)
      rw [h1] at ih
      cases k with
      | some k =>
        cases x<;>simp only [isK] at h<;>try (exact absurd h.1 (by decide))
        rename_i k' n
        obtain rfl:=of_decide_eq_true h.1
        simp only [cellsG,gI,h0,List.map_cons,ih]
      | none =>
        cases x<;>simp only [isK] at h<;>try (exact absurd h.1 (by decide))
        simp only [cellsG,gB,h0,List.map_cons,ih]
def zv:Option IntKind→Value
  | some k => .int k 0
  | none => .bool false
theorem zs_ok:∀ ks:List (Option IntKind),okV ks (ks.map zv)
  | []=>⟨rfl,fun _ h=>by cases h⟩
  | k :: ks => by
    obtain ⟨h1,h2⟩:=zs_ok ks
    refine ⟨?_,fun x hx=>?_⟩
    · simp only [List.map_cons,isKs,h1,Bool.and_true]
      cases k<;>simp [zv,isK]
    · rcases List.mem_cons.1 hx with rfl|hx
      · cases k with
        | none=>rfl
        | some k=>cases k<;>decide
      · exact h2 x hx
theorem rowF_congr {n sz:Nat} {f g:Nat→List A0} {β:Nat→Nat} {base:Nat} {w:World} {u:Value} (h:∀ j,f j=g j) (hr:TV.reads β base w (.rowF n sz f) u):TV.reads β base w (.rowF n sz g) u:=by
  rw [show g=f from funext fun j=>(h j).symm];exact hr
theorem row_of {t e:TypeId} {arr:Bool} {d:Nat} {ks:List (Option IntKind)} (hu:P.underlying t=some (.slice e)) (hl:lvs P arr d e=some ks) (hk:0<ks.length) {A1:Option Addr} {n0 c0:Nat} {x:DataW H} {ps:List MemPlace} (h:DataW.Trod enc P w base spare held t (.slice A1 n0 c0) x ps) :
    ∃ f:Nat→List Value,(∀ j,okV ks (f j))∧∀ β:Nat→Nat,TV.reads β w.heap.size w (.rowF n0 ks.length (fun j=>cellsG f j 0 ks)) (.slice A1 n0 c0):=by
  obtain ⟨fuel,hf⟩:=h
  have hcell:(Value.slice A1 n0 c0).cells.toList=[.slice A1 n0 c0]:=rfl
  rw [hcell] at hf
  rcases Go.Deep.open_slice hu hf with ⟨h1,_⟩|⟨a,len,cap,m,n,D,Pl,h1,hb,hle,hm,hmm,_,hi⟩
  · cases h1
    exact ⟨fun _=>ks.map zv,fun j=>zs_ok ks,fun β=>⟨none,0,rfl,Nat.le_refl _,fun h=>absurd h (by omega)⟩⟩
  · cases h1
    have hlm:n0≤m:=by rw [hmm];split<;>omega
    have hch:∀ j,∃ l:List Value,okV ks l∧(j<n0→∀ i u,l[i]?=some u→w.cell? ((a.add (j*ks.length)).add i)=some u):=by
      intro j
      by_cases hj:j<n0
      · obtain ⟨cs',h2,h3⟩:=hi j (by omega)
        obtain ⟨_,hcl,hat⟩:=World.cells?_some h2
        have ok:=(flat_trod (enc:=enc) (P:=P) (w:=w) (base:=base) (spare:=spare) (held:=held) arr d).1 e ks n cs' _ hl h3
        refine ⟨cs',ok,fun _ i u hu=>?_⟩
        have hil:i<cs'.length:=(List.getElem?_eq_some_iff.1 hu).1
        have h4:=hat i (by omega)
        rw [hu,lvs_cells hl] at h4
        exact h4
      · exact ⟨ks.map zv,zs_ok ks,fun h=>absurd h hj⟩
    obtain ⟨f,hf⟩:=Classical.axiomOfChoice hch
    refine ⟨f,fun j=>(hf j).1,fun β=>?_⟩
    refine rowF_congr (f:=fun j=>(f j).map A0.v) (fun j=>?_) ⟨some a,c0,rfl,hle,fun h0=>⟨a,rfl,?_,fun i hi=>?_⟩⟩
    · have:=cellsG_eq f j ks 0 (by rw [List.drop_zero];exact (hf j).1.1)
      rw [this,List.drop_zero]
    · have h5:=(hf 0).1.1
      have h6:=isKs_len h5
      have h7:=(hf 0).2 h0 0 ((f 0)[0]'(by omega)) (by simp)
      have:=World.block_lt_of_cell? w _ h7
      rw [Nat.zero_mul] at this
      exact this
    · intro q c hq
      rw [List.getElem?_map,Option.map_eq_some_iff] at hq
      obtain ⟨u,hu,rfl⟩:=hq
      exact ⟨u,(hf i).2 hi q u hu,rfl⟩
end
end Go.Proofs.YtglgmepolanfpaaW.Sx
end
section
set_option linter.unusedVariables false
set_option linter.unusedSimpArgs false
namespace Go.Proofs.Ytglgmepolanfpaa.Wh
open Go Go.RowKit Go.Proofs.YtglgmepolanfpaaW.PrintWords Go.Proofs.YtglgmepolanfpaaW.PrintMore Go.Proofs.YtglgmepolanfpaaW.Aid Go.Proofs.YtglgmepolanfpaaW.Big Go.Proofs.YtglgmepolanfpaaW.Sx Go.Proofs.Ytglgmepolanfpaa.BitsWalk Go.Proofs.Ytglgmepolanfpaa.Limbs Go.Proofs.Ytglgmepolanfpaa.Whole Go.Proofs.Ytglgmepolanfpaa.FxWalk Go.Proofs
theorem wd_bif (v:Int):(bif decide (v > -35184372088832) then decide (v<35184372088832) else false)=wd v:=by
  unfold wd
  have e:decide (v > -35184372088832)=decide (-35184372088832<v):=rfl
  rw [e]
  cases decide (-35184372088832<v)<;>rfl
theorem gV_bif (x y z:Int):(bif bif wd x then wd y else false then wd z else false)=gV x y z:=by
  unfold gV
  simp only [allw]
  cases wd x<;>cases wd y<;>cases wd z<;>rfl
def withinR (i n:Int):Int:=i%18446744073709551616%n
theorem within_bd (i:Int) {n:Int} (h:0<n):0≤withinR i n∧withinR i n<n:=⟨Int.emod_nonneg _ (by omega),Int.emod_lt_of_pos _ h⟩
theorem within_w {i n:Int} (h0:0<n) (h1:n<9223372036854775808):IntKind.i64.wrap ((IntKind.u64.wrap i).tmod (IntKind.u64.wrap n))=withinR i n:=by
  have e:IntKind.u64.wrap n=n:=u64_id (by omega) (by omega)
  rw [e,u64_wrap]
  rw [Int.tmod_eq_emod_of_nonneg (Int.emod_nonneg _ (by decide))]
  have:=within_bd i h0
  rw [i64_wrap]
  exact wrap64_id (by unfold withinR at this;omega) (by unfold withinR at this;omega)
def broughtR (v m:Int):Int:=withinR v (2*m+1)-m
theorem brought_bd (v:Int) {m:Int} (h:0≤m) : -m≤broughtR v m∧broughtR v m≤m:=by
  have:=within_bd v (n:=2*m+1) (by omega)
  unfold broughtR;omega
theorem brought_w {v m:Int} (h0:0≤m) (h1:m<4611686018427387904):IntKind.i64.wrap (IntKind.i64.wrap ((IntKind.u64.wrap v).tmod (IntKind.u64.wrap (IntKind.i64.wrap (IntKind.i64.wrap (2*m)+1))))-m)=broughtR v m:=by
  have e1:IntKind.i64.wrap (2*m)=2*m:=by rw [i64_wrap];exact wrap64_id (by omega) (by omega)
  have e2:IntKind.i64.wrap (2*m+1)=2*m+1:=by rw [i64_wrap];exact wrap64_id (by omega) (by omega)
  rw [e1,e2,within_w (by omega) (by omega)]
  have:=brought_bd v h0
  rw [i64_wrap]
  unfold broughtR at this ⊢
  exact wrap64_id (by omega) (by omega)
theorem u64_nz {n:Int} (h0:0<n) (h1:n<9223372036854775808):IntKind.u64.wrap n≠0:=by rw [u64_id (by omega) (by omega)];omega
theorem b_nz {m:Int} (h0:0≤m) (h1:m<4611686018427387904):IntKind.u64.wrap (IntKind.i64.wrap (IntKind.i64.wrap (2*m)+1))≠0:=by
  have e1:IntKind.i64.wrap (2*m)=2*m:=by rw [i64_wrap];exact wrap64_id (by omega) (by omega)
  have e2:IntKind.i64.wrap (2*m+1)=2*m+1:=by rw [i64_wrap];exact wrap64_id (by omega) (by omega)
  rw [e1,e2];exact u64_nz (by omega) (by omega)
theorem no {c:Bool} (h:c=false) (hb:c=true):False:=by rw [h] at hb;exact absurd hb (by decide)
abbrev cells3 (x y z:Int):List Value:=[.int .i64 x,.int .i64 y,.int .i64 z]
theorem wrap1 {i:Int} (h0:0≤i) (h:i≤100000000000000000):IntKind.i64.wrap (i+1)=i+1:=by rw [i64_wrap];exact wrap64_id (by omega) (by omega)
theorem hC1 {v k:Int} {n:Nat} (h:(bif decide (v<(n:Int)) then decide (v<k) else false)=true):v<n∧v<k:=by
  by_cases h1:v<(n:Int)
  · rw [decide_eq_true h1] at h;exact ⟨h1,of_decide_eq_true h⟩
  · rw [decide_eq_false h1] at h;exact absurd (show false=true from h) (by decide)
section
set_option maxRecDepth 100000
set_option maxHeartbeats 4000000
abbrev eqVec:EqT Try.prog:=eqS Try.prog 24 [some .i64,some .i64,some .i64] (by kernel_rfl)
def cR1May:Con Try.prog where
  f:=42
  sem:=fun xs=>match xs with
    | [.sc (.v (.int .i64 v))]=>some (True,.tv (tB (wd v)))
    | _=>none
  ok := by
    intro xs p r' h hp
    refine ⟨⟨_,Try.func42,by kernel_rfl,rfl⟩,fun us w ha=>?_⟩
    split at h
    · rename_i v
      cases h
      refine fn_ret (cxOk Try.prog ints_ok [] []) follows Try.func42 rfl 100 _ rfl (by simp) ?_ ha
      repeat' first
        | exact trivial
        | (refine And.intro (show regChk _ _ _ _ _=true from by kernel_rfl) (And.intro ?_ ?_))
        | (refine And.intro (fun _=>?_) (fun h=>absurd (show true=false from h) (by decide)))
        | (refine And.intro (fun h=>absurd (show false=true from h) (by decide)) (fun _=>?_))
        | (refine And.intro (fun hb=>?_) (fun hb'=>?_))
        | refine And.intro ?_ ?_
        | intro _
      all_goals first
        | (show some (CR.tv (tB _))=some (CR.tv (tB _));exact tB_eq (wd_bif v))
        | (show (_:Bool)=(_:Bool);first|assumption|exact beq_iff_eq.2 (by assumption)|(exact and_tt (by first|assumption|exact beq_iff_eq.2 (by assumption)) (by first|assumption|exact beq_iff_eq.2 (by assumption))))
        | (show (_:Nat)=(_:Nat);rfl)
        | (show (_:Nat)≤1000;decide)
        | (show (_:Int)=(_:Int);rfl)
        | (show (_:Int)≤_;decide)
        | (show (_:Int)<_;decide)
        -- PVC
    · cases h
def cR3May:Con Try.prog where
  f:=21
  sem:=fun xs=>match xs with
    | [.agg [.v (.int .i64 x),.v (.int .i64 y),.v (.int .i64 z)]]=>some (True,.tv (tB (gV x y z)))
    | _=>none
  ok := by
    intro xs p r' h hp
    refine ⟨⟨_,Try.func21,by kernel_rfl,rfl⟩,fun us w ha=>?_⟩
    split at h
    · rename_i x y z
      cases h
      refine fn_ret (cxOk Try.prog ints_ok [] [cR1May]) follows Try.func21 rfl 100 _ rfl (by simp) ?_ ha
      repeat' first
        | exact trivial
        | (refine And.intro (show regChk _ _ _ _ _=true from by kernel_rfl) (And.intro ?_ ?_))
        | (refine And.intro (fun _=>?_) (fun h=>absurd (show true=false from h) (by decide)))
        | (refine And.intro (fun h=>absurd (show false=true from h) (by decide)) (fun _=>?_))
        | (refine And.intro (fun hb=>?_) (fun hb'=>?_))
        | refine And.intro ?_ ?_
        | intro _
      all_goals first
        | (show some (CR.tv (tB _))=some (CR.tv (tB _));exact tB_eq (gV_bif x y z))
        | (show (_:Bool)=(_:Bool);first|assumption|exact beq_iff_eq.2 (by assumption)|(exact and_tt (by first|assumption|exact beq_iff_eq.2 (by assumption)) (by first|assumption|exact beq_iff_eq.2 (by assumption))))
        | (show (_:Nat)=(_:Nat);rfl)
        | (show (_:Nat)≤1000;decide)
        | (show (_:Int)=(_:Int);rfl)
        | (show (_:Int)≤_;decide)
        | (show (_:Int)<_;decide)
        -- PVC
    · cases h
def cWithin:Con Try.prog where
  f:=26
  sem:=fun xs=>match xs with
    | [.sc (.v (.int .i64 i)),.sc (.v (.int .i64 n))]=>some (0<n∧n<9223372036854775808,.tv (tN .i64 (withinR i n)))
    | _=>none
  ok := by
    intro xs p r' h hp
    refine ⟨⟨_,Try.func26,by kernel_rfl,rfl⟩,fun us w ha=>?_⟩
    split at h
    · rename_i i n
      cases h
      refine fn_ret (cxOk Try.prog ints_ok [] []) follows Try.func26 rfl 100 _ rfl (by simp) ?_ ha
      repeat' first
        | exact trivial
        | (refine And.intro (show regChk _ _ _ _ _=true from by kernel_rfl) (And.intro ?_ ?_))
        | (refine And.intro (fun _=>?_) (fun h=>absurd (show true=false from h) (by decide)))
        | (refine And.intro (fun h=>absurd (show false=true from h) (by decide)) (fun _=>?_))
        | (refine And.intro (fun hb=>?_) (fun hb'=>?_))
        | refine And.intro ?_ ?_
      all_goals first
        | (show some (CR.tv (tN _ _))=some (CR.tv (tN _ _));exact tN_eq (within_w hp.1 hp.2))
        | (show (_:Int)≠_;exact u64_nz hp.1 hp.2)
        | (show (_:Nat)=(_:Nat);rfl)
        | (show (_:Nat)≤1000;decide)
        | (show (_:Int)=(_:Int);rfl)
        | (show (_:Int)≤_;decide)
        | (show (_:Int)<_;decide)
        -- PVC
    · cases h
def cBrought:Con Try.prog where
  f:=47
  sem:=fun xs=>match xs with
    | [.sc (.v (.int .i64 v)),.sc (.v (.int .i64 m))]=>some (0≤m∧m<4611686018427387904,.tv (tN .i64 (broughtR v m)))
    | _=>none
  ok := by
    intro xs p r' h hp
    refine ⟨⟨_,Try.func47,by kernel_rfl,rfl⟩,fun us w ha=>?_⟩
    split at h
    · rename_i v m
      cases h
      refine fn_ret (cxOk Try.prog ints_ok [] []) follows Try.func47 rfl 100 _ rfl (by simp) ?_ ha
      repeat' first
        | exact trivial
        | (refine And.intro (show regChk _ _ _ _ _=true from by kernel_rfl) (And.intro ?_ ?_))
        | (refine And.intro (fun _=>?_) (fun h=>absurd (show true=false from h) (by decide)))
        | (refine And.intro (fun h=>absurd (show false=true from h) (by decide)) (fun _=>?_))
        | (refine And.intro (fun hb=>?_) (fun hb'=>?_))
        | refine And.intro ?_ ?_
      all_goals first
        | (show some (CR.tv (tN _ _))=some (CR.tv (tN _ _));exact tN_eq (brought_w hp.1 hp.2))
        | (show (_:Int)≠_;exact b_nz hp.1 hp.2)
        | (show (_:Nat)=(_:Nat);rfl)
        | (show (_:Nat)≤1000;decide)
        | (show (_:Int)=(_:Int);rfl)
        | (show (_:Int)≤_;decide)
        | (show (_:Int)<_;decide)
        -- PVC
    · cases h
def cL0Vec:Con Try.prog where
  f:=27
  sem:=fun xs=>match xs with
    | [.agg [.v (.int .i64 x),.v (.int .i64 y),.v (.int .i64 z)],.sc (.v (.int .i64 m))]=>some (0≤m∧m<4611686018427387904,.tv (.agg [.v (.int .i64 (broughtR x m)),.v (.int .i64 (broughtR y m)),.v (.int .i64 (broughtR z m))]))
    | _=>none
  ok := by
    intro xs p r' h hp
    refine ⟨⟨_,Try.func27,by kernel_rfl,rfl⟩,fun us w ha=>?_⟩
    split at h
    · rename_i x y z m
      cases h
      refine fn_ret (cxOk Try.prog ints_ok [] [cBrought]) follows Try.func27 rfl 100 _ rfl (by simp) ?_ ha
      repeat' first
        | exact trivial
        | (refine And.intro (show regChk _ _ _ _ _=true from by kernel_rfl) (And.intro ?_ ?_))
        | (refine And.intro (fun _=>?_) (fun h=>absurd (show true=false from h) (by decide)))
        | (refine And.intro (fun h=>absurd (show false=true from h) (by decide)) (fun _=>?_))
        | (refine And.intro (fun hb=>?_) (fun hb'=>?_))
        | refine And.intro ?_ ?_
      all_goals first
        | (show some (CR.tv (.agg _))=some (CR.tv (.agg _));rfl)
        | exact hp.1
        | exact hp.2
        | (show (_:Nat)=(_:Nat);rfl)
        | (show (_:Nat)≤1000;decide)
        | (show (_:Int)=(_:Int);rfl)
        | (show (_:Int)≤_;decide)
        | (show (_:Int)<_;decide)
        -- PVC
    · cases h
def cNum11:Con Try.prog where
  f:=29
  sem:=fun xs=>match xs with
    | [.sc (.v (.int .i64 v))]=>some (True,.tv (tN .i64 v))
    | _=>none
  ok := by
    intro xs p r' h hp
    refine ⟨⟨_,Try.func29,by kernel_rfl,rfl⟩,fun us w ha=>?_⟩
    split at h
    · rename_i v
      cases h
      refine fn_ret (cxOk Try.prog ints_ok [] []) follows Try.func29 rfl 100 _ rfl (by simp) ?_ ha
      repeat' first
        | exact trivial
        | (refine And.intro (show regChk _ _ _ _ _=true from by kernel_rfl) (And.intro ?_ ?_))
        | (refine And.intro (fun _=>?_) (fun h=>absurd (show true=false from h) (by decide)))
        | (refine And.intro (fun h=>absurd (show false=true from h) (by decide)) (fun _=>?_))
        | (refine And.intro (fun hb=>?_) (fun hb'=>?_))
        | refine And.intro ?_ ?_
      all_goals first
        | (show some (CR.tv (tN _ _))=some (CR.tv (tN _ _));rfl)
        | (show (_:Nat)=(_:Nat);rfl)
        | (show (_:Nat)≤1000;decide)
        | (show (_:Int)=(_:Int);rfl)
        | (show (_:Int)≤_;decide)
        | (show (_:Int)<_;decide)
        -- PVC
    · cases h
end
end Go.Proofs.Ytglgmepolanfpaa.Wh
end
section
set_option linter.unusedVariables false
set_option linter.unusedSimpArgs false
namespace Go.Proofs.Ytglgmepolanfpaa.Wh
open Go Go.RowKit Go.Proofs.YtglgmepolanfpaaW.PrintWords Go.Proofs.YtglgmepolanfpaaW.PrintMore Go.Proofs.YtglgmepolanfpaaW.Aid Go.Proofs.YtglgmepolanfpaaW.Big Go.Proofs.YtglgmepolanfpaaW.Sx Go.Proofs.Ytglgmepolanfpaa.BitsWalk Go.Proofs.Ytglgmepolanfpaa.Limbs Go.Proofs.Ytglgmepolanfpaa.Whole Go.Proofs.Ytglgmepolanfpaa.FxWalk Go.Proofs
section
set_option maxRecDepth 100000
set_option maxHeartbeats 4000000
theorem full1 (x y z a b c:Int) {us:List Value} {w:World} (ha:All2 (TV.reads (fun _=>0) w.heap.size w) [.agg [.v (.int .i64 x),.v (.int .i64 y),.v (.int .i64 z)],.rptr [.v (.int .i64 a),.v (.int .i64 b),.v (.int .i64 c)]] us) :
    Ret Try.prog 53 us.toArray w (.tv (.agg [.v (.int .i64 (IntKind.i64.wrap (x+a))),.v (.int .i64 (IntKind.i64.wrap (y+b))),.v (.int .i64 (IntKind.i64.wrap (z+c)))])):=by
  refine fn_ret (cxOk Try.prog ints_ok [] []) follows Try.func53 rfl 100 _ rfl (by simp) ?_ ha
  repeat' first
    | exact trivial
    | (refine And.intro (show regChk _ _ _ _ _=true from by kernel_rfl) (And.intro ?_ ?_))
    | refine And.intro ?_ ?_
  all_goals first
    | (show some (CR.tv (.agg _))=some (CR.tv (.agg _));rfl)
    -- PVC
theorem full_w (n most x y z a b c:Int) (caps:Array Value) (g:Nat) (arr:Array Value) (ty:TypeId) (w:World) (hb:w.heap[g]?=some (.cells arr ty (0,0))) (h0:arr[0]?=some (.int .i64 n)) (h1:arr[1]?=some (.int .i64 most)) (h2:arr[2]?=some (.int .i64 x)) (h3:arr[3]?=some (.int .i64 y)) (h4:arr[4]?=some (.int .i64 z))
    (hc:Calls Try.prog 53 (#[.agg #[.int .i64 x,.int .i64 y,.int .i64 z]]++caps) w fun e w'=>e = .returned (.agg #[.int .i64 (IntKind.i64.wrap (x+a)),.int .i64 (IntKind.i64.wrap (y+b)),.int .i64 (IntKind.i64.wrap (z+c))])∧Below w.heap.size w w') :
    Calls Try.prog 52 #[.pointer (some ⟨g,0,none⟩),.func (.func 53) #[] caps] w fun e w'=>e = .returned (.bool (IntKind.i64.wrap (n+1) == most))∧∃ w1,Below w.heap.size w w1∧w'=((((w1.setCell ⟨g,2,none⟩ (.int .i64 (IntKind.i64.wrap (x+a)))).setCell ⟨g,3,none⟩ (.int .i64 (IntKind.i64.wrap (y+b)))).setCell ⟨g,4,none⟩ (.int .i64 (IntKind.i64.wrap (z+c)))).setCell ⟨g,0,none⟩ (.int .i64 (IntKind.i64.wrap (n+1)))).drew:=by
  have c0:w.cell? ⟨g,0,none⟩=some (.int .i64 n):=(blk_cell hb 0).trans h0
  have c1:w.cell? ⟨g,1,none⟩=some (.int .i64 most):=(blk_cell hb 1).trans h1
  have c2:w.cell? ⟨g,2,none⟩=some (.int .i64 x):=(blk_cell hb 2).trans h2
  have c3:w.cell? ⟨g,3,none⟩=some (.int .i64 y):=(blk_cell hb 3).trans h3
  have c4:w.cell? ⟨g,4,none⟩=some (.int .i64 z):=(blk_cell hb 4).trans h4
  have H0:=Aside0.mk h0
  have H1:=Aside0.mk h1
  have H2:=Aside0.mk h2
  have H3:=Aside0.mk h3
  have H4:=Aside0.mk h4
  have HB:=Aside0.mk hb
  clear h0 h1 h2 h3 h4 hb
  go_enter Try.func52,Try.ntmps52
  go_wp2_with fail
  refine hc.mono ?_
  rintro e w1 ⟨rfl,hB⟩
  have hb1:w1.heap[g]?=some (.cells arr ty (0,0)):=(hB.block g (Array.getElem?_eq_some_iff.1 HB.out).1).trans HB.out
  have hBB:=Aside0.mk hB
  have HB1:=Aside0.mk hb1
  clear hB hb1 c0 c1 c2 c3 c4
  have c0:w1.cell? ⟨g,0,none⟩=some (.int .i64 n):=(blk_cell HB1.out 0).trans H0.out
  have c1:w1.cell? ⟨g,1,none⟩=some (.int .i64 most):=(blk_cell HB1.out 1).trans H1.out
  have c2:w1.cell? ⟨g,2,none⟩=some (.int .i64 x):=(blk_cell HB1.out 2).trans H2.out
  have c3:w1.cell? ⟨g,3,none⟩=some (.int .i64 y):=(blk_cell HB1.out 3).trans H3.out
  have c4:w1.cell? ⟨g,4,none⟩=some (.int .i64 z):=(blk_cell HB1.out 4).trans H4.out
  have f0:=blk_frozen HB1.out 0
  have f2:=blk_frozen HB1.out 2
  have f3:=blk_frozen HB1.out 3
  have f4:=blk_frozen HB1.out 4
  go_wp2_with fail
  have b2:=blk_put HB1.out 2 (Value.int .i64 (wrap64 (x+a))) rfl
  have b3:=blk_put b2 3 (Value.int .i64 (wrap64 (y+b))) rfl
  have b4:=blk_put b3 4 (Value.int .i64 (wrap64 (z+c))) rfl
  have b0:=blk_put b4 0 (Value.int .i64 (wrap64 (n+1))) rfl
  have d0:((((w1.setCell ⟨g,2,none⟩ (Value.int .i64 (wrap64 (x+a)))).setCell ⟨g,3,none⟩ (Value.int .i64 (wrap64 (y+b)))).setCell ⟨g,4,none⟩ (Value.int .i64 (wrap64 (z+c)))).setCell ⟨g,0,none⟩ (Value.int .i64 (wrap64 (n+1)))).cell? ⟨g,0,none⟩=some (.int .i64 (wrap64 (n+1))):=by
    rw [blk_cell b0 0]
    have:=(Array.getElem?_eq_some_iff.1 H0.out).1
    simp [Array.getElem?_setIfInBounds,this]
  have d1:((((w1.setCell ⟨g,2,none⟩ (Value.int .i64 (wrap64 (x+a)))).setCell ⟨g,3,none⟩ (Value.int .i64 (wrap64 (y+b)))).setCell ⟨g,4,none⟩ (Value.int .i64 (wrap64 (z+c)))).setCell ⟨g,0,none⟩ (Value.int .i64 (wrap64 (n+1)))).cell? ⟨g,1,none⟩=some (.int .i64 most):=by
    rw [blk_cell b0 1]
    simp [Array.getElem?_setIfInBounds,H1.out]
  have hw2:∃ w2,((((w1.setCell ⟨g,2,none⟩ (Value.int .i64 (wrap64 (x+a)))).setCell ⟨g,3,none⟩ (Value.int .i64 (wrap64 (y+b)))).setCell ⟨g,4,none⟩ (Value.int .i64 (wrap64 (z+c)))).setCell ⟨g,0,none⟩ (Value.int .i64 (wrap64 (n+1))))=w2:=⟨_,rfl⟩
  obtain ⟨w2,hw2⟩:=hw2
  rw [hw2] at d0 d1 ⊢
  have HW2:=Aside0.mk hw2
  clear hw2 b2 b3 b4 b0 c0 c1 c2 c3 c4 f0 f2 f3 f4
  go_region
  go_wp2
  go_ret
  refine ⟨?_,w1,hBB.out,?_⟩
  · show Ending.returned (Value.bool (wrap64 (n+1) == most))=Ending.returned (Value.bool (IntKind.i64.wrap (n+1) == most))
    rw [i64_wrap]
  · rw [← HW2.out];simp only [i64_wrap]
theorem one3 {x y z:Int} {u:Value} {w:World} (h:(TV.agg [.v (.int .i64 x),.v (.int .i64 y),.v (.int .i64 z)]).reads (fun _=>0) 0 w u):u = .agg #[.int .i64 x,.int .i64 y,.int .i64 z]:=by
  obtain ⟨us,rfl,h⟩:=h
  cases h with
  | cons h1 h2=>cases h2 with
    | cons h2 h3=>cases h3 with
      | cons h3 h4 =>
        cases h4
        rw [show _=_ from h1,show _=_ from h2,show _=_ from h3]
def cFull : ConW Try.prog where
  f:=52
  k:=5
  sem:=fun cs xs=>match cs,xs with
    | [.v (.int .i64 n),.v (.int .i64 most),.v (.int .i64 x),.v (.int .i64 y),.v (.int .i64 z)],[.clo f [[.v (.int .i64 a),.v (.int .i64 b),.v (.int .i64 c)]]]=>if f=53 then some (True,[.v (.int .i64 (IntKind.i64.wrap (n+1))),.v (.int .i64 most),.v (.int .i64 (IntKind.i64.wrap (x+a))),.v (.int .i64 (IntKind.i64.wrap (y+b))),.v (.int .i64 (IntKind.i64.wrap (z+c)))],tB (IntKind.i64.wrap (n+1) == most)) else none
    | _,_=>none
  ok := by
    intro cs xs p new r h hp
    refine ⟨⟨_,Try.func52,by kernel_rfl,rfl⟩,fun us w g arr ty hb hok hcs ha=>?_⟩
    split at h
    · rename_i n most x y z f a b c
      split at h
      case isFalse=>cases h
      rename_i hf
      subst hf
      cases h
      cases ha with
      | cons h1 h2 =>
      cases h2
      obtain ⟨caps,rfl,hcap⟩:=h1
      have cell:∀ (i:Nat) (v:Value),([.v (.int .i64 n),.v (.int .i64 most),.v (.int .i64 x),.v (.int .i64 y),.v (.int .i64 z)]:List A0)[i]?=some (.v v)→arr[i]?=some v:=fun i v hi=>by
        obtain ⟨u,hu,hr⟩:=hcs i _ hi
        rw [hu,show u=v from hr]
      have k0:=cell 0 _ rfl
      have k1:=cell 1 _ rfl
      have k2:=cell 2 _ rfl
      have k3:=cell 3 _ rfl
      have k4:=cell 4 _ rfl
      have hc:=full1 x y z a b c (us:=[Value.agg #[.int .i64 x,.int .i64 y,.int .i64 z]]++caps) (w:=w) (.cons ⟨[_,_,_],rfl,.cons rfl (.cons rfl (.cons rfl .nil))⟩ (by
        cases hcap with
        | cons h3 h4=>cases h4;exact .cons h3 .nil))
      have hfull:=full_w n most x y z a b c caps.toArray g arr ty w hb k0 k1 k2 k3 k4 (by
        have e:(#[Value.agg #[.int .i64 x,.int .i64 y,.int .i64 z]]++caps.toArray:Array Value)=([Value.agg #[.int .i64 x,.int .i64 y,.int .i64 z]]++caps).toArray:=by simp
        rw [e]
        refine Calls.mono hc ?_
        rintro e w' ⟨u,rfl,ht,hbl⟩
        exact ⟨by rw [one3 ht],hbl⟩)
      refine Calls.mono hfull ?_
      rintro e w' ⟨rfl,w1,hB,rfl⟩
      have hb1:w1.heap[g]?=some (.cells arr ty (0,0)):=(hB.block g (Array.getElem?_eq_some_iff.1 hb).1).trans hb
      have b2:=blk_put hb1 2 (Value.int .i64 (IntKind.i64.wrap (x+a))) rfl
      have b3:=blk_put b2 3 (Value.int .i64 (IntKind.i64.wrap (y+b))) rfl
      have b4:=blk_put b3 4 (Value.int .i64 (IntKind.i64.wrap (z+c))) rfl
      have b0:=blk_put b4 0 (Value.int .i64 (IntKind.i64.wrap (n+1))) rfl
      refine ⟨_,rfl,rfl,⟨?_,fun k hk hne=>?_⟩,_,b0,by simp,?_,?_,?_⟩
      · exact ((((((hB.mono (Nat.zero_le _)).setCell (Nat.zero_le _) _).setCell (Nat.zero_le _) _).setCell (Nat.zero_le _) _).setCell (Nat.zero_le _) _).drew)
      · show ((((w1.setCell _ _).setCell _ _).setCell _ _).setCell _ _).heap[k]?=_
        rw [Below.heap_setCell _ _ _ _ hne,Below.heap_setCell _ _ _ _ hne,Below.heap_setCell _ _ _ _ hne,Below.heap_setCell _ _ _ _ hne]
        exact hB.block k hk
      · intro v hv
        rcases Array.mem_or_eq_of_mem_setIfInBounds hv with hv|rfl
        · rcases Array.mem_or_eq_of_mem_setIfInBounds hv with hv|rfl
          · rcases Array.mem_or_eq_of_mem_setIfInBounds hv with hv|rfl
            · rcases Array.mem_or_eq_of_mem_setIfInBounds hv with hv|rfl
              · exact hok v hv
              · rfl
            · rfl
          · rfl
        · rfl
      · have l0:=(Array.getElem?_eq_some_iff.1 k0).1
        have l2:=(Array.getElem?_eq_some_iff.1 k2).1
        have l3:=(Array.getElem?_eq_some_iff.1 k3).1
        have l4:=(Array.getElem?_eq_some_iff.1 k4).1
        intro i q hi
        have hlt:i<5:=by have:=(List.getElem?_eq_some_iff.1 hi).1;simpa using this
        have:i=0∨i=1∨i=2∨i=3∨i=4:=by omega
        rcases this with rfl|rfl|rfl|rfl|rfl<;>cases hi<;>exact ⟨_,by simp [Array.getElem?_setIfInBounds,l0,l2,l3,l4,k1],rfl⟩
      · intro i hi
        have hi':5≤i:=by simpa using hi
        simp only [Array.getElem?_setIfInBounds]
        rw [if_neg (by omega),if_neg (by omega),if_neg (by omega),if_neg (by omega)]
    · cases h
end
end Go.Proofs.Ytglgmepolanfpaa.Wh
end
section
set_option linter.unusedVariables false
set_option linter.unusedSimpArgs false
namespace Go.Proofs.YtglgmepolanfpaaW.Sx
open Go Go.RowKit Go.Proofs.YtglgmepolanfpaaW.PrintWords Go.Proofs.YtglgmepolanfpaaW.PrintMore Go.Proofs.YtglgmepolanfpaaW.Aid Go.Proofs.YtglgmepolanfpaaW.Big
def guardBool (s:St) (ops:List Oper) (j:Nat):Option (Nat × Bool) :=
  match ops[j]? with
  | some oj=>match oj.dst with
    | some t=>match s.g t with
      | some (.sc c)=>match c.val? with
        | some (.bool b)=>some (t,b)
        | _=>none
      | _=>none
    | none=>none
  | none=>none
def St.lit (s:St) (t:Nat) (b:Bool):St:={ s with g:=upd s.g t (some (.sc (.v (.bool b)))) }
def St.skip (s:St) (dst:Option Tmp):St :=
  match dst with
  | some d=>{ s with g:=upd s.g d (some (.cond false (.sc (.v (.bool true))))) }
  | none=>s
def stepChk (X:Cx) (n:Nat) (s:St) (o:Oper) (e:Eff):Bool:=srcOk X o.op&&dstOk n o&&newB s o e
def stp (X:Cx) (n:Nat) (o:Oper) (next:St→Prop) (s:St):Prop :=
  match absR X s o with
  | some e=>stepChk X n s o e=true∧e.pre∧next (s.app o.dst e)
  | none=>False
def dstB (n:Nat) (dst:Option Tmp):Bool:=match dst with
  | some d=>decide (d<n)
  | none=>true
def vops (X:Cx) (n:Nat) (ops:List Oper) (kn:St→Prop):List Oper→St→Prop
  | [],s=>kn s
  | o :: r, s => match o.guard with
    | none=>stp X n o (vops X n ops kn r) s
    | some (j,true)=>match guardBool s ops j with
      | some (t,b)=>(b=true→stp X n o (vops X n ops kn r) (s.lit t true))∧(b=false→dstB n o.dst=true∧vops X n ops kn r ((s.lit t false).skip o.dst))
      | none=>match gcond s ops j true with
        | some false=>dstB n o.dst=true∧vops X n ops kn r (s.skip o.dst)
        | _=>False
    | some (j,false)=>match guardBool s ops j with
      | some (t,b)=>(b=false→stp X n o (vops X n ops kn r) (s.lit t false))∧(b=true→dstB n o.dst=true∧vops X n ops kn r ((s.lit t true).skip o.dst))
      | none=>match gcond s ops j false with
        | some false=>dstB n o.dst=true∧vops X n ops kn r (s.skip o.dst)
        | _=>False
section
variable {P:Program} {X:Cx} {base:Nat} {w0:World} {n:Nat} {s s':St} {a:Act} {w:World} {Q:Exit→Act→World→Prop} {ops:List Oper}
theorem guardBool_gcond {j:Nat} {t:Nat} {b:Bool} (h:guardBool s ops j=some (t,b)) (want:Bool):gcond s ops j want=some (b == want):=by
  unfold guardBool at h
  unfold gcond
  split at h
  · rename_i oj hj
    split at h
    · rename_i t' hd
      split at h
      · rename_i c hg
        split at h
        · rename_i b' hv
          cases h
          rw [hj];simp only [hd,hg,hv]
        · cases h
      · cases h
    · cases h
  · cases h
theorem lit_sat {β:Nat→Nat} (hS:Sat base w0 n β s a w) {j:Nat} {t:Nat} {b:Bool} (h:guardBool s ops j=some (t,b)):Sat base w0 n β (s.lit t b) a w:=by
  unfold guardBool at h
  split at h
  · rename_i oj hj
    split at h
    · rename_i t' hd
      split at h
      · rename_i c hg
        split at h
        · rename_i b' hv
          cases h
          have hval:=val_reads (c := .sc c) hv (hS.tm _ _ hg)
          refine { hS with tm:=fun t' x hx=>?_,refs:=fun t' x hx b hb=>?_ }
          · simp only [St.lit,upd] at hx
            split at hx
            · rename_i e;cases hx;rw [e];exact hval
            · exact hS.tm t' x hx
          · simp only [St.lit,upd] at hx
            split at hx
            · cases hx;simp [TV.refs] at hb
            · exact hS.refs t' x hx b hb
        · cases h
      · cases h
    · cases h
  · cases h
theorem skip_sat {β:Nat→Nat} (hS:Sat base w0 n β s a w) {dst:Option Tmp} (hd:dstB n dst=true):Sat base w0 n β (s.skip dst) (a.put dst undef) w:=by
  cases dst with
  | none=>exact hS
  | some d =>
    exact hS.put (v:=undef) (x:=some (.cond false (.sc (.v (.bool true))))) (of_decide_eq_true hd) (fun y hy=>by
      cases hy
      exact ⟨⟨(fun h=>by cases h),fun _=>rfl⟩,by simp [TV.refs]⟩)
theorem stp_sound (ok:CxOk2 P X) {o:Oper} {next:St→Prop} {K:Act→World→Prop} (h:stp X n o next s) (hS:SatE base w0 n s a w) (hK:∀ s a w,next s→SatE base w0 n s a w→K a w):o.wp P a w K Q:=by
  unfold stp at h
  split at h
  · rename_i e he
    obtain ⟨hc,hp,hn⟩:=h
    unfold stepChk at hc
    simp only [Bool.and_eq_true] at hc
    obtain ⟨β,hS⟩:=hS
    exact absR_sound ok hS he hp hc.1.1 hc.1.2 (newB_ok hc.2) (fun β' a' w' h'=>hK _ a' w' hn ⟨β',h'⟩)
  · cases h
theorem vops_sound (ok:CxOk2 P X) {kn:St→Prop} (hQ:∀ s a w,kn s→SatE base w0 n s a w→Q .normal a w):∀ (r:List Oper) (k:Nat) (s:St) (a:Act) (w:World),ops.drop k=r→vops X n ops kn r s→SatE base w0 n s a w→wpOps P ops.toArray Q (List.range' k r.length) a w
  | [],k,s,a,w,hd,h,hS=>hQ s a w h hS
  | o :: r, k, s, a, w, hd, h, hS => by
    have hok:ops[k]?=some o:=by
      have:=congrArg (fun l=>l[0]?) hd
      simpa using this
    have hd':ops.drop (k+1)=r:=by
      have:=congrArg List.tail hd
      simpa [List.tail_drop] using this
    rw [List.length_cons,List.range'_succ,wpOps_cons]
    unfold wpOp
    have ho':ops.toArray[k]?=some o:=by simpa using hok
    rw [ho']
    simp only
    have next:∀ s a w,vops X n ops kn r s→SatE base w0 n s a w→wpOps P ops.toArray Q (List.range' (k+1) r.length) a w:=fun s a w h hS=>vops_sound ok hQ r (k+1) s a w hd' h hS
    rw [vops] at h
    split at h
    · rename_i hg
      rw [if_pos (by unfold Region.wanted;rw [hg])]
      exact .inl (stp_sound ok h hS next)
    · rename_i j hg
      have hw:Region.wanted o (yielded ops.toArray a.tmps)=(yielded ops.toArray a.tmps j == some true):=by unfold Region.wanted;rw [hg]
      obtain ⟨β,hS⟩:=hS
      split at h
      · rename_i t b hb
        have hgt:=gcond_true hS (guardBool_gcond hb true)
        rw [hw,hgt]
        have hl:=lit_sat hS hb
        cases b with
        | true=>rw [if_pos (show (true == true)=true from rfl)];exact .inl (stp_sound ok (h.1 rfl) ⟨β,hl⟩ next)
        | false=>rw [if_neg (by decide)];exact next _ _ _ (h.2 rfl).2 ⟨β,skip_sat hl (h.2 rfl).1⟩
      · split at h
        · rename_i hgc
          have hgt:=gcond_true hS hgc
          rw [hw,hgt,if_neg (by decide)]
          exact next _ _ _ h.2 ⟨β,skip_sat hS h.1⟩
        · cases h
    · rename_i j hg
      have hw:Region.wanted o (yielded ops.toArray a.tmps)=(yielded ops.toArray a.tmps j == some false):=by unfold Region.wanted;rw [hg]
      obtain ⟨β,hS⟩:=hS
      split at h
      · rename_i t b hb
        have hgt:=gcond_true hS (guardBool_gcond hb false)
        rw [hw,hgt]
        have hl:=lit_sat hS hb
        cases b with
        | false=>rw [if_pos (show (false == false)=true from rfl)];exact .inl (stp_sound ok (h.1 rfl) ⟨β,hl⟩ next)
        | true=>rw [if_neg (by decide)];exact next _ _ _ (h.2 rfl).2 ⟨β,skip_sat hl (h.2 rfl).1⟩
      · split at h
        · rename_i hgc
          have hgt:=gcond_true hS hgc
          rw [hw,hgt,if_neg (by decide)]
          exact next _ _ _ h.2 ⟨β,skip_sat hS h.1⟩
        · cases h
def vcg (X:Cx) (n:Nat) (ts:List Nat):Nat→Code→(St→Prop)→(Nat→St→Prop)→(St→Prop)→St→Prop
  | 0,_,_,_,_,_=>False
  | f+1,.skip,kn,_,_,s=>kn s
  | f+1,.seq x y,kn,ke,kr,s=>vcg X n ts f x (vcg X n ts f y kn ke kr) ke kr s
  | f+1,.region _ ops false,kn,_,_,s=>vops X n ops.toList kn ops.toList s
  | f+1,.region _ ops true,kn,_,_,s=>match effs X ops.toList ops.toList s with
    | some (es,s')=>regChk X n ops.toList true es=true∧pres es∧kn s'
    | none=>False
  | f+1,.cond c x y,kn,ke,kr,s=>match boolOf (getv s.g c) with
    | some b=>(b=true→vcg X n ts f x kn ke kr s)∧(b=false→vcg X n ts f y kn ke kr s)
    | none=>False
  | f+1,.block id c,kn,ke,kr,s=>vcg X n ts f c kn (fun id' s=>if id'=id then kn s else ke id' s) kr s
  | f+1,.loop c,kn,ke,kr,s=>vcg X n ts f c (vcg X n ts f (.loop c) kn ke kr) ke kr (s.keep ts)
  | f+1,.exit id,_,ke,_,s=>ke id s
  | f+1,.ret,_,_,kr,s=>kr s
  | _+1,_,_,_,_,_=>False
theorem vcg_both (ok:CxOk2 P X) (hmo:P.follows .mixedOrders=true) (ts:List Nat):∀ (f:Nat),(∀ (c:Code) (kn:St→Prop) (ke:Nat→St→Prop) (kr:St→Prop) (s:St) (a:Act) (w:World) (Q:Exit→Act→World→Prop),vcg X n ts f c kn ke kr s→SatE base w0 n s a w →
    (∀ s a w,kn s→SatE base w0 n s a w→Q .normal a w)→(∀ id s a w,ke id s→SatE base w0 n s a w→Q (.exit id) a w)→(∀ s a w,kr s→SatE base w0 n s a w→Q .ret a w)→c.wp P Q a w) ∧
    (∀ (c:Code) (kn:St→Prop) (ke:Nat→St→Prop) (kr:St→Prop) (s:St) (a:Act) (w:World) (Q:Exit→Act→World→Prop),vcg X n ts f (.loop c) kn ke kr s→SatE base w0 n s a w →
    (∀ s a w,kn s→SatE base w0 n s a w→Q .normal a w)→(∀ id s a w,ke id s→SatE base w0 n s a w→Q (.exit id) a w)→(∀ s a w,kr s→SatE base w0 n s a w→Q .ret a w)→Code.rounds P c Q f a w):=by
  intro f
  induction f with
  | zero=>exact ⟨(fun c kn ke kr s a w Q h=>by cases h),(fun c kn ke kr s a w Q h=>by cases h)⟩
  | succ f ih =>
    obtain ⟨ihA,ihB⟩:=ih
    have hB:∀ (c:Code) (kn:St→Prop) (ke:Nat→St→Prop) (kr:St→Prop) (s:St) (a:Act) (w:World) (Q:Exit→Act→World→Prop),vcg X n ts (f+1) (.loop c) kn ke kr s→SatE base w0 n s a w →
        (∀ s a w,kn s→SatE base w0 n s a w→Q .normal a w)→(∀ id s a w,ke id s→SatE base w0 n s a w→Q (.exit id) a w)→(∀ s a w,kr s→SatE base w0 n s a w→Q .ret a w)→Code.rounds P c Q (f+1) a w:=by
      intro c kn ke kr s a w Q h hS hn he hr
      obtain ⟨β,hS⟩:=hS
      exact ihA c _ ke kr _ a w _ h ⟨β,hS.keep ts⟩ (fun s a w hk hS=>ihB c kn ke kr s a w Q hk hS hn he hr) (fun id s a w hk hS=>he id s a w hk hS) (fun s a w hk hS=>hr s a w hk hS)
    refine ⟨?_,hB⟩
    intro c kn ke kr s a w Q h hS hn he hr
    cases c with
    | skip=>exact wp_skip (hn s a w h hS)
    | seq x y =>
      refine wp_seq (ihA x _ ke kr s a w _ h hS (fun s a w hk hS=>ihA y kn ke kr s a w Q hk hS hn he hr) (fun id s a w hk hS=>he id s a w hk hS) (fun s a w hk hS=>hr s a w hk hS))
    | region id ops draw =>
      cases draw with
      | true =>
        simp only [vcg] at h
        split at h
        · rename_i es s' heff
          exact region_sound ok hmo heff h.1 h.2.1 hS (fun a w hS'=>hn s' a w h.2.2 hS')
        · cases h
      | false =>
        simp only [vcg] at h
        refine wp_region ?_
        have:=vops_sound (P:=P) (Q:=Q) (ops:=ops.toList) ok hn ops.toList 0 s a w rfl h hS
        rw [List.range_eq_range',← Array.length_toList]
        simpa using this
    | cond c x y =>
      simp only [vcg] at h
      split at h
      · rename_i b hb
        refine wp_cond (boolOf_eq hS hb) ?_
        cases b with
        | true=>exact ihA x kn ke kr s a w Q (h.1 rfl) hS hn he hr
        | false=>exact ihA y kn ke kr s a w Q (h.2 rfl) hS hn he hr
      · cases h
    | block id c =>
      refine wp_block (ihA c kn _ kr s a w _ h hS (fun s a w hk hS=>hn s a w hk hS) (fun id' s a w hk hS=>?_) (fun s a w hk hS=>hr s a w hk hS))
      show if id'=id then Q .normal a w else Q (.exit id') a w
      split
      · rename_i e;rw [if_pos e] at hk;exact hn s a w hk hS
      · rename_i e;rw [if_neg e] at hk;exact he id' s a w hk hS
    | loop c=>exact wp_loop_rounds (f+1) (hB c kn ke kr s a w Q h hS hn he hr)
    | exit id=>exact wp_exit (he id s a w h hS)
    | ret=>exact wp_ret (hr s a w h hS)
    | rangeFunc _ _ _ _=>cases h
    | scope _=>cases h
    | label _=>cases h
    | goto _=>cases h
    | refuse _=>cases h
theorem fng_ret {X:Cx} (ok:CxOk2 P X) (hmo:P.follows .mixedOrders=true) (ts:List Nat) {fid:FuncId} {fn:Func} {c:Code} (hf:P.funcs[fid]?=some fn) (hb:fn.body=some c) {xs:List TV} {us:List Value} {w:World} (f:Nat) (r:CR)
    (hr:xs.all (fun x=>x.refs.isEmpty)=true) (hn:xs.length≤fn.ntmps) (h:vcg X fn.ntmps ts f c (fun s=>resCR X fn.results.toList s=some r) (fun _ _=>False) (fun s=>resCR X fn.results.toList s=some r) (st0 xs))
    (hargs:All2 (TV.reads (fun _=>0) w.heap.size w) xs us):Ret P fid us.toArray w r:=by
  refine calls_of_wp hf hb ?_
  have hS:=sat0 hargs hr (n:=fn.ntmps) (by rw [← All2.length hargs];exact hn)
  have fin:∀ (s:St) (a:Act) (w':World),resCR X fn.results.toList s=some r→SatE w.heap.size w fn.ntmps s a w'→a.defers=[]∧∃ v,(results fn a.tmps).run P w' = .ok v w'∧∃ u,Ending.returned v = .returned u∧r.told w w' u∧Below w.heap.size w w':=by
    rintro s a w' hr1 ⟨β,hS⟩
    obtain ⟨u,h1,h2⟩:=res_run ok.toCxOk hS hr1
    exact ⟨hS.defers,u,h1,u,rfl,h2,hS.below⟩
  exact (vcg_both ok hmo ts f).1 c _ _ _ _ _ _ _ h hS (fun s a w' hk hS=>fin s a w' hk hS) (fun id s a w' hk=>hk.elim) (fun s a w' hk hS=>fin s a w' hk hS)
end
end Go.Proofs.YtglgmepolanfpaaW.Sx
end
section
set_option linter.unusedVariables false
set_option linter.unusedSimpArgs false
namespace Go.Proofs.Ytglgmepolanfpaa.Wh
open Go Go.RowKit Go.Proofs.YtglgmepolanfpaaW.PrintWords Go.Proofs.YtglgmepolanfpaaW.PrintMore Go.Proofs.YtglgmepolanfpaaW.Aid Go.Proofs.YtglgmepolanfpaaW.Big Go.Proofs.YtglgmepolanfpaaW.Sx Go.Proofs.Ytglgmepolanfpaa.BitsWalk Go.Proofs.Ytglgmepolanfpaa.Limbs Go.Proofs.Ytglgmepolanfpaa.Whole Go.Proofs.Ytglgmepolanfpaa.FxWalk Go.Proofs
abbrev badL (m v:Int):Bool:=bif decide (v>m) then true else decide (v<IntKind.i64.wrap (0-m))
def wi3 (x y z m:Int):Bool:=bif badL m x then false else bif badL m y then false else bif badL m z then false else true
theorem wi3_0 {x y z m:Int} (h0:(badL m x)=true):(false)=wi3 x y z m:=by
  unfold wi3
  rw [h0]
  rfl
theorem wi3_1 {x y z m:Int} (h0:(badL m x)=false) (h1:(badL m y)=true):(false)=wi3 x y z m:=by
  unfold wi3
  rw [h0]
  rw [h1]
  rfl
theorem wi3_2 {x y z m:Int} (h0:(badL m x)=false) (h1:(badL m y)=false) (h2:(badL m z)=true):(false)=wi3 x y z m:=by
  unfold wi3
  rw [h0]
  rw [h1]
  rw [h2]
  rfl
theorem wi3_3 {x y z m:Int} (h0:(badL m x)=false) (h1:(badL m y)=false) (h2:(badL m z)=false):(true)=wi3 x y z m:=by
  unfold wi3
  rw [h0]
  rw [h1]
  rw [h2]
  rfl
theorem wi3_iff {x y z m:Int} (h0:0≤m) (h1:m<9223372036854775808):wi3 x y z m=true↔(-m≤x∧x≤m)∧(-m≤y∧y≤m)∧(-m≤z∧z≤m):=by
  have w:∀ v:Int,badL m v=false ↔ -m≤v∧v≤m:=fun v=>by
    unfold badL
    rw [show IntKind.i64.wrap (0-m) = -m by rw [i64_wrap,Int.zero_sub];exact wrap64_id (by omega) (by omega)]
    by_cases h1:v>m<;>by_cases h2:v < -m<;>simp [h1,h2]<;>omega
  rw [← w,← w,← w]
  unfold wi3
  cases badL m x<;>cases badL m y<;>cases badL m z<;>simp
def goodLe (a b c x y z n:Int):Bool:=bif gV a b c then bif decide (n≥0) then bif decide (n<32) then bif wi3 x y z 2251799813685247 then bif decide (n>0) then true else eqL (cells3 x y z) (cells3 0 0 0) else false else false else false else false
theorem goodLe_0 {a b c x y z n:Int} (h0:(gV a b c)=true) (h1:(decide (n≥0))=true) (h2:(decide (n<32))=true) (h3:(wi3 x y z 2251799813685247)=true) (h4:(decide (n>0))=true):(true)=goodLe a b c x y z n:=by
  unfold goodLe
  rw [h0]
  rw [h1]
  rw [h2]
  rw [h3]
  rw [h4]
  rfl
theorem goodLe_1 {a b c x y z n:Int} (h0:(gV a b c)=true) (h1:(decide (n≥0))=true) (h2:(decide (n<32))=true) (h3:(wi3 x y z 2251799813685247)=true) (h4:(decide (n>0))=false):(eqL (cells3 x y z) (cells3 0 0 0))=goodLe a b c x y z n:=by
  unfold goodLe
  rw [h0]
  rw [h1]
  rw [h2]
  rw [h3]
  rw [h4]
  rfl
theorem goodLe_2 {a b c x y z n:Int} (h0:(gV a b c)=true) (h1:(decide (n≥0))=true) (h2:(decide (n<32))=true) (h3:(wi3 x y z 2251799813685247)=false):(false)=goodLe a b c x y z n:=by
  unfold goodLe
  rw [h0]
  rw [h1]
  rw [h2]
  rw [h3]
  rfl
theorem goodLe_3 {a b c x y z n:Int} (h0:(gV a b c)=true) (h1:(decide (n≥0))=true) (h2:(decide (n<32))=false):(false)=goodLe a b c x y z n:=by
  unfold goodLe
  rw [h0]
  rw [h1]
  rw [h2]
  rfl
theorem goodLe_4 {a b c x y z n:Int} (h0:(gV a b c)=true) (h1:(decide (n≥0))=false):(false)=goodLe a b c x y z n:=by
  unfold goodLe
  rw [h0]
  rw [h1]
  rfl
theorem goodLe_5 {a b c x y z n:Int} (h0:(gV a b c)=false):(false)=goodLe a b c x y z n:=by
  unfold goodLe
  rw [h0]
  rfl
abbrev badLe (a b c x y z n u v t:Int):Bool:=bif !goodLe a b c x y z n then true else !gV u v t
abbrev farLe (a b c u v t:Int):Bool:=!wi3 (IntKind.i64.wrap (u-a)) (IntKind.i64.wrap (v-b)) (IntKind.i64.wrap (t-c)) 1048576
def leR (a b c x y z n u v t:Int):((Int × Int × Int) × (Int × Int × Int) × Int) × Bool × Int:=bif badLe a b c x y z n u v t then ((((0:Int),(0:Int),(0:Int)),((0:Int),(0:Int),(0:Int)),(0:Int)),false,(1:Int)) else bif farLe a b c u v t then (((a,b,c),((0:Int),(0:Int),(0:Int)),(0:Int)),false,(0:Int)) else bif !((IntKind.i64.wrap (n+1)) == 32) then (((a,b,c),((IntKind.i64.wrap (x+u)),(IntKind.i64.wrap (y+v)),(IntKind.i64.wrap (z+t))),(IntKind.i64.wrap (n+1))),false,(0:Int)) else bif (vT (roundI (IntKind.i64.wrap (x+u)) 32) (roundI (IntKind.i64.wrap (y+v)) 32) (roundI (IntKind.i64.wrap (z+t)) 32)).2.2.2 != 0 then ((((0:Int),(0:Int),(0:Int)),((0:Int),(0:Int),(0:Int)),(0:Int)),false,(vT (roundI (IntKind.i64.wrap (x+u)) 32) (roundI (IntKind.i64.wrap (y+v)) 32) (roundI (IntKind.i64.wrap (z+t)) 32)).2.2.2) else ((((vT (roundI (IntKind.i64.wrap (x+u)) 32) (roundI (IntKind.i64.wrap (y+v)) 32) (roundI (IntKind.i64.wrap (z+t)) 32)).1,(vT (roundI (IntKind.i64.wrap (x+u)) 32) (roundI (IntKind.i64.wrap (y+v)) 32) (roundI (IntKind.i64.wrap (z+t)) 32)).2.1,(vT (roundI (IntKind.i64.wrap (x+u)) 32) (roundI (IntKind.i64.wrap (y+v)) 32) (roundI (IntKind.i64.wrap (z+t)) 32)).2.2.1),((0:Int),(0:Int),(0:Int)),(0:Int)),true,(0:Int))
theorem leR_0 {a b c x y z n u v t:Int} (h0:(badLe a b c x y z n u v t)=true):(((((0:Int),(0:Int),(0:Int)),((0:Int),(0:Int),(0:Int)),(0:Int)),false,(1:Int)))=leR a b c x y z n u v t:=by
  unfold leR
  rw [h0]
  rfl
theorem leR_1 {a b c x y z n u v t:Int} (h0:(badLe a b c x y z n u v t)=false) (h1:(farLe a b c u v t)=true):((((a,b,c),((0:Int),(0:Int),(0:Int)),(0:Int)),false,(0:Int)))=leR a b c x y z n u v t:=by
  unfold leR
  rw [h0]
  rw [h1]
  rfl
theorem leR_2 {a b c x y z n u v t:Int} (h0:(badLe a b c x y z n u v t)=false) (h1:(farLe a b c u v t)=false) (h2:(!((IntKind.i64.wrap (n+1)) == 32))=true):((((a,b,c),((IntKind.i64.wrap (x+u)),(IntKind.i64.wrap (y+v)),(IntKind.i64.wrap (z+t))),(IntKind.i64.wrap (n+1))),false,(0:Int)))=leR a b c x y z n u v t:=by
  unfold leR
  rw [h0]
  rw [h1]
  rw [h2]
  rfl
theorem leR_3 {a b c x y z n u v t:Int} (h0:(badLe a b c x y z n u v t)=false) (h1:(farLe a b c u v t)=false) (h2:(!((IntKind.i64.wrap (n+1)) == 32))=false) (h3:((vT (roundI (IntKind.i64.wrap (x+u)) 32) (roundI (IntKind.i64.wrap (y+v)) 32) (roundI (IntKind.i64.wrap (z+t)) 32)).2.2.2 != 0)=true):(((((0:Int),(0:Int),(0:Int)),((0:Int),(0:Int),(0:Int)),(0:Int)),false,(vT (roundI (IntKind.i64.wrap (x+u)) 32) (roundI (IntKind.i64.wrap (y+v)) 32) (roundI (IntKind.i64.wrap (z+t)) 32)).2.2.2))=leR a b c x y z n u v t:=by
  unfold leR
  rw [h0]
  rw [h1]
  rw [h2]
  rw [h3]
  rfl
theorem leR_4 {a b c x y z n u v t:Int} (h0:(badLe a b c x y z n u v t)=false) (h1:(farLe a b c u v t)=false) (h2:(!((IntKind.i64.wrap (n+1)) == 32))=false) (h3:((vT (roundI (IntKind.i64.wrap (x+u)) 32) (roundI (IntKind.i64.wrap (y+v)) 32) (roundI (IntKind.i64.wrap (z+t)) 32)).2.2.2 != 0)=false):(((((vT (roundI (IntKind.i64.wrap (x+u)) 32) (roundI (IntKind.i64.wrap (y+v)) 32) (roundI (IntKind.i64.wrap (z+t)) 32)).1,(vT (roundI (IntKind.i64.wrap (x+u)) 32) (roundI (IntKind.i64.wrap (y+v)) 32) (roundI (IntKind.i64.wrap (z+t)) 32)).2.1,(vT (roundI (IntKind.i64.wrap (x+u)) 32) (roundI (IntKind.i64.wrap (y+v)) 32) (roundI (IntKind.i64.wrap (z+t)) 32)).2.2.1),((0:Int),(0:Int),(0:Int)),(0:Int)),true,(0:Int)))=leR a b c x y z n u v t:=by
  unfold leR
  rw [h0]
  rw [h1]
  rw [h2]
  rw [h3]
  rfl
abbrev tLe (q:((Int × Int × Int) × (Int × Int × Int) × Int) × Bool × Int):TV := .tup [(true,[.v (.int .i64 q.1.1.1),.v (.int .i64 q.1.1.2.1),.v (.int .i64 q.1.1.2.2),.v (.int .i64 q.1.2.1.1),.v (.int .i64 q.1.2.1.2.1),.v (.int .i64 q.1.2.1.2.2),.v (.int .i64 q.1.2.2)]),(false,[.v (.bool q.2.1)]),(false,[.v (.int .i64 q.2.2)])]
theorem le_eq {a b c x y z n e:Int} {d:Bool} {q:((Int × Int × Int) × (Int × Int × Int) × Int) × Bool × Int} (h:(((a,b,c),(x,y,z),n),d,e)=q):(some (CR.tv (.tup [(true,[.v (.int .i64 a),.v (.int .i64 b),.v (.int .i64 c),.v (.int .i64 x),.v (.int .i64 y),.v (.int .i64 z),.v (.int .i64 n)]),(false,[.v (.bool d)]),(false,[.v (.int .i64 e)])])):Option CR)=some (CR.tv (tLe q)):=by rw [← h]
theorem wI' (x:Int):I64 (IntKind.i64.wrap x):=by rw [i64_wrap];unfold I64 wrap64;omega
section
set_option maxRecDepth 100000
set_option maxHeartbeats 8000000
def cLeWithin:Con Try.prog where
  f:=49
  sem:=fun xs=>match xs with
    | [.row 3 [.v (.int .i64 x),.v (.int .i64 y),.v (.int .i64 z)],.sc (.v (.int .i64 m))]=>some (True,.tv (tB (wi3 x y z m)))
    | _=>none
  ok := by
    intro xs p r' h hp
    refine ⟨⟨_,Try.func49,by kernel_rfl,rfl⟩,fun us w ha=>?_⟩
    split at h
    · rename_i x y z m
      cases h
      refine fnu_ret (cxOk Try.prog ints_ok [] []) follows [0,1,4,7,8,9] Try.func49 rfl 100 _ rfl (by simp) ?_ ha
      repeat' first
        | exact trivial
        | (refine And.intro (show regChk _ _ _ _ _=true from by kernel_rfl) (And.intro ?_ ?_))
        | (refine And.intro (fun _=>?_) (fun h=>absurd (show true=false from h) (by decide)))
        | (refine And.intro (fun h=>absurd (show false=true from h) (by decide)) (fun _=>?_))
        | (refine And.intro (fun hb=>?_) (fun hb'=>?_))
        | refine And.intro ?_ ?_
        | intro _
      all_goals first
        | (show some (CR.tv (tB _))=some (CR.tv (tB _));first|exact tB_eq (wi3_0 (by assumption))|exact tB_eq (wi3_1 (by assumption) (by assumption))|exact tB_eq (wi3_2 (by assumption) (by assumption) (by assumption))|exact tB_eq (wi3_3 (by assumption) (by assumption) (by assumption)))
        | (show (_:Int)≤_;decide)
        | (show (_:Int)<_;decide)
        | (show (_:Bool)=(_:Bool);first|assumption|exact beq_iff_eq.2 (by assumption)|(exact and_tt (by first|assumption|exact beq_iff_eq.2 (by assumption)) (by first|assumption|exact beq_iff_eq.2 (by assumption))))
        | (show (_:Nat)=(_:Nat);rfl)
        | (show (_:Nat)≤1000;decide)
        | (show (_:Int)=(_:Int);rfl)
        | (show (_:Int)≤_;decide)
        | (show (_:Int)<_;decide)
        -- PVC
    · cases h
def cLeGood:Con Try.prog where
  f:=48
  sem:=fun xs=>match xs with
    | [.agg [.v (.int .i64 a),.v (.int .i64 b),.v (.int .i64 c),.v (.int .i64 x),.v (.int .i64 y),.v (.int .i64 z),.v (.int .i64 n)]]=>some (True,.tv (tB (goodLe a b c x y z n)))
    | _=>none
  ok := by
    intro xs p r' h hp
    refine ⟨⟨_,Try.func48,by kernel_rfl,rfl⟩,fun us w ha=>?_⟩
    split at h
    · rename_i a b c x y z n
      cases h
      refine fng_ret (cxOk Try.prog ints_ok [eqVec] [cVGood,cVOf,cLeWithin]) follows [] Try.func48 rfl 100 _ rfl (by simp) ?_ ha
      repeat' first
        | exact trivial
        | (refine And.intro (show regChk _ _ _ _ _=true from by kernel_rfl) (And.intro ?_ ?_))
        | (refine And.intro (show stepChk _ _ _ _ _=true from by kernel_rfl) (And.intro ?_ ?_))
        | (refine And.intro (show dstB _ _=true from rfl) ?_)
        | (refine And.intro (fun _=>?_) (fun h=>absurd (show false=true from h) (by decide)))
        | (refine And.intro (fun h=>absurd (show true=false from h) (by decide)) (fun _=>?_))
        | (refine And.intro (fun _=>?_) (fun h=>absurd (show true=false from h) (by decide)))
        | (refine And.intro (fun h=>absurd (show false=true from h) (by decide)) (fun _=>?_))
        | (refine And.intro (fun hb=>?_) (fun hb'=>?_))
        | refine And.intro ?_ ?_
        | intro _
      all_goals first
        | (show some (CR.tv (tB _))=some (CR.tv (tB _));first|exact tB_eq (goodLe_0 (by assumption) (by assumption) (by assumption) (by assumption) (by assumption))|exact tB_eq (goodLe_1 (by assumption) (by assumption) (by assumption) (by assumption) (by assumption))|exact tB_eq (goodLe_2 (by assumption) (by assumption) (by assumption) (by assumption))|exact tB_eq (goodLe_3 (by assumption) (by assumption) (by assumption))|exact tB_eq (goodLe_4 (by assumption) (by assumption))|exact tB_eq (goodLe_5 (by assumption)))
        | (show (_:Bool)=(_:Bool);first|assumption|exact beq_iff_eq.2 (by assumption)|(exact and_tt (by first|assumption|exact beq_iff_eq.2 (by assumption)) (by first|assumption|exact beq_iff_eq.2 (by assumption))))
        | (show (_:Nat)=(_:Nat);rfl)
        | (show (_:Nat)≤1000;decide)
        | (show (_:Int)=(_:Int);rfl)
        | (show (_:Int)≤_;decide)
        | (show (_:Int)<_;decide)
        -- PVC
    · cases h
def cLeLess:Con Try.prog where
  f:=51
  sem:=fun xs=>match xs with
    | [.sc (.v (.int .i64 x)),.sc (.v (.int .i64 y))]=>some (True,.tv (tN .i64 (IntKind.i64.wrap (x-y))))
    | _=>none
  ok := by
    intro xs p r' h hp
    refine ⟨⟨_,Try.func51,by kernel_rfl,rfl⟩,fun us w ha=>?_⟩
    split at h
    · rename_i x y
      cases h
      refine fn_ret (cxOk Try.prog ints_ok [] []) follows Try.func51 rfl 100 _ rfl (by simp) ?_ ha
      repeat' first
        | exact trivial
        | (refine And.intro (show regChk _ _ _ _ _=true from by kernel_rfl) (And.intro ?_ ?_))
        | (refine And.intro (fun _=>?_) (fun h=>absurd (show true=false from h) (by decide)))
        | (refine And.intro (fun h=>absurd (show false=true from h) (by decide)) (fun _=>?_))
        | (refine And.intro (fun hb=>?_) (fun hb'=>?_))
        | refine And.intro ?_ ?_
      all_goals first
        | (show some (CR.tv (tN _ _))=some (CR.tv (tN _ _));rfl)
        | (show (_:Nat)=(_:Nat);rfl)
        | (show (_:Nat)≤1000;decide)
        | (show (_:Int)=(_:Int);rfl)
        | (show (_:Int)≤_;decide)
        | (show (_:Int)<_;decide)
        -- PVC
    · cases h
def cEachLe1:Con Try.prog where
  f:=50
  sem:=fun xs=>match xs with
    | [.row 3 [.v (.int .i64 a),.v (.int .i64 b),.v (.int .i64 c)],.row 3 [.v (.int .i64 d),.v (.int .i64 e),.v (.int .i64 f)],.clo g []]=>if g=51 then some (True,.new 2 3 1 [.v (.int .i64 (IntKind.i64.wrap (a-d))),.v (.int .i64 (IntKind.i64.wrap (b-e))),.v (.int .i64 (IntKind.i64.wrap (c-f)))]) else none
    | _=>none
  ok := by
    intro xs p r' h hp
    refine ⟨⟨_,Try.func50,by kernel_rfl,rfl⟩,fun us w ha=>?_⟩
    split at h
    · rename_i a b c d e f g
      split at h
      case isFalse=>cases h
      rename_i hf
      subst hf
      cases h
      refine fnu_ret (cxOk Try.prog ints_ok [] [cLeLess]) follows [0,1,2,6,9,10,11] Try.func50 rfl 100 _ rfl (by simp) ?_ ha
      repeat' first
        | exact trivial
        | (refine And.intro (show regChk _ _ _ _ _=true from by kernel_rfl) (And.intro ?_ ?_))
        | (refine And.intro (fun _=>?_) (fun h=>absurd (show true=false from h) (by decide)))
        | (refine And.intro (fun h=>absurd (show false=true from h) (by decide)) (fun _=>?_))
        | (refine And.intro (fun hb=>?_) (fun hb'=>?_))
        | refine And.intro ?_ ?_
      all_goals first
        | (show some (CR.new _ _ _ _)=some (CR.new _ _ _ _);rfl)
        | (show (_:Int)≤_;decide)
        | (show (_:Int)<_;decide)
        | (show (_:Nat)=(_:Nat);rfl)
        | (show (_:Nat)≤1000;decide)
        | (show (_:Int)=(_:Int);rfl)
        | (show (_:Int)≤_;decide)
        | (show (_:Int)<_;decide)
        -- PVC
    · cases h
def cLe2:Con Try.prog where
  f:=54
  sem:=fun xs=>match xs with
    | [.sc (.v (.int .i64 x)),.sc (.v (.int .i64 y))]=>some (I64 x,.tv (tI (roundI x 32)))
    | _=>none
  ok := by
    intro xs p r' h hp
    refine ⟨⟨_,Try.func54,by kernel_rfl,rfl⟩,fun us w ha=>?_⟩
    split at h
    · rename_i x y
      cases h
      refine fn_ret (cxOk Try.prog ints_ok [] [cFrom,cRound]) follows Try.func54 rfl 100 _ rfl (by simp) ?_ ha
      repeat' first
        | exact trivial
        | (refine And.intro (show regChk _ _ _ _ _=true from by kernel_rfl) (And.intro ?_ ?_))
        | (refine And.intro (fun _=>?_) (fun h=>absurd (show true=false from h) (by decide)))
        | (refine And.intro (fun h=>absurd (show false=true from h) (by decide)) (fun _=>?_))
        | (refine And.intro (fun hb=>?_) (fun hb'=>?_))
        | refine And.intro ?_ ?_
      all_goals first
        | exact hp.1
        | exact hp.2
        | (show Len0 _;exact len_I hp)
        | (show (_:Int)≠0;decide)
        | (show Int.natAbs _<(_:Nat);decide)
        | (show some (CR.tv (tI _))=some (CR.tv (tI _));rfl)
        | (show (_:Nat)=(_:Nat);rfl)
        | (show (_:Nat)≤1000;decide)
        | (show (_:Int)=(_:Int);rfl)
        | (show (_:Int)≤_;decide)
        | (show (_:Int)<_;decide)
        -- PVC
    · cases h
def cEachLe2:Con Try.prog where
  f:=37
  sem:=fun xs=>match xs with
    | [.row 3 [.v (.int .i64 a),.v (.int .i64 b),.v (.int .i64 c)],.row 3 [.v (.int .i64 d),.v (.int .i64 e),.v (.int .i64 f)],.clo g []]=>if g=54 then some (I64 a∧I64 b∧I64 c,.new 77 3 2 [.neg (roundI a 32),.mag (roundI a 32),.neg (roundI b 32),.mag (roundI b 32),.neg (roundI c 32),.mag (roundI c 32)]) else none
    | _=>none
  ok := by
    intro xs p r' h hp
    refine ⟨⟨_,Try.func37,by kernel_rfl,rfl⟩,fun us w ha=>?_⟩
    split at h
    · rename_i a b c d e f g
      split at h
      case isFalse=>cases h
      rename_i hf
      subst hf
      cases h
      obtain ⟨h1,h2,h3⟩:=hp
      refine fnu_ret (cxOk Try.prog ints_ok [] [cLe2]) follows [0,1,2,6,9,10,11] Try.func37 rfl 100 _ rfl (by simp) ?_ ha
      repeat' first
        | exact trivial
        | (refine And.intro (show regChk _ _ _ _ _=true from by kernel_rfl) (And.intro ?_ ?_))
        | (refine And.intro (fun _=>?_) (fun h=>absurd (show true=false from h) (by decide)))
        | (refine And.intro (fun h=>absurd (show false=true from h) (by decide)) (fun _=>?_))
        | (refine And.intro (fun hb=>?_) (fun hb'=>?_))
        | refine And.intro ?_ ?_
      all_goals first
        | (show some (CR.new _ _ _ _)=some (CR.new _ _ _ _);rfl)
        | exact h1
        | exact h2
        | exact h3
        | (show (_:Int)≤_;first|exact h1.1|exact h2.1|exact h3.1|decide)
        | (show (_:Int)<_;first|exact h1.2|exact h2.2|exact h3.2|decide)
        | (show (_:Nat)=(_:Nat);rfl)
        | (show (_:Nat)≤1000;decide)
        | (show (_:Int)=(_:Int);rfl)
        | (show (_:Int)≤_;decide)
        | (show (_:Int)<_;decide)
        -- PVC
    · cases h
def cLearn:Con Try.prog where
  f:=28
  sem:=fun xs=>match xs with
    | [.agg [.v (.int .i64 a),.v (.int .i64 b),.v (.int .i64 c),.v (.int .i64 x),.v (.int .i64 y),.v (.int .i64 z),.v (.int .i64 n)],.agg [.v (.int .i64 u),.v (.int .i64 v),.v (.int .i64 t)]]=>some (True,.tv (tLe (leR a b c x y z n u v t)))
    | _=>none
  ok := by
    intro xs p r' h hp
    refine ⟨⟨_,Try.func28,by kernel_rfl,rfl⟩,fun us w ha=>?_⟩
    split at h
    · rename_i a b c x y z n u v t
      cases h
      refine fn_ret (cxOkW Try.prog ints_ok [] [cLeGood,cVGood,cVOf,cEachLe1,cLeWithin,cEachLe2,cVTold] [cFull]) follows Try.func28 rfl 100 _ rfl (by simp) ?_ ha
      repeat' first
        | exact trivial
        | (refine And.intro (show regChk _ _ _ _ _=true from by kernel_rfl) (And.intro ?_ ?_))
        | (refine And.intro (fun _=>?_) (fun h=>absurd (show true=false from h) (by decide)))
        | (refine And.intro (fun h=>absurd (show false=true from h) (by decide)) (fun _=>?_))
        | (refine And.intro (fun hb=>?_) (fun hb'=>?_))
        | refine And.intro ?_ ?_
        | intro _
      all_goals first
        | (show some (CR.tv (.tup _))=some (CR.tv (tLe _));first|exact le_eq (leR_0 (by assumption))|exact le_eq (leR_1 (by assumption) (by assumption))|exact le_eq (leR_2 (by assumption) (by assumption) (by assumption))|exact le_eq (leR_3 (by assumption) (by assumption) (by assumption) (by assumption))|exact le_eq (leR_4 (by assumption) (by assumption) (by assumption) (by assumption)))
        | exact wI' _
        | (show (_:Int)≤_;exact (wI' _).1)
        | (show (_:Int)<_;exact (wI' _).2)
        | (show (_:Bool)=(_:Bool);first|assumption|exact beq_iff_eq.2 (by assumption)|(exact and_tt (by first|assumption|exact beq_iff_eq.2 (by assumption)) (by first|assumption|exact beq_iff_eq.2 (by assumption))))
        | (show (_:Nat)=(_:Nat);rfl)
        | (show (_:Nat)≤1000;decide)
        | (show (_:Int)=(_:Int);rfl)
        | (show (_:Int)≤_;decide)
        | (show (_:Int)<_;decide)
        -- PVC
    · cases h
abbrev eqLearn:EqT Try.prog:=eqS Try.prog 56 [some .i64,some .i64,some .i64,some .i64,some .i64,some .i64,some .i64] (by kernel_rfl)
def cWakes11:Con Try.prog where
  f:=30
  sem:=fun xs=>match xs with
    | []=>some (True,.tv (tB true))
    | _=>none
  ok := by
    intro xs p r' h hp
    refine ⟨⟨_,Try.func30,by kernel_rfl,rfl⟩,fun us w ha=>?_⟩
    split at h
    · skip
      cases h
      refine fn_ret (cxOk Try.prog ints_ok [eqLearn] [cLearn,cNum11]) follows Try.func30 rfl 100 _ rfl (by simp) ?_ ha
      repeat' first
        | exact trivial
        | (refine And.intro (show regChk _ _ _ _ _=true from by kernel_rfl) (And.intro ?_ ?_))
        | (refine And.intro (fun _=>?_) (fun h=>absurd (show true=false from h) (by decide)))
        | (refine And.intro (fun h=>absurd (show false=true from h) (by decide)) (fun _=>?_))
        | (refine And.intro (fun hb=>?_) (fun hb'=>?_))
        | refine And.intro ?_ ?_
        | intro _
      all_goals first
        | (show some (CR.tv (tB _))=some (CR.tv (tB _));exact tB_eq (by decide +kernel))
        | (show (_:Bool)=(_:Bool);first|assumption|exact beq_iff_eq.2 (by assumption)|(exact and_tt (by first|assumption|exact beq_iff_eq.2 (by assumption)) (by first|assumption|exact beq_iff_eq.2 (by assumption))))
        | (show (_:Nat)=(_:Nat);rfl)
        | (show (_:Nat)≤1000;decide)
        | (show (_:Int)=(_:Int);rfl)
        | (show (_:Int)≤_;decide)
        | (show (_:Int)<_;decide)
        -- PVC
    · cases h
end
end Go.Proofs.Ytglgmepolanfpaa.Wh
end
section
set_option linter.unusedVariables false
set_option linter.unusedSimpArgs false
namespace Go.Proofs.Ytglgmepolanfpaa.Wh
open Go Go.RowKit Go.Proofs.YtglgmepolanfpaaW.PrintWords Go.Proofs.YtglgmepolanfpaaW.PrintMore Go.Proofs.YtglgmepolanfpaaW.Aid Go.Proofs.YtglgmepolanfpaaW.Big Go.Proofs.YtglgmepolanfpaaW.Sx Go.Proofs.Ytglgmepolanfpaa.BitsWalk Go.Proofs.Ytglgmepolanfpaa.Limbs Go.Proofs.Ytglgmepolanfpaa.Whole Go.Proofs.Ytglgmepolanfpaa.FxWalk Go.Proofs
theorem goodLe_mk {a b c x y z n:Int} (h:gV a b c=true) (h0:0≤n) (h1:n<32) (hs:(-2251799813685247≤x∧x≤2251799813685247)∧(-2251799813685247≤y∧y≤2251799813685247)∧(-2251799813685247≤z∧z≤2251799813685247)) (hz:n=0→x=0∧y=0∧z=0):goodLe a b c x y z n=true:=by
  unfold goodLe
  rw [h,decide_eq_true (show n≥0 from h0),decide_eq_true h1,(wi3_iff (by decide) (by decide)).2 hs]
  by_cases hn:n>0
  · rw [decide_eq_true hn];rfl
  · obtain ⟨rfl,rfl,rfl⟩:=hz (by omega)
    rw [decide_eq_false hn];rfl
theorem wrL {x:Int} (h : -9223372036854775808≤x) (h':x<9223372036854775808):IntKind.i64.wrap x=x:=by rw [i64_wrap];exact wrap64_id h (by omega)
structure NearL (a b c x y z n u v t:Int):Prop where
  g:goodLe a b c x y z n=true
  w:gV u v t=true
  d:(-1048576≤u-a∧u-a≤1048576)∧(-1048576≤v-b∧v-b≤1048576)∧(-1048576≤t-c∧t-c≤1048576)
  s:(-2251799813685247≤x∧x≤2251799813685247)∧(-2251799813685247≤y∧y≤2251799813685247)∧(-2251799813685247≤z∧z≤2251799813685247)
  n0:0≤n
  n1:n<32
  k:gV a b c=true
theorem NearL.on {a b c x y z n u v t:Int} (h:NearL a b c x y z n u v t):leR a b c x y z n u v t=if n+1=32 then (if (vT (roundI (x+u) 32) (roundI (y+v) 32) (roundI (z+t) 32)).2.2.2=0 then ((((vT (roundI (x+u) 32) (roundI (y+v) 32) (roundI (z+t) 32)).1,(vT (roundI (x+u) 32) (roundI (y+v) 32) (roundI (z+t) 32)).2.1,(vT (roundI (x+u) 32) (roundI (y+v) 32) (roundI (z+t) 32)).2.2.1),(0,0,0),0),true,0) else (((0,0,0),(0,0,0),0),false,(vT (roundI (x+u) 32) (roundI (y+v) 32) (roundI (z+t) 32)).2.2.2)) else (((a,b,c),(x+u,y+v,z+t),n+1),false,0):=by
  obtain ⟨w1,w2,w3⟩:=gV_bd h.w
  obtain ⟨k1,k2,k3⟩:=gV_bd h.k
  have hs:=h.s
  have h0:=h.n0
  have h1:=h.n1
  have e1:IntKind.i64.wrap (x+u)=x+u:=wrL (by omega) (by omega)
  have e2:IntKind.i64.wrap (y+v)=y+v:=wrL (by omega) (by omega)
  have e3:IntKind.i64.wrap (z+t)=z+t:=wrL (by omega) (by omega)
  have e4:IntKind.i64.wrap (n+1)=n+1:=wrL (by omega) (by omega)
  have e5:IntKind.i64.wrap (u-a)=u-a:=wrL (by omega) (by omega)
  have e6:IntKind.i64.wrap (v-b)=v-b:=wrL (by omega) (by omega)
  have e7:IntKind.i64.wrap (t-c)=t-c:=wrL (by omega) (by omega)
  have hb:badLe a b c x y z n u v t=false:=by unfold badLe;rw [h.g,h.w];rfl
  have hf:farLe a b c u v t=false:=by unfold farLe;rw [e5,e6,e7,(wi3_iff (by decide) (by decide)).2 h.d];rfl
  unfold leR
  rw [hb,hf,e1,e2,e3,e4]
  by_cases hk:n+1=32
  · rw [if_pos hk,beq_iff_eq.2 hk]
    by_cases he:(vT (roundI (x+u) 32) (roundI (y+v) 32) (roundI (z+t) 32)).2.2.2=0
    · rw [if_pos he,he];rfl
    · rw [if_neg he,show ((vT (roundI (x+u) 32) (roundI (y+v) 32) (roundI (z+t) 32)).2.2.2 != 0)=true by simpa using he];rfl
  · rw [if_neg hk,beq_eq_false_iff_ne.2 hk];rfl
theorem far_on {a b c x y z n u v t:Int} (hg:goodLe a b c x y z n=true) (hw:gV u v t=true) (hk:gV a b c=true) (h:¬ ((-1048576≤u-a∧u-a≤1048576)∧(-1048576≤v-b∧v-b≤1048576)∧(-1048576≤t-c∧t-c≤1048576))):leR a b c x y z n u v t=(((a,b,c),(0,0,0),0),false,0):=by
  obtain ⟨w1,w2,w3⟩:=gV_bd hw
  obtain ⟨k1,k2,k3⟩:=gV_bd hk
  have e5:IntKind.i64.wrap (u-a)=u-a:=wrL (by omega) (by omega)
  have e6:IntKind.i64.wrap (v-b)=v-b:=wrL (by omega) (by omega)
  have e7:IntKind.i64.wrap (t-c)=t-c:=wrL (by omega) (by omega)
  have hb:badLe a b c x y z n u v t=false:=by unfold badLe;rw [hg,hw];rfl
  have hf:farLe a b c u v t=true:=by unfold farLe;rw [e5,e6,e7,Bool.eq_false_iff.2 (fun hh=>h ((wi3_iff (by decide) (by decide)).1 hh))];rfl
  unfold leR
  rw [hb,hf];rfl
section
set_option maxRecDepth 100000
set_option maxHeartbeats 8000000
end
end Go.Proofs.Ytglgmepolanfpaa.Wh
end
section
set_option linter.unusedVariables false
set_option linter.unusedSimpArgs false
namespace Go.Proofs.Ytglgmepolanfpaa.Wh
open Go Go.RowKit Go.Proofs.YtglgmepolanfpaaW.PrintWords Go.Proofs.YtglgmepolanfpaaW.PrintMore Go.Proofs.YtglgmepolanfpaaW.Aid Go.Proofs.YtglgmepolanfpaaW.Big Go.Proofs.YtglgmepolanfpaaW.Sx Go.Proofs.Ytglgmepolanfpaa.BitsWalk Go.Proofs.Ytglgmepolanfpaa.Limbs Go.Proofs.Ytglgmepolanfpaa.Whole Go.Proofs.Ytglgmepolanfpaa.FxWalk Go.Proofs
theorem td2 (x:Int):(0≤x→0≤x.tdiv 2∧2*x.tdiv 2≤x∧x≤2*x.tdiv 2+1)∧(x≤0→x.tdiv 2≤0∧x≤2*x.tdiv 2∧2*x.tdiv 2≤x+1):=by
  constructor
  · intro h;rw [Int.tdiv_eq_ediv_of_nonneg h];omega
  · intro h
    have e:x.tdiv 2 = -((-x)/2):=by rw [← Int.tdiv_eq_ediv_of_nonneg (show 0 ≤ -x by omega),Int.neg_tdiv,Int.neg_neg]
    rw [e];omega
structure S11 where
  i:Int
  n:Int
  lo:Int
  hi:Int
  a:Int
  b:Int
  c:Int
  x:Int
  y:Int
  z:Int
  m:Int
abbrev Gt (x:Int):Prop := -1048576≤x∧x≤1048576
def I11 (N:Nat) (v:S11):Prop:=(0≤v.i∧v.i≤(N:Int))∧(0≤v.n∧v.n<32)∧v.m=v.n∧(Gt v.a∧Gt v.b∧Gt v.c)∧(v.n=0→v.x=0∧v.y=0∧v.z=0)∧(0<v.n→Gt v.lo∧Gt v.hi∧v.n*v.lo≤v.x∧v.x≤v.n*v.hi)∧(-(v.n*1048576)≤v.y∧v.y≤v.n*1048576)∧(-(v.n*1048576)≤v.z∧v.z≤v.n*1048576)
abbrev bG (x:Int):Int:=broughtR x 1048576
abbrev xR (v:S11) (p:Int):Int:=IntKind.i64.wrap (IntKind.i64.wrap ((bG p).tdiv 2)+IntKind.i64.wrap (v.a.tdiv 2))
abbrev zR (far:Bool) (r:Int):Int:=bif far then 1099511627776 else bG r
theorem bGb (x:Int):Gt (bG x):=brought_bd x (by decide)
theorem xR_bd {N:Nat} {v:S11} (h:I11 N v) (p:Int):Gt (xR v p):=by
  have b:=bGb p
  have ha:=h.2.2.2.1.1
  have t1:=td2 (bG p)
  have t2:=td2 v.a
  have e1:IntKind.i64.wrap ((bG p).tdiv 2)=(bG p).tdiv 2:=wrL (by omega) (by omega)
  have e2:IntKind.i64.wrap (v.a.tdiv 2)=v.a.tdiv 2:=wrL (by omega) (by omega)
  unfold xR
  rw [e1,e2,wrL (x:=(bG p).tdiv 2+v.a.tdiv 2) (by omega) (by omega)]
  unfold Gt;omega
abbrev cG (x y:Int):Bool:=decide (IntKind.i64.wrap (x-y)≤1048576)
abbrev near11 (v:S11) (x y z:Int):Bool:=bif bif bif bif bif cG x v.a then cG v.a x else false then cG y v.b else false then cG v.b y else false then cG z v.c else false then cG v.c z else false
theorem near_iff {N:Nat} {v:S11} (h:I11 N v) {x y z:Int} (hx : -2199023255552≤x∧x≤2199023255552) (hy : -2199023255552≤y∧y≤2199023255552) (hz : -2199023255552≤z∧z≤2199023255552):near11 v x y z=true↔(-1048576≤x-v.a∧x-v.a≤1048576)∧(-1048576≤y-v.b∧y-v.b≤1048576)∧(-1048576≤z-v.c∧z-v.c≤1048576):=by
  obtain ⟨_,_,_,⟨h1,h2,h3⟩,_⟩:=h
  unfold Gt at h1 h2 h3
  unfold near11 cG
  rw [wrL (x:=x-v.a) (by omega) (by omega),wrL (x:=v.a-x) (by omega) (by omega),wrL (x:=y-v.b) (by omega) (by omega),wrL (x:=v.b-y) (by omega) (by omega),wrL (x:=z-v.c) (by omega) (by omega),wrL (x:=v.c-z) (by omega) (by omega)]
  by_cases k1:x-v.a≤1048576<;>by_cases k2:v.a-x≤1048576<;>by_cases k3:y-v.b≤1048576<;>by_cases k4:v.b-y≤1048576<;>by_cases k5:z-v.c≤1048576<;>by_cases k6:v.c-z≤1048576<;>simp [k1,k2,k3,k4,k5,k6]<;>omega
abbrev rL (v:S11) (x y z:Int):((Int × Int × Int) × (Int × Int × Int) × Int) × Bool × Int:=leR v.a v.b v.c v.x v.y v.z v.m x y z
theorem nm {n b s:Int} (h0:0≤n) (h1:n<32) (hb:Gt b) : -(n*1048576)≤n*b∧n*b≤n*1048576:=by
  unfold Gt at hb
  have e1:=Int.mul_le_mul_of_nonneg_left hb.2 h0
  have e2:=Int.mul_le_mul_of_nonneg_left hb.1 h0
  rw [Int.mul_neg] at e2
  exact ⟨e2,e1⟩
theorem I11.good {N:Nat} {v:S11} (h:I11 N v):goodLe v.a v.b v.c v.x v.y v.z v.m=true∧gV v.a v.b v.c=true∧((-2251799813685247≤v.x∧v.x≤2251799813685247)∧(-2251799813685247≤v.y∧v.y≤2251799813685247)∧(-2251799813685247≤v.z∧v.z≤2251799813685247)):=by
  obtain ⟨_,hn,hm,⟨h1,h2,h3⟩,hz,hx,hy,hzz⟩:=h
  unfold Gt at h1 h2 h3
  have hs:(-2251799813685247≤v.x∧v.x≤2251799813685247)∧(-2251799813685247≤v.y∧v.y≤2251799813685247)∧(-2251799813685247≤v.z∧v.z≤2251799813685247):=by
    refine ⟨?_,by omega,by omega⟩
    by_cases h0:0<v.n
    · obtain ⟨q1,q2,q3,q4⟩:=hx h0
      have m1:=nm (s:=0) hn.1 hn.2 q1
      have m2:=nm (s:=0) hn.1 hn.2 q2
      omega
    · have:=(hz (by omega)).1;omega
  have g:gV v.a v.b v.c=true:=gV_iff.2 ⟨by rw [wd_iff];omega,by rw [wd_iff];omega,by rw [wd_iff];omega⟩
  exact ⟨goodLe_mk g (by omega) (by omega) hs (fun h0=>hz (by omega)),g,hs⟩
theorem far_step {N:Nat} {v:S11} (h:I11 N v) {x y z:Int} (hx : -2199023255552≤x∧x≤2199023255552) (hy : -2199023255552≤y∧y≤2199023255552) (hz : -2199023255552≤z∧z≤2199023255552) (hf:near11 v x y z=false):rL v x y z=(((v.a,v.b,v.c),(0,0,0),0),false,0):=by
  obtain ⟨g1,g2,g3⟩:=h.good
  exact far_on g1 (gV_iff.2 ⟨by rw [wd_iff];omega,by rw [wd_iff];omega,by rw [wd_iff];omega⟩) g2 (fun hk=>by rw [(near_iff h hx hy hz).2 hk] at hf;cases hf)
theorem mean_bd {s n lo hi:Int} (h0:0<n) (h1:n*lo≤s) (h2:s≤n*hi):lo≤roundI s n∧roundI s n≤hi:=by
  rw [ri_p h0];exact ⟨le_rp h0 h1,rp_le h0 h2⟩
theorem near_z {N:Nat} {v:S11} (h:I11 N v) {far:Bool} {x y r:Int} (hx:Gt x) (hy:Gt y) (hn:near11 v x y (zR far r)=true):far=false:=by
  cases far with
  | false=>rfl
  | true =>
    unfold Gt at hx hy
    have:=(near_iff h (by omega) (by omega) (show -2199023255552≤(1099511627776:Int)∧(1099511627776:Int)≤2199023255552 by decide)).1 hn
    have h3:=h.2.2.2.1.2.2
    unfold Gt at h3
    omega
abbrev loR (v:S11) (x:Int):Int:=bif v.n == 0 then x else v.lo
abbrev hiR (v:S11) (x:Int):Int:=bif v.n == 0 then x else v.hi
abbrev mnR (l x:Int):Int:=if x<l then x else l
abbrev mxR (l x:Int):Int:=if x>l then x else l
theorem lohi {N:Nat} {v:S11} (h:I11 N v) {x:Int} (hx:Gt x) {lo hi:Int} (hlo:lo=mnR (loR v x) x) (hhi:hi=mxR (hiR v x) x):Gt lo∧Gt hi∧(v.n+1)*lo≤v.x+x∧v.x+x≤(v.n+1)*hi:=by
  obtain ⟨_,hn,hm,_,hz,hxx,_⟩:=h
  subst hlo hhi
  unfold loR hiR mnR mxR
  unfold Gt at hx ⊢
  by_cases h0:v.n=0
  · rw [show (v.n == 0)=true by simpa using h0,(hz h0).1,h0]
    simp only [cond_true,Int.lt_irrefl,gt_iff_lt,if_false]
    omega
  · rw [show (v.n == 0)=false by simpa using h0]
    obtain ⟨q1,q2,q3,q4⟩:=hxx (by omega)
    unfold Gt at q1 q2
    simp only [cond_false]
    have e1:(v.n+1)*(if x<v.lo then x else v.lo)≤v.x+x:=by
      rw [Int.add_mul,Int.one_mul]
      split
      · rename_i hlt
        have:=Int.mul_le_mul_of_nonneg_left (show x≤v.lo by omega) hn.1
        omega
      · omega
    have e2:v.x+x≤(v.n+1)*(if x>v.hi then x else v.hi):=by
      rw [Int.add_mul,Int.one_mul]
      split
      · rename_i hlt
        have:=Int.mul_le_mul_of_nonneg_left (show v.hi≤x by omega) hn.1
        omega
      · omega
    refine ⟨by split<;>omega,by split<;>omega,e1,e2⟩
theorem near_step {N:Nat} {v:S11} (h:I11 N v) {x y z:Int} (hx:Gt x) (hy:Gt y) (hz:Gt z) (hf:near11 v x y z=true) :
    (v.n+1<32∧rL v x y z=(((v.a,v.b,v.c),(v.x+x,v.y+y,v.z+z),v.n+1),false,0)) ∨
    (v.n+1=32∧rL v x y z=(((roundI (v.x+x) 32,roundI (v.y+y) 32,roundI (v.z+z) 32),(0,0,0),0),true,0)∧Gt (roundI (v.x+x) 32)∧Gt (roundI (v.y+y) 32)∧Gt (roundI (v.z+z) 32)):=by
  obtain ⟨g1,g2,g3⟩:=h.good
  have hd:=(near_iff h (by unfold Gt at hx;omega) (by unfold Gt at hy;omega) (by unfold Gt at hz;omega)).1 hf
  have hh:=h
  obtain ⟨_,hn,hm,_,_,_,hyy,hzz⟩:=h
  have N0:NearL v.a v.b v.c v.x v.y v.z v.m x y z:=⟨g1,gV_iff.2 ⟨by rw [wd_iff];unfold Gt at hx;omega,by rw [wd_iff];unfold Gt at hy;omega,by rw [wd_iff];unfold Gt at hz;omega⟩,hd,g3,by omega,by omega,g2⟩
  have e:=N0.on
  rw [hm] at e
  by_cases h32:v.n+1=32
  · right
    rw [if_pos h32] at e
    obtain ⟨q1,q2,q3,q4⟩:=lohi hh hx rfl rfl
    rw [h32] at q3 q4
    unfold Gt at *
    have m1:=mean_bd (by decide) (lo := -1048576) (hi:=1048576) (s:=v.x+x) (n:=32) (by omega) (by omega)
    have m2:=mean_bd (by decide) (lo := -1048576) (hi:=1048576) (s:=v.y+y) (n:=32) (by omega) (by omega)
    have m3:=mean_bd (by decide) (lo := -1048576) (hi:=1048576) (s:=v.z+z) (n:=32) (by omega) (by omega)
    have ev:vT (roundI (v.x+x) 32) (roundI (v.y+y) 32) (roundI (v.z+z) 32)=(roundI (v.x+x) 32,roundI (v.y+y) 32,roundI (v.z+z) 32,0):=by
      have w1:wd (roundI (v.x+x) 32)=true:=by rw [wd_iff];omega
      have w2:wd (roundI (v.y+y) 32)=true:=by rw [wd_iff];omega
      have w3:wd (roundI (v.z+z) 32)=true:=by rw [wd_iff];omega
      unfold vT;rw [if_pos (by simp [w1,w2,w3])]
    rw [ev,if_pos rfl] at e
    refine ⟨h32,?_,m1,m2,m3⟩
    show leR v.a v.b v.c v.x v.y v.z v.m x y z=_
    rw [hm];exact e
  · left
    rw [if_neg h32] at e
    refine ⟨by omega,?_⟩
    show leR v.a v.b v.c v.x v.y v.z v.m x y z=_
    rw [hm];exact e
theorem zG {far:Bool} {r:Int} (h:far=false):Gt (zR far r):=by subst h;exact bGb r
theorem zB (far:Bool) (r:Int) : -2199023255552≤zR far r∧zR far r≤2199023255552:=by
  cases far with
  | true=>show -2199023255552≤(1099511627776:Int)∧(1099511627776:Int)≤2199023255552;decide
  | false=>have:=bGb r;unfold Gt at this;show -2199023255552≤bG r∧bG r≤2199023255552;omega
abbrev C11 (i:Int) (N:Nat):Bool:=bif decide (i<(N:Int)) then decide (i<240) else false
theorem i11 {N:Nat} {v:S11} (h:I11 N v) (hC:C11 v.i N=true):(0≤IntKind.i64.wrap (v.i+1)∧IntKind.i64.wrap (v.i+1)≤(N:Int))∧((N:Int)-IntKind.i64.wrap (v.i+1)).toNat<((N:Int)-v.i).toNat:=by
  have h1:=hC1 hC
  have h0:=h.1
  rw [wrap1 h0.1 (by omega)]
  omega
theorem nbt {b:Bool} (h:(!b)=true):b=false:=by cases b with|true=>cases h|false=>rfl
theorem z32:(0:Int)≤0∧(0:Int)<32:=by decide
theorem z00:¬ (0:Int)<0:=by decide
theorem zm0 : -((0:Int)*1048576)≤0∧(0:Int)≤0*1048576:=by decide
theorem I11_0 (N:Nat):I11 N ⟨0,0,0,0,0,0,0,0,0,0,0⟩:=by
  refine ⟨⟨Int.le_refl _,Int.natCast_nonneg _⟩,by decide,rfl,⟨by decide,by decide,by decide⟩,fun _=>⟨rfl,rfl,rfl⟩,fun h=>absurd h (by decide),by decide,by decide⟩
section
variable {N:Nat} {v:S11} {p q r:Int} {far:Bool}
theorem gx (h:I11 N v) : -2199023255552≤xR v p∧xR v p≤2199023255552:=by have:=xR_bd h p;unfold Gt at this;omega
theorem gy : -2199023255552≤bG q∧bG q≤2199023255552:=by have:=bGb q;unfold Gt at this;omega
theorem er_chk (h:I11 N v):((rL v (xR v p) (bG q) (zR far r)).2.2 != 0)=false:=by
  cases hn:near11 v (xR v p) (bG q) (zR far r) with
  | false=>rw [far_step h (gx h) gy (zB far r) hn];rfl
  | true =>
    have hf:=near_z h (xR_bd h p) (bGb q) hn
    rcases near_step h (xR_bd h p) (bGb q) (zG hf) hn with ⟨_,e⟩|⟨_,e,_⟩<;>rw [e]<;>rfl
abbrev chF (t:((Int × Int × Int) × (Int × Int × Int) × Int) × Bool × Int) (a b c:Int):Bool:=bif bif t.2.1 then true else t.1.2.2 != 0 then true else !eqL (cells3 t.1.1.1 t.1.1.2.1 t.1.1.2.2) (cells3 a b c)
theorem fr_chk (h:I11 N v) (hn:(!near11 v (xR v p) (bG q) (zR far r))=true):chF (rL v (xR v p) (bG q) (zR far r)) v.a v.b v.c=false:=by
  rw [far_step h (gx h) gy (zB far r) (nbt hn)];simp [eqL,eqV]
abbrev nxt (v:S11) (n lo hi:Int) (t:((Int × Int × Int) × (Int × Int × Int) × Int) × Bool × Int):S11:=⟨IntKind.i64.wrap (v.i+1),n,lo,hi,t.1.1.1,t.1.1.2.1,t.1.1.2.2,t.1.2.1.1,t.1.2.1.2.1,t.1.2.1.2.2,t.1.2.2⟩
theorem fr_step (h:I11 N v) (hC:C11 v.i N=true) (hn:(!near11 v (xR v p) (bG q) (zR far r))=true):I11 N (nxt v 0 v.lo v.hi (rL v (xR v p) (bG q) (zR far r))):=by
  have e:=far_step h (gx h) gy (zB far r) (nbt hn)
  unfold nxt
  rw [e]
  obtain ⟨_,_,_,hb,_⟩:=id h
  exact ⟨(i11 h hC).1,z32,rfl,hb,fun _=>⟨rfl,rfl,rfl⟩,fun h=>absurd h z00,zm0,zm0⟩
abbrev chR (t:((Int × Int × Int) × (Int × Int × Int) × Int) × Bool × Int) (n lo hi a b c:Int):Bool:=bif bif !(t.2.1 == (n == 32)) then true else (bif t.2.1 then (bif bif decide (t.1.1.1<lo) then true else decide (t.1.1.1>hi) then true else t.1.2.2 != 0) else false) then true else (bif !t.2.1 then (bif t.1.2.2 != n then true else !eqL (cells3 t.1.1.1 t.1.1.2.1 t.1.1.2.2) (cells3 a b c)) else false)
theorem n1w (h:I11 N v):IntKind.i64.wrap (v.n+1)=v.n+1:=by have:=h.2.1;exact wrL (by omega) (by omega)
theorem nr_chk (h:I11 N v) (hn:(!near11 v (xR v p) (bG q) (zR far r))=false) {lo hi:Int} (hlo:lo=mnR (loR v (xR v p)) (xR v p)) (hhi:hi=mxR (hiR v (xR v p)) (xR v p)):chR (rL v (xR v p) (bG q) (zR far r)) (IntKind.i64.wrap (v.n+1)) lo hi v.a v.b v.c=false:=by
  have hn:=nbf hn
  have hf:=near_z h (xR_bd h p) (bGb q) hn
  rw [n1w h]
  rcases near_step h (xR_bd h p) (bGb q) (zG hf) hn with ⟨h1,e⟩|⟨h1,e,_⟩
  · rw [e];unfold chR
    rw [show (v.n+1 == 32)=false by simp;omega]
    simp [eqL,eqV]
  · rw [e];unfold chR
    obtain ⟨_,_,q3,q4⟩:=lohi h (xR_bd h p) hlo hhi
    rw [h1] at q3 q4
    have m:=mean_bd (n:=32) (by decide) q3 q4
    rw [h1,decide_eq_false (show ¬ (roundI (v.x+xR v p) 32<lo) by omega),decide_eq_false (show ¬ (roundI (v.x+xR v p) 32>hi) by omega)]
    rfl
theorem nr_stepA (h:I11 N v) (hC:C11 v.i N=true) (hn:(!near11 v (xR v p) (bG q) (zR far r))=false) (ht:(rL v (xR v p) (bG q) (zR far r)).2.1=true) (lo hi:Int):I11 N (nxt v 0 lo hi (rL v (xR v p) (bG q) (zR far r))):=by
  have hn:=nbf hn
  have hf:=near_z h (xR_bd h p) (bGb q) hn
  rcases near_step h (xR_bd h p) (bGb q) (zG hf) hn with ⟨h1,e⟩|⟨h1,e,g1,g2,g3⟩
  · rw [e] at ht;cases ht
  · unfold nxt;rw [e]
    exact ⟨(i11 h hC).1,z32,rfl,⟨g1,g2,g3⟩,fun _=>⟨rfl,rfl,rfl⟩,fun h=>absurd h z00,zm0,zm0⟩
theorem nr_stepB (h:I11 N v) (hC:C11 v.i N=true) (hn:(!near11 v (xR v p) (bG q) (zR far r))=false) (ht:(rL v (xR v p) (bG q) (zR far r)).2.1=false) {lo hi:Int} (hlo:lo=mnR (loR v (xR v p)) (xR v p)) (hhi:hi=mxR (hiR v (xR v p)) (xR v p)):I11 N (nxt v (IntKind.i64.wrap (v.n+1)) lo hi (rL v (xR v p) (bG q) (zR far r))):=by
  have hn:=nbf hn
  have hf:=near_z h (xR_bd h p) (bGb q) hn
  have hw:=n1w h
  obtain ⟨q1,q2,q3,q4⟩:=lohi h (xR_bd h p) hlo hhi
  rcases near_step h (xR_bd h p) (bGb q) (zG hf) hn with ⟨h1,e⟩|⟨h1,e,_⟩
  · unfold nxt;rw [e,hw]
    have hy:=bGb q
    have hz:=zG (r:=r) hf
    unfold Gt at hy hz
    obtain ⟨_,hn0,_,hb,_,_,hyy,hzz⟩:=id h
    exact ⟨(i11 h hC).1,⟨by dsimp only;omega,by dsimp only;omega⟩,rfl,hb,fun h0=>by dsimp only at h0;omega,fun _=>⟨q1,q2,q3,q4⟩,by dsimp only;omega,by dsimp only;omega⟩
  · rw [e] at ht;cases ht
theorem lo_t (x:Int) (h:(v.n == 0)=true):mnR x x=mnR (loR v x) x:=by unfold loR;rw [h];rfl
theorem lo_f (x:Int) (h:(v.n == 0)=false):mnR v.lo x=mnR (loR v x) x:=by unfold loR;rw [h];rfl
theorem hi_t (x:Int) (h:(v.n == 0)=true):mxR x x=mxR (hiR v x) x:=by unfold hiR;rw [h];rfl
theorem hi_f (x:Int) (h:(v.n == 0)=false):mxR v.hi x=mxR (hiR v x) x:=by unfold hiR;rw [h];rfl
end
section
set_option maxRecDepth 100000
set_option maxHeartbeats 8000000
abbrev row_learnRests (p q r:Nat→Int):Nat→List A0:=fun j=>[.v (.int .i64 (p j)),.v (.int .i64 (q j)),.v (.int .i64 (r j))]
def st_learnRests (n:Nat) (p q r:Nat→Int):LI S11 where
  gs:=fun v=>[(0,.rowF n 3 (row_learnRests p q r)),(2,tB false),(3,.ptr 3 0),(4,tN .i64 v.n),(5,tN .i64 v.lo),(6,tN .i64 v.hi),(7,tN .i64 v.i)]
  bs:=fun v=>[(3,56,[.v (.int .i64 v.a),.v (.int .i64 v.b),.v (.int .i64 v.c),.v (.int .i64 v.x),.v (.int .i64 v.y),.v (.int .i64 v.z),.v (.int .i64 v.m)])]
  I:=fun v=>I11 n v
  μ:=fun v=>((n:Int)-v.i).toNat
theorem learnRests_law (n:Nat) (p q r:Nat→Int) {us:List Value} {w:World} (hargs:All2 (TV.reads (fun _=>0) w.heap.size w) [.rowF n 3 (row_learnRests p q r)] us):Ret Try.prog 9 us.toArray w (.tv (tB true)):=by
  refine fnl_ret (st_learnRests n p q r) (cxOk Try.prog ints_ok [eqLearn,eqVec] [cWakes11,cLearn,cNum11,cL0Vec,cWithin]) follows Try.func9 rfl 300 _ rfl (by simp) ?_ hargs
  repeat' first
    | exact trivial
    | (refine And.intro (show regChk _ _ _ _ _=true from by kernel_rfl) (And.intro ?_ ?_))
    | (refine And.intro (fun _=>?_) (fun h=>absurd (show true=false from h) (by decide)))
    | (refine And.intro (fun h=>absurd (show false=true from h) (by decide)) (fun _=>?_))
    | (have:=hC;refine And.intro (fun hb=>?_) (fun hb'=>?_))
    | (have:=hv;refine And.intro (fun hC=>?_) (fun hC=>?_))
    | refine And.intro ?_ ?_
    | (intro v hv)
    | intro _
  all_goals first
    | (show wfB _ _=true;rfl)
    | (show (_:Bool)=true;first|assumption|exact beq_iff_eq.2 (by assumption)|(exact and_tt (by first|assumption|exact beq_iff_eq.2 (by assumption)) (by first|assumption|exact beq_iff_eq.2 (by assumption))))
    | (show some (CR.tv (tB true))=some (CR.tv (tB true));rfl)
    | (show False;exact absurd (show (2:Int)=0 from by assumption) (by decide))
    | (show (0:Int)≤v.i;exact hv.1.1)
    | (show v.i<(n:Int);exact (hC1 hC).1)
    | (show (_:Int)≠_;decide)
    | (show (_:Int)≤_;decide)
    | (show (_:Int)<_;decide)
    | (exact ⟨_,I11_0 n,⟨rfl,rfl,rfl,rfl,rfl,rfl,rfl,trivial⟩,⟨rfl,⟨rfl,rfl,rfl,rfl,rfl,rfl,rfl,trivial⟩,trivial⟩⟩)
    | (refine ⟨_,?_,fr_step (far:=true) (p:=p v.i.toNat) (q:=q v.i.toNat) (r:=r v.i.toNat) hv hC (by assumption),⟨rfl,rfl,rfl,rfl,rfl,rfl,rfl,trivial⟩,⟨rfl,⟨rfl,rfl,rfl,rfl,rfl,rfl,rfl,trivial⟩,trivial⟩⟩;exact (i11 hv hC).2)
    | (refine ⟨_,?_,fr_step (far:=false) (p:=p v.i.toNat) (q:=q v.i.toNat) (r:=r v.i.toNat) hv hC (by assumption),⟨rfl,rfl,rfl,rfl,rfl,rfl,rfl,trivial⟩,⟨rfl,⟨rfl,rfl,rfl,rfl,rfl,rfl,rfl,trivial⟩,trivial⟩⟩;exact (i11 hv hC).2)
    | (refine ⟨_,?_,nr_stepA (far:=true) (p:=p v.i.toNat) (q:=q v.i.toNat) (r:=r v.i.toNat) hv hC (by assumption) (by assumption) _ _,⟨rfl,rfl,rfl,rfl,rfl,rfl,rfl,trivial⟩,⟨rfl,⟨rfl,rfl,rfl,rfl,rfl,rfl,rfl,trivial⟩,trivial⟩⟩;exact (i11 hv hC).2)
    | (refine ⟨_,?_,nr_stepA (far:=false) (p:=p v.i.toNat) (q:=q v.i.toNat) (r:=r v.i.toNat) hv hC (by assumption) (by assumption) _ _,⟨rfl,rfl,rfl,rfl,rfl,rfl,rfl,trivial⟩,⟨rfl,⟨rfl,rfl,rfl,rfl,rfl,rfl,rfl,trivial⟩,trivial⟩⟩;exact (i11 hv hC).2)
    | (refine ⟨_,?_,nr_stepB (far:=true) (p:=p v.i.toNat) (q:=q v.i.toNat) (r:=r v.i.toNat) hv hC (by assumption) (by assumption) (lo_t _ (by assumption)) (hi_t _ (by assumption)),⟨rfl,rfl,rfl,rfl,rfl,rfl,rfl,trivial⟩,⟨rfl,⟨rfl,rfl,rfl,rfl,rfl,rfl,rfl,trivial⟩,trivial⟩⟩;exact (i11 hv hC).2)
    | (refine ⟨_,?_,nr_stepB (far:=true) (p:=p v.i.toNat) (q:=q v.i.toNat) (r:=r v.i.toNat) hv hC (by assumption) (by assumption) (lo_f _ (by assumption)) (hi_f _ (by assumption)),⟨rfl,rfl,rfl,rfl,rfl,rfl,rfl,trivial⟩,⟨rfl,⟨rfl,rfl,rfl,rfl,rfl,rfl,rfl,trivial⟩,trivial⟩⟩;exact (i11 hv hC).2)
    | (refine ⟨_,?_,nr_stepB (far:=false) (p:=p v.i.toNat) (q:=q v.i.toNat) (r:=r v.i.toNat) hv hC (by assumption) (by assumption) (lo_t _ (by assumption)) (hi_t _ (by assumption)),⟨rfl,rfl,rfl,rfl,rfl,rfl,rfl,trivial⟩,⟨rfl,⟨rfl,rfl,rfl,rfl,rfl,rfl,rfl,trivial⟩,trivial⟩⟩;exact (i11 hv hC).2)
    | (refine ⟨_,?_,nr_stepB (far:=false) (p:=p v.i.toNat) (q:=q v.i.toNat) (r:=r v.i.toNat) hv hC (by assumption) (by assumption) (lo_f _ (by assumption)) (hi_f _ (by assumption)),⟨rfl,rfl,rfl,rfl,rfl,rfl,rfl,trivial⟩,⟨rfl,⟨rfl,rfl,rfl,rfl,rfl,rfl,rfl,trivial⟩,trivial⟩⟩;exact (i11 hv hC).2)
    | (show some (CR.tv (tB false))=some (CR.tv (tB true));exfalso;first|exact no (er_chk (far:=true) (p:=p v.i.toNat) (q:=q v.i.toNat) (r:=r v.i.toNat) hv) (by assumption)|exact no (er_chk (far:=false) (p:=p v.i.toNat) (q:=q v.i.toNat) (r:=r v.i.toNat) hv) (by assumption)|exact no (fr_chk (far:=true) (p:=p v.i.toNat) (q:=q v.i.toNat) (r:=r v.i.toNat) hv (by assumption)) (by assumption)|exact no (fr_chk (far:=false) (p:=p v.i.toNat) (q:=q v.i.toNat) (r:=r v.i.toNat) hv (by assumption)) (by assumption)|exact no (nr_chk (far:=true) (p:=p v.i.toNat) (q:=q v.i.toNat) (r:=r v.i.toNat) hv (by assumption) (lo_t _ (by assumption)) (hi_t _ (by assumption))) (by assumption)|exact no (nr_chk (far:=true) (p:=p v.i.toNat) (q:=q v.i.toNat) (r:=r v.i.toNat) hv (by assumption) (lo_f _ (by assumption)) (hi_f _ (by assumption))) (by assumption)|exact no (nr_chk (far:=false) (p:=p v.i.toNat) (q:=q v.i.toNat) (r:=r v.i.toNat) hv (by assumption) (lo_t _ (by assumption)) (hi_t _ (by assumption))) (by assumption)|exact no (nr_chk (far:=false) (p:=p v.i.toNat) (q:=q v.i.toNat) (r:=r v.i.toNat) hv (by assumption) (lo_f _ (by assumption)) (hi_f _ (by assumption))) (by assumption))
    -- PVC
abbrev ks_learnRests:List (Option IntKind):=[some .i64,some .i64,some .i64]
theorem learnRests_row (n:Nat) (f:Nat→List Value) (hf:∀ j,okV ks_learnRests (f j)) {us:List Value} {w:World} (hargs:All2 (TV.reads (fun _=>0) w.heap.size w) [.rowF n 3 (fun j=>cellsG f j 0 ks_learnRests)] us):Ret Try.prog 9 us.toArray w (.tv (tB true)) :=
  learnRests_law n (gI f 0) (gI f 1) (gI f 2) hargs
end
end Go.Proofs.Ytglgmepolanfpaa.Wh
end
section
namespace Go.Proofs.Ytglgmepolanfpaa.learnRests
open Go.ChangeShapes Go.WideShapes Go.ChangeAt Go.RowKit Go.Proofs.YtglgmepolanfpaaW.PrintWords Go.Proofs.YtglgmepolanfpaaW.Sx Go.Proofs.Ytglgmepolanfpaa.Wh
set_option linter.unusedVariables false
theorem own:ownKnob Try.prog.godebug=none:=by kernel_rfl
theorem laidOut:laidOutB Try.prog=true:=by kernel_rfl
theorem cells:lvs Try.prog true 30 24=some [some .i64,some .i64,some .i64]:=by kernel_rfl
set_option maxRecDepth 100000 in
theorem lifted (os:Os) (started:os.Started) (H:Type) (enc:TypeId × Value→H) :
    ReturnsInHanded {} Try.checked os 9 .any (Rows.learnRestsSpec.pre6 enc Try.prog Try.f9 Rows.learnRestsRow.domain false) (Rows.learnRestsSpec.post enc Try.prog Try.f9 false true false false):=by
  refine returnsInHanded_of_change_sized (C:=Try.checked) own started (by kernel_rfl) Try.func9
    (ChangeSpec.witness6 (enc:=enc) (C:=Try.checked) false ⟨#[],#[.slice none 0 0],[]⟩ 8 (by kernel_rfl) (by kernel_rfl) (by kernel_rfl) (by kernel_rfl)) ?_
  intro W base args ds gs before hval0 hW hcnd hsz0 _
  have hval:∀ (j:Nat) t v,Try.f9.params[j]?=some t→args[j]?=some v→Value.okWide Try.prog W .any base t v:=hval0
  have hW':=hW
  obtain ⟨p,q,hA0,hV,rfl,hfz,hnd⟩:=hW
  have hA:DataW.TrodAll enc Try.prog W 0 (fun _=>true) true Try.f9.params.toList args.toList ds p:=hA0
  rw [Try.params9] at hA hval
  obtain ⟨v0,vs0,d0,ds0,p0,q0,hargs,rfl,rfl,h0,r0⟩:=trodAll_cons hA
  obtain ⟨rfl,rfl,rfl⟩:=trodAll_nil r0
  obtain rfl:args=#[v0]:=by cases args;simp_all
  obtain ⟨rfl,rfl⟩:=trodVars_none hV
  have k0:=h0
  have lt0:∀ x∈p0,x.block<W.heap.size:=by obtain ⟨m,hm⟩:=k0;exact DataW.trod_lt m _ _ _ hm
  have hv0:=hval 0 54 v0 rfl rfl
  obtain ⟨a0,len0,cap0,rfl⟩:=okWide_slice Try.underlying54 hv0
  obtain ⟨f,hf,hr⟩:=row_of Try.underlying54 cells (by decide) h0
  clear hA0 hval0 hsz0
  refine Calls.mono (learnRests_row len0 f hf (us:=[_]) (.cons (hr _) .nil)) fun e W' hpost=>?_
  obtain ⟨u,rfl,hu,bel⟩:=hpost
  obtain rfl:u = .bool true:=hu
  exact ⟨_,rfl,_,_,_,[],_,[],hW',trodAll_mk1 (shut_bool Try.underlying4 _),(trodAll_cons_mk (Below.trod laidOut (by kernel_rfl) (of_decide_eq_true (by kernel_rfl)) k0 bel lt0) trodAll_mk0),rfl,bel.frame _,fun h=>by cases h⟩
theorem over:Rows.learnRestsRow.holds Try.pinned (OpenSpec.ofChange Rows.learnRestsSpec) :=
  OpenClaim.holds_of_wide 9 Try.f9 rfl rfl rfl rfl rfl rfl rfl ⟨rfl,rfl,rfl,rfl,rfl⟩ rfl rfl rfl rfl rfl (by kernel_rfl) Try.func9 (by kernel_rfl)
    (of_decide_eq_true (by kernel_rfl)) (by unfold Func.isWrapper;first|(rw [if_pos (by decide +kernel)];kernel_rfl)|(rw [if_neg (by decide +kernel)];exact ⟨rfl,rfl⟩))
    (fun os started H enc _=>lifted os started H enc)
theorem proved:Rows.LearnRestsSaid:=over
end Go.Proofs.Ytglgmepolanfpaa.learnRests
namespace Go.Proofs.Ytglgmepolanfpaa
theorem learnRests_holds:Rows.LearnRestsSaid:=learnRests.proved
end Go.Proofs.Ytglgmepolanfpaa
end
