/- Part of a proof: texts of this session, one behind the other, and words that print.sh printed for this seat, of these only those that the proof leans on (wip/tools/pack.py). -/
import Derived.Test.YtonelbidndjhdaaZT220c
import Derived.Laws.StructEq
import Derived.Deep.Slices
import Derived.OpenShut
import Derived.SizedLaws
import Derived.Test.YtonelbidndjhdaaProg
import Derived.Below
import Derived.Deep.Draws
import Derived.Deep.AppendLies
import Derived.Maps.AppendAt
import Derived.OwnWalk
import Derived.Laws.BytesArg
import Derived.Laws.MakeOwn
import Derived.Laws.OwnMore
import Derived.Deep.OwnRows
import Derived.Tactics
import Derived.Lib.ConvBytes
import Derived.Laws.Slices
import Derived.WalkKit
import Derived.KernelRfl
import Derived.RowKit3
import Derived.Deep.LoopGhost
import Derived.Deep.QuietTactic
import Derived.BigQuiet
import Derived.WideLaws
import Derived.Deep.DeepCutAuto
import Derived.Deep.CutBlock
import Derived.Deep.RegionHeld3
import Derived.Laws.Rows
import Derived.Lib.AppendStr
import Derived.ArgAppend
import Derived.Laws.IdiomCopy
import Derived.OrdersHeld
import Derived.Laws.BitsLemmas
import Derived.RowKit
section
set_option linter.unusedVariables false
set_option linter.unusedSimpArgs false
namespace Go.Proofs.YtonelbidndjhdaaW.Sx
open Go RowKit YtonelbidndjhdaaW.PrintWords YtonelbidndjhdaaW.PrintMore YtonelbidndjhdaaW.Aid YtonelbidndjhdaaW.Big
def eqV:Value→Value→Bool
  | .int _ a,.int _ b=>a == b
  | .bool a,.bool b=>a == b
  | _,_=>false
def eqL:List Value→List Value→Bool
  | [],[]=>true
  | [x],[y]=>eqV x y
  | x::xs,y::ys=>eqV x y&&eqL xs ys
  | _,_=>false
def isK:Option IntKind→Value→Bool
  | some k,.int k' _=>decide (k'=k)
  | none,.bool _=>true
  | _,_=>false
def isKs:List (Option IntKind)→List Value→Bool
  | [],[]=>true
  | k::ks,x::xs=>isK k x&&isKs ks xs
  | _,_=>false
def rep {α:Type} (l:List α):Nat→List α
  | 0=>[]
  | n+1=>l++rep l n
mutual
/-- What a struct's cells are,in line (arr: also of arrays). -/
def lvs (P:Program) (arr:Bool):Nat→TypeId→Option (List (Option IntKind))
  | 0,_=>none
  | d + 1, T => match P.underlying T, P.info? T with
    | some (.int k),some inf=>if inf.size=1 then some [some k] else none
    | some .bool,some inf=>if inf.size=1 then some [none] else none
    | some (.struct fs),some inf=>if P.stoodInHeld T then none else match lvsF P arr d fs.toList 0 with
      | some ks=>if inf.size=ks.length then some ks else none
      | none=>none
    | some (.array n e),some inf=>if arr then match lvs P arr d e with
      | some ks=>if inf.size=(rep ks n).length then some (rep ks n) else none
      | none=>none
      else none
    | _,_=>none
def lvsF (P:Program) (arr:Bool):Nat→List Field→Nat→Option (List (Option IntKind))
  | _,[],_=>some []
  | 0,_::_,_=>none
  | d + 1, f :: fs, off => if f.name = "_" ∨ f.offset ≠ off then none else match lvs P arr d f.type with
    | some (k::ks)=>match lvsF P arr d fs (off+(k::ks).length) with
      | some r=>some (k::ks++r)
      | none=>none
    | _=>none
end
theorem lvs_info {P:Program} {arr:Bool} {d:Nat} {T:TypeId} {ks:List (Option IntKind)} (h:lvs P arr d T=some ks):∃ inf,P.info? T=some inf∧inf.size=ks.length:=by
  cases d with
  | zero=>cases h
  | succ d =>
  rw [lvs] at h
  split at h
  · rename_i hi
    split at h
    · rename_i hs;cases h;exact ⟨_,hi,hs⟩
    · cases h
  · rename_i hi
    split at h
    · rename_i hs;cases h;exact ⟨_,hi,hs⟩
    · cases h
  · rename_i hi
    split at h
    · cases h
    · split at h
      · split at h
        · rename_i hs;cases h;exact ⟨_,hi,hs⟩
        · cases h
      · cases h
  · rename_i hi
    split at h
    · split at h
      · split at h
        · rename_i hs;cases h;exact ⟨_,hi,hs⟩
        · cases h
      · cases h
    · cases h
  · cases h
theorem lvs_cells {P:Program} {arr:Bool} {d:Nat} {T:TypeId} {ks:List (Option IntKind)} (h:lvs P arr d T=some ks):P.cellsOf T=ks.length:=by
  obtain ⟨inf,h1,h2⟩:=lvs_info h
  unfold Program.cellsOf
  rw [h1];exact h2
def isAggT (P:Program) (T:TypeId):Bool:=match P.underlying T with
  | some (.struct _)=>true
  | _=>false
theorem isKs_len:∀ {ks:List (Option IntKind)} {xs:List Value},isKs ks xs=true→xs.length=ks.length
  | [],[],_=>rfl
  | _::_,_::_,h=>by simp only [isKs,Bool.and_eq_true] at h;simp [isKs_len h.2]
  | [],_::_,h=>by cases h
  | _::_,[],h=>by cases h
theorem isKs_take:∀ {ks ks':List (Option IntKind)} {xs:List Value},isKs (ks++ks') xs=true→isKs ks (xs.take ks.length)=true∧isKs ks' (xs.drop ks.length)=true
  | [],ks',xs,h=>⟨by cases xs<;>rfl,h⟩
  | k::ks,ks',[],h=>by cases h
  | k::ks,ks',x::xs,h=>by
    simp only [List.cons_append,isKs,Bool.and_eq_true] at h
    have:=isKs_take h.2
    exact ⟨by simp only [List.length_cons,List.take_succ_cons,isKs,h.1,this.1,Bool.and_self],by simpa using this.2⟩
theorem eqL_cons (x y:Value) (xs ys:List Value) (h:xs.length=ys.length):eqL (x::xs) (y::ys)=(eqV x y&&eqL xs ys):=by
  cases xs with
  | nil=>cases ys with
    | nil=>simp [eqL]
    | cons _ _=>simp at h
  | cons _ _=>cases ys with
    | nil=>simp at h
    | cons _ _=>rfl
theorem eqL_append:∀ {xs ys xs' ys':List Value},xs.length=ys.length→xs'.length=ys'.length→eqL (xs++xs') (ys++ys')=(eqL xs ys&&eqL xs' ys')
  | [],[],xs',ys',_,_=>by simp [eqL]
  | x::xs,y::ys,xs',ys',h,h'=>by
    have h2:xs.length=ys.length:=by simpa using h
    rw [List.cons_append,List.cons_append,eqL_cons _ _ _ _ (by simp [h2,h']),eqL_append h2 h',eqL_cons _ _ _ _ h2,Bool.and_assoc]
section
variable {P:Program}
theorem run_isAgg' {T:TypeId} {d:TypeDesc} (hu:P.underlying T=some d) (w:World):(isAgg T).run P w = .ok (descAgg d) w:=by
  simp only [isAgg,Sem.run_bind,run_underlying hu,Result.andThen_ok]
  cases d<;>rfl
def valOf (P:Program) (T:TypeId) (xs:List Value):Option Value:=match P.underlying T with
  | some (.struct _)=>some (.agg xs.toArray)
  | _=>match xs with
    | [x]=>some x
    | _=>none
theorem eqV_run {k:Option IntKind} {T:TypeId} (hT:P.underlying T=some (match k with|some k => .int k|none => .bool)) {x y:Value} (hx:isK k x=true) (hy:isK k y=true) (d:Nat) (w:World):(Op.equalIn (d+1) T x y).run P w = .ok (eqV x y) w:=by
  cases k with
  | some k =>
    cases x<;>simp only [isK] at hx<;>try cases hx
    cases y<;>simp only [isK] at hy<;>try cases hy
    rw [of_decide_eq_true hx,of_decide_eq_true hy]
    exact run_equalIn_int w d T k k _ _ hT
  | none =>
    cases x<;>simp only [isK] at hx<;>try cases hx
    cases y<;>simp only [isK] at hy<;>try cases hy
    exact run_equalIn_bool' w d T _ _ hT
theorem part_run {T:TypeId} {ks:List (Option IntKind)} {xs:List Value} {off:Nat} {d:Nat} (hl:lvs P false d T=some ks) (hn:0<ks.length) (hx:off+ks.length≤xs.length) (w:World):∃ v,valOf P T ((xs.drop off).take ks.length)=some v∧(part T xs.toArray off).run P w = .ok v w:=by
  cases d with
  | zero=>cases hl
  | succ d =>
  rw [lvs] at hl
  split at hl
  · rename_i k inf hu hi
    split at hl
    case isFalse=>cases hl
    cases hl
    obtain ⟨x,hx0⟩:∃ x,xs[off]?=some x:=⟨xs[off]'(by simp at hx;omega),by simp⟩
    refine ⟨x,?_,?_⟩
    · unfold valOf;rw [hu]
      have:(xs.drop off).take 1=[x]:=by rw [List.take_one];rw [List.head?_drop,hx0];rfl
      simp only [List.length_cons,List.length_nil,Nat.zero_add,this]
    · simp only [part,Sem.run_bind,run_isAgg' hu,Result.andThen_ok,descAgg,Bool.false_eq_true,if_false,List.getElem?_toArray,hx0,Sem.run_pure]
  · rename_i inf hu hi
    split at hl
    case isFalse=>cases hl
    cases hl
    obtain ⟨x,hx0⟩:∃ x,xs[off]?=some x:=⟨xs[off]'(by simp at hx;omega),by simp⟩
    refine ⟨x,?_,?_⟩
    · unfold valOf;rw [hu]
      have:(xs.drop off).take 1=[x]:=by rw [List.take_one];rw [List.head?_drop,hx0];rfl
      simp only [List.length_cons,List.length_nil,Nat.zero_add,this]
    · simp only [part,Sem.run_bind,run_isAgg' hu,Result.andThen_ok,descAgg,Bool.false_eq_true,if_false,List.getElem?_toArray,hx0,Sem.run_pure]
  · rename_i fs inf hu hi
    split at hl
    · cases hl
    · split at hl
      · split at hl
        · rename_i hsz
          cases hl
          refine ⟨.agg ((xs.drop off).take ks.length).toArray,?_,?_⟩
          · unfold valOf;rw [hu]
          · simp only [part,Sem.run_bind,run_isAgg' hu,Result.andThen_ok,descAgg,if_true,run_sizeOf' hi,Sem.run_pure,hsz]
            congr 2
            rw [List.extract_toArray,List.extract_eq_take_drop]
            congr 2
            omega
        · cases hl
      · cases hl
  · cases hl
  · cases hl
theorem eq_run:∀ (d:Nat),(∀ (T:TypeId) (ks:List (Option IntKind)) (xs ys:List Value) (x y:Value) (D:Nat) (w:World),lvs P false d T=some ks→0<ks.length→isKs ks xs=true→isKs ks ys=true→valOf P T xs=some x→valOf P T ys=some y→d≤D→(Op.equalIn D T x y).run P w = .ok (eqL xs ys) w) ∧
    (∀ (fs:List Field) (off:Nat) (ks:List (Option IntKind)) (xs ys:List Value) (D:Nat) (w:World),lvsF P false d fs off=some ks→off+ks.length≤xs.length→off+ks.length≤ys.length→isKs ks ((xs.drop off).take ks.length)=true→isKs ks ((ys.drop off).take ks.length)=true→d≤D+1→(Op.eqFields D xs.toArray ys.toArray fs).run P w = .ok (eqL ((xs.drop off).take ks.length) ((ys.drop off).take ks.length)) w):=by
  intro d
  induction d with
  | zero =>
    refine ⟨fun T ks xs ys x y D w h=>(by cases h),fun fs off ks xs ys D w h=>?_⟩
    cases fs with
    | nil=>cases h;intro _ _ _ _ _;simp [Op.eqFields,eqL]
    | cons f fs=>cases h
  | succ d ih =>
    obtain ⟨ih1,ih2⟩:=ih
    constructor
    · intro T ks xs ys x y D w h hn hx hy hvx hvy hD
      obtain ⟨D,rfl⟩:∃ D',D=D'+1:=⟨D-1,by omega⟩
      have hlx:=isKs_len hx
      have hly:=isKs_len hy
      rw [lvs] at h
      split at h
      · rename_i k inf hu hi
        split at h
        case isFalse=>cases h
        cases h
        unfold valOf at hvx hvy
        rw [hu] at hvx hvy
        match xs,hlx with
        | [a],_=>match ys,hly with
          | [b],_ =>
            cases hvx;cases hvy
            simp only [isKs,Bool.and_true] at hx hy
            exact eqV_run (k:=some k) hu hx hy D w
      · rename_i inf hu hi
        split at h
        case isFalse=>cases h
        cases h
        unfold valOf at hvx hvy
        rw [hu] at hvx hvy
        match xs,hlx with
        | [a],_=>match ys,hly with
          | [b],_ =>
            cases hvx;cases hvy
            simp only [isKs,Bool.and_true] at hx hy
            exact eqV_run (k:=none) hu hx hy D w
      · rename_i fs inf hu hi
        unfold valOf at hvx hvy
        rw [hu] at hvx hvy
        cases hvx;cases hvy
        split at h
        · cases h
        · rename_i hst
          split at h
          · rename_i ks' hf
            split at h
            · cases h
              have hfo:P.fieldsOf T=fs:=by unfold Program.fieldsOf;rw [hu]
              rw [run_equalIn_struct w D T _ _ (by rw [hfo];exact hu) (by simpa using hst),hfo]
              have:=ih2 fs.toList 0 ks xs ys D w hf (by omega) (by omega) (by rw [List.drop_zero,← hlx,List.take_length];exact hx) (by rw [List.drop_zero,← hly,List.take_length];exact hy) (by omega)
              rw [this,List.drop_zero,List.drop_zero]
              congr 2
              · rw [← hlx,List.take_length]
              · rw [← hly,List.take_length]
            · cases h
          · cases h
      · cases h
      · cases h
    · intro fs off ks xs ys D w h hxs hys hx hy hD
      cases fs with
      | nil=>cases h;simp [Op.eqFields,eqL]
      | cons f fs =>
        rw [lvsF] at h
        split at h
        · cases h
        · rename_i hc
          have hname : f.name ≠ "_" := fun e => hc (Or.inl e)
          have hoff:f.offset=off:=Decidable.byContradiction fun e=>hc (Or.inr e)
          split at h
          · rename_i k ks1 hl
            split at h
            · rename_i r hr
              cases h
              have e1:(k::(ks1++r)).length=(k::ks1).length+r.length:=by simp;omega
              have hlen:(k::ks1++r).length=(k::ks1).length+r.length:=by simp;omega
              rw [hlen] at hxs hys hx hy
              have sx:(xs.drop off).take ((k::ks1).length+r.length)=(xs.drop off).take (k::ks1).length++(xs.drop (off+(k::ks1).length)).take r.length:=by rw [List.take_add,List.drop_drop]
              have sy:(ys.drop off).take ((k::ks1).length+r.length)=(ys.drop off).take (k::ks1).length++(ys.drop (off+(k::ks1).length)).take r.length:=by rw [List.take_add,List.drop_drop]
              have lx:((xs.drop off).take (k::ks1).length).length=(k::ks1).length:=by rw [List.length_take,List.length_drop];omega
              have ly:((ys.drop off).take (k::ks1).length).length=(k::ks1).length:=by rw [List.length_take,List.length_drop];omega
              have hx2:=isKs_take hx
              have hy2:=isKs_take hy
              rw [sx] at hx2;rw [sy] at hy2
              rw [List.take_left' lx,List.drop_left' lx] at hx2
              rw [List.take_left' ly,List.drop_left' ly] at hy2
              obtain ⟨va,hva,ha⟩:=part_run hl (by simp) (off:=off) (xs:=xs) (by omega) w
              obtain ⟨vb,hvb,hb⟩:=part_run hl (by simp) (off:=off) (xs:=ys) (by omega) w
              have h3:=ih1 f.type (k::ks1) _ _ va vb D w hl (by simp) hx2.1 hy2.1 hva hvb (by omega)
              simp only [Op.eqFields,hname,ne_eq,not_false_eq_true,if_true,Sem.run_bind,hoff,ha,hb,h3,Result.andThen_ok]
              rw [hlen,sx,sy,eqL_append (by rw [lx,ly]) (by rw [List.length_take,List.length_take,List.length_drop,List.length_drop];omega)]
              cases eqL ((xs.drop off).take (k::ks1).length) ((ys.drop off).take (k::ks1).length) with
              | false=>simp
              | true =>
                simp only [Bool.not_true,Bool.false_eq_true,if_false,Bool.true_and]
                exact ih2 fs (off+(k::ks1).length) r xs ys D w hr (by omega) (by omega) hx2.2 hy2.2 (by omega)
            · cases h
          · cases h
end
def valsOf:List A0→Option (List Value)
  | []=>some []
  | .v x::r=>match valsOf r with
    | some l=>some (x::l)
    | none=>none
  | .neg x::r=>match valsOf r with
    | some l=>some (.bool (sgn x)::l)
    | none=>none
  | _::_=>none
theorem valsOf_eq {w:World}:∀ {cs:List A0} {l us:List Value},valsOf cs=some l→All2 (A0.reads w) cs us→us=l
  | [],l,us,h,ha=>by cases h;cases ha;rfl
  | c :: r, l, us, h, ha => by
    cases ha with
    | cons h1 h2 =>
    cases c with
    | v x =>
      simp only [valsOf] at h
      split at h
      · rename_i l' hl;cases h;rw [valsOf_eq hl h2,show _=x from h1]
      · cases h
    | neg x =>
      simp only [valsOf] at h
      split at h
      · rename_i l' hl;cases h;rw [valsOf_eq hl h2,show _=Value.bool (sgn x) from h1]
      · cases h
    | sl k l'=>cases h
    | mag x=>cases h
def eqCells (ks:List (Option IntKind)) (xs ys:List A0):Option Bool:=match valsOf xs,valsOf ys with
  | some a,some b=>match isKs ks a,isKs ks b with
    | true,true=>some (eqL a b)
    | _,_=>none
  | _,_=>none
def eqOk (P:Program) (T:TypeId) (ks:List (Option IntKind)):Bool:=(match lvs P false 20 T with|some l=>decide (l=ks)|none=>false)&&!P.eqGuardType P.depth T&&isAggT P T&&!ks.isEmpty
def eqS (P:Program) (T:TypeId) (ks:List (Option IntKind)) (h:eqOk P T ks=true):EqT P where
  T:=T
  f:=eqCells ks
  ok := by
    intro xs ys z hz us vs w x y hx hy
    unfold eqOk at h
    simp only [Bool.and_eq_true] at h
    obtain ⟨⟨⟨h1,h2⟩,h3⟩,h4⟩:=h
    split at h1
    · rename_i l hl
      have:=of_decide_eq_true h1
      subst this
      unfold eqCells at hz
      split at hz
      · rename_i a b ha hb
        obtain rfl:=valsOf_eq ha hx
        obtain rfl:=valsOf_eq hb hy
        split at hz
        · rename_i k1 k2
          cases hz
          have hg:P.eqGuardType P.depth T=false:=by simpa using h2
          refine ⟨run_eqGuard_agg w .eql T x y _ _ hg,run_eqGuard_agg w .neq T x y _ _ hg,?_⟩
          unfold isAggT at h3
          split at h3
          · rename_i fs hu
            exact (eq_run 20).1 T l us vs _ _ Op.maxDepth w hl (by cases l with|nil=>cases h4|cons _ _=>simp) k1 k2 (by unfold valOf;rw [hu]) (by unfold valOf;rw [hu]) (by decide)
          · cases h3
        · cases hz
      · cases hz
    · cases h1
end Go.Proofs.YtonelbidndjhdaaW.Sx
end
section
set_option linter.unusedVariables false
set_option linter.unusedSimpArgs false
namespace Go.Proofs.Ytonelbidndjhdaa.Wh
open Go RowKit YtonelbidndjhdaaW.PrintWords YtonelbidndjhdaaW.PrintMore YtonelbidndjhdaaW.Aid YtonelbidndjhdaaW.Big YtonelbidndjhdaaW.Sx Ytonelbidndjhdaa.BitsWalk Ytonelbidndjhdaa.Limbs Ytonelbidndjhdaa.Whole Ytonelbidndjhdaa.FxWalk Go.Proofs
abbrev tV4 (p:Int × Int × Int × Int):TV := .tup [(true,[.v (.int .i64 p.1),.v (.int .i64 p.2.1),.v (.int .i64 p.2.2.1)]),(false,[.v (.int .i64 p.2.2.2)])]
theorem v4_eq {x y z e:Int} {p:Int × Int × Int × Int} (h:(x,y,z,e)=p):(some (CR.tv (.tup [(true,[.v (.int .i64 x),.v (.int .i64 y),.v (.int .i64 z)]),(false,[.v (.int .i64 e)])])):Option CR)=some (CR.tv (tV4 p)):=by rw [← h]
def vT (a b c:Int):Int × Int × Int × Int:=if (wd a&&(wd b&&wd c))=true then (a,b,c,0) else (0,0,0,2)
theorem tR_bad {a:Int} (h:((toldR a).2 != 0)=true):wd a=false∧(toldR a).2=2:=by
  unfold toldR at *
  by_cases hw:wd a=true
  · rw [if_pos hw] at h;exact absurd (show ((0:Int) != 0)=true from h) (by decide)
  · rw [if_neg hw];exact ⟨by simpa using hw,rfl⟩
theorem tR_ok {a:Int} (h:((toldR a).2 != 0)=false):wd a=true∧(toldR a).1=a:=by
  unfold toldR at *
  by_cases hw:wd a=true
  · rw [if_pos hw];exact ⟨hw,rfl⟩
  · rw [if_neg hw] at h;exact absurd (show ((2:Int) != 0)=false from h) (by decide)
theorem vT_1 {a b c:Int} (h:((toldR a).2 != 0)=true):((0:Int),(0:Int),(0:Int),(toldR a).2)=vT a b c:=by
  obtain ⟨h1,h2⟩:=tR_bad h
  unfold vT;rw [h2,if_neg (by simp [h1])]
theorem vT_2 {a b c:Int} (h:((toldR b).2 != 0)=true):((0:Int),(0:Int),(0:Int),(toldR b).2)=vT a b c:=by
  obtain ⟨h1,h2⟩:=tR_bad h
  unfold vT;rw [h2,if_neg (by simp [h1])]
theorem vT_3 {a b c:Int} (h:((toldR c).2 != 0)=true):((0:Int),(0:Int),(0:Int),(toldR c).2)=vT a b c:=by
  obtain ⟨h1,h2⟩:=tR_bad h
  unfold vT;rw [h2,if_neg (by simp [h1])]
theorem vT_4 {a b c:Int} (h:((toldR a).2 != 0)=false) (h':((toldR b).2 != 0)=false) (h'':((toldR c).2 != 0)=false):((toldR a).1,(toldR b).1,(toldR c).1,(0:Int))=vT a b c:=by
  obtain ⟨h1,h2⟩:=tR_ok h
  obtain ⟨h3,h4⟩:=tR_ok h'
  obtain ⟨h5,h6⟩:=tR_ok h''
  unfold vT;rw [h2,h4,h6,if_pos (by simp [h1,h3,h5])]
abbrev gV (x y z:Int):Bool:=allw [x,y,z]
theorem gV_iff {x y z:Int}:gV x y z=true↔wd x=true∧wd y=true∧wd z=true:=by simp [gV,allw]
theorem gV_bd {a b c:Int} (h:gV a b c=true):(-35184372088832<a∧a<35184372088832)∧(-35184372088832<b∧b<35184372088832)∧(-35184372088832<c∧c<35184372088832):=by
  obtain ⟨h1,h2,h3⟩:=gV_iff.1 h
  exact ⟨wd_iff.1 h1,wd_iff.1 h2,wd_iff.1 h3⟩
theorem and_tt {a b:Bool} (h:a=true) (h':b=true):(a&&b)=true:=by rw [h,h'];rfl
section
set_option maxRecDepth 100000
set_option maxHeartbeats 4000000
def cVOf:Con Try.prog where
  f:=46
  sem:=fun xs=>match xs with
    | [.agg [.v (.int .i64 x),.v (.int .i64 y),.v (.int .i64 z)]]=>some (True,.new 2 3 1 [.v (.int .i64 x),.v (.int .i64 y),.v (.int .i64 z)])
    | _=>none
  ok := by
    intro xs p r' h hp
    refine ⟨⟨_,Try.func46,by kernel_rfl,rfl⟩,fun us w ha=>?_⟩
    split at h
    · rename_i x y z
      cases h
      refine fn_ret (cxOk Try.prog ints_ok [] []) follows Try.func46 rfl 100 _ rfl (by simp) ?_ ha
      repeat' first
        | exact trivial
        | (refine And.intro (show regChk _ _ _ _ _=true from by kernel_rfl) (And.intro ?_ ?_))
        | (refine And.intro (fun _=>?_) (fun h=>absurd (show true=false from h) (by decide)))
        | (refine And.intro (fun h=>absurd (show false=true from h) (by decide)) (fun _=>?_))
        | (refine And.intro (fun hb=>?_) (fun hb'=>?_))
        | refine And.intro ?_ ?_
      all_goals first
        | (show some (CR.new _ _ _ _)=some (CR.new _ _ _ _);rfl)
        | (show (_:Nat)=(_:Nat);rfl)
        | (show (_:Nat)≤1000;decide)
        | (show (_:Int)=(_:Int);rfl)
        | (show (_:Int)≤_;decide)
        | (show (_:Int)<_;decide)
        -- PVC
    · cases h
def cVGood:Con Try.prog where
  f:=60
  sem:=fun xs=>match xs with
    | [.agg [.v (.int .i64 x),.v (.int .i64 y),.v (.int .i64 z)]]=>some (True,.tv (tB (gV x y z)))
    | _=>none
  ok := by
    intro xs p r' h hp
    refine ⟨⟨_,Try.func60,by kernel_rfl,rfl⟩,fun us w ha=>?_⟩
    split at h
    · rename_i x y z
      cases h
      refine fn_ret (cxOk Try.prog ints_ok [] [cAll]) follows Try.func60 rfl 100 _ rfl (by simp) ?_ ha
      repeat' first
        | exact trivial
        | (refine And.intro (show regChk _ _ _ _ _=true from by kernel_rfl) (And.intro ?_ ?_))
        | (refine And.intro (fun _=>?_) (fun h=>absurd (show true=false from h) (by decide)))
        | (refine And.intro (fun h=>absurd (show false=true from h) (by decide)) (fun _=>?_))
        | (refine And.intro (fun hb=>?_) (fun hb'=>?_))
        | refine And.intro ?_ ?_
      all_goals first
        | (show some (CR.tv (tB _))=some (CR.tv (tB _));exact tB_eq rfl)
        | (show (_:Nat)=(_:Nat);rfl)
        | (show (_:Nat)≤1000;decide)
        | (show (_:Int)=(_:Int);rfl)
        | (show (_:Int)≤_;decide)
        | (show (_:Int)<_;decide)
        -- PVC
    · cases h
def cVTold:Con Try.prog where
  f:=52
  sem:=fun xs=>match xs with
    | [.row 3 [.neg a,.mag a',.neg b,.mag b',.neg c,.mag c']]=>some (a'=a∧b'=b∧c'=c,.tv (tV4 (vT a b c)))
    | _=>none
  ok := by
    intro xs p r' h hp
    refine ⟨⟨_,Try.func52,by kernel_rfl,rfl⟩,fun us w ha=>?_⟩
    split at h
    · rename_i a a' b b' c c'
      cases h
      obtain ⟨rfl,rfl,rfl⟩:=hp
      refine fnu_ret (cxOk Try.prog ints_ok [] [cTold]) follows [0,2,3,4,9,10,11] Try.func52 rfl 100 _ rfl (by simp) ?_ ha
      repeat' first
        | exact trivial
        | (refine And.intro (show regChk _ _ _ _ _=true from by kernel_rfl) (And.intro ?_ ?_))
        | (refine And.intro (fun _=>?_) (fun h=>absurd (show true=false from h) (by decide)))
        | (refine And.intro (fun h=>absurd (show false=true from h) (by decide)) (fun _=>?_))
        | (refine And.intro (fun hb=>?_) (fun hb'=>?_))
        | refine And.intro ?_ ?_
      all_goals first
        | (show some (CR.tv (.tup _))=some (CR.tv (tV4 _));first|exact v4_eq (vT_1 (by assumption))|exact v4_eq (vT_2 (by assumption))|exact v4_eq (vT_3 (by assumption))|exact v4_eq (vT_4 (by assumption) (by assumption) (by assumption)))
        | (show (_:Nat)=(_:Nat);rfl)
        | (show (_:Nat)≤1000;decide)
        | (show (_:Int)=(_:Int);rfl)
        | (show (_:Int)≤_;decide)
        | (show (_:Int)<_;decide)
        -- PVC
    · cases h
end
end Go.Proofs.Ytonelbidndjhdaa.Wh
end
section
set_option linter.unusedVariables false
set_option linter.unusedSimpArgs false
namespace Go.Proofs.Ytonelbidndjhdaa.Wh
open Go RowKit YtonelbidndjhdaaW.PrintWords YtonelbidndjhdaaW.PrintMore YtonelbidndjhdaaW.Aid YtonelbidndjhdaaW.Big YtonelbidndjhdaaW.Sx Ytonelbidndjhdaa.BitsWalk Ytonelbidndjhdaa.Limbs Ytonelbidndjhdaa.Whole Ytonelbidndjhdaa.FxWalk Go.Proofs
theorem len_b4 {x:Int} (h : -1000000000000000000000000000000000000000000000000000000000000000≤x) (h':x≤1000000000000000000000000000000000000000000000000000000000000000):Len0 x:=len_big (k:=4) (by decide) (Nat.lt_of_le_of_lt (show x.natAbs≤1000000000000000000000000000000000000000000000000000000000000000 by omega) (by decide +kernel))
theorem prod_bd {x y:Int} (hx:I64 x) (hy:I64 y) : -85070591730234615865843651857942052864≤x*y∧x*y≤85070591730234615865843651857942052864:=by
  have h1:x.natAbs≤9223372036854775808:=by unfold I64 at hx;omega
  have h2:y.natAbs≤9223372036854775808:=by unfold I64 at hy;omega
  have h3:(x*y).natAbs≤9223372036854775808*9223372036854775808:=by rw [Int.natAbs_mul];exact Nat.mul_le_mul h1 h2
  omega
theorem i64_wd {x:Int} (h:wd x=true):I64 x:=by rw [wd_iff] at h;unfold I64;omega
theorem lm24 {x:Int} (h:I64 x):(lm x).length<24:=by have:=lm_one x (by unfold I64 at h;omega);omega
theorem len_I {x:Int} (h:I64 x):Len0 x:=len_i64 h.1 h.2
def q30 (n:Int):Int:=roundP n 1073741824
theorem q30_eq (n:Int):roundI n (2 ^ Int.toNat 30)=q30 n:=ri_p (by decide)
def dot3 (a b c d e f:Int):Int:=a*d+b*e+c*f
theorem dot3_eq (a b c d e f:Int):0+a*d+b*e+c*f=dot3 a b c d e f:=by unfold dot3;omega
theorem nbf {b:Bool} (h:(!b)=false):b=true:=by cases b with|true=>rfl|false=>cases h
section
set_option maxRecDepth 100000
set_option maxHeartbeats 4000000
def cTimes:Con Try.prog where
  f:=76
  sem:=fun xs=>match xs with
    | [.sc (.v (.int .i64 x)),.sc (.v (.int .i64 y))]=>some (I64 x∧I64 y,.tv (tI (x*y)))
    | _=>none
  ok := by
    intro xs p r' h hp
    refine ⟨⟨_,Try.func76,by kernel_rfl,rfl⟩,fun us w ha=>?_⟩
    split at h
    · rename_i x y
      cases h
      obtain ⟨hx,hy⟩:=hp
      have hx1:=hx.1
      have hx2:=hx.2
      have hy1:=hy.1
      have hy2:=hy.2
      refine fn_ret (cxOk Try.prog ints_ok [] [cMul,cFrom]) follows Try.func76 rfl 100 _ rfl (by simp) ?_ ha
      repeat' first
        | exact trivial
        | (refine And.intro (show regChk _ _ _ _ _=true from by kernel_rfl) (And.intro ?_ ?_))
        | (refine And.intro (fun _=>?_) (fun h=>absurd (show true=false from h) (by decide)))
        | (refine And.intro (fun h=>absurd (show false=true from h) (by decide)) (fun _=>?_))
        | (refine And.intro (fun hb=>?_) (fun hb'=>?_))
        | refine And.intro ?_ ?_
      all_goals first
        | (show Len0 _;exact len_I hx)
        | exact lm24 hy
        | (show (_:Int)≤_;omega)
        | (show (_:Int)<_;omega)
        | exact hx.1
        | exact hx.2
        | exact hy.1
        | exact hy.2
        | (show some (CR.tv (tI _))=some (CR.tv (tI _));rfl)
        | (show (_:Nat)=(_:Nat);rfl)
        | (show (_:Nat)≤1000;decide)
        | (show (_:Int)=(_:Int);rfl)
        | (show (_:Int)≤_;decide)
        | (show (_:Int)<_;decide)
        -- PVC
    · cases h
def cEachT:Con Try.prog where
  f:=75
  sem:=fun xs=>match xs with
    | [.row 3 [.v (.int .i64 a),.v (.int .i64 b),.v (.int .i64 c)],.row 3 [.v (.int .i64 d),.v (.int .i64 e),.v (.int .i64 f)],.clo g []]=>if g=76 then some ((I64 a∧I64 d)∧(I64 b∧I64 e)∧(I64 c∧I64 f),.new 84 3 2 [.neg (a*d),.mag (a*d),.neg (b*e),.mag (b*e),.neg (c*f),.mag (c*f)]) else none
    | _=>none
  ok := by
    intro xs p r' h hp
    refine ⟨⟨_,Try.func75,by kernel_rfl,rfl⟩,fun us w ha=>?_⟩
    split at h
    · rename_i a b c d e f g
      split at h
      case isFalse=>cases h
      rename_i hf
      subst hf
      cases h
      obtain ⟨⟨h1,h2⟩,⟨h3,h4⟩,h5,h6⟩:=hp
      have g11:=h1.1
      have g12:=h1.2
      have g21:=h2.1
      have g22:=h2.2
      have g31:=h3.1
      have g32:=h3.2
      have g41:=h4.1
      have g42:=h4.2
      have g51:=h5.1
      have g52:=h5.2
      have g61:=h6.1
      have g62:=h6.2
      refine fnu_ret (cxOk Try.prog ints_ok [] [cTimes]) follows [0,1,2,6,9,10,11] Try.func75 rfl 100 _ rfl (by simp) ?_ ha
      repeat' first
        | exact trivial
        | (refine And.intro (show regChk _ _ _ _ _=true from by kernel_rfl) (And.intro ?_ ?_))
        | (refine And.intro (fun _=>?_) (fun h=>absurd (show true=false from h) (by decide)))
        | (refine And.intro (fun h=>absurd (show false=true from h) (by decide)) (fun _=>?_))
        | (refine And.intro (fun hb=>?_) (fun hb'=>?_))
        | refine And.intro ?_ ?_
      all_goals first
        | (show (_:Int)≤_;first|omega|decide)
        | (show (_:Int)<_;first|omega|decide)
        | (show some (CR.new _ _ _ _)=some (CR.new _ _ _ _);rfl)
        | exact h1
        | exact h2
        | exact h3
        | exact h4
        | exact h5
        | exact h6
        | (show (_:Nat)=(_:Nat);rfl)
        | (show (_:Nat)≤1000;decide)
        | (show (_:Int)=(_:Int);rfl)
        | (show (_:Int)≤_;decide)
        | (show (_:Int)<_;decide)
        -- PVC
    · cases h
def cSum:Con Try.prog where
  f:=50
  sem:=fun xs=>match xs with
    | [.row 3 [.v (.int .i64 a),.v (.int .i64 b),.v (.int .i64 c)],.row 3 [.v (.int .i64 d),.v (.int .i64 e),.v (.int .i64 f)]]=>some ((I64 a∧I64 d)∧(I64 b∧I64 e)∧(I64 c∧I64 f),.tv (tI (dot3 a b c d e f)))
    | _=>none
  ok := by
    intro xs p r' h hp
    refine ⟨⟨_,Try.func50,by kernel_rfl,rfl⟩,fun us w ha=>?_⟩
    split at h
    · rename_i a b c d e f
      cases h
      obtain ⟨⟨h1,h2⟩,⟨h3,h4⟩,h5,h6⟩:=hp
      have p1:=prod_bd h1 h2
      have p2:=prod_bd h3 h4
      have p3:=prod_bd h5 h6
      have g11:=h1.1
      have g12:=h1.2
      have g21:=h2.1
      have g22:=h2.2
      have g31:=h3.1
      have g32:=h3.2
      have g41:=h4.1
      have g42:=h4.2
      have g51:=h5.1
      have g52:=h5.2
      have g61:=h6.1
      have g62:=h6.2
      refine fnu_ret (cxOk Try.prog ints_ok [] [cEachT,cAdd]) follows [4,9,10,11] Try.func50 rfl 100 _ rfl (by simp) ?_ ha
      repeat' first
        | exact trivial
        | (refine And.intro (show regChk _ _ _ _ _=true from by kernel_rfl) (And.intro ?_ ?_))
        | (refine And.intro (fun _=>?_) (fun h=>absurd (show true=false from h) (by decide)))
        | (refine And.intro (fun h=>absurd (show false=true from h) (by decide)) (fun _=>?_))
        | (refine And.intro (fun hb=>?_) (fun hb'=>?_))
        | refine And.intro ?_ ?_
      all_goals first
        | (show (_:Int)≤_;first|omega|decide)
        | (show (_:Int)<_;first|omega|decide)
        | exact h1
        | exact h2
        | exact h3
        | exact h4
        | exact h5
        | exact h6
        | (show Len0 _;exact len_b4 (by omega) (by omega))
        | (show some (CR.tv (tI _))=some (CR.tv (tI _));exact wh_eq (dot3_eq _ _ _ _ _ _))
        | (show (_:Nat)=(_:Nat);rfl)
        | (show (_:Nat)≤1000;decide)
        | (show (_:Int)=(_:Int);rfl)
        | (show (_:Int)≤_;decide)
        | (show (_:Int)<_;decide)
        -- PVC
    · cases h
end
end Go.Proofs.Ytonelbidndjhdaa.Wh
end
section
set_option linter.unusedVariables false
set_option linter.unusedSimpArgs false
namespace Go.Proofs.YtonelbidndjhdaaW.Sx
open Go RowKit YtonelbidndjhdaaW.PrintWords YtonelbidndjhdaaW.PrintMore YtonelbidndjhdaaW.Aid YtonelbidndjhdaaW.Big
def wfV:Value→Bool
  | .int k n=>(Lit.int k n).wf
  | _=>true
def okV (ks:List (Option IntKind)) (xs:List Value):Prop:=isKs ks xs=true∧∀ x∈xs,wfV x=true
theorem isKs_app:∀ {ks ks':List (Option IntKind)} {xs ys:List Value},isKs ks xs=true→isKs ks' ys=true→isKs (ks++ks') (xs++ys)=true
  | [],ks',[],ys,_,h=>h
  | k::ks,ks',x::xs,ys,h,h'=>by
    simp only [isKs,Bool.and_eq_true] at h
    simp only [List.cons_append,isKs,h.1,isKs_app h.2 h',Bool.and_self]
  | [],_,_::_,_,h,_=>by cases h
  | _::_,_,[],_,h,_=>by cases h
theorem okV_app {ks ks':List (Option IntKind)} {xs ys:List Value} (h:okV ks xs) (h':okV ks' ys):okV (ks++ks') (xs++ys) :=
  ⟨isKs_app h.1 h'.1,fun x hx=>(List.mem_append.1 hx).elim (h.2 x) (h'.2 x)⟩
section
variable {H:Type} {enc:TypeId × Value→H} {P:Program} {w:World} {base:Nat} {spare:Nat→Bool} {held:Bool}
theorem rep_take (ks:List (Option IntKind)):∀ (n:Nat) (xs:List Value),xs.length=(rep ks n).length→(∀ i,i<n→okV ks ((xs.drop (i*ks.length)).take ks.length))→okV (rep ks n) xs
  | 0,xs,hl,_=>by
    cases xs with
    | nil=>exact ⟨rfl,fun _ h=>by cases h⟩
    | cons _ _=>simp [rep] at hl
  | n + 1, xs, hl, h => by
    have h0:=h 0 (by omega)
    rw [Nat.zero_mul,List.drop_zero] at h0
    have hl':xs.length=ks.length+(rep ks n).length:=by rw [hl,rep,List.length_append]
    have ih:=rep_take ks n (xs.drop ks.length) (by rw [List.length_drop];omega) (fun i hi=>by
      have:=h (i+1) (by omega)
      rw [List.drop_drop,show ks.length+i*ks.length=(i+1)*ks.length by rw [Nat.add_mul,Nat.one_mul];omega]
      exact this)
    have:=okV_app h0 ih
    rw [List.take_append_drop] at this
    exact this
theorem flat_trod (arr:Bool):∀ (d:Nat),(∀ (T:TypeId) (ks:List (Option IntKind)) (fuel:Nat) (cs:List Value) (x:DataW H × List MemPlace),lvs P arr d T=some ks→DataW.trod enc P w base spare held fuel T cs=some x→okV ks cs) ∧
    (∀ (fs:List Field) (off:Nat) (ks:List (Option IntKind)) (n:Nat) (cs:List Value) (ys:List (DataW H × List MemPlace)),lvsF P arr d fs off=some ks→cs.length=off+ks.length→ys.length=fs.length →
      (∀ (i:Nat) (f:Field),fs[i]?=some f→DataW.trod enc P w base spare held n f.type ((cs.drop f.offset).take (P.cellsOf f.type))=ys[i]?)→okV ks (cs.drop off)):=by
  intro d
  induction d with
  | zero =>
    refine ⟨fun T ks fuel cs x h=>(by cases h),fun fs off ks n cs ys h hl hy _=>?_⟩
    cases fs with
    | nil =>
      cases h
      rw [List.drop_of_length_le (by simp at hl;omega)]
      exact ⟨rfl,fun _ h=>by cases h⟩
    | cons f fs=>cases h
  | succ d ih =>
    obtain ⟨ih1,ih2⟩:=ih
    constructor
    · intro T ks fuel cs x h hx
      rw [lvs] at h
      split at h
      · rename_i k inf hu hi
        split at h
        case isFalse=>cases h
        cases h
        obtain ⟨n,rfl,_,hw⟩:=DataW.trod_int hu hx
        exact ⟨by simp [isKs,isK],fun y hy=>by rw [List.mem_singleton.1 hy];exact hw⟩
      · rename_i inf hu hi
        split at h
        case isFalse=>cases h
        cases h
        obtain ⟨n,rfl,_⟩:=DataW.trod_bool hu hx
        exact ⟨rfl,fun y hy=>by rw [List.mem_singleton.1 hy];rfl⟩
      · rename_i fs inf hu hi
        split at h
        · cases h
        · split at h
          · rename_i ks' hf
            split at h
            · rename_i hs
              cases h
              obtain ⟨ys,n,_,rfl,hcl,hyl,hg⟩:=DataW.trod_struct hu hx
              have hcl':cs.length=0+ks.length:=by
                rw [hcl];unfold Program.cellsOf;rw [hi];simpa using hs
              have:=ih2 fs.toList 0 ks n cs ys hf hcl' (by simpa using hyl) (fun i f hf=>hg i f (by simpa using hf))
              rwa [List.drop_zero] at this
            · cases h
          · cases h
      · rename_i n e inf hu hi
        split at h
        · split at h
          · rename_i ks' he
            split at h
            · rename_i hs
              cases h
              obtain ⟨ys,m,_,rfl,hcl,hyl,hg⟩:=DataW.trod_array hu hx
              have hce:=lvs_cells he
              rw [hce] at hg
              refine rep_take ks' n cs (by rw [hcl];unfold Program.cellsOf;rw [hi];simpa using hs) (fun i hi=>?_)
              obtain ⟨y,hy⟩:∃ y,ys[i]?=some y:=⟨ys[i],by simp⟩
              exact ih1 e ks' m _ y he (by rw [hg i hi,hy])
            · cases h
          · cases h
        · cases h
      · cases h
    · intro fs off ks n cs ys h hl hy hg
      cases fs with
      | nil =>
        cases h
        rw [List.drop_of_length_le (by simp at hl;omega)]
        exact ⟨rfl,fun _ h=>by cases h⟩
      | cons f fs =>
        rw [lvsF] at h
        split at h
        · cases h
        · rename_i hc
          have hoff:f.offset=off:=Decidable.byContradiction fun e=>hc (Or.inr e)
          split at h
          · rename_i k ks1 hl1
            split at h
            · rename_i r hr
              cases h
              match ys,hy with
              | y::ys,hy =>
                have h1:=hg 0 f rfl
                rw [hoff,lvs_cells hl1] at h1
                have g1:=ih1 f.type _ n _ y hl1 h1
                have g2:=ih2 fs (off+(k::ks1).length) r n cs ys hr (by rw [hl];simp;omega) (by simpa using hy) (fun i f' hf=>hg (i+1) f' (by simpa using hf))
                have:=okV_app g1 g2
                rw [← List.drop_drop,List.take_append_drop] at this
                exact this
            · cases h
          · cases h
def gI (f:Nat→List Value) (i j:Nat):Int:=match (f j)[i]? with
  | some (.int _ n)=>n
  | _=>0
def gB (f:Nat→List Value) (i j:Nat):Bool:=match (f j)[i]? with
  | some (.bool b)=>b
  | _=>false
def cellsG (f:Nat→List Value) (j:Nat):Nat→List (Option IntKind)→List A0
  | _,[]=>[]
  | i,some k::ks => .v (.int k (gI f i j))::cellsG f j (i+1) ks
  | i,none::ks => .v (.bool (gB f i j))::cellsG f j (i+1) ks
theorem cellsG_eq (f:Nat→List Value) (j:Nat):∀ (ks:List (Option IntKind)) (i:Nat),isKs ks ((f j).drop i)=true→cellsG f j i ks=((f j).drop i).map A0.v
  | [],i,h=>by
    cases hx:(f j).drop i with
    | nil=>rfl
    | cons _ _=>rw [hx] at h;cases h
  | k :: ks, i, h => by
    cases hx:(f j).drop i with
    | nil=>rw [hx] at h;cases h
    | cons x xs =>
      have h0:(f j)[i]?=some x:=by rw [← List.head?_drop,hx];rfl
      have h1:(f j).drop (i+1)=xs:=by rw [← List.tail_drop,hx];rfl
      rw [hx] at h
      simp only [isKs,Bool.and_eq_true] at h
      have ih:=cellsG_eq f j ks (i+1) (by rw [h1];exact h.2)
      rw [h1] at ih
      cases k with
      | some k =>
        cases x<;>simp only [isK] at h<;>try (exact absurd h.1 (by decide))
        rename_i k' n
        obtain rfl:=of_decide_eq_true h.1
        simp only [cellsG,gI,h0,List.map_cons,ih]
      | none =>
        cases x<;>simp only [isK] at h<;>try (exact absurd h.1 (by decide))
        simp only [cellsG,gB,h0,List.map_cons,ih]
theorem gI_i64 {f:Nat→List Value} {ks:List (Option IntKind)} {i j:Nat} (h:okV ks (f j)) (hk:ks[i]?=some (some .i64)) : -9223372036854775808≤gI f i j∧gI f i j<9223372036854775808:=by
  have key:∀ (ks:List (Option IntKind)) (xs:List Value) (i:Nat),isKs ks xs=true→ks[i]?=some (some .i64)→∃ n,xs[i]?=some (.int .i64 n):=by
    intro ks
    induction ks with
    | nil=>intro xs i _ h;simp at h
    | cons k ks ih =>
      intro xs i h hk
      cases xs with
      | nil=>cases h
      | cons x xs =>
        simp only [isKs,Bool.and_eq_true] at h
        cases i with
        | zero =>
          simp at hk;subst hk
          cases x<;>simp only [isK] at h<;>try (exact absurd h.1 (by decide))
          rename_i k' n
          rw [of_decide_eq_true h.1];exact ⟨n,rfl⟩
        | succ i=>simpa using ih xs i h.2 (by simpa using hk)
  obtain ⟨n,hn⟩:=key ks (f j) i h.1 hk
  have hw:=h.2 _ (List.mem_of_getElem? hn)
  unfold gI;rw [hn]
  have:=wf_i64 (x:=n) hw
  dsimp only
  omega
def zv:Option IntKind→Value
  | some k => .int k 0
  | none => .bool false
theorem zs_ok:∀ ks:List (Option IntKind),okV ks (ks.map zv)
  | []=>⟨rfl,fun _ h=>by cases h⟩
  | k :: ks => by
    obtain ⟨h1,h2⟩:=zs_ok ks
    refine ⟨?_,fun x hx=>?_⟩
    · simp only [List.map_cons,isKs,h1,Bool.and_true]
      cases k<;>simp [zv,isK]
    · rcases List.mem_cons.1 hx with rfl|hx
      · cases k with
        | none=>rfl
        | some k=>cases k<;>decide
      · exact h2 x hx
theorem rowF_congr {n sz:Nat} {f g:Nat→List A0} {β:Nat→Nat} {base:Nat} {w:World} {u:Value} (h:∀ j,f j=g j) (hr:TV.reads β base w (.rowF n sz f) u):TV.reads β base w (.rowF n sz g) u:=by
  rw [show g=f from funext fun j=>(h j).symm];exact hr
theorem row_of {t e:TypeId} {arr:Bool} {d:Nat} {ks:List (Option IntKind)} (hu:P.underlying t=some (.slice e)) (hl:lvs P arr d e=some ks) (hk:0<ks.length) {A1:Option Addr} {n0 c0:Nat} {x:DataW H} {ps:List MemPlace} (h:DataW.Trod enc P w base spare held t (.slice A1 n0 c0) x ps) :
    ∃ f:Nat→List Value,(∀ j,okV ks (f j))∧∀ β:Nat→Nat,TV.reads β w.heap.size w (.rowF n0 ks.length (fun j=>cellsG f j 0 ks)) (.slice A1 n0 c0):=by
  obtain ⟨fuel,hf⟩:=h
  have hcell:(Value.slice A1 n0 c0).cells.toList=[.slice A1 n0 c0]:=rfl
  rw [hcell] at hf
  rcases Go.Deep.open_slice hu hf with ⟨h1,_⟩|⟨a,len,cap,m,n,D,Pl,h1,hb,hle,hm,hmm,_,hi⟩
  · cases h1
    exact ⟨fun _=>ks.map zv,fun j=>zs_ok ks,fun β=>⟨none,0,rfl,Nat.le_refl _,fun h=>absurd h (by omega)⟩⟩
  · cases h1
    have hlm:n0≤m:=by rw [hmm];split<;>omega
    have hch:∀ j,∃ l:List Value,okV ks l∧(j<n0→∀ i u,l[i]?=some u→w.cell? ((a.add (j*ks.length)).add i)=some u):=by
      intro j
      by_cases hj:j<n0
      · obtain ⟨cs',h2,h3⟩:=hi j (by omega)
        obtain ⟨_,hcl,hat⟩:=World.cells?_some h2
        have ok:=(flat_trod (enc:=enc) (P:=P) (w:=w) (base:=base) (spare:=spare) (held:=held) arr d).1 e ks n cs' _ hl h3
        refine ⟨cs',ok,fun _ i u hu=>?_⟩
        have hil:i<cs'.length:=(List.getElem?_eq_some_iff.1 hu).1
        have h4:=hat i (by omega)
        rw [hu,lvs_cells hl] at h4
        exact h4
      · exact ⟨ks.map zv,zs_ok ks,fun h=>absurd h hj⟩
    obtain ⟨f,hf⟩:=Classical.axiomOfChoice hch
    refine ⟨f,fun j=>(hf j).1,fun β=>?_⟩
    refine rowF_congr (f:=fun j=>(f j).map A0.v) (fun j=>?_) ⟨some a,c0,rfl,hle,fun h0=>⟨a,rfl,?_,fun i hi=>?_⟩⟩
    · have:=cellsG_eq f j ks 0 (by rw [List.drop_zero];exact (hf j).1.1)
      rw [this,List.drop_zero]
    · have h5:=(hf 0).1.1
      have h6:=isKs_len h5
      have h7:=(hf 0).2 h0 0 ((f 0)[0]'(by omega)) (by simp)
      have:=World.block_lt_of_cell? w _ h7
      rw [Nat.zero_mul] at this
      exact this
    · intro q c hq
      rw [List.getElem?_map,Option.map_eq_some_iff] at hq
      obtain ⟨u,hu,rfl⟩:=hq
      exact ⟨u,(hf i).2 hi q u hu,rfl⟩
end
end Go.Proofs.YtonelbidndjhdaaW.Sx
end
section
set_option linter.unusedVariables false
set_option linter.unusedSimpArgs false
namespace Go.Proofs.Ytonelbidndjhdaa.Wh
open Go RowKit YtonelbidndjhdaaW.PrintWords YtonelbidndjhdaaW.PrintMore YtonelbidndjhdaaW.Aid YtonelbidndjhdaaW.Big YtonelbidndjhdaaW.Sx Ytonelbidndjhdaa.BitsWalk Ytonelbidndjhdaa.Limbs Ytonelbidndjhdaa.Whole Ytonelbidndjhdaa.FxWalk Go.Proofs
theorem wd_bif (v:Int):(bif decide (v > -35184372088832) then decide (v<35184372088832) else false)=wd v:=by
  unfold wd
  have e:decide (v > -35184372088832)=decide (-35184372088832<v):=rfl
  rw [e]
  cases decide (-35184372088832<v)<;>rfl
theorem gV_bif (x y z:Int):(bif bif wd x then wd y else false then wd z else false)=gV x y z:=by
  unfold gV
  simp only [allw]
  cases wd x<;>cases wd y<;>cases wd z<;>rfl
theorem no {c:Bool} (h:c=false) (hb:c=true):False:=by rw [h] at hb;exact absurd hb (by decide)
abbrev cells3 (x y z:Int):List Value:=[.int .i64 x,.int .i64 y,.int .i64 z]
def lawL (m n:Nat) (r:Nat→List A0) (q:Nat):LI Int where
  gs:=fun i=>[(0,.rowF n m r),(q,tB false),(q+1,tN .i64 i)]
  bs:=fun i=>[]
  I:=fun i=>0≤i∧i≤(n:Int)
  μ:=fun i=>((n:Int)-i).toNat
theorem wrap1 {i:Int} (h0:0≤i) (h:i≤100000000000000000):IntKind.i64.wrap (i+1)=i+1:=by rw [i64_wrap];exact wrap64_id (by omega) (by omega)
theorem hC1 {v k:Int} {n:Nat} (h:(bif decide (v<(n:Int)) then decide (v<k) else false)=true):v<n∧v<k:=by
  by_cases h1:v<(n:Int)
  · rw [decide_eq_true h1] at h;exact ⟨h1,of_decide_eq_true h⟩
  · rw [decide_eq_false h1] at h;exact absurd (show false=true from h) (by decide)
theorem stepL {m n q:Nat} {r:Nat→List A0} {v k:Int} (hv:(lawL m n r q).I v) (hC:(bif decide (v<(n:Int)) then decide (v<k) else false)=true) (hk:k≤1000):(lawL m n r q).μ (IntKind.i64.wrap (v+1))<(lawL m n r q).μ v∧(lawL m n r q).I (IntKind.i64.wrap (v+1)):=by
  have h1:=hC1 hC
  have h0:0≤v∧v≤(n:Int):=hv
  rw [wrap1 h0.1 (by omega)]
  exact ⟨show ((n:Int)-(v+1)).toNat<((n:Int)-v).toNat by omega,show 0≤v+1∧v+1≤(n:Int) by omega⟩
section
set_option maxRecDepth 100000
set_option maxHeartbeats 4000000
abbrev eqVec:EqT Try.prog:=eqS Try.prog 24 [some .i64,some .i64,some .i64] (by kernel_rfl)
def cR1May:Con Try.prog where
  f:=26
  sem:=fun xs=>match xs with
    | [.sc (.v (.int .i64 v))]=>some (True,.tv (tB (wd v)))
    | _=>none
  ok := by
    intro xs p r' h hp
    refine ⟨⟨_,Try.func26,by kernel_rfl,rfl⟩,fun us w ha=>?_⟩
    split at h
    · rename_i v
      cases h
      refine fn_ret (cxOk Try.prog ints_ok [] []) follows Try.func26 rfl 100 _ rfl (by simp) ?_ ha
      repeat' first
        | exact trivial
        | (refine And.intro (show regChk _ _ _ _ _=true from by kernel_rfl) (And.intro ?_ ?_))
        | (refine And.intro (fun _=>?_) (fun h=>absurd (show true=false from h) (by decide)))
        | (refine And.intro (fun h=>absurd (show false=true from h) (by decide)) (fun _=>?_))
        | (refine And.intro (fun hb=>?_) (fun hb'=>?_))
        | refine And.intro ?_ ?_
        | intro _
      all_goals first
        | (show some (CR.tv (tB _))=some (CR.tv (tB _));exact tB_eq (wd_bif v))
        | (show (_:Bool)=(_:Bool);first|assumption|exact beq_iff_eq.2 (by assumption)|(exact and_tt (by first|assumption|exact beq_iff_eq.2 (by assumption)) (by first|assumption|exact beq_iff_eq.2 (by assumption))))
        | (show (_:Nat)=(_:Nat);rfl)
        | (show (_:Nat)≤1000;decide)
        | (show (_:Int)=(_:Int);rfl)
        | (show (_:Int)≤_;decide)
        | (show (_:Int)<_;decide)
        -- PVC
    · cases h
def cR3May:Con Try.prog where
  f:=53
  sem:=fun xs=>match xs with
    | [.agg [.v (.int .i64 x),.v (.int .i64 y),.v (.int .i64 z)]]=>some (True,.tv (tB (gV x y z)))
    | _=>none
  ok := by
    intro xs p r' h hp
    refine ⟨⟨_,Try.func53,by kernel_rfl,rfl⟩,fun us w ha=>?_⟩
    split at h
    · rename_i x y z
      cases h
      refine fn_ret (cxOk Try.prog ints_ok [] [cR1May]) follows Try.func53 rfl 100 _ rfl (by simp) ?_ ha
      repeat' first
        | exact trivial
        | (refine And.intro (show regChk _ _ _ _ _=true from by kernel_rfl) (And.intro ?_ ?_))
        | (refine And.intro (fun _=>?_) (fun h=>absurd (show true=false from h) (by decide)))
        | (refine And.intro (fun h=>absurd (show false=true from h) (by decide)) (fun _=>?_))
        | (refine And.intro (fun hb=>?_) (fun hb'=>?_))
        | refine And.intro ?_ ?_
        | intro _
      all_goals first
        | (show some (CR.tv (tB _))=some (CR.tv (tB _));exact tB_eq (gV_bif x y z))
        | (show (_:Bool)=(_:Bool);first|assumption|exact beq_iff_eq.2 (by assumption)|(exact and_tt (by first|assumption|exact beq_iff_eq.2 (by assumption)) (by first|assumption|exact beq_iff_eq.2 (by assumption))))
        | (show (_:Nat)=(_:Nat);rfl)
        | (show (_:Nat)≤1000;decide)
        | (show (_:Int)=(_:Int);rfl)
        | (show (_:Int)≤_;decide)
        | (show (_:Int)<_;decide)
        -- PVC
    · cases h
def cNum10:Con Try.prog where
  f:=24
  sem:=fun xs=>match xs with
    | [.sc (.v (.int .i64 v))]=>some (True,.tv (tN .i64 v))
    | _=>none
  ok := by
    intro xs p r' h hp
    refine ⟨⟨_,Try.func24,by kernel_rfl,rfl⟩,fun us w ha=>?_⟩
    split at h
    · rename_i v
      cases h
      refine fn_ret (cxOk Try.prog ints_ok [] []) follows Try.func24 rfl 100 _ rfl (by simp) ?_ ha
      repeat' first
        | exact trivial
        | (refine And.intro (show regChk _ _ _ _ _=true from by kernel_rfl) (And.intro ?_ ?_))
        | (refine And.intro (fun _=>?_) (fun h=>absurd (show true=false from h) (by decide)))
        | (refine And.intro (fun h=>absurd (show false=true from h) (by decide)) (fun _=>?_))
        | (refine And.intro (fun hb=>?_) (fun hb'=>?_))
        | refine And.intro ?_ ?_
      all_goals first
        | (show some (CR.tv (tN _ _))=some (CR.tv (tN _ _));rfl)
        | (show (_:Nat)=(_:Nat);rfl)
        | (show (_:Nat)≤1000;decide)
        | (show (_:Int)=(_:Int);rfl)
        | (show (_:Int)≤_;decide)
        | (show (_:Int)<_;decide)
        -- PVC
    · cases h
end
end Go.Proofs.Ytonelbidndjhdaa.Wh
end
section
set_option linter.unusedVariables false
set_option linter.unusedSimpArgs false
namespace Go.Proofs.Ytonelbidndjhdaa.Wh
open Go RowKit YtonelbidndjhdaaW.PrintWords YtonelbidndjhdaaW.PrintMore YtonelbidndjhdaaW.Aid YtonelbidndjhdaaW.Big YtonelbidndjhdaaW.Sx Ytonelbidndjhdaa.BitsWalk Ytonelbidndjhdaa.Limbs Ytonelbidndjhdaa.Whole Ytonelbidndjhdaa.FxWalk Go.Proofs
def conOr {P:Program} (c d:Con P) (hf:c.f=d.f):Con P where
  f:=c.f
  sem:=fun xs=>match c.sem xs with
    | some r=>some r
    | none=>d.sem xs
  ok:=by
    intro xs p r h hp
    split at h
    · rename_i q hq
      cases h
      exact c.ok xs p r hq hp
    · rw [hf];exact d.ok xs p r h hp
abbrev inB (n lo hi:Int):Bool:=bif decide (n≥lo) then decide (n≤hi) else false
abbrev rawB (x y z t:Int):Bool:=bif bif bif inB x (-32768) 32767 then inB y (-32768) 32767 else false then inB z (-32768) 32767 else false then inB t (-128) 127 else false
abbrev badR (v:Int):Bool:=bif decide (v < -32768) then true else decide (v≥32768)
theorem wI (x:Int):I64 (IntKind.i64.wrap x):=by rw [i64_wrap];unfold I64 wrap64;omega
theorem wr {x:Int} (h : -9223372036854775808≤x) (h':x<9223372036854775808):IntKind.i64.wrap x=x:=by rw [i64_wrap];exact wrap64_id h (by omega)
def graw (x y z t:Int):Bool:=bif badR x then false else bif badR y then false else bif badR z then false else inB t (-128) 127
theorem graw_0 {x y z t:Int} (h0:(badR x)=true):(false)=graw x y z t:=by
  unfold graw
  rw [h0]
  rfl
theorem graw_1 {x y z t:Int} (h0:(badR x)=false) (h1:(badR y)=true):(false)=graw x y z t:=by
  unfold graw
  rw [h0]
  rw [h1]
  rfl
theorem graw_2 {x y z t:Int} (h0:(badR x)=false) (h1:(badR y)=false) (h2:(badR z)=true):(false)=graw x y z t:=by
  unfold graw
  rw [h0]
  rw [h1]
  rw [h2]
  rfl
theorem graw_3 {x y z t:Int} (h0:(badR x)=false) (h1:(badR y)=false) (h2:(badR z)=false):(inB t (-128) 127)=graw x y z t:=by
  unfold graw
  rw [h0]
  rw [h1]
  rw [h2]
  rfl
def mayC (b1 b2 b3 k1 k2 k3 rf m0 m1 m2 m3 m4 m5 m6 m7 m8:Int):Bool:=bif !wd m0 then false else bif !wd m1 then false else bif !wd m2 then false else bif !wd m3 then false else bif !wd m4 then false else bif !wd m5 then false else bif !wd m6 then false else bif !wd m7 then false else bif !wd m8 then false else bif bif bif gV b1 b2 b3 then gV k1 k2 k3 else false then decide (rf ≥ -128) else false then decide (rf≤127) else false
theorem mayC_0 {b1 b2 b3 k1 k2 k3 rf m0 m1 m2 m3 m4 m5 m6 m7 m8:Int} (h0:(!wd m0)=true):(false)=mayC b1 b2 b3 k1 k2 k3 rf m0 m1 m2 m3 m4 m5 m6 m7 m8:=by
  unfold mayC
  rw [h0]
  rfl
theorem mayC_1 {b1 b2 b3 k1 k2 k3 rf m0 m1 m2 m3 m4 m5 m6 m7 m8:Int} (h0:(!wd m0)=false) (h1:(!wd m1)=true):(false)=mayC b1 b2 b3 k1 k2 k3 rf m0 m1 m2 m3 m4 m5 m6 m7 m8:=by
  unfold mayC
  rw [h0]
  rw [h1]
  rfl
theorem mayC_2 {b1 b2 b3 k1 k2 k3 rf m0 m1 m2 m3 m4 m5 m6 m7 m8:Int} (h0:(!wd m0)=false) (h1:(!wd m1)=false) (h2:(!wd m2)=true):(false)=mayC b1 b2 b3 k1 k2 k3 rf m0 m1 m2 m3 m4 m5 m6 m7 m8:=by
  unfold mayC
  rw [h0]
  rw [h1]
  rw [h2]
  rfl
theorem mayC_3 {b1 b2 b3 k1 k2 k3 rf m0 m1 m2 m3 m4 m5 m6 m7 m8:Int} (h0:(!wd m0)=false) (h1:(!wd m1)=false) (h2:(!wd m2)=false) (h3:(!wd m3)=true):(false)=mayC b1 b2 b3 k1 k2 k3 rf m0 m1 m2 m3 m4 m5 m6 m7 m8:=by
  unfold mayC
  rw [h0]
  rw [h1]
  rw [h2]
  rw [h3]
  rfl
theorem mayC_4 {b1 b2 b3 k1 k2 k3 rf m0 m1 m2 m3 m4 m5 m6 m7 m8:Int} (h0:(!wd m0)=false) (h1:(!wd m1)=false) (h2:(!wd m2)=false) (h3:(!wd m3)=false) (h4:(!wd m4)=true):(false)=mayC b1 b2 b3 k1 k2 k3 rf m0 m1 m2 m3 m4 m5 m6 m7 m8:=by
  unfold mayC
  rw [h0]
  rw [h1]
  rw [h2]
  rw [h3]
  rw [h4]
  rfl
theorem mayC_5 {b1 b2 b3 k1 k2 k3 rf m0 m1 m2 m3 m4 m5 m6 m7 m8:Int} (h0:(!wd m0)=false) (h1:(!wd m1)=false) (h2:(!wd m2)=false) (h3:(!wd m3)=false) (h4:(!wd m4)=false) (h5:(!wd m5)=true):(false)=mayC b1 b2 b3 k1 k2 k3 rf m0 m1 m2 m3 m4 m5 m6 m7 m8:=by
  unfold mayC
  rw [h0]
  rw [h1]
  rw [h2]
  rw [h3]
  rw [h4]
  rw [h5]
  rfl
theorem mayC_6 {b1 b2 b3 k1 k2 k3 rf m0 m1 m2 m3 m4 m5 m6 m7 m8:Int} (h0:(!wd m0)=false) (h1:(!wd m1)=false) (h2:(!wd m2)=false) (h3:(!wd m3)=false) (h4:(!wd m4)=false) (h5:(!wd m5)=false) (h6:(!wd m6)=true):(false)=mayC b1 b2 b3 k1 k2 k3 rf m0 m1 m2 m3 m4 m5 m6 m7 m8:=by
  unfold mayC
  rw [h0]
  rw [h1]
  rw [h2]
  rw [h3]
  rw [h4]
  rw [h5]
  rw [h6]
  rfl
theorem mayC_7 {b1 b2 b3 k1 k2 k3 rf m0 m1 m2 m3 m4 m5 m6 m7 m8:Int} (h0:(!wd m0)=false) (h1:(!wd m1)=false) (h2:(!wd m2)=false) (h3:(!wd m3)=false) (h4:(!wd m4)=false) (h5:(!wd m5)=false) (h6:(!wd m6)=false) (h7:(!wd m7)=true):(false)=mayC b1 b2 b3 k1 k2 k3 rf m0 m1 m2 m3 m4 m5 m6 m7 m8:=by
  unfold mayC
  rw [h0]
  rw [h1]
  rw [h2]
  rw [h3]
  rw [h4]
  rw [h5]
  rw [h6]
  rw [h7]
  rfl
theorem mayC_8 {b1 b2 b3 k1 k2 k3 rf m0 m1 m2 m3 m4 m5 m6 m7 m8:Int} (h0:(!wd m0)=false) (h1:(!wd m1)=false) (h2:(!wd m2)=false) (h3:(!wd m3)=false) (h4:(!wd m4)=false) (h5:(!wd m5)=false) (h6:(!wd m6)=false) (h7:(!wd m7)=false) (h8:(!wd m8)=true):(false)=mayC b1 b2 b3 k1 k2 k3 rf m0 m1 m2 m3 m4 m5 m6 m7 m8:=by
  unfold mayC
  rw [h0]
  rw [h1]
  rw [h2]
  rw [h3]
  rw [h4]
  rw [h5]
  rw [h6]
  rw [h7]
  rw [h8]
  rfl
theorem mayC_9 {b1 b2 b3 k1 k2 k3 rf m0 m1 m2 m3 m4 m5 m6 m7 m8:Int} (h0:(!wd m0)=false) (h1:(!wd m1)=false) (h2:(!wd m2)=false) (h3:(!wd m3)=false) (h4:(!wd m4)=false) (h5:(!wd m5)=false) (h6:(!wd m6)=false) (h7:(!wd m7)=false) (h8:(!wd m8)=false):(bif bif bif gV b1 b2 b3 then gV k1 k2 k3 else false then decide (rf ≥ -128) else false then decide (rf≤127) else false)=mayC b1 b2 b3 k1 k2 k3 rf m0 m1 m2 m3 m4 m5 m6 m7 m8:=by
  unfold mayC
  rw [h0]
  rw [h1]
  rw [h2]
  rw [h3]
  rw [h4]
  rw [h5]
  rw [h6]
  rw [h7]
  rw [h8]
  rfl
abbrev goodC (b1 b2 b3 k1 k2 k3 rf m0 m1 m2 m3 m4 m5 m6 m7 m8:Int):Bool:=bif bif bif bif gV b1 b2 b3 then gV k1 k2 k3 else false then decide (rf ≥ -128) else false then decide (rf≤127) else false then allw [m0,m1,m2,m3,m4,m5,m6,m7,m8] else false
abbrev badC (b1 b2 b3 k1 k2 k3 rf m0 m1 m2 m3 m4 m5 m6 m7 m8 x y z t:Int):Bool:=bif !goodC b1 b2 b3 k1 k2 k3 rf m0 m1 m2 m3 m4 m5 m6 m7 m8 then true else !graw x y z t
theorem inB_iff {n lo hi:Int}:inB n lo hi=true↔lo≤n∧n≤hi:=by
  unfold inB
  by_cases h1:n≥lo<;>by_cases h2:n≤hi<;>simp [h1,h2]<;>omega
theorem badR_f {v:Int}:badR v=false ↔ -32768≤v∧v≤32767:=by
  unfold badR
  by_cases h1:v < -32768<;>by_cases h2:v≥32768<;>simp [h1,h2]<;>omega
theorem graw_iff {x y z t:Int}:graw x y z t=true↔(-32768≤x∧x≤32767)∧(-32768≤y∧y≤32767)∧(-32768≤z∧z≤32767) ∧ -128≤t∧t≤127:=by
  unfold graw
  rw [← badR_f,← badR_f,← badR_f,← inB_iff (n:=t)]
  cases badR x<;>cases badR y<;>cases badR z<;>simp
theorem rawB_iff {x y z t:Int}:rawB x y z t=true↔(-32768≤x∧x≤32767)∧(-32768≤y∧y≤32767)∧(-32768≤z∧z≤32767) ∧ -128≤t∧t≤127:=by
  unfold rawB
  rw [← inB_iff (n:=x),← inB_iff (n:=y),← inB_iff (n:=z),← inB_iff (n:=t)]
  cases inB x (-32768) 32767<;>cases inB y (-32768) 32767<;>cases inB z (-32768) 32767<;>simp
theorem goodC_iff {b1 b2 b3 k1 k2 k3 rf m0 m1 m2 m3 m4 m5 m6 m7 m8:Int}:goodC b1 b2 b3 k1 k2 k3 rf m0 m1 m2 m3 m4 m5 m6 m7 m8=true↔gV b1 b2 b3=true∧gV k1 k2 k3=true∧(-128≤rf∧rf≤127)∧allw [m0,m1,m2,m3,m4,m5,m6,m7,m8]=true:=by
  unfold goodC
  cases gV b1 b2 b3<;>cases gV k1 k2 k3<;>by_cases h1:rf ≥ -128<;>by_cases h2:rf≤127<;>cases allw [m0,m1,m2,m3,m4,m5,m6,m7,m8]<;>simp [h1,h2]<;>omega
def CalOk (b1 b2 b3 k1 k2 k3 rf m0 m1 m2 m3 m4 m5 m6 m7 m8 x y z t:Int):Prop:=goodC b1 b2 b3 k1 k2 k3 rf m0 m1 m2 m3 m4 m5 m6 m7 m8=true∧graw x y z t=true
theorem badC_f {b1 b2 b3 k1 k2 k3 rf m0 m1 m2 m3 m4 m5 m6 m7 m8 x y z t:Int}:badC b1 b2 b3 k1 k2 k3 rf m0 m1 m2 m3 m4 m5 m6 m7 m8 x y z t=false↔CalOk b1 b2 b3 k1 k2 k3 rf m0 m1 m2 m3 m4 m5 m6 m7 m8 x y z t:=by
  unfold badC CalOk
  cases goodC b1 b2 b3 k1 k2 k3 rf m0 m1 m2 m3 m4 m5 m6 m7 m8<;>cases graw x y z t<;>simp
instance (b1 b2 b3 k1 k2 k3 rf m0 m1 m2 m3 m4 m5 m6 m7 m8 x y z t:Int):Decidable (CalOk b1 b2 b3 k1 k2 k3 rf m0 m1 m2 m3 m4 m5 m6 m7 m8 x y z t):=inferInstanceAs (Decidable (_∧_))
def calU (x b h d:Int):Int:=1024*x-b-h*d
def calR (b1 b2 b3 k1 k2 k3 rf m0 m1 m2 m3 m4 m5 m6 m7 m8 x y z t:Int):Int × Int × Int × Int:=if CalOk b1 b2 b3 k1 k2 k3 rf m0 m1 m2 m3 m4 m5 m6 m7 m8 x y z t then vT (q30 (dot3 m0 m1 m2 (calU x b1 k1 (t-rf)) (calU y b2 k2 (t-rf)) (calU z b3 k3 (t-rf)))) (q30 (dot3 m3 m4 m5 (calU x b1 k1 (t-rf)) (calU y b2 k2 (t-rf)) (calU z b3 k3 (t-rf)))) (q30 (dot3 m6 m7 m8 (calU x b1 k1 (t-rf)) (calU y b2 k2 (t-rf)) (calU z b3 k3 (t-rf)))) else (0,0,0,1)
abbrev uW (x b h t rf:Int):Int:=IntKind.i64.wrap (IntKind.i64.wrap (IntKind.i64.wrap (1024*x)-b)-IntKind.i64.wrap (h*IntKind.i64.wrap (t-rf)))
theorem hd_bd {h d:Int} (hh : -35184372088832<h∧h<35184372088832) (hd : -255≤d∧d≤255) : -8972014882652160≤h*d∧h*d≤8972014882652160:=by
  have h1:h.natAbs≤35184372088832:=by omega
  have h2:d.natAbs≤255:=by omega
  have h3:(h*d).natAbs≤35184372088832*255:=by rw [Int.natAbs_mul];exact Nat.mul_le_mul h1 h2
  omega
theorem uW_eq {x b h t rf:Int} (hx : -32768≤x∧x≤32767) (hb : -35184372088832<b∧b<35184372088832) (hh : -35184372088832<h∧h<35184372088832) (ht : -128≤t∧t≤127) (hr : -128≤rf∧rf≤127):uW x b h t rf=calU x b h (t-rf):=by
  have p:=hd_bd hh (d:=t-rf) (by omega)
  have e1:IntKind.i64.wrap (t-rf)=t-rf:=wr (by omega) (by omega)
  have e2:IntKind.i64.wrap (1024*x)=1024*x:=wr (by omega) (by omega)
  have e3:IntKind.i64.wrap (1024*x-b)=1024*x-b:=wr (by omega) (by omega)
  unfold uW calU
  rw [e1,e2,e3,wr (x:=h*(t-rf)) (by omega) (by omega)]
  exact wr (by omega) (by omega)
theorem cal_bad {b1 b2 b3 k1 k2 k3 rf m0 m1 m2 m3 m4 m5 m6 m7 m8 x y z t:Int} (h:badC b1 b2 b3 k1 k2 k3 rf m0 m1 m2 m3 m4 m5 m6 m7 m8 x y z t=true):((0:Int),(0:Int),(0:Int),(1:Int))=calR b1 b2 b3 k1 k2 k3 rf m0 m1 m2 m3 m4 m5 m6 m7 m8 x y z t:=by
  unfold calR;rw [if_neg (fun hk=>by rw [badC_f.2 hk] at h;cases h)]
theorem cal_ok {b1 b2 b3 k1 k2 k3 rf m0 m1 m2 m3 m4 m5 m6 m7 m8 x y z t:Int} (h:badC b1 b2 b3 k1 k2 k3 rf m0 m1 m2 m3 m4 m5 m6 m7 m8 x y z t=false) {p:Int × Int × Int × Int} (hp:p=vT (q30 (dot3 m0 m1 m2 (uW x b1 k1 t rf) (uW y b2 k2 t rf) (uW z b3 k3 t rf))) (q30 (dot3 m3 m4 m5 (uW x b1 k1 t rf) (uW y b2 k2 t rf) (uW z b3 k3 t rf))) (q30 (dot3 m6 m7 m8 (uW x b1 k1 t rf) (uW y b2 k2 t rf) (uW z b3 k3 t rf)))):(p.1,p.2.1,p.2.2.1,p.2.2.2)=calR b1 b2 b3 k1 k2 k3 rf m0 m1 m2 m3 m4 m5 m6 m7 m8 x y z t:=by
  have hk:=badC_f.1 h
  obtain ⟨g1,g2,g3,g4⟩:=goodC_iff.1 hk.1
  obtain ⟨r1,r2,r3,r4⟩:=graw_iff.1 hk.2
  obtain ⟨a1,a2,a3⟩:=gV_bd g1
  obtain ⟨a4,a5,a6⟩:=gV_bd g2
  rw [uW_eq r1 a1 a4 r4 g3,uW_eq r2 a2 a5 r4 g3,uW_eq r3 a3 a6 r4 g3] at hp
  unfold calR;rw [if_pos hk,← hp]
theorem calm {b1 b2 b3 k1 k2 k3 rf m0 m1 m2 m3 m4 m5 m6 m7 m8 x y z t:Int} (h:badC b1 b2 b3 k1 k2 k3 rf m0 m1 m2 m3 m4 m5 m6 m7 m8 x y z t=false):I64 m0∧I64 m1∧I64 m2∧I64 m3∧I64 m4∧I64 m5∧I64 m6∧I64 m7∧I64 m8:=by
  have hk:=badC_f.1 h
  obtain ⟨g1,g2,g3,g4⟩:=goodC_iff.1 hk.1
  rw [allw_iff] at g4
  exact ⟨i64_wd (g4 _ (by simp)),i64_wd (g4 _ (by simp)),i64_wd (g4 _ (by simp)),i64_wd (g4 _ (by simp)),i64_wd (g4 _ (by simp)),i64_wd (g4 _ (by simp)),i64_wd (g4 _ (by simp)),i64_wd (g4 _ (by simp)),i64_wd (g4 _ (by simp))⟩
theorem dot_lenI {a b c d e f:Int} (h1:I64 a) (h2:I64 b) (h3:I64 c) (h4:I64 d) (h5:I64 e) (h6:I64 f):Len0 (dot3 a b c d e f):=by
  have:=prod_bd h1 h4
  have:=prod_bd h2 h5
  have:=prod_bd h3 h6
  unfold dot3;exact len_b4 (by omega) (by omega)
section
set_option maxRecDepth 100000
set_option maxHeartbeats 8000000
def cIn8:Con Try.prog where
  f:=41
  sem:=fun xs=>match xs with
    | [.sc (.v (.int .i64 n)),.sc (.v (.int .i64 lo)),.sc (.v (.int .i64 hi))]=>some (True,.tv (tB (inB n lo hi)))
    | _=>none
  ok := by
    intro xs p r' h hp
    refine ⟨⟨_,Try.func41,by kernel_rfl,rfl⟩,fun us w ha=>?_⟩
    split at h
    · rename_i n lo hi
      cases h
      refine fn_ret (cxOk Try.prog ints_ok [] []) follows Try.func41 rfl 100 _ rfl (by simp) ?_ ha
      repeat' first
        | exact trivial
        | (refine And.intro (show regChk _ _ _ _ _=true from by kernel_rfl) (And.intro ?_ ?_))
        | (refine And.intro (fun _=>?_) (fun h=>absurd (show true=false from h) (by decide)))
        | (refine And.intro (fun h=>absurd (show false=true from h) (by decide)) (fun _=>?_))
        | (refine And.intro (fun hb=>?_) (fun hb'=>?_))
        | refine And.intro ?_ ?_
        | intro _
      all_goals first
        | (show some (CR.tv (tB _))=some (CR.tv (tB _));exact tB_eq rfl)
        | (show (_:Bool)=(_:Bool);first|assumption|exact beq_iff_eq.2 (by assumption)|(exact and_tt (by first|assumption|exact beq_iff_eq.2 (by assumption)) (by first|assumption|exact beq_iff_eq.2 (by assumption))))
        | (show (_:Nat)=(_:Nat);rfl)
        | (show (_:Nat)≤1000;decide)
        | (show (_:Int)=(_:Int);rfl)
        | (show (_:Int)≤_;decide)
        | (show (_:Int)<_;decide)
        -- PVC
    · cases h
def cMayRaw:Con Try.prog where
  f:=21
  sem:=fun xs=>match xs with
    | [.agg [.v (.int .i64 x),.v (.int .i64 y),.v (.int .i64 z),.v (.int .i64 t)]]=>some (True,.tv (tB (rawB x y z t)))
    | _=>none
  ok := by
    intro xs p r' h hp
    refine ⟨⟨_,Try.func21,by kernel_rfl,rfl⟩,fun us w ha=>?_⟩
    split at h
    · rename_i x y z t
      cases h
      refine fn_ret (cxOk Try.prog ints_ok [] [cIn8]) follows Try.func21 rfl 100 _ rfl (by simp) ?_ ha
      repeat' first
        | exact trivial
        | (refine And.intro (show regChk _ _ _ _ _=true from by kernel_rfl) (And.intro ?_ ?_))
        | (refine And.intro (fun _=>?_) (fun h=>absurd (show true=false from h) (by decide)))
        | (refine And.intro (fun h=>absurd (show false=true from h) (by decide)) (fun _=>?_))
        | (refine And.intro (fun hb=>?_) (fun hb'=>?_))
        | refine And.intro ?_ ?_
        | intro _
      all_goals first
        | (show some (CR.tv (tB _))=some (CR.tv (tB _));exact tB_eq rfl)
        | (show (_:Bool)=(_:Bool);first|assumption|exact beq_iff_eq.2 (by assumption)|(exact and_tt (by first|assumption|exact beq_iff_eq.2 (by assumption)) (by first|assumption|exact beq_iff_eq.2 (by assumption))))
        | (show (_:Nat)=(_:Nat);rfl)
        | (show (_:Nat)≤1000;decide)
        | (show (_:Int)=(_:Int);rfl)
        | (show (_:Int)≤_;decide)
        | (show (_:Int)<_;decide)
        -- PVC
    · cases h
def cGoodRaw:Con Try.prog where
  f:=43
  sem:=fun xs=>match xs with
    | [.agg [.v (.int .i64 x),.v (.int .i64 y),.v (.int .i64 z),.v (.int .i64 t)]]=>some (True,.tv (tB (graw x y z t)))
    | _=>none
  ok := by
    intro xs p r' h hp
    refine ⟨⟨_,Try.func43,by kernel_rfl,rfl⟩,fun us w ha=>?_⟩
    split at h
    · rename_i x y z t
      cases h
      refine fnu_ret (cxOk Try.prog ints_ok [] []) follows [1,2,11,12,13] Try.func43 rfl 100 _ rfl (by simp) ?_ ha
      repeat' first
        | exact trivial
        | (refine And.intro (show regChk _ _ _ _ _=true from by kernel_rfl) (And.intro ?_ ?_))
        | (refine And.intro (fun _=>?_) (fun h=>absurd (show true=false from h) (by decide)))
        | (refine And.intro (fun h=>absurd (show false=true from h) (by decide)) (fun _=>?_))
        | (refine And.intro (fun hb=>?_) (fun hb'=>?_))
        | refine And.intro ?_ ?_
        | intro _
      all_goals first
        | (show some (CR.tv (tB _))=some (CR.tv (tB _));first|exact tB_eq (graw_0 (by assumption))|exact tB_eq (graw_1 (by assumption) (by assumption))|exact tB_eq (graw_2 (by assumption) (by assumption) (by assumption))|exact tB_eq (graw_3 (by assumption) (by assumption) (by assumption)))
        | (show (_:Bool)=(_:Bool);first|assumption|exact beq_iff_eq.2 (by assumption)|(exact and_tt (by first|assumption|exact beq_iff_eq.2 (by assumption)) (by first|assumption|exact beq_iff_eq.2 (by assumption))))
        | (show (_:Nat)=(_:Nat);rfl)
        | (show (_:Nat)≤1000;decide)
        | (show (_:Int)=(_:Int);rfl)
        | (show (_:Int)≤_;decide)
        | (show (_:Int)<_;decide)
        -- PVC
    · cases h
def cCalGood:Con Try.prog where
  f:=42
  sem:=fun xs=>match xs with
    | [.agg [.v (.int .i64 b1),.v (.int .i64 b2),.v (.int .i64 b3),.v (.int .i64 k1),.v (.int .i64 k2),.v (.int .i64 k3),.v (.int .i64 rf),.v (.int .i64 m0),.v (.int .i64 m1),.v (.int .i64 m2),.v (.int .i64 m3),.v (.int .i64 m4),.v (.int .i64 m5),.v (.int .i64 m6),.v (.int .i64 m7),.v (.int .i64 m8)]]=>some (True,.tv (tB (goodC b1 b2 b3 k1 k2 k3 rf m0 m1 m2 m3 m4 m5 m6 m7 m8)))
    | _=>none
  ok := by
    intro xs p r' h hp
    refine ⟨⟨_,Try.func42,by kernel_rfl,rfl⟩,fun us w ha=>?_⟩
    split at h
    · rename_i b1 b2 b3 k1 k2 k3 rf m0 m1 m2 m3 m4 m5 m6 m7 m8
      cases h
      refine fn_ret (cxOk Try.prog ints_ok [] [cVGood,cAll]) follows Try.func42 rfl 100 _ rfl (by simp) ?_ ha
      repeat' first
        | exact trivial
        | (refine And.intro (show regChk _ _ _ _ _=true from by kernel_rfl) (And.intro ?_ ?_))
        | (refine And.intro (fun _=>?_) (fun h=>absurd (show true=false from h) (by decide)))
        | (refine And.intro (fun h=>absurd (show false=true from h) (by decide)) (fun _=>?_))
        | (refine And.intro (fun hb=>?_) (fun hb'=>?_))
        | refine And.intro ?_ ?_
        | intro _
      all_goals first
        | (show some (CR.tv (tB _))=some (CR.tv (tB _));exact tB_eq rfl)
        | (show (_:Bool)=(_:Bool);first|assumption|exact beq_iff_eq.2 (by assumption)|(exact and_tt (by first|assumption|exact beq_iff_eq.2 (by assumption)) (by first|assumption|exact beq_iff_eq.2 (by assumption))))
        | (show (_:Nat)=(_:Nat);rfl)
        | (show (_:Nat)≤1000;decide)
        | (show (_:Int)=(_:Int);rfl)
        | (show (_:Int)≤_;decide)
        | (show (_:Int)<_;decide)
        -- PVC
    · cases h
def cMayCal:Con Try.prog where
  f:=27
  sem:=fun xs=>match xs with
    | [.agg [.v (.int .i64 b1),.v (.int .i64 b2),.v (.int .i64 b3),.v (.int .i64 k1),.v (.int .i64 k2),.v (.int .i64 k3),.v (.int .i64 rf),.v (.int .i64 m0),.v (.int .i64 m1),.v (.int .i64 m2),.v (.int .i64 m3),.v (.int .i64 m4),.v (.int .i64 m5),.v (.int .i64 m6),.v (.int .i64 m7),.v (.int .i64 m8)]]=>some (True,.tv (tB (mayC b1 b2 b3 k1 k2 k3 rf m0 m1 m2 m3 m4 m5 m6 m7 m8)))
    | _=>none
  ok := by
    intro xs p r' h hp
    refine ⟨⟨_,Try.func27,by kernel_rfl,rfl⟩,fun us w ha=>?_⟩
    split at h
    · rename_i b1 b2 b3 k1 k2 k3 rf m0 m1 m2 m3 m4 m5 m6 m7 m8
      cases h
      refine fnu_ret (cxOk Try.prog ints_ok [] [cR1May,cR3May]) follows [1,2,3] Try.func27 rfl 100 _ rfl (by simp) ?_ ha
      repeat' first
        | exact trivial
        | (refine And.intro (show regChk _ _ _ _ _=true from by kernel_rfl) (And.intro ?_ ?_))
        | (refine And.intro (fun _=>?_) (fun h=>absurd (show true=false from h) (by decide)))
        | (refine And.intro (fun h=>absurd (show false=true from h) (by decide)) (fun _=>?_))
        | (refine And.intro (fun hb=>?_) (fun hb'=>?_))
        | refine And.intro ?_ ?_
        | intro _
      all_goals first
        | (show some (CR.tv (tB _))=some (CR.tv (tB _));first|exact tB_eq (mayC_0 (by assumption))|exact tB_eq (mayC_1 (by assumption) (by assumption))|exact tB_eq (mayC_2 (by assumption) (by assumption) (by assumption))|exact tB_eq (mayC_3 (by assumption) (by assumption) (by assumption) (by assumption))|exact tB_eq (mayC_4 (by assumption) (by assumption) (by assumption) (by assumption) (by assumption))|exact tB_eq (mayC_5 (by assumption) (by assumption) (by assumption) (by assumption) (by assumption) (by assumption))|exact tB_eq (mayC_6 (by assumption) (by assumption) (by assumption) (by assumption) (by assumption) (by assumption) (by assumption))|exact tB_eq (mayC_7 (by assumption) (by assumption) (by assumption) (by assumption) (by assumption) (by assumption) (by assumption) (by assumption))|exact tB_eq (mayC_8 (by assumption) (by assumption) (by assumption) (by assumption) (by assumption) (by assumption) (by assumption) (by assumption) (by assumption))|exact tB_eq (mayC_9 (by assumption) (by assumption) (by assumption) (by assumption) (by assumption) (by assumption) (by assumption) (by assumption) (by assumption)))
        | (show (_:Bool)=(_:Bool);first|assumption|exact beq_iff_eq.2 (by assumption)|(exact and_tt (by first|assumption|exact beq_iff_eq.2 (by assumption)) (by first|assumption|exact beq_iff_eq.2 (by assumption))))
        | (show (_:Nat)=(_:Nat);rfl)
        | (show (_:Nat)≤1000;decide)
        | (show (_:Int)=(_:Int);rfl)
        | (show (_:Int)≤_;decide)
        | (show (_:Int)<_;decide)
        -- PVC
    · cases h
def cRaw:Con Try.prog where
  f:=45
  sem:=fun xs=>match xs with
    | [.agg [.v (.int .i64 x),.v (.int .i64 y),.v (.int .i64 z),.v (.int .i64 t)]]=>some (True,.new 2 3 1 [.v (.int .i64 (IntKind.i64.wrap (1024*x))),.v (.int .i64 (IntKind.i64.wrap (1024*y))),.v (.int .i64 (IntKind.i64.wrap (1024*z)))])
    | _=>none
  ok := by
    intro xs p r' h hp
    refine ⟨⟨_,Try.func45,by kernel_rfl,rfl⟩,fun us w ha=>?_⟩
    split at h
    · rename_i x y z t
      cases h
      refine fn_ret (cxOk Try.prog ints_ok [] []) follows Try.func45 rfl 100 _ rfl (by simp) ?_ ha
      repeat' first
        | exact trivial
        | (refine And.intro (show regChk _ _ _ _ _=true from by kernel_rfl) (And.intro ?_ ?_))
        | (refine And.intro (fun _=>?_) (fun h=>absurd (show true=false from h) (by decide)))
        | (refine And.intro (fun h=>absurd (show false=true from h) (by decide)) (fun _=>?_))
        | (refine And.intro (fun hb=>?_) (fun hb'=>?_))
        | refine And.intro ?_ ?_
      all_goals first
        | (show some (CR.new _ _ _ _)=some (CR.new _ _ _ _);rfl)
        | (show (_:Nat)=(_:Nat);rfl)
        | (show (_:Nat)≤1000;decide)
        | (show (_:Int)=(_:Int);rfl)
        | (show (_:Int)≤_;decide)
        | (show (_:Int)<_;decide)
        -- PVC
    · cases h
def cCal1:Con Try.prog where
  f:=47
  sem:=fun xs=>match xs with
    | [.sc (.v (.int .i64 x)),.sc (.v (.int .i64 y))]=>some (True,.tv (tN .i64 (IntKind.i64.wrap (x-y))))
    | _=>none
  ok := by
    intro xs p r' h hp
    refine ⟨⟨_,Try.func47,by kernel_rfl,rfl⟩,fun us w ha=>?_⟩
    split at h
    · rename_i x y
      cases h
      refine fn_ret (cxOk Try.prog ints_ok [] []) follows Try.func47 rfl 100 _ rfl (by simp) ?_ ha
      repeat' first
        | exact trivial
        | (refine And.intro (show regChk _ _ _ _ _=true from by kernel_rfl) (And.intro ?_ ?_))
        | (refine And.intro (fun _=>?_) (fun h=>absurd (show true=false from h) (by decide)))
        | (refine And.intro (fun h=>absurd (show false=true from h) (by decide)) (fun _=>?_))
        | (refine And.intro (fun hb=>?_) (fun hb'=>?_))
        | refine And.intro ?_ ?_
      all_goals first
        | (show some (CR.tv (tN _ _))=some (CR.tv (tN _ _));rfl)
        | (show (_:Nat)=(_:Nat);rfl)
        | (show (_:Nat)≤1000;decide)
        | (show (_:Int)=(_:Int);rfl)
        | (show (_:Int)≤_;decide)
        | (show (_:Int)<_;decide)
        -- PVC
    · cases h
def cCal2:Con Try.prog where
  f:=48
  sem:=fun xs=>match xs with
    | [.sc (.v (.int .i64 x)),.sc (.v (.int .i64 y)),.rptr [.v (.int .i64 d)]]=>some (True,.tv (tN .i64 (IntKind.i64.wrap (x-IntKind.i64.wrap (y*d)))))
    | _=>none
  ok := by
    intro xs p r' h hp
    refine ⟨⟨_,Try.func48,by kernel_rfl,rfl⟩,fun us w ha=>?_⟩
    split at h
    · rename_i x y d
      cases h
      refine fn_ret (cxOk Try.prog ints_ok [] []) follows Try.func48 rfl 100 _ rfl (by simp) ?_ ha
      repeat' first
        | exact trivial
        | (refine And.intro (show regChk _ _ _ _ _=true from by kernel_rfl) (And.intro ?_ ?_))
        | (refine And.intro (fun _=>?_) (fun h=>absurd (show true=false from h) (by decide)))
        | (refine And.intro (fun h=>absurd (show false=true from h) (by decide)) (fun _=>?_))
        | (refine And.intro (fun hb=>?_) (fun hb'=>?_))
        | refine And.intro ?_ ?_
      all_goals first
        | (show some (CR.tv (tN _ _))=some (CR.tv (tN _ _));rfl)
        | (show (_:Nat)=(_:Nat);rfl)
        | (show (_:Nat)≤1000;decide)
        | (show (_:Int)=(_:Int);rfl)
        | (show (_:Int)≤_;decide)
        | (show (_:Int)<_;decide)
        -- PVC
    · cases h
def cEachC1:Con Try.prog where
  f:=44
  sem:=fun xs=>match xs with
    | [.row 3 [.v (.int .i64 a),.v (.int .i64 b),.v (.int .i64 c)],.row 3 [.v (.int .i64 d),.v (.int .i64 e),.v (.int .i64 f)],.clo g []]=>if g=47 then some (True,.new 2 3 1 [.v (.int .i64 (IntKind.i64.wrap (a-d))),.v (.int .i64 (IntKind.i64.wrap (b-e))),.v (.int .i64 (IntKind.i64.wrap (c-f)))]) else none
    | _=>none
  ok := by
    intro xs p r' h hp
    refine ⟨⟨_,Try.func44,by kernel_rfl,rfl⟩,fun us w ha=>?_⟩
    split at h
    · rename_i a b c d e f g
      split at h
      case isFalse=>cases h
      rename_i hf
      subst hf
      cases h
      refine fnu_ret (cxOk Try.prog ints_ok [] [cCal1]) follows [0,1,2,6,9,10,11] Try.func44 rfl 100 _ rfl (by simp) ?_ ha
      repeat' first
        | exact trivial
        | (refine And.intro (show regChk _ _ _ _ _=true from by kernel_rfl) (And.intro ?_ ?_))
        | (refine And.intro (fun _=>?_) (fun h=>absurd (show true=false from h) (by decide)))
        | (refine And.intro (fun h=>absurd (show false=true from h) (by decide)) (fun _=>?_))
        | (refine And.intro (fun hb=>?_) (fun hb'=>?_))
        | refine And.intro ?_ ?_
      all_goals first
        | (show some (CR.new _ _ _ _)=some (CR.new _ _ _ _);rfl)
        | (show (_:Int)≤_;decide)
        | (show (_:Int)<_;decide)
        | (show (_:Nat)=(_:Nat);rfl)
        | (show (_:Nat)≤1000;decide)
        | (show (_:Int)=(_:Int);rfl)
        | (show (_:Int)≤_;decide)
        | (show (_:Int)<_;decide)
        -- PVC
    · cases h
def cEachC2:Con Try.prog where
  f:=44
  sem:=fun xs=>match xs with
    | [.row 3 [.v (.int .i64 a),.v (.int .i64 b),.v (.int .i64 c)],.row 3 [.v (.int .i64 d),.v (.int .i64 e),.v (.int .i64 f)],.clo g [[.v (.int .i64 k)]]]=>if g=48 then some (True,.new 2 3 1 [.v (.int .i64 (IntKind.i64.wrap (a-IntKind.i64.wrap (d*k)))),.v (.int .i64 (IntKind.i64.wrap (b-IntKind.i64.wrap (e*k)))),.v (.int .i64 (IntKind.i64.wrap (c-IntKind.i64.wrap (f*k))))]) else none
    | _=>none
  ok := by
    intro xs p r' h hp
    refine ⟨⟨_,Try.func44,by kernel_rfl,rfl⟩,fun us w ha=>?_⟩
    split at h
    · rename_i a b c d e f g k
      split at h
      case isFalse=>cases h
      rename_i hf
      subst hf
      cases h
      refine fnu_ret (cxOk Try.prog ints_ok [] [cCal2]) follows [0,1,2,6,9,10,11] Try.func44 rfl 100 _ rfl (by simp) ?_ ha
      repeat' first
        | exact trivial
        | (refine And.intro (show regChk _ _ _ _ _=true from by kernel_rfl) (And.intro ?_ ?_))
        | (refine And.intro (fun _=>?_) (fun h=>absurd (show true=false from h) (by decide)))
        | (refine And.intro (fun h=>absurd (show false=true from h) (by decide)) (fun _=>?_))
        | (refine And.intro (fun hb=>?_) (fun hb'=>?_))
        | refine And.intro ?_ ?_
      all_goals first
        | (show some (CR.new _ _ _ _)=some (CR.new _ _ _ _);rfl)
        | (show (_:Int)≤_;decide)
        | (show (_:Int)<_;decide)
        | (show (_:Nat)=(_:Nat);rfl)
        | (show (_:Nat)≤1000;decide)
        | (show (_:Int)=(_:Int);rfl)
        | (show (_:Int)≤_;decide)
        | (show (_:Int)<_;decide)
        -- PVC
    · cases h
def cPlain:Con Try.prog where
  f:=22
  sem:=fun xs=>match xs with
    | []=>some (True,.tv (.agg [.v (.int .i64 0),.v (.int .i64 0),.v (.int .i64 0),.v (.int .i64 0),.v (.int .i64 0),.v (.int .i64 0),.v (.int .i64 0),.v (.int .i64 1073741824),.v (.int .i64 0),.v (.int .i64 0),.v (.int .i64 0),.v (.int .i64 1073741824),.v (.int .i64 0),.v (.int .i64 0),.v (.int .i64 0),.v (.int .i64 1073741824)]))
    | _=>none
  ok := by
    intro xs p r' h hp
    refine ⟨⟨_,Try.func22,by kernel_rfl,rfl⟩,fun us w ha=>?_⟩
    split at h
    · skip
      cases h
      refine fn_ret (cxOk Try.prog ints_ok [] []) follows Try.func22 rfl 100 _ rfl (by simp) ?_ ha
      repeat' first
        | exact trivial
        | (refine And.intro (show regChk _ _ _ _ _=true from by kernel_rfl) (And.intro ?_ ?_))
        | (refine And.intro (fun _=>?_) (fun h=>absurd (show true=false from h) (by decide)))
        | (refine And.intro (fun h=>absurd (show false=true from h) (by decide)) (fun _=>?_))
        | (refine And.intro (fun hb=>?_) (fun hb'=>?_))
        | refine And.intro ?_ ?_
      all_goals first
        | (show some (CR.tv (.agg _))=some (CR.tv (.agg _));rfl)
        | (show (_:Nat)=(_:Nat);rfl)
        | (show (_:Nat)≤1000;decide)
        | (show (_:Int)=(_:Int);rfl)
        | (show (_:Int)≤_;decide)
        | (show (_:Int)<_;decide)
        -- PVC
    · cases h
theorem congr3 {α β:Type} (f:α→α→α→β) {a a' b b' c c':α} (h1:a=a') (h2:b=b') (h3:c=c'):f a b c=f a' b' c':=by rw [h1,h2,h3]
def cCal:Con Try.prog where
  f:=23
  sem:=fun xs=>match xs with
    | [.agg [.v (.int .i64 b1),.v (.int .i64 b2),.v (.int .i64 b3),.v (.int .i64 k1),.v (.int .i64 k2),.v (.int .i64 k3),.v (.int .i64 rf),.v (.int .i64 m0),.v (.int .i64 m1),.v (.int .i64 m2),.v (.int .i64 m3),.v (.int .i64 m4),.v (.int .i64 m5),.v (.int .i64 m6),.v (.int .i64 m7),.v (.int .i64 m8)],.agg [.v (.int .i64 x),.v (.int .i64 y),.v (.int .i64 z),.v (.int .i64 t)]]=>some (True,.tv (tV4 (calR b1 b2 b3 k1 k2 k3 rf m0 m1 m2 m3 m4 m5 m6 m7 m8 x y z t)))
    | _=>none
  ok := by
    intro xs p r' h hp
    refine ⟨⟨_,Try.func23,by kernel_rfl,rfl⟩,fun us w ha=>?_⟩
    split at h
    · rename_i b1 b2 b3 k1 k2 k3 rf m0 m1 m2 m3 m4 m5 m6 m7 m8 x y z t
      cases h
      refine fnu_ret (cxOk Try.prog ints_ok [] [cCalGood,cGoodRaw,cRaw,cVOf,conOr cEachC1 cEachC2 rfl,cSum,cPower,cRound,cVTold]) follows [2,3,4,5,7,8,9] Try.func23 rfl 100 _ rfl (by simp) ?_ ha
      repeat' first
        | exact trivial
        | (refine And.intro (show regChk _ _ _ _ _=true from by kernel_rfl) (And.intro ?_ ?_))
        | (refine And.intro (fun _=>?_) (fun h=>absurd (show true=false from h) (by decide)))
        | (refine And.intro (fun h=>absurd (show false=true from h) (by decide)) (fun _=>?_))
        | (refine And.intro (fun hb=>?_) (fun hb'=>?_))
        | refine And.intro ?_ ?_
        | (intro (hg:(_:Bool)=true))
        | (intro (hg:(_:Bool)=false))
      all_goals first
        | (show some (CR.tv (.tup _))=some (CR.tv (tV4 _));first|exact v4_eq (cal_bad (by assumption))|exact v4_eq (cal_ok (show badC b1 b2 b3 k1 k2 k3 rf m0 m1 m2 m3 m4 m5 m6 m7 m8 x y z t=false from by assumption) (congr3 vT (q30_eq _) (q30_eq _) (q30_eq _))))
        | (show (_:Bool)=(_:Bool);first|assumption|exact beq_iff_eq.2 (by assumption))
        | (show (_:Int)≠0;decide)
        | (show Int.natAbs _<(_:Nat);decide)
        | (show Len0 _;have hk:=calm (show badC b1 b2 b3 k1 k2 k3 rf m0 m1 m2 m3 m4 m5 m6 m7 m8 x y z t=false from by assumption);first|exact dot_lenI hk.1 hk.2.1 hk.2.2.1 (wI _) (wI _) (wI _)|exact dot_lenI hk.2.2.2.1 hk.2.2.2.2.1 hk.2.2.2.2.2.1 (wI _) (wI _) (wI _)|exact dot_lenI hk.2.2.2.2.2.2.1 hk.2.2.2.2.2.2.2.1 hk.2.2.2.2.2.2.2.2 (wI _) (wI _) (wI _))
        | (show (_:Int)≤_;have hk:=calm (show badC b1 b2 b3 k1 k2 k3 rf m0 m1 m2 m3 m4 m5 m6 m7 m8 x y z t=false from by assumption);first|exact (wI _).1|exact hk.1.1|exact hk.2.1.1|exact hk.2.2.1.1|exact hk.2.2.2.1.1|exact hk.2.2.2.2.1.1|exact hk.2.2.2.2.2.1.1|exact hk.2.2.2.2.2.2.1.1|exact hk.2.2.2.2.2.2.2.1.1|exact hk.2.2.2.2.2.2.2.2.1|decide)
        | (show (_:Int)<_;have hk:=calm (show badC b1 b2 b3 k1 k2 k3 rf m0 m1 m2 m3 m4 m5 m6 m7 m8 x y z t=false from by assumption);first|exact (wI _).2|exact hk.1.2|exact hk.2.1.2|exact hk.2.2.1.2|exact hk.2.2.2.1.2|exact hk.2.2.2.2.1.2|exact hk.2.2.2.2.2.1.2|exact hk.2.2.2.2.2.2.1.2|exact hk.2.2.2.2.2.2.2.1.2|exact hk.2.2.2.2.2.2.2.2.2|decide)
        | (intro hg;first|assumption|exact beq_iff_eq.2 hg)
        | (show (_:Nat)=(_:Nat);rfl)
        | (show (_:Nat)≤1000;decide)
        | (show (_:Int)=(_:Int);rfl)
        | (show (_:Int)≤_;decide)
        | (show (_:Int)<_;decide)
        -- PVC
    · cases h
def cWakes10:Con Try.prog where
  f:=25
  sem:=fun xs=>match xs with
    | []=>some (True,.tv (tB true))
    | _=>none
  ok := by
    intro xs p r' h hp
    refine ⟨⟨_,Try.func25,by kernel_rfl,rfl⟩,fun us w ha=>?_⟩
    split at h
    · skip
      cases h
      refine fn_ret (cxOk Try.prog ints_ok [eqVec] [cPlain,cCal,cNum10]) follows Try.func25 rfl 100 _ rfl (by simp) ?_ ha
      repeat' first
        | exact trivial
        | (refine And.intro (show regChk _ _ _ _ _=true from by kernel_rfl) (And.intro ?_ ?_))
        | (refine And.intro (fun _=>?_) (fun h=>absurd (show true=false from h) (by decide)))
        | (refine And.intro (fun h=>absurd (show false=true from h) (by decide)) (fun _=>?_))
        | (refine And.intro (fun hb=>?_) (fun hb'=>?_))
        | refine And.intro ?_ ?_
        | intro _
      all_goals first
        | (show some (CR.tv (tB _))=some (CR.tv (tB _));exact tB_eq (by decide +kernel))
        | (show (_:Bool)=(_:Bool);first|assumption|exact beq_iff_eq.2 (by assumption)|(exact and_tt (by first|assumption|exact beq_iff_eq.2 (by assumption)) (by first|assumption|exact beq_iff_eq.2 (by assumption))))
        | (show (_:Nat)=(_:Nat);rfl)
        | (show (_:Nat)≤1000;decide)
        | (show (_:Int)=(_:Int);rfl)
        | (show (_:Int)≤_;decide)
        | (show (_:Int)<_;decide)
        -- PVC
    · cases h
end
end Go.Proofs.Ytonelbidndjhdaa.Wh
end
section
namespace Go.Proofs.Ytonelbidndjhdaa.QN90
open RowKit YtonelbidndjhdaaW.PrintWords YtonelbidndjhdaaW.PrintLast YtonelbidndjhdaaW.PrintMore
attribute [local go_sem] max2_int min2_int max_two min_two max_three min_three max_four min_four   -- for this text's walks alone
set_option linter.unusedVariables false
set_option linter.unusedSimpArgs false
def errW:Option Int→Value
  | none => .nilIface
  | some c => .iface 0 (.int .i64 c)
theorem errW_none:errW none = .nilIface:=rfl
theorem errW_some (c:Int):errW (some c) = .iface 0 (.int .i64 c):=rfl
theorem info104:(Try.prog.info? 104).map (fun i=>(i.zero,i.size,i.bytes))=some (some (.int .u64 0),1,8):=by kernel_rfl
theorem info145:(Try.prog.info? 145).map (fun i=>(i.zero,i.size,i.bytes))=some (some (.int .u32 0),1,4):=by kernel_rfl
end Go.Proofs.Ytonelbidndjhdaa.QN90
end
section
namespace Go.Proofs.Ytonelbidndjhdaa.QN90
open RowKit YtonelbidndjhdaaW.PrintWords YtonelbidndjhdaaW.PrintLast YtonelbidndjhdaaW.PrintMore
attribute [local go_sem] max2_int min2_int max_two min_two max_three min_three max_four min_four   -- for this text's walks alone
set_option linter.unusedVariables false
set_option linter.unusedSimpArgs false
def gimbalref90_NTrim.l0:Nat→List Int→Int→Option (List Int)
  | 0,_,_=>none
  | k+1,x0,x3=>if x3>0 then (if 0≤(wrap64 (x3-1)) then (if (wrap64 (x3-1))<(x0.length:Int) then (if (rd x0 (wrap64 (x3-1)))=0 then (gimbalref90_NTrim.l0 k x0 (wrap64 (x3-1))) else (if 0≤x3 then (if x3≤(x0.length:Int) then (some (x0.take (x3:Int).toNat)) else (none)) else (none))) else (none)) else (none)) else (if 0≤x3 then (if x3≤(x0.length:Int) then (some (x0.take (x3:Int).toNat)) else (none)) else (none))
def gimbalref90_NTrim.f (k:Nat) (l0:List Int):Option (List Int):=gimbalref90_NTrim.l0 k l0 (l0.length:Int)
theorem gimbalref90_NTrim.mono_l:∀ k,(∀ y0 y1,LeO (gimbalref90_NTrim.l0 k y0 y1) (gimbalref90_NTrim.l0 (k+1) y0 y1))
  | 0=>fun _ _ r h=>by simp [gimbalref90_NTrim.l0] at h
  | k + 1 => by
    have ih0:=gimbalref90_NTrim.mono_l k
    · intro y0 y1
      unfold gimbalref90_NTrim.l0
      repeat' first
      | (with_reducible exact ih0 _ _)
      | (with_reducible exact LeO.refl _)
      | (with_reducible exact LeO.none _)
      | (with_reducible refine LeO.ite ?_ ?_)
      | (with_reducible refine LeO.bind ?_ (fun _=>?_))
      | exact ih0 _ _
      | exact LeO.none _
      | refine LeO.ite ?_ ?_
      | refine LeO.bind ?_ (fun _=>?_)
theorem gimbalref90_NTrim.mono:∀ a0 k,LeO (gimbalref90_NTrim.f k a0) (gimbalref90_NTrim.f (k+1) a0):=by
  intro a0 k
  have ih0:=gimbalref90_NTrim.mono_l k
  unfold gimbalref90_NTrim.f
  repeat' first
      | (with_reducible exact ih0 _ _)
      | (with_reducible exact LeO.refl _)
      | (with_reducible exact LeO.none _)
      | (with_reducible refine LeO.ite ?_ ?_)
      | (with_reducible refine LeO.bind ?_ (fun _=>?_))
      | exact ih0 _ _
      | exact LeO.none _
      | refine LeO.ite ?_ ?_
      | refine LeO.bind ?_ (fun _=>?_)
set_option maxHeartbeats 8000000 in
set_option maxRecDepth 100000 in
theorem gimbalref90_NTrim.calls (k:Nat) (P0_:Nat→Prop) (u9000_:Value) (l0:List Int) (r:List Int) (w0 w:World) (hB:Below w0.heap.size w0 w) (ho0:Kd.R (Kd.int .u64) 104 w w0.heap.size P0_ u9000_ l0) (h:gimbalref90_NTrim.f k l0=some r) :
    Calls Try.prog 107 #[u9000_] w fun e w'=>∃ v0_:Value,e = .returned (v0_)∧Kd.R (Kd.int .u64) 104 w' w0.heap.size (fun k_=>(P0_ k_∨w.heap.size≤k_)) v0_ r∧Below w0.heap.size w0 w'∧Kept w w' (fun k_=>P0_ k_):=by
  have HO0:=Aside0.mk (show Kd.R (Kd.int .u64) 104 w w0.heap.size (fun k_=>(P0_ k_∨w.heap.size≤k_)) u9000_ l0 from Kd.R_mono ho0 (fun k_ hk=>(.inl hk)))
  have HK:=Aside0.mk (Kept.refl w (fun k_=>P0_ k_))
  have HW0:=Aside0.mk hB.size
  have HB:=Aside0.mk hB
  clear hB
  have H:(gimbalref90_NTrim.l0 k l0 (l0.length:Int))=some r:=h
  clear h
  have H':=Aside0.mk H
  clear H
  obtain ⟨Ao2,co2,eo2⟩:=Kd.R_slice HO0.out
  subst eo2
  go_enter Try.func107,Try.ntmps107
  go_wp2
  go_loopg [3] k (fun kq v3 w'=>∃ (x3_1:Int),v3 = .int .i64 x3_1∧Aside0 (gimbalref90_NTrim.l0 kq l0 x3_1=some r)∧Aside0 (kq≤k)∧Aside0 (Kd.R (Kd.int .u64) 104 w' w0.heap.size (fun k_=>(P0_ k_∨w.heap.size≤k_)) (.slice Ao2 l0.length co2) l0)∧Aside0 (Kept w w' (fun k_=>P0_ k_))∧Aside0 (Below w0.heap.size w0 w'))
  case atStart=>exact ⟨((l0.length:Int)),(by first|rfl|(simp;done)|(simp [*];done)),H',⟨Nat.le_refl _⟩,⟨by (with_reducible repeat (first|apply Kd.R_alloc|apply Kd.R_drewN|apply Kd.R_drew));exact HO0.out⟩,⟨by repeat (first|(with_reducible first|exact HK.out|apply Kept.alloc|apply Kept.drewN|apply Kept.drew)|exact HK.out)⟩,⟨by repeat (first|(with_reducible first|exact HB.out|apply below_alloc|apply pw_below_drewN|apply below_drew1)|exact HB.out)⟩⟩
  case round =>
    clear H'
    try clear c1
    try clear p2
    obtain ⟨x3_1,rfl,HA,HK1,HO_0,HK,HB⟩:=hrel
    cases gk with
    | zero=>exact absurd HA.out (by simp [gimbalref90_NTrim.l0])
    | succ k1 =>
      have H:=HA.out
      clear HA
      simp only [gimbalref90_NTrim.l0] at H
      by_cases c3:x3_1>0
      · rw [if_pos c3] at H
        have c3b0:decide (0<x3_1)=true:=decide_eq_true c3
        clear c3
        obtain ⟨ji4,hji4⟩:∃ j_:Int,(wrap64 (x3_1-1))=j_:=⟨_,rfl⟩
        replace H:(if 0≤(ji4) then (if (ji4)<(l0.length:Int) then (if (rd l0 (ji4))=0 then (gimbalref90_NTrim.l0 k1 l0 ji4) else (if 0≤x3_1 then (if x3_1≤(l0.length:Int) then (some (l0.take (x3_1:Int).toNat)) else (none)) else (none))) else (none)) else (none))=some r:=by first|(rw [hji4] at H;exact H)|(simp only [hji4] at H ⊢;exact H)
        have hji4w:(IntKind.i64.wrap (x3_1-1))=ji4:=(i64_w _).trans hji4
        by_cases c5:0≤(ji4)
        · rw [if_pos c5] at H
          have c5b0:decide (0≤(ji4))=true:=decide_eq_true c5
          clear c5
          by_cases c6:(ji4)<(l0.length:Int)
          · rw [if_pos c6] at H
            have c6b0:decide ((ji4)<(l0.length:Int))=true:=decide_eq_true c6
            clear c6
            by_cases c7:(rd l0 (ji4))=0
            · rw [if_pos c7] at H
              have c7b0:((rd l0 (ji4)) == 0)=true:=beq_iff_eq.mpr c7
              have c7b1:((rd l0 (ji4)) != 0)=false:=bne_eq_false_iff_eq.mpr c7
              clear c7
              have H':=Aside0.mk H
              clear H
              have p101:0≤((ji4):Int):=of_decide_eq_true (by first|(with_reducible assumption)|assumption)
              have q101:(ji4)<(l0.length:Int):=of_decide_eq_true (by first|(with_reducible assumption)|assumption)
              obtain ⟨ad101,e101,hx101_0⟩:=Kd.at_int (Kd.R_reads' HO_0.out).2.2 (ji4) p101 q101
              cases e101
              replace p101:=eq_true p101
              replace q101:=eq_true q101
              go_wp2
              go_roundg k1
              case measure=>have:=HK1.out;omega
              case rel=>exact ⟨(ji4),(by first|rfl|(simp;done)|(simp only [← hji4]<;>(first|rfl|simp))|(simp [*];done)),H',⟨by have:=HK1.out;omega⟩,⟨by (with_reducible repeat (first|apply Kd.R_alloc|apply Kd.R_drewN|apply Kd.R_drew));exact HO_0.out⟩,⟨by repeat (first|(with_reducible first|exact HK.out|apply Kept.alloc|apply Kept.drewN|apply Kept.drew)|exact HK.out)⟩,⟨by repeat (first|(with_reducible first|exact HB.out|apply below_alloc|apply pw_below_drewN|apply below_drew1)|exact HB.out)⟩⟩
            · rw [if_neg c7] at H
              have c7b0:((rd l0 (ji4)) == 0)=false:=beq_eq_false_iff_ne.mpr c7
              have c7b1:((rd l0 (ji4)) != 0)=true:=bne_iff_ne.mpr c7
              by_cases c8:0≤x3_1
              · rw [if_pos c8] at H
                have c8b0:=eq_true c8
                have c8b1:decide (0≤x3_1)=true:=decide_eq_true c8
                clear c8
                by_cases c9:x3_1≤(l0.length:Int)
                · rw [if_pos c9] at H
                  have c9b0:=eq_true c9
                  have c9b1:decide (x3_1≤(l0.length:Int))=true:=decide_eq_true c9
                  clear c9
                  obtain ⟨y102,hy102⟩:∃ y_:List Int,y_=(l0.take (x3_1:Int).toNat):=⟨_,rfl⟩
                  replace H:(some y102)=some r:=by first|(rw [hy102];with_reducible exact H)|(have H2_:=(Option.bind_some _ _).symm.trans H;rw [hy102];with_reducible exact H2_)|(have H2_:=(Option.bind_some _ _).symm.trans H;with_reducible exact H2_)|with_reducible exact H|(rw [hy102];exact H)|exact H
                  have Ny102:=Aside0.mk hy102
                  clear hy102
                  obtain rfl:=Option.some.inj H
                  have p101:0≤((ji4):Int):=of_decide_eq_true (by first|(with_reducible assumption)|assumption)
                  have q101:(ji4)<(l0.length:Int):=of_decide_eq_true (by first|(with_reducible assumption)|assumption)
                  obtain ⟨ad101,e101,hx101_0⟩:=Kd.at_int (Kd.R_reads' HO_0.out).2.2 (ji4) p101 q101
                  cases e101
                  replace p101:=eq_true p101
                  replace q101:=eq_true q101
                  have q10:(x3_1:Int)≤((l0.length:Int):Int):=of_decide_eq_true (by first|(with_reducible assumption)|assumption)
                  obtain ⟨i010,hi010,_,hsz10,_⟩:=info_parts info104
                  have hcut10:=cut_to (P:=Try.prog) 89 104 .i64 Try.underlying89 hi010 (some ad101) l0.length co2 x3_1 (of_decide_eq_true (by first|(with_reducible assumption)|assumption)) q10 (Kd.R_reads' HO_0.out).2.1
                  have hr10:=Kd.R_take (m:=(x3_1:Int).toNat) HO_0.out (by omega)
                  have hy10:y102.length=(x3_1:Int).toNat:=(by rw [Ny102.out,List.length_take];omega)
                  rw [← Ny102.out] at hr10
                  rw [← hy10] at hr10 hcut10
                  clear hy10 hi010 hsz10 HO_0
                  have HO104:=Aside0.mk hr10
                  clear hr10
                  replace q10:=eq_true q10
                  go_wp2
                  go_ret
                  exact ⟨_,by first|rfl|(simp [errW_none,errW_some]<;>rfl)|(simp only [← hji4];first|rfl|(simp [errW_none,errW_some]<;>rfl))|(simp [*,errW_none,errW_some]<;>rfl),by (with_reducible repeat (first|apply Kd.R_alloc|apply Kd.R_drewN|apply Kd.R_drew));exact HO104.out,by repeat (first|(with_reducible first|exact HB.out|apply below_alloc|apply pw_below_drewN|apply below_drew1)|exact HB.out),by repeat (first|(with_reducible first|exact HK.out|apply Kept.alloc|apply Kept.drewN|apply Kept.drew)|exact HK.out)⟩
                · rw [if_neg c9] at H
                  exact absurd H (by simp)
              · rw [if_neg c8] at H
                exact absurd H (by simp)
          · rw [if_neg c6] at H
            exact absurd H (by simp)
        · rw [if_neg c5] at H
          exact absurd H (by simp)
      · rw [if_neg c3] at H
        have c3b0:decide (0<x3_1)=false:=decide_eq_false c3
        clear c3
        by_cases c11:0≤x3_1
        · rw [if_pos c11] at H
          have c11b0:=eq_true c11
          have c11b1:decide (0≤x3_1)=true:=decide_eq_true c11
          clear c11
          by_cases c12:x3_1≤(l0.length:Int)
          · rw [if_pos c12] at H
            have c12b0:=eq_true c12
            have c12b1:decide (x3_1≤(l0.length:Int))=true:=decide_eq_true c12
            clear c12
            obtain ⟨y105,hy105⟩:∃ y_:List Int,y_=(l0.take (x3_1:Int).toNat):=⟨_,rfl⟩
            replace H:(some y105)=some r:=by first|(rw [hy105];with_reducible exact H)|(have H2_:=(Option.bind_some _ _).symm.trans H;rw [hy105];with_reducible exact H2_)|(have H2_:=(Option.bind_some _ _).symm.trans H;with_reducible exact H2_)|with_reducible exact H|(rw [hy105];exact H)|exact H
            have Ny105:=Aside0.mk hy105
            clear hy105
            obtain rfl:=Option.some.inj H
            have q13:(x3_1:Int)≤((l0.length:Int):Int):=of_decide_eq_true (by first|(with_reducible assumption)|assumption)
            obtain ⟨i013,hi013,_,hsz13,_⟩:=info_parts info104
            have hcut13:=cut_to (P:=Try.prog) 89 104 .i64 Try.underlying89 hi013 Ao2 l0.length co2 x3_1 (of_decide_eq_true (by first|(with_reducible assumption)|assumption)) q13 (Kd.R_reads' HO_0.out).2.1
            have hr13:=Kd.R_take (m:=(x3_1:Int).toNat) HO_0.out (by omega)
            have hy13:y105.length=(x3_1:Int).toNat:=(by rw [Ny105.out,List.length_take];omega)
            rw [← Ny105.out] at hr13
            rw [← hy13] at hr13 hcut13
            clear hy13 hi013 hsz13 HO_0
            have HO107:=Aside0.mk hr13
            clear hr13
            replace q13:=eq_true q13
            go_wp2
            go_ret
            exact ⟨_,by first|rfl|(simp [errW_none,errW_some]<;>rfl)|(simp [*,errW_none,errW_some]<;>rfl),by (with_reducible repeat (first|apply Kd.R_alloc|apply Kd.R_drewN|apply Kd.R_drew));exact HO107.out,by repeat (first|(with_reducible first|exact HB.out|apply below_alloc|apply pw_below_drewN|apply below_drew1)|exact HB.out),by repeat (first|(with_reducible first|exact HK.out|apply Kept.alloc|apply Kept.drewN|apply Kept.drew)|exact HK.out)⟩
          · rw [if_neg c12] at H
            exact absurd H (by simp)
        · rw [if_neg c11] at H
          exact absurd H (by simp)
def gimbalref90_NLen.l0:Nat→Int→Int→Option (Int)
  | 0,_,_=>none
  | k+1,x3,x4=>if x4=0 then (some x3) else (gimbalref90_NLen.l0 k (wrap64 (x3+1)) (x4/2))
def gimbalref90_NLen.f (k:Nat) (l0:List Int):Option (Int):=if (l0.length:Int)=0 then (some 0) else (if 0≤(wrap64 ((l0.length:Int)-1)) then (if (wrap64 ((l0.length:Int)-1))<(l0.length:Int) then (gimbalref90_NLen.l0 k (wrap64 (64*(wrap64 ((l0.length:Int)-1)))) (rd l0 (wrap64 ((l0.length:Int)-1)))) else (none)) else (none))
theorem gimbalref90_NLen.mono_l:∀ k,(∀ y0 y1,LeO (gimbalref90_NLen.l0 k y0 y1) (gimbalref90_NLen.l0 (k+1) y0 y1))
  | 0=>fun _ _ r h=>by simp [gimbalref90_NLen.l0] at h
  | k + 1 => by
    have ih0:=gimbalref90_NLen.mono_l k
    · intro y0 y1
      unfold gimbalref90_NLen.l0
      repeat' first
      | (with_reducible exact ih0 _ _)
      | (with_reducible exact LeO.refl _)
      | (with_reducible exact LeO.none _)
      | (with_reducible refine LeO.ite ?_ ?_)
      | (with_reducible refine LeO.bind ?_ (fun _=>?_))
      | exact ih0 _ _
      | exact LeO.none _
      | refine LeO.ite ?_ ?_
      | refine LeO.bind ?_ (fun _=>?_)
theorem gimbalref90_NLen.mono:∀ a0 k,LeO (gimbalref90_NLen.f k a0) (gimbalref90_NLen.f (k+1) a0):=by
  intro a0 k
  have ih0:=gimbalref90_NLen.mono_l k
  unfold gimbalref90_NLen.f
  repeat' first
      | (with_reducible exact ih0 _ _)
      | (with_reducible exact LeO.refl _)
      | (with_reducible exact LeO.none _)
      | (with_reducible refine LeO.ite ?_ ?_)
      | (with_reducible refine LeO.bind ?_ (fun _=>?_))
      | exact ih0 _ _
      | exact LeO.none _
      | refine LeO.ite ?_ ?_
      | refine LeO.bind ?_ (fun _=>?_)
set_option maxHeartbeats 8000000 in
set_option maxRecDepth 100000 in
theorem gimbalref90_NLen.calls (k:Nat) (A0:Option Addr) (c0:Nat) (l0:List Int) (r:Int) (w:World) (hr0:Kd.C (Kd.int .u64) w A0 l0.length l0) (hc0:l0.length≤c0) (h:gimbalref90_NLen.f k l0=some r) :
    Calls Try.prog 132 #[.slice A0 l0.length c0] w fun e w'=>e = .returned (.int .i64 r)∧Drawn0 w w':=by
  have HR0:=Aside0.mk hr0
  have HC0:=Aside0.mk hc0
  clear hr0 hc0
  have H:(if (l0.length:Int)=0 then (some 0) else (if 0≤(wrap64 ((l0.length:Int)-1)) then (if (wrap64 ((l0.length:Int)-1))<(l0.length:Int) then (gimbalref90_NLen.l0 k (wrap64 (64*(wrap64 ((l0.length:Int)-1)))) (rd l0 (wrap64 ((l0.length:Int)-1)))) else (none)) else (none)))=some r:=h
  clear h
  by_cases c2:(l0.length:Int)=0
  · rw [if_pos c2] at H
    have c2b0:((l0.length:Int) == 0)=true:=beq_iff_eq.mpr c2
    have c2b1:((l0.length:Int) != 0)=false:=bne_eq_false_iff_eq.mpr c2
    clear c2
    obtain rfl:=Option.some.inj H
    go_enter Try.func132,Try.ntmps132
    go_wp2
    go_ret
    exact ⟨by first|rfl|(simp;done)|(simp [*];done),by repeat (first|exact Drawn0.refl _|apply Drawn0.step)⟩
  · rw [if_neg c2] at H
    have c2b0:((l0.length:Int) == 0)=false:=beq_eq_false_iff_ne.mpr c2
    have c2b1:((l0.length:Int) != 0)=true:=bne_iff_ne.mpr c2
    have c2b2:¬ (l0=[]):=fun h_=>c2 (by rw [h_];rfl)
    obtain ⟨ji3,hji3⟩:∃ j_:Int,(wrap64 ((l0.length:Int)-1))=j_:=⟨_,rfl⟩
    replace H:(if 0≤(ji3) then (if (ji3)<(l0.length:Int) then (gimbalref90_NLen.l0 k (wrap64 (64*(ji3))) (rd l0 (ji3))) else (none)) else (none))=some r:=by first|(rw [hji3] at H;exact H)|(simp only [hji3] at H ⊢;exact H)
    have hji3w:(IntKind.i64.wrap ((l0.length:Int)-1))=ji3:=(i64_w _).trans hji3
    by_cases c4:0≤(ji3)
    · rw [if_pos c4] at H
      have c4b0:decide (0≤(ji3))=true:=decide_eq_true c4
      clear c4
      by_cases c5:(ji3)<(l0.length:Int)
      · rw [if_pos c5] at H
        have c5b0:decide ((ji3)<(l0.length:Int))=true:=decide_eq_true c5
        clear c5
        have H':=Aside0.mk H
        clear H
        have p108:0≤((ji3):Int):=of_decide_eq_true (by first|(with_reducible assumption)|assumption)
        have q108:(ji3)<(l0.length:Int):=of_decide_eq_true (by first|(with_reducible assumption)|assumption)
        obtain ⟨ad108,e108,hx108_0⟩:=Kd.at_int HR0.out (ji3) p108 q108
        cases e108
        replace p108:=eq_true p108
        replace q108:=eq_true q108
        go_enter Try.func132,Try.ntmps132
        go_wp2
        go_loopg [3,4] k (fun kq v3 v4 w'=>∃ (x3_1:Int) (x4_1:Int),v3 = .int .i64 x3_1∧v4 = .int .u64 x4_1∧Aside0 (gimbalref90_NLen.l0 kq x3_1 x4_1=some r)∧Aside0 (kq≤k)∧Drawn0 w w')
        case atStart=>exact ⟨(wrap64 (64*(ji3))),(rd l0 (ji3)),(by first|rfl|(simp;done)|(simp only [← hji3]<;>(first|rfl|simp))|(simp [*];done)),(by first|rfl|(simp;done)|(simp only [← hji3]<;>(first|rfl|simp))|(simp [*];done)),H',⟨Nat.le_refl _⟩,by repeat (first|exact Drawn0.refl _|apply Drawn0.step)⟩
        case round =>
          clear H'
          try clear c1
          try clear p1
          try clear q1
          try clear hx1
          try clear c2
          try clear c2b0
          try clear c2b1
          try clear c2b2
          try clear p2
          try clear c4
          try clear c4b0
          try clear c5
          try clear c5b0
          try clear hx108_0
          try clear p108
          try clear q108
          obtain ⟨x3_1,x4_1,rfl,rfl,HA,HK1,⟨m1,rfl⟩⟩:=hrel
          cases gk with
          | zero=>exact absurd HA.out (by simp [gimbalref90_NLen.l0])
          | succ k1 =>
            have H:=HA.out
            clear HA
            simp only [gimbalref90_NLen.l0] at H
            by_cases c6:x4_1=0
            · rw [if_pos c6] at H
              have c6b0:(x4_1 == 0)=true:=beq_iff_eq.mpr c6
              have c6b1:(x4_1 != 0)=false:=bne_eq_false_iff_eq.mpr c6
              clear c6
              obtain rfl:=Option.some.inj H
              go_wp2
              go_ret
              exact ⟨by first|rfl|(simp;done)|(simp only [← hji3]<;>(first|rfl|simp))|(simp [*];done),by repeat (first|exact Drawn0.refl _|apply Drawn0.step)⟩
            · rw [if_neg c6] at H
              have c6b0:(x4_1 == 0)=false:=beq_eq_false_iff_ne.mpr c6
              have c6b1:(x4_1 != 0)=true:=bne_iff_ne.mpr c6
              have H':=Aside0.mk H
              clear H
              go_wp2
              go_roundg k1
              case measure=>have:=HK1.out;omega
              case rel=>exact ⟨(wrap64 (x3_1+1)),(x4_1/2),(by first|rfl|(simp;done)|(simp [*];done)),(by first|rfl|(simp;done)|(simp [*];done)),H',⟨by have:=HK1.out;omega⟩,by repeat (first|exact Drawn0.refl _|apply Drawn0.step)⟩
      · rw [if_neg c5] at H
        exact absurd H (by simp)
    · rw [if_neg c4] at H
      exact absurd H (by simp)
end Go.Proofs.Ytonelbidndjhdaa.QN90
end
section
namespace Go.Proofs.Ytonelbidndjhdaa.QN90
open RowKit YtonelbidndjhdaaW.PrintWords YtonelbidndjhdaaW.PrintLast YtonelbidndjhdaaW.PrintMore
attribute [local go_sem] max2_int min2_int max_two min_two max_three min_three max_four min_four   -- for this text's walks alone
set_option linter.unusedVariables false
set_option linter.unusedSimpArgs false
def gimbalref90_Down2.l0:Nat→List Int→Int→List Int→Int→Option (List Int)
  | 0,_,_,_,_=>none
  | k+1,x0,x5,x6,x7=>if x7<(x0.length:Int) then (if 0≤x7 then (if 0≤x5 then (if x5>0 then (if (wrap64 (x7+1))<(x0.length:Int) then (if 0≤(wrap64 (x7+1)) then (if 0≤(IntKind.u64.wrap (64-x5)) then (if x6.length<17592186044416 then (gimbalref90_Down2.l0 k x0 x5 (x6++[Go.bits .or .u64 (shr .u64 (rd x0 x7) x5) (shl .u64 (rd x0 (wrap64 (x7+1))) (IntKind.u64.wrap (64-x5)))]) (wrap64 (x7+1))) else (none)) else (none)) else (none)) else (if x6.length<17592186044416 then (gimbalref90_Down2.l0 k x0 x5 (x6++[shr .u64 (rd x0 x7) x5]) (wrap64 (x7+1))) else (none))) else (if x6.length<17592186044416 then (gimbalref90_Down2.l0 k x0 x5 (x6++[shr .u64 (rd x0 x7) x5]) (wrap64 (x7+1))) else (none))) else (none)) else (none)) else ((gimbalref90_NTrim.f k x6).bind fun t121=>(some t121))
def gimbalref90_Down2.f (k:Nat) (l0:List Int) (a1:Int):Option (List Int):=(gimbalref90_NLen.f k l0).bind fun t109=>(if a1≥t109 then (some ([]:List Int)) else (gimbalref90_Down2.l0 k l0 (IntKind.u64.wrap (Int.tmod a1 64)) ([]:List Int) (wrap64 (Int.tdiv a1 64))))
theorem gimbalref90_Down2.mono_l:∀ k,(∀ y0 y1 y2 y3,LeO (gimbalref90_Down2.l0 k y0 y1 y2 y3) (gimbalref90_Down2.l0 (k+1) y0 y1 y2 y3))
  | 0=>fun _ _ _ _ r h=>by simp [gimbalref90_Down2.l0] at h
  | k + 1 => by
    have ih0:=gimbalref90_Down2.mono_l k
    · intro y0 y1 y2 y3
      unfold gimbalref90_Down2.l0
      repeat' first
      | (with_reducible exact ih0 _ _ _ _)
      | (with_reducible exact gimbalref90_NLen.mono _ _)
      | (with_reducible exact gimbalref90_NTrim.mono _ _)
      | (with_reducible exact LeO.refl _)
      | (with_reducible exact LeO.none _)
      | (with_reducible refine LeO.ite ?_ ?_)
      | (with_reducible refine LeO.bind ?_ (fun _=>?_))
      | exact ih0 _ _ _ _
      | exact gimbalref90_NLen.mono _ _
      | exact gimbalref90_NTrim.mono _ _
      | exact LeO.none _
      | refine LeO.ite ?_ ?_
      | refine LeO.bind ?_ (fun _=>?_)
theorem gimbalref90_Down2.mono:∀ a0 a1 k,LeO (gimbalref90_Down2.f k a0 a1) (gimbalref90_Down2.f (k+1) a0 a1):=by
  intro a0 a1 k
  have ih0:=gimbalref90_Down2.mono_l k
  unfold gimbalref90_Down2.f
  repeat' first
      | (with_reducible exact ih0 _ _ _ _)
      | (with_reducible exact gimbalref90_NLen.mono _ _)
      | (with_reducible exact gimbalref90_NTrim.mono _ _)
      | (with_reducible exact LeO.refl _)
      | (with_reducible exact LeO.none _)
      | (with_reducible refine LeO.ite ?_ ?_)
      | (with_reducible refine LeO.bind ?_ (fun _=>?_))
      | exact ih0 _ _ _ _
      | exact gimbalref90_NLen.mono _ _
      | exact gimbalref90_NTrim.mono _ _
      | exact LeO.none _
      | refine LeO.ite ?_ ?_
      | refine LeO.bind ?_ (fun _=>?_)
set_option maxHeartbeats 8000000 in
set_option maxRecDepth 100000 in
theorem gimbalref90_Down2.calls (k:Nat) (A0:Option Addr) (c0:Nat) (l0:List Int) (a1:Int) (r:List Int) (w:World) (hr0:Kd.C (Kd.int .u64) w A0 l0.length l0) (hc0:l0.length≤c0) (h:gimbalref90_Down2.f k l0 a1=some r) :
    Calls Try.prog 133 #[.slice A0 l0.length c0,.int .i64 a1] w fun e w'=>∃ v0_:Value,e = .returned (v0_)∧Kd.R (Kd.int .u64) 104 w' w.heap.size (fun _=>True) v0_ r∧Below w.heap.size w w':=by
  have HR0:=Aside0.mk hr0
  have HC0:=Aside0.mk hc0
  clear hr0 hc0
  have HB:=Aside0.mk (Below.refl w.heap.size w)
  have H:((gimbalref90_NLen.f k l0).bind fun t109=>(if a1≥t109 then (some ([]:List Int)) else (gimbalref90_Down2.l0 k l0 (IntKind.u64.wrap (Int.tmod a1 64)) ([]:List Int) (wrap64 (Int.tdiv a1 64)))))=some r:=h
  clear h
  replace H:=Option.bind_eq_some_iff.mp H
  obtain ⟨t109,A30,H⟩:=H
  replace H:(if a1≥t109 then (some ([]:List Int)) else (gimbalref90_Down2.l0 k l0 (IntKind.u64.wrap (Int.tmod a1 64)) ([]:List Int) (wrap64 (Int.tdiv a1 64))))=some r:=H
  have A3:=Aside0.mk A30
  clear A30
  by_cases c4:a1≥t109
  · rw [if_pos c4] at H
    have c4b0:decide (t109≤a1)=true:=decide_eq_true c4
    clear c4
    obtain rfl:=Option.some.inj H
    go_enter Try.func133,Try.ntmps133
    go_wp2_with (first|((with_reducible refine gate_callee (f:=132) rfl ?_);refine goesL_ (some 11) rfl rfl Try.func132 (by kernel_rfl) rfl #[.slice A0 l0.length c0] rfl (by (try simp only [List.map_toArray,List.map_cons,List.map_nil]);first|done|rfl|(simp only [List.length_drop,List.length_take];rfl)) ?_;(with_reducible refine (gimbalref90_NLen.calls k _ _ l0 t109 _ ?side1 ?side2 A3.out).mono ?_);(case side1=>repeat (first|exact HR0.out|(with_reducible refine Kd.C_alloc ?_ _)|(with_reducible refine Kd.C_drewN ?_ _)|(with_reducible refine Kd.C_drew ?_)));(case side2=>exact HC0.out);rintro e w' ⟨rfl,⟨nd,rfl⟩⟩;refine ⟨_,rfl,?_⟩))
    go_ret
    exact ⟨_,by first|rfl|(simp [errW_none,errW_some]<;>rfl)|(simp [*,errW_none,errW_some]<;>rfl),by first|exact Kd.R_nil _ _ _ _ _|exact Kd.N_nil _ _ _ _ _|exact Kd.V_nil _ _ _ _ _|exact Kd.Q_nil _ _ _ _ _|exact Kd.S_nil _ _ _ _ _,by repeat (first|(with_reducible first|exact HB.out|apply below_alloc|apply pw_below_drewN|apply below_drew1)|exact HB.out)⟩
  · rw [if_neg c4] at H
    have c4b0:decide (t109≤a1)=false:=decide_eq_false c4
    clear c4
    have H':=Aside0.mk H
    clear H
    go_enter Try.func133,Try.ntmps133
    go_wp2_with (first|((with_reducible refine gate_callee (f:=132) rfl ?_);refine goesL_ (some 11) rfl rfl Try.func132 (by kernel_rfl) rfl #[.slice A0 l0.length c0] rfl (by (try simp only [List.map_toArray,List.map_cons,List.map_nil]);first|done|rfl|(simp only [List.length_drop,List.length_take];rfl)) ?_;(with_reducible refine (gimbalref90_NLen.calls k _ _ l0 t109 _ ?side1 ?side2 A3.out).mono ?_);(case side1=>repeat (first|exact HR0.out|(with_reducible refine Kd.C_alloc ?_ _)|(with_reducible refine Kd.C_drewN ?_ _)|(with_reducible refine Kd.C_drew ?_)));(case side2=>exact HC0.out);rintro e w' ⟨rfl,⟨nd,rfl⟩⟩;refine ⟨_,rfl,?_⟩))
    go_loopg [6,7] k (fun kq v6 v7 w'=>∃ (x6_1:List Int) (x7_1:Int),v7 = .int .i64 x7_1∧Aside0 (gimbalref90_Down2.l0 kq l0 (IntKind.u64.wrap (Int.tmod a1 64)) x6_1 x7_1=some r)∧Aside0 (kq≤k)∧Aside0 (Kd.R (Kd.int .u64) 104 w' w.heap.size (fun _=>True) v6 x6_1)∧Aside0 (Below w.heap.size w w'))
    case atStart=>exact ⟨(([]:List Int)),(wrap64 (Int.tdiv a1 64)),(by first|rfl|(simp;done)|(simp [*];done)),H',⟨Nat.le_refl _⟩,⟨by first|exact Kd.R_nil _ _ _ _ _|exact Kd.N_nil _ _ _ _ _|exact Kd.V_nil _ _ _ _ _|exact Kd.Q_nil _ _ _ _ _|exact Kd.S_nil _ _ _ _ _⟩,⟨by repeat (first|(with_reducible first|exact HB.out|apply below_alloc|apply pw_below_drewN|apply below_drew1)|exact HB.out)⟩⟩
    case round =>
      clear H'
      try clear c1
      try clear p2
      try clear c4
      try clear c4b0
      obtain ⟨x6_1,x7_1,rfl,HA,HK1,HO_6,HB⟩:=hrel
      cases gk with
      | zero=>exact absurd HA.out (by simp [gimbalref90_Down2.l0])
      | succ k1 =>
        have H:=HA.out
        clear HA
        simp only [gimbalref90_Down2.l0] at H
        by_cases c5:x7_1<(l0.length:Int)
        · rw [if_pos c5] at H
          have c5b0:decide (x7_1<(l0.length:Int))=true:=decide_eq_true c5
          clear c5
          by_cases c6:0≤x7_1
          · rw [if_pos c6] at H
            have c6b0:decide (0≤x7_1)=true:=decide_eq_true c6
            clear c6
            obtain ⟨ji7,hji7⟩:∃ j_:Int,(IntKind.u64.wrap (Int.tmod a1 64))=j_:=⟨_,rfl⟩
            replace H:(if 0≤(ji7) then (if (ji7)>0 then (if (wrap64 (x7_1+1))<(l0.length:Int) then (if 0≤(wrap64 (x7_1+1)) then (if 0≤(IntKind.u64.wrap (64-(ji7))) then (if x6_1.length<17592186044416 then (gimbalref90_Down2.l0 k1 l0 (ji7) (x6_1++[Go.bits .or .u64 (shr .u64 (rd l0 x7_1) (ji7)) (shl .u64 (rd l0 (wrap64 (x7_1+1))) (IntKind.u64.wrap (64-(ji7))))]) (wrap64 (x7_1+1))) else (none)) else (none)) else (none)) else (if x6_1.length<17592186044416 then (gimbalref90_Down2.l0 k1 l0 (ji7) (x6_1++[shr .u64 (rd l0 x7_1) (ji7)]) (wrap64 (x7_1+1))) else (none))) else (if x6_1.length<17592186044416 then (gimbalref90_Down2.l0 k1 l0 (ji7) (x6_1++[shr .u64 (rd l0 x7_1) (ji7)]) (wrap64 (x7_1+1))) else (none))) else (none))=some r:=by first|(rw [hji7] at H;exact H)|(simp only [hji7] at H ⊢;exact H)
            by_cases c8:0≤(ji7)
            · rw [if_pos c8] at H
              have c8b0:=eq_true c8
              have c8b1:decide (0≤(ji7))=true:=decide_eq_true c8
              clear c8
              obtain ⟨ji9,hji9⟩:∃ j_:Int,(shr .u64 (rd l0 x7_1) (ji7))=j_:=⟨_,rfl⟩
              replace H:(if (ji7)>0 then (if (wrap64 (x7_1+1))<(l0.length:Int) then (if 0≤(wrap64 (x7_1+1)) then (if 0≤(IntKind.u64.wrap (64-(ji7))) then (if x6_1.length<17592186044416 then (gimbalref90_Down2.l0 k1 l0 (ji7) (x6_1++[Go.bits .or .u64 (ji9) (shl .u64 (rd l0 (wrap64 (x7_1+1))) (IntKind.u64.wrap (64-(ji7))))]) (wrap64 (x7_1+1))) else (none)) else (none)) else (none)) else (if x6_1.length<17592186044416 then (gimbalref90_Down2.l0 k1 l0 (ji7) (x6_1++[ji9]) (wrap64 (x7_1+1))) else (none))) else (if x6_1.length<17592186044416 then (gimbalref90_Down2.l0 k1 l0 (ji7) (x6_1++[ji9]) (wrap64 (x7_1+1))) else (none)))=some r:=by first|(rw [hji9] at H;exact H)|(simp only [hji9] at H ⊢;exact H)
              have hji9_:((rd l0 x7_1)/2 ^ min (ji7).toNat 64)=ji9:=hji9
              have hji9z:(ji7)≤64→((rd l0 x7_1)/2 ^ (ji7).toNat)=ji9:=shr_small hji9
              by_cases c10:(ji7)>0
              · rw [if_pos c10] at H
                have c10b0:decide (0<(ji7))=true:=decide_eq_true c10
                clear c10
                by_cases c11:(wrap64 (x7_1+1))<(l0.length:Int)
                · rw [if_pos c11] at H
                  have c11b0:decide ((wrap64 (x7_1+1))<(l0.length:Int))=true:=decide_eq_true c11
                  clear c11
                  obtain ⟨ji12,hji12⟩:∃ j_:Int,(wrap64 (x7_1+1))=j_:=⟨_,rfl⟩
                  replace H:(if 0≤(ji12) then (if 0≤(IntKind.u64.wrap (64-(ji7))) then (if x6_1.length<17592186044416 then (gimbalref90_Down2.l0 k1 l0 (ji7) (x6_1++[Go.bits .or .u64 (ji9) (shl .u64 (rd l0 (ji12)) (IntKind.u64.wrap (64-(ji7))))]) ji12) else (none)) else (none)) else (none))=some r:=by first|(rw [hji12] at H;exact H)|(simp only [hji12] at H ⊢;exact H)
                  (try rw [hji12] at c11b0)
                  have hji12w:(IntKind.i64.wrap (x7_1+1))=ji12:=(i64_w _).trans hji12
                  by_cases c13:0≤(ji12)
                  · rw [if_pos c13] at H
                    have c13b0:decide (0≤(ji12))=true:=decide_eq_true c13
                    clear c13
                    obtain ⟨ji14,hji14⟩:∃ j_:Int,(IntKind.u64.wrap (64-(ji7)))=j_:=⟨_,rfl⟩
                    replace H:(if 0≤(ji14) then (if x6_1.length<17592186044416 then (gimbalref90_Down2.l0 k1 l0 (ji7) (x6_1++[Go.bits .or .u64 (ji9) (shl .u64 (rd l0 (ji12)) (ji14))]) ji12) else (none)) else (none))=some r:=by first|(rw [hji14] at H;exact H)|(simp only [hji14] at H ⊢;exact H)
                    by_cases c15:0≤(ji14)
                    · rw [if_pos c15] at H
                      have c15b0:=eq_true c15
                      have c15b1:decide (0≤(ji14))=true:=decide_eq_true c15
                      clear c15
                      obtain ⟨ji16,hji16⟩:∃ j_:Int,(shl .u64 (rd l0 (ji12)) (ji14))=j_:=⟨_,rfl⟩
                      replace H:(if x6_1.length<17592186044416 then (gimbalref90_Down2.l0 k1 l0 (ji7) (x6_1++[Go.bits .or .u64 (ji9) (ji16)]) ji12) else (none))=some r:=by first|(rw [hji16] at H;exact H)|(simp only [hji16] at H ⊢;exact H)
                      have hji16_:(IntKind.u64.wrap ((rd l0 (ji12))*2 ^ min (ji14).toNat 64))=ji16:=hji16
                      have hji16z:(ji14)≤64→(IntKind.u64.wrap ((rd l0 (ji12))*2 ^ (ji14).toNat))=ji16:=shl_small hji16
                      by_cases c17:x6_1.length<17592186044416
                      · rw [if_pos c17] at H
                        have LMc17:=Aside0.mk c17
                        clear c17
                        obtain ⟨y112,hy112⟩:∃ y_:List Int,y_=(x6_1++[Go.bits .or .u64 (ji9) (ji16)]):=⟨_,rfl⟩
                        replace H:(gimbalref90_Down2.l0 k1 l0 (ji7) y112 ji12)=some r:=by first|(rw [hy112];with_reducible exact H)|(have H2_:=(Option.bind_some _ _).symm.trans H;rw [hy112];with_reducible exact H2_)|(have H2_:=(Option.bind_some _ _).symm.trans H;with_reducible exact H2_)|with_reducible exact H|(rw [hy112];exact H)|exact H
                        have Ny112:=Aside0.mk hy112
                        clear hy112
                        have H':=Aside0.mk H
                        clear H
                        have p110:0≤(x7_1:Int):=of_decide_eq_true (by first|(with_reducible assumption)|assumption)
                        have q110:x7_1<(l0.length:Int):=of_decide_eq_true (by first|(with_reducible assumption)|assumption)
                        obtain ⟨ad110,e110,hx110_0⟩:=Kd.at_int HR0.out x7_1 p110 q110
                        cases e110
                        replace hx110_0:=(HB.out.cell (World.block_lt_of_cell? w _ hx110_0)).trans hx110_0
                        replace p110:=eq_true p110
                        replace q110:=eq_true q110
                        have p111:0≤((ji12):Int):=of_decide_eq_true (by first|(with_reducible assumption)|assumption)
                        have q111:(ji12)<(l0.length:Int):=of_decide_eq_true (by first|(with_reducible assumption)|assumption)
                        obtain ⟨ad111,e111,hx111_0⟩:=Kd.at_int HR0.out (ji12) p111 q111
                        obtain rfl:ad110=ad111:=(by injection e111)
                        replace hx111_0:=(HB.out.cell (World.block_lt_of_cell? w _ hx111_0)).trans hx111_0
                        replace p111:=eq_true p111
                        replace q111:=eq_true q111
                        go_wp2_with (first|((with_reducible refine gate_builtin (b := .append) (xs:=#[.tmp 49,.tmp 51]) rfl ?_);(try (refine gate_guard (by rfl) ?_;dsimp only));at_builtin;refine Kd.R_append (Kd.int .u64) (w0:=w) w.heap.size rfl (.tmp 49) (.tmp 51) 89 104 (.int .u64 0) 8 rfl Try.underlying89 info104 rfl (by decide) (by omega) u6 x6_1 (Go.bits .or .u64 (ji9) (ji16)) [.int .u64 (Go.bits .or .u64 (ji9) (ji16))] (fun _=>True) (fun _=>False) rfl rfl ?aP (fun _ hk=>hk.elim) ?aF ?aO ?aB ?aS ?aL ?_;(case aP=>exact rfl);(case aB=>exact (by repeat (first|(with_reducible first|exact HB.out|apply below_alloc|apply pw_below_drewN|apply below_drew1)|exact HB.out)));(case aF=>exact (fun _ _=>trivial));(case aO=>exact (by (with_reducible repeat (first|apply Kd.R_alloc|apply Kd.R_drewN|apply Kd.R_drew));exact HO_6.out));(case aS=>exact (below_size (by repeat (first|(with_reducible first|exact HB.out|apply below_alloc|apply pw_below_drewN|apply below_drew1)|exact HB.out))));(case aL=>have:=LMc17.out;omega);intro v113 w18 ho hb hg hat;rw [← Ny112.out] at ho;have n0_:=Aside0.mk (hb);have n1_:=Aside0.mk (ho);clear HB;clear HO_6;have HB:=n0_;have HO114:=n1_;clear n0_ n1_;clear ho hb hg hat))
                        try subst hji7
                        try subst hji9
                        try subst hji14
                        try subst hji16
                        go_roundg k1
                        case measure=>have:=HK1.out;omega
                        case rel=>exact ⟨(y112),(ji12),(by first|rfl|(simp;done)|(simp only [← hji12]<;>(first|rfl|simp))|(simp [*];done)),H',⟨by have:=HK1.out;omega⟩,⟨by (with_reducible repeat (first|apply Kd.R_alloc|apply Kd.R_drewN|apply Kd.R_drew));exact HO114.out⟩,⟨by repeat (first|(with_reducible first|exact HB.out|apply below_alloc|apply pw_below_drewN|apply below_drew1)|exact HB.out)⟩⟩
                      · rw [if_neg c17] at H
                        exact absurd H (by simp)
                    · rw [if_neg c15] at H
                      exact absurd H (by simp)
                  · rw [if_neg c13] at H
                    exact absurd H (by simp)
                · rw [if_neg c11] at H
                  have c11b0:decide ((wrap64 (x7_1+1))<(l0.length:Int))=false:=decide_eq_false c11
                  clear c11
                  by_cases c19:x6_1.length<17592186044416
                  · rw [if_pos c19] at H
                    have LMc19:=Aside0.mk c19
                    clear c19
                    obtain ⟨y115,hy115⟩:∃ y_:List Int,y_=(x6_1++[ji9]):=⟨_,rfl⟩
                    replace H:(gimbalref90_Down2.l0 k1 l0 (ji7) y115 (wrap64 (x7_1+1)))=some r:=by first|(rw [hy115];with_reducible exact H)|(have H2_:=(Option.bind_some _ _).symm.trans H;rw [hy115];with_reducible exact H2_)|(have H2_:=(Option.bind_some _ _).symm.trans H;with_reducible exact H2_)|with_reducible exact H|(rw [hy115];exact H)|exact H
                    have Ny115:=Aside0.mk hy115
                    clear hy115
                    have H':=Aside0.mk H
                    clear H
                    have p110:0≤(x7_1:Int):=of_decide_eq_true (by first|(with_reducible assumption)|assumption)
                    have q110:x7_1<(l0.length:Int):=of_decide_eq_true (by first|(with_reducible assumption)|assumption)
                    obtain ⟨ad110,e110,hx110_0⟩:=Kd.at_int HR0.out x7_1 p110 q110
                    cases e110
                    replace hx110_0:=(HB.out.cell (World.block_lt_of_cell? w _ hx110_0)).trans hx110_0
                    replace p110:=eq_true p110
                    replace q110:=eq_true q110
                    go_wp2_with (first|((with_reducible refine gate_builtin (b := .append) (xs:=#[.tmp 49,.tmp 51]) rfl ?_);(try (refine gate_guard (by rfl) ?_;dsimp only));at_builtin;refine Kd.R_append (Kd.int .u64) (w0:=w) w.heap.size rfl (.tmp 49) (.tmp 51) 89 104 (.int .u64 0) 8 rfl Try.underlying89 info104 rfl (by decide) (by omega) u6 x6_1 ji9 [.int .u64 ji9] (fun _=>True) (fun _=>False) rfl rfl ?aP (fun _ hk=>hk.elim) ?aF ?aO ?aB ?aS ?aL ?_;(case aP=>exact rfl);(case aB=>exact (by repeat (first|(with_reducible first|exact HB.out|apply below_alloc|apply pw_below_drewN|apply below_drew1)|exact HB.out)));(case aF=>exact (fun _ _=>trivial));(case aO=>exact (by (with_reducible repeat (first|apply Kd.R_alloc|apply Kd.R_drewN|apply Kd.R_drew));exact HO_6.out));(case aS=>exact (below_size (by repeat (first|(with_reducible first|exact HB.out|apply below_alloc|apply pw_below_drewN|apply below_drew1)|exact HB.out))));(case aL=>have:=LMc19.out;omega);intro v116 w20 ho hb hg hat;rw [← Ny115.out] at ho;have n0_:=Aside0.mk (hb);have n1_:=Aside0.mk (ho);clear HB;clear HO_6;have HB:=n0_;have HO117:=n1_;clear n0_ n1_;clear ho hb hg hat))
                    try subst hji7
                    try subst hji9
                    try subst hji12
                    try subst hji14
                    go_roundg k1
                    case measure=>have:=HK1.out;omega
                    case rel=>exact ⟨(y115),(wrap64 (x7_1+1)),(by first|rfl|(simp;done)|(simp [*];done)),H',⟨by have:=HK1.out;omega⟩,⟨by (with_reducible repeat (first|apply Kd.R_alloc|apply Kd.R_drewN|apply Kd.R_drew));exact HO117.out⟩,⟨by repeat (first|(with_reducible first|exact HB.out|apply below_alloc|apply pw_below_drewN|apply below_drew1)|exact HB.out)⟩⟩
                  · rw [if_neg c19] at H
                    exact absurd H (by simp)
              · rw [if_neg c10] at H
                have c10b0:decide (0<(ji7))=false:=decide_eq_false c10
                clear c10
                by_cases c21:x6_1.length<17592186044416
                · rw [if_pos c21] at H
                  have LMc21:=Aside0.mk c21
                  clear c21
                  obtain ⟨y118,hy118⟩:∃ y_:List Int,y_=(x6_1++[ji9]):=⟨_,rfl⟩
                  replace H:(gimbalref90_Down2.l0 k1 l0 (ji7) y118 (wrap64 (x7_1+1)))=some r:=by first|(rw [hy118];with_reducible exact H)|(have H2_:=(Option.bind_some _ _).symm.trans H;rw [hy118];with_reducible exact H2_)|(have H2_:=(Option.bind_some _ _).symm.trans H;with_reducible exact H2_)|with_reducible exact H|(rw [hy118];exact H)|exact H
                  have Ny118:=Aside0.mk hy118
                  clear hy118
                  have H':=Aside0.mk H
                  clear H
                  have p110:0≤(x7_1:Int):=of_decide_eq_true (by first|(with_reducible assumption)|assumption)
                  have q110:x7_1<(l0.length:Int):=of_decide_eq_true (by first|(with_reducible assumption)|assumption)
                  obtain ⟨ad110,e110,hx110_0⟩:=Kd.at_int HR0.out x7_1 p110 q110
                  cases e110
                  replace hx110_0:=(HB.out.cell (World.block_lt_of_cell? w _ hx110_0)).trans hx110_0
                  replace p110:=eq_true p110
                  replace q110:=eq_true q110
                  go_wp2_with (first|((with_reducible refine gate_builtin (b := .append) (xs:=#[.tmp 49,.tmp 51]) rfl ?_);(try (refine gate_guard (by rfl) ?_;dsimp only));at_builtin;refine Kd.R_append (Kd.int .u64) (w0:=w) w.heap.size rfl (.tmp 49) (.tmp 51) 89 104 (.int .u64 0) 8 rfl Try.underlying89 info104 rfl (by decide) (by omega) u6 x6_1 ji9 [.int .u64 ji9] (fun _=>True) (fun _=>False) rfl rfl ?aP (fun _ hk=>hk.elim) ?aF ?aO ?aB ?aS ?aL ?_;(case aP=>exact rfl);(case aB=>exact (by repeat (first|(with_reducible first|exact HB.out|apply below_alloc|apply pw_below_drewN|apply below_drew1)|exact HB.out)));(case aF=>exact (fun _ _=>trivial));(case aO=>exact (by (with_reducible repeat (first|apply Kd.R_alloc|apply Kd.R_drewN|apply Kd.R_drew));exact HO_6.out));(case aS=>exact (below_size (by repeat (first|(with_reducible first|exact HB.out|apply below_alloc|apply pw_below_drewN|apply below_drew1)|exact HB.out))));(case aL=>have:=LMc21.out;omega);intro v119 w22 ho hb hg hat;rw [← Ny118.out] at ho;have n0_:=Aside0.mk (hb);have n1_:=Aside0.mk (ho);clear HB;clear HO_6;have HB:=n0_;have HO120:=n1_;clear n0_ n1_;clear ho hb hg hat))
                  try subst hji7
                  try subst hji9
                  try subst hji12
                  go_roundg k1
                  case measure=>have:=HK1.out;omega
                  case rel=>exact ⟨(y118),(wrap64 (x7_1+1)),(by first|rfl|(simp;done)|(simp [*];done)),H',⟨by have:=HK1.out;omega⟩,⟨by (with_reducible repeat (first|apply Kd.R_alloc|apply Kd.R_drewN|apply Kd.R_drew));exact HO120.out⟩,⟨by repeat (first|(with_reducible first|exact HB.out|apply below_alloc|apply pw_below_drewN|apply below_drew1)|exact HB.out)⟩⟩
                · rw [if_neg c21] at H
                  exact absurd H (by simp)
            · rw [if_neg c8] at H
              exact absurd H (by simp)
          · rw [if_neg c6] at H
            exact absurd H (by simp)
        · rw [if_neg c5] at H
          have c5b0:decide (x7_1<(l0.length:Int))=false:=decide_eq_false c5
          clear c5
          replace H:=Option.bind_eq_some_iff.mp H
          obtain ⟨t121,A230,H⟩:=H
          replace H:(some t121)=some r:=H
          have A23:=Aside0.mk A230
          clear A230
          obtain rfl:=Option.some.inj H
          obtain ⟨Ao24,co24,eo24⟩:=Kd.R_slice HO_6.out
          subst eo24
          go_wp2_with (first|((with_reducible refine gate_callee (f:=107) rfl ?_);refine goesL_ (some 54) rfl rfl Try.func107 (by kernel_rfl) rfl #[.slice Ao24 x6_1.length co24] rfl (by (try simp only [List.map_toArray,List.map_cons,List.map_nil]);first|done|rfl|(simp only [List.length_drop,List.length_take];rfl)) ?_;(with_reducible refine (gimbalref90_NTrim.calls k1 (fun k_=>some k_=(.slice Ao24 x6_1.length co24:Value).ownBlock) (.slice Ao24 x6_1.length co24) x6_1 t121 w _ ?side1 ?side2 A23.out).mono ?_);(case side1=>repeat (first|(with_reducible first|exact HB.out|apply below_alloc|apply pw_below_drewN|apply below_drew1)|exact HB.out));(case side2=>exact Kd.R_tight rfl HO_6.out);rintro e w25 ⟨v122,rfl,ho0,hb,hkp⟩;refine ⟨_,rfl,?_⟩;have n0_:=Aside0.mk (Kd.R_mono (ok':=fun k_=>True) ho0 (fun k_ hk_=>trivial));have n1_:=Aside0.mk (hb);clear HB;clear HO_6;have HO123:=n0_;have HB:=n1_;clear n0_ n1_;(try clear hb);(try clear hkp);(try clear ho0)))
          go_ret
          exact ⟨_,by first|rfl|(simp [errW_none,errW_some]<;>rfl)|(simp [*,errW_none,errW_some]<;>rfl),by (with_reducible repeat (first|apply Kd.R_alloc|apply Kd.R_drewN|apply Kd.R_drew));exact HO123.out,by repeat (first|(with_reducible first|exact HB.out|apply below_alloc|apply pw_below_drewN|apply below_drew1)|exact HB.out)⟩
def gimbalref90_NCmp.l0:Nat→List Int→List Int→Int→Option (Int)
  | 0,_,_,_=>none
  | k+1,x0,x1,x5=>if x5≥0 then (if 0≤x5 then (if x5<(x0.length:Int) then (if x5<(x1.length:Int) then (if (rd x0 x5)<(rd x1 x5) then (some (-1)) else (if (rd x0 x5)>(rd x1 x5) then (some 1) else (gimbalref90_NCmp.l0 k x0 x1 (wrap64 (x5-1))))) else (none)) else (none)) else (none)) else (some 0)
def gimbalref90_NCmp.f (k:Nat) (l0:List Int) (l1:List Int):Option (Int):=if (l0.length:Int)=(l1.length:Int) then (gimbalref90_NCmp.l0 k l0 l1 (wrap64 ((l0.length:Int)-1))) else (if (l0.length:Int)<(l1.length:Int) then (some (-1)) else (some 1))
theorem gimbalref90_NCmp.mono_l:∀ k,(∀ y0 y1 y2,LeO (gimbalref90_NCmp.l0 k y0 y1 y2) (gimbalref90_NCmp.l0 (k+1) y0 y1 y2))
  | 0=>fun _ _ _ r h=>by simp [gimbalref90_NCmp.l0] at h
  | k + 1 => by
    have ih0:=gimbalref90_NCmp.mono_l k
    · intro y0 y1 y2
      unfold gimbalref90_NCmp.l0
      repeat' first
      | (with_reducible exact ih0 _ _ _)
      | (with_reducible exact LeO.refl _)
      | (with_reducible exact LeO.none _)
      | (with_reducible refine LeO.ite ?_ ?_)
      | (with_reducible refine LeO.bind ?_ (fun _=>?_))
      | exact ih0 _ _ _
      | exact LeO.none _
      | refine LeO.ite ?_ ?_
      | refine LeO.bind ?_ (fun _=>?_)
theorem gimbalref90_NCmp.mono:∀ a0 a1 k,LeO (gimbalref90_NCmp.f k a0 a1) (gimbalref90_NCmp.f (k+1) a0 a1):=by
  intro a0 a1 k
  have ih0:=gimbalref90_NCmp.mono_l k
  unfold gimbalref90_NCmp.f
  repeat' first
      | (with_reducible exact ih0 _ _ _)
      | (with_reducible exact LeO.refl _)
      | (with_reducible exact LeO.none _)
      | (with_reducible refine LeO.ite ?_ ?_)
      | (with_reducible refine LeO.bind ?_ (fun _=>?_))
      | exact ih0 _ _ _
      | exact LeO.none _
      | refine LeO.ite ?_ ?_
      | refine LeO.bind ?_ (fun _=>?_)
set_option maxHeartbeats 8000000 in
set_option maxRecDepth 100000 in
theorem gimbalref90_NCmp.calls (k:Nat) (A0:Option Addr) (c0:Nat) (l0:List Int) (A1:Option Addr) (c1:Nat) (l1:List Int) (r:Int) (w:World) (hr0:Kd.C (Kd.int .u64) w A0 l0.length l0) (hc0:l0.length≤c0) (hr1:Kd.C (Kd.int .u64) w A1 l1.length l1) (hc1:l1.length≤c1) (h:gimbalref90_NCmp.f k l0 l1=some r) :
    Calls Try.prog 82 #[.slice A0 l0.length c0,.slice A1 l1.length c1] w fun e w'=>e = .returned (.int .i64 r)∧Drawn0 w w':=by
  have HR0:=Aside0.mk hr0
  have HC0:=Aside0.mk hc0
  clear hr0 hc0
  have HR1:=Aside0.mk hr1
  have HC1:=Aside0.mk hc1
  clear hr1 hc1
  have H:(if (l0.length:Int)=(l1.length:Int) then (gimbalref90_NCmp.l0 k l0 l1 (wrap64 ((l0.length:Int)-1))) else (if (l0.length:Int)<(l1.length:Int) then (some (-1)) else (some 1)))=some r:=h
  clear h
  by_cases c3:(l0.length:Int)=(l1.length:Int)
  · rw [if_pos c3] at H
    have c3b0:((l0.length:Int) == (l1.length:Int))=true:=beq_iff_eq.mpr c3
    have c3b1:((l0.length:Int) != (l1.length:Int))=false:=bne_eq_false_iff_eq.mpr c3
    have c3b2:(l0.length == l1.length)=true:=by first|simpa using c3|(simp at c3 ⊢;omega)
    clear c3
    have H':=Aside0.mk H
    clear H
    go_enter Try.func82,Try.ntmps82
    go_wp2
    repeat (go_quiet (fail);try go_wp2)
    go_loopg [5] k (fun kq v5 w'=>∃ (x5_1:Int),v5 = .int .i64 x5_1∧Aside0 (gimbalref90_NCmp.l0 kq l0 l1 x5_1=some r)∧Aside0 (kq≤k)∧Drawn0 w w')
    case atStart=>exact ⟨(wrap64 ((l0.length:Int)-1)),(by first|rfl|(simp;done)|(simp [*];done)),H',⟨Nat.le_refl _⟩,by repeat (first|exact Drawn0.refl _|apply Drawn0.step)⟩
    case round =>
      clear H'
      try clear c1
      try clear p2
      try clear c3
      try clear c3b0
      try clear c3b1
      try clear c3b2
      obtain ⟨x5_1,rfl,HA,HK1,⟨m1,rfl⟩⟩:=hrel
      cases gk with
      | zero=>exact absurd HA.out (by simp [gimbalref90_NCmp.l0])
      | succ k1 =>
        have H:=HA.out
        clear HA
        simp only [gimbalref90_NCmp.l0] at H
        by_cases c4:x5_1≥0
        · rw [if_pos c4] at H
          have c4b0:decide (0≤x5_1)=true:=decide_eq_true c4
          clear c4
          by_cases c5:0≤x5_1
          · rw [if_pos c5] at H
            have c5b0:decide (0≤x5_1)=true:=decide_eq_true c5
            clear c5
            by_cases c6:x5_1<(l0.length:Int)
            · rw [if_pos c6] at H
              have c6b0:decide (x5_1<(l0.length:Int))=true:=decide_eq_true c6
              clear c6
              by_cases c7:x5_1<(l1.length:Int)
              · rw [if_pos c7] at H
                have c7b0:decide (x5_1<(l1.length:Int))=true:=decide_eq_true c7
                clear c7
                by_cases c8:(rd l0 x5_1)<(rd l1 x5_1)
                · rw [if_pos c8] at H
                  have c8b0:decide ((rd l0 x5_1)<(rd l1 x5_1))=true:=decide_eq_true c8
                  clear c8
                  obtain rfl:=Option.some.inj H
                  have p124:0≤(x5_1:Int):=of_decide_eq_true (by first|(with_reducible assumption)|assumption)
                  have q124:x5_1<(l0.length:Int):=of_decide_eq_true (by first|(with_reducible assumption)|assumption)
                  obtain ⟨ad124,e124,hx124_0⟩:=Kd.at_int HR0.out x5_1 p124 q124
                  cases e124
                  replace p124:=eq_true p124
                  replace q124:=eq_true q124
                  have p125:0≤(x5_1:Int):=of_decide_eq_true (by first|(with_reducible assumption)|assumption)
                  have q125:x5_1<(l1.length:Int):=of_decide_eq_true (by first|(with_reducible assumption)|assumption)
                  obtain ⟨ad125,e125,hx125_0⟩:=Kd.at_int HR1.out x5_1 p125 q125
                  cases e125
                  replace p125:=eq_true p125
                  replace q125:=eq_true q125
                  go_wp2
                  repeat (go_quiet (fail);try go_wp2)
                  go_ret
                  exact ⟨by first|rfl|(simp;done)|(simp [*];done),by repeat (first|exact Drawn0.refl _|apply Drawn0.step)⟩
                · rw [if_neg c8] at H
                  have c8b0:decide ((rd l0 x5_1)<(rd l1 x5_1))=false:=decide_eq_false c8
                  clear c8
                  by_cases c9:(rd l0 x5_1)>(rd l1 x5_1)
                  · rw [if_pos c9] at H
                    have c9b0:decide ((rd l1 x5_1)<(rd l0 x5_1))=true:=decide_eq_true c9
                    clear c9
                    obtain rfl:=Option.some.inj H
                    have p124:0≤(x5_1:Int):=of_decide_eq_true (by first|(with_reducible assumption)|assumption)
                    have q124:x5_1<(l0.length:Int):=of_decide_eq_true (by first|(with_reducible assumption)|assumption)
                    obtain ⟨ad124,e124,hx124_0⟩:=Kd.at_int HR0.out x5_1 p124 q124
                    cases e124
                    replace p124:=eq_true p124
                    replace q124:=eq_true q124
                    have p125:0≤(x5_1:Int):=of_decide_eq_true (by first|(with_reducible assumption)|assumption)
                    have q125:x5_1<(l1.length:Int):=of_decide_eq_true (by first|(with_reducible assumption)|assumption)
                    obtain ⟨ad125,e125,hx125_0⟩:=Kd.at_int HR1.out x5_1 p125 q125
                    cases e125
                    replace p125:=eq_true p125
                    replace q125:=eq_true q125
                    have p126:0≤(x5_1:Int):=of_decide_eq_true (by first|(with_reducible assumption)|assumption)
                    have q126:x5_1<(l0.length:Int):=of_decide_eq_true (by first|(with_reducible assumption)|assumption)
                    obtain ⟨ad126,e126,hx126_0⟩:=Kd.at_int HR0.out x5_1 p126 q126
                    obtain rfl:ad124=ad126:=(by injection e126)
                    replace p126:=eq_true p126
                    replace q126:=eq_true q126
                    have p127:0≤(x5_1:Int):=of_decide_eq_true (by first|(with_reducible assumption)|assumption)
                    have q127:x5_1<(l1.length:Int):=of_decide_eq_true (by first|(with_reducible assumption)|assumption)
                    obtain ⟨ad127,e127,hx127_0⟩:=Kd.at_int HR1.out x5_1 p127 q127
                    obtain rfl:ad125=ad127:=(by injection e127)
                    replace p127:=eq_true p127
                    replace q127:=eq_true q127
                    go_wp2
                    repeat (go_quiet (fail);try go_wp2)
                    go_ret
                    exact ⟨by first|rfl|(simp;done)|(simp [*];done),by repeat (first|exact Drawn0.refl _|apply Drawn0.step)⟩
                  · rw [if_neg c9] at H
                    have c9b0:decide ((rd l1 x5_1)<(rd l0 x5_1))=false:=decide_eq_false c9
                    clear c9
                    have H':=Aside0.mk H
                    clear H
                    have p124:0≤(x5_1:Int):=of_decide_eq_true (by first|(with_reducible assumption)|assumption)
                    have q124:x5_1<(l0.length:Int):=of_decide_eq_true (by first|(with_reducible assumption)|assumption)
                    obtain ⟨ad124,e124,hx124_0⟩:=Kd.at_int HR0.out x5_1 p124 q124
                    cases e124
                    replace p124:=eq_true p124
                    replace q124:=eq_true q124
                    have p125:0≤(x5_1:Int):=of_decide_eq_true (by first|(with_reducible assumption)|assumption)
                    have q125:x5_1<(l1.length:Int):=of_decide_eq_true (by first|(with_reducible assumption)|assumption)
                    obtain ⟨ad125,e125,hx125_0⟩:=Kd.at_int HR1.out x5_1 p125 q125
                    cases e125
                    replace p125:=eq_true p125
                    replace q125:=eq_true q125
                    have p126:0≤(x5_1:Int):=of_decide_eq_true (by first|(with_reducible assumption)|assumption)
                    have q126:x5_1<(l0.length:Int):=of_decide_eq_true (by first|(with_reducible assumption)|assumption)
                    obtain ⟨ad126,e126,hx126_0⟩:=Kd.at_int HR0.out x5_1 p126 q126
                    obtain rfl:ad124=ad126:=(by injection e126)
                    replace p126:=eq_true p126
                    replace q126:=eq_true q126
                    have p127:0≤(x5_1:Int):=of_decide_eq_true (by first|(with_reducible assumption)|assumption)
                    have q127:x5_1<(l1.length:Int):=of_decide_eq_true (by first|(with_reducible assumption)|assumption)
                    obtain ⟨ad127,e127,hx127_0⟩:=Kd.at_int HR1.out x5_1 p127 q127
                    obtain rfl:ad125=ad127:=(by injection e127)
                    replace p127:=eq_true p127
                    replace q127:=eq_true q127
                    go_wp2
                    repeat (go_quiet (fail);try go_wp2)
                    go_roundg k1
                    case measure=>have:=HK1.out;omega
                    case rel=>exact ⟨(wrap64 (x5_1-1)),(by first|rfl|(simp;done)|(simp [*];done)),H',⟨by have:=HK1.out;omega⟩,by repeat (first|exact Drawn0.refl _|apply Drawn0.step)⟩
              · rw [if_neg c7] at H
                exact absurd H (by simp)
            · rw [if_neg c6] at H
              exact absurd H (by simp)
          · rw [if_neg c5] at H
            exact absurd H (by simp)
        · rw [if_neg c4] at H
          have c4b0:decide (0≤x5_1)=false:=decide_eq_false c4
          clear c4
          obtain rfl:=Option.some.inj H
          go_wp2
          repeat (go_quiet (fail);try go_wp2)
          go_ret
          exact ⟨by first|rfl|(simp;done)|(simp [*];done),by repeat (first|exact Drawn0.refl _|apply Drawn0.step)⟩
  · rw [if_neg c3] at H
    have c3b0:((l0.length:Int) == (l1.length:Int))=false:=beq_eq_false_iff_ne.mpr c3
    have c3b1:((l0.length:Int) != (l1.length:Int))=true:=bne_iff_ne.mpr c3
    have c3b2:(l0.length == l1.length)=false:=by first|simpa using c3|(simp at c3 ⊢;omega)
    by_cases c10:(l0.length:Int)<(l1.length:Int)
    · rw [if_pos c10] at H
      have c10b0:decide ((l0.length:Int)<(l1.length:Int))=true:=decide_eq_true c10
      have c10b1:decide (l0.length<l1.length)=true:=decide_eq_true (Int.ofNat_lt.mp c10)
      clear c10
      obtain rfl:=Option.some.inj H
      go_enter Try.func82,Try.ntmps82
      go_wp2
      repeat (go_quiet (fail);try go_wp2)
      go_ret
      exact ⟨by first|rfl|(simp;done)|(simp [*];done),by repeat (first|exact Drawn0.refl _|apply Drawn0.step)⟩
    · rw [if_neg c10] at H
      have c10b0:decide ((l0.length:Int)<(l1.length:Int))=false:=decide_eq_false c10
      have c10b1:decide (l0.length<l1.length)=false:=decide_eq_false (fun h=>c10 (Int.ofNat_lt.mpr h))
      clear c10
      obtain rfl:=Option.some.inj H
      go_enter Try.func82,Try.ntmps82
      go_wp2
      repeat (go_quiet (fail);try go_wp2)
      go_ret
      exact ⟨by first|rfl|(simp;done)|(simp [*];done),by repeat (first|exact Drawn0.refl _|apply Drawn0.step)⟩
def gimbalref90_NOf.f (k:Nat) (a0:Int):Option (List Int):=(gimbalref90_NTrim.f k (([a0]:List Int))).bind fun t131=>(some t131)
theorem gimbalref90_NOf.mono:∀ a0 k,LeO (gimbalref90_NOf.f k a0) (gimbalref90_NOf.f (k+1) a0):=by
  intro a0 k
  unfold gimbalref90_NOf.f
  repeat' first
      | (with_reducible exact gimbalref90_NTrim.mono _ _)
      | (with_reducible exact LeO.refl _)
      | (with_reducible exact LeO.none _)
      | (with_reducible refine LeO.ite ?_ ?_)
      | (with_reducible refine LeO.bind ?_ (fun _=>?_))
      | exact gimbalref90_NTrim.mono _ _
      | exact LeO.none _
      | refine LeO.ite ?_ ?_
      | refine LeO.bind ?_ (fun _=>?_)
set_option maxHeartbeats 8000000 in
set_option maxRecDepth 100000 in
theorem gimbalref90_NOf.calls (k:Nat) (a0:Int) (r:List Int) (w:World) (h:gimbalref90_NOf.f k a0=some r) :
    Calls Try.prog 79 #[.int .u64 a0] w fun e w'=>∃ v0_:Value,e = .returned (v0_)∧Kd.R (Kd.int .u64) 104 w' w.heap.size (fun _=>True) v0_ r∧Below w.heap.size w w':=by
  have HB:=Aside0.mk (Below.refl w.heap.size w)
  have H:((gimbalref90_NTrim.f k (([a0]:List Int))).bind fun t131=>(some t131))=some r:=h
  clear h
  obtain ⟨y128,hy128⟩:∃ y_:List Int,y_=(([a0]:List Int)):=⟨_,rfl⟩
  replace H:((gimbalref90_NTrim.f k y128).bind fun t131=>(some t131))=some r:=by first|(rw [hy128];with_reducible exact H)|(have H2_:=(Option.bind_some _ _).symm.trans H;rw [hy128];with_reducible exact H2_)|(have H2_:=(Option.bind_some _ _).symm.trans H;with_reducible exact H2_)|with_reducible exact H|(rw [hy128];exact H)|exact H
  have Ny128:=Aside0.mk hy128
  clear hy128
  replace H:=Option.bind_eq_some_iff.mp H
  obtain ⟨t131,A20,H⟩:=H
  replace H:(some t131)=some r:=H
  have A2:=Aside0.mk A20
  clear A20
  obtain rfl:=Option.some.inj H
  go_enter Try.func79,Try.ntmps79
  go_wp2_with (first|((with_reducible refine gate_dst (N:=4) rfl ?_);refine Kd.R_lit (Kd.int .u64) _ 104 ?hg (N:=4) ?hd (xs:=([a0]:List Int)) (inner:=[.int .u64 a0]) (ok:=fun _=>True) (okp:=fun _=>True) ?hr ?hp (fun _ hk=>hk) trivial (Below.refl _ _) (Nat.le_refl _) (by simp) ?_;(case hd=>rfl);(case hg=>rfl);(case hr=>first|(go_simp;done)|(go_simp;rfl));(case hp=>exact (Reps.one (show Kd.M (Kd.int .u64) _ _ _ a0 [.int .u64 a0] from rfl) (Reps.none _ _)));intro v129 w3 ho4 hb hg_ hnew_;clear hg_ hnew_;(first|rw [← Ny128.out] at ho4|(simp only [Int.reduceToNat] at ho4;rw [← Ny128.out] at ho4));have n0_:=Aside0.mk (Kd.R_lower ho4 (below_size (by repeat (first|(with_reducible first|exact HB.out|apply below_alloc|apply pw_below_drewN|apply below_drew1)|exact HB.out))));have n1_:=Aside0.mk (below_step (by repeat (first|(with_reducible first|exact HB.out|apply below_alloc|apply pw_below_drewN|apply below_drew1)|exact HB.out)) hb);clear HB;have HO130:=n0_;have HB:=n1_;clear n0_ n1_;clear hb ho4;obtain ⟨Ao5,co5,eo5⟩:=Kd.R_slice HO130.out;subst eo5)|((with_reducible refine gate_callee (f:=107) rfl ?_);refine goesL_ (some 5) rfl rfl Try.func107 (by kernel_rfl) rfl #[.slice Ao5 y128.length co5] rfl (by (try simp only [List.map_toArray,List.map_cons,List.map_nil]);first|done|rfl|(simp only [List.length_drop,List.length_take];rfl)) ?_;(with_reducible refine (gimbalref90_NTrim.calls k (fun k_=>some k_=(.slice Ao5 y128.length co5:Value).ownBlock) (.slice Ao5 y128.length co5) y128 t131 w _ ?side1 ?side2 A2.out).mono ?_);(case side1=>repeat (first|(with_reducible first|exact HB.out|apply below_alloc|apply pw_below_drewN|apply below_drew1)|exact HB.out));(case side2=>exact Kd.R_tight rfl HO130.out);rintro e w6 ⟨v132,rfl,ho0,hb,hkp⟩;refine ⟨_,rfl,?_⟩;have n0_:=Aside0.mk (Kd.R_mono (ok':=fun k_=>True) ho0 (fun k_ hk_=>trivial));have n1_:=Aside0.mk (hb);clear HB;clear HO130;have HO133:=n0_;have HB:=n1_;clear n0_ n1_;(try clear hb);(try clear hkp);(try clear ho0)))
  go_ret
  exact ⟨_,by first|rfl|(simp [errW_none,errW_some]<;>rfl)|(simp [*,errW_none,errW_some]<;>rfl),by (with_reducible repeat (first|apply Kd.R_alloc|apply Kd.R_drewN|apply Kd.R_drew));exact HO133.out,by repeat (first|(with_reducible first|exact HB.out|apply below_alloc|apply pw_below_drewN|apply below_drew1)|exact HB.out)⟩
end Go.Proofs.Ytonelbidndjhdaa.QN90
end
section
namespace Go.Proofs.Ytonelbidndjhdaa.QN90
open RowKit YtonelbidndjhdaaW.PrintWords YtonelbidndjhdaaW.PrintLast YtonelbidndjhdaaW.PrintMore
attribute [local go_sem] max2_int min2_int max_two min_two max_three min_three max_four min_four   -- for this text's walks alone
set_option linter.unusedVariables false
set_option linter.unusedSimpArgs false
def gimbalref90_cut.l0:Nat→List Int→Int→Option (List Int)
  | 0,_,_=>none
  | k+1,x0,x3=>if x3>0 then (if 0≤(wrap64 (x3-1)) then (if (wrap64 (x3-1))<(x0.length:Int) then (if (rd x0 (wrap64 (x3-1)))=0 then (gimbalref90_cut.l0 k x0 (wrap64 (x3-1))) else (if 0≤x3 then (if x3≤(x0.length:Int) then (some (x0.take (x3:Int).toNat)) else (none)) else (none))) else (none)) else (none)) else (if 0≤x3 then (if x3≤(x0.length:Int) then (some (x0.take (x3:Int).toNat)) else (none)) else (none))
def gimbalref90_cut.f (k:Nat) (l0:List Int):Option (List Int):=gimbalref90_cut.l0 k l0 (l0.length:Int)
theorem gimbalref90_cut.mono_l:∀ k,(∀ y0 y1,LeO (gimbalref90_cut.l0 k y0 y1) (gimbalref90_cut.l0 (k+1) y0 y1))
  | 0=>fun _ _ r h=>by simp [gimbalref90_cut.l0] at h
  | k + 1 => by
    have ih0:=gimbalref90_cut.mono_l k
    · intro y0 y1
      unfold gimbalref90_cut.l0
      repeat' first
      | (with_reducible exact ih0 _ _)
      | (with_reducible exact LeO.refl _)
      | (with_reducible exact LeO.none _)
      | (with_reducible refine LeO.ite ?_ ?_)
      | (with_reducible refine LeO.bind ?_ (fun _=>?_))
      | exact ih0 _ _
      | exact LeO.none _
      | refine LeO.ite ?_ ?_
      | refine LeO.bind ?_ (fun _=>?_)
theorem gimbalref90_cut.mono:∀ a0 k,LeO (gimbalref90_cut.f k a0) (gimbalref90_cut.f (k+1) a0):=by
  intro a0 k
  have ih0:=gimbalref90_cut.mono_l k
  unfold gimbalref90_cut.f
  repeat' first
      | (with_reducible exact ih0 _ _)
      | (with_reducible exact LeO.refl _)
      | (with_reducible exact LeO.none _)
      | (with_reducible refine LeO.ite ?_ ?_)
      | (with_reducible refine LeO.bind ?_ (fun _=>?_))
      | exact ih0 _ _
      | exact LeO.none _
      | refine LeO.ite ?_ ?_
      | refine LeO.bind ?_ (fun _=>?_)
set_option maxHeartbeats 8000000 in
set_option maxRecDepth 100000 in
theorem gimbalref90_cut.calls (k:Nat) (P0_:Nat→Prop) (u9000_:Value) (l0:List Int) (r:List Int) (w0 w:World) (hB:Below w0.heap.size w0 w) (ho0:Kd.R (Kd.int .u32) 145 w w0.heap.size P0_ u9000_ l0) (h:gimbalref90_cut.f k l0=some r) :
    Calls Try.prog 110 #[u9000_] w fun e w'=>∃ v0_:Value,e = .returned (v0_)∧Kd.R (Kd.int .u32) 145 w' w0.heap.size (fun k_=>(P0_ k_∨w.heap.size≤k_)) v0_ r∧Below w0.heap.size w0 w'∧Kept w w' (fun k_=>P0_ k_):=by
  have HO0:=Aside0.mk (show Kd.R (Kd.int .u32) 145 w w0.heap.size (fun k_=>(P0_ k_∨w.heap.size≤k_)) u9000_ l0 from Kd.R_mono ho0 (fun k_ hk=>(.inl hk)))
  have HK:=Aside0.mk (Kept.refl w (fun k_=>P0_ k_))
  have HW0:=Aside0.mk hB.size
  have HB:=Aside0.mk hB
  clear hB
  have H:(gimbalref90_cut.l0 k l0 (l0.length:Int))=some r:=h
  clear h
  have H':=Aside0.mk H
  clear H
  obtain ⟨Ao2,co2,eo2⟩:=Kd.R_slice HO0.out
  subst eo2
  go_enter Try.func110,Try.ntmps110
  go_wp2
  go_loopg [3] k (fun kq v3 w'=>∃ (x3_1:Int),v3 = .int .i64 x3_1∧Aside0 (gimbalref90_cut.l0 kq l0 x3_1=some r)∧Aside0 (kq≤k)∧Aside0 (Kd.R (Kd.int .u32) 145 w' w0.heap.size (fun k_=>(P0_ k_∨w.heap.size≤k_)) (.slice Ao2 l0.length co2) l0)∧Aside0 (Kept w w' (fun k_=>P0_ k_))∧Aside0 (Below w0.heap.size w0 w'))
  case atStart=>exact ⟨((l0.length:Int)),(by first|rfl|(simp;done)|(simp [*];done)),H',⟨Nat.le_refl _⟩,⟨by (with_reducible repeat (first|apply Kd.R_alloc|apply Kd.R_drewN|apply Kd.R_drew));exact HO0.out⟩,⟨by repeat (first|(with_reducible first|exact HK.out|apply Kept.alloc|apply Kept.drewN|apply Kept.drew)|exact HK.out)⟩,⟨by repeat (first|(with_reducible first|exact HB.out|apply below_alloc|apply pw_below_drewN|apply below_drew1)|exact HB.out)⟩⟩
  case round =>
    clear H'
    try clear c1
    try clear p2
    obtain ⟨x3_1,rfl,HA,HK1,HO_0,HK,HB⟩:=hrel
    cases gk with
    | zero=>exact absurd HA.out (by simp [gimbalref90_cut.l0])
    | succ k1 =>
      have H:=HA.out
      clear HA
      simp only [gimbalref90_cut.l0] at H
      by_cases c3:x3_1>0
      · rw [if_pos c3] at H
        have c3b0:decide (0<x3_1)=true:=decide_eq_true c3
        clear c3
        obtain ⟨ji4,hji4⟩:∃ j_:Int,(wrap64 (x3_1-1))=j_:=⟨_,rfl⟩
        replace H:(if 0≤(ji4) then (if (ji4)<(l0.length:Int) then (if (rd l0 (ji4))=0 then (gimbalref90_cut.l0 k1 l0 ji4) else (if 0≤x3_1 then (if x3_1≤(l0.length:Int) then (some (l0.take (x3_1:Int).toNat)) else (none)) else (none))) else (none)) else (none))=some r:=by first|(rw [hji4] at H;exact H)|(simp only [hji4] at H ⊢;exact H)
        have hji4w:(IntKind.i64.wrap (x3_1-1))=ji4:=(i64_w _).trans hji4
        by_cases c5:0≤(ji4)
        · rw [if_pos c5] at H
          have c5b0:decide (0≤(ji4))=true:=decide_eq_true c5
          clear c5
          by_cases c6:(ji4)<(l0.length:Int)
          · rw [if_pos c6] at H
            have c6b0:decide ((ji4)<(l0.length:Int))=true:=decide_eq_true c6
            clear c6
            by_cases c7:(rd l0 (ji4))=0
            · rw [if_pos c7] at H
              have c7b0:((rd l0 (ji4)) == 0)=true:=beq_iff_eq.mpr c7
              have c7b1:((rd l0 (ji4)) != 0)=false:=bne_eq_false_iff_eq.mpr c7
              clear c7
              have H':=Aside0.mk H
              clear H
              have p134:0≤((ji4):Int):=of_decide_eq_true (by first|(with_reducible assumption)|assumption)
              have q134:(ji4)<(l0.length:Int):=of_decide_eq_true (by first|(with_reducible assumption)|assumption)
              obtain ⟨ad134,e134,hx134_0⟩:=Kd.at_int (Kd.R_reads' HO_0.out).2.2 (ji4) p134 q134
              cases e134
              replace p134:=eq_true p134
              replace q134:=eq_true q134
              go_wp2
              go_roundg k1
              case measure=>have:=HK1.out;omega
              case rel=>exact ⟨(ji4),(by first|rfl|(simp;done)|(simp only [← hji4]<;>(first|rfl|simp))|(simp [*];done)),H',⟨by have:=HK1.out;omega⟩,⟨by (with_reducible repeat (first|apply Kd.R_alloc|apply Kd.R_drewN|apply Kd.R_drew));exact HO_0.out⟩,⟨by repeat (first|(with_reducible first|exact HK.out|apply Kept.alloc|apply Kept.drewN|apply Kept.drew)|exact HK.out)⟩,⟨by repeat (first|(with_reducible first|exact HB.out|apply below_alloc|apply pw_below_drewN|apply below_drew1)|exact HB.out)⟩⟩
            · rw [if_neg c7] at H
              have c7b0:((rd l0 (ji4)) == 0)=false:=beq_eq_false_iff_ne.mpr c7
              have c7b1:((rd l0 (ji4)) != 0)=true:=bne_iff_ne.mpr c7
              by_cases c8:0≤x3_1
              · rw [if_pos c8] at H
                have c8b0:=eq_true c8
                have c8b1:decide (0≤x3_1)=true:=decide_eq_true c8
                clear c8
                by_cases c9:x3_1≤(l0.length:Int)
                · rw [if_pos c9] at H
                  have c9b0:=eq_true c9
                  have c9b1:decide (x3_1≤(l0.length:Int))=true:=decide_eq_true c9
                  clear c9
                  obtain ⟨y135,hy135⟩:∃ y_:List Int,y_=(l0.take (x3_1:Int).toNat):=⟨_,rfl⟩
                  replace H:(some y135)=some r:=by first|(rw [hy135];with_reducible exact H)|(have H2_:=(Option.bind_some _ _).symm.trans H;rw [hy135];with_reducible exact H2_)|(have H2_:=(Option.bind_some _ _).symm.trans H;with_reducible exact H2_)|with_reducible exact H|(rw [hy135];exact H)|exact H
                  have Ny135:=Aside0.mk hy135
                  clear hy135
                  obtain rfl:=Option.some.inj H
                  have p134:0≤((ji4):Int):=of_decide_eq_true (by first|(with_reducible assumption)|assumption)
                  have q134:(ji4)<(l0.length:Int):=of_decide_eq_true (by first|(with_reducible assumption)|assumption)
                  obtain ⟨ad134,e134,hx134_0⟩:=Kd.at_int (Kd.R_reads' HO_0.out).2.2 (ji4) p134 q134
                  cases e134
                  replace p134:=eq_true p134
                  replace q134:=eq_true q134
                  have q10:(x3_1:Int)≤((l0.length:Int):Int):=of_decide_eq_true (by first|(with_reducible assumption)|assumption)
                  obtain ⟨i010,hi010,_,hsz10,_⟩:=info_parts info145
                  have hcut10:=cut_to (P:=Try.prog) 143 145 .i64 Try.underlying143 hi010 (some ad134) l0.length co2 x3_1 (of_decide_eq_true (by first|(with_reducible assumption)|assumption)) q10 (Kd.R_reads' HO_0.out).2.1
                  have hr10:=Kd.R_take (m:=(x3_1:Int).toNat) HO_0.out (by omega)
                  have hy10:y135.length=(x3_1:Int).toNat:=(by rw [Ny135.out,List.length_take];omega)
                  rw [← Ny135.out] at hr10
                  rw [← hy10] at hr10 hcut10
                  clear hy10 hi010 hsz10 HO_0
                  have HO137:=Aside0.mk hr10
                  clear hr10
                  replace q10:=eq_true q10
                  go_wp2
                  go_ret
                  exact ⟨_,by first|rfl|(simp [errW_none,errW_some]<;>rfl)|(simp only [← hji4];first|rfl|(simp [errW_none,errW_some]<;>rfl))|(simp [*,errW_none,errW_some]<;>rfl),by (with_reducible repeat (first|apply Kd.R_alloc|apply Kd.R_drewN|apply Kd.R_drew));exact HO137.out,by repeat (first|(with_reducible first|exact HB.out|apply below_alloc|apply pw_below_drewN|apply below_drew1)|exact HB.out),by repeat (first|(with_reducible first|exact HK.out|apply Kept.alloc|apply Kept.drewN|apply Kept.drew)|exact HK.out)⟩
                · rw [if_neg c9] at H
                  exact absurd H (by simp)
              · rw [if_neg c8] at H
                exact absurd H (by simp)
          · rw [if_neg c6] at H
            exact absurd H (by simp)
        · rw [if_neg c5] at H
          exact absurd H (by simp)
      · rw [if_neg c3] at H
        have c3b0:decide (0<x3_1)=false:=decide_eq_false c3
        clear c3
        by_cases c11:0≤x3_1
        · rw [if_pos c11] at H
          have c11b0:=eq_true c11
          have c11b1:decide (0≤x3_1)=true:=decide_eq_true c11
          clear c11
          by_cases c12:x3_1≤(l0.length:Int)
          · rw [if_pos c12] at H
            have c12b0:=eq_true c12
            have c12b1:decide (x3_1≤(l0.length:Int))=true:=decide_eq_true c12
            clear c12
            obtain ⟨y138,hy138⟩:∃ y_:List Int,y_=(l0.take (x3_1:Int).toNat):=⟨_,rfl⟩
            replace H:(some y138)=some r:=by first|(rw [hy138];with_reducible exact H)|(have H2_:=(Option.bind_some _ _).symm.trans H;rw [hy138];with_reducible exact H2_)|(have H2_:=(Option.bind_some _ _).symm.trans H;with_reducible exact H2_)|with_reducible exact H|(rw [hy138];exact H)|exact H
            have Ny138:=Aside0.mk hy138
            clear hy138
            obtain rfl:=Option.some.inj H
            have q13:(x3_1:Int)≤((l0.length:Int):Int):=of_decide_eq_true (by first|(with_reducible assumption)|assumption)
            obtain ⟨i013,hi013,_,hsz13,_⟩:=info_parts info145
            have hcut13:=cut_to (P:=Try.prog) 143 145 .i64 Try.underlying143 hi013 Ao2 l0.length co2 x3_1 (of_decide_eq_true (by first|(with_reducible assumption)|assumption)) q13 (Kd.R_reads' HO_0.out).2.1
            have hr13:=Kd.R_take (m:=(x3_1:Int).toNat) HO_0.out (by omega)
            have hy13:y138.length=(x3_1:Int).toNat:=(by rw [Ny138.out,List.length_take];omega)
            rw [← Ny138.out] at hr13
            rw [← hy13] at hr13 hcut13
            clear hy13 hi013 hsz13 HO_0
            have HO140:=Aside0.mk hr13
            clear hr13
            replace q13:=eq_true q13
            go_wp2
            go_ret
            exact ⟨_,by first|rfl|(simp [errW_none,errW_some]<;>rfl)|(simp [*,errW_none,errW_some]<;>rfl),by (with_reducible repeat (first|apply Kd.R_alloc|apply Kd.R_drewN|apply Kd.R_drew));exact HO140.out,by repeat (first|(with_reducible first|exact HB.out|apply below_alloc|apply pw_below_drewN|apply below_drew1)|exact HB.out),by repeat (first|(with_reducible first|exact HK.out|apply Kept.alloc|apply Kept.drewN|apply Kept.drew)|exact HK.out)⟩
          · rw [if_neg c12] at H
            exact absurd H (by simp)
        · rw [if_neg c11] at H
          exact absurd H (by simp)
def gimbalref90_halves.l0:Nat→List Int→List Int→Int→Option (List Int)
  | 0,_,_,_=>none
  | k+1,x0,x3,x4=>if x4<(x0.length:Int) then (if 0≤x4 then ((some (([(rd x0 x4)%4294967296,((rd x0 x4)/4294967296)%4294967296]:List Int):List Int)).bind fun y143=>(if x3.length+y143.length<35184372088832 then (gimbalref90_halves.l0 k x0 (x3++y143) (wrap64 (x4+1))) else (none))) else (none)) else ((gimbalref90_cut.f k x3).bind fun t149=>(some t149))
def gimbalref90_halves.f (k:Nat) (l0:List Int):Option (List Int):=gimbalref90_halves.l0 k l0 ([]:List Int) 0
theorem gimbalref90_halves.mono_l:∀ k,(∀ y0 y1 y2,LeO (gimbalref90_halves.l0 k y0 y1 y2) (gimbalref90_halves.l0 (k+1) y0 y1 y2))
  | 0=>fun _ _ _ r h=>by simp [gimbalref90_halves.l0] at h
  | k + 1 => by
    have ih0:=gimbalref90_halves.mono_l k
    · intro y0 y1 y2
      unfold gimbalref90_halves.l0
      repeat' first
      | (with_reducible exact ih0 _ _ _)
      | (with_reducible exact gimbalref90_cut.mono _ _)
      | (with_reducible exact LeO.refl _)
      | (with_reducible exact LeO.none _)
      | (with_reducible refine LeO.ite ?_ ?_)
      | (with_reducible refine LeO.bind ?_ (fun _=>?_))
      | exact ih0 _ _ _
      | exact gimbalref90_cut.mono _ _
      | exact LeO.none _
      | refine LeO.ite ?_ ?_
      | refine LeO.bind ?_ (fun _=>?_)
theorem gimbalref90_halves.mono:∀ a0 k,LeO (gimbalref90_halves.f k a0) (gimbalref90_halves.f (k+1) a0):=by
  intro a0 k
  have ih0:=gimbalref90_halves.mono_l k
  unfold gimbalref90_halves.f
  repeat' first
      | (with_reducible exact ih0 _ _ _)
      | (with_reducible exact gimbalref90_cut.mono _ _)
      | (with_reducible exact LeO.refl _)
      | (with_reducible exact LeO.none _)
      | (with_reducible refine LeO.ite ?_ ?_)
      | (with_reducible refine LeO.bind ?_ (fun _=>?_))
      | exact ih0 _ _ _
      | exact gimbalref90_cut.mono _ _
      | exact LeO.none _
      | refine LeO.ite ?_ ?_
      | refine LeO.bind ?_ (fun _=>?_)
def gimbalref90_halves.T5:Bool × List (List Nat × List Nat):=(true,[([],[]),([],[]),([],[]),([1,2],[1,2]),([3],[3]),([4],[4]),([],[]),([],[]),([6,7],[6,7]),([8],[8]),([9],[9]),([10],[10]),([5,11],[5,11]),([0,12],[0,12]),([13,13,0,1,2,3,4,5,6,7,8,9,10,11,12,13],[0,13])])
def gimbalref90_halves.B5:List Nat:=[0,0,0,6,14,30,0,0,192,448,960,1984,4094,8191,16383]
theorem gimbalref90_halves.tab5:rtab .any (opsOf Try.f108 5)=gimbalref90_halves.T5:=by kernel_rfl
theorem gimbalref90_halves.bits5:waitsOk gimbalref90_halves.T5.2 gimbalref90_halves.B5=true:=by kernel_rfl
set_option maxHeartbeats 8000000 in
set_option maxRecDepth 100000 in
theorem gimbalref90_halves.calls (k:Nat) (A0:Option Addr) (c0:Nat) (l0:List Int) (r:List Int) (w:World) (hr0:Kd.C (Kd.int .u64) w A0 l0.length l0) (hc0:l0.length≤c0) (h:gimbalref90_halves.f k l0=some r) :
    Calls Try.prog 108 #[.slice A0 l0.length c0] w fun e w'=>∃ v0_:Value,e = .returned (v0_)∧Kd.R (Kd.int .u32) 145 w' w.heap.size (fun _=>True) v0_ r∧Below w.heap.size w w':=by
  have HR0:=Aside0.mk hr0
  have HC0:=Aside0.mk hc0
  clear hr0 hc0
  have HB:=Aside0.mk (Below.refl w.heap.size w)
  have H:(gimbalref90_halves.l0 k l0 ([]:List Int) 0)=some r:=h
  clear h
  have H':=Aside0.mk H
  clear H
  go_enter Try.func108,Try.ntmps108
  go_wp2
  go_loopg [3,4] k (fun kq v3 v4 w'=>∃ (x3_1:List Int) (x4_1:Int),v4 = .int .i64 x4_1∧Aside0 (gimbalref90_halves.l0 kq l0 x3_1 x4_1=some r)∧Aside0 (kq≤k)∧Aside0 (Kd.R (Kd.int .u32) 145 w' w.heap.size (fun _=>True) v3 x3_1)∧Aside0 (Below w.heap.size w w'))
  case atStart=>exact ⟨(([]:List Int)),(0),(by first|rfl|(simp;done)|(simp [*];done)),H',⟨Nat.le_refl _⟩,⟨by first|exact Kd.R_nil _ _ _ _ _|exact Kd.N_nil _ _ _ _ _|exact Kd.V_nil _ _ _ _ _|exact Kd.Q_nil _ _ _ _ _|exact Kd.S_nil _ _ _ _ _⟩,⟨by repeat (first|(with_reducible first|exact HB.out|apply below_alloc|apply pw_below_drewN|apply below_drew1)|exact HB.out)⟩⟩
  case round =>
    clear H'
    try clear c1
    obtain ⟨x3_1,x4_1,rfl,HA,HK1,HO_3,HB⟩:=hrel
    cases gk with
    | zero=>exact absurd HA.out (by simp [gimbalref90_halves.l0])
    | succ k1 =>
      have H:=HA.out
      clear HA
      simp only [gimbalref90_halves.l0] at H
      by_cases c2:x4_1<(l0.length:Int)
      · rw [if_pos c2] at H
        have c2b0:decide (x4_1<(l0.length:Int))=true:=decide_eq_true c2
        clear c2
        by_cases c3:0≤x4_1
        · rw [if_pos c3] at H
          have c3b0:decide (0≤x4_1)=true:=decide_eq_true c3
          clear c3
          obtain ⟨y143,hy143⟩:∃ y_:List Int,y_=(([(rd l0 x4_1)%4294967296,((rd l0 x4_1)/4294967296)%4294967296]:List Int)):=⟨_,rfl⟩
          replace H:(if x3_1.length+y143.length<35184372088832 then (gimbalref90_halves.l0 k1 l0 (x3_1++y143) (wrap64 (x4_1+1))) else (none))=some r:=by first|(rw [hy143];with_reducible exact H)|(have H2_:=(Option.bind_some _ _).symm.trans H;rw [hy143];with_reducible exact H2_)|(have H2_:=(Option.bind_some _ _).symm.trans H;with_reducible exact H2_)|with_reducible exact H|(rw [hy143];exact H)|exact H
          have Ny143:=Aside0.mk hy143
          clear hy143
          by_cases c4:x3_1.length+y143.length<35184372088832
          · rw [if_pos c4] at H
            have LMc4:=Aside0.mk c4
            clear c4
            obtain ⟨y146,hy146⟩:∃ y_:List Int,y_=(x3_1++y143):=⟨_,rfl⟩
            replace H:(gimbalref90_halves.l0 k1 l0 y146 (wrap64 (x4_1+1)))=some r:=by first|(rw [hy146];with_reducible exact H)|(have H2_:=(Option.bind_some _ _).symm.trans H;rw [hy146];with_reducible exact H2_)|(have H2_:=(Option.bind_some _ _).symm.trans H;with_reducible exact H2_)|with_reducible exact H|(rw [hy146];exact H)|exact H
            have Ny146:=Aside0.mk hy146
            clear hy146
            have H':=Aside0.mk H
            clear H
            try go_wp2
            have n0_:=Aside0.mk (Kd.R_drew HO_3.out)
            have n1_:=Aside0.mk (below_drew1 HB.out)
            clear HO_3
            clear HB
            have HO_3:=n0_
            have HB:=n1_
            clear n0_ n1_
            have p141:0≤(x4_1:Int):=of_decide_eq_true (by first|(with_reducible assumption)|assumption)
            have q141:x4_1<(l0.length:Int):=of_decide_eq_true (by first|(with_reducible assumption)|assumption)
            obtain ⟨ad141,e141,hx141_0⟩:=Kd.at_int HR0.out x4_1 p141 q141
            have hw141_0:=hx141_0
            cases e141
            replace hx141_0:=(HB.out.cell (World.block_lt_of_cell? w _ hx141_0)).trans hx141_0
            replace p141:=eq_true p141
            replace q141:=eq_true q141
            have p142:0≤(x4_1:Int):=of_decide_eq_true (by first|(with_reducible assumption)|assumption)
            have q142:x4_1<(l0.length:Int):=of_decide_eq_true (by first|(with_reducible assumption)|assumption)
            obtain ⟨ad142,e142,hx142_0⟩:=Kd.at_int HR0.out x4_1 p142 q142
            have hw142_0:=hx142_0
            obtain rfl:ad141=ad142:=(by injection e142)
            replace hx142_0:=(HB.out.cell (World.block_lt_of_cell? w _ hx142_0)).trans hx142_0
            replace p142:=eq_true p142
            replace q142:=eq_true q142
            refine start_ (n:=15) (S:=fun w'=>w'.cell? (ad141.add (x4_1).toNat)=some (.int .u64 (rd l0 x4_1))∧w'.cell? (ad141.add (x4_1).toNat)=some (.int .u64 (rd l0 x4_1))) (ds:=[]) #[false,false,false,false,false,false,false,false,false,false,false,false,false,false,false] (by kernel_rfl) rfl rfl ⟨((HB.out.cell (World.block_lt_of_cell? w _ hw141_0)).trans hw141_0),((HB.out.cell (World.block_lt_of_cell? w _ hw142_0)).trans hw142_0)⟩ (fun hHeld=>?_);refine with_tabW gimbalref90_halves.tab5 gimbalref90_halves.bits5 (fun HT_ HW_=>?_)
            generalize wr.drew=w5 at HO_3 HB hx141_0 hx142_0 hHeld ⊢
            refine pure_ (i:=0) (N:=some 11) (v:=?_) (a':=?_) #[true,false,false,false,false,false,false,false,false,false,false,false,false,false,false] rfl rfl (any_of HT_.out (by kernel_rfl)) (fun _ _ _ h=>h) (Or.inl ⟨by rfl,?_⟩) ?_ ?_
            rotate_left
            · intro w'
              go_simp
              with_reducible rfl
            rotate_left
            · simp only [Act.put,List.setIfInBounds_toArray,List.set_cons_zero,List.set_cons_succ,i64_w,i32_w]
              rfl
            refine pure_ (i:=1) (N:=some 12) (v:=?_) (a':=?_) #[true,true,false,false,false,false,false,false,false,false,false,false,false,false,false] rfl rfl (any_of HT_.out (by kernel_rfl)) (fun _ _ _ h=>h) (Or.inl ⟨by rfl,?_⟩) ?_ ?_
            rotate_left
            · intro w'
              go_simp
              with_reducible rfl
            rotate_left
            · simp only [Act.put,List.setIfInBounds_toArray,List.set_cons_zero,List.set_cons_succ,i64_w,i32_w]
              rfl
            refine pure_ (i:=2) (N:=some 13) (v:=?_) (a':=?_) #[true,true,true,false,false,false,false,false,false,false,false,false,false,false,false] rfl rfl (any_of HT_.out (by kernel_rfl)) (fun _ _ _ h=>h) (Or.inl ⟨by rfl,?_⟩) ?_ ?_
            rotate_left
            · intro w'
              go_simp
              with_reducible rfl
            rotate_left
            · simp only [Act.put,List.setIfInBounds_toArray,List.set_cons_zero,List.set_cons_succ,i64_w,i32_w]
              rfl
            refine pure_ (i:=3) (N:=some 14) (v:=?_) (a':=?_) #[true,true,true,true,false,false,false,false,false,false,false,false,false,false,false] rfl rfl (any_of HT_.out (by kernel_rfl)) (fun _ _ _ h=>h) (Or.inl ⟨by rfl,?_⟩) ?_ ?_
            rotate_left
            · intro w'
              go_simp
              with_reducible rfl
            rotate_left
            · simp only [Act.put,List.setIfInBounds_toArray,List.set_cons_zero,List.set_cons_succ,i64_w,i32_w]
              rfl
            refine pure_ (i:=6) (N:=some 17) (v:=?_) (a':=?_) #[true,true,true,true,false,false,true,false,false,false,false,false,false,false,false] rfl rfl (any_of HT_.out (by kernel_rfl)) (fun _ _ _ h=>h) (Or.inl ⟨by rfl,?_⟩) ?_ ?_
            rotate_left
            · intro w'
              go_simp
              with_reducible rfl
            rotate_left
            · simp only [Act.put,List.setIfInBounds_toArray,List.set_cons_zero,List.set_cons_succ,i64_w,i32_w]
              rfl
            refine pure_ (i:=7) (N:=some 18) (v:=?_) (a':=?_) #[true,true,true,true,false,false,true,true,false,false,false,false,false,false,false] rfl rfl (any_of HT_.out (by kernel_rfl)) (fun _ _ _ h=>h) (Or.inl ⟨by rfl,?_⟩) ?_ ?_
            rotate_left
            · intro w'
              go_simp
              with_reducible rfl
            rotate_left
            · simp only [Act.put,List.setIfInBounds_toArray,List.set_cons_zero,List.set_cons_succ,i64_w,i32_w]
              rfl
            refine pure_ (i:=8) (N:=some 19) (v:=?_) (a':=?_) #[true,true,true,true,false,false,true,true,true,false,false,false,false,false,false] rfl rfl (any_of HT_.out (by kernel_rfl)) (fun _ _ _ h=>h) (Or.inl ⟨by rfl,?_⟩) ?_ ?_
            rotate_left
            · intro w'
              go_simp
              with_reducible rfl
            rotate_left
            · simp only [Act.put,List.setIfInBounds_toArray,List.set_cons_zero,List.set_cons_succ,i64_w,i32_w]
              rfl
            refine take_ (i:=4) (N:=some 15) (v:=?_) (a':=?_) #[true,true,true,true,true,false,true,true,true,false,false,false,false,false,false] rfl rfl (take_ofW HT_.out HW_.out (by kernel_rfl)) (fun _ _ _ h=>h) (Or.inl ⟨by rfl,?_⟩) hHeld ?_ ?_
            rotate_left
            · rintro w' ⟨s0,s1⟩
              go_simp
              with_reducible rfl
            rotate_left
            · simp only [Act.put,List.setIfInBounds_toArray,List.set_cons_zero,List.set_cons_succ,i64_w,i32_w]
              rfl
            refine pure_ (i:=5) (N:=some 16) (v:=?_) (a':=?_) #[true,true,true,true,true,true,true,true,true,false,false,false,false,false,false] rfl rfl (any_of HT_.out (by kernel_rfl)) (fun _ _ _ h=>h) (Or.inl ⟨by rfl,?_⟩) ?_ ?_
            rotate_left
            · intro w'
              go_simp
              with_reducible rfl
            rotate_left
            · simp only [Act.put,List.setIfInBounds_toArray,List.set_cons_zero,List.set_cons_succ,i64_w,i32_w]
              rfl
            refine take_ (i:=9) (N:=some 20) (v:=?_) (a':=?_) #[true,true,true,true,true,true,true,true,true,true,false,false,false,false,false] rfl rfl (take_ofW HT_.out HW_.out (by kernel_rfl)) (fun _ _ _ h=>h) (Or.inl ⟨by rfl,?_⟩) hHeld ?_ ?_
            rotate_left
            · rintro w' ⟨s0,s1⟩
              go_simp
              with_reducible rfl
            rotate_left
            · simp only [Act.put,List.setIfInBounds_toArray,List.set_cons_zero,List.set_cons_succ,i64_w,i32_w]
              rfl
            refine pure_ (i:=10) (N:=some 21) (v:=?_) (a':=?_) #[true,true,true,true,true,true,true,true,true,true,true,false,false,false,false] rfl rfl (any_of HT_.out (by kernel_rfl)) (fun _ _ _ h=>h) (Or.inl ⟨by rfl,?_⟩) ?_ ?_
            rotate_left
            · intro w'
              go_simp
              with_reducible rfl
            rotate_left
            · simp only [Act.put,List.setIfInBounds_toArray,List.set_cons_zero,List.set_cons_succ,i64_w,i32_w]
              rfl
            refine pure_ (i:=11) (N:=some 22) (v:=?_) (a':=?_) #[true,true,true,true,true,true,true,true,true,true,true,true,false,false,false] rfl rfl (any_of HT_.out (by kernel_rfl)) (fun _ _ _ h=>h) (Or.inl ⟨by rfl,?_⟩) ?_ ?_
            rotate_left
            · intro w'
              go_simp
              with_reducible rfl
            rotate_left
            · simp only [Act.put,List.setIfInBounds_toArray,List.set_cons_zero,List.set_cons_succ,i64_w,i32_w]
              rfl
            refine one_ (i:=12) (N:=some 23) #[true,true,true,true,true,true,true,true,true,true,true,true,true,false,false] rfl rfl (one_of HT_.out (by kernel_rfl)) (by decide) (fun K hK=>?_)
            refine Kd.R_lit_step (Kd.int .u32) _ 145 ?hg (N:=23) ?hd (xs:=([(rd l0 x4_1)%4294967296,((rd l0 x4_1)/4294967296)%4294967296]:List Int)) (inner:=[.int .u32 ((rd l0 x4_1)%4294967296),.int .u32 (((rd l0 x4_1)/4294967296)%4294967296)]) (ok:=fun _=>True) (okp:=fun _=>True) ?hr ?hp (fun _ hk=>hk) trivial (Below.refl _ _) (Nat.le_refl _) (by simp) ?_;(case hd=>rfl);(case hg=>rfl);(case hr=>first|(go_simp;done)|(go_simp;rfl));(case hp=>exact (Reps.one (show Kd.M (Kd.int .u32) _ _ _ ((rd l0 x4_1)%4294967296) [.int .u32 ((rd l0 x4_1)%4294967296)] from rfl) (Reps.one (show Kd.M (Kd.int .u32) _ _ _ (((rd l0 x4_1)/4294967296)%4294967296) [.int .u32 (((rd l0 x4_1)/4294967296)%4294967296)] from rfl) (Reps.none _ _))))
            intro v144 w6 ho7 hb hg_ hnew_
            clear hg_ hnew_
            (first|rw [← Ny143.out] at ho7|(simp only [Int.reduceToNat] at ho7;rw [← Ny143.out] at ho7))
            have n0_:=Aside0.mk (Kd.R_elder' (by (with_reducible repeat (first|apply Kd.R_alloc|apply Kd.R_drewN|apply Kd.R_drew));exact HO_3.out) (Kd.R_base ho7) hb)
            have n1_:=Aside0.mk (Kd.R_lower (Kd.R_new' ho7 (Kd.R_lt (by (with_reducible repeat (first|apply Kd.R_alloc|apply Kd.R_drewN|apply Kd.R_drew));exact HO_3.out))) (below_size (by repeat (first|(with_reducible first|exact HB.out|apply below_alloc|apply pw_below_drewN|apply below_drew1)|exact HB.out))))
            have n2_:=Aside0.mk (below_step (by repeat (first|(with_reducible first|exact HB.out|apply below_alloc|apply pw_below_drewN|apply below_drew1)|exact HB.out)) hb)
            clear HO_3
            clear HB
            have HO_3:=n0_
            have HO145:=n1_
            have HB:=n2_
            clear n0_ n1_ n2_
            clear hb ho7
            obtain ⟨Ao9,co9,eo9⟩:=Kd.R_slice HO145.out
            (first|subst eo9|(injection eo9 with f1_ f2_ f3_;have f4_:=f1_.symm;have f5_:=f3_.symm;clear f1_ f2_ f3_;subst f4_;subst f5_))
            refine hK.out _ _ ⟨((HB.out.cell (World.block_lt_of_cell? w _ hw141_0)).trans hw141_0),((HB.out.cell (World.block_lt_of_cell? w _ hw142_0)).trans hw142_0)⟩ (fun hHeld=>?_)
            clear hK K
            refine norm_ (a':=?_) ?_ ?_
            rotate_left
            · show Act.put _ (some 23) _=_
              simp only [Act.put,List.setIfInBounds_toArray,List.set_cons_zero,List.set_cons_succ,i64_w,i32_w]
              rfl
            refine one_ (i:=13) (N:=some 24) #[true,true,true,true,true,true,true,true,true,true,true,true,true,true,false] rfl rfl (one_of HT_.out (by kernel_rfl)) (by decide) (fun K hK=>?_)
            refine Kd.R_append_rows_step (Kd.int .u32) (w0:=w) w.heap.size (by rfl) (.tmp 11) (.tmp 23) 143 145 (.int .u32 0) 4 rfl Try.underlying143 info145 rfl (by decide) (by omega) u3 x3_1 y143 _ _ _ (fun k_=>some k_≠(.slice Ao9 y143.length co9:Value).ownBlock) (fun _=>False) rfl rfl ?aO ?aR (fun _ _ h=>h) (fun _ h=>h.elim) ?aF ?aB ?aS ?aL ?_
            (case aR=>repeat (first|exact (Kd.R_reads' HO145.out).2.2|(with_reducible refine Kd.C_alloc ?_ _)|(with_reducible refine Kd.C_drewN ?_ _)|(with_reducible refine Kd.C_drew ?_)))
            (case aB=>exact (by repeat (first|(with_reducible first|exact HB.out|apply below_alloc|apply pw_below_drewN|apply below_drew1)|exact HB.out)))
            (case aF=>exact (fun k_ hk=>Kd.fresh' (Kd.R_lt (by (with_reducible repeat (first|apply Kd.R_alloc|apply Kd.R_drewN|apply Kd.R_drew));exact HO145.out)) k_ hk))
            (case aO=>exact (by (with_reducible repeat (first|apply Kd.R_alloc|apply Kd.R_drewN|apply Kd.R_drew));exact Kd.R_mono HO_3.out (fun _ hk=>hk.2)))
            (case aS=>exact (below_size (by repeat (first|(with_reducible first|exact HB.out|apply below_alloc|apply pw_below_drewN|apply below_drew1)|exact HB.out))))
            (case aL=>have:=LMc4.out;omega)
            intro v147 w8 ho hb hg hat
            rw [← Ny146.out] at ho
            have n0_:=Aside0.mk (Kd.R_after (ok:=(fun _=>True)) (by (with_reducible repeat (first|apply Kd.R_alloc|apply Kd.R_drewN|apply Kd.R_drew));exact HO145.out) hg hat)
            have n1_:=Aside0.mk (hb)
            have n2_:=Aside0.mk (ho)
            clear HO145
            clear HB
            clear HO_3
            have HO145:=n0_
            have HB:=n1_
            have HO148:=n2_
            clear n0_ n1_ n2_
            clear ho hb hg hat
            refine hK.out _ _ ⟨((HB.out.cell (World.block_lt_of_cell? w _ hw141_0)).trans hw141_0),((HB.out.cell (World.block_lt_of_cell? w _ hw142_0)).trans hw142_0)⟩ (fun hHeld=>?_)
            clear hK K
            refine norm_ (a':=?_) ?_ ?_
            rotate_left
            · show Act.put _ (some 24) _=_
              simp only [Act.put,List.setIfInBounds_toArray,List.set_cons_zero,List.set_cons_succ,i64_w,i32_w]
              rfl
            refine pure_ (i:=14) (N:=some 3) (v:=?_) (a':=?_) #[true,true,true,true,true,true,true,true,true,true,true,true,true,true,true] rfl rfl (any_of HT_.out (by kernel_rfl)) (fun _ _ _ h=>h) (Or.inl ⟨by rfl,?_⟩) ?_ ?_
            rotate_left
            · intro w'
              go_simp
              with_reducible rfl
            rotate_left
            · simp only [Act.put,List.setIfInBounds_toArray,List.set_cons_zero,List.set_cons_succ,i64_w,i32_w]
              rfl
            refine done_ (done_of HT_.out (by kernel_rfl)) ?_
            try go_wp2
            go_roundg k1
            case measure=>have:=HK1.out;omega
            case rel=>exact ⟨(y146),(wrap64 (x4_1+1)),(by first|rfl|(simp;done)|(simp [*];done)),H',⟨by have:=HK1.out;omega⟩,⟨by (with_reducible repeat (first|apply Kd.R_alloc|apply Kd.R_drewN|apply Kd.R_drew));exact Kd.R_mono HO148.out (fun _ hk=>trivial)⟩,⟨by repeat (first|(with_reducible first|exact HB.out|apply below_alloc|apply pw_below_drewN|apply below_drew1)|exact HB.out)⟩⟩
          · rw [if_neg c4] at H
            exact absurd H (by simp)
        · rw [if_neg c3] at H
          exact absurd H (by simp)
      · rw [if_neg c2] at H
        have c2b0:decide (x4_1<(l0.length:Int))=false:=decide_eq_false c2
        clear c2
        replace H:=Option.bind_eq_some_iff.mp H
        obtain ⟨t149,A100,H⟩:=H
        replace H:(some t149)=some r:=H
        have A10:=Aside0.mk A100
        clear A100
        obtain rfl:=Option.some.inj H
        obtain ⟨Ao11,co11,eo11⟩:=Kd.R_slice HO_3.out
        subst eo11
        go_wp2_with (first|((with_reducible refine gate_callee (f:=110) rfl ?_);refine goesL_ (some 26) rfl rfl Try.func110 (by kernel_rfl) rfl #[.slice Ao11 x3_1.length co11] rfl (by (try simp only [List.map_toArray,List.map_cons,List.map_nil]);first|done|rfl|(simp only [List.length_drop,List.length_take];rfl)) ?_;(with_reducible refine (gimbalref90_cut.calls k1 (fun k_=>some k_=(.slice Ao11 x3_1.length co11:Value).ownBlock) (.slice Ao11 x3_1.length co11) x3_1 t149 w _ ?side1 ?side2 A10.out).mono ?_);(case side1=>repeat (first|(with_reducible first|exact HB.out|apply below_alloc|apply pw_below_drewN|apply below_drew1)|exact HB.out));(case side2=>exact Kd.R_tight rfl HO_3.out);rintro e w12 ⟨v150,rfl,ho0,hb,hkp⟩;refine ⟨_,rfl,?_⟩;have n0_:=Aside0.mk (Kd.R_mono (ok':=fun k_=>True) ho0 (fun k_ hk_=>trivial));have n1_:=Aside0.mk (hb);clear HB;clear HO_3;have HO151:=n0_;have HB:=n1_;clear n0_ n1_;(try clear hb);(try clear hkp);(try clear ho0)))
        go_ret
        exact ⟨_,by first|rfl|(simp [errW_none,errW_some]<;>rfl)|(simp [*,errW_none,errW_some]<;>rfl),by (with_reducible repeat (first|apply Kd.R_alloc|apply Kd.R_drewN|apply Kd.R_drew));exact HO151.out,by repeat (first|(with_reducible first|exact HB.out|apply below_alloc|apply pw_below_drewN|apply below_drew1)|exact HB.out)⟩
end Go.Proofs.Ytonelbidndjhdaa.QN90
end
section
namespace Go.Proofs.Ytonelbidndjhdaa.QN90
open RowKit YtonelbidndjhdaaW.PrintWords YtonelbidndjhdaaW.PrintLast YtonelbidndjhdaaW.PrintMore
attribute [local go_sem] max2_int min2_int max_two min_two max_three min_three max_four min_four   -- for this text's walks alone
set_option linter.unusedVariables false
set_option linter.unusedSimpArgs false
def gimbalref90_whole.l0:Nat→List Int→List Int→Int→Option (List Int)
  | 0,_,_,_=>none
  | k+1,x0,x3,x4=>if x4<(x0.length:Int) then (if 0≤x4 then (if (wrap64 (x4+1))<(x0.length:Int) then (if 0≤(wrap64 (x4+1)) then (if x3.length<17592186044416 then (gimbalref90_whole.l0 k x0 (x3++[Go.bits .or .u64 (IntKind.u64.wrap (rd x0 x4)) (IntKind.u64.wrap ((IntKind.u64.wrap (rd x0 (wrap64 (x4+1))))*4294967296))]) (wrap64 (x4+2))) else (none)) else (none)) else (if x3.length<17592186044416 then (gimbalref90_whole.l0 k x0 (x3++[IntKind.u64.wrap (rd x0 x4)]) (wrap64 (x4+2))) else (none))) else (none)) else ((gimbalref90_NTrim.f k x3).bind fun t160=>(some t160))
def gimbalref90_whole.f (k:Nat) (l0:List Int):Option (List Int):=gimbalref90_whole.l0 k l0 ([]:List Int) 0
theorem gimbalref90_whole.mono_l:∀ k,(∀ y0 y1 y2,LeO (gimbalref90_whole.l0 k y0 y1 y2) (gimbalref90_whole.l0 (k+1) y0 y1 y2))
  | 0=>fun _ _ _ r h=>by simp [gimbalref90_whole.l0] at h
  | k + 1 => by
    have ih0:=gimbalref90_whole.mono_l k
    · intro y0 y1 y2
      unfold gimbalref90_whole.l0
      repeat' first
      | (with_reducible exact ih0 _ _ _)
      | (with_reducible exact gimbalref90_NTrim.mono _ _)
      | (with_reducible exact LeO.refl _)
      | (with_reducible exact LeO.none _)
      | (with_reducible refine LeO.ite ?_ ?_)
      | (with_reducible refine LeO.bind ?_ (fun _=>?_))
      | exact ih0 _ _ _
      | exact gimbalref90_NTrim.mono _ _
      | exact LeO.none _
      | refine LeO.ite ?_ ?_
      | refine LeO.bind ?_ (fun _=>?_)
theorem gimbalref90_whole.mono:∀ a0 k,LeO (gimbalref90_whole.f k a0) (gimbalref90_whole.f (k+1) a0):=by
  intro a0 k
  have ih0:=gimbalref90_whole.mono_l k
  unfold gimbalref90_whole.f
  repeat' first
      | (with_reducible exact ih0 _ _ _)
      | (with_reducible exact gimbalref90_NTrim.mono _ _)
      | (with_reducible exact LeO.refl _)
      | (with_reducible exact LeO.none _)
      | (with_reducible refine LeO.ite ?_ ?_)
      | (with_reducible refine LeO.bind ?_ (fun _=>?_))
      | exact ih0 _ _ _
      | exact gimbalref90_NTrim.mono _ _
      | exact LeO.none _
      | refine LeO.ite ?_ ?_
      | refine LeO.bind ?_ (fun _=>?_)
set_option maxHeartbeats 8000000 in
set_option maxRecDepth 100000 in
theorem gimbalref90_whole.calls (k:Nat) (A0:Option Addr) (c0:Nat) (l0:List Int) (r:List Int) (w:World) (hr0:Kd.C (Kd.int .u32) w A0 l0.length l0) (hc0:l0.length≤c0) (h:gimbalref90_whole.f k l0=some r) :
    Calls Try.prog 109 #[.slice A0 l0.length c0] w fun e w'=>∃ v0_:Value,e = .returned (v0_)∧Kd.R (Kd.int .u64) 104 w' w.heap.size (fun _=>True) v0_ r∧Below w.heap.size w w':=by
  have HR0:=Aside0.mk hr0
  have HC0:=Aside0.mk hc0
  clear hr0 hc0
  have HB:=Aside0.mk (Below.refl w.heap.size w)
  have H:(gimbalref90_whole.l0 k l0 ([]:List Int) 0)=some r:=h
  clear h
  have H':=Aside0.mk H
  clear H
  go_enter Try.func109,Try.ntmps109
  go_wp2
  go_loopg [3,4] k (fun kq v3 v4 w'=>∃ (x3_1:List Int) (x4_1:Int),v4 = .int .i64 x4_1∧Aside0 (gimbalref90_whole.l0 kq l0 x3_1 x4_1=some r)∧Aside0 (kq≤k)∧Aside0 (Kd.R (Kd.int .u64) 104 w' w.heap.size (fun _=>True) v3 x3_1)∧Aside0 (Below w.heap.size w w'))
  case atStart=>exact ⟨(([]:List Int)),(0),(by first|rfl|(simp;done)|(simp [*];done)),H',⟨Nat.le_refl _⟩,⟨by first|exact Kd.R_nil _ _ _ _ _|exact Kd.N_nil _ _ _ _ _|exact Kd.V_nil _ _ _ _ _|exact Kd.Q_nil _ _ _ _ _|exact Kd.S_nil _ _ _ _ _⟩,⟨by repeat (first|(with_reducible first|exact HB.out|apply below_alloc|apply pw_below_drewN|apply below_drew1)|exact HB.out)⟩⟩
  case round =>
    clear H'
    try clear c1
    obtain ⟨x3_1,x4_1,rfl,HA,HK1,HO_3,HB⟩:=hrel
    cases gk with
    | zero=>exact absurd HA.out (by simp [gimbalref90_whole.l0])
    | succ k1 =>
      have H:=HA.out
      clear HA
      simp only [gimbalref90_whole.l0] at H
      by_cases c2:x4_1<(l0.length:Int)
      · rw [if_pos c2] at H
        have c2b0:decide (x4_1<(l0.length:Int))=true:=decide_eq_true c2
        clear c2
        by_cases c3:0≤x4_1
        · rw [if_pos c3] at H
          have c3b0:decide (0≤x4_1)=true:=decide_eq_true c3
          clear c3
          by_cases c4:(wrap64 (x4_1+1))<(l0.length:Int)
          · rw [if_pos c4] at H
            have c4b0:decide ((wrap64 (x4_1+1))<(l0.length:Int))=true:=decide_eq_true c4
            clear c4
            obtain ⟨ji5,hji5⟩:∃ j_:Int,(wrap64 (x4_1+1))=j_:=⟨_,rfl⟩
            replace H:(if 0≤(ji5) then (if x3_1.length<17592186044416 then (gimbalref90_whole.l0 k1 l0 (x3_1++[Go.bits .or .u64 (IntKind.u64.wrap (rd l0 x4_1)) (IntKind.u64.wrap ((IntKind.u64.wrap (rd l0 (ji5)))*4294967296))]) (wrap64 (x4_1+2))) else (none)) else (none))=some r:=by first|(rw [hji5] at H;exact H)|(simp only [hji5] at H ⊢;exact H)
            (try rw [hji5] at c4b0)
            have hji5w:(IntKind.i64.wrap (x4_1+1))=ji5:=(i64_w _).trans hji5
            by_cases c6:0≤(ji5)
            · rw [if_pos c6] at H
              have c6b0:decide (0≤(ji5))=true:=decide_eq_true c6
              clear c6
              by_cases c7:x3_1.length<17592186044416
              · rw [if_pos c7] at H
                have LMc7:=Aside0.mk c7
                clear c7
                obtain ⟨y154,hy154⟩:∃ y_:List Int,y_=(x3_1++[Go.bits .or .u64 (IntKind.u64.wrap (rd l0 x4_1)) (IntKind.u64.wrap ((IntKind.u64.wrap (rd l0 (ji5)))*4294967296))]):=⟨_,rfl⟩
                replace H:(gimbalref90_whole.l0 k1 l0 y154 (wrap64 (x4_1+2)))=some r:=by first|(rw [hy154];with_reducible exact H)|(have H2_:=(Option.bind_some _ _).symm.trans H;rw [hy154];with_reducible exact H2_)|(have H2_:=(Option.bind_some _ _).symm.trans H;with_reducible exact H2_)|with_reducible exact H|(rw [hy154];exact H)|exact H
                have Ny154:=Aside0.mk hy154
                clear hy154
                have H':=Aside0.mk H
                clear H
                have p152:0≤(x4_1:Int):=of_decide_eq_true (by first|(with_reducible assumption)|assumption)
                have q152:x4_1<(l0.length:Int):=of_decide_eq_true (by first|(with_reducible assumption)|assumption)
                obtain ⟨ad152,e152,hx152_0⟩:=Kd.at_int HR0.out x4_1 p152 q152
                cases e152
                replace hx152_0:=(HB.out.cell (World.block_lt_of_cell? w _ hx152_0)).trans hx152_0
                replace p152:=eq_true p152
                replace q152:=eq_true q152
                have p153:0≤((ji5):Int):=of_decide_eq_true (by first|(with_reducible assumption)|assumption)
                have q153:(ji5)<(l0.length:Int):=of_decide_eq_true (by first|(with_reducible assumption)|assumption)
                obtain ⟨ad153,e153,hx153_0⟩:=Kd.at_int HR0.out (ji5) p153 q153
                obtain rfl:ad152=ad153:=(by injection e153)
                replace hx153_0:=(HB.out.cell (World.block_lt_of_cell? w _ hx153_0)).trans hx153_0
                replace p153:=eq_true p153
                replace q153:=eq_true q153
                go_wp2_with (first|((with_reducible refine gate_builtin (b := .append) (xs:=#[.tmp 31,.tmp 33]) rfl ?_);at_builtin;refine Kd.R_append (Kd.int .u64) (w0:=w) w.heap.size rfl (.tmp 31) (.tmp 33) 89 104 (.int .u64 0) 8 rfl Try.underlying89 info104 rfl (by decide) (by omega) u3 x3_1 (Go.bits .or .u64 (IntKind.u64.wrap (rd l0 x4_1)) (IntKind.u64.wrap ((IntKind.u64.wrap (rd l0 (ji5)))*4294967296))) [.int .u64 (Go.bits .or .u64 (IntKind.u64.wrap (rd l0 x4_1)) (IntKind.u64.wrap ((IntKind.u64.wrap (rd l0 (ji5)))*4294967296)))] (fun _=>True) (fun _=>False) rfl rfl ?aP (fun _ hk=>hk.elim) ?aF ?aO ?aB ?aS ?aL ?_;(case aP=>exact rfl);(case aB=>exact (by repeat (first|(with_reducible first|exact HB.out|apply below_alloc|apply pw_below_drewN|apply below_drew1)|exact HB.out)));(case aF=>exact (fun _ _=>trivial));(case aO=>exact (by (with_reducible repeat (first|apply Kd.R_alloc|apply Kd.R_drewN|apply Kd.R_drew));exact HO_3.out));(case aS=>exact (below_size (by repeat (first|(with_reducible first|exact HB.out|apply below_alloc|apply pw_below_drewN|apply below_drew1)|exact HB.out))));(case aL=>have:=LMc7.out;omega);intro v155 w8 ho hb hg hat;rw [← Ny154.out] at ho;have n0_:=Aside0.mk (hb);have n1_:=Aside0.mk (ho);clear HB;clear HO_3;have HB:=n0_;have HO156:=n1_;clear n0_ n1_;clear ho hb hg hat))
                go_roundg k1
                case measure=>have:=HK1.out;omega
                case rel=>exact ⟨(y154),(wrap64 (x4_1+2)),(by first|rfl|(simp;done)|(simp [*];done)),H',⟨by have:=HK1.out;omega⟩,⟨by (with_reducible repeat (first|apply Kd.R_alloc|apply Kd.R_drewN|apply Kd.R_drew));exact HO156.out⟩,⟨by repeat (first|(with_reducible first|exact HB.out|apply below_alloc|apply pw_below_drewN|apply below_drew1)|exact HB.out)⟩⟩
              · rw [if_neg c7] at H
                exact absurd H (by simp)
            · rw [if_neg c6] at H
              exact absurd H (by simp)
          · rw [if_neg c4] at H
            have c4b0:decide ((wrap64 (x4_1+1))<(l0.length:Int))=false:=decide_eq_false c4
            clear c4
            by_cases c9:x3_1.length<17592186044416
            · rw [if_pos c9] at H
              have LMc9:=Aside0.mk c9
              clear c9
              obtain ⟨y157,hy157⟩:∃ y_:List Int,y_=(x3_1++[IntKind.u64.wrap (rd l0 x4_1)]):=⟨_,rfl⟩
              replace H:(gimbalref90_whole.l0 k1 l0 y157 (wrap64 (x4_1+2)))=some r:=by first|(rw [hy157];with_reducible exact H)|(have H2_:=(Option.bind_some _ _).symm.trans H;rw [hy157];with_reducible exact H2_)|(have H2_:=(Option.bind_some _ _).symm.trans H;with_reducible exact H2_)|with_reducible exact H|(rw [hy157];exact H)|exact H
              have Ny157:=Aside0.mk hy157
              clear hy157
              have H':=Aside0.mk H
              clear H
              have p152:0≤(x4_1:Int):=of_decide_eq_true (by first|(with_reducible assumption)|assumption)
              have q152:x4_1<(l0.length:Int):=of_decide_eq_true (by first|(with_reducible assumption)|assumption)
              obtain ⟨ad152,e152,hx152_0⟩:=Kd.at_int HR0.out x4_1 p152 q152
              cases e152
              replace hx152_0:=(HB.out.cell (World.block_lt_of_cell? w _ hx152_0)).trans hx152_0
              replace p152:=eq_true p152
              replace q152:=eq_true q152
              go_wp2_with (first|((with_reducible refine gate_builtin (b := .append) (xs:=#[.tmp 31,.tmp 33]) rfl ?_);at_builtin;refine Kd.R_append (Kd.int .u64) (w0:=w) w.heap.size rfl (.tmp 31) (.tmp 33) 89 104 (.int .u64 0) 8 rfl Try.underlying89 info104 rfl (by decide) (by omega) u3 x3_1 (IntKind.u64.wrap (rd l0 x4_1)) [.int .u64 (IntKind.u64.wrap (rd l0 x4_1))] (fun _=>True) (fun _=>False) rfl rfl ?aP (fun _ hk=>hk.elim) ?aF ?aO ?aB ?aS ?aL ?_;(case aP=>exact rfl);(case aB=>exact (by repeat (first|(with_reducible first|exact HB.out|apply below_alloc|apply pw_below_drewN|apply below_drew1)|exact HB.out)));(case aF=>exact (fun _ _=>trivial));(case aO=>exact (by (with_reducible repeat (first|apply Kd.R_alloc|apply Kd.R_drewN|apply Kd.R_drew));exact HO_3.out));(case aS=>exact (below_size (by repeat (first|(with_reducible first|exact HB.out|apply below_alloc|apply pw_below_drewN|apply below_drew1)|exact HB.out))));(case aL=>have:=LMc9.out;omega);intro v158 w10 ho hb hg hat;rw [← Ny157.out] at ho;have n0_:=Aside0.mk (hb);have n1_:=Aside0.mk (ho);clear HB;clear HO_3;have HB:=n0_;have HO159:=n1_;clear n0_ n1_;clear ho hb hg hat))
              go_roundg k1
              case measure=>have:=HK1.out;omega
              case rel=>exact ⟨(y157),(wrap64 (x4_1+2)),(by first|rfl|(simp;done)|(simp [*];done)),H',⟨by have:=HK1.out;omega⟩,⟨by (with_reducible repeat (first|apply Kd.R_alloc|apply Kd.R_drewN|apply Kd.R_drew));exact HO159.out⟩,⟨by repeat (first|(with_reducible first|exact HB.out|apply below_alloc|apply pw_below_drewN|apply below_drew1)|exact HB.out)⟩⟩
            · rw [if_neg c9] at H
              exact absurd H (by simp)
        · rw [if_neg c3] at H
          exact absurd H (by simp)
      · rw [if_neg c2] at H
        have c2b0:decide (x4_1<(l0.length:Int))=false:=decide_eq_false c2
        clear c2
        replace H:=Option.bind_eq_some_iff.mp H
        obtain ⟨t160,A110,H⟩:=H
        replace H:(some t160)=some r:=H
        have A11:=Aside0.mk A110
        clear A110
        obtain rfl:=Option.some.inj H
        obtain ⟨Ao12,co12,eo12⟩:=Kd.R_slice HO_3.out
        subst eo12
        go_wp2_with (first|((with_reducible refine gate_callee (f:=107) rfl ?_);refine goesL_ (some 36) rfl rfl Try.func107 (by kernel_rfl) rfl #[.slice Ao12 x3_1.length co12] rfl (by (try simp only [List.map_toArray,List.map_cons,List.map_nil]);first|done|rfl|(simp only [List.length_drop,List.length_take];rfl)) ?_;(with_reducible refine (gimbalref90_NTrim.calls k1 (fun k_=>some k_=(.slice Ao12 x3_1.length co12:Value).ownBlock) (.slice Ao12 x3_1.length co12) x3_1 t160 w _ ?side1 ?side2 A11.out).mono ?_);(case side1=>repeat (first|(with_reducible first|exact HB.out|apply below_alloc|apply pw_below_drewN|apply below_drew1)|exact HB.out));(case side2=>exact Kd.R_tight rfl HO_3.out);rintro e w13 ⟨v161,rfl,ho0,hb,hkp⟩;refine ⟨_,rfl,?_⟩;have n0_:=Aside0.mk (Kd.R_mono (ok':=fun k_=>True) ho0 (fun k_ hk_=>trivial));have n1_:=Aside0.mk (hb);clear HB;clear HO_3;have HO162:=n0_;have HB:=n1_;clear n0_ n1_;(try clear hb);(try clear hkp);(try clear ho0)))
        go_ret
        exact ⟨_,by first|rfl|(simp [errW_none,errW_some]<;>rfl)|(simp [*,errW_none,errW_some]<;>rfl),by (with_reducible repeat (first|apply Kd.R_alloc|apply Kd.R_drewN|apply Kd.R_drew));exact HO162.out,by repeat (first|(with_reducible first|exact HB.out|apply below_alloc|apply pw_below_drewN|apply below_drew1)|exact HB.out)⟩
def gimbalref90_NLess.l0:Nat→List Int→List Int→List Int→Int→Int→Option (List Int)
  | 0,_,_,_,_,_=>none
  | k+1,x5,x6,x7,x8,x9=>if x9<(x5.length:Int) then (if 0≤x9 then (if x9<(x6.length:Int) then (if x7.length<35184372088832 then (gimbalref90_NLess.l0 k x5 x6 (x7++[(IntKind.u64.wrap (wrap64 ((wrap64 (x8+(wrap64 (rd x5 x9))))-(wrap64 (rd x6 x9)))))%4294967296]) ((wrap64 ((wrap64 (x8+(wrap64 (rd x5 x9))))-(wrap64 (rd x6 x9))))/4294967296) (wrap64 (x9+1))) else (none)) else (if x7.length<35184372088832 then (gimbalref90_NLess.l0 k x5 x6 (x7++[(IntKind.u64.wrap (wrap64 (x8+(wrap64 (rd x5 x9)))))%4294967296]) ((wrap64 (x8+(wrap64 (rd x5 x9))))/4294967296) (wrap64 (x9+1))) else (none))) else (none)) else ((gimbalref90_cut.f k x7).bind fun t177=>((gimbalref90_whole.f k t177).bind fun t180=>(some t180)))
def gimbalref90_NLess.f (k:Nat) (l0:List Int) (l1:List Int):Option (List Int):=(gimbalref90_halves.f k l0).bind fun t163=>((gimbalref90_halves.f k l1).bind fun t166=>(gimbalref90_NLess.l0 k t163 t166 ([]:List Int) 0 0))
theorem gimbalref90_NLess.mono_l:∀ k,(∀ y0 y1 y2 y3 y4,LeO (gimbalref90_NLess.l0 k y0 y1 y2 y3 y4) (gimbalref90_NLess.l0 (k+1) y0 y1 y2 y3 y4))
  | 0=>fun _ _ _ _ _ r h=>by simp [gimbalref90_NLess.l0] at h
  | k + 1 => by
    have ih0:=gimbalref90_NLess.mono_l k
    · intro y0 y1 y2 y3 y4
      unfold gimbalref90_NLess.l0
      repeat' first
      | (with_reducible exact ih0 _ _ _ _ _)
      | (with_reducible exact gimbalref90_cut.mono _ _)
      | (with_reducible exact gimbalref90_halves.mono _ _)
      | (with_reducible exact gimbalref90_whole.mono _ _)
      | (with_reducible exact LeO.refl _)
      | (with_reducible exact LeO.none _)
      | (with_reducible refine LeO.ite ?_ ?_)
      | (with_reducible refine LeO.bind ?_ (fun _=>?_))
      | exact ih0 _ _ _ _ _
      | exact gimbalref90_cut.mono _ _
      | exact gimbalref90_halves.mono _ _
      | exact gimbalref90_whole.mono _ _
      | exact LeO.none _
      | refine LeO.ite ?_ ?_
      | refine LeO.bind ?_ (fun _=>?_)
theorem gimbalref90_NLess.mono:∀ a0 a1 k,LeO (gimbalref90_NLess.f k a0 a1) (gimbalref90_NLess.f (k+1) a0 a1):=by
  intro a0 a1 k
  have ih0:=gimbalref90_NLess.mono_l k
  unfold gimbalref90_NLess.f
  repeat' first
      | (with_reducible exact ih0 _ _ _ _ _)
      | (with_reducible exact gimbalref90_cut.mono _ _)
      | (with_reducible exact gimbalref90_halves.mono _ _)
      | (with_reducible exact gimbalref90_whole.mono _ _)
      | (with_reducible exact LeO.refl _)
      | (with_reducible exact LeO.none _)
      | (with_reducible refine LeO.ite ?_ ?_)
      | (with_reducible refine LeO.bind ?_ (fun _=>?_))
      | exact ih0 _ _ _ _ _
      | exact gimbalref90_cut.mono _ _
      | exact gimbalref90_halves.mono _ _
      | exact gimbalref90_whole.mono _ _
      | exact LeO.none _
      | refine LeO.ite ?_ ?_
      | refine LeO.bind ?_ (fun _=>?_)
set_option maxHeartbeats 8000000 in
set_option maxRecDepth 100000 in
theorem gimbalref90_NLess.calls (k:Nat) (A0:Option Addr) (c0:Nat) (l0:List Int) (A1:Option Addr) (c1:Nat) (l1:List Int) (r:List Int) (w:World) (hr0:Kd.C (Kd.int .u64) w A0 l0.length l0) (hc0:l0.length≤c0) (hr1:Kd.C (Kd.int .u64) w A1 l1.length l1) (hc1:l1.length≤c1) (h:gimbalref90_NLess.f k l0 l1=some r) :
    Calls Try.prog 83 #[.slice A0 l0.length c0,.slice A1 l1.length c1] w fun e w'=>∃ v0_:Value,e = .returned (v0_)∧Kd.R (Kd.int .u64) 104 w' w.heap.size (fun _=>True) v0_ r∧Below w.heap.size w w':=by
  have HR0:=Aside0.mk hr0
  have HC0:=Aside0.mk hc0
  clear hr0 hc0
  have HR1:=Aside0.mk hr1
  have HC1:=Aside0.mk hc1
  clear hr1 hc1
  have HB:=Aside0.mk (Below.refl w.heap.size w)
  have H:((gimbalref90_halves.f k l0).bind fun t163=>((gimbalref90_halves.f k l1).bind fun t166=>(gimbalref90_NLess.l0 k t163 t166 ([]:List Int) 0 0)))=some r:=h
  clear h
  replace H:=Option.bind_eq_some_iff.mp H
  obtain ⟨t163,A30,H⟩:=H
  replace H:((gimbalref90_halves.f k l1).bind fun t166=>(gimbalref90_NLess.l0 k t163 t166 ([]:List Int) 0 0))=some r:=H
  have A3:=Aside0.mk A30
  clear A30
  replace H:=Option.bind_eq_some_iff.mp H
  obtain ⟨t166,A40,H⟩:=H
  replace H:(gimbalref90_NLess.l0 k t163 t166 ([]:List Int) 0 0)=some r:=H
  have A4:=Aside0.mk A40
  clear A40
  have H':=Aside0.mk H
  clear H
  go_enter Try.func83,Try.ntmps83
  go_wp2_with (first|((with_reducible refine gate_callee (f:=108) rfl ?_);refine goesL_ (some 11) rfl rfl Try.func108 (by kernel_rfl) rfl #[.slice A0 l0.length c0] rfl (by (try simp only [List.map_toArray,List.map_cons,List.map_nil]);first|done|rfl|(simp only [List.length_drop,List.length_take];rfl)) ?_;(with_reducible refine (gimbalref90_halves.calls k _ _ l0 t163 _ ?side1 ?side2 A3.out).mono ?_);(case side1=>repeat (first|exact HR0.out|(with_reducible refine Kd.C_alloc ?_ _)|(with_reducible refine Kd.C_drewN ?_ _)|(with_reducible refine Kd.C_drew ?_)));(case side2=>exact HC0.out);rintro e w5 ⟨v164,rfl,ho0,hb⟩;refine ⟨_,rfl,?_⟩;have n0_:=Aside0.mk (Kd.R_lower ho0 (below_size (by repeat (first|(with_reducible first|exact HB.out|apply below_alloc|apply pw_below_drewN|apply below_drew1)|exact HB.out))));have n1_:=Aside0.mk (below_step (by repeat (first|(with_reducible first|exact HB.out|apply below_alloc|apply pw_below_drewN|apply below_drew1)|exact HB.out)) hb);clear HB;have HO165:=n0_;have HB:=n1_;clear n0_ n1_;(try clear hb);(try clear hb2);(try clear hk);(try clear hi);(try clear ho0))|((with_reducible refine gate_callee (f:=108) rfl ?_);refine goesL_ (some 13) rfl rfl Try.func108 (by kernel_rfl) rfl #[.slice A1 l1.length c1] rfl (by (try simp only [List.map_toArray,List.map_cons,List.map_nil]);first|done|rfl|(simp only [List.length_drop,List.length_take];rfl)) ?_;(with_reducible refine (gimbalref90_halves.calls k _ _ l1 t166 _ ?side1 ?side2 A4.out).mono ?_);(case side1=>repeat (first|exact (Kd.C_below HR1.out HB.out)|(with_reducible refine Kd.C_alloc ?_ _)|(with_reducible refine Kd.C_drewN ?_ _)|(with_reducible refine Kd.C_drew ?_)));(case side2=>exact HC1.out);rintro e w6 ⟨v167,rfl,ho0,hb⟩;refine ⟨_,rfl,?_⟩;have n0_:=Aside0.mk (Kd.R_elder' (by (with_reducible repeat (first|apply Kd.R_alloc|apply Kd.R_drewN|apply Kd.R_drew));exact HO165.out) (Kd.R_base ho0) hb);have n1_:=Aside0.mk (Kd.R_lower (Kd.R_new' ho0 (Kd.R_lt (by (with_reducible repeat (first|apply Kd.R_alloc|apply Kd.R_drewN|apply Kd.R_drew));exact HO165.out))) (below_size (by repeat (first|(with_reducible first|exact HB.out|apply below_alloc|apply pw_below_drewN|apply below_drew1)|exact HB.out))));have n2_:=Aside0.mk (below_step (by repeat (first|(with_reducible first|exact HB.out|apply below_alloc|apply pw_below_drewN|apply below_drew1)|exact HB.out)) hb);clear HO165;clear HB;have HO165:=n0_;have HO168:=n1_;have HB:=n2_;clear n0_ n1_ n2_;(try clear hb);(try clear hb2);(try clear hk);(try clear hi);(try clear ho0)))
  go_loopg [7,8,9] k (fun kq v7 v8 v9 w'=>∃ (x7_1:List Int) (x8_1:Int) (x9_1:Int),v8 = .int .i64 x8_1∧v9 = .int .i64 x9_1∧Aside0 (gimbalref90_NLess.l0 kq t163 t166 x7_1 x8_1 x9_1=some r)∧Aside0 (kq≤k)∧Aside0 (Kd.R (Kd.int .u32) 145 w' w.heap.size (fun k_=>some k_≠(v167:Value).ownBlock∧some k_≠(v7:Value).ownBlock) v164 t163)∧Aside0 (Kd.R (Kd.int .u32) 145 w' w.heap.size (fun k_=>some k_≠(v164:Value).ownBlock∧some k_≠(v7:Value).ownBlock) v167 t166)∧Aside0 (Kd.R (Kd.int .u32) 145 w' w.heap.size (fun k_=>some k_≠(v164:Value).ownBlock∧some k_≠(v167:Value).ownBlock) v7 x7_1)∧Aside0 (Below w.heap.size w w'))
  case atStart=>exact ⟨(([]:List Int)),(0),(0),(by first|rfl|(simp;done)|(simp [*];done)),(by first|rfl|(simp;done)|(simp [*];done)),H',⟨Nat.le_refl _⟩,⟨by (with_reducible repeat (first|apply Kd.R_alloc|apply Kd.R_drewN|apply Kd.R_drew));exact Kd.R_mono HO165.out (fun _ hk=>⟨hk.2,(by simp [Value.ownBlock])⟩)⟩,⟨by (with_reducible repeat (first|apply Kd.R_alloc|apply Kd.R_drewN|apply Kd.R_drew));exact Kd.R_mono HO168.out (fun _ hk=>⟨hk.2,(by simp [Value.ownBlock])⟩)⟩,⟨by first|exact Kd.R_nil _ _ _ _ _|exact Kd.N_nil _ _ _ _ _|exact Kd.V_nil _ _ _ _ _|exact Kd.Q_nil _ _ _ _ _|exact Kd.S_nil _ _ _ _ _⟩,⟨by repeat (first|(with_reducible first|exact HB.out|apply below_alloc|apply pw_below_drewN|apply below_drew1)|exact HB.out)⟩⟩
  case round =>
    clear H'
    try clear c1
    try clear p2
    obtain ⟨x7_1,x8_1,x9_1,rfl,rfl,HA,HK1,HO_5,HO_6,HO_7,HB⟩:=hrel
    cases gk with
    | zero=>exact absurd HA.out (by simp [gimbalref90_NLess.l0])
    | succ k1 =>
      have H:=HA.out
      clear HA
      simp only [gimbalref90_NLess.l0] at H
      by_cases c7:x9_1<(t163.length:Int)
      · rw [if_pos c7] at H
        have c7b0:decide (x9_1<(t163.length:Int))=true:=decide_eq_true c7
        clear c7
        by_cases c8:0≤x9_1
        · rw [if_pos c8] at H
          have c8b0:decide (0≤x9_1)=true:=decide_eq_true c8
          clear c8
          by_cases c9:x9_1<(t166.length:Int)
          · rw [if_pos c9] at H
            have c9b0:decide (x9_1<(t166.length:Int))=true:=decide_eq_true c9
            clear c9
            by_cases c10:x7_1.length<35184372088832
            · rw [if_pos c10] at H
              have LMc10:=Aside0.mk c10
              clear c10
              obtain ⟨y171,hy171⟩:∃ y_:List Int,y_=(x7_1++[(IntKind.u64.wrap (wrap64 ((wrap64 (x8_1+(wrap64 (rd t163 x9_1))))-(wrap64 (rd t166 x9_1)))))%4294967296]):=⟨_,rfl⟩
              replace H:(gimbalref90_NLess.l0 k1 t163 t166 y171 ((wrap64 ((wrap64 (x8_1+(wrap64 (rd t163 x9_1))))-(wrap64 (rd t166 x9_1))))/4294967296) (wrap64 (x9_1+1)))=some r:=by first|(rw [hy171];with_reducible exact H)|(have H2_:=(Option.bind_some _ _).symm.trans H;rw [hy171];with_reducible exact H2_)|(have H2_:=(Option.bind_some _ _).symm.trans H;with_reducible exact H2_)|with_reducible exact H|(rw [hy171];exact H)|exact H
              have Ny171:=Aside0.mk hy171
              clear hy171
              have H':=Aside0.mk H
              clear H
              obtain ⟨Ao11,co11,eo11⟩:=Kd.R_slice HO_5.out
              subst eo11
              have p169:0≤(x9_1:Int):=of_decide_eq_true (by first|(with_reducible assumption)|assumption)
              have q169:x9_1<(t163.length:Int):=of_decide_eq_true (by first|(with_reducible assumption)|assumption)
              obtain ⟨ad169,e169,hx169_0⟩:=Kd.at_int (Kd.R_reads' HO_5.out).2.2 x9_1 p169 q169
              cases e169
              replace p169:=eq_true p169
              replace q169:=eq_true q169
              obtain ⟨Ao12,co12,eo12⟩:=Kd.R_slice HO_6.out
              subst eo12
              have p170:0≤(x9_1:Int):=of_decide_eq_true (by first|(with_reducible assumption)|assumption)
              have q170:x9_1<(t166.length:Int):=of_decide_eq_true (by first|(with_reducible assumption)|assumption)
              obtain ⟨ad170,e170,hx170_0⟩:=Kd.at_int (Kd.R_reads' HO_6.out).2.2 x9_1 p170 q170
              cases e170
              replace p170:=eq_true p170
              replace q170:=eq_true q170
              go_wp2_with (first|((with_reducible refine gate_builtin (b := .append) (xs:=#[.tmp 38,.tmp 42]) rfl ?_);at_builtin;refine Kd.R_append (Kd.int .u32) (w0:=w) w.heap.size rfl (.tmp 38) (.tmp 42) 143 145 (.int .u32 0) 4 rfl Try.underlying143 info145 rfl (by decide) (by omega) u7 x7_1 ((IntKind.u64.wrap (wrap64 ((wrap64 (x8_1+(wrap64 (rd t163 x9_1))))-(wrap64 (rd t166 x9_1)))))%4294967296) [.int .u32 ((IntKind.u64.wrap (wrap64 ((wrap64 (x8_1+(wrap64 (rd t163 x9_1))))-(wrap64 (rd t166 x9_1)))))%4294967296)] (fun k_=>some k_≠(.slice (some ad169) t163.length co11:Value).ownBlock∧some k_≠(.slice (some ad170) t166.length co12:Value).ownBlock) (fun _=>False) rfl rfl ?aP (fun _ hk=>hk.elim) ?aF ?aO ?aB ?aS ?aL ?_;(case aP=>exact rfl);(case aB=>exact (by repeat (first|(with_reducible first|exact HB.out|apply below_alloc|apply pw_below_drewN|apply below_drew1)|exact HB.out)));(case aF=>exact (fun k_ hk=>⟨Kd.fresh' (Kd.R_lt (by (with_reducible repeat (first|apply Kd.R_alloc|apply Kd.R_drewN|apply Kd.R_drew));exact HO_5.out)) k_ hk,Kd.fresh' (Kd.R_lt (by (with_reducible repeat (first|apply Kd.R_alloc|apply Kd.R_drewN|apply Kd.R_drew));exact HO_6.out)) k_ hk⟩));(case aO=>exact (by (with_reducible repeat (first|apply Kd.R_alloc|apply Kd.R_drewN|apply Kd.R_drew));exact HO_7.out));(case aS=>exact (below_size (by repeat (first|(with_reducible first|exact HB.out|apply below_alloc|apply pw_below_drewN|apply below_drew1)|exact HB.out))));(case aL=>have:=LMc10.out;omega);intro v172 w13 ho hb hg hat;rw [← Ny171.out] at ho;have n0_:=Aside0.mk (Kd.R_after (ok:=(fun k_=>some k_≠(.slice (some ad170) t166.length co12:Value).ownBlock)) (by (with_reducible repeat (first|apply Kd.R_alloc|apply Kd.R_drewN|apply Kd.R_drew));exact HO_5.out) hg hat);have n1_:=Aside0.mk (Kd.R_after (ok:=(fun k_=>some k_≠(.slice (some ad169) t163.length co11:Value).ownBlock)) (by (with_reducible repeat (first|apply Kd.R_alloc|apply Kd.R_drewN|apply Kd.R_drew));exact HO_6.out) hg hat);have n2_:=Aside0.mk (hb);have n3_:=Aside0.mk (ho);clear HO_5;clear HO_6;clear HB;clear HO_7;have HO_5:=n0_;have HO_6:=n1_;have HB:=n2_;have HO173:=n3_;clear n0_ n1_ n2_ n3_;clear ho hb hg hat))
              go_roundg k1
              case measure=>have:=HK1.out;omega
              case rel=>exact ⟨(y171),((wrap64 ((wrap64 (x8_1+(wrap64 (rd t163 x9_1))))-(wrap64 (rd t166 x9_1))))/4294967296),(wrap64 (x9_1+1)),(by first|rfl|(simp;done)|(simp [*];done)),(by first|rfl|(simp;done)|(simp [*];done)),H',⟨by have:=HK1.out;omega⟩,⟨by (with_reducible repeat (first|apply Kd.R_alloc|apply Kd.R_drewN|apply Kd.R_drew));exact HO_5.out⟩,⟨by (with_reducible repeat (first|apply Kd.R_alloc|apply Kd.R_drewN|apply Kd.R_drew));exact HO_6.out⟩,⟨by (with_reducible repeat (first|apply Kd.R_alloc|apply Kd.R_drewN|apply Kd.R_drew));exact HO173.out⟩,⟨by repeat (first|(with_reducible first|exact HB.out|apply below_alloc|apply pw_below_drewN|apply below_drew1)|exact HB.out)⟩⟩
            · rw [if_neg c10] at H
              exact absurd H (by simp)
          · rw [if_neg c9] at H
            have c9b0:decide (x9_1<(t166.length:Int))=false:=decide_eq_false c9
            clear c9
            by_cases c14:x7_1.length<35184372088832
            · rw [if_pos c14] at H
              have LMc14:=Aside0.mk c14
              clear c14
              obtain ⟨y174,hy174⟩:∃ y_:List Int,y_=(x7_1++[(IntKind.u64.wrap (wrap64 (x8_1+(wrap64 (rd t163 x9_1)))))%4294967296]):=⟨_,rfl⟩
              replace H:(gimbalref90_NLess.l0 k1 t163 t166 y174 ((wrap64 (x8_1+(wrap64 (rd t163 x9_1))))/4294967296) (wrap64 (x9_1+1)))=some r:=by first|(rw [hy174];with_reducible exact H)|(have H2_:=(Option.bind_some _ _).symm.trans H;rw [hy174];with_reducible exact H2_)|(have H2_:=(Option.bind_some _ _).symm.trans H;with_reducible exact H2_)|with_reducible exact H|(rw [hy174];exact H)|exact H
              have Ny174:=Aside0.mk hy174
              clear hy174
              have H':=Aside0.mk H
              clear H
              obtain ⟨Ao15,co15,eo15⟩:=Kd.R_slice HO_5.out
              subst eo15
              have p169:0≤(x9_1:Int):=of_decide_eq_true (by first|(with_reducible assumption)|assumption)
              have q169:x9_1<(t163.length:Int):=of_decide_eq_true (by first|(with_reducible assumption)|assumption)
              obtain ⟨ad169,e169,hx169_0⟩:=Kd.at_int (Kd.R_reads' HO_5.out).2.2 x9_1 p169 q169
              cases e169
              replace p169:=eq_true p169
              replace q169:=eq_true q169
              obtain ⟨Ao16,co16,eo16⟩:=Kd.R_slice HO_6.out
              subst eo16
              go_wp2_with (first|((with_reducible refine gate_builtin (b := .append) (xs:=#[.tmp 38,.tmp 42]) rfl ?_);at_builtin;refine Kd.R_append (Kd.int .u32) (w0:=w) w.heap.size rfl (.tmp 38) (.tmp 42) 143 145 (.int .u32 0) 4 rfl Try.underlying143 info145 rfl (by decide) (by omega) u7 x7_1 ((IntKind.u64.wrap (wrap64 (x8_1+(wrap64 (rd t163 x9_1)))))%4294967296) [.int .u32 ((IntKind.u64.wrap (wrap64 (x8_1+(wrap64 (rd t163 x9_1)))))%4294967296)] (fun k_=>some k_≠(.slice (some ad169) t163.length co15:Value).ownBlock∧some k_≠(.slice Ao16 t166.length co16:Value).ownBlock) (fun _=>False) rfl rfl ?aP (fun _ hk=>hk.elim) ?aF ?aO ?aB ?aS ?aL ?_;(case aP=>exact rfl);(case aB=>exact (by repeat (first|(with_reducible first|exact HB.out|apply below_alloc|apply pw_below_drewN|apply below_drew1)|exact HB.out)));(case aF=>exact (fun k_ hk=>⟨Kd.fresh' (Kd.R_lt (by (with_reducible repeat (first|apply Kd.R_alloc|apply Kd.R_drewN|apply Kd.R_drew));exact HO_5.out)) k_ hk,Kd.fresh' (Kd.R_lt (by (with_reducible repeat (first|apply Kd.R_alloc|apply Kd.R_drewN|apply Kd.R_drew));exact HO_6.out)) k_ hk⟩));(case aO=>exact (by (with_reducible repeat (first|apply Kd.R_alloc|apply Kd.R_drewN|apply Kd.R_drew));exact HO_7.out));(case aS=>exact (below_size (by repeat (first|(with_reducible first|exact HB.out|apply below_alloc|apply pw_below_drewN|apply below_drew1)|exact HB.out))));(case aL=>have:=LMc14.out;omega);intro v175 w17 ho hb hg hat;rw [← Ny174.out] at ho;have n0_:=Aside0.mk (Kd.R_after (ok:=(fun k_=>some k_≠(.slice Ao16 t166.length co16:Value).ownBlock)) (by (with_reducible repeat (first|apply Kd.R_alloc|apply Kd.R_drewN|apply Kd.R_drew));exact HO_5.out) hg hat);have n1_:=Aside0.mk (Kd.R_after (ok:=(fun k_=>some k_≠(.slice (some ad169) t163.length co15:Value).ownBlock)) (by (with_reducible repeat (first|apply Kd.R_alloc|apply Kd.R_drewN|apply Kd.R_drew));exact HO_6.out) hg hat);have n2_:=Aside0.mk (hb);have n3_:=Aside0.mk (ho);clear HO_5;clear HO_6;clear HB;clear HO_7;have HO_5:=n0_;have HO_6:=n1_;have HB:=n2_;have HO176:=n3_;clear n0_ n1_ n2_ n3_;clear ho hb hg hat))
              go_roundg k1
              case measure=>have:=HK1.out;omega
              case rel=>exact ⟨(y174),((wrap64 (x8_1+(wrap64 (rd t163 x9_1))))/4294967296),(wrap64 (x9_1+1)),(by first|rfl|(simp;done)|(simp [*];done)),(by first|rfl|(simp;done)|(simp [*];done)),H',⟨by have:=HK1.out;omega⟩,⟨by (with_reducible repeat (first|apply Kd.R_alloc|apply Kd.R_drewN|apply Kd.R_drew));exact HO_5.out⟩,⟨by (with_reducible repeat (first|apply Kd.R_alloc|apply Kd.R_drewN|apply Kd.R_drew));exact HO_6.out⟩,⟨by (with_reducible repeat (first|apply Kd.R_alloc|apply Kd.R_drewN|apply Kd.R_drew));exact HO176.out⟩,⟨by repeat (first|(with_reducible first|exact HB.out|apply below_alloc|apply pw_below_drewN|apply below_drew1)|exact HB.out)⟩⟩
            · rw [if_neg c14] at H
              exact absurd H (by simp)
        · rw [if_neg c8] at H
          exact absurd H (by simp)
      · rw [if_neg c7] at H
        have c7b0:decide (x9_1<(t163.length:Int))=false:=decide_eq_false c7
        clear c7
        replace H:=Option.bind_eq_some_iff.mp H
        obtain ⟨t177,A180,H⟩:=H
        replace H:((gimbalref90_whole.f k1 t177).bind fun t180=>(some t180))=some r:=H
        have A18:=Aside0.mk A180
        clear A180
        replace H:=Option.bind_eq_some_iff.mp H
        obtain ⟨t180,A190,H⟩:=H
        replace H:(some t180)=some r:=H
        have A19:=Aside0.mk A190
        clear A190
        obtain rfl:=Option.some.inj H
        obtain ⟨Ao20,co20,eo20⟩:=Kd.R_slice HO_5.out
        subst eo20
        obtain ⟨Ao21,co21,eo21⟩:=Kd.R_slice HO_7.out
        subst eo21
        go_wp2_with (first|((with_reducible refine gate_callee (f:=110) rfl ?_);refine goesL_ (some 47) rfl rfl Try.func110 (by kernel_rfl) rfl #[.slice Ao21 x7_1.length co21] rfl (by (try simp only [List.map_toArray,List.map_cons,List.map_nil]);first|done|rfl|(simp only [List.length_drop,List.length_take];rfl)) ?_;(with_reducible refine (gimbalref90_cut.calls k1 (fun k_=>some k_=(.slice Ao21 x7_1.length co21:Value).ownBlock) (.slice Ao21 x7_1.length co21) x7_1 t177 w _ ?side1 ?side2 A18.out).mono ?_);(case side1=>repeat (first|(with_reducible first|exact HB.out|apply below_alloc|apply pw_below_drewN|apply below_drew1)|exact HB.out));(case side2=>exact Kd.R_tight rfl HO_7.out);rintro e w22 ⟨v178,rfl,ho0,hb,hkp⟩;refine ⟨_,rfl,?_⟩;have n0_:=Aside0.mk (Kd.R_mono (ok':=fun k_=>some k_≠(v167:Value).ownBlock∧some k_≠(v178:Value).ownBlock) (Kd.R_keptB (HO_5.out) hkp (fun k_ hk_ hs_=>(hk_.2) hs_)) (fun k_ hk_=>⟨hk_.1.1,fun e_=>Or.elim (ho0.1 k_ e_.symm) (fun hs_=>hk_.2.1 hs_) (fun hn_=>Nat.not_le.2 hk_.2.2 hn_)⟩));have n1_:=Aside0.mk (Kd.R_mono (ok':=fun k_=>some k_≠(.slice Ao20 t163.length co20:Value).ownBlock∧some k_≠(v178:Value).ownBlock) (Kd.R_keptB (HO_6.out) hkp (fun k_ hk_ hs_=>(hk_.2) hs_)) (fun k_ hk_=>⟨hk_.1.1,fun e_=>Or.elim (ho0.1 k_ e_.symm) (fun hs_=>hk_.2.1 hs_) (fun hn_=>Nat.not_le.2 hk_.2.2 hn_)⟩));have n2_:=Aside0.mk (Kd.R_mono (ok':=fun k_=>some k_≠(.slice Ao20 t163.length co20:Value).ownBlock∧some k_≠(v167:Value).ownBlock) ho0 (fun k_ hk_=>⟨Or.elim hk_ (fun hs_=>fun e_=>(((HO_5.out).1 k_ e_.symm).2) hs_) (fun hn_=>(Kd.fresh' (Kd.R_lt (by (with_reducible repeat (first|apply Kd.R_alloc|apply Kd.R_drewN|apply Kd.R_drew));exact HO_5.out)) k_ hn_)),Or.elim hk_ (fun hs_=>fun e_=>(((HO_6.out).1 k_ e_.symm).2) hs_) (fun hn_=>(Kd.fresh' (Kd.R_lt (by (with_reducible repeat (first|apply Kd.R_alloc|apply Kd.R_drewN|apply Kd.R_drew));exact HO_6.out)) k_ hn_))⟩));have n3_:=Aside0.mk (hb);clear HO_5;clear HO_6;clear HB;clear HO_7;have HO_5:=n0_;have HO_6:=n1_;have HO179:=n2_;have HB:=n3_;clear n0_ n1_ n2_ n3_;(try clear hb);(try clear hkp);(try clear ho0);obtain ⟨Ao23,co23,eo23⟩:=Kd.R_slice HO179.out;subst eo23)|((with_reducible refine gate_callee (f:=109) rfl ?_);refine goesL_ (some 48) rfl rfl Try.func109 (by kernel_rfl) rfl #[.slice Ao23 t177.length co23] rfl (by (try simp only [List.map_toArray,List.map_cons,List.map_nil]);first|done|rfl|(simp only [List.length_drop,List.length_take];rfl)) ?_;(with_reducible refine (gimbalref90_whole.calls k1 _ _ t177 t180 _ ?side1 ?side2 A19.out).mono ?_);(case side1=>repeat (first|exact (Kd.R_reads' HO179.out).2.2|(with_reducible refine Kd.C_alloc ?_ _)|(with_reducible refine Kd.C_drewN ?_ _)|(with_reducible refine Kd.C_drew ?_)));(case side2=>exact (Kd.R_reads' HO179.out).2.1);rintro e w24 ⟨v181,rfl,ho0,hb⟩;refine ⟨_,rfl,?_⟩;have n0_:=Aside0.mk (Kd.R_below (by (with_reducible repeat (first|apply Kd.R_alloc|apply Kd.R_drewN|apply Kd.R_drew));exact HO_5.out) hb);have n1_:=Aside0.mk (Kd.R_below (by (with_reducible repeat (first|apply Kd.R_alloc|apply Kd.R_drewN|apply Kd.R_drew));exact HO_6.out) hb);have n2_:=Aside0.mk (Kd.R_below (by (with_reducible repeat (first|apply Kd.R_alloc|apply Kd.R_drewN|apply Kd.R_drew));exact HO179.out) hb);have n3_:=Aside0.mk (Kd.R_lower ho0 (below_size (by repeat (first|(with_reducible first|exact HB.out|apply below_alloc|apply pw_below_drewN|apply below_drew1)|exact HB.out))));have n4_:=Aside0.mk (below_step (by repeat (first|(with_reducible first|exact HB.out|apply below_alloc|apply pw_below_drewN|apply below_drew1)|exact HB.out)) hb);clear HO_5;clear HO_6;clear HO179;clear HB;have HO_5:=n0_;have HO_6:=n1_;have HO179:=n2_;have HO182:=n3_;have HB:=n4_;clear n0_ n1_ n2_ n3_ n4_;(try clear hb);(try clear hb2);(try clear hk);(try clear hi);(try clear ho0)))
        go_ret
        exact ⟨_,by first|rfl|(simp [errW_none,errW_some]<;>rfl)|(simp [*,errW_none,errW_some]<;>rfl),by (with_reducible repeat (first|apply Kd.R_alloc|apply Kd.R_drewN|apply Kd.R_drew));exact HO182.out,by repeat (first|(with_reducible first|exact HB.out|apply below_alloc|apply pw_below_drewN|apply below_drew1)|exact HB.out)⟩
end Go.Proofs.Ytonelbidndjhdaa.QN90
end
section
namespace Go.Proofs.Ytonelbidndjhdaa.QN90
open RowKit YtonelbidndjhdaaW.PrintWords YtonelbidndjhdaaW.PrintLast YtonelbidndjhdaaW.PrintMore
attribute [local go_sem] max2_int min2_int max_two min_two max_three min_three max_four min_four   -- for this text's walks alone
set_option linter.unusedVariables false
set_option linter.unusedSimpArgs false
def gimbalref90_Up2.l0:Nat→List Int→List Int→Int→Int→Int→Option (List Int)
  | 0,_,_,_,_,_=>none
  | k+1,x0,x5,x6,x7,x8=>if x8<(x0.length:Int) then (if 0≤x8 then (if 0≤x6 then (if x5.length<17592186044416 then ((some (x5++[Go.bits .or .u64 (shl .u64 (rd x0 x8) x6) x7]:List Int)).bind fun y187=>(if x6>0 then (if 0≤(IntKind.u64.wrap (64-x6)) then (gimbalref90_Up2.l0 k x0 y187 x6 (shr .u64 (rd x0 x8) (IntKind.u64.wrap (64-x6))) (wrap64 (x8+1))) else (none)) else (gimbalref90_Up2.l0 k x0 y187 x6 0 (wrap64 (x8+1))))) else (none)) else (none)) else (none)) else (if x5.length<17592186044416 then ((gimbalref90_NTrim.f k (x5++[x7])).bind fun t194=>(some t194)) else (none))
def gimbalref90_Up2.f (k:Nat) (l0:List Int) (a1:Int):Option (List Int):=if (l0.length:Int)=0 then (some ([]:List Int)) else (if 0≤(wrap64 (Int.tdiv a1 64)) then (if (wrap64 (Int.tdiv a1 64):Int).toNat≤35184372088832 then (gimbalref90_Up2.l0 k l0 (List.replicate (wrap64 (Int.tdiv a1 64):Int).toNat 0) (IntKind.u64.wrap (Int.tmod a1 64)) 0 0) else (none)) else (none))
theorem gimbalref90_Up2.mono_l:∀ k,(∀ y0 y1 y2 y3 y4,LeO (gimbalref90_Up2.l0 k y0 y1 y2 y3 y4) (gimbalref90_Up2.l0 (k+1) y0 y1 y2 y3 y4))
  | 0=>fun _ _ _ _ _ r h=>by simp [gimbalref90_Up2.l0] at h
  | k + 1 => by
    have ih0:=gimbalref90_Up2.mono_l k
    · intro y0 y1 y2 y3 y4
      unfold gimbalref90_Up2.l0
      repeat' first
      | (with_reducible exact ih0 _ _ _ _ _)
      | (with_reducible exact gimbalref90_NTrim.mono _ _)
      | (with_reducible exact LeO.refl _)
      | (with_reducible exact LeO.none _)
      | (with_reducible refine LeO.ite ?_ ?_)
      | (with_reducible refine LeO.bind ?_ (fun _=>?_))
      | exact ih0 _ _ _ _ _
      | exact gimbalref90_NTrim.mono _ _
      | exact LeO.none _
      | refine LeO.ite ?_ ?_
      | refine LeO.bind ?_ (fun _=>?_)
theorem gimbalref90_Up2.mono:∀ a0 a1 k,LeO (gimbalref90_Up2.f k a0 a1) (gimbalref90_Up2.f (k+1) a0 a1):=by
  intro a0 a1 k
  have ih0:=gimbalref90_Up2.mono_l k
  unfold gimbalref90_Up2.f
  repeat' first
      | (with_reducible exact ih0 _ _ _ _ _)
      | (with_reducible exact gimbalref90_NTrim.mono _ _)
      | (with_reducible exact LeO.refl _)
      | (with_reducible exact LeO.none _)
      | (with_reducible refine LeO.ite ?_ ?_)
      | (with_reducible refine LeO.bind ?_ (fun _=>?_))
      | exact ih0 _ _ _ _ _
      | exact gimbalref90_NTrim.mono _ _
      | exact LeO.none _
      | refine LeO.ite ?_ ?_
      | refine LeO.bind ?_ (fun _=>?_)
set_option maxHeartbeats 8000000 in
set_option maxRecDepth 100000 in
theorem gimbalref90_Up2.calls (k:Nat) (A0:Option Addr) (c0:Nat) (l0:List Int) (a1:Int) (r:List Int) (w:World) (hr0:Kd.C (Kd.int .u64) w A0 l0.length l0) (hc0:l0.length≤c0) (h:gimbalref90_Up2.f k l0 a1=some r) :
    Calls Try.prog 87 #[.slice A0 l0.length c0,.int .i64 a1] w fun e w'=>∃ v0_:Value,e = .returned (v0_)∧Kd.R (Kd.int .u64) 104 w' w.heap.size (fun _=>True) v0_ r∧Below w.heap.size w w':=by
  have HR0:=Aside0.mk hr0
  have HC0:=Aside0.mk hc0
  clear hr0 hc0
  have HB:=Aside0.mk (Below.refl w.heap.size w)
  have H:(if (l0.length:Int)=0 then (some ([]:List Int)) else (if 0≤(wrap64 (Int.tdiv a1 64)) then (if (wrap64 (Int.tdiv a1 64):Int).toNat≤35184372088832 then (gimbalref90_Up2.l0 k l0 (List.replicate (wrap64 (Int.tdiv a1 64):Int).toNat 0) (IntKind.u64.wrap (Int.tmod a1 64)) 0 0) else (none)) else (none)))=some r:=h
  clear h
  by_cases c3:(l0.length:Int)=0
  · rw [if_pos c3] at H
    have c3b0:((l0.length:Int) == 0)=true:=beq_iff_eq.mpr c3
    have c3b1:((l0.length:Int) != 0)=false:=bne_eq_false_iff_eq.mpr c3
    clear c3
    obtain rfl:=Option.some.inj H
    go_enter Try.func87,Try.ntmps87
    go_wp2
    go_ret
    exact ⟨_,by first|rfl|(simp [errW_none,errW_some]<;>rfl)|(simp [*,errW_none,errW_some]<;>rfl),by first|exact Kd.R_nil _ _ _ _ _|exact Kd.N_nil _ _ _ _ _|exact Kd.V_nil _ _ _ _ _|exact Kd.Q_nil _ _ _ _ _|exact Kd.S_nil _ _ _ _ _,by repeat (first|(with_reducible first|exact HB.out|apply below_alloc|apply pw_below_drewN|apply below_drew1)|exact HB.out)⟩
  · rw [if_neg c3] at H
    have c3b0:((l0.length:Int) == 0)=false:=beq_eq_false_iff_ne.mpr c3
    have c3b1:((l0.length:Int) != 0)=true:=bne_iff_ne.mpr c3
    have c3b2:¬ (l0=[]):=fun h_=>c3 (by rw [h_];rfl)
    obtain ⟨ji4,hji4⟩:∃ j_:Int,(wrap64 (Int.tdiv a1 64))=j_:=⟨_,rfl⟩
    replace H:(if 0≤(ji4) then (if (ji4:Int).toNat≤35184372088832 then (gimbalref90_Up2.l0 k l0 (List.replicate (ji4:Int).toNat 0) (IntKind.u64.wrap (Int.tmod a1 64)) 0 0) else (none)) else (none))=some r:=by first|(rw [hji4] at H;exact H)|(simp only [hji4] at H ⊢;exact H)
    have hji4w:(IntKind.i64.wrap (Int.tdiv a1 64))=ji4:=(i64_w _).trans hji4
    by_cases c5:0≤(ji4)
    · rw [if_pos c5] at H
      have c5b0:=eq_true c5
      have c5b1:decide (0≤(ji4))=true:=decide_eq_true c5
      clear c5
      by_cases c6:(ji4:Int).toNat≤35184372088832
      · rw [if_pos c6] at H
        have c6b0:=eq_true c6
        have c6b1:decide ((ji4:Int).toNat≤35184372088832)=true:=decide_eq_true c6
        clear c6
        obtain ⟨y183,hy183⟩:∃ y_:List Int,y_=(List.replicate (ji4:Int).toNat 0):=⟨_,rfl⟩
        replace H:(gimbalref90_Up2.l0 k l0 y183 (IntKind.u64.wrap (Int.tmod a1 64)) 0 0)=some r:=by first|(rw [hy183];with_reducible exact H)|(have H2_:=(Option.bind_some _ _).symm.trans H;rw [hy183];with_reducible exact H2_)|(have H2_:=(Option.bind_some _ _).symm.trans H;with_reducible exact H2_)|with_reducible exact H|(rw [hy183];exact H)|exact H
        have Ny183:=Aside0.mk hy183
        clear hy183
        have H':=Aside0.mk H
        clear H
        go_enter Try.func87,Try.ntmps87
        go_wp2_with (first|((with_reducible refine gate_dst (N:=14) rfl ?_);refine Kd.R_make (Kd.int .u64) _ 104 rfl (N:=14) rfl 89 _ _ rfl ji4 rfl rfl Try.underlying89 (.int .u64 0) 8 info104 rfl (by decide) (by omega) 0 (ok:=fun _=>True) (okp:=fun _=>True) rfl (fun _ hk=>hk) trivial (of_decide_eq_true (by first|(with_reducible assumption)|assumption)) (Nat.le_trans (Nat.mul_le_mul_right _ (of_decide_eq_true (by first|(with_reducible assumption)|assumption):ji4.toNat≤35184372088832)) (by omega)) (Below.refl _ _) (Nat.le_refl _) ?_;intro v184 w7 ho8 hb hg_ hnew_;clear hg_ hnew_;(first|rw [← Ny183.out] at ho8|(simp only [Int.reduceToNat] at ho8;rw [← Ny183.out] at ho8));have n0_:=Aside0.mk (Kd.R_lower ho8 (below_size (by repeat (first|(with_reducible first|exact HB.out|apply below_alloc|apply pw_below_drewN|apply below_drew1)|exact HB.out))));have n1_:=Aside0.mk (below_step (by repeat (first|(with_reducible first|exact HB.out|apply below_alloc|apply pw_below_drewN|apply below_drew1)|exact HB.out)) hb);clear HB;have HO185:=n0_;have HB:=n1_;clear n0_ n1_;clear hb ho8))
        go_loopg [5,7,8] k (fun kq v5 v7 v8 w'=>∃ (x5_1:List Int) (x7_1:Int) (x8_1:Int),v7 = .int .u64 x7_1∧v8 = .int .i64 x8_1∧Aside0 (gimbalref90_Up2.l0 kq l0 x5_1 (IntKind.u64.wrap (Int.tmod a1 64)) x7_1 x8_1=some r)∧Aside0 (kq≤k)∧Aside0 (Kd.R (Kd.int .u64) 104 w' w.heap.size (fun _=>True) v5 x5_1)∧Aside0 (Below w.heap.size w w'))
        case atStart=>exact ⟨(y183),(0),(0),(by first|rfl|(simp;done)|(simp [*];done)),(by first|rfl|(simp;done)|(simp [*];done)),H',⟨Nat.le_refl _⟩,⟨by (with_reducible repeat (first|apply Kd.R_alloc|apply Kd.R_drewN|apply Kd.R_drew));exact HO185.out⟩,⟨by repeat (first|(with_reducible first|exact HB.out|apply below_alloc|apply pw_below_drewN|apply below_drew1)|exact HB.out)⟩⟩
        case round =>
          clear H'
          try clear p2
          try clear c3
          try clear c3b0
          try clear c3b1
          try clear c3b2
          try clear c5
          try clear c5b0
          try clear c5b1
          try clear c6
          try clear c6b0
          try clear c6b1
          try clear p6
          try clear c8
          obtain ⟨x5_1,x7_1,x8_1,rfl,rfl,HA,HK1,HO_5,HB⟩:=hrel
          cases gk with
          | zero=>exact absurd HA.out (by simp [gimbalref90_Up2.l0])
          | succ k1 =>
            have H:=HA.out
            clear HA
            simp only [gimbalref90_Up2.l0] at H
            by_cases c9:x8_1<(l0.length:Int)
            · rw [if_pos c9] at H
              have c9b0:decide (x8_1<(l0.length:Int))=true:=decide_eq_true c9
              clear c9
              by_cases c10:0≤x8_1
              · rw [if_pos c10] at H
                have c10b0:decide (0≤x8_1)=true:=decide_eq_true c10
                clear c10
                obtain ⟨ji11,hji11⟩:∃ j_:Int,(IntKind.u64.wrap (Int.tmod a1 64))=j_:=⟨_,rfl⟩
                replace H:(if 0≤(ji11) then (if x5_1.length<17592186044416 then ((some (x5_1++[Go.bits .or .u64 (shl .u64 (rd l0 x8_1) (ji11)) x7_1]:List Int)).bind fun y187=>(if (ji11)>0 then (if 0≤(IntKind.u64.wrap (64-(ji11))) then (gimbalref90_Up2.l0 k1 l0 y187 (ji11) (shr .u64 (rd l0 x8_1) (IntKind.u64.wrap (64-(ji11)))) (wrap64 (x8_1+1))) else (none)) else (gimbalref90_Up2.l0 k1 l0 y187 (ji11) 0 (wrap64 (x8_1+1))))) else (none)) else (none))=some r:=by first|(rw [hji11] at H;exact H)|(simp only [hji11] at H ⊢;exact H)
                by_cases c12:0≤(ji11)
                · rw [if_pos c12] at H
                  have c12b0:=eq_true c12
                  have c12b1:decide (0≤(ji11))=true:=decide_eq_true c12
                  clear c12
                  obtain ⟨ji13,hji13⟩:∃ j_:Int,(shl .u64 (rd l0 x8_1) (ji11))=j_:=⟨_,rfl⟩
                  replace H:(if x5_1.length<17592186044416 then ((some (x5_1++[Go.bits .or .u64 (ji13) x7_1]:List Int)).bind fun y187=>(if (ji11)>0 then (if 0≤(IntKind.u64.wrap (64-(ji11))) then (gimbalref90_Up2.l0 k1 l0 y187 (ji11) (shr .u64 (rd l0 x8_1) (IntKind.u64.wrap (64-(ji11)))) (wrap64 (x8_1+1))) else (none)) else (gimbalref90_Up2.l0 k1 l0 y187 (ji11) 0 (wrap64 (x8_1+1))))) else (none))=some r:=by first|(rw [hji13] at H;exact H)|(simp only [hji13] at H ⊢;exact H)
                  have hji13_:(IntKind.u64.wrap ((rd l0 x8_1)*2 ^ min (ji11).toNat 64))=ji13:=hji13
                  have hji13z:(ji11)≤64→(IntKind.u64.wrap ((rd l0 x8_1)*2 ^ (ji11).toNat))=ji13:=shl_small hji13
                  by_cases c14:x5_1.length<17592186044416
                  · rw [if_pos c14] at H
                    have LMc14:=Aside0.mk c14
                    clear c14
                    obtain ⟨y187,hy187⟩:∃ y_:List Int,y_=(x5_1++[Go.bits .or .u64 (ji13) x7_1]):=⟨_,rfl⟩
                    replace H:(if (ji11)>0 then (if 0≤(IntKind.u64.wrap (64-(ji11))) then (gimbalref90_Up2.l0 k1 l0 y187 (ji11) (shr .u64 (rd l0 x8_1) (IntKind.u64.wrap (64-(ji11)))) (wrap64 (x8_1+1))) else (none)) else (gimbalref90_Up2.l0 k1 l0 y187 (ji11) 0 (wrap64 (x8_1+1))))=some r:=by first|(rw [hy187];with_reducible exact H)|(have H2_:=(Option.bind_some _ _).symm.trans H;rw [hy187];with_reducible exact H2_)|(have H2_:=(Option.bind_some _ _).symm.trans H;with_reducible exact H2_)|with_reducible exact H|(rw [hy187];exact H)|exact H
                    have Ny187:=Aside0.mk hy187
                    clear hy187
                    by_cases c15:(ji11)>0
                    · rw [if_pos c15] at H
                      have c15b0:decide (0<(ji11))=true:=decide_eq_true c15
                      clear c15
                      obtain ⟨ji16,hji16⟩:∃ j_:Int,(IntKind.u64.wrap (64-(ji11)))=j_:=⟨_,rfl⟩
                      replace H:(if 0≤(ji16) then (gimbalref90_Up2.l0 k1 l0 y187 (ji11) (shr .u64 (rd l0 x8_1) (ji16)) (wrap64 (x8_1+1))) else (none))=some r:=by first|(rw [hji16] at H;exact H)|(simp only [hji16] at H ⊢;exact H)
                      by_cases c17:0≤(ji16)
                      · rw [if_pos c17] at H
                        have c17b0:=eq_true c17
                        have c17b1:decide (0≤(ji16))=true:=decide_eq_true c17
                        clear c17
                        obtain ⟨ji18,hji18⟩:∃ j_:Int,(shr .u64 (rd l0 x8_1) (ji16))=j_:=⟨_,rfl⟩
                        replace H:(gimbalref90_Up2.l0 k1 l0 y187 (ji11) ji18 (wrap64 (x8_1+1)))=some r:=by first|(rw [hji18] at H;exact H)|(simp only [hji18] at H ⊢;exact H)
                        have hji18_:((rd l0 x8_1)/2 ^ min (ji16).toNat 64)=ji18:=hji18
                        have hji18z:(ji16)≤64→((rd l0 x8_1)/2 ^ (ji16).toNat)=ji18:=shr_small hji18
                        have H':=Aside0.mk H
                        clear H
                        have p186:0≤(x8_1:Int):=of_decide_eq_true (by first|(with_reducible assumption)|assumption)
                        have q186:x8_1<(l0.length:Int):=of_decide_eq_true (by first|(with_reducible assumption)|assumption)
                        obtain ⟨ad186,e186,hx186_0⟩:=Kd.at_int HR0.out x8_1 p186 q186
                        cases e186
                        replace hx186_0:=(HB.out.cell (World.block_lt_of_cell? w _ hx186_0)).trans hx186_0
                        replace p186:=eq_true p186
                        replace q186:=eq_true q186
                        go_wp2_with (first|((with_reducible refine gate_builtin (b := .append) (xs:=#[.tmp 24,.tmp 33]) rfl ?_);at_builtin;refine Kd.R_append (Kd.int .u64) (w0:=w) w.heap.size rfl (.tmp 24) (.tmp 33) 89 104 (.int .u64 0) 8 rfl Try.underlying89 info104 rfl (by decide) (by omega) u5 x5_1 (Go.bits .or .u64 (ji13) x7_1) [.int .u64 (Go.bits .or .u64 (ji13) x7_1)] (fun _=>True) (fun _=>False) rfl rfl ?aP (fun _ hk=>hk.elim) ?aF ?aO ?aB ?aS ?aL ?_;(case aP=>exact rfl);(case aB=>exact (by repeat (first|(with_reducible first|exact HB.out|apply below_alloc|apply pw_below_drewN|apply below_drew1)|exact HB.out)));(case aF=>exact (fun _ _=>trivial));(case aO=>exact (by (with_reducible repeat (first|apply Kd.R_alloc|apply Kd.R_drewN|apply Kd.R_drew));exact HO_5.out));(case aS=>exact (below_size (by repeat (first|(with_reducible first|exact HB.out|apply below_alloc|apply pw_below_drewN|apply below_drew1)|exact HB.out))));(case aL=>have:=LMc14.out;omega);intro v188 w19 ho hb hg hat;rw [← Ny187.out] at ho;have n0_:=Aside0.mk (hb);have n1_:=Aside0.mk (ho);clear HB;clear HO_5;have HB:=n0_;have HO189:=n1_;clear n0_ n1_;clear ho hb hg hat;have p190:0≤(x8_1:Int):=of_decide_eq_true (by first|(with_reducible assumption)|assumption);have q190:x8_1<(l0.length:Int):=of_decide_eq_true (by first|(with_reducible assumption)|assumption);obtain ⟨ad190,e190,hx190_0⟩:=Kd.at_int HR0.out x8_1 p190 q190;obtain rfl:ad186=ad190:=(by injection e190);replace hx190_0:=(HB.out.cell (World.block_lt_of_cell? w _ hx190_0)).trans hx190_0;replace p190:=eq_true p190;replace q190:=eq_true q190))
                        try subst hji4
                        try subst hji11
                        try subst hji13
                        try subst hji16
                        go_roundg k1
                        case measure=>have:=HK1.out;omega
                        case rel=>exact ⟨(y187),(ji18),(wrap64 (x8_1+1)),(by first|rfl|(simp;done)|(simp only [← hji18]<;>(first|rfl|simp))|(simp [*];done)),(by first|rfl|(simp;done)|(simp [*];done)),H',⟨by have:=HK1.out;omega⟩,⟨by (with_reducible repeat (first|apply Kd.R_alloc|apply Kd.R_drewN|apply Kd.R_drew));exact HO189.out⟩,⟨by repeat (first|(with_reducible first|exact HB.out|apply below_alloc|apply pw_below_drewN|apply below_drew1)|exact HB.out)⟩⟩
                      · rw [if_neg c17] at H
                        exact absurd H (by simp)
                    · rw [if_neg c15] at H
                      have c15b0:decide (0<(ji11))=false:=decide_eq_false c15
                      clear c15
                      have H':=Aside0.mk H
                      clear H
                      have p186:0≤(x8_1:Int):=of_decide_eq_true (by first|(with_reducible assumption)|assumption)
                      have q186:x8_1<(l0.length:Int):=of_decide_eq_true (by first|(with_reducible assumption)|assumption)
                      obtain ⟨ad186,e186,hx186_0⟩:=Kd.at_int HR0.out x8_1 p186 q186
                      cases e186
                      replace hx186_0:=(HB.out.cell (World.block_lt_of_cell? w _ hx186_0)).trans hx186_0
                      replace p186:=eq_true p186
                      replace q186:=eq_true q186
                      go_wp2_with (first|((with_reducible refine gate_builtin (b := .append) (xs:=#[.tmp 24,.tmp 33]) rfl ?_);at_builtin;refine Kd.R_append (Kd.int .u64) (w0:=w) w.heap.size rfl (.tmp 24) (.tmp 33) 89 104 (.int .u64 0) 8 rfl Try.underlying89 info104 rfl (by decide) (by omega) u5 x5_1 (Go.bits .or .u64 (ji13) x7_1) [.int .u64 (Go.bits .or .u64 (ji13) x7_1)] (fun _=>True) (fun _=>False) rfl rfl ?aP (fun _ hk=>hk.elim) ?aF ?aO ?aB ?aS ?aL ?_;(case aP=>exact rfl);(case aB=>exact (by repeat (first|(with_reducible first|exact HB.out|apply below_alloc|apply pw_below_drewN|apply below_drew1)|exact HB.out)));(case aF=>exact (fun _ _=>trivial));(case aO=>exact (by (with_reducible repeat (first|apply Kd.R_alloc|apply Kd.R_drewN|apply Kd.R_drew));exact HO_5.out));(case aS=>exact (below_size (by repeat (first|(with_reducible first|exact HB.out|apply below_alloc|apply pw_below_drewN|apply below_drew1)|exact HB.out))));(case aL=>have:=LMc14.out;omega);intro v188 w20 ho hb hg hat;rw [← Ny187.out] at ho;have n0_:=Aside0.mk (hb);have n1_:=Aside0.mk (ho);clear HB;clear HO_5;have HB:=n0_;have HO189:=n1_;clear n0_ n1_;clear ho hb hg hat))
                      try subst hji4
                      try subst hji11
                      try subst hji13
                      try subst hji16
                      go_roundg k1
                      case measure=>have:=HK1.out;omega
                      case rel=>exact ⟨(y187),(0),(wrap64 (x8_1+1)),(by first|rfl|(simp;done)|(simp [*];done)),(by first|rfl|(simp;done)|(simp [*];done)),H',⟨by have:=HK1.out;omega⟩,⟨by (with_reducible repeat (first|apply Kd.R_alloc|apply Kd.R_drewN|apply Kd.R_drew));exact HO189.out⟩,⟨by repeat (first|(with_reducible first|exact HB.out|apply below_alloc|apply pw_below_drewN|apply below_drew1)|exact HB.out)⟩⟩
                  · rw [if_neg c14] at H
                    exact absurd H (by simp)
                · rw [if_neg c12] at H
                  exact absurd H (by simp)
              · rw [if_neg c10] at H
                exact absurd H (by simp)
            · rw [if_neg c9] at H
              have c9b0:decide (x8_1<(l0.length:Int))=false:=decide_eq_false c9
              clear c9
              by_cases c21:x5_1.length<17592186044416
              · rw [if_pos c21] at H
                have LMc21:=Aside0.mk c21
                clear c21
                obtain ⟨y191,hy191⟩:∃ y_:List Int,y_=(x5_1++[x7_1]):=⟨_,rfl⟩
                replace H:((gimbalref90_NTrim.f k1 y191).bind fun t194=>(some t194))=some r:=by first|(rw [hy191];with_reducible exact H)|(have H2_:=(Option.bind_some _ _).symm.trans H;rw [hy191];with_reducible exact H2_)|(have H2_:=(Option.bind_some _ _).symm.trans H;with_reducible exact H2_)|with_reducible exact H|(rw [hy191];exact H)|exact H
                have Ny191:=Aside0.mk hy191
                clear hy191
                replace H:=Option.bind_eq_some_iff.mp H
                obtain ⟨t194,A220,H⟩:=H
                replace H:(some t194)=some r:=H
                have A22:=Aside0.mk A220
                clear A220
                obtain rfl:=Option.some.inj H
                go_wp2_with (first|((with_reducible refine gate_builtin (b := .append) (xs:=#[.tmp 44,.tmp 46]) rfl ?_);at_builtin;refine Kd.R_append (Kd.int .u64) (w0:=w) w.heap.size rfl (.tmp 44) (.tmp 46) 89 104 (.int .u64 0) 8 rfl Try.underlying89 info104 rfl (by decide) (by omega) u5 x5_1 x7_1 [.int .u64 x7_1] (fun _=>True) (fun _=>False) rfl rfl ?aP (fun _ hk=>hk.elim) ?aF ?aO ?aB ?aS ?aL ?_;(case aP=>exact rfl);(case aB=>exact (by repeat (first|(with_reducible first|exact HB.out|apply below_alloc|apply pw_below_drewN|apply below_drew1)|exact HB.out)));(case aF=>exact (fun _ _=>trivial));(case aO=>exact (by (with_reducible repeat (first|apply Kd.R_alloc|apply Kd.R_drewN|apply Kd.R_drew));exact HO_5.out));(case aS=>exact (below_size (by repeat (first|(with_reducible first|exact HB.out|apply below_alloc|apply pw_below_drewN|apply below_drew1)|exact HB.out))));(case aL=>have:=LMc21.out;omega);intro v192 w23 ho hb hg hat;rw [← Ny191.out] at ho;have n0_:=Aside0.mk (hb);have n1_:=Aside0.mk (ho);clear HB;clear HO_5;have HB:=n0_;have HO193:=n1_;clear n0_ n1_;clear ho hb hg hat;obtain ⟨Ao24,co24,eo24⟩:=Kd.R_slice HO193.out;subst eo24)|((with_reducible refine gate_callee (f:=107) rfl ?_);refine goesL_ (some 48) rfl rfl Try.func107 (by kernel_rfl) rfl #[.slice Ao24 y191.length co24] rfl (by (try simp only [List.map_toArray,List.map_cons,List.map_nil]);first|done|rfl|(simp only [List.length_drop,List.length_take];rfl)) ?_;(with_reducible refine (gimbalref90_NTrim.calls k1 (fun k_=>some k_=(.slice Ao24 y191.length co24:Value).ownBlock) (.slice Ao24 y191.length co24) y191 t194 w _ ?side1 ?side2 A22.out).mono ?_);(case side1=>repeat (first|(with_reducible first|exact HB.out|apply below_alloc|apply pw_below_drewN|apply below_drew1)|exact HB.out));(case side2=>exact Kd.R_tight rfl HO193.out);rintro e w25 ⟨v195,rfl,ho0,hb,hkp⟩;refine ⟨_,rfl,?_⟩;have n0_:=Aside0.mk (Kd.R_mono (ok':=fun k_=>True) ho0 (fun k_ hk_=>trivial));have n1_:=Aside0.mk (hb);clear HB;clear HO193;have HO196:=n0_;have HB:=n1_;clear n0_ n1_;(try clear hb);(try clear hkp);(try clear ho0)))
                go_ret
                exact ⟨_,by first|rfl|(simp [errW_none,errW_some]<;>rfl)|(simp only [← hji4];first|rfl|(simp [errW_none,errW_some]<;>rfl))|(simp [*,errW_none,errW_some]<;>rfl),by (with_reducible repeat (first|apply Kd.R_alloc|apply Kd.R_drewN|apply Kd.R_drew));exact HO196.out,by repeat (first|(with_reducible first|exact HB.out|apply below_alloc|apply pw_below_drewN|apply below_drew1)|exact HB.out)⟩
              · rw [if_neg c21] at H
                exact absurd H (by simp)
      · rw [if_neg c6] at H
        exact absurd H (by simp)
    · rw [if_neg c5] at H
      exact absurd H (by simp)
def gimbalref90_short.l0:Nat→List Int→Int→List Int→Int→Int→Option (List Int × Int)
  | 0,_,_,_,_,_=>none
  | k+1,x0,x1,x6,x7,x8=>if x8≥0 then (if 0≤x8 then (if x8<(x0.length:Int) then (if (IntKind.u64.wrap (x1))=0 then (none) else (if x8<(x6.length:Int) then (gimbalref90_short.l0 k x0 x1 (x6.set (x8:Int).toNat ((IntKind.u64.wrap (Int.tdiv (Go.bits .or .u64 (IntKind.u64.wrap (x7*4294967296)) (IntKind.u64.wrap (rd x0 x8))) (IntKind.u64.wrap (x1))))%4294967296)) (Int.tmod (Go.bits .or .u64 (IntKind.u64.wrap (x7*4294967296)) (IntKind.u64.wrap (rd x0 x8))) (IntKind.u64.wrap (x1))) (wrap64 (x8-1))) else (none))) else (none)) else (none)) else ((gimbalref90_cut.f k x6).bind fun t202=>(some (t202,(x7)%4294967296)))
def gimbalref90_short.f (k:Nat) (l0:List Int) (a1:Int):Option (List Int × Int):=if 0≤(l0.length:Int) then (if ((l0.length:Int):Int).toNat≤70368744177664 then (gimbalref90_short.l0 k l0 a1 (List.replicate ((l0.length:Int):Int).toNat 0) 0 (wrap64 ((l0.length:Int)-1))) else (none)) else (none)
theorem gimbalref90_short.mono_l:∀ k,(∀ y0 y1 y2 y3 y4,LeO (gimbalref90_short.l0 k y0 y1 y2 y3 y4) (gimbalref90_short.l0 (k+1) y0 y1 y2 y3 y4))
  | 0=>fun _ _ _ _ _ r h=>by simp [gimbalref90_short.l0] at h
  | k + 1 => by
    have ih0:=gimbalref90_short.mono_l k
    · intro y0 y1 y2 y3 y4
      unfold gimbalref90_short.l0
      repeat' first
      | (with_reducible exact ih0 _ _ _ _ _)
      | (with_reducible exact gimbalref90_cut.mono _ _)
      | (with_reducible exact LeO.refl _)
      | (with_reducible exact LeO.none _)
      | (with_reducible refine LeO.ite ?_ ?_)
      | (with_reducible refine LeO.bind ?_ (fun _=>?_))
      | exact ih0 _ _ _ _ _
      | exact gimbalref90_cut.mono _ _
      | exact LeO.none _
      | refine LeO.ite ?_ ?_
      | refine LeO.bind ?_ (fun _=>?_)
theorem gimbalref90_short.mono:∀ a0 a1 k,LeO (gimbalref90_short.f k a0 a1) (gimbalref90_short.f (k+1) a0 a1):=by
  intro a0 a1 k
  have ih0:=gimbalref90_short.mono_l k
  unfold gimbalref90_short.f
  repeat' first
      | (with_reducible exact ih0 _ _ _ _ _)
      | (with_reducible exact gimbalref90_cut.mono _ _)
      | (with_reducible exact LeO.refl _)
      | (with_reducible exact LeO.none _)
      | (with_reducible refine LeO.ite ?_ ?_)
      | (with_reducible refine LeO.bind ?_ (fun _=>?_))
      | exact ih0 _ _ _ _ _
      | exact gimbalref90_cut.mono _ _
      | exact LeO.none _
      | refine LeO.ite ?_ ?_
      | refine LeO.bind ?_ (fun _=>?_)
set_option maxHeartbeats 8000000 in
set_option maxRecDepth 100000 in
theorem gimbalref90_short.calls (k:Nat) (A0:Option Addr) (c0:Nat) (l0:List Int) (a1:Int) (r1:List Int) (r2:Int) (w:World) (hr0:Kd.C (Kd.int .u32) w A0 l0.length l0) (hc0:l0.length≤c0) (h:gimbalref90_short.f k l0 a1=some (r1,r2)) :
    Calls Try.prog 131 #[.slice A0 l0.length c0,.int .u32 a1] w fun e w'=>∃ v0_:Value,e = .returned (.tuple #[v0_,.int .u32 r2])∧Kd.R (Kd.int .u32) 145 w' w.heap.size (fun _=>True) v0_ r1∧Below w.heap.size w w':=by
  have HR0:=Aside0.mk hr0
  have HC0:=Aside0.mk hc0
  clear hr0 hc0
  have HB:=Aside0.mk (Below.refl w.heap.size w)
  have H:(if 0≤(l0.length:Int) then (if ((l0.length:Int):Int).toNat≤70368744177664 then (gimbalref90_short.l0 k l0 a1 (List.replicate ((l0.length:Int):Int).toNat 0) 0 (wrap64 ((l0.length:Int)-1))) else (none)) else (none))=some (r1,r2):=h
  clear h
  by_cases c3:0≤(l0.length:Int)
  · rw [if_pos c3] at H
    have c3b0:=eq_true c3
    have c3b1:decide (0≤(l0.length:Int))=true:=decide_eq_true c3
    clear c3
    by_cases c4:((l0.length:Int):Int).toNat≤70368744177664
    · rw [if_pos c4] at H
      have c4b0:=eq_true c4
      have c4b1:decide (((l0.length:Int):Int).toNat≤70368744177664)=true:=decide_eq_true c4
      clear c4
      obtain ⟨y197,hy197⟩:∃ y_:List Int,y_=(List.replicate ((l0.length:Int):Int).toNat 0):=⟨_,rfl⟩
      replace H:(gimbalref90_short.l0 k l0 a1 y197 0 (wrap64 ((l0.length:Int)-1)))=some (r1,r2):=by first|(rw [hy197];with_reducible exact H)|(have H2_:=(Option.bind_some _ _).symm.trans H;rw [hy197];with_reducible exact H2_)|(have H2_:=(Option.bind_some _ _).symm.trans H;with_reducible exact H2_)|with_reducible exact H|(rw [hy197];exact H)|exact H
      have Ny197:=Aside0.mk hy197
      clear hy197
      have H':=Aside0.mk H
      clear H
      go_enter Try.func131,Try.ntmps131
      go_wp2_with (first|((with_reducible refine gate_dst (N:=11) rfl ?_);refine Kd.R_make (Kd.int .u32) _ 145 rfl (N:=11) rfl 143 _ _ rfl (l0.length:Int) rfl rfl Try.underlying143 (.int .u32 0) 4 info145 rfl (by decide) (by omega) 0 (ok:=fun _=>True) (okp:=fun _=>True) rfl (fun _ hk=>hk) trivial (of_decide_eq_true (by first|(with_reducible assumption)|assumption)) (Nat.le_trans (Nat.mul_le_mul_right _ (of_decide_eq_true (by first|(with_reducible assumption)|assumption):(l0.length:Int).toNat≤70368744177664)) (by omega)) (Below.refl _ _) (Nat.le_refl _) ?_;intro v198 w5 ho6 hb hg_ hnew_;clear hg_ hnew_;(first|rw [← Ny197.out] at ho6|(simp only [Int.reduceToNat] at ho6;rw [← Ny197.out] at ho6));have n0_:=Aside0.mk (Kd.R_lower ho6 (below_size (by repeat (first|(with_reducible first|exact HB.out|apply below_alloc|apply pw_below_drewN|apply below_drew1)|exact HB.out))));have n1_:=Aside0.mk (below_step (by repeat (first|(with_reducible first|exact HB.out|apply below_alloc|apply pw_below_drewN|apply below_drew1)|exact HB.out)) hb);clear HB;have HO199:=n0_;have HB:=n1_;clear n0_ n1_;clear hb ho6))
      go_loopg [7,8] k (fun kq v7 v8 w'=>∃ (x6_1:List Int) (x7_1:Int) (x8_1:Int),v7 = .int .u64 x7_1∧v8 = .int .i64 x8_1∧Aside0 (gimbalref90_short.l0 kq l0 a1 x6_1 x7_1 x8_1=some (r1,r2))∧Aside0 (kq≤k)∧Aside0 (Kd.R (Kd.int .u32) 145 w' w.heap.size (fun _=>True) v198 x6_1)∧Aside0 (Below w.heap.size w w'))
      case atStart=>exact ⟨(y197),(0),(wrap64 ((l0.length:Int)-1)),(by first|rfl|(simp;done)|(simp [*];done)),(by first|rfl|(simp;done)|(simp [*];done)),H',⟨Nat.le_refl _⟩,⟨by (with_reducible repeat (first|apply Kd.R_alloc|apply Kd.R_drewN|apply Kd.R_drew));exact HO199.out⟩,⟨by repeat (first|(with_reducible first|exact HB.out|apply below_alloc|apply pw_below_drewN|apply below_drew1)|exact HB.out)⟩⟩
      case round =>
        clear H'
        try clear c1
        try clear p2
        try clear c3
        try clear c3b0
        try clear c3b1
        try clear c4
        try clear c4b0
        try clear c4b1
        try clear p6
        obtain ⟨x6_1,x7_1,x8_1,rfl,rfl,HA,HK1,HO_6,HB⟩:=hrel
        cases gk with
        | zero=>exact absurd HA.out (by simp [gimbalref90_short.l0])
        | succ k1 =>
          have H:=HA.out
          clear HA
          simp only [gimbalref90_short.l0] at H
          by_cases c7:x8_1≥0
          · rw [if_pos c7] at H
            have c7b0:decide (0≤x8_1)=true:=decide_eq_true c7
            clear c7
            by_cases c8:0≤x8_1
            · rw [if_pos c8] at H
              have c8b0:decide (0≤x8_1)=true:=decide_eq_true c8
              clear c8
              by_cases c9:x8_1<(l0.length:Int)
              · rw [if_pos c9] at H
                have c9b0:decide (x8_1<(l0.length:Int))=true:=decide_eq_true c9
                clear c9
                by_cases c10:(IntKind.u64.wrap (a1))=0
                · rw [if_pos c10] at H
                  exact absurd H (by simp)
                · rw [if_neg c10] at H
                  have c10b0:((IntKind.u64.wrap (a1)) == 0)=false:=beq_eq_false_iff_ne.mpr c10
                  have c10b1:((IntKind.u64.wrap (a1)) != 0)=true:=bne_iff_ne.mpr c10
                  by_cases c11:x8_1<(x6_1.length:Int)
                  · rw [if_pos c11] at H
                    have c11b0:decide (x8_1<(x6_1.length:Int))=true:=decide_eq_true c11
                    clear c11
                    obtain ⟨y201,hy201⟩:∃ y_:List Int,y_=(x6_1.set (x8_1:Int).toNat ((IntKind.u64.wrap (Int.tdiv (Go.bits .or .u64 (IntKind.u64.wrap (x7_1*4294967296)) (IntKind.u64.wrap (rd l0 x8_1))) (IntKind.u64.wrap (a1))))%4294967296)):=⟨_,rfl⟩
                    replace H:(gimbalref90_short.l0 k1 l0 a1 y201 (Int.tmod (Go.bits .or .u64 (IntKind.u64.wrap (x7_1*4294967296)) (IntKind.u64.wrap (rd l0 x8_1))) (IntKind.u64.wrap (a1))) (wrap64 (x8_1-1)))=some (r1,r2):=by first|(rw [hy201];with_reducible exact H)|(have H2_:=(Option.bind_some _ _).symm.trans H;rw [hy201];with_reducible exact H2_)|(have H2_:=(Option.bind_some _ _).symm.trans H;with_reducible exact H2_)|with_reducible exact H|(rw [hy201];exact H)|exact H
                    have Ny201:=Aside0.mk hy201
                    clear hy201
                    have H':=Aside0.mk H
                    clear H
                    have p200:0≤(x8_1:Int):=of_decide_eq_true (by first|(with_reducible assumption)|assumption)
                    have q200:x8_1<(l0.length:Int):=of_decide_eq_true (by first|(with_reducible assumption)|assumption)
                    obtain ⟨ad200,e200,hx200_0⟩:=Kd.at_int HR0.out x8_1 p200 q200
                    cases e200
                    replace hx200_0:=(HB.out.cell (World.block_lt_of_cell? w _ hx200_0)).trans hx200_0
                    replace p200:=eq_true p200
                    replace q200:=eq_true q200
                    have p12:0≤(x8_1:Int):=of_decide_eq_true (by first|(with_reducible assumption)|assumption)
                    have q12:(x8_1:Int)<((x6_1.length:Int):Int):=of_decide_eq_true (by first|(with_reducible assumption)|assumption)
                    obtain ⟨go12,co12,eo12,gb12,gl12,cl12,HG12⟩:=Kd.R_form HO_6.out (by omega)
                    (first|cases eo12|(injection eo12 with ea_ en_ ec_;(first|subst ea_|(injection ea_ with ea_;subst ea_));subst ec_;clear en_))
                    have GB12:=Aside0.mk gb12
                    have GG12:=Aside0.mk HG12
                    clear gb12 gl12 HG12
                    obtain ⟨hx12_0,hf12_0⟩:=Kd.R_celln 0 HO_6.out (x8_1:Int) p12 q12
                    replace p12:=eq_true p12
                    replace q12:=eq_true q12
                    have HP13:=Kd.R_putg HO_6.out (x8_1:Int) ((IntKind.u64.wrap (Int.tdiv (Go.bits .or .u64 (IntKind.u64.wrap (x7_1*4294967296)) (IntKind.u64.wrap (rd l0 x8_1))) (IntKind.u64.wrap (a1))))%4294967296)
                    go_wp2_with (first|((with_reducible refine gate_store (t:=145) (p:=34) rfl ?_);refine store_event (t:=145) (p:=34) (v:=?vo_w14) (w1:=(wr.setCell ⟨go12,(x8_1:Int).toNat,none⟩ (.int .u32 ((IntKind.u64.wrap (Int.tdiv (Go.bits .or .u64 (IntKind.u64.wrap (x7_1*4294967296)) (IntKind.u64.wrap (rd l0 x8_1))) (IntKind.u64.wrap (a1))))%4294967296)))) ?hg ?ho ?hn ?hr ?_;(case ho=>rfl);(case hg=>rfl);(case hn=>rfl);(case hr=>first|(go_simp;done)|(go_simp;rfl));intro w14 hw;have hg:wr.grownBy w14 (some go12):=(by rw [hw];exact HP13.2);have hp_:Kd.R (Kd.int .u32) 145 w14 w.heap.size (fun _=>True) (.slice (some ⟨go12,0,none⟩) x6_1.length co12) y201:=(by rw [hw,Ny201.out];exact HP13.1);clear HP13;have n0_:=Aside0.mk (hp_);have n1_:=Aside0.mk ((by rw [hw];exact below_set (HB.out) GB12.out:Below w.heap.size w w14));clear HO_6;clear HB;have HO_6:=n0_;have HB:=n1_;clear n0_ n1_;clear hg hw hp_))
                    go_roundg k1
                    case measure=>have:=HK1.out;omega
                    case rel=>exact ⟨(y201),(Int.tmod (Go.bits .or .u64 (IntKind.u64.wrap (x7_1*4294967296)) (IntKind.u64.wrap (rd l0 x8_1))) (IntKind.u64.wrap (a1))),(wrap64 (x8_1-1)),(by first|rfl|(simp;done)|(simp [*];done)),(by first|rfl|(simp;done)|(simp [*];done)),H',⟨by have:=HK1.out;omega⟩,⟨by (with_reducible repeat (first|apply Kd.R_alloc|apply Kd.R_drewN|apply Kd.R_drew));exact HO_6.out⟩,⟨by repeat (first|(with_reducible first|exact HB.out|apply below_alloc|apply pw_below_drewN|apply below_drew1)|exact HB.out)⟩⟩
                  · rw [if_neg c11] at H
                    exact absurd H (by simp)
              · rw [if_neg c9] at H
                exact absurd H (by simp)
            · rw [if_neg c8] at H
              exact absurd H (by simp)
          · rw [if_neg c7] at H
            have c7b0:decide (0≤x8_1)=false:=decide_eq_false c7
            clear c7
            replace H:=Option.bind_eq_some_iff.mp H
            obtain ⟨t202,A150,H⟩:=H
            replace H:(some (t202,(x7_1)%4294967296))=some (r1,r2):=H
            have A15:=Aside0.mk A150
            clear A150
            simp only [Option.some.injEq,Prod.mk.injEq] at H
            obtain ⟨rfl,rfl⟩:=H
            obtain ⟨Ao16,co16,eo16⟩:=Kd.R_slice HO_6.out
            subst eo16
            go_wp2_with (first|((with_reducible refine gate_callee (f:=110) rfl ?_);refine goesL_ (some 40) rfl rfl Try.func110 (by kernel_rfl) rfl #[.slice Ao16 x6_1.length co16] rfl (by (try simp only [List.map_toArray,List.map_cons,List.map_nil]);first|done|rfl|(simp only [List.length_drop,List.length_take];rfl)) ?_;(with_reducible refine (gimbalref90_cut.calls k1 (fun k_=>some k_=(.slice Ao16 x6_1.length co16:Value).ownBlock) (.slice Ao16 x6_1.length co16) x6_1 t202 w _ ?side1 ?side2 A15.out).mono ?_);(case side1=>repeat (first|(with_reducible first|exact HB.out|apply below_alloc|apply pw_below_drewN|apply below_drew1)|exact HB.out));(case side2=>exact Kd.R_tight rfl HO_6.out);rintro e w17 ⟨v203,rfl,ho0,hb,hkp⟩;refine ⟨_,rfl,?_⟩;have n0_:=Aside0.mk (Kd.R_mono (ok':=fun k_=>True) ho0 (fun k_ hk_=>trivial));have n1_:=Aside0.mk (hb);clear HB;clear HO_6;have HO204:=n0_;have HB:=n1_;clear n0_ n1_;(try clear hb);(try clear hkp);(try clear ho0)))
            go_ret2
            exact ⟨_,by first|rfl|(simp [errW_none,errW_some]<;>rfl)|(simp [*,errW_none,errW_some]<;>rfl),by (with_reducible repeat (first|apply Kd.R_alloc|apply Kd.R_drewN|apply Kd.R_drew));exact HO204.out,by repeat (first|(with_reducible first|exact HB.out|apply below_alloc|apply pw_below_drewN|apply below_drew1)|exact HB.out)⟩
    · rw [if_neg c4] at H
      exact absurd H (by simp)
  · rw [if_neg c3] at H
    exact absurd H (by simp)
end Go.Proofs.Ytonelbidndjhdaa.QN90
end
