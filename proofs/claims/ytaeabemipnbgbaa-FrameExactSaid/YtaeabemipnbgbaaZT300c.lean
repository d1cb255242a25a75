/- The row of FrameExact, out of its law over numbers and the printed walk: for every argument that reads as data the call returns true and leaves the argument as it was. -/
import Derived.Test.YtaeabemipnbgbaaZT300b
import Derived.Test.YtaeabemipnbgbaaProg
import Derived.Below
import Derived.Deep.Draws
import Derived.Deep.AppendLies
import Derived.Maps.AppendAt
import Derived.OwnWalk
import Derived.Laws.BytesArg
import Derived.Laws.MakeOwn
import Derived.Laws.OwnMore
import Derived.Deep.OwnRows
import Derived.Tactics
import Derived.Lib.ConvBytes
import Derived.Laws.Slices
import Derived.WalkKit
import Derived.KernelRfl
import Derived.RowKit3
import Derived.Deep.LoopGhost
import Derived.Deep.QuietTactic
import Derived.BigQuiet
import Derived.WideLaws
import Derived.Deep.DeepCutAuto
import Derived.Deep.CutBlock
import Derived.Deep.RegionHeld3
import Derived.Laws.Rows
import Derived.Lib.AppendStr
import Derived.ArgAppend
import Derived.Laws.IdiomCopy
import Derived.OrdersHeld
import Derived.Laws.BitsLemmas
import Derived.RowKit
import Derived.Test.YtaeabemipnbgbaaWWords
import Derived.Test.YtaeabemipnbgbaaWLast
import Derived.Test.YtaeabemipnbgbaaWTab
import Derived.Test.YtaeabemipnbgbaaWQPut
import Derived.Test.YtaeabemipnbgbaaWApart
import Derived.Test.YtaeabemipnbgbaaWArr
import Derived.Test.YtaeabemipnbgbaaWZeros
import Derived.Test.YtaeabemipnbgbaaWFoot
import Derived.Test.YtaeabemipnbgbaaWKept
import Derived.Test.YtaeabemipnbgbaaWShare
import Derived.Test.YtaeabemipnbgbaaWN
import Derived.Laws.StructEq
import Derived.Test.YtaeabemipnbgbaaWRepsOne
import Derived.Test.YtaeabemipnbgbaaWGuard
import Derived.Test.YtaeabemipnbgbaaWNEv
import Derived.Test.YtaeabemipnbgbaaWMore
import Derived.Deep.Slices
import Derived.Deep.Fields
import Derived.SizedLaws
import Derived.ChangeArms
import Derived.Test.YtaeabemipnbgbaaRows
import Derived.ProofKit
import Derived.OpenShut
import Derived.ShutString
import Derived.ChangeOld
import Derived.Carry
section
set_option linter.unusedVariables false
set_option linter.unusedSimpArgs false
namespace Go.Proofs.YtaeabemipnbgbaaW.Sx
open Go RowKit YtaeabemipnbgbaaW.PrintWords YtaeabemipnbgbaaW.PrintMore YtaeabemipnbgbaaW.Aid YtaeabemipnbgbaaW.Big
def TV.oldT:TV→TV
  | .sc c => .sc c.old
  | .agg cs => .agg (cs.map A0.old)
  | .tup l => .tup (l.map fun p=>(p.1,p.2.map A0.old))
  | x=>x
def TV.eraOk:TV→Bool
  | .cond _ _=>false
  | _=>true
abbrev oldG (gs:List (Nat × TV)):List (Nat × TV):=gs.map fun p=>(p.1,p.2.oldT)
abbrev oldB (bs:List (Nat × TypeId × List A0)):List (Nat × TypeId × List A0):=bs.map fun p=>(p.1,p.2.1,p.2.2.map A0.old)
theorem lookB_mem:∀ {bs:List (Nat × TypeId × List A0)} {b:Nat} {y:TypeId × List A0},lookB bs b=some y→∃ p∈bs,p.2=y
  | (t',q)::r,b,y,e=>by
    unfold lookB at e
    split at e
    · cases e;exact ⟨_,List.mem_cons_self,rfl⟩
    · obtain ⟨p,hp,hx⟩:=lookB_mem e;exact ⟨p,List.mem_cons_of_mem _ hp,hx⟩
theorem lookG_old:∀ (gs:List (Nat × TV)) (t:Nat),lookG (oldG gs) t=(lookG gs t).map TV.oldT
  | [],t=>rfl
  | (t',x)::r,t=>by
    show lookG ((t',x.oldT)::oldG r) t=_
    unfold lookG
    split
    · rfl
    · exact lookG_old r t
theorem lookB_old:∀ (bs:List (Nat × TypeId × List A0)) (b:Nat),lookB (oldB bs) b=(lookB bs b).map fun q=>(q.1,q.2.map A0.old)
  | [],t=>rfl
  | (t',x)::r,t=>by
    show lookB ((t',x.1,x.2.map A0.old)::oldB r) t=_
    unfold lookB
    split
    · rfl
    · exact lookB_old r t
theorem rdk_lt {w:World} {k:IntKind} {l:List Int} {A:Option Addr} {c:Nat} (h:RdK w k l A c) (hl:l≠[]):∀ ad,A=some ad→ad.block<w.heap.size:=by
  intro ad e
  subst e
  have hp:0<l.length:=List.length_pos_iff.2 hl
  obtain ⟨ad',e',hc⟩:=h.2.2.2 hp
  cases e'
  obtain ⟨cs,h1,h2,h3⟩:=hc 0 l[0] (List.getElem?_eq_getElem hp)
  have e2:cs=[.int k l[0]]:=h2
  have h4:=h3 0 (.int k l[0]) (by rw [e2];rfl)
  have:=World.block_lt_of_cell? w _ h4
  have e3:(ad.add (0*(Kd.int k).sz+0)).block=ad.block:=by unfold Addr.add;split<;>rfl
  rw [e3] at this
  exact this
theorem A0.old_reads {N:Nat} {w:World} {c:A0} {u:Value} (h:c.reads N w u) (hN:N≤w.heap.size):c.old.reads w.heap.size w u:=by
  cases c with
  | fs e k l =>
    obtain ⟨hk,he,hr⟩:=h
    obtain ⟨A,c,e1,h1,h2⟩:=Kd.R_reads hr
    exact ⟨hk,A,c,e1,⟨h1,h2⟩,fun hl=>rdk_lt ⟨h1,h2⟩ hl⟩
  | sl k l =>
    obtain ⟨hk,A,c,e1,hr⟩:=h
    exact ⟨hk,A,c,e1,hr,fun hl=>rdk_lt hr hl⟩
  | os k l=>exact A0.raise (c := .os k l) h hN (fun _ _ _ h=>by cases h)
  | _=>exact h
theorem part0_old {N:Nat} {w:World} {x:Bool × List A0} {u:Value} (h:part0 N w x u) (hN:N≤w.heap.size):part0 w.heap.size w (x.1,x.2.map A0.old) u:=by
  obtain ⟨d,cs⟩:=x
  cases d with
  | true=>obtain ⟨us,e,hr⟩:=h;exact ⟨us,e,All2.map_left' _ (fun _ _ h=>A0.old_reads h hN) hr⟩
  | false=>obtain ⟨c,e,hr⟩:=h;subst e;exact ⟨c.old,rfl,A0.old_reads hr hN⟩
section
variable {P:Program} {X:Cx} {n base:Nat} {w0:World} {c c' x y:Code} {kn kx kn':St→Prop} {ke ke':Nat→St→Prop} {kr kr':St→Prop} {s:St}
theorem sat_era {β:Nat→Nat} {gs:List (Nat × TV)} {bs:List (Nat × TypeId × List A0)} {a:Act} {w:World} (h:Sat base w0 n β (stB gs bs) a w) (hk:lookB bs eraK=none) (hc:gs.all (fun p=>p.2.eraOk)=true):SatE base w0 n (stB (oldG gs) (oldB bs)) a w:=by
  have hbase:base≤w.heap.size:=by rw [h.base_eq];exact h.below.size
  refine ⟨upd β eraK (w.heap.size-base),?_⟩
  have hN:base+upd β eraK (w.heap.size-base) eraK=w.heap.size:=by simp only [upd,if_true];omega
  have hT:∀ b,(stB (oldG gs) (oldB bs)).T b=(stB gs bs).T b:=fun b=>by
    show (lookB (oldB bs) b).map _=(lookB bs b).map _
    rw [lookB_old,Option.map_map];rfl
  have hm:∀ b o,(stB (oldG gs) (oldB bs)).m b o=((stB gs bs).m b o).map A0.old:=fun b o=>by
    show (lookB (oldB bs) b).bind (fun q=>q.2[o]?)=((lookB bs b).bind fun q=>q.2[o]?).map A0.old
    rw [lookB_old]
    cases lookB bs b with
    | none=>rfl
    | some q=>simp
  have hg:∀ t y,(stB (oldG gs) (oldB bs)).g t=some y→∃ x,(stB gs bs).g t=some x∧y=x.oldT∧x.eraOk=true:=fun t y e=>by
    have e':lookG (oldG gs) t=some y:=e
    rw [lookG_old] at e'
    obtain ⟨x,hx,rfl⟩:=Option.map_eq_some_iff.1 e'
    obtain ⟨p,hp,hpx⟩:=lookG_mem hx
    exact ⟨x,hx,rfl,by rw [← hpx];exact List.all_eq_true.1 hc p hp⟩
  have hkT:(stB gs bs).T eraK=none:=by show (lookB bs eraK).map _=none;rw [hk];rfl
  have hβ:∀ b,(stB gs bs).T b≠none→upd β eraK (w.heap.size-base) b=β b:=fun b hb=>by
    simp only [upd];rw [if_neg];rintro rfl;exact hb hkT
  refine { tm:=fun t y e=>?_,box:=fun b ty e=>?_,era:=Nat.le_of_eq hN,raw:=fun b ty e=>h.raw b ty (by rw [← hT];exact e),has:=fun b off e=>?_,inj:=fun b b' h1 h2 he=>?_,refs:=fun t y e b hb=>?_,below:=h.below,base_eq:=h.base_eq,defers:=h.defers,size:=h.size }
  · obtain ⟨x,hx,rfl,hok⟩:=hg t y e
    have hr:=h.tm t x hx
    have href:=h.refs t x hx
    cases x with
    | sc c=>show c.old.reads _ w _;rw [hN];exact A0.old_reads hr h.era
    | agg cs=>show part0 _ w (true,cs.map A0.old) _;rw [hN];exact part0_old (x:=(true,cs)) hr h.era
    | tup l=>obtain ⟨us,e2,h2⟩:=hr;refine ⟨us,e2,?_⟩;rw [hN];exact All2.map_left' _ (fun _ _ h'=>part0_old h' h.era) h2
    | ptr b off=>show _=_;rw [hβ b (href b (by simp [TV.refs]))];exact hr
    | own b off n sz=>obtain ⟨c,e2,h2⟩:=hr;exact ⟨c,by rw [hβ b (href b (by simp [TV.refs]))];exact e2,h2⟩
    | gro b n sz ty=>obtain ⟨c,arr,e2,h1,h2,ha,hs⟩:=hr;have hb:=hβ b (href b (by simp [TV.refs]));exact ⟨c,arr,by rw [hb];exact e2,h1,h2,by rw [hb];exact ha,hs⟩
    | oclo f bs' =>
      show _=_
      rw [show a.tmps.getD t undef=_ from hr]
      congr 2
      refine List.map_congr_left (fun b hm=>?_)
      rw [hβ b (href b hm)]
    | cond c x=>cases hok
    | elem k l i=>exact hr
    | row n cs=>exact hr
    | rowF n sz f=>exact hr
    | rptr cs=>exact hr
    | clo f caps=>exact hr
  · rw [hT] at e
    obtain ⟨h1,arr,h2,h3,h4⟩:=h.box b ty e
    have hb:=hβ b (by rw [e];simp)
    refine ⟨by rw [hb];exact h1,arr,by rw [hb];exact h2,h3,fun off q hq=>?_⟩
    rw [hm] at hq
    obtain ⟨q',hq',rfl⟩:=Option.map_eq_some_iff.1 hq
    obtain ⟨x,hx,hr⟩:=h4 off q' hq'
    exact ⟨x,hx,by rw [hN];exact A0.old_reads hr h.era⟩
  · rw [hT]
    refine h.has b off (fun hn=>e ?_)
    rw [hm,hn];rfl
  · rw [hT] at h1 h2
    rw [hβ b h1,hβ b' h2] at he
    exact h.inj b b' h1 h2 he
  · obtain ⟨x,hx,rfl,hok⟩:=hg t y e
    rw [hT]
    refine h.refs t x hx b ?_
    cases x<;>first|exact hb|(simp [TV.oldT,TV.refs] at hb)
theorem spec_era {gs:List (Nat × TV)} {bs:List (Nat × TypeId × List A0)} (hk:lookB bs eraK=none) (hc:gs.all (fun p=>p.2.eraOk)=true) (h:SpecC P n base w0 c kn ke kr (stB (oldG gs) (oldB bs))):SpecC P n base w0 c kn ke kr (stB gs bs):=by
  rintro a w Q ⟨β,hS⟩ hn he hr
  exact h a w Q (sat_era hS hk hc) hn he hr
structure KillC (P:Program) where
  f:FuncId
  e:TypeId
  k:IntKind
  pre:List Int→Prop
  fok:FOk P f
  ok:∀ (l:List Int) (u:Value) (w:World) (N:Nat),pre l→Kd.R (Kd.int k) e w N (fun _=>True) u l→Calls P f #[u] w fun en w'=>∃ v,en = .returned v∧Below 0 w w'∧∀ b,b<w.heap.size→u.ownBlock≠some b→w'.heap[b]?=w.heap[b]?
def TV.safeP:TV→Prop
  | .sc c=>c.safe=true
  | .agg cs=>cs.all A0.safe=true
  | .ptr _ _=>True
  | .rowF _ _ f=>∀ i,(f i).all A0.safe=true
  | _=>False
theorem A0.safe_far {N:Nat} {w w':World} {c:A0} {u:Value} (h:c.reads N w u) (hs:c.safe=true) (hk:∀ b,b<N→b<w.heap.size→w'.heap[b]?=w.heap[b]?):c.reads N w' u:=by
  cases c with
  | v x=>exact h
  | neg x=>exact h
  | os k l =>
    obtain ⟨hk',A,c,e1,hr,hl⟩:=h
    refine ⟨hk',A,c,e1,⟨hr.1,hr.2.1,hr.2.2.1,fun hp=>?_⟩,hl⟩
    obtain ⟨ad,e2,hc⟩:=hr.2.2.2 hp
    have hlt:=hl (List.length_pos_iff.1 hp) ad e2
    have hlt2:=rdk_lt hr (List.length_pos_iff.1 hp) ad e2
    refine ⟨ad,e2,fun j p hj=>?_⟩
    obtain ⟨cs,h1,h2,h3⟩:=hc j p hj
    refine ⟨cs,h1,h2,fun i v hv=>?_⟩
    have e3:(ad.add (j*(Kd.int k).sz+i)).block=ad.block:=by unfold Addr.add;split<;>rfl
    rw [World.cell?_of_block (w:=w) (by rw [e3];exact hk _ hlt hlt2)]
    exact h3 i v hv
  | _=>cases hs
theorem all2_safe {N:Nat} {w w':World} (hk:∀ b,b<N→b<w.heap.size→w'.heap[b]?=w.heap[b]?):∀ {cs:List A0} {us:List Value},All2 (A0.reads N w) cs us→cs.all A0.safe=true→All2 (A0.reads N w') cs us
  | [],_,h,_=>by cases h;exact .nil
  | c::cs,_,h,hs=>by
    simp only [List.all_cons,Bool.and_eq_true] at hs
    cases h with
    | cons h1 h2=>exact .cons (A0.safe_far h1 hs.1 hk) (all2_safe hk h2 hs.2)
theorem sat_kill {β:Nat→Nat} {gs:List (Nat × TV)} {bs:List (Nat × TypeId × List A0)} {a:Act} {w w':World} {g:Option Nat} (h:Sat base w0 n β (stB gs bs) a w) (hg:∀ p∈gs,p.2.safeP) (hb:∀ p∈bs,p.2.2.all A0.safe=true) (hbel:Below 0 w w')
    (hk:∀ b,b<w.heap.size→g≠some b→w'.heap[b]?=w.heap[b]?) (hgN:∀ b,g=some b→base+β eraK≤b∧∃ arr t,w.heap[b]?=some (.cells arr t (0,0))∧rawT t=true):Sat base w0 n β (stB gs bs) a w':=by
  have hkN:∀ b,b<base+β eraK→b<w.heap.size→w'.heap[b]?=w.heap[b]?:=fun b h1 h2=>hk b h2 (fun e=>by have:=(hgN b e).1;omega)
  have hbase:w0.heap.size=base:=h.base_eq.symm
  refine { tm:=fun t x e=>?_,box:=fun b ty e=>?_,era:=Nat.le_trans h.era hbel.size,raw:=h.raw,has:=h.has,inj:=h.inj,refs:=h.refs,below:=?_,base_eq:=h.base_eq,defers:=h.defers,size:=h.size }
  · have hr:=h.tm t x e
    obtain ⟨p,hp,hpx⟩:=lookG_mem (show lookG gs t=some x from e)
    have hs:=hg p hp
    rw [hpx] at hs
    cases x with
    | sc c=>exact A0.safe_far hr hs hkN
    | agg cs=>obtain ⟨us,e2,h2⟩:=hr;exact ⟨us,e2,all2_safe hkN h2 hs⟩
    | ptr b off=>exact hr
    | rowF m sz f =>
      obtain ⟨A,q,e2,hn,hh⟩:=hr
      refine ⟨A,q,e2,hn,fun h0=>?_⟩
      obtain ⟨ad,ea,hlt,hc⟩:=hh h0
      refine ⟨ad,ea,hlt,fun i hi j c' hj=>?_⟩
      obtain ⟨x,hx,hrx⟩:=hc i hi j c' hj
      have e3:((ad.add (i*sz)).add j).block=ad.block:=by unfold Addr.add;split<;>split<;>rfl
      have hltw:=World.block_lt_of_cell? w _ hx
      refine ⟨x,?_,fun N hN=>?_⟩
      · rw [World.cell?_of_block (w:=w) (hkN _ (by rw [e3];omega) hltw)];exact hx
      · have hsafe:=List.all_eq_true.1 (hs i) c' (List.mem_of_getElem? hj)
        have h5:=A0.safe_far (hrx base (Nat.le_refl _)) hsafe (fun b h1 h2=>hkN b (by omega) h2)
        exact A0.raise h5 hN (fun e k l hh=>by rw [hh] at hsafe;cases hsafe)
    | _=>exact hs.elim
  · obtain ⟨h1,arr,h2,h3,h4⟩:=h.box b ty e
    have hne:g≠some (β b):=fun hge=>by
      obtain ⟨_,arr',t',h5,h6⟩:=hgN _ hge
      rw [h2] at h5;cases h5
      rw [h.raw b ty e] at h6;cases h6
    refine ⟨h1,arr,by rw [hk _ (Array.getElem?_eq_some_iff.1 h2).1 hne];exact h2,h3,fun off q hq=>?_⟩
    obtain ⟨x,hx,hr⟩:=h4 off q hq
    have hq':(lookB bs b).bind (fun q=>q.2[off]?)=some q:=hq
    obtain ⟨y,hy,hyq⟩:=Option.bind_eq_some_iff.1 hq'
    obtain ⟨p,hp,hpy⟩:=lookB_mem hy
    have:=List.all_eq_true.1 (hb p hp) q (by rw [hpy];exact List.mem_of_getElem? hyq)
    exact ⟨x,hx,A0.safe_far hr this hkN⟩
  · refine h.below.trans ⟨hbel.os,hbel.tape,hbel.output,hbel.size,fun k hk1=>?_⟩
    exact hkN k (by omega) (by have:=h.below.size;omega)
theorem seq_sound2 {ops:List Oper} {E:Nat→Eff} {Q:Exit→Act→World→Prop} {s':St} (ok:CxOk2 P X) (hst:statOk X n ops=true) (l2:List Nat):∀ {l:List Nat} {s:St} {a:Act} {w:World},Runs X ops E l s s'→(∀ i∈l,(E i).pre)→SatE base w0 n s a w→(∀ a w,SatE base w0 n s' a w→wpOps P ops.toArray Q l2 a w)→wpOps P ops.toArray Q (l++l2) a w
  | [],s,a,w,h,_,hS,hQ=>by
    cases h
    exact hQ a w hS
  | i :: l, s, a, w, h, hp, hS, hQ => by
    cases h with
    | cons o ho h1 h2 h3 =>
      rw [List.cons_append,wpOps_cons]
      exact wpOp_sound ok hst ho hS h1 h2 (hp i (by simp)) (fun a' w' hS'=>seq_sound2 ok hst l2 h3 (fun j hj=>hp j (List.mem_cons_of_mem _ hj)) hS' hQ)
theorem ne_put {gs:List (Nat × TV)} {d:Nat} (hd:(gs.all fun p=>p.1 != d)=true) {t:Nat} {x:TV} (h:lookG gs t=some x):t≠d:=by
  induction gs with
  | nil=>cases h
  | cons p r ih =>
    obtain ⟨t',y⟩:=p
    simp only [List.all_cons,Bool.and_eq_true,bne_iff_ne] at hd
    unfold lookG at h
    split at h
    · rename_i e;rw [e];exact hd.1
    · exact ih hd.2 h
theorem spec_kill {id:Nat} {ops:Array Oper} (ok:CxOk2 P X) (C:KillC P) (pre:List Oper) (o:Oper) (hops:ops.toList=pre++[o]) (hst:statOk X n ops.toList=true) (es:List Eff) (s1:St) (heff:effs X ops.toList pre s=some (es,s1)) (hp:pres es)
    (x:Operand) (d:Tmp) (ats:Array TypeId) (ho:o.op = .call { callee := .value (.func C.f),args:=#[x],argTypes:=ats }) (hgd:o.guard=none) (hdst:o.dst=some d) (l:List Int) (hx:getv s1.g x=some (.sc (.fs C.e C.k l))) (hpl:C.pre l)
    (gs:List (Nat × TV)) (bs:List (Nat × TypeId × List A0)) (hg:leG s1 gs) (hb:leB s1 bs) (hw:wfB gs bs=true) (hsafe:∀ p∈gs,p.2.safeP) (hsafeB:∀ p∈bs,p.2.2.all A0.safe=true) (hd:(gs.all fun p=>p.1 != d)=true) (h:kn (stB gs bs)):SpecC P n base w0 (.region id ops false) kn ke kr s:=by
  intro a w Q hS hn _ _
  obtain ⟨hr,hlen⟩:=effs_runs (k:=0) (E:=fun i=>es.getD i Eff.nil) heff (fun i o' h=>by
    rw [hops,Nat.zero_add,List.getElem?_append_left (List.getElem?_eq_some_iff.1 h).1];exact h) (fun i e h=>by simp [List.getD_eq_getElem?_getD,h])
  refine wp_region ?_
  have hsz:ops.size=pre.length+1:=by rw [← Array.length_toList,hops];simp
  have hrange:List.range ops.size=List.range' 0 pre.length++[pre.length]:=by
    rw [hsz,List.range_succ,List.range_eq_range']
  rw [hrange]
  have main:=seq_sound2 (Q:=Q) (s':=s1) ok hst [pre.length] hr (fun i _=>pres_get hp i) hS (fun a1 w1 hS1=>by
    obtain ⟨β,hS1⟩:=hS1
    rw [wpOps_cons]
    unfold wpOp
    have hlast:ops.toList.toArray[pre.length]?=some o:=by
      rw [List.getElem?_toArray,hops,List.getElem?_append_right (Nat.le_refl _)];simp
    rw [hlast]
    simp only
    rw [if_pos (by unfold Region.wanted;rw [hgd])]
    left
    have hgood:=getv_good hS1 hx
    obtain ⟨hk,he,hR⟩:=hgood.1
    have hS2:=sat_le hS1 hg hb hw
    obtain ⟨fn,hf1,hf2,hf3⟩:=C.fok
    have hrun:(execOp a1.eval o).run P w1 = .ok (.enter C.f #[a1.eval x]) w1:=by
      unfold execOp;rw [ho]
      dsimp only
      rw [Sem.run_bind]
      have e1:(resolve a1.eval { callee := .value (.func C.f),args:=#[x],argTypes:=ats } o.type).run P w1 = .ok { target := .fn (.func C.f) #[],args:=#[a1.eval x] } w1:=by
        simp [resolve,Deferred.ofValue,Act.eval]
      rw [e1]
      simp only [Result.andThen_ok,invoke,callFunc,Sem.run_bind,run_program,hf1,hf2,hf3,Bool.false_eq_true,if_false,Sem.run_pure]
      simp
    unfold Oper.wp
    rw [hrun,Oper.upon_enter]
    refine (C.ok l _ w1 _ hpl hR).mono ?_
    rintro en w2 ⟨v,rfl,hbel,hkeep⟩
    show wpOps P _ Q [] (a1.put o.dst v) w2
    have hd':d<n:=by
      have h1:=List.all_eq_true.1 hst o (by rw [hops];simp)
      rw [Bool.and_eq_true] at h1
      exact dst_lt h1.2 hdst
    have hS3:Sat base w0 n β (stB gs bs) a1 w2:=sat_kill hS2 hsafe hsafeB hbel hkeep (fun b hb'=>⟨Kd.R_base hR b hb',by
      obtain ⟨_,_,_,q,hq,cells,hc⟩:=(Kd.R_bound hR).1 b hb'
      have hq':q=C.e:=by simpa [Kd.int,Kd.scalar] using hq
      exact ⟨cells,q,hc,by rw [hq'];exact he⟩⟩)
    have hS4:=hS3.put hd' (v:=v) (x:=none) (fun y hy=>by cases hy)
    have hS5:Sat base w0 n β (stB gs bs) (a1.put (some d) v) w2:=hS4.weaken (fun t y hy=>by
      show upd _ d none t=some y
      simp only [upd]
      rw [if_neg (ne_put hd hy)];exact hy) (fun _ _ _ h=>h) (fun _ _ h=>h) hS3.refs hS3.has
    rw [hdst]
    exact hn _ _ _ h ⟨β,hS5⟩)
  simpa using main
theorem spec_killK {id:Nat} {ops:Array Oper} (ok:CxOk2 P X) (C:KillC P) (k:Nat) (o:Oper) (h0:ops.toList[k]?=some o) (hlen:ops.toList.length=k+1) (x:Operand) (d:Tmp) (ats:Array TypeId) (ho:o.op = .call { callee := .value (.func C.f),args:=#[x],argTypes:=ats }) (hgd:o.guard=none) (hdst:o.dst=some d) (hst:statOk X n ops.toList=true) (es:List Eff) (s1:St) (heff:effs X ops.toList (ops.toList.take k) s=some (es,s1)) (hp:pres es)
    (l:List Int) (hx:getv s1.g x=some (.sc (.fs C.e C.k l))) (hpl:C.pre l)
    (gs:List (Nat × TV)) (bs:List (Nat × TypeId × List A0)) (hg:leG s1 gs) (hb:leB s1 bs) (hw:wfB gs bs=true) (hsafe:∀ p∈gs,p.2.safeP) (hsafeB:∀ p∈bs,p.2.2.all A0.safe=true) (hd:(gs.all fun p=>p.1 != d)=true) (h:kn (stB gs bs)):SpecC P n base w0 (.region id ops false) kn ke kr s:=by
  have hops:ops.toList=ops.toList.take k++[o]:=by
    have hk:k<ops.toList.length:=by omega
    have e:ops.toList[k]=o:=(List.getElem?_eq_some_iff.1 h0).2
    rw [← e,← List.take_succ_eq_append_getElem hk,List.take_of_length_le (by omega)]
  exact spec_kill ok C _ o hops hst es s1 heff hp x d ats ho hgd hdst l hx hpl gs bs hg hb hw hsafe hsafeB hd h
end
end Go.Proofs.YtaeabemipnbgbaaW.Sx
end
section
set_option linter.unusedVariables false
set_option linter.unusedSimpArgs false
namespace Go.Proofs.Ytaeabemipnbgbaa.PFr
open Go RowKit Ytaeabemipnbgbaa.QFr YtaeabemipnbgbaaW.PrintWords YtaeabemipnbgbaaW.PrintMore YtaeabemipnbgbaaW.Aid YtaeabemipnbgbaaW.Big YtaeabemipnbgbaaW.Sx
theorem follows:Try.prog.follows .mixedOrders=true:=by kernel_rfl
abbrev i64 (n:Int):A0 := .v (.int .i64 n)
abbrev tB (b:Bool):TV := .sc (.v (.bool b))
abbrev tI (n:Int):TV := .sc (.v (.int .i64 n))
abbrev nilA:A0 := .v (.slice none 0 0)
theorem reads_sl {β:Nat→Nat} {N:Nat} {w:World} {l:List Int} {u:Value} (h:(A0.sl .u8 l).reads N w u):∃ A c,u = .slice A l.length c∧l.length≤c∧Kd.C (Kd.int .u8) w A l.length l:=by
  obtain ⟨_,A,c,e,h1,h2⟩:=h
  exact ⟨A,c,e,h1,h2⟩
def byteL:A0→Option (List Int)
  | .sl .u8 l=>some l
  | .v (.slice none 0 0)=>some []
  | _=>none
theorem byteL_reads {N:Nat} {w:World} {c:A0} {l:List Int} {u:Value} (hc:byteL c=some l) (h:c.reads N w u):∃ A c,u = .slice A l.length c∧l.length≤c∧Kd.C (Kd.int .u8) w A l.length l:=by
  unfold byteL at hc
  split at hc
  · cases hc;exact reads_sl (β:=fun _=>0) h
  · cases hc
    rw [show u=_ from h]
    exact ⟨none,0,rfl,Nat.le_refl _,Kd.C_nil _ _⟩
  · cases hc
theorem fs_told {w':World} {N:Nat} {v:Value} {l:List Int} (h:Kd.R (Kd.int .u8) 5 w' N (fun _=>True) v l):(A0.fs 5 .u8 l).reads N w' v:=⟨rfl,rfl,h⟩
theorem drawn_below {w w':World} (h:Drawn0 w w'):Below w.heap.size w w':=by
  obtain ⟨n,rfl⟩:=h
  exact ⟨rfl,rfl,rfl,Nat.le_refl _,fun _ _=>rfl⟩
structure BytesL (l:List Int):Prop where
  b:Bytes l
  n:l.length≤100000
def cNum:Con Try.prog where
  f:=33
  sem:=fun xs=>match xs with
    | [.sc (.v (.int .i64 n))]=>some (True,.tv (tI n))
    | _=>none
  ok:=by
    intro xs p r h hp
    refine ⟨⟨_,Try.func33,by kernel_rfl,rfl⟩,fun us w ha=>?_⟩
    split at h
    · rename_i n
      cases h
      obtain ⟨u,rfl,hu⟩:=all2_1 ha
      rw [show u=_ from hu]
      exact Ret.val ((gimballaw23_num.calls n n w rfl).mono fun e w' h=>⟨h.1,drawn_below h.2⟩)
    · cases h
def cEqB:Con Try.prog where
  f:=21
  sem := fun xs => match xs with
    | [.sc a,.sc b]=>match byteL a,byteL b with
      | some l,some m=>some (l.length≤1000000,.tv (tB (decide (l=m))))
      | _,_=>none
    | _=>none
  ok := by
    intro xs p r h hp
    refine ⟨⟨_,Try.func21,by kernel_rfl,rfl⟩,fun us w ha=>?_⟩
    split at h
    · rename_i a b
      split at h
      · rename_i l m hl hm
        cases h
        obtain ⟨u,v,rfl,hu,hv⟩:=all2_2 ha
        obtain ⟨A,c,rfl,h1,h2⟩:=byteL_reads hl hu
        obtain ⟨A',c',rfl,h3,h4⟩:=byteL_reads hm hv
        obtain ⟨k,hk⟩:=Ev.rounds (eqB_ev (a:=l) (b:=m) hp)
        exact Ret.val ((gimbalref0_EqBytes.calls k A c l A' c' m _ w h2 h1 h4 h3 hk).mono fun e w' h=>⟨h.1,drawn_below h.2⟩)
      · cases h
    · cases h
def cCopy:Con Try.prog where
  f:=26
  sem := fun xs => match xs with
    | [.sc a]=>match byteL a with
      | some l=>some (l.length≤1000000,.tv (.sc (.fs 5 .u8 l)))
      | _=>none
    | _=>none
  ok := by
    intro xs p r h hp
    refine ⟨⟨_,Try.func26,by kernel_rfl,rfl⟩,fun us w ha=>?_⟩
    split at h
    · rename_i a
      split at h
      · rename_i l hl
        cases h
        obtain ⟨u,rfl,hu⟩:=all2_1 ha
        obtain ⟨A,c,rfl,h1,h2⟩:=byteL_reads hl hu
        obtain ⟨k,hk⟩:=Ev.rounds (copy_ev (l:=l) hp)
        exact (gimbalref0_CopyBytes.calls k A c l _ w h2 h1 hk).mono fun e w' ⟨v,he,hR,hB⟩=>⟨v,he,fs_told hR,hB⟩
      · cases h
    · cases h
def cMayF:Con Try.prog where
  f:=29
  sem := fun xs => match xs with
    | [.agg [.v (.int .i64 s),.v (.int .i64 kd),a]]=>match byteL a with
      | some l=>some (True,.tv (tB (mayF s kd l)))
      | _=>none
    | _=>none
  ok := by
    intro xs p r h hp
    refine ⟨⟨_,Try.func29,by kernel_rfl,rfl⟩,fun us w ha=>?_⟩
    split at h
    · rename_i s kd a
      split at h
      · rename_i l hl
        cases h
        obtain ⟨u,rfl,us',rfl,hu⟩:=all2_1 ha
        obtain ⟨x,y,z,rfl,hx,hy,hz⟩:=all2_3 hu
        obtain ⟨A,c,rfl,h1,h2⟩:=byteL_reads hl hz
        rw [show x=_ from hx,show y=_ from hy]
        exact Ret.val (gimbalref22_May.calls s kd A c l _ w h2 h1 (mayR_f s kd l))
      · cases h
    · cases h
def cEncRef:Con Try.prog where
  f:=30
  sem := fun xs => match xs with
    | [.agg [.v (.int .i64 s),.v (.int .i64 kd),a]]=>match byteL a with
      | some l=>some (BytesL l∧mayF s kd l=true,.tv (.sc (.fs 5 .u8 (encF s kd l))))
      | _=>none
    | _=>none
  ok := by
    intro xs p r h hp
    refine ⟨⟨_,Try.func30,by kernel_rfl,rfl⟩,fun us w ha=>?_⟩
    split at h
    · rename_i s kd a
      split at h
      · rename_i l hl
        cases h
        obtain ⟨u,rfl,us',rfl,hu⟩:=all2_1 ha
        obtain ⟨x,y,z,rfl,hx,hy,hz⟩:=all2_3 hu
        obtain ⟨A,c,rfl,h1,h2⟩:=byteL_reads hl hz
        rw [show x=_ from hx,show y=_ from hy]
        obtain ⟨k,hk⟩:=Ev.rounds (encRef_ev hp.1.1 hp.2)
        exact (gimbalref22_Encode.calls k s kd A c l _ w h2 h1 hk).mono fun e w' ⟨v,he,hR,hB⟩=>⟨v,he,fs_told hR,hB⟩
      · cases h
    · cases h
def cEnc:Con Try.prog where
  f:=32
  sem := fun xs => match xs with
    | [.agg [.v (.int .i64 s),.v (.int .i64 kd),a]]=>match byteL a with
      | some l=>some (BytesL l,.tv (.tup [(false,[.fs 5 .u8 (encR s kd l).1]),(false,[i64 (encR s kd l).2])]))
      | _=>none
    | _=>none
  ok := by
    intro xs p r h hp
    refine ⟨⟨_,Try.func32,by kernel_rfl,rfl⟩,fun us w ha=>?_⟩
    split at h
    · rename_i s kd a
      split at h
      · rename_i l hl
        cases h
        obtain ⟨u,rfl,us',rfl,hu⟩:=all2_1 ha
        obtain ⟨x,y,z,rfl,hx,hy,hz⟩:=all2_3 hu
        obtain ⟨A,c,rfl,h1,h2⟩:=byteL_reads hl hz
        rw [show x=_ from hx,show y=_ from hy]
        obtain ⟨k,hk⟩:=Ev.rounds (enc_ev (s:=s) (kd:=kd) hp.1)
        exact (frame_Encode.calls k s kd A c l _ _ w h2 h1 hk).mono fun e w' ⟨v,he,hR,hB⟩=>⟨_,he,⟨[_,_],rfl,.cons ⟨_,rfl,fs_told hR⟩ (.cons ⟨_,rfl,rfl⟩ .nil)⟩,hB⟩
      · cases h
    · cases h
def cDec:Con Try.prog where
  f:=36
  sem := fun xs => match xs with
    | [.sc a]=>match byteL a with
      | some l=>some (BytesL l,.tv (.tup [(true,[i64 (decR l).1,i64 (decR l).2.1,.fs 5 .u8 (decR l).2.2.1]),(false,[i64 (decR l).2.2.2.1]),(false,[i64 (decR l).2.2.2.2])]))
      | _=>none
    | _=>none
  ok := by
    intro xs p r h hp
    refine ⟨⟨_,Try.func36,by kernel_rfl,rfl⟩,fun us w ha=>?_⟩
    split at h
    · rename_i a
      split at h
      · rename_i l hl
        cases h
        obtain ⟨u,rfl,hu⟩:=all2_1 ha
        obtain ⟨A,c,rfl,h1,h2⟩:=byteL_reads hl hu
        obtain ⟨k,hk⟩:=Ev.rounds (dec_ev hp.1 hp.2)
        exact (frame_Decode.calls k A c l _ _ _ _ _ w h2 h1 hk).mono fun e w' ⟨v,he,hR,hB⟩=>⟨_,he,⟨[_,_,_],rfl,.cons ⟨[_,_,_],rfl,.cons rfl (.cons rfl (.cons (fs_told hR) .nil))⟩ (.cons ⟨_,rfl,rfl⟩ (.cons ⟨_,rfl,rfl⟩ .nil))⟩,hB⟩
      · cases h
    · cases h
def cBegins:Con Try.prog where
  f:=37
  sem := fun xs => match xs with
    | [.sc a]=>match byteL a with
      | some l=>some (BytesL l,.tv (tB (begins l)))
      | _=>none
    | _=>none
  ok := by
    intro xs p r h hp
    refine ⟨⟨_,Try.func37,by kernel_rfl,rfl⟩,fun us w ha=>?_⟩
    split at h
    · rename_i a
      split at h
      · rename_i l hl
        cases h
        obtain ⟨u,rfl,hu⟩:=all2_1 ha
        obtain ⟨A,c,rfl,h1,h2⟩:=byteL_reads hl hu
        obtain ⟨k,hk⟩:=Ev.rounds (begins_ev hp.1 hp.2)
        exact Ret.val (frame_Begins.calls k A c l _ w h2 h1 hk)
      · cases h
    · cases h
def eqF (s kd:Int) (l:List Int) (s' kd':Int) (l':List Int):Bool:=decide (s=s')&&(decide (kd=kd')&&decide (l=l'))
theorem eqF_ev {s kd s' kd':Int} {l l':List Int} (h:l.length≤1000000):Ev (fun k=>gimbalref0_EqFrame.f k s kd l s' kd' l') (eqF s kd l s' kd' l'):=by
  unfold gimbalref0_EqFrame.f eqF
  by_cases h1:s=s'
  · refine Ev.congr (fun k=>if_pos h1) ?_
    by_cases h2:kd=kd'
    · refine Ev.congr (fun k=>if_pos h2) ?_
      exact Ev.to (Ev.bind (eqB_ev h) (Ev.now _)) (by simp [h1,h2])
    · exact Ev.pure fun k=>by rw [if_neg h2];simp [h2]
  · exact Ev.pure fun k=>by rw [if_neg h1];simp [h1]
def cEqF:Con Try.prog where
  f:=34
  sem := fun xs => match xs with
    | [.agg [.v (.int .i64 s),.v (.int .i64 kd),a],.agg [.v (.int .i64 s'),.v (.int .i64 kd'),b]]=>match byteL a,byteL b with
      | some l,some m=>some (l.length≤1000000,.tv (tB (eqF s kd l s' kd' m)))
      | _,_=>none
    | _=>none
  ok := by
    intro xs p r h hp
    refine ⟨⟨_,Try.func34,by kernel_rfl,rfl⟩,fun us w ha=>?_⟩
    split at h
    · rename_i s kd a s' kd' b
      split at h
      · rename_i l m hl hm
        cases h
        obtain ⟨u,v,rfl,⟨us1,rfl,hu⟩,us2,rfl,hv⟩:=all2_2 ha
        obtain ⟨x,y,z,rfl,hx,hy,hz⟩:=all2_3 hu
        obtain ⟨x',y',z',rfl,hx',hy',hz'⟩:=all2_3 hv
        obtain ⟨A,c,rfl,h1,h2⟩:=byteL_reads hl hz
        obtain ⟨A',c',rfl,h3,h4⟩:=byteL_reads hm hz'
        rw [show x=_ from hx,show y=_ from hy,show x'=_ from hx',show y'=_ from hy']
        obtain ⟨k,hk⟩:=Ev.rounds (eqF_ev (s:=s) (kd:=kd) (s':=s') (kd':=kd') (l:=l) (l':=m) hp)
        exact Ret.val (gimbalref0_EqFrame.calls k s kd A c l s' kd' A' c' m _ w h2 h1 h4 h3 hk)
      · cases h
    · cases h
theorem copyF_ev {s kd:Int} {l:List Int} (h:l.length≤1000000):Ev (fun k=>gimbalref0_CopyFrame.f k s kd l) (s,kd,l):=by
  unfold gimbalref0_CopyFrame.f
  exact Ev.bind (copy_ev h) (Ev.now _)
def cCopyF:Con Try.prog where
  f:=31
  sem := fun xs => match xs with
    | [.agg [.v (.int .i64 s),.v (.int .i64 kd),a]]=>match byteL a with
      | some l=>some (l.length≤1000000,.tv (.agg [i64 s,i64 kd,.fs 5 .u8 l]))
      | _=>none
    | _=>none
  ok := by
    intro xs p r h hp
    refine ⟨⟨_,Try.func31,by kernel_rfl,rfl⟩,fun us w ha=>?_⟩
    split at h
    · rename_i s kd a
      split at h
      · rename_i l hl
        cases h
        obtain ⟨u,rfl,us',rfl,hu⟩:=all2_1 ha
        obtain ⟨x,y,z,rfl,hx,hy,hz⟩:=all2_3 hu
        obtain ⟨A,c,rfl,h1,h2⟩:=byteL_reads hl hz
        rw [show x=_ from hx,show y=_ from hy]
        obtain ⟨k,hk⟩:=Ev.rounds (copyF_ev (s:=s) (kd:=kd) hp)
        exact (gimbalref0_CopyFrame.calls k s kd A c l _ _ _ w h2 h1 hk).mono fun e w' ⟨v,he,hR,hB⟩=>⟨_,he,⟨[_,_,_],rfl,.cons rfl (.cons rfl (.cons (fs_told hR) .nil))⟩,hB⟩
      · cases h
    · cases h
def kBytes:KillC Try.prog where
  f:=24
  e:=5
  k := .u8
  pre:=fun l=>l.length≤1000000
  fok:=⟨_,Try.func24,by kernel_rfl,rfl⟩
  ok:=by
    intro l u w N hl hR
    obtain ⟨k,hk⟩:=Ev.rounds (bytes_ev hl)
    have hR0:Kd.R (Kd.int .u8) 5 w ({ w with heap:=#[] }:World).heap.size (fun k=>u.ownBlock=some k) u l:=by
      have h0:=Kd.R_lower hR (Nat.zero_le N)
      exact ⟨fun k hk=>hk,h0.2⟩
    refine (gimballaw0_Bytes.calls k _ u l { w with heap:=#[] } w ⟨rfl,rfl,rfl,Nat.zero_le _,fun k hk=>by simp at hk⟩ hR0 hk).mono ?_
    rintro en w' ⟨rfl,hB,hK⟩
    exact ⟨_,rfl,⟨hB.os,hB.tape,hB.output,hK.1,fun k hk=>absurd hk (Nat.not_lt_zero _)⟩,fun b hb hne=>hK.2 b hb (fun h=>hne h)⟩
end Go.Proofs.Ytaeabemipnbgbaa.PFr
end
section
set_option linter.unusedVariables false
set_option linter.unusedSimpArgs false
namespace Go.Proofs.Ytaeabemipnbgbaa.PFr
open Go RowKit Ytaeabemipnbgbaa.QFr YtaeabemipnbgbaaW.PrintWords YtaeabemipnbgbaaW.PrintMore YtaeabemipnbgbaaW.Aid YtaeabemipnbgbaaW.Big YtaeabemipnbgbaaW.Sx Go.Proofs
theorem ints_ok:intsOk Try.prog []:=rfl
def cKindR:Con Try.prog where
  f:=77
  sem:=fun xs=>match xs with
    | [.sc (.v (.int .i64 n))]=>some (True,.tv (tB (decide (1≤n)&&decide (n≤10))))
    | _=>none
  ok:=by
    intro xs p r h hp
    refine ⟨⟨_,Try.func77,by kernel_rfl,rfl⟩,fun us w ha=>?_⟩
    split at h
    · rename_i n
      cases h
      obtain ⟨u,rfl,hu⟩:=all2_1 ha
      rw [show u=_ from hu]
      exact Ret.val ((gimbalref22_Kind.calls n _ w (kindR_f n)).mono fun e w' h=>⟨h.1,drawn_below h.2⟩)
    · cases h
def cSumR:Con Try.prog where
  f:=78
  sem := fun xs => match xs with
    | [.sc a]=>match byteL a with
      | some l=>some (BytesL l,.tv (.sc (.v (.int .u16 (Crc.crcOf l 65535)))))
      | _=>none
    | _=>none
  ok := by
    intro xs p r h hp
    refine ⟨⟨_,Try.func78,by kernel_rfl,rfl⟩,fun us w ha=>?_⟩
    split at h
    · rename_i a
      split at h
      · rename_i l hl
        cases h
        obtain ⟨u,rfl,hu⟩:=all2_1 ha
        obtain ⟨A,c,rfl,h1,h2⟩:=byteL_reads hl hu
        obtain ⟨k,hk⟩:=Ev.rounds (sumRef_ev (l:=l) hp.1 (by have:=hp.2;omega))
        exact Ret.val ((gimbalref22_Sum.calls k A c l _ w h2 h1 hk).mono fun e w' h=>⟨h.1,drawn_below h.2⟩)
      · cases h
    · cases h
section
set_option maxRecDepth 100000
set_option maxHeartbeats 4000000
def cHeavy:Con Try.prog where
  f:=28
  sem:=fun xs=>match xs with
    | [.agg [.v (.int .i64 s),.v (.int .i64 kd),.sl .u8 l,.sl .u8 m]]=>some (True,.tv (tB (bif decide ((l.length:Int)>2000) then true else decide ((m.length:Int)>2000))))
    | _=>none
  ok := by
    intro xs p r' h hp
    refine ⟨⟨_,Try.func28,by kernel_rfl,rfl⟩,fun us w ha=>?_⟩
    split at h
    · rename_i s kd l m
      cases h
      refine fn_ret (cxOk Try.prog ints_ok [] []) follows Try.func28 rfl 100 _ rfl (by simp) ?_ ha
      repeat' first
        | exact trivial
        | (refine And.intro (show regChk _ _ _ _ _=true from by kernel_rfl) (And.intro ?_ ?_))
        | (refine And.intro (fun _=>?_) (fun h=>absurd (show true=false from h) (by decide)))
        | (refine And.intro (fun h=>absurd (show false=true from h) (by decide)) (fun _=>?_))
        | (refine And.intro (fun hb=>?_) (fun hb'=>?_))
        | refine And.intro ?_ ?_
        | intro _
      all_goals first
        | (show some (CR.tv (tB _))=some (CR.tv (tB _));rfl)
        | (show (_:Bool)=(_:Bool);first|assumption|exact beq_iff_eq.2 (by assumption)|(exact and_tt (by first|assumption|exact beq_iff_eq.2 (by assumption)) (by first|assumption|exact beq_iff_eq.2 (by assumption))))
        | (show (_:Nat)=(_:Nat);rfl)
        | (show (_:Nat)≤1000;decide)
        | (show (_:Int)=(_:Int);rfl)
        | (show (_:Int)≤_;decide)
        | (show (_:Int)<_;decide)
        -- PVC
    · cases h
theorem i64w (n:Int):IntKind.i64.wrap n=wrap64 n:=by unfold wrap64;exact IntKind.wrap_i64 n
abbrev W (n:Int):Int:=IntKind.i64.wrap n
theorem wid {n:Int} (h0:0≤n) (h1:n≤1000000):W n=n:=by
  show IntKind.i64.wrap n=n
  rw [i64w];exact wrap64_id (by omega) (by omega)
abbrev sh8 (n:Int):Int:=W (W n*2 ^ min (Int.toNat 8) IntKind.i64.bits)
theorem sh8_eq {n:Int} (h0:0≤n) (h1:n≤255):sh8 n=n*256:=by
  show W (W n*2 ^ 8)=_
  rw [wid h0 (by omega),show (2:Int) ^ 8=256 by decide,wid (by omega) (by omega)]
abbrev n1 (l:List Int):Int:=Go.bits .or .i64 (sh8 (rd l 1)) (W (rd l 2))
theorem n1_eq {l:List Int} (hp:BytesL l) (h:2<l.length):n1 l=L l:=by
  have h1:=hp.1.rd (i:=1) (by omega) (by omega)
  have h2:=hp.1.rd (i:=2) (by omega) (by omega)
  unfold n1 L
  rw [sh8_eq h1.1 h1.2,wid h2.1 (by omega)]
  exact bits_join .i64 63 (by decide) (fun n h0 h1=>by rw [i64w];exact wrap64_id (by omega) (by omega)) 8 (rd l 1*256) (rd l 2) (by omega) (by omega) (by omega) h2.1 (by omega) (by omega)
theorem L_bd {l:List Int} (hp:BytesL l) (h:2<l.length):0≤L l∧L l≤65535:=by
  have h1:=hp.1.rd (i:=1) (by omega) (by omega)
  have h2:=hp.1.rd (i:=2) (by omega) (by omega)
  unfold L;omega
def NOK (l:List Int) (n:Int):Prop:=(l.length≤2∧n=0)∨(2<l.length∧n=L l∧L l≤256)
theorem nok0 {l:List Int} (h:decide ((l.length:Int)>2)=false):NOK l 0 := .inl ⟨by have:=of_decide_eq_false h;omega,rfl⟩
theorem nok1 {l:List Int} (hp:BytesL l) (h:decide ((l.length:Int)>2)=true) (h4:decide (n1 l>256)=false):NOK l (n1 l):=by
  have h3:2<l.length:=by have:=of_decide_eq_true h;omega
  have e:=n1_eq hp h3
  have h5:=of_decide_eq_false h4
  exact .inr ⟨h3,e,by omega⟩
abbrev t1 (l:List Int):Bool:=bif decide ((l.length:Int)>0) then rd l 0 != 126 else false
abbrev t2 (l:List Int):Bool:=bif decide ((l.length:Int)>1) then decide (sh8 (rd l 1)>256) else false
abbrev t5 (l:List Int):Bool:=bif decide ((l.length:Int)>4) then !(decide (1≤W (rd l 4))&&decide (W (rd l 4)≤10)) else false
abbrev t6 (l:List Int) (n:Int):Bool:=bif decide ((l.length:Int)<3) then true else decide ((l.length:Int)<W (n+7))
abbrev cutL (l:List Int) (n:Int):List Int:=List.drop (Int.toNat 1) (List.take (W (n+5)).toNat l)
abbrev crcL (l:List Int) (n:Int):Int:=Crc.crcOf (cutL l n) 65535
abbrev tE (l:List Int) (n:Int):Bool:=bif rd l (W (n+5)) == IntKind.u8.wrap ((crcL l n).fdiv (2 ^ min (Int.toNat 8) IntKind.u16.bits)) then rd l (W (n+6)) == IntKind.u8.wrap (crcL l n) else false
theorem t1_t {l:List Int} (h:t1 l=true):l.length≠0∧rd l 0≠126:=by
  unfold t1 at h
  by_cases h0:(l.length:Int)>0
  · rw [decide_eq_true h0] at h;simp at h;exact ⟨by omega,h⟩
  · rw [decide_eq_false h0] at h;cases h
theorem t1_f {l:List Int} (h:t1 l=false):l.length=0∨rd l 0=126:=by
  unfold t1 at h
  by_cases h0:(l.length:Int)>0
  · rw [decide_eq_true h0] at h;simp at h;exact .inr h
  · exact .inl (by omega)
theorem t2_t {l:List Int} (hp:BytesL l) (h:t2 l=true):2≤l.length∧1<rd l 1:=by
  unfold t2 at h
  by_cases h0:(l.length:Int)>1
  · have h1:=hp.1.rd (i:=1) (by omega) (by omega)
    rw [decide_eq_true h0,sh8_eq h1.1 h1.2] at h;simp at h;exact ⟨by omega,by omega⟩
  · rw [decide_eq_false h0] at h;cases h
theorem t2_f {l:List Int} (hp:BytesL l) (h:t2 l=false):¬ (2≤l.length∧1<rd l 1):=by
  rintro ⟨h2,h3⟩
  have h1:=hp.1.rd (i:=1) (by omega) (by omega)
  unfold t2 at h
  rw [decide_eq_true (show (l.length:Int)>1 by omega),sh8_eq h1.1 h1.2] at h
  simp at h;omega
theorem t5_t {l:List Int} (hp:BytesL l) (h:t5 l=true):5≤l.length∧¬ (1≤rd l 4∧rd l 4≤10):=by
  unfold t5 at h
  by_cases h0:(l.length:Int)>4
  · have h1:=hp.1.rd (i:=4) (by omega) (by omega)
    rw [decide_eq_true h0,wid h1.1 (by omega)] at h
    refine ⟨by omega,fun hk=>?_⟩
    rw [decide_eq_true hk.1,decide_eq_true hk.2] at h;cases h
  · rw [decide_eq_false h0] at h;cases h
theorem t5_f {l:List Int} (hp:BytesL l) (h:t5 l=false):¬ (5≤l.length∧¬ (1≤rd l 4∧rd l 4≤10)):=by
  rintro ⟨h2,h3⟩
  have h1:=hp.1.rd (i:=4) (by omega) (by omega)
  unfold t5 at h
  rw [decide_eq_true (show (l.length:Int)>4 by omega),wid h1.1 (by omega)] at h
  simp only [cond_true,Bool.not_eq_false'] at h
  rw [Bool.and_eq_true,decide_eq_true_eq,decide_eq_true_eq] at h
  exact h3 h
theorem nok_bd {l:List Int} {n:Int} (hp:BytesL l) (hn:NOK l n):0≤n∧n≤256:=by
  rcases hn with ⟨_,rfl⟩|⟨h,rfl,h2⟩
  · omega
  · have:=L_bd hp h;omega
theorem t6_t {l:List Int} {n:Int} (hp:BytesL l) (hn:NOK l n) (h:t6 l n=true):l.length<3∨(l.length:Int)<7+n:=by
  have hb:=nok_bd hp hn
  unfold t6 at h
  by_cases h0:(l.length:Int)<3
  · exact .inl (by omega)
  · rw [decide_eq_false h0,wid (by omega) (by omega)] at h;simp at h;exact .inr (by omega)
theorem t6_f {l:List Int} {n:Int} (hp:BytesL l) (hn:NOK l n) (h:t6 l n=false):2<l.length∧n=L l∧L l≤256∧7+n≤(l.length:Int):=by
  have hb:=nok_bd hp hn
  unfold t6 at h
  by_cases h0:(l.length:Int)<3
  · rw [decide_eq_true h0] at h;cases h
  · rw [decide_eq_false h0,wid (by omega) (by omega)] at h;simp at h
    rcases hn with ⟨h1,_⟩|⟨h1,h2,h3⟩
    · omega
    · exact ⟨h1,h2,h3,by omega⟩
theorem side {l:List Int} {n:Int} (hp:BytesL l) (hn:NOK l n) (h:t6 l n=false):(1≤W (n+5)∧W (n+5)≤(l.length:Int))∧(0≤W (n+5)∧W (n+5)<(l.length:Int))∧(0≤W (n+6)∧W (n+6)<(l.length:Int))∧BytesL (cutL l n):=by
  have hb:=nok_bd hp hn
  obtain ⟨h1,h2,h3,h4⟩:=t6_f hp hn h
  refine ⟨?_,?_,?_,⟨(hp.1.take _).drop _,?_⟩⟩
  · rw [wid (by omega) (by omega)];omega
  · rw [wid (by omega) (by omega)];omega
  · rw [wid (by omega) (by omega)];omega
  · have:=hp.2
    simp only [List.length_drop,List.length_take];omega
theorem bg_1 {l:List Int} (h:t1 l=true):false=begins l:=by
  obtain ⟨h0,h1⟩:=t1_t h
  unfold begins lookR
  rw [if_neg h0,if_pos (.inl h1)]
theorem bg_2 {l:List Int} (hp:BytesL l) (h:t2 l=true):false=begins l:=by
  have h2:=t2_t hp h
  unfold begins lookR
  rw [if_neg (by omega),if_pos (.inr h2)]
theorem lookR_3 {l:List Int} (hp:BytesL l) (h1:t1 l=false) (h2:t2 l=false) (h0:l.length≠0):¬ (rd l 0≠126∨(2≤l.length∧1<rd l 1)):=by
  rintro (h|h)
  · rcases t1_f h1 with h3|h3
    · exact h0 h3
    · exact h h3
  · exact t2_f hp h2 h
theorem bg_3 {l:List Int} (hp:BytesL l) (h1:t1 l=false) (h2:t2 l=false) (h3:decide ((l.length:Int)>2)=true) (h4:decide (n1 l>256)=true):false=begins l:=by
  have h3':=of_decide_eq_true h3
  have h4':=of_decide_eq_true h4
  rw [n1_eq hp (by omega)] at h4'
  unfold begins lookR
  rw [if_neg (by omega),if_neg (lookR_3 hp h1 h2 (by omega)),if_pos ⟨by omega,by omega⟩]
theorem nok_3 {l:List Int} {n:Int} (hn:NOK l n):¬ (3≤l.length∧256<L l):=by
  rintro ⟨h1,h2⟩
  rcases hn with ⟨h,_⟩|⟨_,_,h⟩<;>omega
theorem bg_5 {l:List Int} {n:Int} (hp:BytesL l) (h1:t1 l=false) (h2:t2 l=false) (hn:NOK l n) (h5:t5 l=true):false=begins l:=by
  have h5':=t5_t hp h5
  unfold begins lookR
  rw [if_neg (by omega),if_neg (lookR_3 hp h1 h2 (by omega)),if_neg (nok_3 hn),if_pos h5']
theorem bg_6 {l:List Int} {n:Int} (hp:BytesL l) (h1:t1 l=false) (h2:t2 l=false) (hn:NOK l n) (h5:t5 l=false) (h6:t6 l n=true):true=begins l:=by
  unfold begins lookR
  by_cases h0:l.length=0
  · rw [if_pos h0]
  · rw [if_neg h0,if_neg (lookR_3 hp h1 h2 h0),if_neg (nok_3 hn),if_neg (t5_f hp h5),if_pos]
    have hb:=nok_bd hp hn
    rcases hn with ⟨h,_⟩|⟨h,e,_⟩
    · left;omega
    · by_cases h4:l.length<5
      · exact .inl h4
      · right
        rcases t6_t hp (.inr ⟨h,e,by omega⟩) h6 with h7|h7<;>omega
theorem fdiv8 (x:Int):x.fdiv (2 ^ min (Int.toNat 8) IntKind.u16.bits)=x/256:=by
  show x.fdiv (2 ^ 8)=_
  rw [show (2:Int) ^ 8=256 by decide,Int.fdiv_eq_ediv_of_nonneg _ (by decide)]
theorem tE_eq {l:List Int} (hp:BytesL l) (hn:2<l.length) (h3:L l≤256) (h4:7+L l≤(l.length:Int)):tE l (L l)=decide (Crc.crcOf ((l.take (5+L l).toNat).drop 1) 65535=rd l (5+L l)*256+rd l (6+L l)):=by
  have hb:=L_bd hp hn
  have a1:=hp.1.rd (i:=5+L l) (by omega) (by omega)
  have a2:=hp.1.rd (i:=6+L l) (by omega) (by omega)
  have hc:=Crc.crc_bd ((l.take (5+L l).toNat).drop 1) 65535 (by decide) (by decide)
  unfold tE crcL cutL
  rw [fdiv8,wid (n:=L l+5) (by omega) (by omega),wid (n:=L l+6) (by omega) (by omega),show L l+5=5+L l by omega,show L l+6=6+L l by omega,IntKind.wrap_u8,IntKind.wrap_u8,show Int.toNat 1=1 by decide]
  generalize Crc.crcOf ((l.take (5+L l).toNat).drop 1) 65535=c at *
  generalize rd l (5+L l)=x at *
  generalize rd l (6+L l)=y at *
  rw [Bool.eq_iff_iff,decide_eq_true_eq]
  by_cases e1:x=c/256%256
  · rw [show (x == c/256%256)=true from beq_iff_eq.2 e1,cond_true,beq_iff_eq]
    omega
  · rw [show (x == c/256%256)=false from by simpa using e1,cond_false]
    constructor
    · intro h;cases h
    · intro h;omega
theorem bg_7 {l:List Int} {n:Int} (hp:BytesL l) (h1:t1 l=false) (h2:t2 l=false) (hn:NOK l n) (h5:t5 l=false) (h6:t6 l n=false):tE l n=begins l:=by
  have hb:=nok_bd hp hn
  obtain ⟨g1,rfl,g3,g4⟩:=t6_f hp hn h6
  rw [tE_eq hp g1 g3 g4]
  unfold begins lookR
  rw [if_neg (by omega),if_neg (lookR_3 hp h1 h2 (by omega)),if_neg (nok_3 hn),if_neg (t5_f hp h5),if_neg (by omega)]
  by_cases hc:Crc.crcOf ((l.take (5+L l).toNat).drop 1) 65535=rd l (5+L l)*256+rd l (6+L l)
  · rw [if_neg (fun h=>h hc),decide_eq_true hc]
  · rw [if_pos hc,decide_eq_false hc]
theorem bq {b:Bool} (h:b=false):(b == false)=true:=by simp [h]
theorem bytesNil:BytesL []:=⟨fun x hx=>absurd hx List.not_mem_nil,Nat.zero_le _⟩
theorem gB {b:Bool} (h:(b == true)=true):b=true:=by simpa using h
theorem ix {l:List Int} {k m:Int} (h:decide ((l.length:Int)>m)=true) (hk:k≤m):k<(l.length:Int):=by have:=of_decide_eq_true h;omega
def cBeginsR:Con Try.prog where
  f:=38
  sem:=fun xs=>match xs with
    | [.sc (.sl .u8 l)]=>some (BytesL l,.tv (tB (begins l)))
    | _=>none
  ok := by
    intro xs p r' h hp
    refine ⟨⟨_,Try.func38,by kernel_rfl,rfl⟩,fun us w ha=>?_⟩
    split at h
    · rename_i l
      cases h
      refine fn_ret (cxOk Try.prog ints_ok [] [cKindR,cSumR]) follows Try.func38 rfl 100 _ rfl (by simp) ?_ ha
      repeat' first
        | exact trivial
        | (refine And.intro (show regChk _ _ _ _ _=true from by kernel_rfl) (And.intro ?_ ?_))
        | (refine And.intro (fun _=>?_) (fun h=>absurd (show true=false from h) (by decide)))
        | (refine And.intro (fun h=>absurd (show false=true from h) (by decide)) (fun _=>?_))
        | (refine And.intro (fun hb=>?_) (fun hb'=>?_))
        | refine And.intro ?_ ?_
        | intro _
      all_goals first
        | (show some (CR.tv (tB false))=some (CR.tv (tB _));refine congrArg (fun b=>some (CR.tv (tB b))) ?_;first|exact bg_1 (by assumption)|exact bg_2 hp (by assumption)|exact bg_3 hp (by assumption) (by assumption) (by assumption) (by assumption)|exact bg_5 hp (by assumption) (by assumption) (nok0 (by assumption)) (by assumption)|exact bg_5 hp (by assumption) (by assumption) (nok1 hp (by assumption) (by assumption)) (by assumption))
        | (show some (CR.tv (tB true))=some (CR.tv (tB _));refine congrArg (fun b=>some (CR.tv (tB b))) ?_;first|exact bg_6 hp (by assumption) (by assumption) (nok0 (by assumption)) (by assumption) (by assumption)|exact bg_6 hp (by assumption) (by assumption) (nok1 hp (by assumption) (by assumption)) (by assumption) (by assumption))
        | (show some (CR.tv (tB _))=some (CR.tv (tB _));refine congrArg (fun b=>some (CR.tv (tB b))) ?_;first|exact bg_7 hp (by assumption) (by assumption) (nok0 (by assumption)) (by assumption) (by assumption)|exact bg_7 hp (by assumption) (by assumption) (nok1 hp (by assumption) (by assumption)) (by assumption) (by assumption))
        | (show (_:Int)<((List.length _:Nat):Int);first|exact ix (gB (by assumption)) (by decide)|exact ix (m:=2) (by assumption) (by decide)|exact (side hp (nok0 (by assumption)) (by assumption)).2.1.2|exact (side hp (nok1 hp (by assumption) (by assumption)) (by assumption)).2.1.2|exact (side hp (nok0 (by assumption)) (by assumption)).2.2.1.2|exact (side hp (nok1 hp (by assumption) (by assumption)) (by assumption)).2.2.1.2)
        | (show BytesL _;first|exact (side hp (nok0 (by assumption)) (by assumption)).2.2.2|exact (side hp (nok1 hp (by assumption) (by assumption)) (by assumption)).2.2.2)
        | (show Bytes _;first|exact (side hp (nok0 (by assumption)) (by assumption)).2.2.2.1|exact (side hp (nok1 hp (by assumption) (by assumption)) (by assumption)).2.2.2.1)
        | (show List.length _≤100000;first|exact (side hp (nok0 (by assumption)) (by assumption)).2.2.2.2|exact (side hp (nok1 hp (by assumption) (by assumption)) (by assumption)).2.2.2.2)
        | (show (_:Int)≤((List.length _:Nat):Int);first|exact (side hp (nok0 (by assumption)) (by assumption)).1.2|exact (side hp (nok1 hp (by assumption) (by assumption)) (by assumption)).1.2)
        | (show (0:Int)≤W _;first|exact (side hp (nok0 (by assumption)) (by assumption)).2.1.1|exact (side hp (nok1 hp (by assumption) (by assumption)) (by assumption)).2.1.1|exact (side hp (nok0 (by assumption)) (by assumption)).2.2.1.1|exact (side hp (nok1 hp (by assumption) (by assumption)) (by assumption)).2.2.1.1)
        | (show (1:Int)≤W _;first|exact (side hp (nok0 (by assumption)) (by assumption)).1.1|exact (side hp (nok1 hp (by assumption) (by assumption)) (by assumption)).1.1)
        | (show (0:Int)≤_;decide)
        | (show (_:Bool)=(_:Bool);first|assumption|exact gB (by assumption)|exact bq (by assumption)|rfl)
        | (show (_:Bool)=(_:Bool);first|assumption|exact beq_iff_eq.2 (by assumption)|(exact and_tt (by first|assumption|exact beq_iff_eq.2 (by assumption)) (by first|assumption|exact beq_iff_eq.2 (by assumption))))
        | (show (_:Nat)=(_:Nat);rfl)
        | (show (_:Nat)≤1000;decide)
        | (show (_:Int)=(_:Int);rfl)
        | (show (_:Int)≤_;decide)
        | (show (_:Int)<_;decide)
        -- PVC
    · cases h
abbrev d1 (l:List Int):Bool:=bif decide ((l.length:Int)<7) then true else !(begins l)
abbrev d2 (l:List Int):Bool:=decide ((l.length:Int)<W (n1 l+7))
abbrev plL (l:List Int):List Int:=List.drop (Int.toNat 5) (List.take (W (n1 l+5)).toNat l)
theorem decR_zero {l:List Int} (hz:(decR l).2.2.2.1=0):decR l=(0,0,[],0,1):=by
  unfold decR at hz ⊢
  split
  · rfl
  · rename_i h
    rw [if_neg h] at hz
    exact absurd hz h
theorem look_n {l:List Int} (hp:BytesL l) (h:(lookR l).2.2.2.1≠0):begins l=true∧2<l.length∧L l≤256∧7+L l≤(l.length:Int)∧lookR l=(rd l 3,rd l 4,(l.take (5+L l).toNat).drop 5,7+L l,true):=by
  unfold begins
  unfold lookR at h ⊢
  by_cases h0:l.length=0
  · rw [if_pos h0] at h;exact absurd rfl h
  rw [if_neg h0] at h ⊢
  by_cases h1:rd l 0≠126∨(2≤l.length∧1<rd l 1)
  · rw [if_pos h1] at h;exact absurd rfl h
  rw [if_neg h1] at h ⊢
  by_cases h2:3≤l.length∧256<L l
  · rw [if_pos h2] at h;exact absurd rfl h
  rw [if_neg h2] at h ⊢
  by_cases h3:5≤l.length∧¬ (1≤rd l 4∧rd l 4≤10)
  · rw [if_pos h3] at h;exact absurd rfl h
  rw [if_neg h3] at h ⊢
  by_cases h4:l.length<5∨(l.length:Int)<7+L l
  · rw [if_pos h4] at h;exact absurd rfl h
  rw [if_neg h4] at h ⊢
  by_cases h5:Crc.crcOf ((l.take (5+L l).toNat).drop 1) 65535≠rd l (5+L l)*256+rd l (6+L l)
  · rw [if_pos h5] at h;exact absurd rfl h
  rw [if_neg h5] at h ⊢
  exact ⟨rfl,by omega,by omega,by omega,rfl⟩
theorem dz_1 {l:List Int} (hp:BytesL l) (h:d1 l=true):(decR l).2.2.2.1=0:=by
  apply Decidable.byContradiction
  intro hn
  have hl:(lookR l).2.2.2.1≠0:=fun e=>hn (by unfold decR;rw [if_pos e])
  obtain ⟨g1,g2,g3,g4,_⟩:=look_n hp hl
  have:=L_bd hp g2
  unfold d1 at h
  rw [decide_eq_false (by omega),cond_false,g1] at h
  cases h
theorem d1_f {l:List Int} (h:d1 l=false):7≤l.length∧begins l=true:=by
  unfold d1 at h
  by_cases h0:(l.length:Int)<7
  · rw [decide_eq_true h0] at h;cases h
  · rw [decide_eq_false h0,cond_false] at h
    exact ⟨by omega,by simpa using h⟩
theorem begins_L {l:List Int} (hb:begins l=true) (h7:7≤l.length):L l≤256:=by
  unfold begins lookR at hb
  apply Decidable.byContradiction
  intro hn
  rw [if_neg (by omega)] at hb
  split at hb
  · cases hb
  · rw [if_pos ⟨by omega,by omega⟩] at hb;cases hb
theorem dz_2 {l:List Int} (hp:BytesL l) (h:d1 l=false) (h2:d2 l=true):(decR l).2.2.2.1=0:=by
  apply Decidable.byContradiction
  intro hn
  have hl:(lookR l).2.2.2.1≠0:=fun e=>hn (by unfold decR;rw [if_pos e])
  obtain ⟨g1,g2,g3,g4,_⟩:=look_n hp hl
  have:=L_bd hp g2
  have h3:=of_decide_eq_true h2
  rw [n1_eq hp g2,wid (by omega) (by omega)] at h3
  omega
theorem d2_f {l:List Int} (hp:BytesL l) (h:d1 l=false) (h2:d2 l=false):2<l.length∧n1 l=L l∧(0≤L l∧L l≤256)∧7+L l≤(l.length:Int):=by
  obtain ⟨h7,hb⟩:=d1_f h
  have h3:=of_decide_eq_false h2
  have hL:=begins_L hb h7
  have:=L_bd hp (by omega)
  rw [n1_eq hp (by omega),wid (by omega) (by omega)] at h3
  exact ⟨by omega,n1_eq hp (by omega),⟨this.1,hL⟩,by omega⟩
theorem dn_ {l:List Int} (hp:BytesL l) (h:d1 l=false) (h2:d2 l=false):decR l=(W (rd l 3),W (rd l 4),plL l,W (n1 l+7),0):=by
  obtain ⟨h7,hb⟩:=d1_f h
  obtain ⟨g2,e,g3,g4⟩:=d2_f hp h h2
  have a3:=hp.1.rd (i:=3) (by omega) (by omega)
  have a4:=hp.1.rd (i:=4) (by omega) (by omega)
  have hl : lookR l = (rd l 3, rd l 4, (l.take (5 + L l).toNat).drop 5, 7 + L l, true) := by
    unfold begins at hb
    unfold lookR at hb ⊢
    rw [if_neg (by omega)] at hb ⊢
    split at hb
    · cases hb
    · rename_i h1
      rw [if_neg h1]
      split at hb
      · cases hb
      · rename_i h2
        rw [if_neg h2]
        split at hb
        · cases hb
        · rename_i h3
          rw [if_neg h3,if_neg (by omega)]
          rw [if_neg (by omega)] at hb
          split at hb
          · cases hb
          · rename_i h5;rw [if_neg h5]
  unfold decR
  rw [hl,if_neg (by simp;omega)]
  unfold plL
  rw [e,wid a3.1 (by omega),wid a4.1 (by omega),wid (n:=L l+5) (by omega) (by omega),wid (n:=L l+7) (by omega) (by omega),show L l+5=5+L l by omega,show L l+7=7+L l by omega]
  rfl
theorem dn_n {l:List Int} (hp:BytesL l) (h:d1 l=false) (h2:d2 l=false):(decR l).2.2.2.1≠0:=by
  obtain ⟨g2,e,g3,g4⟩:=d2_f hp h h2
  rw [dn_ hp h h2]
  show W (n1 l+7)≠0
  rw [e,wid (by omega) (by omega)];omega
theorem ixd {l:List Int} {k:Int} (h:d1 l=false) (hk:k<7):k<(l.length:Int):=by have:=(d1_f h).1;omega
theorem sided {l:List Int} (hp:BytesL l) (h:d1 l=false) (h2:d2 l=false):(5≤W (n1 l+5)∧W (n1 l+5)≤(l.length:Int))∧(plL l).length≤1000000:=by
  obtain ⟨g2,e,g3,g4⟩:=d2_f hp h h2
  rw [e,wid (by omega) (by omega)]
  refine ⟨⟨by omega,by omega⟩,?_⟩
  have:=hp.2
  simp only [plL,List.length_drop,List.length_take];omega
abbrev rZ:CR := .tv (.tup [(true,[i64 0,i64 0,nilA]),(false,[i64 0])])
abbrev rD (l:List Int):CR := .tv (.tup [(true,[i64 (decR l).1,i64 (decR l).2.1,.fs 5 .u8 (decR l).2.2.1]),(false,[i64 (decR l).2.2.2.1])])
theorem rD_eq {l:List Int} {a b n e:Int} {m:List Int} (h:decR l=(a,b,m,n,e)):CR.tv (.tup [(true,[i64 a,i64 b,.fs 5 .u8 m]),(false,[i64 n])])=rD l:=by rw [rD,h]
theorem dec_z {l:List Int} (hp:BytesL l) (hz:(decR l).2.2.2.1=0) {us:List Value} {w:World} (ha:All2 (TV.reads (fun _=>0) w.heap.size w) [.sc (.sl .u8 l)] us):Ret Try.prog 35 us.toArray w (rZ):=by
      refine fn_ret (cxOk Try.prog ints_ok [] [cBeginsR,cCopy]) follows Try.func35 rfl 100 _ rfl (by simp) ?_ ha
      repeat' first
        | exact trivial
        | (refine And.intro (show regChk _ _ _ _ _=true from by kernel_rfl) (And.intro ?_ ?_))
        | (refine And.intro (fun _=>?_) (fun h=>absurd (show true=false from h) (by decide)))
        | (refine And.intro (fun h=>absurd (show false=true from h) (by decide)) (fun _=>?_))
        | (refine And.intro (fun hb=>?_) (fun hb'=>?_))
        | refine And.intro ?_ ?_
        | intro _
      all_goals first
        | (show some rZ=some rZ;rfl)
        | (show some rZ=some (rD _);exfalso;first|exact hz (dz_1 hp (by assumption))|exact hz (dz_2 hp (by assumption) (by assumption)))
        | (show some (CR.tv (TV.tup _))=some (rD _);refine congrArg some ?_;exact rD_eq (dn_ hp (by assumption) (by assumption)))
        | (show some (CR.tv (TV.tup _))=some rZ;exfalso;exact dn_n hp (by assumption) (by assumption) hz)
        | (show BytesL _;exact hp)
        | (show (_:Int)<((List.length _:Nat):Int);exact ixd (by assumption) (by decide))
        | (show (5:Int)≤W _;exact (sided hp (by assumption) (by assumption)).1.1)
        | (show (_:Int)≤((List.length _:Nat):Int);exact (sided hp (by assumption) (by assumption)).1.2)
        | (show List.length _≤1000000;exact (sided hp (by assumption) (by assumption)).2)
        | (show (0:Int)≤_;decide)
        | (show (_:Bool)=(_:Bool);first|assumption|exact gB (by assumption)|exact bq (by assumption)|rfl)
        -- PVC
theorem dec_n {l:List Int} (hp:BytesL l) (hz:(decR l).2.2.2.1≠0) {us:List Value} {w:World} (ha:All2 (TV.reads (fun _=>0) w.heap.size w) [.sc (.sl .u8 l)] us):Ret Try.prog 35 us.toArray w (rD l):=by
      refine fn_ret (cxOk Try.prog ints_ok [] [cBeginsR,cCopy]) follows Try.func35 rfl 100 _ rfl (by simp) ?_ ha
      repeat' first
        | exact trivial
        | (refine And.intro (show regChk _ _ _ _ _=true from by kernel_rfl) (And.intro ?_ ?_))
        | (refine And.intro (fun _=>?_) (fun h=>absurd (show true=false from h) (by decide)))
        | (refine And.intro (fun h=>absurd (show false=true from h) (by decide)) (fun _=>?_))
        | (refine And.intro (fun hb=>?_) (fun hb'=>?_))
        | refine And.intro ?_ ?_
        | intro _
      all_goals first
        | (show some rZ=some rZ;rfl)
        | (show some rZ=some (rD _);exfalso;first|exact hz (dz_1 hp (by assumption))|exact hz (dz_2 hp (by assumption) (by assumption)))
        | (show some (CR.tv (TV.tup _))=some (rD _);refine congrArg some ?_;exact rD_eq (dn_ hp (by assumption) (by assumption)))
        | (show some (CR.tv (TV.tup _))=some rZ;exfalso;exact dn_n hp (by assumption) (by assumption) hz)
        | (show BytesL _;exact hp)
        | (show (_:Int)<((List.length _:Nat):Int);exact ixd (by assumption) (by decide))
        | (show (5:Int)≤W _;exact (sided hp (by assumption) (by assumption)).1.1)
        | (show (_:Int)≤((List.length _:Nat):Int);exact (sided hp (by assumption) (by assumption)).1.2)
        | (show List.length _≤1000000;exact (sided hp (by assumption) (by assumption)).2)
        | (show (0:Int)≤_;decide)
        | (show (_:Bool)=(_:Bool);first|assumption|exact gB (by assumption)|exact bq (by assumption)|rfl)
        -- PVC
def cDecR : Con Try.prog where
  f:=35
  sem:=fun xs=>match xs with
    | [.sc (.sl .u8 l)]=>some (BytesL l,rD l)
    | _=>none
  ok := by
    intro xs p r h hp
    refine ⟨⟨_,Try.func35,by kernel_rfl,rfl⟩,fun us w ha=>?_⟩
    split at h
    · rename_i l
      cases h
      by_cases hz:(decR l).2.2.2.1=0
      · refine (dec_z hp hz ha).mono ?_
        rintro e w' ⟨u,he,⟨us1,rfl,h1⟩,hB⟩
        refine ⟨_,he,⟨us1,rfl,?_⟩,hB⟩
        rw [decR_zero hz]
        cases h1 with
        | cons h1 h2 =>
          obtain ⟨us2,rfl,h3⟩:=h1
          obtain ⟨x,y,z,rfl,hx,hy,hz⟩:=all2_3 h3
          refine .cons ⟨_,rfl,.cons hx (.cons hy (.cons ?_ .nil))⟩ h2
          rw [show z=_ from hz]
          exact fs_told (Kd.R_nil _ _ _ _ _)
      · exact dec_n hp hz ha
    · cases h
theorem enc_1:(encR 1 3 []).2=0∧(encR 1 3 []).1.length=7∧rd (encR 1 3 []).1 0=126:=by
  unfold encR
  rw [if_pos (by decide)]
  refine ⟨rfl,?_,rfl⟩
  simp [encF,bodyF]
def cWakes:Con Try.prog where
  f:=39
  sem:=fun xs=>match xs with
    | []=>some (True,.tv (tB true))
    | _=>none
  ok := by
    intro xs p r' h hp
    refine ⟨⟨_,Try.func39,by kernel_rfl,rfl⟩,fun us w ha=>?_⟩
    split at h
    · skip
      cases h
      refine fn_ret (cxOk Try.prog ints_ok [] [cEnc,cNum]) follows Try.func39 rfl 100 _ rfl (by simp) ?_ ha
      repeat' first
        | exact trivial
        | (refine And.intro (show regChk _ _ _ _ _=true from by kernel_rfl) (And.intro ?_ ?_))
        | (refine And.intro (fun _=>?_) (fun h=>absurd (show true=false from h) (by decide)))
        | (refine And.intro (fun h=>absurd (show false=true from h) (by decide)) (fun _=>?_))
        | (refine And.intro (fun hb=>?_) (fun hb'=>?_))
        | refine And.intro ?_ ?_
        | intro _
      all_goals first
        | (show BytesL _;exact bytesNil)
        | (show (0:Int)≤_;decide)
        | (show (_:Int)<((List.length _:Nat):Int);rw [enc_1.2.1];decide)
        | (show some (CR.tv (tB _))=some (CR.tv (tB true));refine congrArg (fun b=>some (CR.tv (tB b))) ?_;rw [enc_1.1,enc_1.2.1,enc_1.2.2];rfl)
        | (show (_:Bool)=(_:Bool);first|assumption|exact beq_iff_eq.2 (by assumption)|(exact and_tt (by first|assumption|exact beq_iff_eq.2 (by assumption)) (by first|assumption|exact beq_iff_eq.2 (by assumption))))
        | (show (_:Nat)=(_:Nat);rfl)
        | (show (_:Nat)≤1000;decide)
        | (show (_:Int)=(_:Int);rfl)
        | (show (_:Int)≤_;decide)
        | (show (_:Int)<_;decide)
        -- PVC
    · cases h
end
end Go.Proofs.Ytaeabemipnbgbaa.PFr
end
section
set_option linter.unusedVariables false
set_option linter.unusedSimpArgs false
namespace Go.Proofs.Ytaeabemipnbgbaa.PFr
open Go RowKit Ytaeabemipnbgbaa.QFr YtaeabemipnbgbaaW.PrintWords YtaeabemipnbgbaaW.PrintMore YtaeabemipnbgbaaW.Aid YtaeabemipnbgbaaW.Big YtaeabemipnbgbaaW.Sx Go.Proofs
theorem encR_t {a b:Int} {l:List Int} (h:mayF a b l=true):encR a b l=(encF a b l,0):=by unfold encR;rw [if_pos h]
theorem encR_f {a b:Int} {l:List Int} (h:mayF a b l=false):encR a b l=([],1):=by unfold encR;rw [if_neg (by rw [h];exact Bool.false_ne_true)]
theorem an {a b:Bool} (h:a=true) (h':b=true):(a&&b)=true:=by rw [h,h'];rfl
theorem bt {b:Bool} (h:b=true):(b == true)=true:=by rw [h];rfl
theorem eqF_self (a b:Int) (l:List Int):eqF a b l a b l=true:=by unfold eqF;simp
theorem nt {b:Bool} (h:(!b)=false):b=true:=by cases b with
  | true=>rfl
  | false=>cases h
theorem nf {b:Bool} (h:(!b)=true):b=false:=by cases b with
  | false=>rfl
  | true=>cases h
theorem no {b:Bool} (h:b=false) (h':b=true):False:=by rw [h] at h';cases h'
theorem encR_len {a b:Int} {l:List Int} (h:BytesL l):(encR a b l).1.length≤1000000:=by
  unfold encR
  split
  · have:=h.n;simp [encF,bodyF];omega
  · exact Nat.zero_le _
theorem decR_len {l:List Int} (h:BytesL l):(decR l).2.2.1.length≤1000000:=by
  by_cases hz:(decR l).2.2.2.1=0
  · rw [decR_zero hz];exact Nat.zero_le _
  · have hl:(lookR l).2.2.2.1≠0:=fun e=>hz (by unfold decR;rw [if_pos e])
    obtain ⟨_,_,_,_,e⟩:=look_n h hl
    unfold decR
    rw [if_neg hl,e]
    have:=h.n
    simp only [List.length_drop,List.length_take];omega
theorem heavy_f {l m:List Int} (h:(bif decide ((l.length:Int)>2000) then true else decide ((m.length:Int)>2000))=false):l.length≤2000∧m.length≤2000:=by
  by_cases h1:(l.length:Int)>2000
  · rw [decide_eq_true h1] at h;cases h
  · rw [decide_eq_false h1] at h
    have:=of_decide_eq_false h
    exact ⟨by omega,by omega⟩
theorem ts22 {e n:Int} (h:(n=0∧e=1)∨(0<n∧e=0)) {x:Bool} (hx:x=true) (y:Bool):(bif bif bif bif !((e == 0) == decide (n>0)) then true else bif n == 0 then e != 1 else false then true else n != n then true else !x then true else !(y == y))=false:=by
  subst hx
  rcases h with ⟨rfl,rfl⟩|⟨h1,rfl⟩
  · simp
  · have h2:(n == 0)=false:=by simp;omega
    rw [decide_eq_true h1,h2];simp
theorem dec_ne {m:List Int} (hm:BytesL m):((decR m).2.2.2.1=0∧(decR m).2.2.2.2=1)∨(0<(decR m).2.2.2.1∧(decR m).2.2.2.2=0):=by
  by_cases hz:(decR m).2.2.2.1=0
  · left;rw [decR_zero hz];exact ⟨rfl,rfl⟩
  · right
    have hl:(lookR m).2.2.2.1≠0:=fun e=>hz (by unfold decR;rw [if_pos e])
    obtain ⟨_,h2,_,_,e⟩:=look_n hm hl
    have:=L_bd hm h2
    unfold decR
    rw [if_neg hl,e]
    exact ⟨by show (0:Int)<7+L m;omega,rfl⟩
theorem ts_t {a b:Int} {l:List Int} (h:mayF a b l=true):(bif bif (encR a b l).2 != 0 then true else !decide ((encR a b l).1=encF a b l) then true else !eqF a b l a b l)=false:=by
  rw [encR_t h,eqF_self];simp
theorem ts_f {a b:Int} {l:List Int} (h:mayF a b l=false):(bif bif (encR a b l).2 != 1 then true else !decide ((encR a b l).1=[]) then true else !eqF a b l a b l)=false:=by
  rw [encR_f h,eqF_self];simp
section
set_option maxRecDepth 100000
set_option maxHeartbeats 8000000
theorem z8 (n:Nat) (row:Nat→List A0) (hrow:∀ j,(row j).all A0.safe=true) (v a b:Int) (l m:List Int) (hl:BytesL l) (hm:BytesL m) {c:Code} (hc:bodyAt Try.f5 [true,false,true,true,true,true,false,true,true,true,true,true,true,true,true,true,true,true,true,true,true,true,true]=some c) (base:Nat) (w0:World) (ke:Nat→St→Prop):SpecC Try.prog Try.f5.ntmps base w0 c (fun s=>leG s [(0,.rowF n 4 row),(3,tI v)]∧leB s []) ke (fun s=>resCR (cxOf Try.prog [] [] [cHeavy,cMayF,cEncRef,cCopyF,cEnc,cNum,cEqB,cEqF,cDecR,cCopy,cDec,cBegins,cBeginsR,cWakes]) Try.f5.results.toList s=some (.tv (tB true))) (stB [(0,.rowF n 4 row),(3,tI v),(4,.ptr 4 0),(12,.sc (.os .u8 m))] [(4,56,[i64 a,i64 b,.os .u8 l,.os .u8 m])]):=by
  refine spec_of hc rfl ?_
  refine spec_vcd (cxOk Try.prog ints_ok [] [cHeavy,cMayF,cEncRef,cCopyF,cEnc,cNum,cEqB,cEqF,cDecR,cCopy,cDec,cBegins,cBeginsR,cWakes]) follows [] 60 ?_
  repeat' first
    | exact trivial
    | (refine And.intro (show regChk _ _ _ _ _=true from by kernel_rfl) (And.intro ?_ ?_))
    | (refine And.intro (fun _=>?_) (fun h=>absurd (show true=false from h) (by decide)))
    | (refine And.intro (fun h=>absurd (show false=true from h) (by decide)) (fun _=>?_))
    | (refine And.intro (fun hb=>?_) (fun hb'=>?_))
    | refine And.intro ?_ ?_
    | intro _
  all_goals first
    | (show some (CR.tv (tB false))=some (CR.tv (tB true));exfalso;exact no (by simp) hb)
    | (show BytesL _;first|exact hl|exact hm)
    | (show List.length _≤1000000;first|exact encR_len hl|exact decR_len hm|(have:=hl.n;have:=hm.n;omega)|exact Nat.zero_le _)
    | (show (_:Option TV)=_;rfl)
    | (show (_:Option A0)=_;rfl)
    | (show (_:Option TypeId)=_;rfl)
    | (show True;trivial)
    | (show (_:Bool)=(_:Bool);first|assumption|exact gB (by assumption)|exact bq (by assumption)|exact bt (by assumption)|(exact an (by first|assumption|exact bq (by assumption)) (by first|assumption|exact bt (by assumption)))|rfl)
    | (show _=_;rfl)
    -- PVC
theorem z7 (n:Nat) (row:Nat→List A0) (hrow:∀ j,(row j).all A0.safe=true) (v a b:Int) (l m:List Int) (hl:BytesL l) (hm:BytesL m) {c:Code} (hc:bodyAt Try.f5 [true,false,true,true,true,true,false,true,true,true,true,true,true,true,true,true,true,true,true,true,true,true]=some c) (base:Nat) (w0:World) (ke:Nat→St→Prop):SpecC Try.prog Try.f5.ntmps base w0 c (fun s=>leG s [(0,.rowF n 4 row),(3,tI v)]∧leB s []) ke (fun s=>resCR (cxOf Try.prog [] [] [cHeavy,cMayF,cEncRef,cCopyF,cEnc,cNum,cEqB,cEqF,cDecR,cCopy,cDec,cBegins,cBeginsR,cWakes]) Try.f5.results.toList s=some (.tv (tB true))) (stB [(0,.rowF n 4 row),(3,tI v),(4,.ptr 4 0),(12,.sc (.os .u8 m)),(13,.ptr 13 0)] [(4,56,[i64 a,i64 b,.os .u8 l,.os .u8 m]),(13,54,[i64 (decR m).1,i64 (decR m).2.1,.fs 5 .u8 (decR m).2.2.1])]):=by
  refine spec_of hc rfl ?_
  refine spec_seq (kx:=fun s=>leG s [(0,.rowF n 4 row),(3,tI v),(4,.ptr 4 0),(12,.sc (.os .u8 m))]∧leB s [(4,56,[i64 a,i64 b,.os .u8 l,.os .u8 m])]) ?_ (fun s' hk=>spec_le hk.1 hk.2 rfl (z8 n row hrow v a b l m hl hm rfl base w0 ke))
  refine spec_killK (cxOk Try.prog ints_ok [] [cHeavy,cMayF,cEncRef,cCopyF,cEnc,cNum,cEqB,cEqF,cDecR,cCopy,cDec,cBegins,cBeginsR,cWakes]) kBytes 2 _ rfl rfl _ _ _ rfl rfl rfl (by kernel_rfl) _ _ rfl ?_ _ rfl ?_ [(0,.rowF n 4 row),(3,tI v),(4,.ptr 4 0),(12,.sc (.os .u8 m))] [(4,56,[i64 a,i64 b,.os .u8 l,.os .u8 m])] ?_ ?_ rfl ?_ ?_ rfl ?_
  · exact ⟨trivial,trivial,trivial⟩
  · exact decR_len hm
  · exact ⟨rfl,rfl,rfl,rfl,trivial⟩
  · exact ⟨rfl,⟨rfl,rfl,rfl,rfl,trivial⟩,trivial⟩
  · intro p hp
    simp only [List.mem_cons,List.not_mem_nil,or_false] at hp
    rcases hp with rfl|rfl|rfl|rfl
    · exact hrow
    · rfl
    · trivial
    · rfl
  · intro p hp
    simp only [List.mem_cons,List.not_mem_nil,or_false] at hp
    rcases hp with rfl
    rfl
  · exact ⟨⟨rfl,rfl,rfl,rfl,trivial⟩,⟨rfl,⟨rfl,rfl,rfl,rfl,trivial⟩,trivial⟩⟩
theorem z6 (n:Nat) (row:Nat→List A0) (hrow:∀ j,(row j).all A0.safe=true) (v a b:Int) (l m:List Int) (hl:BytesL l) (hm:BytesL m) {c:Code} (hc:bodyAt Try.f5 [true,false,true,true,true,true,false,true,true,true,true,true,true,true,true,true,true,true,true,true]=some c) (base:Nat) (w0:World) (ke:Nat→St→Prop):SpecC Try.prog Try.f5.ntmps base w0 c (fun s=>leG s [(0,.rowF n 4 row),(3,tI v)]∧leB s []) ke (fun s=>resCR (cxOf Try.prog [] [] [cHeavy,cMayF,cEncRef,cCopyF,cEnc,cNum,cEqB,cEqF,cDecR,cCopy,cDec,cBegins,cBeginsR,cWakes]) Try.f5.results.toList s=some (.tv (tB true))) (stB [(0,.rowF n 4 row),(3,tI v),(4,.ptr 4 0),(10,.ptr 10 0),(11,tI (decR m).2.2.2.1),(12,.sc (.os .u8 m))] [(4,56,[i64 a,i64 b,.os .u8 l,.os .u8 m]),(10,54,[i64 (decR m).1,i64 (decR m).2.1,.os .u8 (decR m).2.2.1])]):=by
  refine spec_of hc rfl ?_
  refine spec_vch (kx:=fun s=>leG s [(0,.rowF n 4 row),(3,tI v),(4,.ptr 4 0),(12,.sc (.os .u8 m)),(13,.ptr 13 0)]∧leB s [(4,56,[i64 a,i64 b,.os .u8 l,.os .u8 m]),(13,54,[i64 (decR m).1,i64 (decR m).2.1,.fs 5 .u8 (decR m).2.2.1])]) (cxOk Try.prog ints_ok [] [cHeavy,cMayF,cEncRef,cCopyF,cEnc,cNum,cEqB,cEqF,cDecR,cCopy,cDec,cBegins,cBeginsR,cWakes]) follows [] 60 2 _ _ ?_ (fun s' hk=>?_)
  · skip
    repeat' first
      | exact trivial
      | (refine And.intro (show regChk _ _ _ _ _=true from by kernel_rfl) (And.intro ?_ ?_))
      | (refine And.intro (fun _=>?_) (fun h=>absurd (show true=false from h) (by decide)))
      | (refine And.intro (fun h=>absurd (show false=true from h) (by decide)) (fun _=>?_))
      | (refine And.intro (fun hb=>?_) (fun hb'=>?_))
      | refine And.intro ?_ ?_
      | intro _
    all_goals first
      | (show some (CR.tv (tB false))=some (CR.tv (tB true));exfalso;exact no (ts22 (dec_ne hm) (eqF_self _ _ _) _) hb)
      | (show BytesL _;first|exact hl|exact hm)
      | (show List.length _≤1000000;first|exact encR_len hl|exact decR_len hm|(have:=hl.n;have:=hm.n;omega)|exact Nat.zero_le _)
      | (show (_:Option TV)=_;rfl)
      | (show (_:Option A0)=_;rfl)
      | (show (_:Option TypeId)=_;rfl)
      | (show True;trivial)
      | (show (_:Bool)=(_:Bool);first|assumption|exact gB (by assumption)|exact bq (by assumption)|exact bt (by assumption)|(exact an (by first|assumption|exact bq (by assumption)) (by first|assumption|exact bt (by assumption)))|rfl)
      | (show _=_;rfl)
      -- PVC
  · exact spec_le hk.1 hk.2 rfl (z7 n row hrow v a b l m hl hm rfl base w0 ke)
theorem z5 (n:Nat) (row:Nat→List A0) (hrow:∀ j,(row j).all A0.safe=true) (v a b:Int) (l m:List Int) (hl:BytesL l) (hm:BytesL m) {c:Code} (hc:bodyAt Try.f5 [true,false,true,true,true,true,false,true,true,true,true,true,true,true,true,true,true]=some c) (base:Nat) (w0:World) (ke:Nat→St→Prop):SpecC Try.prog Try.f5.ntmps base w0 c (fun s=>leG s [(0,.rowF n 4 row),(3,tI v)]∧leB s []) ke (fun s=>resCR (cxOf Try.prog [] [] [cHeavy,cMayF,cEncRef,cCopyF,cEnc,cNum,cEqB,cEqF,cDecR,cCopy,cDec,cBegins,cBeginsR,cWakes]) Try.f5.results.toList s=some (.tv (tB true))) (stB [(0,.rowF n 4 row),(3,tI v),(4,.ptr 4 0),(7,.ptr 7 0)] [(4,56,[i64 a,i64 b,.os .u8 l,.os .u8 m]),(7,54,[i64 a,i64 b,.os .u8 l])]):=by
  refine spec_of hc rfl ?_
  refine spec_vch (kx:=fun s=>leG s [(0,.rowF n 4 row),(3,tI v),(4,.ptr 4 0),(10,.ptr 10 0),(11,tI (decR m).2.2.2.1),(12,.sc (.fs 5 .u8 m))]∧leB s [(4,56,[i64 a,i64 b,.os .u8 l,.os .u8 m]),(10,54,[i64 (decR m).1,i64 (decR m).2.1,.fs 5 .u8 (decR m).2.2.1])]) (cxOk Try.prog ints_ok [] [cHeavy,cMayF,cEncRef,cCopyF,cEnc,cNum,cEqB,cEqF,cDecR,cCopy,cDec,cBegins,cBeginsR,cWakes]) follows [] 60 3 _ _ ?_ (fun s' hk=>?_)
  · skip
    repeat' first
      | exact trivial
      | (refine And.intro (show regChk _ _ _ _ _=true from by kernel_rfl) (And.intro ?_ ?_))
      | (refine And.intro (fun _=>?_) (fun h=>absurd (show true=false from h) (by decide)))
      | (refine And.intro (fun h=>absurd (show false=true from h) (by decide)) (fun _=>?_))
      | (refine And.intro (fun hb=>?_) (fun hb'=>?_))
      | refine And.intro ?_ ?_
      | intro _
    all_goals first
      | (show some (CR.tv (tB false))=some (CR.tv (tB true));exfalso;exact no (by rw [eqF_self];rfl) hb)
      | (show BytesL _;first|exact hl|exact hm)
      | (show List.length _≤1000000;first|exact encR_len hl|exact decR_len hm|(have:=hl.n;have:=hm.n;omega)|exact Nat.zero_le _)
      | (show (_:Option TV)=_;rfl)
      | (show (_:Option A0)=_;rfl)
      | (show (_:Option TypeId)=_;rfl)
      | (show True;trivial)
      | (show (_:Bool)=(_:Bool);first|assumption|exact gB (by assumption)|exact bq (by assumption)|exact bt (by assumption)|(exact an (by first|assumption|exact bq (by assumption)) (by first|assumption|exact bt (by assumption)))|rfl)
      | (show _=_;rfl)
      -- PVC
  · exact spec_le hk.1 hk.2 rfl (spec_era rfl rfl (z6 n row hrow v a b l m hl hm rfl base w0 ke))
theorem z4 (n:Nat) (row:Nat→List A0) (hrow:∀ j,(row j).all A0.safe=true) (v a b:Int) (l m:List Int) (hl:BytesL l) (hm:BytesL m) {c:Code} (hc:bodyAt Try.f5 [true,false,true,true,true,true,false,true,true,true,true,true,true,true,true,true]=some c) (base:Nat) (w0:World) (ke:Nat→St→Prop):SpecC Try.prog Try.f5.ntmps base w0 c (fun s=>leG s [(0,.rowF n 4 row),(3,tI v)]∧leB s []) ke (fun s=>resCR (cxOf Try.prog [] [] [cHeavy,cMayF,cEncRef,cCopyF,cEnc,cNum,cEqB,cEqF,cDecR,cCopy,cDec,cBegins,cBeginsR,cWakes]) Try.f5.results.toList s=some (.tv (tB true))) (stB [(0,.rowF n 4 row),(3,tI v),(4,.ptr 4 0),(7,.ptr 7 0),(8,.sc (.fs 5 .u8 (encR a b l).1))] [(4,56,[i64 a,i64 b,.os .u8 l,.os .u8 m]),(7,54,[i64 a,i64 b,.os .u8 l])]):=by
  refine spec_of hc rfl ?_
  refine spec_seq (kx:=fun s=>leG s [(0,.rowF n 4 row),(3,tI v),(4,.ptr 4 0),(7,.ptr 7 0)]∧leB s [(4,56,[i64 a,i64 b,.os .u8 l,.os .u8 m]),(7,54,[i64 a,i64 b,.os .u8 l])]) ?_ (fun s' hk=>spec_le hk.1 hk.2 rfl (z5 n row hrow v a b l m hl hm rfl base w0 ke))
  refine spec_killK (cxOk Try.prog ints_ok [] [cHeavy,cMayF,cEncRef,cCopyF,cEnc,cNum,cEqB,cEqF,cDecR,cCopy,cDec,cBegins,cBeginsR,cWakes]) kBytes 1 _ rfl rfl _ _ _ rfl rfl rfl (by kernel_rfl) _ _ rfl ?_ _ rfl ?_ [(0,.rowF n 4 row),(3,tI v),(4,.ptr 4 0),(7,.ptr 7 0)] [(4,56,[i64 a,i64 b,.os .u8 l,.os .u8 m]),(7,54,[i64 a,i64 b,.os .u8 l])] ?_ ?_ rfl ?_ ?_ rfl ?_
  · exact ⟨trivial,trivial⟩
  · exact encR_len hl
  · exact ⟨rfl,rfl,rfl,rfl,trivial⟩
  · exact ⟨rfl,⟨rfl,rfl,rfl,rfl,trivial⟩,rfl,⟨rfl,rfl,rfl,trivial⟩,trivial⟩
  · intro p hp
    simp only [List.mem_cons,List.not_mem_nil,or_false] at hp
    rcases hp with rfl|rfl|rfl|rfl
    · exact hrow
    · rfl
    · trivial
    · trivial
  · intro p hp
    simp only [List.mem_cons,List.not_mem_nil,or_false] at hp
    rcases hp with rfl|rfl<;>rfl
  · exact ⟨⟨rfl,rfl,rfl,rfl,trivial⟩,⟨rfl,⟨rfl,rfl,rfl,rfl,trivial⟩,rfl,⟨rfl,rfl,rfl,trivial⟩,trivial⟩⟩
theorem z3t (n:Nat) (row:Nat→List A0) (hrow:∀ j,(row j).all A0.safe=true) (v a b:Int) (l m:List Int) (hl:BytesL l) (hm:BytesL m) (hmay:mayF a b l=true) {c:Code} (hc:bodyAt Try.f5 [true,false,true,true,true,true,false,true,true,true,true,true,true,true]=some c) (base:Nat) (w0:World) (ke:Nat→St→Prop):SpecC Try.prog Try.f5.ntmps base w0 c (fun s=>leG s [(0,.rowF n 4 row),(3,tI v)]∧leB s []) ke (fun s=>resCR (cxOf Try.prog [] [] [cHeavy,cMayF,cEncRef,cCopyF,cEnc,cNum,cEqB,cEqF,cDecR,cCopy,cDec,cBegins,cBeginsR,cWakes]) Try.f5.results.toList s=some (.tv (tB true))) (stB [(0,.rowF n 4 row),(3,tI v),(4,.ptr 4 0),(7,.ptr 7 0),(5,tI 0),(6,.sc (.os .u8 (encF a b l)))] [(4,56,[i64 a,i64 b,.os .u8 l,.os .u8 m]),(7,54,[i64 a,i64 b,.os .u8 l])]):=by
  refine spec_of hc rfl ?_
  refine spec_vch (kx:=fun s=>leG s [(0,.rowF n 4 row),(3,tI v),(4,.ptr 4 0),(7,.ptr 7 0),(8,.sc (.fs 5 .u8 (encR a b l).1))]∧leB s [(4,56,[i64 a,i64 b,.os .u8 l,.os .u8 m]),(7,54,[i64 a,i64 b,.os .u8 l])]) (cxOk Try.prog ints_ok [] [cHeavy,cMayF,cEncRef,cCopyF,cEnc,cNum,cEqB,cEqF,cDecR,cCopy,cDec,cBegins,cBeginsR,cWakes]) follows [] 60 2 _ _ ?_ (fun s' hk=>?_)
  · skip
    repeat' first
      | exact trivial
      | (refine And.intro (show regChk _ _ _ _ _=true from by kernel_rfl) (And.intro ?_ ?_))
      | (refine And.intro (fun _=>?_) (fun h=>absurd (show true=false from h) (by decide)))
      | (refine And.intro (fun h=>absurd (show false=true from h) (by decide)) (fun _=>?_))
      | (refine And.intro (fun hb=>?_) (fun hb'=>?_))
      | refine And.intro ?_ ?_
      | intro _
    all_goals first
      | (show some (CR.tv (tB false))=some (CR.tv (tB true));exfalso;exact no (ts_t hmay) hb)
      | (show BytesL _;first|exact hl|exact hm)
      | (show List.length _≤1000000;first|exact encR_len hl|exact decR_len hm|(have:=hl.n;have:=hm.n;omega)|exact Nat.zero_le _)
      | (show (_:Option TV)=_;rfl)
      | (show (_:Option A0)=_;rfl)
      | (show (_:Option TypeId)=_;rfl)
      | (show True;trivial)
      | (show (_:Bool)=(_:Bool);first|assumption|exact gB (by assumption)|exact bq (by assumption)|exact bt (by assumption)|(exact an (by first|assumption|exact bq (by assumption)) (by first|assumption|exact bt (by assumption)))|rfl)
      | (show _=_;rfl)
      -- PVC
  · exact spec_le hk.1 hk.2 rfl (z4 n row hrow v a b l m hl hm rfl base w0 ke)
theorem z3f (n:Nat) (row:Nat→List A0) (hrow:∀ j,(row j).all A0.safe=true) (v a b:Int) (l m:List Int) (hl:BytesL l) (hm:BytesL m) (hmay:mayF a b l=false) {c:Code} (hc:bodyAt Try.f5 [true,false,true,true,true,true,false,true,true,true,true,true,true,true]=some c) (base:Nat) (w0:World) (ke:Nat→St→Prop):SpecC Try.prog Try.f5.ntmps base w0 c (fun s=>leG s [(0,.rowF n 4 row),(3,tI v)]∧leB s []) ke (fun s=>resCR (cxOf Try.prog [] [] [cHeavy,cMayF,cEncRef,cCopyF,cEnc,cNum,cEqB,cEqF,cDecR,cCopy,cDec,cBegins,cBeginsR,cWakes]) Try.f5.results.toList s=some (.tv (tB true))) (stB [(0,.rowF n 4 row),(3,tI v),(4,.ptr 4 0),(7,.ptr 7 0),(5,tI 1),(6,.sc (nilA))] [(4,56,[i64 a,i64 b,.os .u8 l,.os .u8 m]),(7,54,[i64 a,i64 b,.os .u8 l])]):=by
  refine spec_of hc rfl ?_
  refine spec_vch (kx:=fun s=>leG s [(0,.rowF n 4 row),(3,tI v),(4,.ptr 4 0),(7,.ptr 7 0),(8,.sc (.fs 5 .u8 (encR a b l).1))]∧leB s [(4,56,[i64 a,i64 b,.os .u8 l,.os .u8 m]),(7,54,[i64 a,i64 b,.os .u8 l])]) (cxOk Try.prog ints_ok [] [cHeavy,cMayF,cEncRef,cCopyF,cEnc,cNum,cEqB,cEqF,cDecR,cCopy,cDec,cBegins,cBeginsR,cWakes]) follows [] 60 2 _ _ ?_ (fun s' hk=>?_)
  · skip
    repeat' first
      | exact trivial
      | (refine And.intro (show regChk _ _ _ _ _=true from by kernel_rfl) (And.intro ?_ ?_))
      | (refine And.intro (fun _=>?_) (fun h=>absurd (show true=false from h) (by decide)))
      | (refine And.intro (fun h=>absurd (show false=true from h) (by decide)) (fun _=>?_))
      | (refine And.intro (fun hb=>?_) (fun hb'=>?_))
      | refine And.intro ?_ ?_
      | intro _
    all_goals first
      | (show some (CR.tv (tB false))=some (CR.tv (tB true));exfalso;exact no (ts_f hmay) hb)
      | (show BytesL _;first|exact hl|exact hm)
      | (show List.length _≤1000000;first|exact encR_len hl|exact decR_len hm|(have:=hl.n;have:=hm.n;omega)|exact Nat.zero_le _)
      | (show (_:Option TV)=_;rfl)
      | (show (_:Option A0)=_;rfl)
      | (show (_:Option TypeId)=_;rfl)
      | (show True;trivial)
      | (show (_:Bool)=(_:Bool);first|assumption|exact gB (by assumption)|exact bq (by assumption)|exact bt (by assumption)|(exact an (by first|assumption|exact bq (by assumption)) (by first|assumption|exact bt (by assumption)))|rfl)
      | (show _=_;rfl)
      -- PVC
  · exact spec_le hk.1 hk.2 rfl (z4 n row hrow v a b l m hl hm rfl base w0 ke)
theorem z2 (n:Nat) (row:Nat→List A0) (hrow:∀ j,(row j).all A0.safe=true) (v a b:Int) (l m:List Int) (hl:BytesL l) (hm:BytesL m) {c:Code} (hc:bodyAt Try.f5 [true,false,true,true,true,true,false,true,true,true]=some c) (base:Nat) (w0:World) (ke:Nat→St→Prop):SpecC Try.prog Try.f5.ntmps base w0 c (fun s=>leG s [(0,.rowF n 4 row),(3,tI v)]∧leB s []) ke (fun s=>resCR (cxOf Try.prog [] [] [cHeavy,cMayF,cEncRef,cCopyF,cEnc,cNum,cEqB,cEqF,cDecR,cCopy,cDec,cBegins,cBeginsR,cWakes]) Try.f5.results.toList s=some (.tv (tB true))) (stB [(0,.rowF n 4 row),(3,tI v),(4,.ptr 4 0)] [(4,56,[i64 a,i64 b,.os .u8 l,.os .u8 m])]):=by
  refine spec_of hc rfl ?_
  refine spec_vch (kx:=fun s=>(mayF a b l=true∧leG s [(0,.rowF n 4 row),(3,tI v),(4,.ptr 4 0),(7,.ptr 7 0),(5,tI 0),(6,.sc (.fs 5 .u8 (encF a b l)))]∧leB s [(4,56,[i64 a,i64 b,.os .u8 l,.os .u8 m]),(7,54,[i64 a,i64 b,.fs 5 .u8 l])])∨(mayF a b l=false∧leG s [(0,.rowF n 4 row),(3,tI v),(4,.ptr 4 0),(7,.ptr 7 0),(5,tI 1),(6,.sc nilA)]∧leB s [(4,56,[i64 a,i64 b,.os .u8 l,.os .u8 m]),(7,54,[i64 a,i64 b,.fs 5 .u8 l])])) (cxOk Try.prog ints_ok [] [cHeavy,cMayF,cEncRef,cCopyF,cEnc,cNum,cEqB,cEqF,cDecR,cCopy,cDec,cBegins,cBeginsR,cWakes]) follows [] 60 4 _ _ ?_ (fun s' hk=>?_)
  · skip
    repeat' first
      | exact trivial
      | (refine And.intro (show regChk _ _ _ _ _=true from by kernel_rfl) (And.intro ?_ ?_))
      | (refine And.intro (fun _=>?_) (fun h=>absurd (show true=false from h) (by decide)))
      | (refine And.intro (fun h=>absurd (show false=true from h) (by decide)) (fun _=>?_))
      | (refine And.intro (fun hb=>?_) (fun hb'=>?_))
      | refine And.intro ?_ ?_
      | intro _
    all_goals first
      | (show (_∧_)∨(_∧_);first|exact .inl ⟨nt (by assumption),⟨rfl,rfl,rfl,rfl,rfl,rfl,trivial⟩,⟨rfl,⟨rfl,rfl,rfl,rfl,trivial⟩,rfl,⟨rfl,rfl,rfl,trivial⟩,trivial⟩⟩|exact .inr ⟨nf (by assumption),⟨rfl,rfl,rfl,rfl,rfl,rfl,trivial⟩,⟨rfl,⟨rfl,rfl,rfl,rfl,trivial⟩,rfl,⟨rfl,rfl,rfl,trivial⟩,trivial⟩⟩)
      | (show mayF _ _ _=true;exact nt (by assumption))
      | (show BytesL _;first|exact hl|exact hm)
      | (show List.length _≤1000000;first|exact encR_len hl|exact decR_len hm|(have:=hl.n;have:=hm.n;omega)|exact Nat.zero_le _)
      | (show (_:Option TV)=_;rfl)
      | (show (_:Option A0)=_;rfl)
      | (show (_:Option TypeId)=_;rfl)
      | (show True;trivial)
      | (show (_:Bool)=(_:Bool);first|assumption|exact gB (by assumption)|exact bq (by assumption)|exact bt (by assumption)|(exact an (by first|assumption|exact bq (by assumption)) (by first|assumption|exact bt (by assumption)))|rfl)
      | (show _=_;rfl)
      -- PVC
  · rcases hk with ⟨hmay,hg,hb⟩|⟨hmay,hg,hb⟩
    · exact spec_le hg hb rfl (spec_era rfl rfl (z3t n row hrow v a b l m hl hm hmay rfl base w0 ke))
    · exact spec_le hg hb rfl (spec_era rfl rfl (z3f n row hrow v a b l m hl hm hmay rfl base w0 ke))
end
end Go.Proofs.Ytaeabemipnbgbaa.PFr
end
section
set_option linter.unusedVariables false
set_option linter.unusedSimpArgs false
namespace Go.Proofs.Ytaeabemipnbgbaa.PFr
open Go RowKit Ytaeabemipnbgbaa.QFr YtaeabemipnbgbaaW.PrintWords YtaeabemipnbgbaaW.PrintMore YtaeabemipnbgbaaW.Aid YtaeabemipnbgbaaW.Big YtaeabemipnbgbaaW.Sx Go.Proofs
section
set_option maxRecDepth 100000
set_option maxHeartbeats 8000000
abbrev rowF' (sq kd:Nat→Int) (pl bb:Nat→List Int):Nat→List A0:=fun j=>[i64 (sq j),i64 (kd j),.os .u8 (pl j),.os .u8 (bb j)]
def LF (n:Nat) (row:Nat→List A0):LI Int where
  gs:=fun v=>[(0,.rowF n 4 row),(3,tI v)]
  bs:=fun _=>[]
  I:=fun v=>0≤v∧v≤(n:Int)
  μ:=fun v=>((n:Int)-v).toNat
abbrev tC (n:Nat) (v:Int):Bool:=bif decide (v<(n:Int)) then decide (v<15) else false
theorem tC_t {n:Nat} {v:Int} (h:tC n v=true):v<(n:Int)∧v<15:=by
  unfold tC at h
  by_cases h1:v<(n:Int)
  · rw [decide_eq_true h1] at h;exact ⟨h1,of_decide_eq_true h⟩
  · rw [decide_eq_false h1] at h;cases h
theorem stepF {n:Nat} {v:Int} (hv:0≤v∧v≤(n:Int)) (h:tC n v=true) {row:Nat→List A0}:(LF n row).μ (IntKind.i64.wrap (v+1))<(LF n row).μ v∧(LF n row).I (IntKind.i64.wrap (v+1)):=by
  obtain ⟨h1,h2⟩:=tC_t h
  have e:IntKind.i64.wrap (v+1)=v+1:=wid (by omega) (by omega)
  rw [e]
  exact ⟨by show ((n:Int)-(v+1)).toNat<((n:Int)-v).toNat;omega,⟨by omega,by omega⟩⟩
theorem bytesL_of {l:List Int} (h:Bytes l) (hl:l.length≤2000):BytesL l:=⟨h,by omega⟩
theorem rnd (n:Nat) (sq kd:Nat→Int) (pl bb:Nat→List Int) (hb:∀ j,Bytes (pl j)∧Bytes (bb j)) (v:Int) (hv:0≤v∧v≤(n:Int)) {c:Code} (hc:bodyAt Try.f5 [true,false,true,true,true]=some c) (base:Nat) (w0:World):SpecC Try.prog Try.f5.ntmps base w0 c (fun s'=>∃ v',(LF n (rowF' sq kd pl bb)).μ v'<(LF n (rowF' sq kd pl bb)).μ v∧atL (LF n (rowF' sq kd pl bb)) v' s') (fun id s=>id=0) (fun s=>resCR (cxOf Try.prog [] [] [cHeavy,cMayF,cEncRef,cCopyF,cEnc,cNum,cEqB,cEqF,cDecR,cCopy,cDec,cBegins,cBeginsR,cWakes]) Try.f5.results.toList s=some (.tv (tB true))) (stB [(0,.rowF n 4 (rowF' sq kd pl bb)),(3,tI v)] []):=by
  refine spec_of hc rfl ?_
  refine spec_seq (kx:=fun s=>tC n v=true∧leG s [(0,.rowF n 4 (rowF' sq kd pl bb)),(3,tI v)]∧leB s []) ?_ (fun s' hk=>spec_le hk.2.1 hk.2.2 rfl ?_)
  · refine spec_vcd (cxOk Try.prog ints_ok [] [cHeavy,cMayF,cEncRef,cCopyF,cEnc,cNum,cEqB,cEqF,cDecR,cCopy,cDec,cBegins,cBeginsR,cWakes]) follows [] 60 ?_
    repeat' first
      | exact trivial
      | (refine And.intro (show regChk _ _ _ _ _=true from by kernel_rfl) (And.intro ?_ ?_))
      | (refine And.intro (fun _=>?_) (fun h=>absurd (show true=false from h) (by decide)))
      | (refine And.intro (fun h=>absurd (show false=true from h) (by decide)) (fun _=>?_))
      | (refine And.intro (fun hb=>?_) (fun hb'=>?_))
      | refine And.intro ?_ ?_
      | intro _
    all_goals first
      | (show (_:Nat)=0;rfl)
      | exact hb
      | (show BytesL _;first|exact hl|exact hm)
      | (show List.length _≤1000000;first|exact encR_len hl|exact decR_len hm|(have:=hl.n;have:=hm.n;omega)|exact Nat.zero_le _)
      | (show (_:Option TV)=_;rfl)
      | (show (_:Option A0)=_;rfl)
      | (show (_:Option TypeId)=_;rfl)
      | (show True;trivial)
      | (show (_:Bool)=(_:Bool);first|assumption|exact gB (by assumption)|exact bq (by assumption)|exact bt (by assumption)|(exact an (by first|assumption|exact bq (by assumption)) (by first|assumption|exact bt (by assumption)))|rfl)
      | (show _=_;rfl)
      -- PVC
  · have hC:=hk.1
    obtain ⟨hC1,hC2⟩:=tC_t hC
    refine spec_seq (kx:=fun s=>leG s [(0,.rowF n 4 (rowF' sq kd pl bb)),(3,tI v)]∧leB s []) ?_ (fun s' hk=>spec_le hk.1 hk.2 rfl ?_)
    · refine spec_block ?_
      refine spec_vch (kx:=fun s=>(bif decide (((pl v.toNat).length:Int)>2000) then true else decide (((bb v.toNat).length:Int)>2000))=false∧leG s [(0,.rowF n 4 (rowF' sq kd pl bb)),(3,tI v),(4,.ptr 4 0)]∧leB s [(4,56,[i64 (sq v.toNat),i64 (kd v.toNat),.os .u8 (pl v.toNat),.os .u8 (bb v.toNat)])]) (cxOk Try.prog ints_ok [] [cHeavy,cMayF,cEncRef,cCopyF,cEnc,cNum,cEqB,cEqF,cDecR,cCopy,cDec,cBegins,cBeginsR,cWakes]) follows [] 60 2 _ _ ?_ (fun s' hk=>?_)
      · skip
        repeat' first
          | exact trivial
          | (refine And.intro (show regChk _ _ _ _ _=true from by kernel_rfl) (And.intro ?_ ?_))
          | (refine And.intro (fun _=>?_) (fun h=>absurd (show true=false from h) (by decide)))
          | (refine And.intro (fun h=>absurd (show false=true from h) (by decide)) (fun _=>?_))
          | (refine And.intro (fun hb=>?_) (fun hb'=>?_))
          | refine And.intro ?_ ?_
          | intro _
        all_goals first
          | (show (0:Int)≤v;exact hv.1)
          | (show v<(n:Int);exact hC1)
          | (show some (CR.tv (tB true))=some (CR.tv (tB true));rfl)
          | (show (_:Option TV)=_;rfl)
          | (show (_:Option A0)=_;rfl)
          | (show (_:Option TypeId)=_;rfl)
          | (show True;trivial)
          | (show (_:Bool)=(_:Bool);first|assumption|exact gB (by assumption)|exact bq (by assumption)|exact bt (by assumption)|(exact an (by first|assumption|exact bq (by assumption)) (by first|assumption|exact bt (by assumption)))|rfl)
          | (show _=_;rfl)
          -- PVC
      · obtain ⟨hl,hm⟩:=heavy_f hk.1
        exact spec_le hk.2.1 hk.2.2 rfl (z2 n (rowF' sq kd pl bb) (fun _=>rfl) v _ _ _ _ (bytesL_of (hb _).1 hl) (bytesL_of (hb _).2 hm) rfl base w0 _)
    · refine spec_vcd (cxOk Try.prog ints_ok [] [cHeavy,cMayF,cEncRef,cCopyF,cEnc,cNum,cEqB,cEqF,cDecR,cCopy,cDec,cBegins,cBeginsR,cWakes]) follows [] 60 ?_
      repeat' first
        | exact trivial
        | (refine And.intro (show regChk _ _ _ _ _=true from by kernel_rfl) (And.intro ?_ ?_))
        | (refine And.intro (fun _=>?_) (fun h=>absurd (show true=false from h) (by decide)))
        | (refine And.intro (fun h=>absurd (show false=true from h) (by decide)) (fun _=>?_))
        | (refine And.intro (fun hb=>?_) (fun hb'=>?_))
        | refine And.intro ?_ ?_
        | intro _
      all_goals first
        | (show ∃ v',_;exact ⟨IntKind.i64.wrap (v+1),(stepF hv hC).1,(stepF hv hC).2,⟨rfl,rfl,trivial⟩,trivial⟩)
        | (show (_:Option TV)=_;rfl)
        | (show (_:Option A0)=_;rfl)
        | (show (_:Option TypeId)=_;rfl)
        | (show True;trivial)
        | (show (_:Bool)=(_:Bool);first|assumption|exact gB (by assumption)|exact bq (by assumption)|exact bt (by assumption)|(exact an (by first|assumption|exact bq (by assumption)) (by first|assumption|exact bt (by assumption)))|rfl)
        | (show _=_;rfl)
        -- PVC
theorem frameExact_law (n:Nat) (sq kd:Nat→Int) (pl bb:Nat→List Int) (hb:∀ j,Bytes (pl j)∧Bytes (bb j)) {us:List Value} {w:World} (hargs:All2 (TV.reads (fun _=>0) w.heap.size w) [.rowF n 4 (rowF' sq kd pl bb)] us):Ret Try.prog 5 us.toArray w (.tv (tB true)):=by
  refine fns_ret (cxOk Try.prog ints_ok [] [cHeavy,cMayF,cEncRef,cCopyF,cEnc,cNum,cEqB,cEqF,cDecR,cCopy,cDec,cBegins,cBeginsR,cWakes]) Try.func5 rfl _ rfl (by simp) ?_ hargs
  refine spec_vch (kx:=fun s=>leG s [(0,.rowF n 4 (rowF' sq kd pl bb))]∧leB s []) (cxOk Try.prog ints_ok [] [cHeavy,cMayF,cEncRef,cCopyF,cEnc,cNum,cEqB,cEqF,cDecR,cCopy,cDec,cBegins,cBeginsR,cWakes]) follows [] 60 1 _ _ ?_ (fun s' hk=>spec_le hk.1 hk.2 rfl ?_)
  · skip
    repeat' first
      | exact trivial
      | (refine And.intro (show regChk _ _ _ _ _=true from by kernel_rfl) (And.intro ?_ ?_))
      | (refine And.intro (fun _=>?_) (fun h=>absurd (show true=false from h) (by decide)))
      | (refine And.intro (fun h=>absurd (show false=true from h) (by decide)) (fun _=>?_))
      | (refine And.intro (fun hb=>?_) (fun hb'=>?_))
      | refine And.intro ?_ ?_
      | intro _
    all_goals first
      | (show (_:Option TV)=_;rfl)
      | (show (_:Option A0)=_;rfl)
      | (show (_:Option TypeId)=_;rfl)
      | (show True;trivial)
      | (show (_:Bool)=(_:Bool);first|assumption|exact gB (by assumption)|exact bq (by assumption)|exact bt (by assumption)|(exact an (by first|assumption|exact bq (by assumption)) (by first|assumption|exact bt (by assumption)))|rfl)
      | (show _=_;rfl)
      -- PVC
  · refine spec_seq (kx:=fun s=>leG s []∧leB s []) ?_ (fun s' hk=>spec_le hk.1 hk.2 rfl ?_)
    · refine spec_vch (kx:=fun s=>atL (LF n (rowF' sq kd pl bb)) 0 s) (cxOk Try.prog ints_ok [] [cHeavy,cMayF,cEncRef,cCopyF,cEnc,cNum,cEqB,cEqF,cDecR,cCopy,cDec,cBegins,cBeginsR,cWakes]) follows [] 60 1 _ _ ?_ (fun s' hk=>?_)
      · skip
        repeat' first
          | exact trivial
          | (refine And.intro (show regChk _ _ _ _ _=true from by kernel_rfl) (And.intro ?_ ?_))
          | (refine And.intro (fun _=>?_) (fun h=>absurd (show true=false from h) (by decide)))
          | (refine And.intro (fun h=>absurd (show false=true from h) (by decide)) (fun _=>?_))
          | (refine And.intro (fun hb=>?_) (fun hb'=>?_))
          | refine And.intro ?_ ?_
          | intro _
        all_goals first
          | (show atL _ _ _;exact ⟨⟨Int.le_refl _,Int.natCast_nonneg _⟩,⟨rfl,rfl,trivial⟩,trivial⟩)
          | exact Int.le_refl _
          | exact Int.natCast_nonneg _
          | (show (_:Option TV)=_;rfl)
          | (show (_:Option A0)=_;rfl)
          | (show (_:Option TypeId)=_;rfl)
          | (show True;trivial)
          | (show (_:Bool)=(_:Bool);first|assumption|exact gB (by assumption)|exact bq (by assumption)|exact bt (by assumption)|(exact an (by first|assumption|exact bq (by assumption)) (by first|assumption|exact bt (by assumption)))|rfl)
          | (show _=_;rfl)
          -- PVC
      · refine spec_block (spec_loopI (LF n (rowF' sq kd pl bb)) ⟨0,hk⟩ (fun v hv=>⟨rfl,spec_mono (rnd n sq kd pl bb hb v hv rfl _ _) (fun s h=>h) (fun id s h=>?_) (fun s h=>h)⟩))
        subst h
        exact ⟨trivial,trivial⟩
    · refine spec_vcd (cxOk Try.prog ints_ok [] [cHeavy,cMayF,cEncRef,cCopyF,cEnc,cNum,cEqB,cEqF,cDecR,cCopy,cDec,cBegins,cBeginsR,cWakes]) follows [] 60 ?_
      repeat' first
        | exact trivial
        | (refine And.intro (show regChk _ _ _ _ _=true from by kernel_rfl) (And.intro ?_ ?_))
        | (refine And.intro (fun _=>?_) (fun h=>absurd (show true=false from h) (by decide)))
        | (refine And.intro (fun h=>absurd (show false=true from h) (by decide)) (fun _=>?_))
        | (refine And.intro (fun hb=>?_) (fun hb'=>?_))
        | refine And.intro ?_ ?_
        | intro _
      all_goals first
        | (show some (CR.tv (tB true))=some (CR.tv (tB true));rfl)
        | (show (_:Option TV)=_;rfl)
        | (show (_:Option A0)=_;rfl)
        | (show (_:Option TypeId)=_;rfl)
        | (show True;trivial)
        | (show (_:Bool)=(_:Bool);first|assumption|exact gB (by assumption)|exact bq (by assumption)|exact bt (by assumption)|(exact an (by first|assumption|exact bq (by assumption)) (by first|assumption|exact bt (by assumption)))|rfl)
        | (show _=_;rfl)
        -- PVC
end
end Go.Proofs.Ytaeabemipnbgbaa.PFr
end
section
namespace Go.Proofs.Ytaeabemipnbgbaa.QFrO
open RowKit YtaeabemipnbgbaaW.PrintWords YtaeabemipnbgbaaW.PrintLast YtaeabemipnbgbaaW.PrintMore
attribute [local go_sem] max2_int min2_int max_two min_two max_three min_three max_four min_four   -- for this text's walks alone
set_option linter.unusedVariables false
set_option linter.unusedSimpArgs false
structure S54 where
  f0:Int
  f1:Int
  f2:(List Int)
def z54:S54:=⟨(0:Int),(0:Int),([]:List Int)⟩
def k54:Kd S54:=Kd.iso (Kd.pair (Kd.int .i64) (Kd.pair (Kd.int .i64) (Kd.slice 5 (Kd.int .u8)))) (fun x:S54=>(x.f0,x.f1,x.f2))
theorem k54_open {w:World} {x:S54} {cs:List Value} (h:k54.K w x cs):∃ A2 c2,cs=[.int .i64 x.f0,.int .i64 x.f1,.slice A2 x.f2.length c2]∧x.f2.length≤c2∧(Kd.int .u8).C w A2 x.f2.length x.f2:=by
  obtain ⟨_,_,rfl,rfl,⟨_,_,rfl,rfl,⟨A2,c2,rfl,l2,g2⟩⟩⟩:=h
  exact ⟨A2,c2,rfl,l2,g2⟩
structure S56 where
  f0:S54
  f1:(List Int)
def z56:S56:=⟨z54,([]:List Int)⟩
def k56:Kd S56:=Kd.iso (Kd.pair k54 (Kd.slice 5 (Kd.int .u8))) (fun x:S56=>(x.f0,x.f1))
theorem k56_open {w:World} {x:S56} {cs:List Value} (h:k56.K w x cs):∃ A2 c2 A3 c3,cs=[.int .i64 x.f0.f0,.int .i64 x.f0.f1,.slice A2 x.f0.f2.length c2,.slice A3 x.f1.length c3]∧x.f0.f2.length≤c2∧(Kd.int .u8).C w A2 x.f0.f2.length x.f0.f2∧x.f1.length≤c3∧(Kd.int .u8).C w A3 x.f1.length x.f1:=by
  obtain ⟨_,_,rfl,s0,⟨A3,c3,rfl,l3,g3⟩⟩:=h
  obtain ⟨A2,c2,rfl,l2,g2⟩:=k54_open s0
  exact ⟨A2,c2,A3,c3,rfl,l2,g2,l3,g3⟩
end Go.Proofs.Ytaeabemipnbgbaa.QFrO
end
section
set_option linter.unusedVariables false
set_option linter.unusedSimpArgs false
namespace Go.Proofs.Ytaeabemipnbgbaa.PFr
open Go RowKit Ytaeabemipnbgbaa.QFrO YtaeabemipnbgbaaW.PrintWords YtaeabemipnbgbaaW.PrintMore YtaeabemipnbgbaaW.Aid YtaeabemipnbgbaaW.Big YtaeabemipnbgbaaW.Sx Go.Proofs
def G54 (x:S54):Prop:=(fun n=>(Lit.int .i64 n).wf=true) x.f0∧(fun n=>(Lit.int .i64 n).wf=true) x.f1∧(fun xs=>xs.length*1≤140737488351232∧∀ x∈xs,(fun n=>(Lit.int .u8 n).wf=true) x) x.f2
def G56 (x:S56):Prop:=G54 x.f0∧(fun xs=>xs.length*1≤140737488351232∧∀ x∈xs,(fun n=>(Lit.int .u8 n).wf=true) x) x.f1
abbrev at56 (l:List S56) (j:Nat):S56:=l.getD j z56
theorem at56_g {l:List S56} (h:∀ x∈l,G56 x) (j:Nat):G56 (at56 l j):=by
  unfold at56;rw [List.getD_eq_getElem?_getD]
  cases e:l[j]? with
  | none=>exact ⟨⟨rfl,rfl,by decide,fun x hx=>absurd hx List.not_mem_nil⟩,by decide,fun x hx=>absurd hx List.not_mem_nil⟩
  | some x=>exact h x (List.mem_of_getElem? e)
abbrev rows56 (l:List S56):Nat→List A0:=rowF' (fun j=>(at56 l j).f0.f0) (fun j=>(at56 l j).f0.f1) (fun j=>(at56 l j).f0.f2) (fun j=>(at56 l j).f1)
theorem os_reads {N:Nat} {w:World} {k:IntKind} {l:List Int} {A:Option Addr} {c:Nat} (hk:unsg k=true) (h1:l.length≤c) (h2:Kd.C (Kd.int k) w A l.length l) (hN:w.heap.size≤N):(A0.os k l).reads N w (.slice A l.length c) :=
  ⟨hk,A,c,rfl,⟨h1,h2⟩,fun hl ad e=>Nat.lt_of_lt_of_le (rdk_lt ⟨h1,h2⟩ hl ad e) hN⟩
theorem reads56 {w:World} {A:Option Addr} {c:Nat} {l:List S56} (hC:Kd.C k56 w A l.length l) (hle:l.length≤c) {β:Nat→Nat}:TV.reads β w.heap.size w (.rowF l.length 4 (rows56 l)) (.slice A l.length c):=by
  refine ⟨A,c,rfl,hle,fun h0=>?_⟩
  obtain ⟨ad,cs,e,_,hK,hc⟩:=Kd.C_get hC z56 0 (Int.le_refl _) (by omega)
  have hb:ad.block<w.heap.size:=by
    obtain ⟨_,_,_,_,rfl,_⟩:=k56_open hK
    exact World.block_lt_of_cell? w _ (hc 0 _ rfl)
  refine ⟨ad,e,hb,fun i hi=>?_⟩
  obtain ⟨ad',cs',e',_,hK',hc'⟩:=Kd.C_get hC z56 i (Int.natCast_nonneg _) (by omega)
  obtain rfl:ad'=ad:=by rw [e] at e';exact (Option.some.inj e').symm
  obtain ⟨A2,c2,A3,c3,rfl,l2,g2,l3,g3⟩:=k56_open hK'
  intro j q hj
  have key:∀ u,([.int .i64 (at56 l i).f0.f0,.int .i64 (at56 l i).f0.f1,.slice A2 (at56 l i).f0.f2.length c2,.slice A3 (at56 l i).f1.length c3]:List Value)[j]?=some u→(∀ N,w.heap.size≤N→q.reads N w u)→∃ x,w.cell? ((ad'.add (i*4)).add j)=some x∧∀ N,w.heap.size≤N→q.reads N w x:=by
    intro u hu hq
    refine ⟨u,?_,hq⟩
    have h1:w.cell? (ad'.add (i*4+j))=some u:=hc' j u hu
    rw [Addr.add_add];exact h1
  match j,hj with
  | 0,hj=>obtain rfl:=(Option.some.inj hj).symm;exact key _ rfl (fun _ _=>rfl)
  | 1,hj=>obtain rfl:=(Option.some.inj hj).symm;exact key _ rfl (fun _ _=>rfl)
  | 2,hj=>obtain rfl:=(Option.some.inj hj).symm;exact key _ rfl (fun N hN=>os_reads rfl l2 g2 hN)
  | 3,hj=>obtain rfl:=(Option.some.inj hj).symm;exact key _ rfl (fun N hN=>os_reads rfl l3 g3 hN)
theorem frameExact56 {w:World} {A:Option Addr} {c:Nat} {l:List S56} (hC:Kd.C k56 w A l.length l) (hle:l.length≤c) (hg:∀ x∈l,G56 x):Ret Try.prog 5 #[.slice A l.length c] w (.tv (tB true)) :=
  frameExact_law l.length _ _ _ _ (fun j=>⟨bytes_wf (at56_g hg j).1.2.2.2,bytes_wf (at56_g hg j).2.2⟩) (.cons (reads56 hC hle) .nil)
end Go.Proofs.Ytaeabemipnbgbaa.PFr
end
section
namespace Go.Proofs.YtaeabemipnbgbaaW.Opens
open RowKit YtaeabemipnbgbaaW.PrintWords Go.Deep
variable {P:Program}
def Opens (P:Program) (t:TypeId) {α:Type} (d:Kd α) (G:α→Prop):Prop :=
  P.cellsOf t=d.sz∧∀ {H:Type} (enc:TypeId × Value→H) (w:World) (base:Nat) (spare:Nat→Bool) (held:Bool) (fuel:Nat) (cs:List Value) (x:DataW H × List MemPlace),
    DataW.trod enc P w base spare held fuel t cs=some x→(∀ n∈x.1.weights P t,n≤reachBytes)→∃ a,d.K w a cs∧G a
theorem opens_int {t:TypeId} {k:IntKind} (hu:P.underlying t=some (.int k)) (hc:P.cellsOf t=1):Opens P t (Kd.int k) (fun n=>(Lit.int k n).wf=true):=by
  refine ⟨hc,fun enc w base spare held fuel cs x h _=>?_⟩
  obtain ⟨n,rfl,_,hw⟩:=DataW.trod_int hu h
  exact ⟨n,rfl,hw⟩
theorem opens_bool {t:TypeId} (hu:P.underlying t=some .bool) (hc:P.cellsOf t=1):Opens P t Kd.bool (fun _=>True):=by
  refine ⟨hc,fun enc w base spare held fuel cs x h _=>?_⟩
  obtain ⟨n,rfl,_⟩:=DataW.trod_bool hu h
  exact ⟨n,rfl,trivial⟩
theorem opens_string {t:TypeId} (hu:P.underlying t=some .string) (hc:P.cellsOf t=1):Opens P t Kd.string (fun s=>s.size≤140737488351232):=by
  refine ⟨hc,fun enc w base spare held fuel cs x h hw=>?_⟩
  obtain ⟨s,rfl,rfl,_⟩:=DataW.trod_string hu h
  have z:=hw s.data.toList.length (by simp [DataW.weights])
  exact ⟨s,rfl,by simpa [reachBytes] using z⟩
theorem list_of {α:Type} {Q:Nat→α→Prop}:∀ n:Nat,(∀ i,i<n→∃ a,Q i a)→∃ xs:List α,xs.length=n∧∀ j p,xs[j]?=some p→Q j p
  | 0,_=>⟨[],rfl,fun j p h=>by simp at h⟩
  | n + 1, h => by
    obtain ⟨xs,hl,hx⟩:=list_of n (fun i hi=>h i (by omega))
    obtain ⟨a,ha⟩:=h n (by omega)
    refine ⟨xs++[a],by simp [hl],fun j p hj=>?_⟩
    by_cases hjl:j<xs.length
    · rw [List.getElem?_append_left hjl] at hj
      exact hx j p hj
    · have hj2:j<(xs++[a]).length:=(List.getElem?_eq_some_iff.1 hj).1
      have:j=n:=by simp at hj2;omega
      subst this
      rw [List.getElem?_append_right (by omega)] at hj
      simp [hl] at hj
      subst hj
      exact ha
theorem weights_mem_all {H:Type} {e:TypeId}:∀ {l:List (DataW H)} {d:DataW H},d∈l→∀ n∈d.weights P e,n∈DataW.weightsAll P e l
  | [],_,h,_,_=>by simp at h
  | y::l,d,h,n,hn=>by
    rw [DataW.weightsAll]
    rcases List.mem_cons.1 h with rfl|h
    · exact List.mem_append_left _ hn
    · exact List.mem_append_right _ (weights_mem_all h n hn)
theorem opens_slice {t e:TypeId} {α:Type} {d:Kd α} {G:α→Prop} (hu:P.underlying t=some (.slice e)) (hc:P.cellsOf t=1) {B:Nat} (hB:P.bytesOf e=B) (he:Opens P e d G) :
    Opens P t (Kd.slice e d) (fun xs=>xs.length*B≤140737488351232∧∀ x∈xs,G x):=by
  obtain ⟨hsz,he⟩:=he
  refine ⟨hc,fun enc w base spare held fuel cs x h hw=>?_⟩
  rcases open_slice hu h with ⟨rfl,_⟩|⟨a,len,cap,m,n,D,Pl,rfl,_,hl,hm,hmm,rfl,hi⟩
  · exact ⟨[],⟨none,0,rfl,Nat.le_refl _,rfl,by simp,fun h=>absurd h (by simp)⟩,by simp,fun _ h=>by simp at h⟩
  · have hlm:len≤m:=by rw [hmm];split<;>omega
    have hw2:∀ i,i<len→∀ q∈(D i).weights P e,q≤reachBytes:=fun i hil q hq=>by
      refine hw q ?_
      rw [DataW.weights,hu]
      refine List.mem_cons_of_mem _ (List.mem_append_left _ (weights_mem_all (d:=D i) ?_ q hq))
      exact List.mem_map.2 ⟨i,List.mem_range.2 hil,rfl⟩
    obtain ⟨xs,hxl,hx⟩:=list_of (Q:=fun i p=>(∃ c,c.length=d.sz∧d.K w p c∧∀ j u,c[j]?=some u→w.cell? (a.add (i*d.sz+j))=some u)∧G p) len (fun i hil=>by
      obtain ⟨cs',h1,h2⟩:=hi i (by omega)
      obtain ⟨p,hk,hg⟩:=he enc w base spare held n cs' _ h2 (hw2 i hil)
      obtain ⟨_,hcl,hat⟩:=World.cells?_some h1
      refine ⟨p,⟨cs',d.K_len hk,hk,fun j u hj=>?_⟩,hg⟩
      have hjl:j<cs'.length:=(List.getElem?_eq_some_iff.1 hj).1
      have h3:=hat j (by omega)
      rw [hj,hsz,Go.Deep.add_add] at h3
      exact h3)
    subst hxl
    refine ⟨xs,⟨some a,cap,rfl,hl,rfl,by unfold maxLen at hm;omega,fun _=>⟨a,rfl,fun j p hj=>(hx j p hj).1⟩⟩,?_,fun x hx'=>?_⟩
    · have z:=hw ((((List.range xs.length).map D).length+((List.range (m-xs.length)).map fun j=>D (xs.length+j)).length)*P.bytesOf e) (by rw [DataW.weights,hu];exact List.mem_cons_self)
      simp only [List.length_map,List.length_range,hB,reachBytes] at z
      exact Nat.le_trans (Nat.mul_le_mul_right _ (Nat.le_add_right _ _)) z
    · obtain ⟨j,hj⟩:=List.getElem?_of_mem hx'
      exact (hx j x hj).2
def OpensF (P:Program) (o:Nat) (fs:List (TypeId × Nat)) {α:Type} (d:Kd α) (G:α→Prop):Prop :=
  ∀ {H:Type} (enc:TypeId × Value→H) (w:World) (base:Nat) (spare:Nat→Bool) (held:Bool) (n:Nat) (cs:List Value) (ys:List (DataW H × List MemPlace)),cs.length=o+d.sz→ys.length=fs.length →
    (∀ (i:Nat) (f:TypeId × Nat),fs[i]?=some f→DataW.trod enc P w base spare held n f.1 ((cs.drop f.2).take (P.cellsOf f.1))=ys[i]?) →
    (∀ q∈DataW.weightsEach P (fs.map (·.1)) (ys.map (·.1)),q≤reachBytes)→∃ a,d.K w a (cs.drop o)∧G a
theorem opensF_one {t:TypeId} {o:Nat} {α:Type} {d:Kd α} {G:α→Prop} (h:Opens P t d G):OpensF P o [(t,o)] d G:=by
  obtain ⟨hsz,he⟩:=h
  intro H enc w base spare held n cs ys hl hyl hg hw
  match ys,hyl with
  | [y],_ =>
    have h1:=hg 0 (t,o) rfl
    simp only at h1
    rw [hsz,List.take_of_length_le (by simp;omega)] at h1
    exact he enc w base spare held n _ y h1 (fun q hq=>hw q (by simpa [DataW.weightsEach] using hq))
theorem opensF_cons {t:TypeId} {fs:List (TypeId × Nat)} {o o':Nat} {α β:Type} {d:Kd α} {d':Kd β} {G:α→Prop} {G':β→Prop} (h:Opens P t d G) (ho':o+d.sz=o') (h':OpensF P o' fs d' G') :
    OpensF P o ((t,o)::fs) (Kd.pair d d') (fun x=>G x.1∧G' x.2):=by
  obtain ⟨hsz,he⟩:=h
  intro H enc w base spare held n cs ys hl hyl hg hw
  match ys,hyl with
  | y :: ys, hyl =>
    have h1:=hg 0 (t,o) rfl
    simp only at h1
    rw [hsz] at h1
    obtain ⟨a,ka,ga⟩:=he enc w base spare held n _ y h1 (fun q hq=>hw q (by simp only [List.map_cons,DataW.weightsEach];exact List.mem_append_left _ hq))
    have hl':cs.length=o'+d'.sz:=by
      have:(Kd.pair d d').sz=d.sz+d'.sz:=rfl
      omega
    obtain ⟨b,kb,gb⟩:=h' enc w base spare held n cs ys hl' (by simpa using hyl) (fun i f' hf=>hg (i+1) f' (by simpa using hf)) (fun q hq=>hw q (by simp only [List.map_cons,DataW.weightsEach];exact List.mem_append_right _ hq))
    refine ⟨(a,b),⟨(cs.drop o).take d.sz,cs.drop o',?_,ka,kb⟩,ga,gb⟩
    rw [← ho',← List.drop_drop,List.take_append_drop]
theorem opens_struct {t:TypeId} {fs:Array Field} {α β:Type} {d:Kd α} {G:α→Prop} (hu:P.underlying t=some (.struct fs)) (hc:P.cellsOf t=d.sz) {l:List (TypeId × Nat)} (hl:fs.toList.map (fun f=>(f.type,f.offset))=l) (h:OpensF P 0 l d G) (f:β→α) (g:α→β) (hfg:∀ x,f (g x)=x) :
    Opens P t (Kd.iso d f) (fun x=>G (f x)):=by
  refine ⟨hc,fun enc w base spare held fuel cs x hx hw=>?_⟩
  obtain ⟨ys,n,_,rfl,hcl,hyl,hg⟩:=DataW.trod_struct hu hx
  have hg':∀ (i:Nat) (f:TypeId × Nat),l[i]?=some f→DataW.trod enc P w base spare held n f.1 ((cs.drop f.2).take (P.cellsOf f.1))=ys[i]?:=by
    intro i f hf
    rw [← hl,List.getElem?_map] at hf
    obtain ⟨f0,hf0,rfl⟩:=Option.map_eq_some_iff.1 hf
    exact hg i f0 (by simpa using hf0)
  obtain ⟨a,ka,ga⟩:=h enc w base spare held n cs ys (by omega) (by rw [hyl,← hl];simp) hg' (fun q hq=>hw q (by rw [← hl,List.map_map] at hq;simp only [DataW.weights,hu];exact hq))
  exact ⟨g a,by show d.K w (f (g a)) cs;rw [hfg];exact ka,by show G (f (g a));rw [hfg];exact ga⟩
theorem opens_arg {H:Type} {enc:TypeId × Value→H} {W:World} {base:Nat} {spare:Nat→Bool} {held:Bool} {t:TypeId} {v:Value} {x:DataW H} {ps:List MemPlace} {ts:List TypeId} {ds:List (DataW H)} {j:Nat} {α:Type} {d:Kd α} {G:α→Prop}
    (ho:Opens P t d G) (hsz:(DataW.weightsEach P ts ds).all (·≤reachBytes)=true) (ht:ts[j]?=some t) (hd:ds[j]?=some x) (h:DataW.Trod enc P W base spare held t v x ps):∃ a,d.K W a v.cells.toList∧G a:=by
  obtain ⟨fuel,hf⟩:=h
  refine ho.2 enc W base spare held fuel _ (x,ps) hf (fun n hn=>?_)
  simpa using List.all_eq_true.1 hsz n (DataW.weights_mem_each ht hd n hn)
end Go.Proofs.YtaeabemipnbgbaaW.Opens
end
section
namespace Go.Proofs.Ytaeabemipnbgbaa.frameExact
open Go.ChangeShapes Go.WideShapes Go.ChangeAt RowKit YtaeabemipnbgbaaW.Opens YtaeabemipnbgbaaW.PrintWords Ytaeabemipnbgbaa.QFrO Ytaeabemipnbgbaa.PFr
set_option linter.unusedVariables false
theorem own:ownKnob Try.prog.godebug=none:=by kernel_rfl
theorem laidOut:laidOutB Try.prog=true:=by kernel_rfl
theorem opens54:Opens Try.prog 54 k54 G54 :=
  opens_struct (l:=[(3,0),(3,1),(25,2)]) Try.underlying54 (by kernel_rfl) rfl (opensF_cons (o:=0) (o':=1) (opens_int Try.underlying3 (by kernel_rfl)) rfl (opensF_cons (o:=1) (o':=2) (opens_int Try.underlying3 (by kernel_rfl)) rfl (opensF_one (o:=2) (opens_slice (B:=1) Try.underlying25 (by kernel_rfl) (by kernel_rfl) (opens_int Try.underlying5 (by kernel_rfl)))))) (fun x:S54=>(x.f0,x.f1,x.f2)) (fun p=>⟨p.1,p.2.1,p.2.2⟩) (fun _=>rfl)
theorem opens56:Opens Try.prog 56 k56 G56 :=
  opens_struct (l:=[(54,0),(25,3)]) Try.underlying56 (by kernel_rfl) rfl (opensF_cons (o:=0) (o':=3) opens54 rfl (opensF_one (o:=3) (opens_slice (B:=1) Try.underlying25 (by kernel_rfl) (by kernel_rfl) (opens_int Try.underlying5 (by kernel_rfl))))) (fun x:S56=>(x.f0,x.f1)) (fun p=>⟨p.1,p.2⟩) (fun _=>rfl)
set_option maxRecDepth 100000 in
theorem lifted (os:Os) (started:os.Started) (H:Type) (enc:TypeId × Value→H) :
    ReturnsInHanded {} Try.checked os 5 .any (Rows.frameExactSpec.pre6 enc Try.prog Try.f5 Rows.frameExactRow.domain false) (Rows.frameExactSpec.post enc Try.prog Try.f5 false true false false):=by
  refine returnsInHanded_of_change_sized (C:=Try.checked) own started (by kernel_rfl) Try.func5
    (ChangeSpec.witness6 (enc:=enc) (C:=Try.checked) false ⟨#[],#[.slice none 0 0],[]⟩ 8 (by kernel_rfl) (by kernel_rfl) (by kernel_rfl) (by kernel_rfl)) ?_
  intro W base args ds gs before hval0 hW hcnd hsz0 _
  have hsz:(DataW.weightsEach Try.prog (Try.f5.params.toList++Rows.frameExactSpec.plain.varTypes Try.prog) (ds++gs)).all (·≤reachBytes)=true:=hsz0
  have hval:∀ (j:Nat) t v,Try.f5.params[j]?=some t→args[j]?=some v→Value.okWide Try.prog W .any base t v:=hval0
  have hW':=hW
  obtain ⟨p,q,hA0,hV,rfl,hfz,hnd⟩:=hW
  have hA:DataW.TrodAll enc Try.prog W 0 (fun _=>true) true Try.f5.params.toList args.toList ds p:=hA0
  rw [Try.params5] at hA hval hsz
  obtain ⟨v0,vs0,d0,ds0,p0,q0,hargs,rfl,rfl,h0,r0⟩:=trodAll_cons hA
  obtain ⟨rfl,rfl,rfl⟩:=trodAll_nil r0
  obtain rfl:args=#[v0]:=by cases args;simp_all
  obtain ⟨rfl,rfl⟩:=trodVars_none hV
  have k0:=h0
  have lt0:∀ x∈p0,x.block<W.heap.size:=by obtain ⟨m,hm⟩:=k0;exact DataW.trod_lt m _ _ _ hm
  have hv0:=hval 0 52 v0 rfl rfl
  obtain ⟨x0,hk0,hg0⟩:=opens_arg (opens_slice (B:=64) Try.underlying52 (by kernel_rfl) (by kernel_rfl) opens56) hsz (j:=0) (t:=52) rfl rfl h0
  obtain ⟨a0,len0,cap0,rfl⟩:=okWide_slice Try.underlying52 hv0
  obtain ⟨A1,c1,hcs,hle,hC⟩:=hk0
  have hcs:[Value.slice a0 len0 cap0]=[.slice A1 x0.length c1]:=hcs
  simp only [List.cons.injEq,Value.slice.injEq,and_true] at hcs
  obtain ⟨rfl,rfl,rfl⟩:=hcs
  clear hA0 hval0 hsz0 hsz
  refine Calls.mono (frameExact56 hC hle hg0.2) fun e W' hpost=>?_
  obtain ⟨u,rfl,hu,bel⟩:=hpost
  obtain rfl:u = .bool true:=hu
  exact ⟨_,rfl,_,_,_,[],_,[],hW',trodAll_mk1 (shut_bool Try.underlying4 _),(trodAll_cons_mk (Below.trod laidOut (by kernel_rfl) (of_decide_eq_true (by kernel_rfl)) k0 bel lt0) trodAll_mk0),rfl,bel.frame _,fun h=>by cases h⟩
theorem over:Rows.frameExactRow.holds Try.pinned (OpenSpec.ofChange Rows.frameExactSpec) :=
  OpenClaim.holds_of_wide 5 Try.f5 rfl rfl rfl rfl rfl rfl rfl ⟨rfl,rfl,rfl,rfl,rfl⟩ rfl rfl rfl rfl rfl (by kernel_rfl) Try.func5 (by kernel_rfl)
    (of_decide_eq_true (by kernel_rfl)) (by unfold Func.isWrapper;first|(rw [if_pos (by decide +kernel)];kernel_rfl)|(rw [if_neg (by decide +kernel)];exact ⟨rfl,rfl⟩))
    (fun os started H enc _=>lifted os started H enc)
theorem proved:Rows.FrameExactSaid:=over
end Go.Proofs.Ytaeabemipnbgbaa.frameExact
namespace Go.Proofs.Ytaeabemipnbgbaa
theorem frameExact_holds:Rows.FrameExactSaid:=frameExact.proved
end Go.Proofs.Ytaeabemipnbgbaa
end
