/- Part of a proof: texts of this session, one behind the other, and words that print.sh printed for this seat, of these only those that the proof leans on (wip/tools/pack.py). -/
import Derived.Test.YtaeabemipnbgbaaZT400c
import Derived.KernelRfl
import Derived.Orders
import Derived.LoopN
import Derived.Test.YtaeabemipnbgbaaProg
import Derived.Below
import Derived.Deep.Draws
import Derived.Deep.AppendLies
import Derived.Maps.AppendAt
import Derived.OwnWalk
import Derived.Laws.BytesArg
import Derived.Laws.MakeOwn
import Derived.Laws.OwnMore
import Derived.Deep.OwnRows
import Derived.Tactics
import Derived.Lib.ConvBytes
import Derived.Laws.Slices
import Derived.WalkKit
import Derived.RowKit3
import Derived.Deep.LoopGhost
import Derived.Deep.QuietTactic
import Derived.BigQuiet
import Derived.WideLaws
import Derived.Deep.DeepCutAuto
import Derived.Deep.CutBlock
import Derived.Deep.RegionHeld3
import Derived.Laws.Rows
import Derived.Lib.AppendStr
import Derived.ArgAppend
import Derived.Laws.IdiomCopy
import Derived.OrdersHeld
import Derived.Laws.BitsLemmas
import Derived.RowKit
import Derived.Deep.WholeRow
import Derived.Outline
import Derived.Lib.SliceRun
section
set_option linter.unusedVariables false
set_option linter.unusedSimpArgs false
namespace Go.Proofs.YtaeabemipnbgbaaW.Sx
open Go RowKit YtaeabemipnbgbaaW.PrintWords YtaeabemipnbgbaaW.PrintMore YtaeabemipnbgbaaW.Aid YtaeabemipnbgbaaW.Big
def unsg:IntKind→Bool
  | .u8=>true | .u16=>true | .u32=>true | .u64=>true|_=>false
def rawT (e:TypeId):Bool:=e == 5
inductive A0 where
  | v (x:Value)
  | sl (k:IntKind) (l:List Int)
  | fs (e:TypeId) (k:IntKind) (l:List Int)
  | os (k:IntKind) (l:List Int)
  | neg (x:Int)
  | mag (x:Int)
  /-- A slice of which the length alone is told. -/
  | ls (n:Nat)
def RdK (w:World) (k:IntKind) (l:List Int) (A:Option Addr) (c:Nat):Prop:=l.length≤c∧Kd.C (Kd.int k) w A l.length l
def A0.reads (base:Nat) (w:World):A0→Value→Prop
  | .v x,u=>u=x
  | .os k l,u=>unsg k=true∧∃ A c,u = .slice A l.length c∧RdK w k l A c∧(l≠[]→∀ ad,A=some ad→ad.block<base)
  | .fs e k l,u=>unsg k=true∧rawT e=true∧Kd.R (Kd.int k) e w base (fun _=>True) u l
  | .sl k l,u=>unsg k=true∧∃ A c,u = .slice A l.length c∧RdK w k l A c
  | .neg x,u=>u = .bool (sgn x)
  | .mag x,u=>∃ A c,u = .slice A (lm x).length c∧RdK w .u64 (lm x) A c
  | .ls n,u=>∃ A c,u = .slice A n c
def okCell:Value→Bool
  | .agg _=>false
  | .tuple _=>false
  | .int k _=>!unsg k
  | _=>true
def okA:A0→Bool
  | .v x=>okCell x
  | _=>true
theorem okA_reads {base:Nat} {w:World} {c:A0} {u:Value} (h:c.reads base w u) (hc:okA c=true):okCell u=true:=by
  cases c with
  | v x=>rw [show u=x from h];exact hc
  | sl k l=>obtain ⟨_,A,c,rfl,_⟩:=h;rfl
  | fs e k l=>obtain ⟨_,_,h⟩:=h;obtain ⟨A,c,rfl,_⟩:=Kd.R_reads h;rfl
  | os k l=>obtain ⟨_,A,c,rfl,_⟩:=h;rfl
  | neg x=>rw [show u = .bool (sgn x) from h];rfl
  | mag x=>obtain ⟨A,c,rfl,_⟩:=h;rfl
  | ls n=>obtain ⟨A,c,rfl⟩:=h;rfl
def A0.noOs:A0→Bool
  | .os _ _=>false
  | _=>true
def A0.safe:A0→Bool
  | .v _=>true
  | .neg _=>true
  | .os _ _=>true
  | .ls _=>true
  | _=>false
def A0.old:A0→A0
  | .fs _ k l => .os k l
  | .sl k l => .os k l
  | c=>c
theorem A0.raise {b b':Nat} {w:World} {c:A0} {u:Value} (h:c.reads b w u) (hb:b≤b') (hc:∀ e k l,c ≠ .fs e k l):c.reads b' w u:=by
  cases c with
  | fs e k l=>exact absurd rfl (hc e k l)
  | os k l=>obtain ⟨hk,A,c,e1,hr,hl⟩:=h;exact ⟨hk,A,c,e1,hr,fun h0 ad e2=>Nat.lt_of_lt_of_le (hl h0 ad e2) hb⟩
  | _=>exact h
theorem A0.lower {b b':Nat} {w:World} {c:A0} {u:Value} (h:c.reads b w u) (hb:b'≤b) (hno:c.noOs=true):c.reads b' w u:=by
  cases c with
  | os k l=>cases hno
  | fs e k l=>exact ⟨h.1,h.2.1,Kd.R_lower h.2.2 hb⟩
  | _=>exact h
def A0.weak0:A0→A0
  | .fs _ k l => .sl k l
  | .os k l => .sl k l
  | c=>c
theorem A0.weak0_reads {b b':Nat} {w:World} {c:A0} {u:Value} (h:c.reads b w u):c.weak0.reads b' w u:=by
  cases c with
  | fs e k l =>
    obtain ⟨A,c,e1,h1,h2⟩:=Kd.R_reads h.2.2
    exact ⟨h.1,A,c,e1,h1,h2⟩
  | os k l=>obtain ⟨hk,A,c,e1,hr,_⟩:=h;exact ⟨hk,A,c,e1,hr⟩
  | _=>exact h
structure Far (w w1:World) (g:Option Nat):Prop where
  old:∀ k,k<w.heap.size→some k≠g→w1.heap[k]?=w.heap[k]?
  box:∀ k,g=some k→∃ arr t,w.heap[k]?=some (.cells arr t (0,0))∧(∀ x∈arr,okCell x=true)∧∃ arr',w1.heap[k]?=some (.cells arr' t (0,0))∧arr'.size=arr.size
  raw:∀ k,g=some k→∃ arr t,w.heap[k]?=some (.cells arr t (0,0))∧rawT t=false
theorem RdK.far {w w1:World} {k:IntKind} {l:List Int} {A:Option Addr} {c:Nat} {g:Option Nat} (h:RdK w k l A c) (hk:unsg k=true) (hf:Far w w1 g):RdK w1 k l A c:=by
  refine ⟨h.1,h.2.1,h.2.2.1,fun hn=>?_⟩
  obtain ⟨ad,e,hc⟩:=h.2.2.2 hn
  refine ⟨ad,e,fun j p hj=>?_⟩
  obtain ⟨cs,h1,h2,h3⟩:=hc j p hj
  refine ⟨cs,h1,h2,fun i u hu=>?_⟩
  have h4:=h3 i u hu
  have hb:=World.block_lt_of_cell? w _ h4
  by_cases hg:some (ad.add (j*(Kd.int k).sz+i)).block=g
  · exfalso
    obtain ⟨arr,t,ha,hok,_⟩:=hf.box _ hg.symm
    have e2:cs=[.int k p]:=h2
    have e3:u = .int k p:=by
      rw [e2] at hu
      cases i with
      | zero=>simpa using hu.symm
      | succ i=>simp at hu
    rw [e3] at h4
    unfold World.cell? at h4
    rw [ha] at h4
    dsimp only at h4
    split at h4
    · cases h4
    · have:=hok _ (Array.mem_of_getElem? h4)
      simp [okCell,hk] at this
  · rw [World.cell?_of_block (w:=w) (hf.old _ hb hg)]
    exact h4
theorem A0.far {base:Nat} {w w1:World} {c:A0} {u:Value} {g:Option Nat} (h:c.reads base w u) (hf:Far w w1 g):c.reads base w1 u:=by
  cases c with
  | v x=>exact h
  | sl k l=>obtain ⟨hk,A,c,e,hr⟩:=h;exact ⟨hk,A,c,e,hr.far hk hf⟩
  | os k l=>obtain ⟨hk,A,c,e,hr,hl⟩:=h;exact ⟨hk,A,c,e,hr.far hk hf,hl⟩
  | fs e k l =>
    obtain ⟨hk,he,hr⟩:=h
    refine ⟨hk,he,Kd.R_mono (Kd.R_move (Kd.R_bound hr) (fun k1 hk1=>hf.old k1 hk1.2.2.1 (fun hg=>?_))) (fun _ _=>trivial)⟩
    obtain ⟨arr,t,ha,hraw⟩:=hf.raw _ hg.symm
    obtain ⟨_,_,_,q,hq,cells,hc⟩:=hk1
    have hq':q=e:=by simpa [Kd.int,Kd.scalar] using hq
    rw [ha] at hc
    cases hc
    rw [hq',he] at hraw
    cases hraw
  | neg x=>exact h
  | mag x=>obtain ⟨A,c,e,hr⟩:=h;exact ⟨A,c,e,hr.far rfl hf⟩
  | ls n=>exact h
theorem Far.below {w w1:World} (h:Below w.heap.size w w1):Far w w1 none:=⟨fun k hk _=>h.block k hk,fun k e=>(by cases e),fun k e=>(by cases e)⟩
theorem setCell_heap {w:World} {p:Addr} {v:Value} {arr:Array Value} {ty:TypeId} (ha:w.heap[p.block]?=some (.cells arr ty (0,0))) (hs:p.spot=none):(w.setCell p v).heap[p.block]?=some (.cells (arr.setIfInBounds p.off v) ty (0,0)):=by
  have hlt:=(Array.getElem?_eq_some_iff.1 ha).1
  unfold World.setCell
  simp only [Array.getElem?_modify,ha,Option.map_some,if_true,hs]
  simp
theorem Far.store {w:World} {p:Addr} {v:Value} {arr:Array Value} {t:TypeId} (h:w.heap[p.block]?=some (.cells arr t (0,0))) (hok:∀ x∈arr,okCell x=true) (hs:p.spot=none) (hraw:rawT t=false):Far w (w.setCell p v) (some p.block) :=
  ⟨fun k hk hne=>Below.heap_setCell w p v k (fun e=>hne (by rw [e])),fun k e=>(by cases e;exact ⟨arr,t,h,hok,_,setCell_heap h hs,by simp⟩),fun k e=>(by cases e;exact ⟨arr,t,h,hraw⟩)⟩
inductive All2 {α β:Type} (R:α→β→Prop):List α→List β→Prop where
  | nil:All2 R [] []
  | cons {a b l l'}:R a b→All2 R l l'→All2 R (a::l) (b::l')
inductive TV where
  | sc (c:A0)
  | agg (cs:List A0)
  | tup (l:List (Bool × List A0))
  | ptr (b off:Nat)
  | elem (k:IntKind) (l:List Int) (i:Int)
  | own (b off n sz:Nat)
  | gro (b n sz:Nat) (e:TypeId)
  | row (n:Nat) (cs:List A0)
  | rowF (n sz:Nat) (f:Nat→List A0)
  | rptr (cs:List A0)
  | clo (f:FuncId) (caps:List (List A0))
  | oclo (f:FuncId) (bs:List Nat)
  | cond (c:Bool) (x:TV)
def eraK:Nat:=1000000
def CellsAt (base:Nat) (w:World) (ad:Addr) (cs:List A0):Prop:=∀ i c,cs[i]?=some c→∃ x,w.cell? (ad.add i)=some x∧∀ N,base≤N→c.reads N w x
def part0 (base:Nat) (w:World) (x:Bool × List A0) (u:Value):Prop :=
  match x with
  | (true,cs)=>∃ us:List Value,u = .agg us.toArray∧All2 (A0.reads base w) cs us
  | (false,cs)=>∃ c,cs=[c]∧c.reads base w u
def FRef (w:World) (base:Nat) (cs:List A0) (u:Value):Prop:=∃ ad:Addr,u = .pointer (some ad)∧ad.block<base∧CellsAt base w ad cs
def TV.reads (β:Nat→Nat) (base:Nat) (w:World):TV→Value→Prop
  | .sc c,u=>c.reads (base+β eraK) w u
  | .agg cs,u=>part0 (base+β eraK) w (true,cs) u
  | .tup l,u=>∃ us:List Value,u = .tuple us.toArray∧All2 (part0 (base+β eraK) w) l us
  | .ptr b off,u=>u = .pointer (some ⟨β b,off,none⟩)
  | .elem k l i,u=>unsg k=true∧∃ ad:Addr,u = .pointer (some ad)∧0≤i∧i<(l.length:Int)∧∃ A c,RdK w k l (some A) c∧ad=A.add i.toNat
  | .own b off n sz,u=>∃ c,u = .slice (some ⟨β b,off,none⟩) n c∧n≤c
  | .gro b n sz ty,u=>∃ c arr,u = .slice (some ⟨β b,0,none⟩) n c∧n≤c∧c≤maxLen∧w.heap[β b]?=some (.cells arr ty (0,0))∧arr.size=c*sz
  | .row n cs,u=>∃ A c,u = .slice A n c∧n≤c∧(0<n→∃ ad:Addr,A=some ad∧ad.block<base∧CellsAt base w ad cs)
  | .rowF n sz f,u=>∃ A c,u = .slice A n c∧n≤c∧(0<n→∃ ad:Addr,A=some ad∧ad.block<base∧∀ i,i<n→CellsAt base w (ad.add (i*sz)) (f i))
  | .rptr cs,u=>FRef w base cs u
  | .clo f caps,u=>∃ us:List Value,u = .func (.func f) #[] us.toArray∧All2 (FRef w base) caps us
  | .oclo f bs,u=>u = .func (.func f) #[] (bs.map fun b=>Value.pointer (some ⟨β b,0,none⟩)).toArray
  | .cond c x,u=>(c=true→x.reads β base w u)∧(c=false→u=undef)
def TV.refs:TV→List Nat
  | .ptr b _=>[b]
  | .own b _ _ _=>[b]
  | .gro b _ _ _=>[b]
  | .oclo _ bs=>bs
  | .cond _ x=>x.refs
  | _=>[]
theorem CellsAt.up {b b':Nat} {w:World} {ad:Addr} {cs:List A0} (h:CellsAt b w ad cs) (hb:b≤b'):CellsAt b' w ad cs:=fun i c hi=>by
  obtain ⟨x,hx,hr⟩:=h i c hi
  exact ⟨x,hx,fun N hN=>hr N (Nat.le_trans hb hN)⟩
theorem CellsAt.far {w w1:World} {ad:Addr} {cs:List A0} {g:Option Nat} {base:Nat} (h:CellsAt base w ad cs) (hb:ad.block<base) (hf:Far w w1 g) (hg:∀ k,g=some k→base≤k):CellsAt base w1 ad cs:=by
  intro i c hi
  obtain ⟨x,hx,hr⟩:=h i c hi
  refine ⟨x,?_,fun N hN=>A0.far (hr N hN) hf⟩
  have hlt:=World.block_lt_of_cell? w _ hx
  have e:(ad.add i).block=ad.block:=by unfold Addr.add;split<;>rfl
  rw [World.cell?_of_block (w:=w) (hf.old _ hlt (fun he=>by have:=hg _ he.symm;omega))]
  exact hx
theorem All2.imp {α β:Type} {R S:α→β→Prop} (h:∀ a b,R a b→S a b):∀ {l:List α} {l':List β},All2 R l l'→All2 S l l'
  | [],_,h'=>by cases h';exact .nil
  | a::l,_,h'=>by
    cases h' with
    | cons hx hr=>exact .cons (h _ _ hx) (All2.imp h hr)
theorem part0.far {base:Nat} {w w1:World} {x:Bool × List A0} {u:Value} {g:Option Nat} (h:part0 base w x u) (hf:Far w w1 g):part0 base w1 x u:=by
  obtain ⟨b,cs⟩:=x
  cases b with
  | true=>obtain ⟨us,e,hr⟩:=h;exact ⟨us,e,All2.imp (fun _ _ h=>A0.far h hf) hr⟩
  | false=>obtain ⟨c,e,hr⟩:=h;exact ⟨c,e,A0.far hr hf⟩
theorem FRef.far {w w1:World} {base:Nat} {cs:List A0} {u:Value} {g:Option Nat} (h:FRef w base cs u) (hf:Far w w1 g) (hg:∀ k,g=some k→base≤k):FRef w1 base cs u:=by
  obtain ⟨ad,e,hb,hc⟩:=h
  exact ⟨ad,e,hb,hc.far hb hf hg⟩
theorem TV.far {β:Nat→Nat} {base:Nat} {w w1:World} {g:Option Nat} (hf:Far w w1 g) (hg:∀ k,g=some k→base≤k):∀ {x:TV} {u:Value},x.reads β base w u→x.reads β base w1 u
  | .sc c,u,h=>A0.far h hf
  | .agg cs,u,h=>part0.far h hf
  | .tup l,u,⟨us,e,h⟩=>⟨us,e,All2.imp (fun _ _ h=>part0.far h hf) h⟩
  | .ptr b off,u,h=>h
  | .elem k l i,u,⟨hk,ad,e,h0,h1,A,c,hr,ha⟩=>⟨hk,ad,e,h0,h1,A,c,hr.far hk hf,ha⟩
  | .own b off n sz,u,h=>h
  | .gro b n sz ty,u,⟨c,arr,e,h1,h2,ha,hs⟩=>by
    by_cases hk:some (β b)=g
    · obtain ⟨arr1,t1,h3,_,arr',h4,h5⟩:=hf.box _ hk.symm
      rw [ha] at h3;cases h3
      exact ⟨c,arr',e,h1,h2,h4,by omega⟩
    · exact ⟨c,arr,e,h1,h2,by rw [hf.old _ (Array.getElem?_eq_some_iff.1 ha).1 hk];exact ha,hs⟩
  | .row n cs,u,⟨A,c,e,hn,h⟩=>⟨A,c,e,hn,fun h0=>by
      obtain ⟨ad,ea,hb,hc⟩:=h h0
      exact ⟨ad,ea,hb,hc.far hb hf hg⟩⟩
  | .rowF n sz f,u,⟨A,c,e,hn,h⟩=>⟨A,c,e,hn,fun h0=>by
      obtain ⟨ad,ea,hb,hc⟩:=h h0
      refine ⟨ad,ea,hb,fun i hi=>(hc i hi).far ?_ hf hg⟩
      unfold Addr.add;split<;>exact hb⟩
  | .rptr cs,u,h=>FRef.far h hf hg
  | .clo f caps,u,⟨us,e,h⟩=>⟨us,e,All2.imp (fun _ _ h=>FRef.far h hf hg) h⟩
  | .oclo f bs,u,h=>h
  | .cond c x,u,h=>⟨fun hc=>TV.far hf hg (h.1 hc),h.2⟩
theorem TV.map {β β':Nat→Nat} {base:Nat} {w:World}:∀ {x:TV} {u:Value},(∀ b∈x.refs,β' b=β b)→β' eraK=β eraK→x.reads β base w u→x.reads β' base w u
  | .sc c,u,_,hk,h=>by
    show c.reads (base+β' eraK) w u
    rw [hk];exact h
  | .agg cs,u,_,hk,h=>by
    show part0 (base+β' eraK) w (true,cs) u
    rw [hk];exact h
  | .tup l,u,_,hk,⟨us,e,h⟩=>by
    refine ⟨us,e,?_⟩
    rw [hk];exact h
  | .ptr b off,u,hb,hk,h=>by
    show u=_
    rw [hb b (by simp [TV.refs])];exact h
  | .elem k l i,u,_,_,h=>h
  | .own b off n sz,u,hb,hk,⟨c,e,hc⟩=>⟨c,by rw [hb b (by simp [TV.refs])];exact e,hc⟩
  | .gro b n sz ty,u,hb,hk,⟨c,arr,e,h1,h2,ha,hs⟩=>⟨c,arr,by rw [hb b (by simp [TV.refs])];exact e,h1,h2,by rw [hb b (by simp [TV.refs])];exact ha,hs⟩
  | .row n cs,u,_,_,h=>h
  | .rowF n sz f,u,_,_,h=>h
  | .rptr cs,u,_,_,h=>h
  | .clo f caps,u,_,_,h=>h
  | .oclo f bs,u,hb,hk,h=>by
    show u=_
    rw [show u=_ from h]
    congr 2
    refine List.map_congr_left (fun b hm=>?_)
    rw [hb b hm]
  | .cond c x,u,hb,hk,h=>⟨fun hc=>TV.map (x:=x) hb hk (h.1 hc),h.2⟩
structure St where
  g:Nat→Option TV
  m:Nat→Nat→Option A0
  T:Nat→Option TypeId
def upd {α:Type} (f:Nat→α) (k:Nat) (v:α):Nat→α:=fun i=>if i=k then v else f i
def upd2 {α:Type} (f:Nat→Nat→α) (b o:Nat) (v:α):Nat→Nat→α:=fun i j=>if i=b∧j=o then v else f i j
structure Sat (base:Nat) (w0:World) (n:Nat) (β:Nat→Nat) (s:St) (a:Act) (w:World):Prop where
  tm:∀ t x,s.g t=some x→x.reads β base w (a.tmps.getD t undef)
  box:∀ b ty,s.T b=some ty→base≤β b∧∃ arr,w.heap[β b]?=some (.cells arr ty (0,0))∧(∀ x∈arr,okCell x=true)∧∀ off c,s.m b off=some c→∃ x,arr[off]?=some x∧c.reads (base+β eraK) w x
  era:base+β eraK≤w.heap.size
  raw:∀ b ty,s.T b=some ty→rawT ty=false
  has:∀ b off,s.m b off≠none→s.T b≠none
  inj:∀ b b',s.T b≠none→s.T b'≠none→β b=β b'→b=b'
  refs:∀ t x,s.g t=some x→∀ b∈x.refs,s.T b≠none
  below:Below w0.heap.size w0 w
  base_eq:base=w0.heap.size
  defers:a.defers=[]
  size:a.tmps.size=n
def SatE (base:Nat) (w0:World) (n:Nat) (s:St) (a:Act) (w:World):Prop:=∃ β,Sat base w0 n β s a w
theorem getD_set {tm:Array Value} {d:Nat} {v:Value} (hd:d<tm.size) (t:Nat):(tm.setIfInBounds d v).getD t undef=if t=d then v else tm.getD t undef:=by
  rw [Array.getD_eq_getD_getElem?,Array.getD_eq_getD_getElem?]
  by_cases h:t=d
  · subst h;simp [hd]
  · rw [Array.getElem?_setIfInBounds_ne (by omega),if_neg h]
theorem Sat.put {base:Nat} {w0:World} {n:Nat} {β:Nat→Nat} {s:St} {a:Act} {w:World} (h:Sat base w0 n β s a w) {d:Nat} (hd:d<n) {v:Value} {x:Option TV} (hx:∀ y,x=some y→y.reads β base w v∧∀ b∈y.refs,s.T b≠none) :
    Sat base w0 n β { s with g:=upd s.g d x } (a.put (some d) v) w:=by
  refine { tm:=fun t y hy=>?_,box:=h.box,era:=h.era,raw:=h.raw,has:=h.has,inj:=h.inj,refs:=fun t y hy=>?_,below:=h.below,base_eq:=h.base_eq,defers:=h.defers,size:=by simp [Act.put,h.size] }
  · show y.reads β base w ((a.tmps.setIfInBounds d v).getD t undef)
    rw [getD_set (by rw [h.size];exact hd)]
    simp only [upd] at hy
    by_cases e:t=d
    · rw [if_pos e] at hy ⊢;exact (hx y hy).1
    · rw [if_neg e] at hy ⊢;exact h.tm t y hy
  · simp only [upd] at hy
    by_cases e:t=d
    · rw [if_pos e] at hy;exact (hx y hy).2
    · rw [if_neg e] at hy;exact h.refs t y hy
theorem Sat.grow {base:Nat} {w0:World} {n:Nat} {β:Nat→Nat} {s:St} {a:Act} {w w1:World} (h:Sat base w0 n β s a w) (hb:Below w.heap.size w w1):Sat base w0 n β s a w1:=by
  have hf:=Far.below hb
  refine { tm:=fun t x hx=>TV.far hf (fun k e=>by cases e) (h.tm t x hx),box:=fun b ty hT=>?_,era:=Nat.le_trans h.era hb.size,raw:=h.raw,has:=h.has,inj:=h.inj,refs:=h.refs,below:=below_then h.below h.below.size hb,base_eq:=h.base_eq,defers:=h.defers,size:=h.size }
  obtain ⟨h1,arr,ha,hok,hc⟩:=h.box b ty hT
  refine ⟨h1,arr,?_,hok,fun off c hm=>?_⟩
  · rw [hb.block _ (Array.getElem?_eq_some_iff.1 ha).1];exact ha
  · obtain ⟨x,hx,hr⟩:=hc off c hm
    exact ⟨x,hx,A0.far hr hf⟩
theorem Sat.made {base:Nat} {w0:World} {n:Nat} {β:Nat→Nat} {s:St} {a:Act} {w:World} (h:Sat base w0 n β s a w) {b:Nat} (hb:s.T b=none) {g:Nat} (hg:w0.heap.size≤g) (hne:∀ b',s.T b'≠none→β b'≠g) {arr:Array Value} {ty:TypeId} (ha:w.heap[g]?=some (.cells arr ty (0,0))) (hok:∀ x∈arr,okCell x=true) (hraw:rawT ty=false) (hbk:b≠eraK)
    {cs:Nat→Option A0} (hcs:∀ off c,cs off=some c→∃ x,arr[off]?=some x∧c.reads (base+β eraK) w x) :
    Sat base w0 n (upd β b g) { s with m:=fun b' off=>if b'=b then cs off else s.m b' off,T:=upd s.T b (some ty) } a w:=by
  have hkk:upd β b g eraK=β eraK:=by simp only [upd];rw [if_neg (fun e=>hbk e.symm)]
  have hk2:(if eraK=b then g else β eraK)=β eraK:=if_neg (fun e=>hbk e.symm)
  refine { tm:=fun t x hx=>TV.map (fun b' hb'=>?_) hkk (h.tm t x hx),box:=fun b' ty' hT=>?_,era:=(by rw [hkk];exact h.era),raw:=fun b' ty' hT=>(by
    simp only [upd] at hT
    by_cases e:b'=b
    · rw [if_pos e] at hT;cases hT;exact hraw
    · rw [if_neg e] at hT;exact h.raw b' ty' hT),has:=fun b' off hm=>?_,inj:=fun b1 b2 h1 h2 he=>?_,refs:=fun t x hx b' hb'=>?_,below:=h.below,base_eq:=h.base_eq,defers:=h.defers,size:=h.size }
  · have:=h.refs t x hx b' hb'
    simp only [upd]
    rw [if_neg]
    rintro rfl;exact this hb
  · simp only [upd] at hT ⊢
    by_cases e:b'=b
    · rw [if_pos e] at hT ⊢
      cases hT
      refine ⟨by rw [h.base_eq];exact hg,arr,ha,hok,fun off c hm=>?_⟩
      rw [if_pos e] at hm
      rw [hk2];exact hcs off c hm
    · rw [if_neg e] at hT ⊢
      obtain ⟨h1,arr',h2,h3,h4⟩:=h.box b' ty' hT
      refine ⟨h1,arr',h2,h3,fun off c hm=>?_⟩
      rw [if_neg e] at hm
      rw [hk2];exact h4 off c hm
  · simp only [upd]
    by_cases e:b'=b
    · rw [if_pos e];simp
    · rw [if_neg e]
      refine h.has b' off ?_
      simp only [if_neg e] at hm
      exact hm
  · simp only [upd] at h1 h2 he
    by_cases e1:b1=b<;>by_cases e2:b2=b
    · rw [e1,e2]
    · rw [if_pos e1,if_neg e2] at he
      rw [if_neg e2] at h2
      exact absurd he.symm (hne _ h2)
    · rw [if_neg e1,if_pos e2] at he
      rw [if_neg e1] at h1
      exact absurd he (hne _ h1)
    · rw [if_neg e1,if_neg e2] at he
      rw [if_neg e1] at h1
      rw [if_neg e2] at h2
      exact h.inj b1 b2 h1 h2 he
  · have:=h.refs t x hx b' hb'
    simp only [upd]
    split
    · simp
    · exact this
theorem Sat.store {base:Nat} {w0:World} {n:Nat} {β:Nat→Nat} {s:St} {a:Act} {w:World} (h:Sat base w0 n β s a w) {b off:Nat} (hm:s.m b off≠none) {c:A0} {v:Value} (hr:c.reads (base+β eraK) w v) (hc:okA c=true) :
    (∃ x,w.cell? ⟨β b,off,none⟩=some x)∧w.frozen? ⟨β b,off,none⟩=false ∧
    Sat base w0 n β { s with m:=upd2 s.m b off (some c) } a (w.setCell ⟨β b,off,none⟩ v):=by
  obtain ⟨ty,hT⟩:=Option.ne_none_iff_exists'.1 (h.has b off hm)
  obtain ⟨h1,arr,ha,hok,hcs⟩:=h.box b ty hT
  obtain ⟨c0,hm0⟩:=Option.ne_none_iff_exists'.1 hm
  obtain ⟨x0,hx0,_⟩:=hcs off c0 hm0
  have hlt:off<arr.size:=(Array.getElem?_eq_some_iff.1 hx0).1
  have hv:okCell v=true:=okA_reads hr hc
  have hf:Far w (w.setCell ⟨β b,off,none⟩ v) (some (β b)):=Far.store (p:=⟨β b,off,none⟩) ha hok rfl (h.raw b ty hT)
  have hfg:∀ k,some (β b)=some k→base≤k:=fun k e=>by cases e;exact h1
  have ha':=setCell_heap (w:=w) (p:=⟨β b,off,none⟩) (v:=v) ha rfl
  refine ⟨⟨x0,by unfold World.cell?;rw [ha];exact hx0⟩,by unfold World.frozen?;rw [ha];simp,?_⟩
  refine { tm:=fun t x hx=>TV.far hf hfg (h.tm t x hx),box:=fun b' ty' hT'=>?_,era:=(by have:=h.era;simpa [World.setCell] using this),raw:=h.raw,has:=fun b' off' hm'=>?_,inj:=h.inj,refs:=h.refs,below:=h.below.setCell (by rw [← h.base_eq];exact h1) _,base_eq:=h.base_eq,defers:=h.defers,size:=h.size }
  · obtain ⟨h1',arr',h2',h3',h4'⟩:=h.box b' ty' hT'
    refine ⟨h1',?_⟩
    by_cases e:b'=b
    · subst e
      rw [h2'] at ha
      cases ha
      refine ⟨arr.setIfInBounds off v,ha',fun x hx=>?_,fun off' c' hm'=>?_⟩
      · rcases Array.mem_or_eq_of_mem_setIfInBounds hx with hx|rfl
        · exact hok x hx
        · exact hv
      · simp only [upd2] at hm'
        by_cases eo:off'=off
        · subst eo
          rw [if_pos (by simp)] at hm'
          cases hm'
          exact ⟨v,by simp [hlt],A0.far hr hf⟩
        · rw [if_neg (by simp [eo])] at hm'
          obtain ⟨x,hx,hrx⟩:=hcs off' c' hm'
          exact ⟨x,by rw [Array.getElem?_setIfInBounds_ne (by omega)];exact hx,A0.far hrx hf⟩
    · refine ⟨arr',?_,h3',fun off' c' hm'=>?_⟩
      · have hne:β b'≠β b:=fun he=>e (h.inj b' b (by rw [hT'];simp) (by rw [hT];simp) he)
        rw [Below.heap_setCell w ⟨β b,off,none⟩ v (β b') hne];exact h2'
      · simp only [upd2] at hm'
        rw [if_neg (by simp [e])] at hm'
        obtain ⟨x,hx,hrx⟩:=h4' off' c' hm'
        exact ⟨x,hx,A0.far hrx hf⟩
  · simp only [upd2] at hm'
    by_cases e:b'=b∧off'=off
    · rw [e.1,hT];simp
    · rw [if_neg e] at hm'
      exact h.has b' off' hm'
theorem Sat.weaken {base:Nat} {w0:World} {n:Nat} {β:Nat→Nat} {s s':St} {a:Act} {w:World} (h:Sat base w0 n β s a w) (hg:∀ t x,s'.g t=some x→s.g t=some x) (hm:∀ b o x,s'.m b o=some x→s.m b o=some x) (hT:∀ b x,s'.T b=some x→s.T b=some x)
    (hr:∀ t x,s'.g t=some x→∀ b∈x.refs,s'.T b≠none) (hh:∀ b off,s'.m b off≠none→s'.T b≠none):Sat base w0 n β s' a w:=by
  have hT':∀ b,s'.T b≠none→s.T b≠none:=fun b hb=>by
    obtain ⟨x,hx⟩:=Option.ne_none_iff_exists'.1 hb
    rw [hT b x hx];simp
  refine { tm:=fun t x hx=>h.tm t x (hg t x hx),box:=fun b ty hb=>?_,era:=h.era,raw:=fun b ty hb=>h.raw b ty (hT b ty hb),has:=hh,inj:=fun b b' h1 h2=>h.inj b b' (hT' b h1) (hT' b' h2),refs:=hr,below:=h.below,base_eq:=h.base_eq,defers:=h.defers,size:=h.size }
  obtain ⟨h1,arr,h2,h3,h4⟩:=h.box b ty (hT b ty hb)
  exact ⟨h1,arr,h2,h3,fun off c hc=>h4 off c (hm b off c hc)⟩
structure TIn where
  agg:Bool
  size:Nat
  zero:Option (List A0):=none
  offs:List (Nat × TypeId):=[]
  int:Option IntKind:=none
  elt:Option (Option Nat × TypeId):=none
  bl:Bool:=false
  bytes:Nat:=0
inductive CR where
  | tv (x:TV)
  | new (ty:TypeId) (n sz:Nat) (cs:List A0)
structure Cx where
  ti:TypeId→TIn
  K:FuncId→List TV→Option (Prop × CR)
  eqs:TypeId→List A0→List A0→Option Bool
  kn:FuncId→Nat
  KW:FuncId→List A0→List TV→Option (Prop × List A0 × TV)
def TV.plain:TV→Bool
  | .sc c=>c.noOs
  | .agg cs=>cs.all A0.noOs
  | .tup l=>l.all fun p=>p.2.all A0.noOs
  | _=>false
structure Eff where
  pre:Prop
  val:Option TV:=none
  rd:List (Nat × Nat):=[]
  wr:List (Nat × Nat × A0):=[]
  new:Option (TypeId × List A0):=none
  kill:Option Nat:=none
def getv (g:Nat→Option TV):Operand→Option TV
  | .tmp t=>g t
  | .const v=>some (.sc (.v v))
  | .func f=>some (.clo f [])
  | .global _=>none
def forceG:Option TV→Option (Prop × TV)
  | some (.cond c (.cond _ _))=>none
  | some (.cond c y)=>some (c=true,y)
  | some y=>some (True,y)
  | none=>none
def TV.ung:TV→TV
  | .gro b n sz _ => .own b 0 n sz
  | x=>x
def force (v:Option TV):Option (Prop × TV) :=
  match forceG v with
  | some (p,y)=>some (p,y.ung)
  | none=>none
def forces:List (Option TV)→Option (Prop × List TV)
  | []=>some (True,[])
  | x::r =>
    match force x,forces r with
    | some (p,y),some (q,ys)=>some (p∧q,y::ys)
    | _,_=>none
def A0.val?:A0→Option Value
  | .v x=>some x
  | .neg x=>some (.bool (sgn x))
  | _=>none
def TV.val?:TV→Option Value
  | .sc c=>c.val?
  | _=>none
def TV.asSl:TV→Option (IntKind × List Int)
  | .sc (.sl k l)=>if unsg k then some (k,l) else none
  | .sc (.mag x)=>some (.u64,lm x)
  | .sc (.fs _ k l)=>if unsg k then some (k,l) else none
  | .sc (.os k l)=>if unsg k then some (k,l) else none
  | _=>none
def TV.cells:TV→Option (List A0)
  | .sc (.v (.agg _))=>none
  | .sc (.v (.tuple _))=>none
  | .sc c=>some [c]
  | .agg cs=>some cs
  | _=>none
def allSome {α:Type}:List (Option α)→Option (List α)
  | []=>some []
  | none::_=>none
  | some x::r=>match allSome r with
    | some l=>some (x::l)
    | none=>none
def span (b off n:Nat):List (Nat × Nat):=(List.range' off n).map fun i=>(b,i)
def toArg1:TV→List (Nat × Nat)
  | .own b off n sz=>span b off (n*sz)
  | .oclo _ bs=>bs.flatMap fun b=>span b 0 12
  | _=>[]
def isApp:Callee→Bool
  | .builtin .append=>true
  | _=>false
def reqApp (vs:List (Option TV)):List (Nat × Nat) :=
  match vs with
  | [v,u]=>match forceG v,force u with
    | some (_,.gro b n sz _),some (_,.own b' off m sz')=>span b 0 (n*sz)++span b' off (m*sz')
    | some (_,.sc _),some (_,.own b' off m sz')=>span b' off (m*sz')
    | _,_=>[]
  | _=>[]
def reqC (X:Cx) (y:TV) (ays:List TV):List (Nat × Nat) :=
  match y,ays with
  | .clo f _,.ptr b 0::rest=>span b 0 (X.kn f)++rest.flatMap toArg1
  | _,_=>ays.flatMap toArg1
def req (X:Cx) (o:Oper) (vs:List (Option TV)):List (Nat × Nat) :=
  match o.op,vs with
  | .load T _,[v]=>match force v with
    | some (_,.ptr b off)=>span b off (X.ti T).size
    | _=>[]
  | .store T _ _,[v,_]=>match force v with
    | some (_,.ptr b off)=>span b off (X.ti T).size
    | _=>[]
  | .call c,vs=>match isApp c.callee with
    | true=>reqApp vs
    | false=>match c.callee,forces vs with
      | .value _,some (_,y::ays)=>reqC X y ays
      | _,_=>[]
  | _,_=>[]
def someTake (l:List (Option A0)):List A0:=l.foldr (fun x r=>match x with|some y=>y::r|none=>[]) []
def chunks:Nat→List (Option A0)→List (List A0)
  | 0,_=>[]
  | n+1,l=>someTake (l.take 12)::chunks n (l.drop 12)
abbrev A0.weak:A0→A0:=A0.weak0
def TV.weak:TV→TV
  | .sc c => .sc c.weak
  | .agg cs => .agg (cs.map A0.weak)
  | .tup l => .tup (l.map fun p=>(p.1,p.2.map A0.weak))
  | x=>x
def toArgs:List TV→List (Option A0)→Option (List TV)
  | [],_=>some []
  | .own b off n sz::r,cs=>match allSome (cs.take (n*sz)),toArgs r (cs.drop (n*sz)) with
    | some l,some ays=>some (.row n (l.map A0.weak)::ays)
    | _,_=>none
  | .oclo f bs::r,cs=>match toArgs r (cs.drop (bs.length*12)) with
    | some ays=>some (.clo f ((chunks bs.length cs).map (·.map A0.weak))::ays)
    | none=>none
  | .ptr _ _::_,_=>none
  | .gro _ _ _ _::_,_=>none
  | .elem _ _ _::_,_=>none
  | .cond _ _::_,_=>none
  | x::r,cs=>match toArgs r cs with
    | some ays=>some (x.weak::ays)
    | none=>none
def intOp (op:BinOp) (k:IntKind) (a b:Int):Option (Prop × Value) :=
  match op with
  | .add=>some (True,.int k (k.wrap (a+b)))
  | .sub=>some (True,.int k (k.wrap (a-b)))
  | .mul=>some (True,.int k (k.wrap (a*b)))
  | .quo=>some (b≠0,.int k (k.wrap (a.tdiv b)))
  | .rem=>some (b≠0,.int k (a.tmod b))
  | .or=>some (True,.int k (Go.bits .or k a b))
  | .and=>some (True,.int k (Go.bits .and k a b))
  | .xor=>some (True,.int k (Go.bits .xor k a b))
  | .eql=>some (True,.bool (a == b))
  | .neq=>some (True,.bool (a != b))
  | .lss=>some (True,.bool (decide (a<b)))
  | .leq=>some (True,.bool (decide (a≤b)))
  | .gtr=>some (True,.bool (decide (a>b)))
  | .geq=>some (True,.bool (decide (a≥b)))
  | _=>none
def shOp (op:BinOp) (k:IntKind) (a b:Int):Option (Prop × Value) :=
  match op with
  | .shl=>some (0≤b,.int k (k.wrap (a*2 ^ min b.toNat k.bits)))
  | .shr=>some (0≤b,.int k (a.fdiv (2 ^ min b.toNat k.bits)))
  | _=>none
def isSh:BinOp→Bool
  | .shl=>true | .shr=>true|_=>false
def ofPart:Bool × List A0→Option TV
  | (true,cs)=>some (.agg cs)
  | (false,[c])=>some (.sc c)
  | _=>none
def putAll0 (cs:List A0) (off:Nat):List A0→List A0
  | []=>cs
  | y::r=>putAll0 (cs.set off y) (off+1) r
def fillAll (place:Nat→Option (Nat × Nat)) (cs:List A0):List (Nat × TV)→Option (List A0)
  | []=>some cs
  | (i,y)::r =>
    match place i,y.cells with
    | some (off,size),some ys=>if ys.length=size∧off+ys.length≤cs.length then fillAll place (putAll0 cs off ys) r else none
    | _,_=>none
def pk:Option TV→Option (Option Bool × Bool)
  | some (.cond c y)=>match y.val? with
    | some (.bool x)=>some (some c,x)
    | _=>none
  | some y=>match y.val? with
    | some (.bool x)=>some (none,x)
    | _=>none
  | none=>none
def condOk:Option Bool→Prop
  | none=>True
  | some b=>b=true
def finApp (X:Cx) (tys:List TypeId) (dst:Option Tmp) (vs:List (Option TV)) (cs:List (Option A0)):Option Eff :=
  match vs,tys,dst with
  | [v,u],[T,T'],some d=>match forceG v,force u,(X.ti T).elt with
    | some (p,.gro b n sz e'),some (q,.own b' off m sz'),some (none,e)=>match allSome cs,(X.ti e).zero with
      | some l,some zs=>if T'=T∧e'=e∧sz=(X.ti e).size∧sz'=sz∧0<sz∧zs.length=sz∧0<m∧n+m≤1000000∧(n+m)*(X.ti e).bytes≤140737488355328∧l.all okA=true then some { pre:=p∧q,val:=some (.gro d (n+m) sz e),new:=some (e,l),kill:=some b } else none
      | _,_=>none
    | some (p,.sc c),some (q,.own b' off m sz'),some (none,e)=>match c.val?,allSome cs,(X.ti e).zero with
      | some (.slice none 0 0),some l,some zs=>if T'=T∧sz'=(X.ti e).size∧0<sz'∧zs.length=sz'∧0<m∧m≤1000000∧m*(X.ti e).bytes≤140737488355328∧l.all okA=true then some { pre:=p∧q,val:=some (.gro d m sz' e),new:=some (e,l) } else none
      | _,_,_=>none
    | _,_,_=>none
  | _,_,_=>none
def finW (X:Cx) (p:Prop) (f:FuncId) (caps:List (List A0)) (ays:List TV) (cs:List (Option A0)):Option Eff :=
  match caps,ays with
  | [],.ptr b 0::rest=>match allSome (cs.take (X.kn f)),toArgs rest (cs.drop (X.kn f)) with
    | some l,some rest'=>match X.KW f (l.map A0.weak) rest' with
      | some (q,l',r)=>if r.plain=true∧l'.length=X.kn f∧l'.all A0.noOs=true then some { pre:=p∧q,val:=some r,rd:=span b 0 (X.kn f)++rest.flatMap toArg1,wr:=(span b 0 (X.kn f)).zipWith (fun p y=>(p.1,p.2,y)) l' } else none
      | none=>none
    | _,_=>none
  | _,_=>none
def finCut (X:Cx) (T:TypeId) (lo hi mx:Option Operand) (vs:List (Option TV)):Option Eff :=
  match mx,forces vs,(X.ti T).elt with
  | none,some (p,x::r),some (none,e)=>match x.asSl with
    | none=>none
    | some (k,l)=>if (X.ti e).size=1 then
      match lo,hi,r with
      | some _,some _,[.sc (.v (.int _ i)),.sc (.v (.int _ j))]=>some { pre:=p∧0≤i∧i≤j∧j≤(l.length:Int),val:=some (.sc (.sl k ((l.take j.toNat).drop i.toNat))) }
      | some _,none,[.sc (.v (.int _ i))]=>some { pre:=p∧0≤i∧i≤(l.length:Int),val:=some (.sc (.sl k (l.drop i.toNat))) }
      | none,some _,[.sc (.v (.int _ j))]=>some { pre:=p∧0≤j∧j≤(l.length:Int),val:=some (.sc (.sl k (l.take j.toNat))) }
      | _,_,_=>none
    else none
  | _,_,_=>none
def fin (X:Cx) (o:Oper) (vs:List (Option TV)) (cs:List (Option A0)):Option Eff :=
  match o.op,vs with
  | .move _,[v]=>match forceG v with
    | some (p,y)=>some { pre:=p,val:=some y }
    | none=>none
  | .assign _,[v]=>match forceG v with
    | some (p,y)=>some { pre:=p,val:=some y }
    | none=>none
  | .alloc T,[]=>match (X.ti T).zero,o.dst with
    | some zs,some d=>some { pre:=True,val:=some (.ptr d 0),new:=some (T,zs) }
    | _,_=>none
  | .box T _,[v]=>match force v,o.dst with
    | some (p,y),some d=>match y.cells with
      | some ys=>if ys.all okA then some { pre:=p,val:=some (.ptr d 0),new:=some (T,ys) } else none
      | none=>none
    | _,_=>none
  | .load T _,[v]=>match force v with
    | some (p,.ptr b off)=>match allSome cs,(X.ti T).agg with
      | some (c::l),true=>some { pre:=p,val:=some (.agg (c::l)),rd:=span b off (X.ti T).size }
      | some [c],false=>some { pre:=p,val:=some (.sc c),rd:=span b off (X.ti T).size }
      | _,_=>none
    | some (p,.rptr l)=>match (X.ti T).agg with
      | true=>if (l.take (X.ti T).size).length=(X.ti T).size∧0<(X.ti T).size then some { pre:=p,val:=some (.agg (l.take (X.ti T).size)) } else none
      | false=>match l,(X.ti T).size with
        | c::_,1=>some { pre:=p,val:=some (.sc c) }
        | _,_=>none
    | some (p,.elem k l i)=>match (X.ti T).agg,(X.ti T).size with
      | false,1=>some { pre:=p,val:=some (.sc (.v (.int k (rd l i)))) }
      | _,_=>none
    | _=>none
  | .store T _ _,[v,u]=>match force v,force u with
    | some (p,.ptr b off),some (q,y)=>match y.cells,allSome cs with
      | some ys,some _=>if ys.length=(X.ti T).size∧ys.all okA=true∧0<(X.ti T).size then some { pre:=p∧q,rd:=span b off (X.ti T).size,wr:=(span b off (X.ti T).size).zipWith (fun p y=>(p.1,p.2,y)) ys } else none
      | _,_=>none
    | _,_=>none
  | .fieldAddr T _ j,[v]=>match force v,(X.ti T).offs[j]? with
    | some (p,.ptr b off),some (d,_)=>some { pre:=p,val:=some (.ptr b (off+d)) }
    | some (p,.rptr l),some (d,_)=>some { pre:=p,val:=some (.rptr (l.drop d)) }
    | _,_=>none
  | .field T _ j,[v]=>match force v,(X.ti T).offs[j]? with
    | some (p,.agg l),some (d,ft)=>match (X.ti ft).agg,l[d]? with
      | true,_=>if 0<(X.ti ft).size then some { pre:=p,val:=some (.agg ((l.drop d).take (X.ti ft).size)) } else none
      | false,some c=>if (X.ti ft).size=1 then some { pre:=p,val:=some (.sc c) } else none
      | false,none=>none
    | _,_=>none
  | .indexAddr T _ _,[v,u]=>match force v,force u,(X.ti T).elt with
    | some (p,x),some (q,.sc (.v (.int ki i))),some (none,e)=>match x.asSl,x with
      | some (k,l),_=>if (X.ti e).size=1 then some { pre:=p∧q∧0≤i∧i<(l.length:Int),val:=some (.elem k l i) } else none
      | none,.own b off n sz=>if (X.ti e).size=sz∧0<sz then some { pre:=p∧q∧0≤i∧i<(n:Int),val:=some (.ptr b (off+i.toNat*sz)) } else none
      | none,.row n l=>if 0<(X.ti e).size then some { pre:=p∧q∧0≤i∧i<(n:Int),val:=some (.rptr (l.drop (i.toNat*(X.ti e).size))) } else none
      | none,.rowF n sz f=>if (X.ti e).size=sz∧0<sz then some { pre:=p∧q∧0≤i∧i<(n:Int),val:=some (.rptr (f i.toNat)) } else none
      | _,_=>none
    | some (p,.ptr b off),some (q,.sc (.v (.int ki i))),some (some len,e)=>if 0<(X.ti e).size then some { pre:=p∧q∧0≤i∧i<(len:Int),val:=some (.ptr b (off+i.toNat*(X.ti e).size)) } else none
    | some (p,.rptr l),some (q,.sc (.v (.int ki i))),some (some len,e)=>if 0<(X.ti e).size then some { pre:=p∧q∧0≤i∧i<(len:Int),val:=some (.rptr (l.drop (i.toNat*(X.ti e).size))) } else none
    | _,_,_=>none
  | .binOp op T _ _ _,[v,u]=>match force v,force u with
    | some (p,x),some (q,y)=>match x.val?,y.val? with
      | some (.int k a),some (.int k' b)=>match isSh op,decide (k=k') with
        | true,_=>match shOp op k a b with
          | some (r,z)=>some { pre:=p∧q∧r,val:=some (.sc (.v z)) }
          | none=>none
        | false,true=>match intOp op k a b with
          | some (r,z)=>some { pre:=p∧q∧r,val:=some (.sc (.v z)) }
          | none=>none
        | false,false=>none
      | some (.bool a),some (.bool b)=>match op,(X.ti T).bl with
        | .eql,true=>some { pre:=p∧q,val:=some (.sc (.v (.bool (a == b)))) }
        | .neq,true=>some { pre:=p∧q,val:=some (.sc (.v (.bool (!(a == b))))) }
        | _,_=>none
      | _,_=>match x,y with
        | .agg xs,.agg ys=>match op,X.eqs T xs ys with
          | .eql,some z=>some { pre:=p∧q,val:=some (.sc (.v (.bool z))) }
          | .neq,some z=>some { pre:=p∧q,val:=some (.sc (.v (.bool (!z)))) }
          | _,_=>none
        | _,_=>none
    | _,_=>none
  | .unOp op _ _,[v]=>match force v with
    | some (p,x)=>match op,x.val? with
      | .not,some (.bool b)=>some { pre:=p,val:=some (.sc (.v (.bool (!b)))) }
      | .neg,some (.int k n)=>some { pre:=p,val:=some (.sc (.v (.int k (k.wrap (0-n))))) }
      | _,_=>none
    | _=>none
  | .nilCheck _,[v]=>match force v with
    | some (p,.ptr b off)=>some { pre:=p,val:=some (.ptr b off) }
    | _=>none
  | .convert src dst _,[v]=>match force v with
    | some (p,x)=>match x.val?,(X.ti dst).int with
      | some (.int _ n),some k=>some { pre:=p,val:=some (.sc (.v (.int k (k.wrap n)))) }
      | _,_=>none
    | _=>none
  | .extract _ i,[v]=>match force v with
    | some (p,.tup l)=>match l[i]? with
      | some c=>match ofPart c with
        | some y=>some { pre:=p,val:=some y }
        | none=>none
      | none=>none
    | _=>none
  | .pick _ _ _,[v,a,b]=>match force v,pk a,pk b with
    | some (p,x),some (ca,xa),some (cb,xb)=>match x.val? with
      | some (.bool c)=>some { pre:=p∧(c=true→condOk ca)∧(c=false→condOk cb),val:=some (.sc (.v (.bool (bif c then xa else xb)))) }
      | _=>none
    | _,_,_=>none
  | .build T parts,vs=>match forces vs,(X.ti T).zero,(X.ti T).agg,(X.ti T).elt with
    | some (p,ys),some zs,true,none=>match fillAll (fun i=>((X.ti T).offs[i]?).map fun q=>(q.1,(X.ti q.2).size)) zs (List.zip (parts.toList.map (·.1)) ys) with
      | some l=>some { pre:=p,val:=some (.agg l) }
      | none=>none
    | some (p,ys),some zs,true,some (some _,e)=>match decide (0<(X.ti e).size),fillAll (fun i=>some (i*(X.ti e).size,(X.ti e).size)) zs (List.zip (parts.toList.map (·.1)) ys) with
      | true,some l=>some { pre:=p,val:=some (.agg l) }
      | _,_=>none
    | _,_,_,_=>none
  | .buildSlice T n parts,vs=>match forces vs,(X.ti T).elt,o.dst with
    | some (p,ys),some (none,e),some d=>match (X.ti e).zero with
      | some zs=>match fillAll (fun i=>some (i*(X.ti e).size,(X.ti e).size)) ((List.replicate n zs).flatten) (List.zip (parts.toList.map (·.1)) ys) with
        | some l=>if l.all okA=true∧0<(X.ti e).size∧zs.length=(X.ti e).size∧n*(X.ti e).size≤1000∧0<n then some { pre:=p,val:=some (.own d 0 n (X.ti e).size),new:=some (e,l) } else none
        | none=>none
      | none=>none
    | _,_,_=>none
  | .makeFunc fn first _,vs=>match fn,first.toList,forces vs with
    | .func f,[],some (p,ys)=>match allSome (ys.map fun y=>match y with | .ptr b 0=>some b|_=>none) with
      | some bs=>some { pre:=p,val:=some (.oclo f bs) }
      | none=>none
    | _,_,_=>none
  | .call c,vs=>match isApp c.callee with
    | true=>finApp X c.argTypes.toList o.dst vs cs
    | false => match c.callee, forces vs with
      | .value _,some (p,.clo f caps::ays)=>match toArgs ays cs with
        | some ays'=>match X.K f (ays'++caps.map TV.rptr) with
          | some (q,.tv r)=>if r.plain then some { pre:=p∧q,val:=some r,rd:=ays.flatMap toArg1 } else none
          | some (q,.new ty n sz l)=>match o.dst with
            | some d=>if l.all A0.noOs=true then some { pre:=p∧q,val:=some (.own d 0 n sz),rd:=ays.flatMap toArg1,new:=some (ty,l) } else none
            | none=>none
          | none=>none
        | none=>finW X p f caps ays cs
      | .builtin .len,some (p,[x])=>match c.argTypes.toList with
        | [T]=>match (X.ti T).elt,x.asSl,x with
          | some (none,_),some (_,l),_=>some { pre:=p,val:=some (.sc (.v (.int .i64 l.length))) }
          | some (none,_),none,.own b off n sz=>some { pre:=p,val:=some (.sc (.v (.int .i64 n))) }
          | some (none,_),none,.sc (.ls n)=>some { pre:=p,val:=some (.sc (.v (.int .i64 n))) }
          | some (none,_),none,.row n l=>some { pre:=p,val:=some (.sc (.v (.int .i64 n))) }
          | some (none,_),none,.rowF n sz f=>some { pre:=p,val:=some (.sc (.v (.int .i64 n))) }
          | _,_,_=>none
        | _=>none
      | .builtin .min,some (p,[x,y])=>match x.val?,y.val? with
        | some (.int k a),some (.int _ b)=>some { pre:=p,val:=some (.sc (.v (.int k (if b<a then b else a)))) }
        | _,_=>none
      | .builtin .max,some (p,[x,y])=>match x.val?,y.val? with
        | some (.int k a),some (.int _ b)=>some { pre:=p,val:=some (.sc (.v (.int k (if b>a then b else a)))) }
        | _,_=>none
      | _,_=>none
  | .slice T _ lo hi mx,vs=>match finCut X T lo hi mx vs with
    | some e=>some e
    | none=>match lo,hi,mx,forces vs,(X.ti T).elt with
      | some _,some _,none,some (p,[.ptr b off,.sc (.v (.int _ i)),.sc (.v (.int _ j))]),some (some len,e)=>if 0<(X.ti e).size then some { pre:=p∧0≤i∧i≤j∧j≤(len:Int)∧i<(len:Int),val:=some (.own b (off+i.toNat*(X.ti e).size) (j.toNat-i.toNat) (X.ti e).size) } else none
      | none,none,none,some (p,[.ptr b off]),some (some len,e)=>if 0<(X.ti e).size∧0<len then some { pre:=p,val:=some (.own b off len (X.ti e).size) } else none
      | _,_,_,_,_=>none
  | _,_=>none
def absOp (X:Cx) (s:St) (o:Oper):Option Eff :=
  fin X o (o.op.operands.toList.map (getv s.g)) ((req X o (o.op.operands.toList.map (getv s.g))).map fun p=>s.m p.1 p.2)
structure TOk (P:Program) (T:TypeId) (i:TIn):Prop where
  size:i.size≠0→∃ inf,P.info? T=some inf∧inf.size=i.size
  agg:i.size≠0→(isAgg T).run P=fun w => .ok i.agg w
  zero:∀ zs,i.zero=some zs→∃ inf z us,P.info? T=some inf∧inf.zero=some z∧z.cells=(us:List Value).toArray∧(∀ base w,All2 (A0.reads base w) zs us)∧us.all okCell=true
  offs:∀ (j d:Nat) (ft:TypeId),i.offs[j]?=some (d,ft)→∃ (fs:Array Field) (f:Field) (inf:TypeInfo),P.underlying T=some (.struct fs)∧fs[j]?=some f∧f.offset=d∧f.type=ft∧P.info? ft=some inf∧inf.size≠0
  int:∀ k,i.int=some k→P.underlying T=some (.int k)
  slc:∀ e,i.elt=some (none,e)→P.underlying T=some (.slice e)
  arr:∀ m e,i.elt=some (some m,e)→P.underlying T=some (.array m e)
  bl:i.bl=true→P.underlying T=some .bool
  bts:i.size≠0→∀ inf,P.info? T=some inf→inf.bytes=i.bytes
def CR.toldN (N:Nat) (w w':World):CR→Value→Prop
  | .tv x,u=>x.reads (fun _=>0) N w' u
  | .new ty n sz cs,u=>∃ g cap arr,u = .slice (some ⟨g,0,none⟩) n cap∧n≤cap∧w.heap.size≤g∧w'.heap[g]?=some (.cells arr ty (0,0))∧(∀ x∈arr,okCell x=true)∧∀ (off:Nat) (c:A0),cs[off]?=some c→∃ x,arr[off]?=some x∧c.reads N w' x
abbrev CR.told (w w':World) (r:CR) (u:Value):Prop:=CR.toldN w.heap.size w w' r u
structure BelowG (g:Nat) (w w':World):Prop where
  below:Below 0 w w'
  old:∀ k,k<w.heap.size→k≠g→w'.heap[k]?=w.heap[k]?
def RetW (P:Program) (f:FuncId) (g:Nat) (arr:Array Value) (ty:TypeId) (us:List Value) (w:World) (new:List A0) (r:TV):Prop :=
  Calls P f (Value.pointer (some ⟨g,0,none⟩)::us).toArray w fun e w'=>∃ u,e = .returned u∧r.reads (fun _=>0) w.heap.size w' u∧BelowG g w w'∧∃ arr',w'.heap[g]?=some (.cells arr' ty (0,0))∧arr'.size=arr.size∧(∀ x∈arr',okCell x=true)∧(∀ (i:Nat) (c:A0),new[i]?=some c→∃ x,arr'[i]?=some x∧c.reads w.heap.size w' x)∧∀ i,new.length≤i→arr'[i]?=arr[i]?
structure CxOk (P:Program) (X:Cx):Prop where
  ty:∀ T,TOk P T (X.ti T)
  call : ∀ f args p r, X.K f args = some (p, r) → p → (∃ fn, P.funcs[f]? = some fn ∧ (fn.name == "runtime.NumGoroutine") = false ∧ fn.body.isNone = false) ∧
    ∀ (us:List Value) w,All2 (TV.reads (fun _=>0) w.heap.size w) args us→Calls P f us.toArray w fun e w'=>∃ u,e = .returned u∧r.told w w' u∧Below w.heap.size w w'
  eqs:∀ T xs ys z,X.eqs T xs ys=some z→∀ base us vs w x y,All2 (A0.reads base w) xs us→All2 (A0.reads base w) ys vs →
    (eqGuard .eql T x y (.agg us.toArray) (.agg vs.toArray)).run P w = .ok () w∧(eqGuard .neq T x y (.agg us.toArray) (.agg vs.toArray)).run P w = .ok () w∧(Op.equal T (.agg us.toArray) (.agg vs.toArray)).run P w = .ok z w
  callW : ∀ f cs args p new r, X.KW f cs args = some (p, new, r) → p → (∃ fn, P.funcs[f]? = some fn ∧ (fn.name == "runtime.NumGoroutine") = false ∧ fn.body.isNone = false) ∧
    ∀ (us:List Value) (w:World) (g:Nat) (arr:Array Value) (ty:TypeId),w.heap[g]?=some (.cells arr ty (0,0))→(∀ x∈arr,okCell x=true)→(∀ (i:Nat) (c:A0),cs[i]?=some c→∃ x,arr[i]?=some x∧c.reads w.heap.size w x)→All2 (TV.reads (fun _=>0) w.heap.size w) args us→RetW P f g arr ty us w new r
def St.wrs (m:Nat→Nat→Option A0):List (Nat × Nat × A0)→Nat→Nat→Option A0
  | []=>m
  | (b,off,c)::r=>St.wrs (upd2 m b off (some c)) r
def St.drop (s:St) (b:Nat):St :=
  { g := fun t => match s.g t with
      | some x=>if x.refs.contains b then none else some x
      | none=>none
    m:=fun b' off=>if b'=b then none else s.m b' off
    T:=fun b'=>if b'=b then none else s.T b' }
def St.after (s:St) (e:Eff):St :=
  match e.kill with
  | some b=>s.drop b
  | none=>s
def St.app0 (s:St) (dst:Option Tmp) (e:Eff):St :=
  { g := match dst with
      | some d=>upd s.g d e.val
      | none=>s.g
    m := match e.new, dst with
      | some (_,cs),some d=>fun b off=>if b=d then cs[off]? else St.wrs s.m e.wr b off
      | _,_=>St.wrs s.m e.wr
    T := match e.new, dst with
      | some (ty,_),some d=>upd s.T d (some ty)
      | _,_=>s.T }
def St.app (s:St) (dst:Option Tmp) (e:Eff):St:=(s.after e).app0 dst e
theorem after_none {s:St} {e:Eff} (h:e.kill=none):s.after e=s:=by unfold St.after;rw [h]
theorem app_none {s:St} {dst:Option Tmp} {e:Eff} (h:e.kill=none):s.app dst e=s.app0 dst e:=by unfold St.app;rw [after_none h]
section
variable {P:Program} {X:Cx} {base:Nat} {w0:World} {n:Nat} {β:Nat→Nat} {s:St} {a:Act} {w:World} {o:Oper} {e:Eff} {K:Act→World→Prop} {Q:Exit→Act→World→Prop}
def Good (β:Nat→Nat) (base:Nat) (s:St) (w:World) (y:TV) (u:Value):Prop:=y.reads β base w u∧∀ b∈y.refs,s.T b≠none
theorem getv_good (h:Sat base w0 n β s a w) {x:Operand} {y:TV} (hx:getv s.g x=some y):Good β base s w y (a.eval x):=by
  cases x with
  | tmp t=>exact ⟨h.tm t y hx,h.refs t y hx⟩
  | const v=>cases hx;exact ⟨rfl,by simp [TV.refs]⟩
  | func f=>cases hx;exact ⟨⟨[],rfl,.nil⟩,by simp [TV.refs]⟩
  | global g=>cases hx
theorem forceG_good {v:Option TV} {p:Prop} {y:TV} {u:Value} (hf:forceG v=some (p,y)) (hp:p) (hv:∀ x,v=some x→Good β base s w x u):Good β base s w y u:=by
  unfold forceG at hf
  split at hf
  · cases hf
  · cases hf
    have:=hv _ rfl
    exact ⟨this.1.1 hp,this.2⟩
  · cases hf;exact hv _ rfl
  · cases hf
theorem ung_good {y:TV} {u:Value} (h:Good β base s w y u):Good β base s w y.ung u:=by
  cases y with
  | gro b n sz ty =>
    obtain ⟨⟨c,arr,e,h1,h2,ha,hs⟩,hr⟩:=h
    exact ⟨⟨c,e,h1⟩,hr⟩
  | _=>exact h
theorem force_good {v:Option TV} {p:Prop} {y:TV} {u:Value} (hf:force v=some (p,y)) (hp:p) (hv:∀ x,v=some x→Good β base s w x u):Good β base s w y u:=by
  unfold force at hf
  split at hf
  · rename_i p' y' hf';cases hf;exact ung_good (forceG_good hf' hp hv)
  · cases hf
def Vs (β:Nat→Nat) (base:Nat) (s:St) (w:World) (vs:List (Option TV)) (us:List Value):Prop:=All2 (fun v u=>∀ x,v=some x→Good β base s w x u) vs us
theorem vs_good (h:Sat base w0 n β s a w):∀ l:List Operand,Vs β base s w (l.map (getv s.g)) (l.map a.eval)
  | [] => .nil
  | x::l => .cons (fun y hy=>getv_good h hy) (vs_good h l)
theorem forces_good:∀ {vs:List (Option TV)} {us:List Value} {p:Prop} {ys:List TV},forces vs=some (p,ys)→p→Vs β base s w vs us→All2 (Good β base s w) ys us
  | [],_,p,ys,hf,hp,h=>by
    cases h
    cases hf;exact .nil
  | v :: vs, _, p, ys, hf, hp, h => by
    cases h with
    | cons hv hr =>
      rw [forces] at hf
      split at hf
      · rename_i p1 y1 q1 ys1 e1 e2
        cases hf
        exact .cons (force_good e1 hp.1 hv) (forces_good e2 hp.2 hr)
      · cases hf
theorem done_val (hS:Sat base w0 n β s a w) {v:Value} (hrun:(execOp a.eval o).run P w = .ok (.value v) w) (hd:∀ d,o.dst=some d→d<n) (hv:∀ y,e.val=some y→Good β base s w y v) (he:e.wr=[]) (hn:e.new=none)
    (hK:∀ β' a' w',Sat base w0 n β' (s.app o.dst e) a' w'→K a' w') (hkl:e.kill=none:=by rfl):o.wp P a w K Q:=by
  rw [app_none hkl] at hK
  unfold Oper.wp
  rw [hrun,Oper.upon_value]
  refine hK β _ _ ?_
  cases hdst:o.dst with
  | none=>simpa [St.app0,hn,he,St.wrs,Act.put] using hS
  | some d =>
    have:=hS.put (hd d hdst) hv
    simpa [St.app0,hn,he,St.wrs] using this
theorem done_new0 (hS:Sat base w0 n β s a w) {d:Nat} {g:Nat} {w1:World} {v:Value} {arr:Array Value} {ty:TypeId} {cs:List A0} (hb:Below w.heap.size w w1) (hg:w.heap.size≤g) (ha:w1.heap[g]?=some (.cells arr ty (0,0))) (hok:∀ x∈arr,okCell x=true)
    (hcs:∀ (off:Nat) (c:A0),cs[off]?=some c→∃ x,arr[off]?=some x∧c.reads (base+β eraK) w1 x) (hdst:o.dst=some d) (hd:d<n) (hT:s.T d=none∧rawT ty=false∧d≠eraK) (he:e.wr=[]) (hn:e.new=some (ty,cs)) {y:TV} (hv:e.val=some y) (hy:y.reads (upd β d g) base w1 v) (hyr:∀ b∈y.refs,b=d)
    (hK:∀ β' a' w',Sat base w0 n β' (s.app0 o.dst e) a' w'→K a' w'):K (a.put o.dst v) w1:=by
  have hS1:=hS.grow hb
  have hS2:=hS1.made (b:=d) hT.1 (g:=g) (by have:=hS.below.size;omega) (fun b' hb'=>by
    obtain ⟨ty',hb'⟩:=Option.ne_none_iff_exists'.1 hb'
    obtain ⟨_,arr',h2,_⟩:=hS.box b' ty' hb'
    have:=(Array.getElem?_eq_some_iff.1 h2).1
    omega) ha hok hT.2.1 hT.2.2 (cs:=fun off=>cs[off]?) (by
      have e:upd β d g eraK=β eraK:=by simp only [upd];rw [if_neg (fun e=>hT.2.2 e.symm)]
      exact hcs)
  have hS3:=hS2.put hd (v:=v) (x:=some y) (fun z hz=>by
    cases hz
    exact ⟨hy,fun b hb=>by rw [hyr b hb];simp [upd]⟩)
  have h4:=hK (upd β d g) (a.put o.dst v) w1
  rw [hdst] at h4 ⊢
  refine h4 ?_
  simpa [St.app0,he,hn,hv,St.wrs] using hS3
theorem done_new (hS:Sat base w0 n β s a w) {d:Nat} {g:Nat} {w1:World} {v:Value} {arr:Array Value} {ty:TypeId} {cs:List A0} (hb:Below w.heap.size w w1) (hg:w.heap.size≤g) (ha:w1.heap[g]?=some (.cells arr ty (0,0))) (hok:∀ x∈arr,okCell x=true)
    (hcs:∀ (off:Nat) (c:A0),cs[off]?=some c→∃ x,arr[off]?=some x∧c.reads (base+β eraK) w1 x) (hdst:o.dst=some d) (hd:d<n) (hT:s.T d=none∧rawT ty=false∧d≠eraK) (he:e.wr=[]) (hn:e.new=some (ty,cs)) {y:TV} (hv:e.val=some y) (hy:y.reads (upd β d g) base w1 v) (hyr:∀ b∈y.refs,b=d)
    (hK:∀ β' a' w',Sat base w0 n β' (s.app o.dst e) a' w'→K a' w') (hkl:e.kill=none:=by rfl):K (a.put o.dst v) w1:=by
  rw [app_none hkl] at hK
  exact done_new0 hS hb hg ha hok hcs hdst hd hT he hn hv hy hyr hK
theorem run_sizeOf' {T:TypeId} {inf:TypeInfo} (h:P.info? T=some inf) (w:World):(sizeOf T).run P w = .ok inf.size w:=by
  simp [sizeOf,typeInfo,h]
theorem All2.length {α β:Type} {R:α→β→Prop}:∀ {l:List α} {l':List β},All2 R l l'→l.length=l'.length
  | [],_,h=>by cases h;rfl
  | _::_,_,h=>by cases h with|cons _ h=>simp [All2.length h]
theorem All2.get {α β:Type} {R:α→β→Prop}:∀ {l:List α} {l':List β},All2 R l l'→∀ (i:Nat) (x:α),l[i]?=some x→∃ y,l'[i]?=some y∧R x y
  | [],_,h,i,x,hi=>by simp at hi
  | c :: l, _, h, i, x, hi => by
    cases h with
    | cons h1 h2 =>
      cases i with
      | zero=>simp at hi;subst hi;exact ⟨_,rfl,h1⟩
      | succ i=>simp at hi;obtain ⟨y,hy,hr⟩:=All2.get h2 i x hi;exact ⟨y,by simpa using hy,hr⟩
theorem All2.of_get {α β:Type} {R:α→β→Prop}:∀ {l:List α} {l':List β},l.length=l'.length→(∀ (i:Nat) (x:α) (y:β),l[i]?=some x→l'[i]?=some y→R x y)→All2 R l l'
  | [],[],_,_ => .nil
  | [],_::_,h,_=>by simp at h
  | _::_,[],h,_=>by simp at h
  | x::l,y::l',h,hr => .cons (hr 0 x y rfl rfl) (All2.of_get (by simpa using h) fun i x y hx hy=>hr (i+1) x y (by simpa using hx) (by simpa using hy))
theorem allSome_get {α:Type}:∀ {l:List (Option α)} {r:List α},allSome l=some r→l=r.map some
  | [],r,h=>by cases h;rfl
  | none::l,r,h=>by cases h
  | some x::l,r,h=>by
    rw [allSome] at h
    split at h
    · rename_i r' e;cases h;rw [allSome_get e];rfl
    · cases h
theorem addr_add (b off i:Nat):(⟨b,off,none⟩:Addr).add i=⟨b,off+i,none⟩:=by unfold Addr.add;split<;>simp_all
theorem addr_add_add (ad:Addr) (i j:Nat):(ad.add i).add j=ad.add (i+j):=by
  unfold Addr.add
  by_cases hi:i=0
  · subst hi;simp
  · by_cases hj:j=0
    · subst hj;simp
    · rw [if_neg hi,if_neg hj,if_neg (by omega)];simp;omega
theorem box_cells (hS:Sat base w0 n β s a w) (b:Nat):∀ (k off:Nat) (l:List A0),(span b off k).map (fun p=>s.m p.1 p.2)=l.map some→∃ us:List Value,us.length=k∧All2 (A0.reads (base+β eraK) w) l us∧∀ i v,us[i]?=some v→w.cell? ⟨β b,off+i,none⟩=some v
  | 0,off,l,h=>by
    have:l=[]:=by simpa [span] using h.symm
    subst this
    exact ⟨[],rfl,.nil,fun i v h=>by simp at h⟩
  | k + 1, off, l, h => by
    cases l with
    | nil=>simp [span,List.range'_succ] at h
    | cons c l =>
      simp only [span,List.range'_succ,List.map_cons,List.cons.injEq] at h
      obtain ⟨us,h1,h2,h3⟩:=box_cells hS b k (off+1) l h.2
      obtain ⟨ty,hT⟩:=Option.ne_none_iff_exists'.1 (hS.has b off (by rw [h.1];simp))
      obtain ⟨_,arr,ha,_,hcs⟩:=hS.box b ty hT
      obtain ⟨x,hx,hr⟩:=hcs off c h.1
      refine ⟨x::us,by simp [h1],.cons hr h2,fun i v hv=>?_⟩
      cases i with
      | zero =>
        simp at hv;subst hv
        unfold World.cell?;rw [show (⟨β b,off+0,none⟩:Addr).block=β b from rfl,ha];exact hx
      | succ i =>
        have:=h3 i v (by simpa using hv)
        rw [show off+1+i=off+(i+1) by omega] at this
        exact this
theorem reads_cells {c:A0} {u:Value} (h:c.reads (base+β eraK) w u) (hc:∀ x,c ≠ .v (.agg x)) (hc':∀ x,c ≠ .v (.tuple x)):u.cells=#[u]:=by
  cases c with
  | v x =>
    rw [show u=x from h]
    cases x with
    | agg y=>exact absurd rfl (hc y)
    | tuple y=>rfl
    | _=>rfl
  | sl k l=>obtain ⟨_,A,c,rfl,_⟩:=h;rfl
  | fs e k l=>obtain ⟨_,_,h⟩:=h;obtain ⟨A,c,rfl,_⟩:=Kd.R_reads h;rfl
  | os k l=>obtain ⟨_,A,c,rfl,_⟩:=h;rfl
  | neg x=>rw [show u = .bool (sgn x) from h];rfl
  | mag x=>obtain ⟨A,c,rfl,_⟩:=h;rfl
  | ls n=>obtain ⟨A,c,rfl⟩:=h;rfl
theorem cells_reads {y:TV} {ys:List A0} {u:Value} (hy:y.cells=some ys) (h:y.reads β base w u):∃ us:List Value,u.cells=us.toArray∧All2 (A0.reads (base+β eraK) w) ys us:=by
  unfold TV.cells at hy
  split at hy
  · cases hy
  · cases hy
  · rename_i c h1 h2
    cases hy
    exact ⟨[u],by rw [reads_cells h (fun x e=>h1 x (by rw [e])) (fun x e=>h2 x (by rw [e]))],.cons h .nil⟩
  · cases hy
    obtain ⟨us,rfl,hr⟩:=h
    exact ⟨us,rfl,hr⟩
  · cases hy
theorem okAll {l:List A0} {us:List Value} (h:All2 (A0.reads (base+β eraK) w) l us) (hl:l.all okA=true):us.all okCell=true:=by
  induction h with
  | nil=>rfl
  | cons h1 _ ih =>
    simp only [List.all_cons,Bool.and_eq_true] at hl ⊢
    exact ⟨okA_reads h1 hl.1,ih hl.2⟩
theorem alloc_at (w:World) (ob:Obj):(w.alloc ob).heap[w.heap.size]?=some ob:=by
  show (w.heap.push ob)[w.heap.size]?=_
  simp
end
section
variable {P:Program} {X:Cx} {base:Nat} {w0:World} {n:Nat} {β:Nat→Nat} {s:St} {a:Act} {w:World} {o:Oper} {e:Eff} {K:Act→World→Prop} {Q:Exit→Act→World→Prop}
theorem good1 (hS:Sat base w0 n β s a w) (x:Operand):∀ y,getv s.g x=some y→Good β base s w y (a.eval x):=fun y hy=>getv_good hS hy
theorem op_load (ok:CxOk P X) (hS:Sat base w0 n β s a w) {T:TypeId} {x:Operand} (ho:o.op = .load T x) (h:absOp X s o=some e) (hp:e.pre) (hd:∀ d,o.dst=some d→d<n)
    (hK:∀ β' a' w',Sat base w0 n β' (s.app o.dst e) a' w'→K a' w'):o.wp P a w K Q:=by
  have hrun:(execOp a.eval o).run P w=((Instr.loadAt T (a.eval x)).run P w).andThen fun v w => .ok (.value v) w:=by
    unfold execOp;rw [ho];simp
  simp only [absOp,req,fin,ho,Op.operands,List.map_cons,List.map_nil] at h
  have hx:=good1 hS x
  have hT:=ok.ty T
  split at h
  · -- a box's own
    rename_i p b off hf
    rw [hf] at h
    simp only at h
    have ptr:∀ l,allSome ((span b off (X.ti T).size).map fun p=>s.m p.1 p.2)=some l→p→∃ us:List Value,us.length=(X.ti T).size∧All2 (A0.reads (base+β eraK) w) l us∧a.eval x = .pointer (some ⟨β b,off,none⟩)∧∀ i v,us[i]?=some v→w.cell? ⟨β b,off+i,none⟩=some v:=by
      intro l hl hpp
      have hg:=force_good hf hpp hx
      obtain ⟨us,h1,h2,h3⟩:=box_cells hS b (X.ti T).size off l (allSome_get hl)
      exact ⟨us,h1,h2,hg.1,h3⟩
    split at h
    · rename_i c l hl hag
      cases h
      obtain ⟨us,h1,h2,h3,h4⟩:=ptr _ hl hp
      have hne:(X.ti T).size≠0:=by rw [← h1,← All2.length h2];simp
      obtain ⟨inf,hi,hsz⟩:=hT.size hne
      have hr:=congrFun (hT.agg hne) w
      rw [hag] at hr
      refine done_val hS (v := .agg us.toArray) ?_ hd (fun y hy=>?_) rfl rfl hK
      · rw [hrun,h3]
        have:=run_loadCells_list (P:=P) w ⟨β b,off,none⟩ us (fun j v hj=>by rw [addr_add];exact h4 j v hj)
        simp only [Instr.loadAt,Instr.sureAddr,Sem.run_bind,Sem.run_pure,Result.andThen_ok,loadVar,hr,if_true,run_sizeOf' hi,hsz,← h1,this]
      · cases hy
        exact ⟨⟨us,rfl,h2⟩,by simp [TV.refs]⟩
    · rename_i c hl hag
      cases h
      obtain ⟨us,h1,h2,h3,h4⟩:=ptr _ hl hp
      have hne:(X.ti T).size≠0:=by rw [← h1,← All2.length h2];simp
      have hr:=congrFun (hT.agg hne) w
      rw [hag] at hr
      cases h2 with
      | cons hu hnil =>
        cases hnil
        rename_i u
        refine done_val hS (v:=u) ?_ hd (fun y hy=>?_) rfl rfl hK
        · rw [hrun,h3]
          have:=h4 0 u rfl
          simp only [Nat.add_zero] at this
          simp only [Instr.loadAt,Instr.sureAddr,Sem.run_bind,Sem.run_pure,Result.andThen_ok,loadVar,hr,Bool.false_eq_true,if_false,run_load,this]
        · cases hy
          exact ⟨hu,by simp [TV.refs]⟩
    · cases h
  · rename_i p l hf
    split at h
    · rename_i hag
      split at h
      · rename_i hlen
        cases h
        have hg:=force_good hf hp hx
        obtain ⟨ad,he,hb,hc⟩:=hg.1
        have hne:(X.ti T).size≠0:=by omega
        obtain ⟨inf,hi,hsz⟩:=hT.size hne
        have hr:=congrFun (hT.agg hne) w
        rw [hag] at hr
        have hex:∀ k,k≤l.length→∃ us:List Value,All2 (A0.reads (base+β eraK) w) (l.take k) us∧∀ i v,us[i]?=some v→w.cell? (ad.add i)=some v:=by
          intro k
          induction k with
          | zero=>intro _;exact ⟨[],by simpa using All2.nil,fun i v h=>by simp at h⟩
          | succ k ih =>
            intro hk
            obtain ⟨us,h1,h2⟩:=ih (by omega)
            obtain ⟨xv,hx1,hx2⟩:=hc k l[k] (List.getElem?_eq_getElem (by omega))
            have hlu:=All2.length h1
            have hlk:(l.take k).length=k:=by simp;omega
            refine ⟨us++[xv],?_,fun i v hv=>?_⟩
            · rw [List.take_succ_eq_append_getElem (by omega)]
              refine All2.of_get (by simp;omega) (fun i c u hi hu=>?_)
              by_cases hik:i<k
              · rw [List.getElem?_append_left (by omega)] at hi hu
                obtain ⟨u',hu',hr'⟩:=All2.get h1 i c hi
                rw [hu'] at hu;cases hu;exact hr'
              · rw [List.getElem?_append_right (by omega)] at hi hu
                have hik':i=k:=by
                  have:=(List.getElem?_eq_some_iff.1 hi).1
                  simp at this;omega
                subst hik'
                simp [hlk] at hi
                simp [← hlu,hlk] at hu
                subst hi hu;exact hx2 _ (Nat.le_add_right _ _)
            · by_cases hik:i<us.length
              · rw [List.getElem?_append_left hik] at hv;exact h2 i v hv
              · rw [List.getElem?_append_right (by omega)] at hv
                have:i=us.length:=by
                  have:=(List.getElem?_eq_some_iff.1 hv).1
                  simp at this;omega
                subst this
                simp at hv;subst hv
                rw [← hlu,hlk];exact hx1
        obtain ⟨us,h1,h2⟩:=hex (X.ti T).size (by have:=hlen.1;simp at this;omega)
        have hl1:=All2.length h1
        refine done_val hS (v := .agg us.toArray) ?_ hd (fun y hy=>?_) rfl rfl hK
        · rw [hrun,he]
          have:=run_loadCells_list (P:=P) w ad us h2
          rw [← hl1,hlen.1] at this
          simp only [Instr.loadAt,Instr.sureAddr,Sem.run_bind,Sem.run_pure,Result.andThen_ok,loadVar,hr,if_true,run_sizeOf' hi,hsz,this]
        · cases hy
          exact ⟨⟨us,rfl,h1⟩,by simp [TV.refs]⟩
      · cases h
    · rename_i hag
      split at h
      · rename_i c l' hsz1
        cases h
        have hg:=force_good hf hp hx
        obtain ⟨ad,he,hb,hc⟩:=hg.1
        have hr:=congrFun (hT.agg (by omega)) w
        rw [hag] at hr
        obtain ⟨u,hu,hru⟩:=hc 0 c rfl
        refine done_val hS (v:=u) ?_ hd (fun y hy=>?_) rfl rfl hK
        · rw [hrun,he]
          rw [show ad.add 0=ad by simp [Addr.add]] at hu
          simp only [Instr.loadAt,Instr.sureAddr,Sem.run_bind,Sem.run_pure,Result.andThen_ok,loadVar,hr,Bool.false_eq_true,if_false,run_load,hu]
        · cases hy
          exact ⟨hru _ (Nat.le_add_right _ _),by simp [TV.refs]⟩
      · cases h
  · rename_i p k l i hf
    split at h
    · rename_i hag hsz1
      cases h
      have hg:=force_good hf hp hx
      obtain ⟨hk,ad,he,h0,h1,A,c,hr',ha⟩:=hg.1
      have hr:=congrFun (hT.agg (by omega)) w
      rw [hag] at hr
      refine done_val hS (v := .int k (rd l i)) ?_ hd (fun y hy=>?_) rfl rfl hK
      · rw [hrun,he]
        have hu:w.cell? ad=some (.int k (rd l i)):=by
          obtain ⟨ad',cs,e1,e2,e3,e4⟩:=ReadsRow.get_ hr'.2 (0:Int) i h0 h1
          cases e1
          have e3':cs=[.int k (l.getD i.toNat 0)]:=e3
          have:=e4 0 (.int k (l.getD i.toNat 0)) (by rw [e3'];rfl)
          rw [ha]
          rw [show i.toNat*(Kd.int k).sz+0=i.toNat from by show i.toNat*1+0=_;omega] at this
          exact this
        simp only [Instr.loadAt,Instr.sureAddr,Sem.run_bind,Sem.run_pure,Result.andThen_ok,loadVar,hr,Bool.false_eq_true,if_false,run_load,hu]
      · cases hy
        exact ⟨rfl,by simp [TV.refs]⟩
    · cases h
  · cases h
end
section
variable {P:Program} {X:Cx} {base:Nat} {w0:World} {n:Nat} {β:Nat→Nat} {s:St} {a:Act} {w:World} {o:Oper} {e:Eff} {K:Act→World→Prop} {Q:Exit→Act→World→Prop}
theorem good_refs {y:TV} {u:Value} (h:y.reads β base w u) (hr:y.refs=[]):Good β base s w y u:=⟨h,by rw [hr];simp⟩
theorem op_move (hS:Sat base w0 n β s a w) {x:Operand} (ho:o.op = .move x∨o.op = .assign x) (h:absOp X s o=some e) (hp:e.pre) (hd:∀ d,o.dst=some d→d<n)
    (hK:∀ β' a' w',Sat base w0 n β' (s.app o.dst e) a' w'→K a' w'):o.wp P a w K Q:=by
  have hrun:(execOp a.eval o).run P w = .ok (.value (a.eval x)) w:=by
    unfold execOp;rcases ho with ho|ho<;>rw [ho]<;>rfl
  have hx:=good1 hS x
  rcases ho with ho|ho<;>simp only [absOp,req,fin,ho,Op.operands,List.map_cons,List.map_nil] at h<;>split at h
  · rename_i p y hf;cases h
    exact done_val hS hrun hd (fun z hz=>by cases hz;exact forceG_good hf hp hx) rfl rfl hK
  · cases h
  · rename_i p y hf;cases h
    exact done_val hS hrun hd (fun z hz=>by cases hz;exact forceG_good hf hp hx) rfl rfl hK
  · cases h
theorem op_alloc (ok:CxOk P X) (hS:Sat base w0 n β s a w) {T:TypeId} (ho:o.op = .alloc T) (h:absOp X s o=some e) (hp:e.pre) (hd:∀ d,o.dst=some d→d<n) (hn:∀ q,e.new=some q→∀ d,o.dst=some d→(s.after e).T d=none∧rawT q.1=false∧d≠eraK)
    (hK:∀ β' a' w',Sat base w0 n β' (s.app o.dst e) a' w'→K a' w'):o.wp P a w K Q:=by
  simp only [absOp,req,fin,ho,Op.operands,List.map_cons,List.map_nil] at h
  split at h
  · rename_i zs d hz hdst
    cases h
    obtain ⟨inf,z,us,h1,h2,h3,h4,h5⟩:=(ok.ty T).zero zs hz
    have hrun:(execOp a.eval o).run P w = .ok (.value (.pointer (some ⟨w.heap.size,0,none⟩))) (w.alloc (.cells us.toArray T)):=by
      unfold execOp;rw [ho]
      simp [Instr.alloc,zeroValue,typeInfo,h1,h2,newVar,newRow,h3]
    unfold Oper.wp
    rw [hrun,Oper.upon_value]
    refine done_new hS (below_alloc (Below.refl _ _) _) (Nat.le_refl _) (alloc_at _ _) (fun x hx=>(Array.all_eq_true_iff_forall_mem.1 (by simpa using h5)) x hx) (cs:=zs) (fun off c hc=>?_) hdst (hd d hdst) (hn _ rfl d hdst) rfl rfl rfl ?_ (by simp [TV.refs]) hK
    · obtain ⟨x,hx,hr⟩:=All2.get (h4 (base+β eraK) (w.alloc (.cells us.toArray T))) off c hc
      exact ⟨x,by simpa using hx,hr⟩
    · show _=_
      simp [upd]
  · cases h
theorem op_box (ok:CxOk P X) (hS:Sat base w0 n β s a w) {T:TypeId} {x:Operand} (ho:o.op = .box T x) (h:absOp X s o=some e) (hp:e.pre) (hd:∀ d,o.dst=some d→d<n) (hn:∀ q,e.new=some q→∀ d,o.dst=some d→(s.after e).T d=none∧rawT q.1=false∧d≠eraK)
    (hK:∀ β' a' w',Sat base w0 n β' (s.app o.dst e) a' w'→K a' w'):o.wp P a w K Q:=by
  have hx:=good1 hS x
  simp only [absOp,req,fin,ho,Op.operands,List.map_cons,List.map_nil] at h
  split at h
  · rename_i p y d hf hdst
    split at h
    · rename_i ys hys
      split at h
      · rename_i hall
        cases h
        have hg:=force_good hf hp hx
        obtain ⟨us,h3,h4⟩:=cells_reads hys hg.1
        have hrun:(execOp a.eval o).run P w = .ok (.value (.pointer (some ⟨w.heap.size,0,none⟩))) (w.alloc (.cells us.toArray T)):=by
          unfold execOp;rw [ho]
          simp [Instr.box,newVar,newRow,h3]
        unfold Oper.wp
        rw [hrun,Oper.upon_value]
        refine done_new hS (below_alloc (Below.refl _ _) _) (Nat.le_refl _) (alloc_at _ _) (fun x hx=>(Array.all_eq_true_iff_forall_mem.1 (by simpa using okAll h4 hall)) x hx) (cs:=ys) (fun off c hc=>?_) hdst (hd d hdst) (hn _ rfl d hdst) rfl rfl rfl ?_ (by simp [TV.refs]) hK
        · obtain ⟨x,hx,hr⟩:=All2.get h4 off c hc
          exact ⟨x,by simpa using hx,A0.far hr (Far.below (below_alloc (Below.refl _ _) _))⟩
        · show _=_
          simp [upd]
      · cases h
    · cases h
  · cases h
theorem op_nilCheck (hS:Sat base w0 n β s a w) {x:Operand} (ho:o.op = .nilCheck x) (h:absOp X s o=some e) (hp:e.pre) (hd:∀ d,o.dst=some d→d<n)
    (hK:∀ β' a' w',Sat base w0 n β' (s.app o.dst e) a' w'→K a' w'):o.wp P a w K Q:=by
  have hx:=good1 hS x
  simp only [absOp,req,fin,ho,Op.operands,List.map_cons,List.map_nil] at h
  split at h
  · rename_i p b off hf
    cases h
    have hg:=force_good hf hp hx
    refine done_val hS (v := .pointer (some ⟨β b,off,none⟩)) ?_ hd (fun y hy=>by cases hy;exact ⟨rfl,hg.2⟩) rfl rfl hK
    have e1:a.eval x = .pointer (some ⟨β b,off,none⟩):=hg.1
    unfold execOp;rw [ho];simp [e1]
  · cases h
theorem op_fieldAddr (ok:CxOk P X) (hS:Sat base w0 n β s a w) {T:TypeId} {x:Operand} {j:Nat} (ho:o.op = .fieldAddr T x j) (h:absOp X s o=some e) (hp:e.pre) (hd:∀ d,o.dst=some d→d<n)
    (hK:∀ β' a' w',Sat base w0 n β' (s.app o.dst e) a' w'→K a' w'):o.wp P a w K Q:=by
  have hrun:(execOp a.eval o).run P w=((Instr.fieldAt T (a.eval x) j).run P w).andThen fun v w => .ok (.value v) w:=by
    unfold execOp;rw [ho];simp
  have hx:=good1 hS x
  have fa:∀ ad d ft,(X.ti T).offs[j]?=some (d,ft)→(Instr.fieldAt T (.pointer (some ad)) j).run P w = .ok (.pointer (some (ad.add d))) w:=by
    intro ad d ft hj
    obtain ⟨fs,f,inf,h1,h2,h3,h4,h5,h6⟩:=(ok.ty T).offs j d ft hj
    subst h4
    simp [Instr.fieldAt,run_underlying h1,h2,Instr.sureAddr,fieldPlace,run_sizeOf' h5,h6,h3]
  simp only [absOp,req,fin,ho,Op.operands,List.map_cons,List.map_nil] at h
  split at h
  · rename_i p b off d ft hf hj
    cases h
    have hg:=force_good hf hp hx
    refine done_val hS (v := .pointer (some ⟨β b,off+d,none⟩)) ?_ hd (fun y hy=>?_) rfl rfl hK
    · rw [hrun,show a.eval x=_ from hg.1,fa _ d ft hj,addr_add];rfl
    · cases hy
      exact ⟨rfl,hg.2⟩
  · rename_i p l d ft hf hj
    cases h
    have hg:=force_good hf hp hx
    obtain ⟨ad,he,hb,hc⟩:=hg.1
    refine done_val hS (v := .pointer (some (ad.add d))) ?_ hd (fun y hy=>?_) rfl rfl hK
    · rw [hrun,he,fa _ d ft hj];rfl
    · cases hy
      refine good_refs ⟨ad.add d,rfl,?_,fun i c hi=>?_⟩ rfl
      · unfold Addr.add;split<;>exact hb
      · rw [addr_add_add]
        exact hc _ _ (by simpa using hi)
  · cases h
theorem op_extract (hS:Sat base w0 n β s a w) {x:Operand} {i:Nat} (ho:o.op = .extract x i) (h:absOp X s o=some e) (hp:e.pre) (hd:∀ d,o.dst=some d→d<n)
    (hK:∀ β' a' w',Sat base w0 n β' (s.app o.dst e) a' w'→K a' w'):o.wp P a w K Q:=by
  have hrun:(execOp a.eval o).run P w=((Instr.extract (a.eval x) i).run P w).andThen fun v w => .ok (.value v) w:=by
    unfold execOp;rw [ho];simp
  have hx:=good1 hS x
  simp only [absOp,req,fin,ho,Op.operands,List.map_cons,List.map_nil] at h
  split at h
  · rename_i p l hf
    split at h
    · rename_i c hi
      split at h
      · rename_i y hy
        cases h
        have hg:=force_good hf hp hx
        obtain ⟨us,he,hr⟩:=hg.1
        obtain ⟨u,hu,hru⟩:=All2.get hr i c hi
        refine done_val hS (v:=u) ?_ hd (fun z hz=>?_) rfl rfl hK
        · rw [hrun,he]
          simp [Instr.extract,hu]
        · cases hz
          unfold ofPart at hy
          split at hy
          · cases hy;exact good_refs hru rfl
          · cases hy
            obtain ⟨c',e',hc'⟩:=hru
            cases e'
            exact good_refs hc' rfl
          · cases hy
      · cases h
    · cases h
  · cases h
theorem val_reads {c:TV} {v u:Value} (hv:c.val?=some v) (h:c.reads β base w u):u=v:=by
  unfold TV.val? at hv
  split at hv
  · unfold A0.val? at hv
    split at hv
    · cases hv;exact h
    · cases hv;exact h
    · cases hv
  · cases hv
theorem run_intOp {op:BinOp} {k:IntKind} {x y:Int} {p:Prop} {z:Value} (h:intOp op k x y=some (p,z)) (hp:p) (T:TypeId) (xo yo:Operand) (w:World) :
    ((do eqGuard op T xo yo (.int k x) (.int k y);binOp op T (.int k x) (.int k y)):Sem Value).run P w = .ok z w:=by
  cases op<;>simp only [intOp] at h<;>(first|(cases h;done)|skip)<;>cases h <;>
    first
      | (simp [eqGuard,binOp,Op.intArith];done)
      | (simp [eqGuard,binOp,Op.intCmp];done)
      | (simp [eqGuard,binOp,Op.intDiv,show y≠0 from hp];done)
      | (simp [eqGuard,binOp,Op.intBits,Go.bits];done)
      | (simp only [eqGuard,binOp,Op.intBits,Go.bits];rfl)
theorem run_shOp {op:BinOp} {k k':IntKind} {x y:Int} {p:Prop} {z:Value} (h:shOp op k x y=some (p,z)) (hp:p) (T:TypeId) (xo yo:Operand) (w:World) :
    ((do eqGuard op T xo yo (.int k x) (.int k' y);binOp op T (.int k x) (.int k' y)):Sem Value).run P w = .ok z w:=by
  cases op<;>simp only [shOp] at h<;>(first|(cases h;done)|skip)<;>cases h <;>
    (have hy:¬ y<0:=Int.not_lt.2 hp
     simp [eqGuard,binOp,Op.shift,hy])
theorem run_eqb (T:TypeId) (hu:P.underlying T=some .bool) (xo yo:Operand) (i j:Bool) (w:World):((do eqGuard .eql T xo yo (.bool i) (.bool j);binOp .eql T (.bool i) (.bool j)):Sem Value).run P w = .ok (.bool (i == j)) w:=by
  rw [eqGuard_at_bool]
  show ((Op.equalIn 10000 T (.bool i) (.bool j)) >>= fun b=>pure (Value.bool b)).run P w=_
  rw [Sem.run_bind,run_equalIn_bool w 9999 T i j hu];rfl
theorem run_neqb (T:TypeId) (hu:P.underlying T=some .bool) (xo yo:Operand) (i j:Bool) (w:World):((do eqGuard .neq T xo yo (.bool i) (.bool j);binOp .neq T (.bool i) (.bool j)):Sem Value).run P w = .ok (.bool (!(i == j))) w:=by
  rw [eqGuard_at_bool]
  show ((Op.equalIn 10000 T (.bool i) (.bool j)) >>= fun b=>pure (Value.bool (!b))).run P w=_
  rw [Sem.run_bind,run_equalIn_bool w 9999 T i j hu];rfl
theorem run_eqa {T:TypeId} {xo yo:Operand} {xs ys:Array Value} {z:Bool} {w:World} (g1:(eqGuard .eql T xo yo (.agg xs) (.agg ys)).run P w = .ok () w) (g3:(Op.equal T (.agg xs) (.agg ys)).run P w = .ok z w):((do eqGuard .eql T xo yo (.agg xs) (.agg ys);binOp .eql T (.agg xs) (.agg ys)):Sem Value).run P w = .ok (.bool z) w:=by
  rw [Sem.run_bind,g1]
  show ((Op.equal T (.agg xs) (.agg ys)) >>= fun b=>pure (Value.bool b)).run P w=_
  rw [Sem.run_bind,g3];rfl
theorem run_neqa {T:TypeId} {xo yo:Operand} {xs ys:Array Value} {z:Bool} {w:World} (g1:(eqGuard .neq T xo yo (.agg xs) (.agg ys)).run P w = .ok () w) (g3:(Op.equal T (.agg xs) (.agg ys)).run P w = .ok z w):((do eqGuard .neq T xo yo (.agg xs) (.agg ys);binOp .neq T (.agg xs) (.agg ys)):Sem Value).run P w = .ok (.bool (!z)) w:=by
  rw [Sem.run_bind,g1]
  show ((Op.equal T (.agg xs) (.agg ys)) >>= fun b=>pure (Value.bool (!b))).run P w=_
  rw [Sem.run_bind,g3];rfl
theorem op_binOp (ok:CxOk P X) (hS:Sat base w0 n β s a w) {op:BinOp} {T:TypeId} {x y:Operand} {yt:TypeId} (ho:o.op = .binOp op T x y yt) (h:absOp X s o=some e) (hp:e.pre) (hd:∀ d,o.dst=some d→d<n)
    (hK:∀ β' a' w',Sat base w0 n β' (s.app o.dst e) a' w'→K a' w'):o.wp P a w K Q:=by
  have hrun:(execOp a.eval o).run P w=((do eqGuard op T x y (a.eval x) (a.eval y);binOp op T (a.eval x) (a.eval y):Sem Value).run P w).andThen fun v w => .ok (.value v) w:=by
    unfold execOp;rw [ho];dsimp only;rw [Sem.run_bind];rfl
  have hx:=good1 hS x
  have hy:=good1 hS y
  simp only [absOp,req,fin,ho,Op.operands,List.map_cons,List.map_nil] at h
  split at h
  · rename_i p x' q y' hfx hfy
    split at h
    · rename_i k i k' j h1 h2
      split at h
      · split at h
        · rename_i r z hz
          cases h
          have e1:=val_reads h1 (force_good hfx hp.1 hx).1
          have e2:=val_reads h2 (force_good hfy hp.2.1 hy).1
          refine done_val hS (v:=z) ?_ hd (fun y hy=>by cases hy;exact good_refs rfl rfl) rfl rfl hK
          rw [hrun,e1,e2,run_shOp hz hp.2.2];rfl
        · cases h
      · rename_i hk
        split at h
        · rename_i r z hz
          cases h
          have e1:=val_reads h1 (force_good hfx hp.1 hx).1
          have e2:=val_reads h2 (force_good hfy hp.2.1 hy).1
          have ek:k=k':=of_decide_eq_true hk
          subst ek
          refine done_val hS (v:=z) ?_ hd (fun y hy=>by cases hy;exact good_refs rfl rfl) rfl rfl hK
          rw [hrun,e1,e2,run_intOp hz hp.2.2];rfl
        · cases h
      · cases h
    · rename_i i j h1 h2
      split at h
      · rename_i hb
        cases h
        have e1:=val_reads h1 (force_good hfx hp.1 hx).1
        have e2:=val_reads h2 (force_good hfy hp.2 hy).1
        have hu:=(ok.ty T).bl hb
        refine done_val hS (v := .bool (i == j)) ?_ hd (fun y hy=>by cases hy;exact good_refs rfl rfl) rfl rfl hK
        rw [hrun,e1,e2,run_eqb T hu];rfl
      · rename_i hb
        cases h
        have e1:=val_reads h1 (force_good hfx hp.1 hx).1
        have e2:=val_reads h2 (force_good hfy hp.2 hy).1
        have hu:=(ok.ty T).bl hb
        refine done_val hS (v := .bool (!(i == j))) ?_ hd (fun y hy=>by cases hy;exact good_refs rfl rfl) rfl rfl hK
        rw [hrun,e1,e2,run_neqb T hu];rfl
      · cases h
    · split at h
      · rename_i xs ys _ _
        split at h
        · rename_i z hz
          cases h
          obtain ⟨us,e1,r1⟩:=(force_good hfx hp.1 hx).1
          obtain ⟨vs,e2,r2⟩:=(force_good hfy hp.2 hy).1
          obtain ⟨g1,g2,g3⟩:=ok.eqs T xs ys z hz (base+β eraK) us vs w x y r1 r2
          refine done_val hS (v := .bool z) ?_ hd (fun y hy=>by cases hy;exact good_refs rfl rfl) rfl rfl hK
          rw [hrun,e1,e2,run_eqa g1 g3];rfl
        · rename_i z hz
          cases h
          obtain ⟨us,e1,r1⟩:=(force_good hfx hp.1 hx).1
          obtain ⟨vs,e2,r2⟩:=(force_good hfy hp.2 hy).1
          obtain ⟨g1,g2,g3⟩:=ok.eqs T xs ys z hz (base+β eraK) us vs w x y r1 r2
          refine done_val hS (v := .bool (!z)) ?_ hd (fun y hy=>by cases hy;exact good_refs rfl rfl) rfl rfl hK
          rw [hrun,e1,e2,run_neqa g2 g3];rfl
        · cases h
      · cases h
  · cases h
theorem op_unOp (hS:Sat base w0 n β s a w) {op:UnOp} {T:TypeId} {x:Operand} (ho:o.op = .unOp op T x) (h:absOp X s o=some e) (hp:e.pre) (hd:∀ d,o.dst=some d→d<n)
    (hK:∀ β' a' w',Sat base w0 n β' (s.app o.dst e) a' w'→K a' w'):o.wp P a w K Q:=by
  have hrun:(execOp a.eval o).run P w=((Op.unary op (a.eval x)).run P w).andThen fun v w => .ok (.value v) w:=by
    unfold execOp;rw [ho];simp
  have hx:=good1 hS x
  simp only [absOp,req,fin,ho,Op.operands,List.map_cons,List.map_nil] at h
  split at h
  · rename_i p x' hf
    split at h
    · rename_i b hv
      cases h
      refine done_val hS (v := .bool (!b)) ?_ hd (fun y hy=>by cases hy;exact good_refs rfl rfl) rfl rfl hK
      rw [hrun,val_reads hv (force_good hf hp hx).1];rfl
    · rename_i k m hv
      cases h
      refine done_val hS (v := .int k (k.wrap (0-m))) ?_ hd (fun y hy=>by cases hy;exact good_refs rfl rfl) rfl rfl hK
      rw [hrun,val_reads hv (force_good hf hp hx).1];rfl
    · cases h
  · cases h
theorem op_convert (ok:CxOk P X) (hS:Sat base w0 n β s a w) {src dst:TypeId} {x:Operand} (ho:o.op = .convert src dst x) (hsrc:(P.underlying src).isSome=true) (h:absOp X s o=some e) (hp:e.pre) (hd:∀ d,o.dst=some d→d<n)
    (hK:∀ β' a' w',Sat base w0 n β' (s.app o.dst e) a' w'→K a' w'):o.wp P a w K Q:=by
  have hrun:(execOp a.eval o).run P w=((convert src dst (a.eval x)).run P w).andThen fun v w => .ok (.value v) w:=by
    unfold execOp;rw [ho];simp
  have hx:=good1 hS x
  simp only [absOp,req,fin,ho,Op.operands,List.map_cons,List.map_nil] at h
  split at h
  · rename_i p x' hf
    split at h
    · rename_i k m k' hv hk
      cases h
      have hu:=(ok.ty dst).int k' hk
      obtain ⟨dd,hs⟩:=Option.isSome_iff_exists.1 hsrc
      refine done_val hS (v := .int k' (k'.wrap m)) ?_ hd (fun y hy=>by cases hy;exact good_refs rfl rfl) rfl rfl hK
      rw [hrun,val_reads hv (force_good hf hp hx).1]
      simp [convert,run_underlying hs,run_underlying hu,Conv.intToInt]
    · cases h
  · cases h
theorem pk_reads {v:Option TV} {ca:Option Bool} {xa:Bool} {u:Value} (hv:∀ y,v=some y→Good β base s w y u) (h:pk v=some (ca,xa)) (hc:condOk ca):u = .bool xa:=by
  unfold pk at h
  split at h
  · rename_i c y
    split at h
    · rename_i x hx;cases h
      exact val_reads hx ((hv _ rfl).1.1 hc)
    · cases h
  · rename_i y _
    split at h
    · rename_i x hx;cases h
      exact val_reads hx (hv _ rfl).1
    · cases h
  · cases h
theorem op_pick (hS:Sat base w0 n β s a w) {c x y:Operand} (ho:o.op = .pick c x y) (h:absOp X s o=some e) (hp:e.pre) (hd:∀ d,o.dst=some d→d<n)
    (hK:∀ β' a' w',Sat base w0 n β' (s.app o.dst e) a' w'→K a' w'):o.wp P a w K Q:=by
  have hrun:∀ b,a.eval c = .bool b→(execOp a.eval o).run P w = .ok (.value (if b then a.eval x else a.eval y)) w:=by
    intro b hb
    unfold execOp;rw [ho];simp [hb,asBool]
  have hc:=good1 hS c
  have hx:=good1 hS x
  have hy:=good1 hS y
  simp only [absOp,req,fin,ho,Op.operands,List.map_cons,List.map_nil] at h
  split at h
  · rename_i p c' ca xa cb xb hf h1 h2
    split at h
    · rename_i b hv
      cases h
      have hb:=val_reads hv (force_good hf hp.1 hc).1
      have k1:b=true→a.eval x = .bool xa:=fun e=>pk_reads hx h1 (hp.2.1 e)
      have k2:b=false→a.eval y = .bool xb:=fun e=>pk_reads hy h2 (hp.2.2 e)
      refine done_val hS (v := .bool (bif b then xa else xb)) ?_ hd (fun z hz=>by cases hz;exact good_refs rfl rfl) rfl rfl hK
      rw [hrun b hb]
      cases b with
      | true=>simp [k1 rfl]
      | false=>simp [k2 rfl]
    · cases h
  · cases h
end
section
variable {P:Program} {X:Cx} {base:Nat} {w0:World} {n:Nat} {β:Nat→Nat} {s:St} {a:Act} {w:World} {o:Oper} {e:Eff} {K:Act→World→Prop} {Q:Exit→Act→World→Prop}
theorem okCell_one {v:Value} (h:okCell v=true):v.oneCell'=true:=by cases v<;>first|rfl|cases h
theorem store_all (b:Nat):∀ (ys:List A0) (us:List Value) (off i:Nat) (s:St) (w:World),Sat base w0 n β s a w→All2 (A0.reads (base+β eraK) w) ys us→ys.all okA=true→(∀ j,j<ys.length→s.m b (off+i+j)≠none) →
    ∃ w',(storeCells ⟨β b,off,none⟩ us i).run P w = .ok () w'∧Sat base w0 n β { s with m:=St.wrs s.m ((span b (off+i) ys.length).zipWith (fun p y=>(p.1,p.2,y)) ys) } a w'
  | [],us,off,i,s,w,hS,hr,hok,hm=>by
    cases hr
    exact ⟨w,rfl,by simpa [span,St.wrs] using hS⟩
  | y :: ys, us, off, i, s, w, hS, hr, hok, hm => by
    cases hr with
    | cons h1 h2 =>
      rename_i u us
      simp only [List.all_cons,Bool.and_eq_true] at hok
      obtain ⟨⟨x0,hx0⟩,hfr,hS1⟩:=hS.store (b:=b) (off:=off+i) (by have:=hm 0 (by simp);simpa using this) h1 hok.1
      have hu:u.oneCell'=true:=okCell_one (okA_reads h1 hok.1)
      obtain ⟨ty,hT⟩:=Option.ne_none_iff_exists'.1 (hS.has b (off+i) (by have:=hm 0 (by simp);simpa using this))
      obtain ⟨hb1,arr,ha,hokk,hcs⟩:=hS.box b ty hT
      have hf:Far w (w.setCell ⟨β b,off+i,none⟩ u) (some (β b)):=Far.store (p:=⟨β b,off+i,none⟩) ha hokk rfl (hS.raw b ty hT)
      obtain ⟨w',hrun,hS2⟩:=store_all b ys us off (i+1) _ _ hS1 (All2.imp (fun _ _ h=>A0.far h hf) h2) hok.2 (fun j hj=>by
        show upd2 s.m b (off+i) (some y) b (off+(i+1)+j)≠none
        simp only [upd2]
        rw [if_neg (by omega)]
        have:=hm (j+1) (by simp;omega)
        rwa [show off+i+(j+1)=off+(i+1)+j by omega] at this)
      refine ⟨w',?_,?_⟩
      · rw [storeCells,Sem.run_bind,addr_add,run_store P w _ _ _ hu]
        simp only [hx0,hfr,Bool.false_eq_true,if_false,Result.andThen_ok]
        exact hrun
      · rw [show off+(i+1)=off+i+1 by omega] at hS2
        simpa [span,List.range'_succ,St.wrs] using hS2
theorem op_store (ok:CxOk P X) (hS:Sat base w0 n β s a w) {T:TypeId} {x y:Operand} (ho:o.op = .store T x y) (hdst:o.dst=none) (h:absOp X s o=some e) (hp:e.pre)
    (hK:∀ β' a' w',Sat base w0 n β' (s.app o.dst e) a' w'→K a' w'):o.wp P a w K Q:=by
  have hx:=good1 hS x
  have hy:=good1 hS y
  simp only [absOp,req,fin,ho,Op.operands,List.map_cons,List.map_nil] at h
  split at h
  · rename_i p b off q z hfx hfy
    rw [hfx] at h
    simp only at h
    split at h
    · rename_i ys l hys hl
      split at h
      · rename_i hc
        cases h
        obtain ⟨hlen,hall,hpos⟩:=hc
        have gx:=(force_good hfx hp.1 hx).1
        obtain ⟨us,hus,hru⟩:=cells_reads hys (force_good hfy hp.2 hy).1
        obtain ⟨inf,hi,hsz⟩:=(ok.ty T).size (by omega)
        have hm:=allSome_get hl
        obtain ⟨w',hrun,hS'⟩:=store_all (P:=P) b ys us off 0 s w hS hru hall (fun j hj=>by
          have h1:=congrArg (fun t=>t[j]?) hm
          simp only [span,List.map_map,List.getElem?_map] at h1
          rw [List.getElem?_range' (by omega)] at h1
          simp only [Option.map_some,Function.comp] at h1
          have:s.m b (off+1*j)≠none:=by
            cases hlj:l[j]? with
            | none =>
              have:=congrArg List.length hm
              simp [span] at this
              have:=List.getElem?_eq_none_iff.1 hlj
              omega
            | some c =>
              rw [hlj] at h1
              simp at h1
              simp [h1]
          simpa using this)
        have hlu:=All2.length hru
        have hrun2:(execOp a.eval o).run P w = .ok .skip w':=by
          unfold execOp;rw [ho]
          dsimp only
          rw [show a.eval x=_ from gx]
          simp [Instr.storeAt,Instr.sureAddr,storeVar,run_sizeOf' hi,hus,hsz,← hlen,hlu,hrun]
        unfold Oper.wp
        rw [hrun2,Oper.upon_skip]
        refine hK β _ _ ?_
        rw [hdst]
        simp only [Nat.add_zero,hlen] at hS'
        simpa [St.app,St.after,St.app0,Act.put] using hS'
      · cases h
    · cases h
  · cases h
theorem asSl_reads {x:TV} {k:IntKind} {l:List Int} {u:Value} (h:x.asSl=some (k,l)) (hr:x.reads β base w u):unsg k=true∧∃ A c,u = .slice A l.length c∧RdK w k l A c:=by
  unfold TV.asSl at h
  split at h
  · split at h
    · cases h;exact hr
    · cases h
  · cases h;exact ⟨rfl,hr⟩
  · split at h
    · rename_i hk
      cases h
      obtain ⟨A,c,e1,h1,h2⟩:=Kd.R_reads hr.2.2
      exact ⟨hk,A,c,e1,h1,h2⟩
    · cases h
  · split at h
    · rename_i hk
      cases h
      obtain ⟨_,A,c,e1,h1,h2⟩:=hr
      exact ⟨hk,A,c,e1,h1⟩
    · cases h
  · cases h
theorem op_indexAddr (ok:CxOk P X) (hS:Sat base w0 n β s a w) {T:TypeId} {x y:Operand} (ho:o.op = .indexAddr T x y) (h:absOp X s o=some e) (hp:e.pre) (hd:∀ d,o.dst=some d→d<n)
    (hK:∀ β' a' w',Sat base w0 n β' (s.app o.dst e) a' w'→K a' w'):o.wp P a w K Q:=by
  have hrun:(execOp a.eval o).run P w=((Instr.indexAt T (a.eval x) (a.eval y)).run P w).andThen fun v w => .ok (.value v) w:=by
    unfold execOp;rw [ho];simp
  have hx:=good1 hS x
  have hy:=good1 hS y
  have sl:∀ el ad (len cap:Nat) ki (i:Int) inf,P.underlying T=some (.slice el)→P.info? el=some inf→0≤i→i<(len:Int)→(Instr.indexAt T (.slice (some ad) len cap) (.int ki i)).run P w = .ok (.pointer (some (ad.add (i.toNat*inf.size)))) w:=by
    intro el ad len cap ki i inf hu hi h0 h1
    simp [Instr.indexAt,run_underlying hu,asIntOf,h0,h1,run_sizeOf' hi]
  have ar:∀ m el ad ki (i:Int) inf,P.underlying T=some (.array m el)→P.info? el=some inf→0≤i→i<(m:Int)→(Instr.indexAt T (.pointer (some ad)) (.int ki i)).run P w = .ok (.pointer (some (ad.add (i.toNat*inf.size)))) w:=by
    intro m el ad ki i inf hu hi h0 h1
    simp [Instr.indexAt,run_underlying hu,asIntOf,h0,h1,run_sizeOf' hi,Instr.sureAddr]
  simp only [absOp,req,fin,ho,Op.operands,List.map_cons,List.map_nil] at h
  split at h
  · rename_i p x' q ki i el hfx hfy helt
    have hu:=(ok.ty T).slc el helt
    split at h
    · rename_i k l hsl
      split at h
      · rename_i hsz
        cases h
        have gx:=(force_good hfx hp.1 hx).1
        have gy:a.eval y = .int ki i:=(force_good hfy hp.2.1 hy).1
        obtain ⟨hk,A,c,hA,hR⟩:=asSl_reads hsl gx
        have h0:=hp.2.2.1
        have h1:=hp.2.2.2
        obtain ⟨ad,rfl,_⟩:=hR.2.2.2 (by omega)
        obtain ⟨inf,hi,hsi⟩:=(ok.ty el).size (by omega)
        refine done_val hS (v := .pointer (some (ad.add i.toNat))) ?_ hd (fun z hz=>?_) rfl rfl hK
        · rw [hrun,hA,gy,sl el ad _ c ki i inf hu hi h0 h1,hsi,hsz,Nat.mul_one];rfl
        · cases hz
          exact good_refs ⟨hk,_,rfl,h0,h1,ad,c,hR,rfl⟩ rfl
      · cases h
    · rename_i b off m sz hno
      split at h
      · rename_i hsz
        cases h
        have gx:=force_good hfx hp.1 hx
        have gy:a.eval y = .int ki i:=(force_good hfy hp.2.1 hy).1
        obtain ⟨c,hA,hc⟩:=gx.1
        have h0:=hp.2.2.1
        have h1:=hp.2.2.2
        obtain ⟨inf,hi,hsi⟩:=(ok.ty el).size (by omega)
        refine done_val hS (v := .pointer (some ⟨β b,off+i.toNat*sz,none⟩)) ?_ hd (fun z hz=>?_) rfl rfl hK
        · rw [hrun,hA,gy,sl el _ _ c ki i inf hu hi h0 h1,hsi,hsz.1,addr_add];rfl
        · cases hz
          exact ⟨rfl,gx.2⟩
      · cases h
    · rename_i m l hno
      split at h
      · rename_i hsz
        cases h
        have gx:=force_good hfx hp.1 hx
        have gy:a.eval y = .int ki i:=(force_good hfy hp.2.1 hy).1
        obtain ⟨A,c,hA,hc,hcell⟩:=gx.1
        have h0:=hp.2.2.1
        have h1:=hp.2.2.2
        obtain ⟨ad,rfl,hbl,hcs⟩:=hcell (by omega)
        obtain ⟨inf,hi,hsi⟩:=(ok.ty el).size (by omega)
        refine done_val hS (v := .pointer (some (ad.add (i.toNat*(X.ti el).size)))) ?_ hd (fun z hz=>?_) rfl rfl hK
        · rw [hrun,hA,gy,sl el ad _ c ki i inf hu hi h0 h1,hsi];rfl
        · cases hz
          refine good_refs ⟨_,rfl,?_,fun j c hj=>?_⟩ rfl
          · unfold Addr.add;split<;>exact hbl
          · rw [addr_add_add]
            exact hcs _ _ (by simpa using hj)
      · cases h
    · rename_i m sz f hno
      split at h
      · rename_i hsz
        cases h
        have gx:=force_good hfx hp.1 hx
        have gy:a.eval y = .int ki i:=(force_good hfy hp.2.1 hy).1
        obtain ⟨A,c,hA,hc,hcell⟩:=gx.1
        have h0:=hp.2.2.1
        have h1:=hp.2.2.2
        obtain ⟨ad,rfl,hbl,hcs⟩:=hcell (by omega)
        obtain ⟨inf,hi,hsi⟩:=(ok.ty el).size (by omega)
        refine done_val hS (v := .pointer (some (ad.add (i.toNat*sz)))) ?_ hd (fun z hz=>?_) rfl rfl hK
        · rw [hrun,hA,gy,sl el ad _ c ki i inf hu hi h0 h1,hsi,hsz.1];rfl
        · cases hz
          refine good_refs ⟨_,rfl,?_,hcs i.toNat (by omega)⟩ rfl
          unfold Addr.add;split<;>exact hbl
      · cases h
    · cases h
  · rename_i p b off q ki i m el hfx hfy helt
    split at h
    · rename_i hsz
      cases h
      have hu:=(ok.ty T).arr m el helt
      have gx:=force_good hfx hp.1 hx
      have gy:a.eval y = .int ki i:=(force_good hfy hp.2.1 hy).1
      obtain ⟨inf,hi,hsi⟩:=(ok.ty el).size (by omega)
      refine done_val hS (v := .pointer (some ⟨β b,off+i.toNat*(X.ti el).size,none⟩)) ?_ hd (fun z hz=>?_) rfl rfl hK
      · rw [hrun,show a.eval x=_ from gx.1,gy,ar m el _ ki i inf hu hi hp.2.2.1 hp.2.2.2,hsi,addr_add];rfl
      · cases hz
        exact ⟨rfl,gx.2⟩
    · cases h
  · rename_i p l q ki i m el hfx hfy helt
    split at h
    · rename_i hsz
      cases h
      have hu:=(ok.ty T).arr m el helt
      obtain ⟨ad,hA,hbl,hcs⟩:=(force_good hfx hp.1 hx).1
      have gy:a.eval y = .int ki i:=(force_good hfy hp.2.1 hy).1
      obtain ⟨inf,hi,hsi⟩:=(ok.ty el).size (by omega)
      refine done_val hS (v := .pointer (some (ad.add (i.toNat*(X.ti el).size)))) ?_ hd (fun z hz=>?_) rfl rfl hK
      · rw [hrun,hA,gy,ar m el ad ki i inf hu hi hp.2.2.1 hp.2.2.2,hsi];rfl
      · cases hz
        refine good_refs ⟨_,rfl,?_,fun j c hj=>?_⟩ rfl
        · unfold Addr.add;split<;>exact hbl
        · rw [addr_add_add]
          exact hcs _ _ (by simpa using hj)
    · cases h
  · cases h
theorem all2_append {α β:Type} {R:α→β→Prop} {l1 l2:List α} {m1 m2:List β} (h1:All2 R l1 m1) (h2:All2 R l2 m2):All2 R (l1++l2) (m1++m2):=by
  induction h1 with
  | nil=>exact h2
  | cons h _ ih=>exact .cons h ih
theorem all2_set {α β:Type} {R:α→β→Prop} {l:List α} {m:List β} (h:All2 R l m) {x:α} {y:β} (hr:R x y):∀ i:Nat,All2 R (l.set i x) (m.set i y):=by
  induction h with
  | nil=>intro i;exact .nil
  | cons h1 h2 ih =>
    intro i
    cases i with
    | zero=>exact .cons hr h2
    | succ i=>exact .cons h1 (ih i)
theorem putAll_reads {base:Nat} {w:World}:∀ {ys:List A0} {us:List Value} {cs:List A0} {vs:List Value} (off j:Nat),All2 (A0.reads (base+β eraK) w) ys us→All2 (A0.reads (base+β eraK) w) cs vs →
    All2 (A0.reads (base+β eraK) w) (putAll0 cs (off+j) ys) ((us.zipIdx j).foldl (fun c p=>c.set (off+p.2) p.1) vs)
  | [],_,cs,vs,off,j,h,hc=>by cases h;exact hc
  | y :: ys, _, cs, vs, off, j, h, hc => by
    cases h with
    | cons h1 h2 =>
      rw [putAll0,List.zipIdx_cons,List.foldl_cons]
      exact putAll_reads off (j+1) h2 (all2_set hc h1 _)
theorem foldl_arr (vs:List Value) (off:Nat):∀ (l:List (Value × Nat)),(l.foldl (fun (cs:Array Value) p=>cs.setIfInBounds (off+p.2) p.1) vs.toArray)=(l.foldl (fun c p=>c.set (off+p.2) p.1) vs).toArray:=by
  intro l
  induction l generalizing vs with
  | nil=>rfl
  | cons p l ih=>simp only [List.foldl_cons,List.setIfInBounds_toArray];exact ih _
theorem fill_reads {place:Nat→Option (Nat × Nat)}:∀ {prs:List (Nat × TV)} {us:List Value} {cs l:List A0} {vs:List Value},fillAll place cs prs=some l→All2 (fun q u=>q.2.reads β base w u) prs us→All2 (A0.reads (base+β eraK) w) cs vs →
    ∃ r:List Value,Instr.fill place vs.toArray ((prs.map (·.1)).zip us)=some r.toArray∧All2 (A0.reads (base+β eraK) w) l r
  | [],_,cs,l,vs,h,hu,hc=>by
    cases hu
    cases h
    exact ⟨vs,rfl,hc⟩
  | (i, y) :: prs, _, cs, l, vs, h, hu, hc => by
    cases hu with
    | cons h1 h2 =>
      rename_i u us
      rw [fillAll] at h
      split at h
      · rename_i off size ys hpl hys
        split at h
        · rename_i hln
          obtain ⟨vu,he,hr⟩:=cells_reads hys h1
          have hlu:=All2.length hr
          have hlv:=All2.length hc
          have h3:=putAll_reads (w:=w) off 0 hr hc
          simp only [Nat.add_zero] at h3
          obtain ⟨r,hr1,hr2⟩:=fill_reads h h2 h3
          refine ⟨r,?_,hr2⟩
          rw [List.map_cons,List.zip_cons_cons,Instr.fill]
          simp only [hpl,he]
          rw [if_neg (by simp;omega)]
          rw [← hr1]
          congr 1
          have:=foldl_arr vs off vu.zipIdx
          rw [← this]
          simp only [← Array.foldl_toList,Array.toList_zipIdx,List.toList_toArray]
        · cases h
      · cases h
end
section
variable {P:Program} {X:Cx} {base:Nat} {w0:World} {n:Nat} {β:Nat→Nat} {s:St} {a:Act} {w:World} {o:Oper} {e:Eff} {K:Act→World→Prop} {Q:Exit→Act→World→Prop}
theorem op_field (ok:CxOk P X) (hS:Sat base w0 n β s a w) {T:TypeId} {x:Operand} {j:Nat} (ho:o.op = .field T x j) (h:absOp X s o=some e) (hp:e.pre) (hd:∀ d,o.dst=some d→d<n)
    (hK:∀ β' a' w',Sat base w0 n β' (s.app o.dst e) a' w'→K a' w'):o.wp P a w K Q:=by
  have hrun:(execOp a.eval o).run P w=((Instr.field T (a.eval x) j).run P w).andThen fun v w => .ok (.value v) w:=by
    unfold execOp;rw [ho];simp
  have hx:=good1 hS x
  simp only [absOp,req,fin,ho,Op.operands,List.map_cons,List.map_nil] at h
  split at h
  · rename_i p l d ft hf hj
    obtain ⟨fs,f,inf,h1,h2,h3,h4,h5,h6⟩:=(ok.ty T).offs j d ft hj
    subst h4
    split at h
    · rename_i hag
      split at h
      · rename_i hsz
        cases h
        obtain ⟨us,he,hr⟩:=(force_good hf hp hx).1
        obtain ⟨inf',hi,hsi⟩:=(ok.ty f.type).size (by omega)
        have hr':=congrFun ((ok.ty f.type).agg (by omega)) w
        rw [hag] at hr'
        refine done_val hS (v := .agg ((us.drop d).take (X.ti f.type).size).toArray) ?_ hd (fun y hy=>?_) rfl rfl hK
        · rw [hrun,he]
          simp [Instr.field,run_underlying h1,h2,asAgg,part,hr',run_sizeOf' hi,hsi,h3,List.extract_eq_take_drop]
        · cases hy
          refine good_refs ⟨_,rfl,?_⟩ rfl
          refine All2.of_get ?_ (fun i c u hi hu=>?_)
          · simp [All2.length hr]
          · rw [List.getElem?_take] at hi hu
            split at hi
            · rename_i hlt
              rw [if_pos hlt] at hu
              rw [List.getElem?_drop] at hi hu
              obtain ⟨u',hu',hru⟩:=All2.get hr _ c hi
              rw [hu'] at hu;cases hu;exact hru
            · cases hi
      · cases h
    · rename_i c hag hc
      split at h
      · rename_i hsz
        cases h
        obtain ⟨us,he,hr⟩:=(force_good hf hp hx).1
        obtain ⟨u,hu,hru⟩:=All2.get hr d c hc
        have hr':=congrFun ((ok.ty f.type).agg (by omega)) w
        rw [hag] at hr'
        refine done_val hS (v:=u) ?_ hd (fun y hy=>?_) rfl rfl hK
        · rw [hrun,he]
          simp [Instr.field,run_underlying h1,h2,asAgg,part,hr',h3,hu]
        · cases hy
          exact good_refs hru rfl
      · cases h
    · cases h
  · cases h
theorem zip_reads:∀ {is:List Nat} {ys:List TV} {us:List Value},is.length=us.length→All2 (Good β base s w) ys us→All2 (fun (q:Nat × TV) u=>q.2.reads β base w u) (is.zip ys) us∧(is.zip ys).map (·.1)=is
  | [],_,_,hl,h=>by
    cases h with
    | nil=>exact ⟨.nil,rfl⟩
    | cons _ _=>simp at hl
  | i :: is, _, _, hl, h => by
    cases h with
    | nil=>simp at hl
    | cons h1 h2 =>
      obtain ⟨r1,r2⟩:=zip_reads (is:=is) (by simpa using hl) h2
      exact ⟨.cons h1.1 r1,by simp [r2]⟩
theorem op_build (ok:CxOk P X) (hS:Sat base w0 n β s a w) {T:TypeId} {parts:Array (Nat × Operand)} (ho:o.op = .build T parts) (hst:(X.ti T).agg=true→(X.ti T).elt=none→(X.ti T).zero≠none→∃ fs,P.underlying T=some (.struct fs)∧∃ ps,((fs.mapM fun f=>do pure (f.offset,← sizeOf f.type)):Sem (Array (Nat × Nat))).run P w = .ok ps w∧∀ (i:Nat),ps[i]?=((X.ti T).offs[i]?).map fun (q:Nat × TypeId)=>(q.1,(X.ti q.2).size)) (h:absOp X s o=some e) (hp:e.pre) (hd:∀ d,o.dst=some d→d<n)
    (hK:∀ β' a' w',Sat base w0 n β' (s.app o.dst e) a' w'→K a' w'):o.wp P a w K Q:=by
  simp only [absOp,req,fin,ho,Op.operands] at h
  have hv:=vs_good hS (parts.toList.map (·.2))
  split at h
  · rename_i p ys zs hf hz hag helt
    split at h
    · rename_i l hl
      cases h
      have hg:=forces_good hf hp hv
      obtain ⟨inf,z,us,h1,h2,h3,h4,h5⟩:=(ok.ty T).zero zs hz
      obtain ⟨zr1,zr2⟩:=zip_reads (is:=parts.toList.map (·.1)) (by simp) hg
      obtain ⟨fs,hu,ps,hps,hpl⟩:=hst hag helt (by rw [hz];simp)
      have hpl':(fun i=>((X.ti T).offs[i]?).map fun (q:Nat × TypeId)=>(q.1,(X.ti q.2).size))=(ps[·]?):=funext fun i=>(hpl i).symm
      rw [hpl'] at hl
      obtain ⟨r,hr1,hr2⟩:=fill_reads hl zr1 (h4 (base+β eraK) w)
      rw [zr2] at hr1
      refine done_val hS (v := .agg r.toArray) ?_ hd (fun y hy=>?_) rfl rfl hK
      · unfold execOp;rw [ho]
        have e1:(parts.map fun (q:Nat × Operand)=>(q.1,a.eval q.2)).toList=(parts.toList.map (·.1)).zip (parts.toList.map (fun q=>a.eval q.2)):=by
          rw [Array.toList_map]
          induction parts.toList with
          | nil=>rfl
          | cons q l ih=>simp [ih]
        dsimp only
        rw [Sem.run_bind]
        have e2:(Instr.build T (parts.map fun (q:Nat × Operand)=>(q.1,a.eval q.2))).run P w = .ok (.agg r.toArray) w:=by
          unfold Instr.build
          simp only [Sem.run_bind,zeroValue,typeInfo,run_program,h1,Sem.run_pure,Result.andThen_ok,h2,run_underlying hu,hps]
          rw [e1,h3]
          have hr2:Instr.fill (fun x=>ps[x]?) us.toArray ((parts.toList.map (·.1)).zip (parts.toList.map (fun q=>a.eval q.2)))=some r.toArray:=by
            rw [List.map_map] at hr1;exact hr1
          rw [hr2]
          rfl
        rw [show (fun (x:Nat × Operand)=>match x with|(i,x)=>(i,a.eval x))=fun (q:Nat × Operand)=>(q.1,a.eval q.2) from rfl,e2]
        rfl
      · cases hy
        exact good_refs ⟨r,rfl,hr2⟩ rfl
    · cases h
  · rename_i p ys zs ne ee hf hz hag helt
    split at h
    · rename_i l hpos hl
      cases h
      have hpos:=of_decide_eq_true hpos
      have hg:=forces_good hf hp hv
      obtain ⟨inf,z,us,h1,h2,h3,h4,h5⟩:=(ok.ty T).zero zs hz
      obtain ⟨zr1,zr2⟩:=zip_reads (is:=parts.toList.map (·.1)) (by simp) hg
      have hu:=(ok.ty T).arr _ _ helt
      obtain ⟨einf,he1,he2⟩:=(ok.ty ee).size (by omega)
      obtain ⟨r,hr1,hr2⟩:=fill_reads hl zr1 (h4 (base+β eraK) w)
      rw [zr2] at hr1
      refine done_val hS (v := .agg r.toArray) ?_ hd (fun y hy=>?_) rfl rfl hK
      · unfold execOp;rw [ho]
        have e1:(parts.map fun (q:Nat × Operand)=>(q.1,a.eval q.2)).toList=(parts.toList.map (·.1)).zip (parts.toList.map (fun q=>a.eval q.2)):=by
          rw [Array.toList_map]
          induction parts.toList with
          | nil=>rfl
          | cons q l ih=>simp [ih]
        dsimp only
        rw [Sem.run_bind]
        have e2:(Instr.build T (parts.map fun (q:Nat × Operand)=>(q.1,a.eval q.2))).run P w = .ok (.agg r.toArray) w:=by
          unfold Instr.build
          simp only [Sem.run_bind,zeroValue,typeInfo,run_program,h1,Sem.run_pure,Result.andThen_ok,h2,run_underlying hu,run_sizeOf' he1,he2]
          rw [e1,h3]
          have hr2:Instr.fill (fun i=>some (i*(X.ti ee).size,(X.ti ee).size)) us.toArray ((parts.toList.map (·.1)).zip (parts.toList.map (fun q=>a.eval q.2)))=some r.toArray:=by
            rw [List.map_map] at hr1;exact hr1
          rw [hr2]
          rfl
        rw [show (fun (x:Nat × Operand)=>match x with|(i,x)=>(i,a.eval x))=fun (q:Nat × Operand)=>(q.1,a.eval q.2) from rfl,e2]
        rfl
      · cases hy
        exact good_refs ⟨r,rfl,hr2⟩ rfl
    · cases h
  · cases h
theorem op_makeFunc (hS:Sat base w0 n β s a w) {fn:Fn} {first captured:Array Operand} (ho:o.op = .makeFunc fn first captured) (h:absOp X s o=some e) (hp:e.pre) (hd:∀ d,o.dst=some d→d<n)
    (hK:∀ β' a' w',Sat base w0 n β' (s.app o.dst e) a' w'→K a' w'):o.wp P a w K Q:=by
  simp only [absOp,req,fin,ho,Op.operands] at h
  split at h
  · rename_i f p ys hfi hfo
    split at h
    · rename_i bs hbs
      cases h
      have hfi':first=#[]:=by
        apply Array.ext';simpa using hfi
      subst hfi'
      have hv:=vs_good hS captured.toList
      rw [show (#[]++captured:Array Operand).toList=captured.toList by simp] at hfo
      have hg:=forces_good hfo hp hv
      have key:∀ (ys:List TV) (us:List Value) (bs:List Nat),allSome (ys.map fun y=>match y with | .ptr b 0=>some b|_=>none)=some bs→All2 (Good β base s w) ys us→us=bs.map (fun b=>Value.pointer (some ⟨β b,0,none⟩))∧∀ b∈bs,s.T b≠none:=by
        intro ys
        induction ys with
        | nil=>intro us bs h1 h2;cases h2;cases h1;exact ⟨rfl,by simp⟩
        | cons y ys ih =>
          intro us bs h1 h2
          cases h2 with
          | cons h3 h4 =>
            have h5:=allSome_get h1
            cases bs with
            | nil=>simp at h5
            | cons b bs =>
              simp only [List.map_cons,List.cons.injEq] at h5
              obtain ⟨h6,h7⟩:=h5
              have hb:y = .ptr b 0:=by
                split at h6
                · cases h6;rfl
                · cases h6
              subst hb
              have h8:allSome (ys.map fun y=>match y with | .ptr b 0=>some b|_=>none)=some bs:=by
                rw [h7]
                clear ih h1 h7 h6 h4
                induction bs with
                | nil=>rfl
                | cons b bs ih=>simp [allSome,ih]
              obtain ⟨r1,r2⟩:=ih _ bs h8 h4
              refine ⟨by rw [r1,show _=_ from h3.1];rfl,fun b' hb'=>?_⟩
              rcases List.mem_cons.1 hb' with rfl|hb'
              · exact h3.2 _ (by simp [TV.refs])
              · exact r2 b' hb'
      obtain ⟨k1,k2⟩:=key ys _ bs hbs hg
      refine done_val hS (v := .func (.func f) #[] (bs.map fun b=>Value.pointer (some ⟨β b,0,none⟩)).toArray) ?_ hd (fun y hy=>?_) rfl rfl hK
      · unfold execOp;rw [ho]
        have:(captured.map a.eval)=(bs.map fun b=>Value.pointer (some ⟨β b,0,none⟩)).toArray:=by
          apply Array.ext';rw [Array.toList_map,k1]
        simp [Instr.makeFunc,this]
      · cases hy
        exact ⟨rfl,k2⟩
    · cases h
  · cases h
theorem op_len (ok:CxOk P X) (hS:Sat base w0 n β s a w) {c:Call} (ho:o.op = .call c) (hc:c.callee = .builtin .len) (h:absOp X s o=some e) (hp:e.pre) (hd:∀ d,o.dst=some d→d<n)
    (hK:∀ β' a' w',Sat base w0 n β' (s.app o.dst e) a' w'→K a' w'):o.wp P a w K Q:=by
  obtain ⟨callee,args,argTypes⟩:=c
  simp only at hc
  subst hc
  have hia:isApp (.builtin .len)=false:=rfl
  simp only [absOp,req,fin,ho,Op.operands,Call.operands,hia] at h
  have hrun:∀ T x,argTypes=#[T]→args=#[x]→(execOp a.eval o).run P w=((Builtin.len_ #[T] o.type #[a.eval x]).run P w).andThen fun v w => .ok (.value v) w:=by
    intro T x h1 h2
    subst h1 h2
    unfold execOp;rw [ho]
    simp [resolve,invoke,builtin]
  have hv:=vs_good hS args.toList
  split at h
  · rename_i hcal _;cases hcal
  · rename_i p x _ hfo
    rw [show (#[]++args:Array Operand).toList=args.toList by simp] at hfo
    split at h
    · rename_i T hT
      have hT':argTypes=#[T]:=by apply Array.ext';exact hT
      have hex:∃ y,args=#[y]:=by
        have hl:args.toList.length=1:=by
          have:=All2.length (forces_good (β:=β) (base:=base) (s:=s) (w:=w) hfo (by
            split at h
            · cases h;exact hp
            · cases h;exact hp
            · cases h;exact hp
            · cases h;exact hp
            · cases h;exact hp
            · cases h) hv)
          simpa using this.symm
        obtain ⟨l⟩:=args
        match l,hl with
        | [y],_=>exact ⟨y,rfl⟩
      obtain ⟨y,rfl⟩:=hex
      have hgo:p→Good β base s w x (a.eval y):=fun hpp=>by
        have:=forces_good hfo hpp hv
        cases this with
        | cons h1 _=>exact h1
      have fin2:∀ A (m cap:Nat) el,P.underlying T=some (.slice el)→a.eval y = .slice A m cap→(execOp a.eval o).run P w = .ok (.value (.int .i64 m)) w:=by
        intro A m cap el hu he
        rw [hrun T y hT' rfl,he]
        simp [Builtin.len_,run_underlying hu,goInt]
      split at h
      · rename_i el k l helt hsl
        cases h
        obtain ⟨hk,A,c,hA,hR⟩:=asSl_reads hsl (hgo hp).1
        refine done_val hS (fin2 A _ c el ((ok.ty T).slc el helt) hA) hd (fun z hz=>by cases hz;exact good_refs rfl rfl) rfl rfl hK
      · rename_i el b off m sz helt _
        cases h
        obtain ⟨c,hA,_⟩:=(hgo hp).1
        refine done_val hS (fin2 _ _ c el ((ok.ty T).slc el helt) hA) hd (fun z hz=>by cases hz;exact good_refs rfl rfl) rfl rfl hK
      · rename_i el m helt _
        cases h
        obtain ⟨A,c,hA⟩:=(hgo hp).1
        refine done_val hS (fin2 _ _ c el ((ok.ty T).slc el helt) hA) hd (fun z hz=>by cases hz;exact good_refs rfl rfl) rfl rfl hK
      · rename_i el m l helt _
        cases h
        obtain ⟨A,c,hA,_⟩:=(hgo hp).1
        refine done_val hS (fin2 _ _ c el ((ok.ty T).slc el helt) hA) hd (fun z hz=>by cases hz;exact good_refs rfl rfl) rfl rfl hK
      · rename_i el m sz f helt _
        cases h
        obtain ⟨A,c,hA,_⟩:=(hgo hp).1
        refine done_val hS (fin2 _ _ c el ((ok.ty T).slc el helt) hA) hd (fun z hz=>by cases hz;exact good_refs rfl rfl) rfl rfl hK
      · cases h
    · cases h
  · rename_i hcal _;cases hcal
  · rename_i hcal _;cases hcal
  · cases h
theorem forces_len:∀ {vs:List (Option TV)} {p:Prop} {ys:List TV},forces vs=some (p,ys)→vs.length=ys.length
  | [],p,ys,h=>by cases h;rfl
  | v::vs,p,ys,h=>by
    rw [forces] at h
    split at h
    · rename_i e1 e2;cases h;simp [forces_len e2]
    · cases h
theorem arr2 {α:Type} {a:Array α} (h:a.toList.length=2):∃ x y,a=#[x,y]:=by
  obtain ⟨l⟩:=a
  match l,h with
  | [x,y],_=>exact ⟨x,y,rfl⟩
theorem op_minmax (hS:Sat base w0 n β s a w) {c:Call} (ho:o.op = .call c) (hc:c.callee = .builtin .min∨c.callee = .builtin .max) (h:absOp X s o=some e) (hp:e.pre) (hd:∀ d,o.dst=some d→d<n)
    (hK:∀ β' a' w',Sat base w0 n β' (s.app o.dst e) a' w'→K a' w'):o.wp P a w K Q:=by
  obtain ⟨callee,args,argTypes⟩:=c
  simp only at hc
  have hv:=vs_good hS args.toList
  have hops:args.toList.map (getv s.g)=(#[]++args:Array Operand).toList.map (getv s.g):=by simp
  rcases hc with hc|hc
  · subst hc
    have hia:isApp (.builtin .min)=false:=rfl
    simp only [absOp,req,fin,ho,Op.operands,Call.operands,hia] at h
    rw [← hops] at h
    split at h
    · rename_i hcal _;cases hcal
    · rename_i hcal _;cases hcal
    · rename_i p x y _ hfo
      split at h
      · rename_i k i k' j h1 h2
        cases h
        obtain ⟨u,v,rfl⟩:=arr2 (a:=args) (by have:=forces_len hfo;simpa using this)
        obtain ⟨_,_,e0,hg1,hg2⟩:∃ a1 a2,[a.eval u,a.eval v]=[a1,a2]∧Good β base s w x a1∧Good β base s w y a2:=by
          have:=forces_good hfo hp hv
          cases this with
          | cons h1 h2=>cases h2 with|cons h2 h3=>exact ⟨_,_,rfl,h1,h2⟩
        cases e0
        refine done_val hS (v := .int k (if j<i then j else i)) ?_ hd (fun z hz=>by cases hz;exact good_refs rfl rfl) rfl rfl hK
        unfold execOp;rw [ho]
        simp [resolve,invoke,builtin,val_reads h1 hg1.1,val_reads h2 hg2.1,run_min_int2]
      · cases h
    · rename_i hcal _;cases hcal
    · cases h
  · subst hc
    have hia:isApp (.builtin .max)=false:=rfl
    simp only [absOp,req,fin,ho,Op.operands,Call.operands,hia] at h
    rw [← hops] at h
    split at h
    · rename_i hcal _;cases hcal
    · rename_i hcal _;cases hcal
    · rename_i hcal _;cases hcal
    · rename_i p x y _ hfo
      split at h
      · rename_i k i k' j h1 h2
        cases h
        obtain ⟨u,v,rfl⟩:=arr2 (a:=args) (by have:=forces_len hfo;simpa using this)
        obtain ⟨_,_,e0,hg1,hg2⟩:∃ a1 a2,[a.eval u,a.eval v]=[a1,a2]∧Good β base s w x a1∧Good β base s w y a2:=by
          have:=forces_good hfo hp hv
          cases this with
          | cons h1 h2=>cases h2 with|cons h2 h3=>exact ⟨_,_,rfl,h1,h2⟩
        cases e0
        refine done_val hS (v := .int k (if j>i then j else i)) ?_ hd (fun z hz=>by cases hz;exact good_refs rfl rfl) rfl rfl hK
        unfold execOp;rw [ho]
        simp [resolve,invoke,builtin,val_reads h1 hg1.1,val_reads h2 hg2.1,run_max_int2]
      · cases h
    · cases h
theorem op_cut (ok:CxOk P X) (hS:Sat base w0 n β s a w) {T:TypeId} {x:Operand} {lo hi mx:Option Operand} (ho:o.op = .slice T x lo hi mx) (h:finCut X T lo hi mx (o.op.operands.toList.map (getv s.g))=some e) (hp:e.pre) (hd:∀ d,o.dst=some d→d<n)
    (hK:∀ β' a' w',Sat base w0 n β' (s.app o.dst e) a' w'→K a' w'):o.wp P a w K Q:=by
  have hrun:(execOp a.eval o).run P w=((Instr.sliceAt T (a.eval x) (lo.map a.eval) (hi.map a.eval) (mx.map a.eval)).run P w).andThen fun v w => .ok (.value v) w:=by
    unfold execOp;rw [ho];simp
  unfold finCut at h
  split at h
  · rename_i p y r e' hfo helt
    split at h
    · cases h
    rename_i k l has
    split at h
    · rename_i hk
      have hu:=(ok.ty T).slc _ helt
      obtain ⟨inf,hin,hsi⟩:=(ok.ty e').size (by omega)
      have hsl:∀ x lo hi,(Instr.sliceAt T x lo hi none).run P w=(Instr.slice T x lo hi none).run P w:=fun x lo hi=>by
        simp only [Instr.sliceAt,Sem.run_bind,run_underlying hu,Result.andThen_ok]
      split at h
      · rename_i lo' hi' ki i kj j
        cases h
        have hv:=vs_good hS [x,lo',hi']
        have hg:=forces_good (vs:=[x,lo',hi'].map (getv s.g)) (by rw [ho] at hfo;simpa [Op.operands] using hfo) hp.1 hv
        cases hg with
        | cons g1 hg=>cases hg with
          | cons g2 hg=>cases hg with
            | cons g3 hg =>
              cases hg
              obtain ⟨_,p1,p2,p3⟩:=hp
              obtain ⟨hun,A,c,e1,hr⟩:=asSl_reads has g1.1
              have e2:a.eval lo' = .int ki i:=g2.1
              have e3:a.eval hi' = .int kj j:=g3.1
              have hl:((l.take j.toNat).drop i.toNat).length=j.toNat-i.toNat:=by rw [List.length_drop,List.length_take];omega
              have hC:=Kd.C_mid (lo:=i.toNat) (hi:=j.toNat) hr.2 (by omega) (by omega) hr.1
              refine done_val hS (v := .slice (if c=i.toNat then A else A.map (·.add (i.toNat*1))) ((l.take j.toNat).drop i.toNat).length (c-i.toNat)) ?_ hd (fun z hz=>by cases hz;exact ⟨⟨hun,_,_,rfl,by rw [hl];have:=hr.1;omega,hC⟩,by simp [TV.refs]⟩) rfl rfl hK
              rw [hrun,e1]
              simp only [Option.map_some,Option.map_none,e2,e3]
              rw [hsl,cut_mid T e' ki kj hu hin 1 (by omega) A l.length c i j p1 p2 p3 hr.1,hl];rfl
      · rename_i lo' ki i
        cases h
        have hv:=vs_good hS [x,lo']
        have hg:=forces_good (vs:=[x,lo'].map (getv s.g)) (by rw [ho] at hfo;simpa [Op.operands] using hfo) hp.1 hv
        cases hg with
        | cons g1 hg=>cases hg with
          | cons g2 hg =>
            cases hg
            obtain ⟨_,p1,p2⟩:=hp
            obtain ⟨hun,A,c,e1,hr⟩:=asSl_reads has g1.1
            have e2:a.eval lo' = .int ki i:=g2.1
            have hl:(l.drop i.toNat).length=l.length-i.toNat:=List.length_drop
            have hC:=Kd.C_drop (m:=i.toNat) hr.2 (by omega) hr.1
            refine done_val hS (v := .slice (if c=i.toNat then A else A.map (·.add (i.toNat*1))) (l.drop i.toNat).length (c-i.toNat)) ?_ hd (fun z hz=>by cases hz;exact ⟨⟨hun,_,_,rfl,by rw [hl];have:=hr.1;omega,hC⟩,by simp [TV.refs]⟩) rfl rfl hK
            rw [hrun,e1]
            simp only [Option.map_some,Option.map_none,e2]
            rw [hsl,cut_from T e' ki hu hin 1 (by omega) A l.length c i p1 p2,hl];rfl
      · rename_i hi' kj j
        cases h
        have hv:=vs_good hS [x,hi']
        have hg:=forces_good (vs:=[x,hi'].map (getv s.g)) (by rw [ho] at hfo;simpa [Op.operands] using hfo) hp.1 hv
        cases hg with
        | cons g1 hg=>cases hg with
          | cons g2 hg =>
            cases hg
            obtain ⟨_,p1,p2⟩:=hp
            obtain ⟨hun,A,c,e1,hr⟩:=asSl_reads has g1.1
            have e2:a.eval hi' = .int kj j:=g2.1
            have hl:(l.take j.toNat).length=j.toNat:=by rw [List.length_take];omega
            have hC:=Kd.C_take (m:=j.toNat) hr.2 (by omega)
            refine done_val hS (v := .slice A (l.take j.toNat).length c) ?_ hd (fun z hz=>by cases hz;exact ⟨⟨hun,_,_,rfl,by rw [hl];have:=hr.1;omega,hC⟩,by simp [TV.refs]⟩) rfl rfl hK
            rw [hrun,e1]
            simp only [Option.map_some,Option.map_none,e2]
            rw [hsl,cut_to T e' kj hu hin A l.length c j p1 p2 hr.1,hl];rfl
      · cases h
    · cases h
  · cases h
theorem op_slice (ok:CxOk P X) (hS:Sat base w0 n β s a w) {T:TypeId} {x:Operand} {lo hi mx:Option Operand} (ho:o.op = .slice T x lo hi mx) (h:absOp X s o=some e) (hp:e.pre) (hd:∀ d,o.dst=some d→d<n)
    (hK:∀ β' a' w',Sat base w0 n β' (s.app o.dst e) a' w'→K a' w'):o.wp P a w K Q:=by
  have hrun:(execOp a.eval o).run P w=((Instr.sliceAt T (a.eval x) (lo.map a.eval) (hi.map a.eval) (mx.map a.eval)).run P w).andThen fun v w => .ok (.value v) w:=by
    unfold execOp;rw [ho];simp
  have hall:(match finCut X T lo hi mx (o.op.operands.toList.map (getv s.g)) with
    | some e'=>some e'=some e
    | none=>absOp X s o=some e):=by
    split
    · rename_i e' he
      rw [← h]
      simp only [absOp,fin,ho]
      rw [ho] at he
      rw [he]
    · exact h
  split at hall
  · rename_i e' he
    cases hall
    exact op_cut ok hS ho he hp hd hK
  rename_i hnone
  rw [ho] at hnone
  simp only [absOp,req,fin,ho,hnone] at h
  simp only [Op.operands] at h
  split at h
  · rename_i lo' hi' p b off ki i kj j len el helt hfo
    split at h
    · rename_i hsz
      cases h
      have hu:=(ok.ty T).arr len el helt
      obtain ⟨inf,hin,hsi⟩:=(ok.ty el).size (by omega)
      have hv:=vs_good hS [x,lo',hi']
      have hg:=forces_good (vs:=[x,lo',hi'].map (getv s.g)) (by simpa using hfo) hp.1 hv
      cases hg with
      | cons g1 hg=>cases hg with
        | cons g2 hg=>cases hg with
          | cons g3 hg =>
            cases hg
            obtain ⟨_,p1,p2,p3,p4⟩:=hp
            have e1:a.eval x = .pointer (some ⟨β b,off,none⟩):=g1.1
            have e2:a.eval lo' = .int ki i:=g2.1
            have e3:a.eval hi' = .int kj j:=g3.1
            refine done_val hS (v := .slice (some ⟨β b,off+i.toNat*(X.ti el).size,none⟩) (j.toNat-i.toNat) (len-i.toNat)) ?_ hd (fun z hz=>by cases hz;exact ⟨⟨_,rfl,by omega⟩,g1.2⟩) rfl rfl hK
            rw [hrun]
            simp only [Option.map_some,Option.map_none,e1,e2,e3,Instr.sliceAt,Sem.run_bind,run_underlying hu,Result.andThen_ok,Instr.sureAddr,Sem.run_pure,Instr.sliceBounds,Instr.sliceBound,asIntOf]
            rw [if_pos ⟨by omega,by omega⟩]
            simp only [Sem.run_pure,Result.andThen_ok,Sem.run_bind]
            rw [if_pos ⟨p1,by omega⟩]
            simp only [Sem.run_pure,Result.andThen_ok,run_sizeOf' hin,hsi]
            rw [if_neg (by omega),addr_add]
    · cases h
  · rename_i p b off len el helt hfo
    split at h
    · rename_i hsz
      cases h
      have hu:=(ok.ty T).arr len el helt
      obtain ⟨inf,hin,hsi⟩:=(ok.ty el).size (by omega)
      have hv:=vs_good hS [x]
      have hg:=forces_good (vs:=[x].map (getv s.g)) (by simpa using hfo) hp hv
      cases hg with
      | cons g1 hg =>
        cases hg
        have e1:a.eval x = .pointer (some ⟨β b,off,none⟩):=g1.1
        refine done_val hS (v := .slice (some ⟨β b,off,none⟩) len len) ?_ hd (fun z hz=>by cases hz;exact ⟨⟨_,rfl,Nat.le_refl _⟩,g1.2⟩) rfl rfl hK
        rw [hrun]
        simp only [Option.map_none,e1,Instr.sliceAt,Sem.run_bind,run_underlying hu,Result.andThen_ok,Instr.sureAddr,Sem.run_pure,Instr.sliceBounds,run_sizeOf' hin,hsi]
        rw [if_neg (by omega),addr_add]
        simp
    · cases h
  · cases h
end
section
variable {P:Program} {X:Cx} {base:Nat} {w0:World} {n:Nat} {β:Nat→Nat} {s:St} {a:Act} {w:World} {o:Oper} {e:Eff} {K:Act→World→Prop} {Q:Exit→Act→World→Prop}
theorem All2.map_left' {α α' β:Type} {R:α→β→Prop} {S:α'→β→Prop} (f:α→α') (hf:∀ x y,R x y→S (f x) y):∀ {l:List α} {m:List β},All2 R l m→All2 S (l.map f) m
  | [],_,h=>by cases h;exact .nil
  | x::l,_,h=>by cases h with|cons h1 h2=>exact .cons (hf _ _ h1) (All2.map_left' f hf h2)
theorem part0_weak {b b':Nat} {w:World} {x:Bool × List A0} {u:Value} (h:part0 b w x u):part0 b' w (x.1,x.2.map A0.weak) u:=by
  obtain ⟨d,cs⟩:=x
  cases d with
  | true=>obtain ⟨us,e,hr⟩:=h;exact ⟨us,e,All2.map_left' _ (fun _ _ h=>A0.weak0_reads h) hr⟩
  | false=>obtain ⟨c,e,hr⟩:=h;subst e;exact ⟨c.weak,rfl,A0.weak0_reads hr⟩
theorem all2_lower {b b':Nat} {w:World} (hb:b'≤b):∀ {cs:List A0} {us:List Value},All2 (A0.reads b w) cs us→cs.all A0.noOs=true→All2 (A0.reads b' w) cs us
  | [],_,h,_=>by cases h;exact .nil
  | c::cs,_,h,hno=>by
    simp only [List.all_cons,Bool.and_eq_true] at hno
    cases h with
    | cons h1 h2=>exact .cons (A0.lower h1 hb hno.1) (all2_lower hb h2 hno.2)
theorem part0_lower {b b':Nat} {w:World} {x:Bool × List A0} {u:Value} (h:part0 b w x u) (hb:b'≤b) (hno:x.2.all A0.noOs=true):part0 b' w x u:=by
  obtain ⟨d,cs⟩:=x
  cases d with
  | true=>obtain ⟨us,e,hr⟩:=h;exact ⟨us,e,all2_lower hb hr hno⟩
  | false=>obtain ⟨c,e,hr⟩:=h;subst e;exact ⟨c,rfl,A0.lower hr hb (by simpa using hno)⟩
theorem parts_lower {b b':Nat} {w:World} (hb:b'≤b):∀ {l:List (Bool × List A0)} {us:List Value},All2 (part0 b w) l us→(l.all fun p=>p.2.all A0.noOs)=true→All2 (part0 b' w) l us
  | [],_,h,_=>by cases h;exact .nil
  | c::cs,_,h,hno=>by
    simp only [List.all_cons,Bool.and_eq_true] at hno
    cases h with
    | cons h1 h2=>exact .cons (part0_lower h1 hb hno.1) (parts_lower hb h2 hno.2)
theorem toArg_reads (hS:Sat base w0 n β s a w):∀ {ays ays':List TV} {us:List Value},toArgs ays ((ays.flatMap toArg1).map fun p=>s.m p.1 p.2)=some ays'→All2 (Good β base s w) ays us→All2 (TV.reads (fun _=>0) w.heap.size w) ays' us
  | [],ays',us,h,hg=>by cases hg;cases h;exact .nil
  | x :: r, ays', us, h, hg => by
    cases hg with
    | cons h1 h2 =>
      rename_i u us
      have hbase:base≤w.heap.size:=by rw [hS.base_eq];exact hS.below.size
      have plain:∀ {y:TV} ,toArg1 y=[]→(∀ as2,toArgs r ((r.flatMap toArg1).map fun p=>s.m p.1 p.2)=some as2→some (y::as2)=some ays'→y.reads (fun _=>0) w.heap.size w u→All2 (TV.reads (fun _=>0) w.heap.size w) ays' (u::us)):=by
        intro y _ as2 e1 e2 hr
        cases e2
        exact .cons hr (toArg_reads hS e1 h2)
      cases x with
      | own b off m sz =>
        simp only [List.flatMap_cons,toArg1,List.map_append,toArgs] at h
        rw [List.take_left' (by simp [span]),List.drop_left' (by simp [span])] at h
        split at h
        · rename_i l as2 e1 e2
          cases h
          obtain ⟨c,hu,hc⟩:=h1.1
          obtain ⟨us',h3,h4,h5⟩:=box_cells hS b (m*sz) off l (allSome_get e1)
          refine .cons ⟨_,c,hu,hc,fun hm=>⟨_,rfl,?_,fun i c' hi=>?_⟩⟩ (toArg_reads hS e2 h2)
          · obtain ⟨ty,hT⟩:=Option.ne_none_iff_exists'.1 (h1.2 b (by simp [TV.refs]))
            obtain ⟨_,arr,ha,_⟩:=hS.box b ty hT
            exact (Array.getElem?_eq_some_iff.1 ha).1
          · rw [List.getElem?_map] at hi
            obtain ⟨c2,hc2,rfl⟩:=Option.map_eq_some_iff.1 hi
            obtain ⟨v,hv,hr⟩:=All2.get h4 i c2 hc2
            exact ⟨v,by rw [addr_add];exact h5 i v hv,fun _ _=>A0.weak0_reads hr⟩
        · cases h
      | oclo f bs =>
        simp only [List.flatMap_cons,toArg1,List.map_append,toArgs] at h
        have hlen:((bs.flatMap fun b=>span b 0 12).map fun p=>s.m p.1 p.2).length=bs.length*12:=by
          clear h h1
          induction bs with
          | nil=>rfl
          | cons b bs ih=>simp only [List.flatMap_cons,List.map_append,List.length_append,ih];simp [span];omega
        rw [List.drop_left' hlen] at h
        split at h
        · rename_i as2 e2
          cases h
          refine .cons ⟨bs.map fun b=>Value.pointer (some ⟨β b,0,none⟩),h1.1,?_⟩ (toArg_reads hS e2 h2)
          have hrf:∀ b∈bs,s.T b≠none:=fun b hb=>h1.2 b (by simpa [TV.refs] using hb)
          have : ∀ (bs : List Nat) (tail : List (Option A0)), (∀ b ∈ bs, s.T b ≠ none) → All2 (FRef w w.heap.size) ((chunks bs.length ((bs.flatMap fun b => span b 0 12).map (fun p => s.m p.1 p.2) ++ tail)).map (·.map A0.weak)) (bs.map fun b => Value.pointer (some ⟨β b, 0, none⟩)) := by
            intro bs
            induction bs with
            | nil=>intro tail _;exact .nil
            | cons b bs ih =>
              intro tail hrf
              simp only [List.flatMap_cons,List.map_append,List.length_cons,chunks,List.map_cons,List.append_assoc]
              rw [List.take_left' (by simp [span]),List.drop_left' (by simp [span])]
              obtain ⟨ty,hT⟩:=Option.ne_none_iff_exists'.1 (hrf b (by simp))
              obtain ⟨_,arr,ha,_,hcs⟩:=hS.box b ty hT
              refine .cons ⟨_,rfl,(Array.getElem?_eq_some_iff.1 ha).1,?_⟩ (ih tail fun b' hb'=>hrf b' (List.mem_cons_of_mem _ hb'))
              have key:∀ (k off:Nat) (i:Nat) (c:A0),(someTake ((span b off k).map fun p=>s.m p.1 p.2))[i]?=some c→s.m b (off+i)=some c:=by
                intro k
                induction k with
                | zero=>intro off i c hi;simp [span,someTake] at hi
                | succ k ihk =>
                  intro off i c hi
                  simp only [span,List.range'_succ,List.map_cons,someTake,List.foldr_cons] at hi
                  cases hm:s.m b off with
                  | none=>rw [hm] at hi;simp at hi
                  | some y =>
                    rw [hm] at hi
                    cases i with
                    | zero=>simp at hi;subst hi;exact hm
                    | succ i =>
                      have:=ihk (off+1) i c (by simpa [span,someTake] using hi)
                      rwa [show off+1+i=off+(i+1) by omega] at this
              intro i c hi
              rw [List.getElem?_map] at hi
              obtain ⟨c2,hi2,rfl⟩:=Option.map_eq_some_iff.1 hi
              have:=key 12 0 i c2 hi2
              rw [Nat.zero_add] at this
              obtain ⟨x,hx,hr⟩:=hcs i c2 this
              exact ⟨x,by rw [addr_add];unfold World.cell?;rw [ha];simpa using hx,fun _ _=>A0.weak0_reads hr⟩
          exact this bs _ hrf
        · cases h
      | ptr b off=>simp only [toArgs] at h;cases h
      | gro b m sz ty=>simp only [toArgs] at h;cases h
      | elem k l i=>simp only [toArgs] at h;cases h
      | cond c x=>simp only [toArgs] at h;cases h
      | sc c =>
        simp only [List.flatMap_cons,toArg1,List.nil_append,toArgs] at h
        split at h
        · rename_i as2 e1;exact plain (y:=(TV.sc c).weak) rfl as2 e1 h (A0.weak0_reads h1.1)
        · cases h
      | agg cs =>
        simp only [List.flatMap_cons,toArg1,List.nil_append,toArgs] at h
        split at h
        · rename_i as2 e1;exact plain (y:=(TV.agg cs).weak) rfl as2 e1 h (part0_weak (x:=(true,cs)) h1.1)
        · cases h
      | tup l =>
        simp only [List.flatMap_cons,toArg1,List.nil_append,toArgs] at h
        split at h
        · rename_i as2 e1;(obtain ⟨us',e,hr⟩:=h1.1;exact plain (y:=(TV.tup l).weak) rfl as2 e1 h ⟨us',e,All2.map_left' _ (fun _ _ h=>part0_weak h) hr⟩)
        · cases h
      | row m cs =>
        simp only [List.flatMap_cons,toArg1,List.nil_append,toArgs] at h
        split at h
        · rename_i as2 e1
          obtain ⟨A,c,e,hn,hh⟩:=h1.1
          exact plain rfl as2 e1 h ⟨A,c,e,hn,fun h0=>by obtain ⟨ad,ea,hb,hc⟩:=hh h0;exact ⟨ad,ea,by omega,hc.up hbase⟩⟩
        · cases h
      | rowF m sz f =>
        simp only [List.flatMap_cons,toArg1,List.nil_append,toArgs] at h
        split at h
        · rename_i as2 e1
          obtain ⟨A,c,e,hn,hh⟩:=h1.1
          exact plain rfl as2 e1 h ⟨A,c,e,hn,fun h0=>by obtain ⟨ad,ea,hb,hc⟩:=hh h0;exact ⟨ad,ea,by omega,fun i hi=>(hc i hi).up hbase⟩⟩
        · cases h
      | rptr cs =>
        simp only [List.flatMap_cons,toArg1,List.nil_append,toArgs] at h
        split at h
        · rename_i as2 e1
          obtain ⟨ad,e,hb,hc⟩:=h1.1
          exact plain rfl as2 e1 h ⟨ad,e,by omega,hc.up hbase⟩
        · cases h
      | clo f caps =>
        simp only [List.flatMap_cons,toArg1,List.nil_append,toArgs] at h
        split at h
        · rename_i as2 e1
          obtain ⟨us',e,hr⟩:=h1.1
          exact plain rfl as2 e1 h ⟨us',e,All2.imp (fun _ _ ⟨ad,e,hb,hc⟩=>⟨ad,e,by omega,hc.up hbase⟩) hr⟩
        · cases h
theorem All2.map_left {α α' β:Type} {R:α'→β→Prop} (f:α→α'):∀ {l:List α} {m:List β},All2 (fun x y=>R (f x) y) l m→All2 R (l.map f) m
  | [],_,h=>by cases h;exact .nil
  | x::l,_,h=>by cases h with|cons h1 h2=>exact .cons h1 (All2.map_left f h2)
theorem plain_reads {x:TV} (hx:x.plain=true) {β':Nat→Nat} {b b':Nat} {u:Value} (h:x.reads β b w u) (hb:b'+β' eraK≤b+β eraK):x.reads β' b' w u∧x.refs=[]:=by
  cases x with
  | sc c=>exact ⟨A0.lower h hb hx,rfl⟩
  | agg cs=>exact ⟨part0_lower (x:=(true,cs)) h hb hx,rfl⟩
  | tup l=>obtain ⟨us,e,hr⟩:=h;exact ⟨⟨us,e,parts_lower hb hr hx⟩,rfl⟩
  | _=>simp [TV.plain] at hx
theorem wrs_span (b:Nat):∀ (l:List A0) (off:Nat) (m:Nat→Nat→Option A0) (b' i:Nat),St.wrs m ((span b off l.length).zipWith (fun p y=>(p.1,p.2,y)) l) b' i=if b'=b∧off≤i∧i<off+l.length then l[i-off]? else m b' i
  | [],off,m,b',i=>by rw [if_neg (by rintro ⟨_,h1,h2⟩;simp at h2;omega)];rfl
  | y :: l, off, m, b', i => by
    have e:(span b off (y::l).length).zipWith (fun p y=>(p.1,p.2,y)) (y::l)=(b,off,y)::(span b (off+1) l.length).zipWith (fun p y=>(p.1,p.2,y)) l:=by
      simp [span,List.range'_succ]
    rw [e,St.wrs,wrs_span b l (off+1)]
    by_cases hb:b'=b
    · by_cases h1:i=off
      · subst h1
        rw [if_neg (by omega),if_pos (by simp [hb])]
        simp [upd2,hb]
      · by_cases h2:off+1≤i∧i<off+1+l.length
        · rw [if_pos ⟨hb,h2⟩,if_pos ⟨hb,by simp;omega⟩]
          rw [show i-off=(i-(off+1))+1 by omega];simp
        · rw [if_neg (fun h=>h2 h.2),if_neg (by simp;omega)]
          simp only [upd2];rw [if_neg (by omega)]
    · rw [if_neg (fun h=>hb h.1),if_neg (fun h=>hb h.1)]
      simp only [upd2];rw [if_neg (fun h=>hb h.1)]
theorem Sat.over (h:Sat base w0 n β s a w) {b:Nat} {ty:TypeId} (hT:s.T b=some ty) {w':World} {arr arr':Array Value} (ha:w.heap[β b]?=some (.cells arr ty (0,0))) (hok:∀ x∈arr,okCell x=true) (hbg:BelowG (β b) w w') (ha':w'.heap[β b]?=some (.cells arr' ty (0,0))) (hsz:arr'.size=arr.size) (hok':∀ x∈arr',okCell x=true) {new:List A0}
    (hnew:∀ (i:Nat) (c:A0),new[i]?=some c→∃ x,arr'[i]?=some x∧c.reads (base+β eraK) w' x) (hrest:∀ i,new.length≤i→arr'[i]?=arr[i]?):Sat base w0 n β { s with m:=St.wrs s.m ((span b 0 new.length).zipWith (fun p y=>(p.1,p.2,y)) new) } a w':=by
  have hf:Far w w' (some (β b)):=⟨fun k hk hne=>hbg.old k hk (fun e=>hne (by rw [e])),fun k e=>(by cases e;exact ⟨arr,ty,ha,hok,arr',ha',hsz⟩),fun k e=>(by cases e;exact ⟨arr,ty,ha,h.raw b ty hT⟩)⟩
  have hb0:base≤β b:=(h.box b ty hT).1
  have hfg:∀ k,some (β b)=some k→base≤k:=fun k e=>by cases e;exact hb0
  refine { tm:=fun t x hx=>TV.far hf hfg (h.tm t x hx),box:=fun b' ty' hT'=>?_,era:=Nat.le_trans h.era hbg.below.size,raw:=h.raw,has:=fun b' off' hm'=>?_,inj:=h.inj,refs:=h.refs,below:=⟨hbg.below.os.trans h.below.os,hbg.below.tape.trans h.below.tape,hbg.below.output.trans h.below.output,Nat.le_trans h.below.size hbg.below.size,fun k hk=>(hbg.old k (Nat.lt_of_lt_of_le hk h.below.size) (fun e=>by rw [h.base_eq] at hb0;omega)).trans (h.below.block k hk)⟩,base_eq:=h.base_eq,defers:=h.defers,size:=h.size }
  · obtain ⟨h1',arr2,h2',h3',h4'⟩:=h.box b' ty' hT'
    refine ⟨h1',?_⟩
    by_cases e:b'=b
    · subst e
      have hty:ty'=ty:=by rw [show s.T b'=some ty' from hT'] at hT;exact Option.some.inj hT
      subst hty
      have harr:arr2=arr:=by rw [h2'] at ha;cases ha;rfl
      subst harr
      refine ⟨arr',ha',hok',fun off' c' hm'=>?_⟩
      replace hm':St.wrs s.m ((span b' 0 new.length).zipWith (fun p y=>(p.1,p.2,y)) new) b' off'=some c':=hm'
      rw [wrs_span] at hm'
      split at hm'
      · exact hnew off' c' (by simpa using hm')
      · rename_i hni
        obtain ⟨x,hx,hrx⟩:=h4' off' c' hm'
        exact ⟨x,by rw [hrest off' (by simp at hni;omega)];exact hx,A0.far hrx hf⟩
    · have hne:β b'≠β b:=fun he=>e (h.inj b' b (by rw [show s.T b'=some ty' from hT'];simp) (by rw [hT];simp) he)
      refine ⟨arr2,?_,h3',fun off' c' hm'=>?_⟩
      · rw [hbg.old _ (Array.getElem?_eq_some_iff.1 h2').1 hne];exact h2'
      · replace hm':St.wrs s.m ((span b 0 new.length).zipWith (fun p y=>(p.1,p.2,y)) new) b' off'=some c':=hm'
        rw [wrs_span,if_neg (fun hh=>e hh.1)] at hm'
        obtain ⟨x,hx,hrx⟩:=h4' off' c' hm'
        exact ⟨x,hx,A0.far hrx hf⟩
  · by_cases e:b'=b
    · subst e;rw [show s.T b'=some ty from hT];simp
    · replace hm':St.wrs s.m ((span b 0 new.length).zipWith (fun p y=>(p.1,p.2,y)) new) b' off'≠none:=hm'
      rw [wrs_span,if_neg (fun hh=>e hh.1)] at hm'
      exact h.has b' off' hm'
theorem op_call (ok:CxOk P X) (hS:Sat base w0 n β s a w) {c:Call} {fo:Operand} (ho:o.op = .call c) (hc:c.callee = .value fo) (h:absOp X s o=some e) (hp:e.pre) (hd:∀ d,o.dst=some d→d<n) (hn:∀ q,e.new=some q→∀ d,o.dst=some d→(s.after e).T d=none∧rawT q.1=false∧d≠eraK)
    (hK:∀ β' a' w',Sat base w0 n β' (s.app o.dst e) a' w'→K a' w'):o.wp P a w K Q:=by
  obtain ⟨callee,args,argTypes⟩:=c
  simp only at hc
  subst hc
  have hv:=vs_good hS (fo::args.toList)
  have hops:o.op.operands.toList=fo::args.toList:=by rw [ho];simp [Op.operands,Call.operands]
  unfold absOp at h
  rw [hops] at h
  have hia:isApp (.value fo)=false:=rfl
  simp only [req,fin,ho,hia] at h
  split at h
  · rename_i _ p f caps ays _ hfo
    rw [hfo] at h
    simp only at h
    split at h
    · rename_i ays' hta
      have hrq:reqC X (.clo f caps) ays=ays.flatMap toArg1:=by
        cases ays with
        | nil=>rfl
        | cons x r=>cases x<;>first|rfl|(simp only [toArgs] at hta;cases hta)
      rw [hrq] at hta
      have main:p→∀ q r,X.K f (ays'++caps.map TV.rptr)=some (q,r)→q→∃ caps':Array Value,(execOp a.eval o).run P w = .ok (.enter f ((args.toList.map a.eval).toArray++caps')) w∧Calls P f ((args.toList.map a.eval).toArray++caps') w fun e w'=>∃ u,e = .returned u∧r.told w w' u∧Below w.heap.size w w':=by
        intro hpp q r hK' hq
        have hg:=forces_good hfo hpp hv
        cases hg with
        | cons hg1 hg2 =>
          obtain ⟨us,hfe,hcap⟩:=hg1.1
          obtain ⟨⟨fn,hf1,hf2,hf3⟩,hcall⟩:=ok.call f _ q r hK' hq
          have hbase:base≤w.heap.size:=by rw [hS.base_eq];exact hS.below.size
          have hargs:=toArg_reads hS hta hg2
          have hc2:All2 (TV.reads (fun _=>0) w.heap.size w) (caps.map TV.rptr) us:=All2.map_left TV.rptr (All2.imp (fun _ _ ⟨ad,e,hb,hc⟩=>⟨ad,e,by omega,hc.up (by rw [hS.base_eq];exact hS.below.size)⟩) hcap)
          have hcc:=hcall _ w (all2_append hargs hc2)
          refine ⟨us.toArray,?_,by simpa using hcc⟩
          unfold execOp;rw [ho]
          dsimp only
          rw [Sem.run_bind]
          have e1:(resolve a.eval { callee := .value fo,args:=args,argTypes:=argTypes } o.type).run P w = .ok { target := .fn (.func f) us.toArray,args:=args.map a.eval } w:=by
            simp [resolve,hfe,Deferred.ofValue]
          rw [e1]
          simp only [Result.andThen_ok,invoke,callFunc,Sem.run_bind,run_program,hf1,hf2,hf3,Bool.false_eq_true,if_false,Sem.run_pure]
          congr 3
          apply Array.ext';simp
      split at h
      · rename_i q r hK'
        split at h
        · rename_i hpl
          cases h
          obtain ⟨caps',h1,h2⟩:=main hp.1 q _ hK' hp.2
          unfold Oper.wp
          rw [h1,Oper.upon_enter]
          refine h2.mono ?_
          rintro ee w' ⟨u,rfl,ht,hb⟩
          have hS':=hS.grow hb
          obtain ⟨hr,hrf⟩:=plain_reads (β':=β) (b':=base) hpl ht hS.era
          show K (a.put o.dst u) w'
          refine hK β _ _ ?_
          cases hdst:o.dst with
          | none=>simpa [St.app,St.after,St.app0,St.wrs,Act.put] using hS'
          | some d =>
            have:=hS'.put (v:=u) (x:=some r) (hd d hdst) (fun y hy=>by cases hy;exact good_refs hr hrf)
            simpa [St.app,St.after,St.app0,St.wrs] using this
        · cases h
      · rename_i q ty m sz l hK'
        split at h
        · rename_i d hdst
          split at h
          case isFalse=>cases h
          rename_i hno
          cases h
          obtain ⟨caps',h1,h2⟩:=main hp.1 q _ hK' hp.2
          unfold Oper.wp
          rw [h1,Oper.upon_enter]
          refine h2.mono ?_
          rintro ee w' ⟨u,rfl,⟨g,cap,arr,he,hcap,hg,ha,hok,hcs⟩,hb⟩
          show K (a.put o.dst u) w'
          exact done_new (y:=TV.own d 0 m sz) hS hb hg ha hok (cs:=l) (fun off c hc=>by
            obtain ⟨x,h1,h2⟩:=hcs off c hc
            exact ⟨x,h1,A0.lower h2 hS.era (List.all_eq_true.1 hno c (List.mem_of_getElem? hc))⟩) hdst (hd d hdst) (hn _ rfl d hdst) rfl rfl rfl ⟨cap,by rw [he];simp [upd],hcap⟩ (by simp [TV.refs]) hK
        · cases h
      · cases h
    · unfold finW at h
      split at h
      case h_2=>cases h
      rename_i b rest _
      have hrq:reqC X (.clo f []) (.ptr b 0::rest)=span b 0 (X.kn f)++rest.flatMap toArg1:=rfl
      rw [hrq,List.map_append,List.take_left' (by simp [span]),List.drop_left' (by simp [span])] at h
      split at h
      case h_2=>cases h
      rename_i l rest' hl hrest
      split at h
      case h_2=>cases h
      rename_i q l' r hKW
      split at h
      case isFalse=>cases h
      rename_i hcc
      cases h
      obtain ⟨hpp,hq⟩:=hp
      have hg:=forces_good hfo hpp hv
      cases hg with
      | cons hg1 hg2 =>
      have hg3:All2 (Good β base s w) (.ptr b 0::rest) (args.toList.map a.eval):=hg2
      generalize hal:args.toList.map a.eval=al at hg3
      cases hg3 with
      | cons hgp hgr =>
      rename_i u0 us0
      obtain ⟨us,hfe,hcap⟩:=hg1.1
      cases hcap
      obtain ⟨⟨fn,hf1,hf2,hf3⟩,hcall⟩:=ok.callW f _ _ q l' r hKW hq
      have hargs:=toArg_reads hS hrest hgr
      obtain ⟨ty,hT⟩:=Option.ne_none_iff_exists'.1 (hgp.2 b (by simp [TV.refs]))
      obtain ⟨hb0,arr,ha,hok,hcs⟩:=hS.box b ty hT
      have hml:=allSome_get hl
      have hmi:∀ i,i<X.kn f→∃ c,l[i]?=some c∧s.m b i=some c:=fun i hi=>by
        have h1:=congrArg (fun t=>t[i]?) hml
        simp only [span,List.map_map,List.getElem?_map] at h1
        rw [List.getElem?_range' hi] at h1
        simp only [Option.map_some,Function.comp] at h1
        cases hli:l[i]? with
        | none=>rw [hli] at h1;simp at h1
        | some c=>rw [hli] at h1;simp at h1;exact ⟨c,rfl,h1⟩
      have hll:l.length=X.kn f:=by have:=congrArg List.length hml;simpa [span] using this.symm
      have hW:=hcall _ w (β b) arr ty ha hok (fun i c hi=>by
        rw [List.getElem?_map] at hi
        obtain ⟨c2,hi2,rfl⟩:=Option.map_eq_some_iff.1 hi
        clear hi
        have hi:=hi2
        have hlt:i<X.kn f:=by rw [← hll];exact (List.getElem?_eq_some_iff.1 hi).1
        obtain ⟨c',h1,h2⟩:=hmi i hlt
        rw [hi] at h1;cases h1
        obtain ⟨x,h3,h4⟩:=hcs i c2 h2
        exact ⟨x,h3,A0.weak0_reads h4⟩) hargs
      rw [show u0=Value.pointer (some ⟨β b,0,none⟩) from hgp.1] at hal
      have h1:(execOp a.eval o).run P w = .ok (.enter f (Value.pointer (some ⟨β b,0,none⟩)::us0).toArray) w:=by
        unfold execOp;rw [ho]
        dsimp only
        rw [Sem.run_bind]
        have e1:(resolve a.eval { callee := .value fo,args:=args,argTypes:=argTypes } o.type).run P w = .ok { target := .fn (.func f) ([]:List Value).toArray,args:=args.map a.eval } w:=by
          simp [resolve,hfe,Deferred.ofValue]
        rw [e1]
        simp only [Result.andThen_ok,invoke,callFunc,Sem.run_bind,run_program,hf1,hf2,hf3,Bool.false_eq_true,if_false,Sem.run_pure]
        congr 2
        apply Array.ext';simp [hal]
      unfold Oper.wp
      rw [h1,Oper.upon_enter]
      refine hW.mono ?_
      rintro ee w' ⟨u,rfl,hr,hbg,arr',ha',hsz,hok',hnew,hrest'⟩
      have hS':=hS.over hT ha hok hbg ha' hsz hok' (fun i c hi=>by
        obtain ⟨x,h1,h2⟩:=hnew i c hi
        exact ⟨x,h1,A0.lower h2 hS.era (List.all_eq_true.1 hcc.2.2 c (List.mem_of_getElem? hi))⟩) hrest'
      rw [hcc.2.1] at hS'
      obtain ⟨hr2,hrf⟩:=plain_reads (β':=β) (b':=base) hcc.1 hr hS.era
      show K (a.put o.dst u) w'
      refine hK β _ _ ?_
      cases hdst:o.dst with
      | none=>simpa [St.app,St.after,St.app0,Act.put] using hS'
      | some d =>
        have:=hS'.put (v:=u) (x:=some r) (hd d hdst) (fun y hy=>by cases hy;exact good_refs hr2 hrf)
        simpa [St.app,St.after,St.app0] using this
  · rename_i hcal _;cases hcal
  · rename_i hcal _;cases hcal
  · rename_i hcal _;cases hcal
  · cases h
end
section
variable {P:Program} {X:Cx} {base:Nat} {w0:World} {n:Nat} {β:Nat→Nat} {s:St} {a:Act} {w:World} {o:Oper} {e:Eff} {K:Act→World→Prop} {Q:Exit→Act→World→Prop}
theorem range_flat (us:List Value):∀ m,((List.range (m*us.length)).map fun i=>us.toArray[i%us.length]!)=(List.replicate m us).flatten
  | 0=>by simp
  | m+1=>by
    rw [List.replicate_succ',List.flatten_append,← range_flat us m,Nat.add_mul,Nat.one_mul,List.range_add,List.map_append]
    congr 1
    simp only [List.flatten_cons,List.flatten_nil,List.append_nil,List.map_map]
    refine List.ext_getElem (by simp) (fun i h1 h2=>?_)
    simp only [List.getElem_map,List.getElem_range,Function.comp]
    rw [Nat.mul_add_mod',Nat.mod_eq_of_lt h2]
    simp [h2]
theorem all2_flat {R:A0→Value→Prop} {l:List A0} {us:List Value} (h:All2 R l us):∀ m,All2 R (List.replicate m l).flatten (List.replicate m us).flatten
  | 0 => .nil
  | m+1=>by simp only [List.replicate_succ,List.flatten_cons];exact all2_append h (all2_flat h m)
theorem op_buildSlice (ok:CxOk P X) (hS:Sat base w0 n β s a w) {T:TypeId} {m:Nat} {parts:Array (Nat × Operand)} (ho:o.op = .buildSlice T m parts) (h:absOp X s o=some e) (hp:e.pre) (hd:∀ d,o.dst=some d→d<n) (hn:∀ q,e.new=some q→∀ d,o.dst=some d→(s.after e).T d=none∧rawT q.1=false∧d≠eraK)
    (hK:∀ β' a' w',Sat base w0 n β' (s.app o.dst e) a' w'→K a' w'):o.wp P a w K Q:=by
  simp only [absOp,req,fin,ho,Op.operands] at h
  have hv:=vs_good hS (parts.toList.map (·.2))
  split at h
  · rename_i p ys el d hf helt hdst
    split at h
    · rename_i zs hz
      split at h
      · rename_i l hl
        split at h
        · rename_i hc
          cases h
          obtain ⟨hall,hsz,hzl,hsmall,hm0⟩:=hc
          have hg:=forces_good hf hp hv
          obtain ⟨inf,z,us,h1,h2,h3,h4,h5⟩:=(ok.ty el).zero zs hz
          obtain ⟨inf',hi,hsi⟩:=(ok.ty el).size (by omega)
          rw [h1] at hi;cases hi
          have hu:=(ok.ty T).slc el helt
          obtain ⟨zr1,zr2⟩:=zip_reads (is:=parts.toList.map (·.1)) (by simp) hg
          obtain ⟨r,hr1,hr2⟩:=fill_reads hl zr1 (all2_flat (h4 (base+β eraK) w) m)
          rw [zr2] at hr1
          have hlen:us.length=(X.ti el).size:=by rw [← hzl];exact (All2.length (h4 (base+β eraK) w)).symm
          have hrun:(execOp a.eval o).run P w = .ok (.value (.slice (some ⟨w.heap.size,0,none⟩) m m)) (w.alloc (.cells r.toArray el)):=by
            unfold execOp;rw [ho]
            dsimp only
            rw [Sem.run_bind]
            have e1:(parts.map fun (q:Nat × Operand)=>(q.1,a.eval q.2)).toList=(parts.toList.map (·.1)).zip (parts.toList.map (fun q=>a.eval q.2)):=by
              rw [Array.toList_map]
              induction parts.toList with
              | nil=>rfl
              | cons q l ih=>simp [ih]
            have hr3:Instr.fill (fun i=>some (i*(X.ti el).size,(X.ti el).size)) ((List.replicate m us).flatten).toArray ((parts.toList.map (·.1)).zip (parts.toList.map (fun q=>a.eval q.2)))=some r.toArray:=by
              rw [List.map_map] at hr1;exact hr1
            have e3:((Array.range (m*(X.ti el).size)).map fun x=>us.toArray[x%us.toArray.size]!)=((List.replicate m us).flatten).toArray:=by
              apply Array.ext'
              rw [Array.toList_map,Array.toList_range,← hlen]
              exact range_flat us m
            have e2:(Instr.buildSlice T m (parts.map fun (q:Nat × Operand)=>(q.1,a.eval q.2))).run P w = .ok (.slice (some ⟨w.heap.size,0,none⟩) m m) (w.alloc (.cells r.toArray el)):=by
              unfold Instr.buildSlice
              simp only [Sem.run_bind,run_underlying hu,Result.andThen_ok,run_sizeOf' h1,hsi]
              rw [if_neg (by omega)]
              have hz0:m*(X.ti el).size≠0:=Nat.pos_iff_ne_zero.1 (Nat.mul_pos hm0 hsz)
              rw [if_neg hz0]
              simp only [Sem.run_bind,zeroValue,typeInfo,run_program,h1,Sem.run_pure,Result.andThen_ok,h2,h3]
              rw [e3,e1,hr3]
              simp [newRow]
            rw [show (fun (x:Nat × Operand)=>match x with|(i,x)=>(i,a.eval x))=fun (q:Nat × Operand)=>(q.1,a.eval q.2) from rfl,e2]
            rfl
          unfold Oper.wp
          rw [hrun,Oper.upon_value]
          refine done_new (y := .own d 0 m (X.ti el).size) hS (below_alloc (Below.refl _ _) _) (Nat.le_refl _) (alloc_at _ _) (fun x hx=>(Array.all_eq_true_iff_forall_mem.1 (by simpa using okAll hr2 hall)) x hx) (cs:=l) (fun off c hc=>?_) hdst (hd d hdst) (hn _ rfl d hdst) rfl rfl rfl ⟨m,by simp [upd],Nat.le_refl _⟩ (by simp [TV.refs]) hK
          obtain ⟨x,hx,hr⟩:=All2.get hr2 off c hc
          exact ⟨x,by simpa using hx,A0.far hr (Far.below (below_alloc (Below.refl _ _) _))⟩
        · cases h
      · cases h
    · cases h
  · cases h
theorem drop_g {s:St} {b t:Nat} {x:TV} (h:(s.drop b).g t=some x):s.g t=some x∧b∉x.refs:=by
  simp only [St.drop] at h
  split at h
  · rename_i y hy
    split at h
    · cases h
    · rename_i hc
      cases h
      exact ⟨hy,fun hm=>hc (List.contains_iff_mem.2 hm)⟩
  · cases h
theorem drop_T {s:St} {b b':Nat} {x:TypeId} (h:(s.drop b).T b'=some x):s.T b'=some x∧b'≠b:=by
  simp only [St.drop] at h
  split at h
  · cases h
  · rename_i hc;exact ⟨h,hc⟩
theorem Sat.drop (h:Sat base w0 n β s a w) (b:Nat):Sat base w0 n β (s.drop b) a w:=by
  refine h.weaken (fun t x hx=>(drop_g hx).1) (fun b' o x hx=>?_) (fun b' x hx=>(drop_T hx).1) (fun t x hx b' hb'=>?_) (fun b' off hm=>?_)
  · simp only [St.drop] at hx
    split at hx
    · cases hx
    · exact hx
  · obtain ⟨h1,h2⟩:=drop_g hx
    simp only [St.drop]
    rw [if_neg (by rintro rfl;exact h2 hb')]
    exact h.refs t x h1 b' hb'
  · simp only [St.drop] at hm ⊢
    by_cases e:b'=b
    · rw [if_pos e] at hm;exact absurd rfl hm
    · rw [if_neg e] at hm ⊢;exact h.has b' off hm
theorem Sat.shift {w1:World} {g:Nat} (h:Sat base w0 n β s a w) (hsz:w.heap.size≤w1.heap.size) (hf:Far w w1 (some g)) (hg:base≤g) (hne:∀ b,s.T b≠none→β b≠g) (hb:Below w0.heap.size w0 w1):Sat base w0 n β s a w1:=by
  have hgk:∀ k,some g=some k→base≤k:=fun k e=>by cases e;exact hg
  refine { tm:=fun t x hx=>TV.far hf hgk (h.tm t x hx),box:=fun b ty hT=>?_,era:=Nat.le_trans h.era hsz,raw:=h.raw,has:=h.has,inj:=h.inj,refs:=h.refs,below:=hb,base_eq:=h.base_eq,defers:=h.defers,size:=h.size }
  obtain ⟨h1,arr,ha,hok,hc⟩:=h.box b ty hT
  refine ⟨h1,arr,?_,hok,fun off c hm=>?_⟩
  · rw [hf.old _ (Array.getElem?_eq_some_iff.1 ha).1 (fun e=>hne b (by rw [hT];simp) (by cases e;rfl))];exact ha
  · obtain ⟨x,hx,hr⟩:=hc off c hm
    exact ⟨x,hx,A0.far hr hf⟩
theorem zero_ok {z:Array Value} {k:Nat} (h:∀ x∈z,okCell x=true) (hz:0<z.size):∀ x∈Builtin.zeroCells z k,okCell x=true:=by
  intro x hx
  unfold Builtin.zeroCells at hx
  rw [Array.mem_map] at hx
  obtain ⟨i,_,rfl⟩:=hx
  have hl:=Nat.mod_lt i hz
  rw [getElem!_pos z (i%z.size) hl]
  exact h _ (Array.getElem_mem hl)
theorem halfs {f:Nat × Nat→Option A0} {k b:Nat} {m:List (Nat × Nat)} {l:List A0} (h:(span b 0 k++m).map f=l.map some):(span b 0 k).map f=(l.take k).map some∧m.map f=(l.drop k).map some:=by
  rw [List.map_append] at h
  have hl:((span b 0 k).map f).length=k:=by simp [span]
  constructor
  · have:=congrArg (List.take k) h
    rw [List.take_left' hl,← List.map_take] at this
    exact this
  · have:=congrArg (List.drop k) h
    rw [List.drop_left' hl,← List.map_drop] at this
    exact this
theorem op_append (ok:CxOk P X) (hS:Sat base w0 n β s a w) {c:Call} (ho:o.op = .call c) (hc:c.callee = .builtin .append) (h:absOp X s o=some e) (hp:e.pre) (hd:∀ d,o.dst=some d→d<n) (hn:∀ q,e.new=some q→∀ d,o.dst=some d→(s.after e).T d=none∧rawT q.1=false∧d≠eraK)
    (hK:∀ β' a' w',Sat base w0 n β' (s.app o.dst e) a' w'→K a' w'):o.wp P a w K Q:=by
  obtain ⟨callee,args,argTypes⟩:=c
  simp only at hc
  subst hc
  have hia:isApp (.builtin .append)=true:=rfl
  have hops:args.toList.map (getv s.g)=(#[]++args:Array Operand).toList.map (getv s.g):=by simp
  simp only [absOp,req,fin,ho,Op.operands,Call.operands,hia] at h
  rw [← hops] at h
  unfold finApp at h
  split at h
  · rename_i v u T T' d hvs htys hdst
    obtain ⟨x,y,rfl⟩:=arr2 (a:=args) (by have:=congrArg List.length hvs;simpa using this)
    simp only [List.map_cons,List.map_nil,List.cons.injEq,and_true] at hvs
    obtain ⟨rfl,rfl⟩:=hvs
    have hT:argTypes=#[T,T']:=by apply Array.ext';exact htys
    subst hT
    have hx:=good1 hS x
    have hy:=good1 hS y
    have hrun:(execOp a.eval o).run P w=((Builtin.append_ #[T,T'] o.type #[a.eval x,a.eval y]).run P w).andThen fun v w => .ok (.value v) w:=by
      unfold execOp;rw [ho]
      simp [resolve,invoke,builtin]
    have hdn:=hd d hdst
    split at h
    · rename_i p b m0 sz e' q b' off m sz' el hf1 hf2 helt
      have hreq:reqApp [getv s.g x,getv s.g y]=span b 0 (m0*sz)++span b' off (m*sz'):=by simp only [reqApp,hf1,hf2]
      simp only [List.map_cons,List.map_nil] at h
      rw [hreq] at h
      split at h
      · rename_i l zs hl hz
        split at h
        · rename_i hcond
          cases h
          obtain ⟨rfl,rfl,rfl,rfl,hsz,hzl,hm0,hsmall,hbytes,hall⟩:=hcond
          have g1:=forceG_good hf1 hp.1 hx
          have g2:=force_good hf2 hp.2 hy
          obtain ⟨cp,arr,hu,hnc,hcm,ha,has⟩:=g1.1
          obtain ⟨cp2,hu2,hnc2⟩:=g2.1
          have hTb:s.T b≠none:=g1.2 b (by simp [TV.refs])
          obtain ⟨tb,hTb'⟩:=Option.ne_none_iff_exists'.1 hTb
          obtain ⟨hbb,arr0,ha0,hok0,_⟩:=hS.box b tb hTb'
          rw [ha] at ha0;cases ha0
          obtain ⟨inf,z,zu,h1,h2,h3,h4,h5⟩:=(ok.ty e').zero zs hz
          obtain ⟨inf',hi,hsi⟩:=(ok.ty e').size (by omega)
          rw [h1] at hi;cases hi
          have hbt:=(ok.ty e').bts (by omega) inf h1
          have hut:=(ok.ty T').slc e' helt
          obtain ⟨hl1,hl2⟩:=halfs (allSome_get hl)
          obtain ⟨us1,k1,k2,k3⟩:=box_cells hS b (m0*(X.ti e').size) 0 _ hl1
          obtain ⟨us2,r1,r2,r3⟩:=box_cells hS b' (m*(X.ti e').size) off _ hl2
          have hzs:z.cells.size=(X.ti e').size:=by rw [h3,List.size_toArray,← hzl];exact (All2.length (h4 (base+β eraK) w)).symm
          have hread:All2 (A0.reads (base+β eraK) w) l (us1++us2):=by
            have:=all2_append k2 r2
            rwa [List.take_append_drop] at this
          have hokn:∀ x∈us1++us2,okCell x=true:=fun x hx=>List.all_eq_true.1 (okAll hread hall) x hx
          have cells1:∀ j v,us1[j]?=some v→w.cell? ((⟨β b,0,none⟩:Addr).add j)=some v:=fun j v hj=>by rw [addr_add];exact k3 j v hj
          have cells2:∀ j v,us2[j]?=some v→w.cell? ((⟨β b',off,none⟩:Addr).add j)=some v:=fun j v hj=>by rw [addr_add];exact r3 j v hj
          have one2:∀ v∈us2,v.oneCell'=true:=fun v hv=>okCell_one (hokn v (List.mem_append_right _ hv))
          have hdrop:=hS.drop b
          have hTd:(s.drop b).T d=none∧rawT e'=false∧d≠eraK:=hn _ rfl d hdst
          by_cases hroom:m0+m≤cp
          · have hfit:m0*inf.size+us2.length≤arr.size:=by rw [hsi,r1,has,← Nat.add_mul];exact Nat.mul_le_mul_right _ hroom
            have hr:=run_append_room (P:=P) w T' o.type e' inf hut h1 (β b) m0 cp arr ha ⟨β b',off,none⟩ m cp2 us2 (by rw [hsi];exact r1) cells2 one2 hroom hfit
            generalize hA:(arr.toList.take (m0*inf.size)++us2++arr.toList.drop (m0*inf.size+us2.length)).toArray=A at hr
            have hAs:A.size=arr.size:=by
              rw [← hA]
              simp only [List.size_toArray,List.length_append,List.length_take,List.length_drop,Array.length_toList]
              omega
            have htake:arr.toList.take (m0*inf.size)=us1:=by
              refine List.ext_getElem? (fun i=>?_)
              rw [List.getElem?_take]
              by_cases hi:i<m0*inf.size
              · rw [if_pos hi]
                have hlt:i<us1.length:=by rw [k1,← hsi];exact hi
                have:=k3 i us1[i] (List.getElem?_eq_getElem hlt)
                rw [Nat.zero_add,cell_of_row w (β b) i arr e' (0,0) ha] at this
                rw [List.getElem?_eq_getElem hlt,← this]
                simp
              · rw [if_neg hi,List.getElem?_eq_none (by rw [k1,← hsi];omega)]
            have hAok:∀ x∈A,okCell x=true:=by
              intro x hx
              rw [← hA,htake,List.mem_toArray,List.mem_append] at hx
              rcases hx with hx|hx
              · exact hokn x hx
              · exact hok0 x (by simpa using List.mem_of_mem_drop hx)
            have hheap:=setRow_heap w (β b) arr A e' (0,0) ha
            have hfar:Far w (w.setRow (β b) A) (some (β b)):=⟨fun k _ hk=>setRow_other w (β b) k A (fun e=>hk (by rw [e])),fun k e=>(by cases e;exact ⟨arr,e',ha,hok0,A,hheap,hAs⟩),fun k e=>(by cases e;exact ⟨arr,e',ha,hTd.2.1⟩)⟩
            have hbel:Below w0.heap.size w0 (w.setRow (β b) A):=hS.below.trans ⟨rfl,rfl,rfl,by simp,fun k hk=>setRow_other w (β b) k A (by have:=hS.base_eq;omega)⟩
            have hne:∀ b1,(s.drop b).T b1≠none→β b1≠β b:=by
              intro b1 hb1
              obtain ⟨t1,ht1⟩:=Option.ne_none_iff_exists'.1 hb1
              obtain ⟨q1,q2⟩:=drop_T ht1
              exact fun he=>q2 (hS.inj b1 b (by rw [q1];simp) hTb he)
            have hS1:=hdrop.shift (by simp [World.setRow]) hfar hbb hne hbel
            have hS2:=hS1.made (b:=d) hTd.1 (g:=β b) (by rw [← hS.base_eq];exact hbb) hne hheap hAok hTd.2.1 hTd.2.2 (cs:=fun off=>l[off]?) (fun off c hc=>by
              obtain ⟨x,hx,hr⟩:=All2.get hread off c hc
              refine ⟨x,?_,A0.far hr hfar⟩
              rw [← hA,htake,List.getElem?_toArray,List.getElem?_append_left (List.getElem?_eq_some_iff.1 hx).1]
              exact hx)
            have hS3:=hS2.put hdn (v := .slice (some ⟨β b,0,none⟩) (m0+m) cp) (x:=some (.gro d (m0+m) (X.ti e').size e')) (fun z hz=>by
              cases hz
              exact ⟨⟨cp,A,by simp [upd],hroom,hcm,by simp only [upd,if_true];exact hheap,by rw [hAs];exact has⟩,fun b1 hb1=>by simp [TV.refs] at hb1;subst hb1;simp [upd]⟩)
            unfold Oper.wp
            rw [hrun,show a.eval x=_ from hu,show a.eval y=_ from hu2,hr]
            simp only [Result.andThen_ok,Oper.upon_value]
            refine hK (upd β d (β b)) _ _ ?_
            rw [hdst]
            simpa [St.app,St.after,St.app0,St.wrs] using hS3
          · have hfit:Builtin.nextslicecap (m0+m) cp*inf.bytes≤281474976710656:=growslice_fits (by omega) (by rw [hbt];exact hbytes)
            have hr:=run_append_grow (P:=P) w T' o.type e' inf z hut h1 h2 ⟨β b,0,none⟩ m0 cp us1 (by rw [hsi];exact k1) cells1 ⟨β b',off,none⟩ m cp2 us2 (by rw [hsi];exact r1) cells2 (by omega) (by omega) hfit
            have hge:=grownCap_ge w (m0+m) cp e'
            have hgm:=grownCap_le_maxLen w (m0+m) cp e' (by unfold maxLen;omega)
            generalize grownCap w (m0+m) cp e'=G at hr hge hgm
            have hAeq:us1.toArray++us2.toArray++Builtin.zeroCells z.cells (G-(m0+m))=((us1++us2)++(Builtin.zeroCells z.cells (G-(m0+m))).toList).toArray:=by
              apply Array.ext';simp
            rw [hAeq] at hr
            generalize hA:((us1++us2)++(Builtin.zeroCells z.cells (G-(m0+m))).toList).toArray=A at hr
            have hAs:A.size=G*(X.ti e').size:=by
              rw [← hA]
              simp only [List.size_toArray,List.length_append,Array.length_toList,size_zeroCells,hzs,k1,r1]
              rw [← Nat.add_mul,← Nat.add_mul]
              congr 1;omega
            have hAok:∀ x∈A,okCell x=true:=by
              intro x hx
              rw [← hA,List.mem_toArray,List.mem_append] at hx
              rcases hx with hx|hx
              · exact hokn x hx
              · exact zero_ok (z:=z.cells) (fun x hx=>by rw [h3,List.mem_toArray] at hx;exact List.all_eq_true.1 h5 x hx) (by omega) x (by simpa using hx)
            have hbw:Below w.heap.size w (w.drew.alloc (.cells A e')):=below_alloc (below_drew1 (Below.refl _ _)) _
            have hheap:(w.drew.alloc (.cells A e')).heap[w.heap.size]?=some (.cells A e' (0,0)):=alloc_at w.drew _
            refine show o.wp P a w K Q from ?_
            unfold Oper.wp
            rw [hrun,show a.eval x=_ from hu,show a.eval y=_ from hu2,hr]
            simp only [Result.andThen_ok,Oper.upon_value]
            refine done_new0 (y := .gro d (m0+m) (X.ti e').size e') hdrop hbw (Nat.le_refl _) hheap hAok (cs:=l) (fun off c hc=>by
              obtain ⟨x,hx,hr⟩:=All2.get hread off c hc
              refine ⟨x,?_,A0.far hr (Far.below hbw)⟩
              rw [← hA,List.getElem?_toArray,List.getElem?_append_left (List.getElem?_eq_some_iff.1 hx).1]
              exact hx) hdst hdn hTd rfl rfl rfl ⟨G,A,by simp [upd],hge,hgm,by simp only [upd,if_true];exact hheap,hAs⟩ (by simp [TV.refs]) hK
        · cases h
      · cases h
    · rename_i p c q b' off m sz' el hf1 hf2 helt
      have hreq:reqApp [getv s.g x,getv s.g y]=span b' off (m*sz'):=by simp only [reqApp,hf1,hf2]
      simp only [List.map_cons,List.map_nil] at h
      rw [hreq] at h
      split at h
      · rename_i l zs hcv hl hz
        split at h
        · rename_i hcond
          cases h
          obtain ⟨rfl,rfl,hsz,hzl,hm0,hsmall,hbytes,hall⟩:=hcond
          have g1:=forceG_good hf1 hp.1 hx
          have g2:=force_good hf2 hp.2 hy
          have hu:a.eval x = .slice none 0 0:=val_reads (c := .sc c) hcv g1.1
          obtain ⟨cp2,hu2,hnc2⟩:=g2.1
          obtain ⟨inf,z,zu,h1,h2,h3,h4,h5⟩:=(ok.ty el).zero zs hz
          obtain ⟨inf',hi,hsi⟩:=(ok.ty el).size (by omega)
          rw [h1] at hi;cases hi
          have hbt:=(ok.ty el).bts (by omega) inf h1
          have hut:=(ok.ty T').slc el helt
          obtain ⟨us2,r1,r2,r3⟩:=box_cells hS b' (m*(X.ti el).size) off _ (allSome_get hl)
          have hzs:z.cells.size=(X.ti el).size:=by rw [h3,List.size_toArray,← hzl];exact (All2.length (h4 (base+β eraK) w)).symm
          have hokn:∀ x∈us2,okCell x=true:=fun x hx=>List.all_eq_true.1 (okAll r2 hall) x hx
          have cells2:∀ j v,us2[j]?=some v→w.cell? ((⟨β b',off,none⟩:Addr).add j)=some v:=fun j v hj=>by rw [addr_add];exact r3 j v hj
          have hr:=run_append_nil (P:=P) w T' o.type el inf z hut h1 h2 ⟨β b',off,none⟩ m cp2 us2 (by rw [hsi];exact r1) cells2 hm0 (by omega) (by rw [hbt];omega)
          have hge:=grownCap_ge w m 0 el
          have hgm:=grownCap_le_maxLen w m 0 el (by unfold maxLen;omega)
          generalize grownCap w m 0 el=G at hr hge hgm
          have hAeq:us2.toArray++Builtin.zeroCells z.cells (G-m)=(us2++(Builtin.zeroCells z.cells (G-m)).toList).toArray:=by
            apply Array.ext';simp
          rw [hAeq] at hr
          generalize hA:(us2++(Builtin.zeroCells z.cells (G-m)).toList).toArray=A at hr
          have hAs:A.size=G*(X.ti el).size:=by
            rw [← hA]
            simp only [List.size_toArray,List.length_append,Array.length_toList,size_zeroCells,hzs,r1]
            rw [← Nat.add_mul]
            congr 1;omega
          have hAok:∀ x∈A,okCell x=true:=by
            intro x hx
            rw [← hA,List.mem_toArray,List.mem_append] at hx
            rcases hx with hx|hx
            · exact hokn x hx
            · exact zero_ok (z:=z.cells) (fun x hx=>by rw [h3,List.mem_toArray] at hx;exact List.all_eq_true.1 h5 x hx) (by omega) x (by simpa using hx)
          have hbw:Below w.heap.size w (w.drew.alloc (.cells A el)):=below_alloc (below_drew1 (Below.refl _ _)) _
          have hheap:(w.drew.alloc (.cells A el)).heap[w.heap.size]?=some (.cells A el (0,0)):=alloc_at w.drew _
          unfold Oper.wp
          rw [hrun,hu,show a.eval y=_ from hu2,hr]
          simp only [Result.andThen_ok,Oper.upon_value]
          refine done_new (y := .gro d m (X.ti el).size el) hS hbw (Nat.le_refl _) hheap hAok (cs:=l) (fun off c hc=>by
            obtain ⟨x,hx,hr⟩:=All2.get r2 off c hc
            refine ⟨x,?_,A0.far hr (Far.below hbw)⟩
            rw [← hA,List.getElem?_toArray,List.getElem?_append_left (List.getElem?_eq_some_iff.1 hx).1]
            exact hx) hdst hdn (hn _ rfl d hdst) rfl rfl rfl ⟨G,A,by simp [upd],hge,hgm,by simp only [upd,if_true];exact hheap,hAs⟩ (by simp [TV.refs]) hK
        · cases h
      · cases h
    · cases h
  · cases h
structure CxOk2 (P:Program) (X:Cx):Prop extends CxOk P X where
  bld:∀ T w,(X.ti T).agg=true→(X.ti T).elt=none→(X.ti T).zero≠none→∃ fs,P.underlying T=some (.struct fs)∧∃ ps,((fs.mapM fun f=>do pure (f.offset,← sizeOf f.type)):Sem (Array (Nat × Nat))).run P w = .ok ps w∧∀ (i:Nat),ps[i]?=((X.ti T).offs[i]?).map fun (q:Nat × TypeId)=>(q.1,(X.ti q.2).size)
  all:∀ T,(X.ti T).int≠none→(P.underlying T).isSome=true
def srcOk (X:Cx):Op→Bool
  | .convert src _ _=>((X.ti src).int).isSome
  | _=>true
def dstOk (n:Nat) (o:Oper):Bool :=
  match o.op,o.dst with
  | .store _ _ _,none=>true
  | .store _ _ _,some _=>false
  | _,some d=>decide (d<n)
  | .call _,none=>true
  | _,none=>false
theorem dst_lt {d:Tmp} (hdo:dstOk n o=true) (hd:o.dst=some d):d<n:=by
  unfold dstOk at hdo
  rw [hd] at hdo
  split at hdo
  all_goals first
    | (rename_i h2;cases h2;done)
    | (cases hdo;done)
    | (rename_i h2;cases h2;exact of_decide_eq_true hdo)
    | (rename_i h1 h2;cases h2;exact of_decide_eq_true hdo)
    | skip
  all_goals simp_all
theorem op_sound (ok:CxOk2 P X) (hS:Sat base w0 n β s a w) (h:absOp X s o=some e) (hp:e.pre) (hs:srcOk X o.op=true) (hdo:dstOk n o=true) (hn:∀ q,e.new=some q→∀ d,o.dst=some d→(s.after e).T d=none∧rawT q.1=false∧d≠eraK)
    (hK:∀ β' a' w',Sat base w0 n β' (s.app o.dst e) a' w'→K a' w'):o.wp P a w K Q:=by
  have hd:∀ d,o.dst=some d→d<n:=fun d hd=>dst_lt hdo hd
  cases ho:o.op with
  | move x=>exact op_move hS (.inl ho) h hp hd hK
  | assign x=>exact op_move hS (.inr ho) h hp hd hK
  | alloc T=>exact op_alloc ok.toCxOk hS ho h hp hd hn hK
  | box T x=>exact op_box ok.toCxOk hS ho h hp hd hn hK
  | load T x=>exact op_load ok.toCxOk hS ho h hp hd hK
  | store T x y =>
    refine op_store ok.toCxOk hS ho ?_ h hp hK
    unfold dstOk at hdo
    rw [ho] at hdo
    cases hdst:o.dst with
    | none=>rfl
    | some d=>rw [hdst] at hdo;cases hdo
  | nilCheck x=>exact op_nilCheck hS ho h hp hd hK
  | fieldAddr T x j=>exact op_fieldAddr ok.toCxOk hS ho h hp hd hK
  | field T x j=>exact op_field ok.toCxOk hS ho h hp hd hK
  | indexAddr T x y=>exact op_indexAddr ok.toCxOk hS ho h hp hd hK
  | binOp op T x y t=>exact op_binOp ok.toCxOk hS ho h hp hd hK
  | unOp op T x=>exact op_unOp hS ho h hp hd hK
  | convert src dst x =>
    refine op_convert ok.toCxOk hS ho (ok.all src ?_) h hp hd hK
    rw [ho] at hs
    intro he
    simp [srcOk,he] at hs
  | extract x i=>exact op_extract hS ho h hp hd hK
  | pick c x y=>exact op_pick hS ho h hp hd hK
  | build T parts =>
    exact op_build ok.toCxOk hS ho (ok.bld T w) h hp hd hK
  | buildSlice T m parts=>exact op_buildSlice ok.toCxOk hS ho h hp hd hn hK
  | makeFunc fn first captured=>exact op_makeFunc hS ho h hp hd hK
  | call c =>
    cases hc:c.callee with
    | value f=>exact op_call ok.toCxOk hS ho hc h hp hd hn hK
    | invoke r m =>
      have hia:isApp (.invoke r m)=false:=rfl
      simp only [absOp,req,fin,ho,hc,hia] at h;cases h
    | builtin b =>
      by_cases hb:b = .len
      · subst hb;exact op_len ok.toCxOk hS ho hc h hp hd hK
      · by_cases hb3:b = .append
        · subst hb3;exact op_append ok.toCxOk hS ho hc h hp hd hn hK
        have hia:isApp (.builtin b)=false:=by cases b<;>first|rfl|exact absurd rfl hb3
        by_cases hb2:b = .min∨b = .max
        · exact op_minmax hS ho (by rcases hb2 with rfl|rfl;exact .inl hc;exact .inr hc) h hp hd hK
        · simp only [absOp,req,fin,ho,hc,hia] at h
          split at h
          · rename_i hcc _;cases hcc
          · rename_i hcc _;cases hcc;exact absurd rfl hb
          · rename_i hcc _;cases hcc;exact absurd (.inl rfl) hb2
          · rename_i hcc _;cases hcc;exact absurd (.inr rfl) hb2
          · cases h
  | slice T x lo hi mx=>exact op_slice ok.toCxOk hS ho h hp hd hK
  | _=>simp only [absOp,req,fin,ho] at h;cases h
end
def opTmps (o:Oper):List Tmp:=o.op.operands.toList.filterMap fun | .tmp t=>some t|_=>none
def absR (X:Cx) (s:St) (o:Oper):Option Eff :=
  match absOp X s o with
  | some e=>some { e with rd:=req X o (o.op.operands.toList.map (getv s.g)) }
  | none=>none
def gcond (s:St) (ops:List Oper) (j:Nat) (want:Bool):Option Bool :=
  match ops[j]? with
  | some oj=>match oj.dst with
    | some t=>match s.g t with
      | some (.sc c)=>match c.val? with
        | some (.bool b)=>some (b == want)
        | _=>none
      | some (.cond c y)=>match y.val? with
        | some (.bool b)=>some (c&&(b == want))
        | _=>none
      | _=>none
    | none=>none
  | none=>none
def TV.isCond:TV→Bool
  | .cond _ _=>true
  | _=>false
def refsIn (y:TV) (vs:List (Option TV)):Bool:=y.refs.all fun b=>vs.any fun v=>match v with
  | some z=>z.refs.contains b
  | none=>false
def absG (X:Cx) (ops:List Oper) (s:St) (o:Oper):Option Eff :=
  match o.guard with
  | none=>absR X s o
  | some (j,want)=>match gcond s ops j want,absR X s o with
    | some gc,some e=>match e.wr,e.new,e.val,e.kill with
      | [],none,some y,none=>if y.isCond=false∧refsIn y (o.op.operands.toList.map (getv s.g))=true∧o.dst.isSome=true then some { pre:=gc=true→e.pre,val:=some (.cond gc y),rd:=e.rd } else none
      | _,_,_,_=>none
    | _,_=>none
def guardTmps (ops:List Oper) (o:Oper):List Tmp :=
  match o.guard with
  | some (j,_)=>match ops[j]? with
    | some oj=>oj.dst.toList
    | none=>[]
  | none=>[]
theorem getv_congr {g g':Nat→Option TV} {x:Operand} (h:∀ t,x = .tmp t→g' t=g t):getv g' x=getv g x:=by
  cases x with
  | tmp t=>exact h t rfl
  | _=>rfl
theorem vals_congr {o:Oper} {s s':St} (h:∀ t∈opTmps o,s'.g t=s.g t):o.op.operands.toList.map (getv s'.g)=o.op.operands.toList.map (getv s.g):=by
  refine List.map_congr_left (fun x hx=>getv_congr (fun t ht=>h t ?_))
  subst ht
  unfold opTmps
  rw [List.mem_filterMap]
  exact ⟨_,hx,rfl⟩
theorem absR_congr {X:Cx} {s s':St} {o:Oper} {e:Eff} (h:absR X s o=some e) (hg:∀ t∈opTmps o,s'.g t=s.g t) (hm:∀ p∈e.rd,s'.m p.1 p.2=s.m p.1 p.2):absR X s' o=some e:=by
  have hv:=vals_congr hg
  have he:∀ e',absOp X s o=some e'→e={ e' with rd:=req X o (o.op.operands.toList.map (getv s.g)) }:=by
    intro e' h'
    unfold absR at h;rw [h'] at h;cases h;rfl
  have hop:absOp X s' o=absOp X s o:=by
    cases hc:absOp X s o with
    | none=>unfold absR at h;rw [hc] at h;cases h
    | some e' =>
      have h2:=he e' hc
      rw [← hc]
      unfold absOp
      rw [hv]
      congr 1
      refine List.map_congr_left (fun p hp=>hm p ?_)
      rw [h2];exact hp
  unfold absR at h ⊢
  rw [hop,hv];exact h
theorem absG_congr {X:Cx} {ops:List Oper} {s s':St} {o:Oper} {e:Eff} (h:absG X ops s o=some e) (hg:∀ t∈opTmps o,s'.g t=s.g t) (hgu:∀ t∈guardTmps ops o,s'.g t=s.g t) (hm:∀ p∈e.rd,s'.m p.1 p.2=s.m p.1 p.2):absG X ops s' o=some e:=by
  unfold absG at h ⊢
  split
  · rename_i hgd
    rw [hgd] at h
    exact absR_congr h hg hm
  · rename_i j want hgd
    rw [hgd] at h
    simp only at h
    split at h
    · rename_i gc e' hgc hr
      split at h
      · rename_i y h1 h2 h3 h4
        split at h
        · rename_i hc
          cases h
          have e1:gcond s' ops j want=some gc:=by
            rw [← hgc]
            unfold gcond
            cases hj:ops[j]? with
            | none=>rfl
            | some oj =>
              simp only
              cases hd:oj.dst with
              | none=>rfl
              | some t =>
                simp only
                rw [hgu t (by unfold guardTmps;rw [hgd];simp [hj,hd])]
          have e2:=absR_congr hr hg hm
          rw [e1,e2]
          simp only [h1,h2,h3,h4]
          rw [vals_congr hg,if_pos hc]
        · cases h
      · cases h
    · cases h
section
variable {P:Program} {X:Cx} {base:Nat} {w0:World} {n:Nat} {β:Nat→Nat} {s:St} {a:Act} {w:World} {o:Oper} {e:Eff} {K:Act→World→Prop} {Q:Exit→Act→World→Prop} {ops:List Oper}
theorem absR_sound (ok:CxOk2 P X) (hS:Sat base w0 n β s a w) (h:absR X s o=some e) (hp:e.pre) (hs:srcOk X o.op=true) (hdo:dstOk n o=true) (hn:∀ q,e.new=some q→∀ d,o.dst=some d→(s.after e).T d=none∧rawT q.1=false∧d≠eraK)
    (hK:∀ β' a' w',Sat base w0 n β' (s.app o.dst e) a' w'→K a' w'):o.wp P a w K Q:=by
  unfold absR at h
  split at h
  · rename_i e' he;cases h
    exact op_sound ok hS he hp hs hdo hn hK
  · cases h
theorem yielded_eq (hS:Sat base w0 n β s a w) {j:Nat} {oj:Oper} {t:Tmp} (hj:ops[j]?=some oj) (hd:oj.dst=some t):yielded ops.toArray a.tmps j=match a.tmps.getD t undef with
    | .bool b=>some b
    | _=>none:=by
  unfold yielded
  have:(ops.toArray[j]?).bind (·.dst)=some t:=by simp [hj,hd]
  rw [this]
  simp only [Option.bind_some]
  rw [Array.getD_eq_getD_getElem?]
  cases ht:a.tmps[t]? with
  | none=>rfl
  | some v=>cases v<;>rfl
theorem gcond_true (hS:Sat base w0 n β s a w) {j:Nat} {want gc:Bool} (h:gcond s ops j want=some gc):(yielded ops.toArray a.tmps j == some want)=gc:=by
  unfold gcond at h
  split at h
  · rename_i oj hj
    split at h
    · rename_i t hd
      rw [yielded_eq hS hj hd]
      split at h
      · rename_i c hg
        split at h
        · rename_i b hv
          cases h
          have:=val_reads (c := .sc c) hv (hS.tm t _ hg)
          rw [this];rfl
        · cases h
      · rename_i c y hg
        split at h
        · rename_i b hv
          cases h
          have:=hS.tm t _ hg
          cases c with
          | true=>rw [val_reads hv (this.1 rfl)];simp
          | false=>rw [this.2 rfl];rfl
        · cases h
      · cases h
    · cases h
  · cases h
theorem app_g (s:St) (dst:Option Tmp) (e:Eff) (hk:e.kill=none):(s.app dst e).g=match dst with
    | some d=>upd s.g d e.val
    | none=>s.g:=by rw [app_none hk];rfl
theorem absG_sound (ok:CxOk2 P X) (hS:Sat base w0 n β s a w) (h:absG X ops s o=some e) (hp:e.pre) (hs:srcOk X o.op=true) (hdo:dstOk n o=true) (hn:∀ q,e.new=some q→∀ d,o.dst=some d→(s.after e).T d=none∧rawT q.1=false∧d≠eraK)
    (hK:∀ β' a' w',Sat base w0 n β' (s.app o.dst e) a' w'→K a' w'):if Region.wanted o (yielded ops.toArray a.tmps)=true then o.wp P a w K Q else K (a.put o.dst undef) w:=by
  unfold absG at h
  split at h
  · rename_i hgd
    rw [if_pos (by unfold Region.wanted;rw [hgd])]
    exact absR_sound ok hS h hp hs hdo hn hK
  · rename_i j want hgd
    split at h
    · rename_i gc e' hgc hr
      split at h
      · rename_i y h1 h2 h3 h4
        split at h
        · rename_i hc
          cases h
          obtain ⟨hcond,hrefs,hdst⟩:=hc
          obtain ⟨d,hdst⟩:=Option.isSome_iff_exists.1 hdst
          have hgt:=gcond_true hS hgc
          have hw:Region.wanted o (yielded ops.toArray a.tmps)=gc:=by unfold Region.wanted;rw [hgd];exact hgt
          rw [hw]
          have hd:d<n:=dst_lt hdo hdst
          have hyr:∀ b∈y.refs,s.T b≠none:=by
            intro b hb
            have h4':=List.all_eq_true.1 hrefs b hb
            rw [List.any_eq_true] at h4'
            obtain ⟨v,hv,hvb⟩:=h4'
            rw [List.mem_map] at hv
            obtain ⟨x,hx,rfl⟩:=hv
            split at hvb
            · rename_i z hz
              exact (getv_good hS hz).2 b (List.contains_iff_mem.1 hvb)
            · cases hvb
          cases gc with
          | false =>
            rw [if_neg (by simp)]
            refine hK β _ _ ?_
            rw [hdst]
            have:=hS.put hd (v:=undef) (x:=some (.cond false y)) (fun z hz=>by
              cases hz
              exact ⟨⟨(fun h=>by cases h),fun _=>rfl⟩,hyr⟩)
            simpa [St.app,St.after,St.app0,St.wrs] using this
          | true =>
            rw [if_pos rfl]
            refine absR_sound ok hS hr (hp rfl) hs hdo (fun q hq=>by rw [h2] at hq;cases hq) (fun β' a' w' hS'=>hK β' a' w' ?_)
            rw [hdst] at hS' ⊢
            have ga:(s.app (some d) e').g=upd s.g d e'.val:=app_g _ _ _ h4
            have gb:∀ p:Prop,(s.app (some d) { pre:=p,val:=some (TV.cond true y),rd:=e'.rd }).g=upd s.g d (some (TV.cond true y)):=fun p=>app_g _ _ _ rfl
            have e1:(s.app (some d) e').m=(s.app (some d) { pre:=true=true→e'.pre,val:=some (TV.cond true y),rd:=e'.rd }).m:=by rw [app_none h4,app_none rfl];simp [St.app0,h1,h2]
            have e2:(s.app (some d) e').T=(s.app (some d) { pre:=true=true→e'.pre,val:=some (TV.cond true y),rd:=e'.rd }).T:=by rw [app_none h4,app_none rfl];simp [St.app0,h2]
            refine { tm:=fun t x hx=>?_,box:=fun b ty hT=>?_,era:=hS'.era,raw:=fun b ty hT=>hS'.raw b ty (by rw [e2];exact hT),has:=?_,inj:=?_,refs:=fun t x hx=>?_,below:=hS'.below,base_eq:=hS'.base_eq,defers:=hS'.defers,size:=hS'.size }
            · have hx':=hx
              simp only [gb,upd] at hx
              by_cases ht:t=d
              · rw [if_pos ht] at hx
                cases hx
                refine ⟨fun _=>hS'.tm t y ?_,fun h=>by cases h⟩
                simp only [ga,upd]
                rw [if_pos ht,h3]
              · rw [if_neg ht] at hx
                refine hS'.tm t x ?_
                simp only [ga,upd]
                rw [if_neg ht];exact hx
            · rw [← e2] at hT
              rw [← e1]
              exact hS'.box b ty hT
            · rw [← e1,← e2];exact hS'.has
            · rw [← e2];exact hS'.inj
            · rw [← e2]
              simp only [gb,upd] at hx
              by_cases ht:t=d
              · rw [if_pos ht] at hx
                cases hx
                have:=hS'.refs t y (by simp only [ga,upd];rw [if_pos ht,h3])
                exact this
              · rw [if_neg ht] at hx
                exact hS'.refs t x (by simp only [ga,upd];rw [if_neg ht];exact hx)
        · cases h
      · cases h
    · cases h
end
def wfind:List (Nat × Nat × A0)→Nat→Nat→Option A0
  | [],_,_=>none
  | (b',o',c)::r,b,off=>match wfind r b off with
    | some x=>some x
    | none=>if b=b'∧off=o' then some c else none
theorem wrs_find (b off:Nat):∀ (wr:List (Nat × Nat × A0)) (m:Nat→Nat→Option A0),St.wrs m wr b off=match wfind wr b off with
    | some x=>some x
    | none=>m b off
  | [],m=>rfl
  | (b',o',c)::r,m=>by
    rw [St.wrs,wrs_find b off r,wfind]
    cases hf:wfind r b off with
    | some x=>rfl
    | none =>
      simp only [upd2]
      by_cases h:b=b'∧off=o'
      · rw [if_pos h,if_pos h]
      · rw [if_neg h,if_neg h]
theorem wfind_none {b off:Nat}:∀ {wr:List (Nat × Nat × A0)},(∀ p∈wr,(p.1,p.2.1)≠(b,off))→wfind wr b off=none
  | [],_=>rfl
  | (b',o',c)::r,h=>by
    rw [wfind,wfind_none (fun p hp=>h p (List.mem_cons_of_mem _ hp))]
    have:=h (b',o',c) (by simp)
    simp only
    rw [if_neg (by rintro ⟨rfl,rfl⟩;exact this rfl)]
theorem wfind_some {b off:Nat} {x:A0}:∀ {wr:List (Nat × Nat × A0)},wfind wr b off=some x→∃ p∈wr,(p.1,p.2.1)=(b,off)
  | [],h=>by cases h
  | (b',o',c)::r,h=>by
    rw [wfind] at h
    split at h
    · rename_i y hy
      obtain ⟨p,hp,he⟩:=wfind_some hy
      exact ⟨p,List.mem_cons_of_mem _ hp,he⟩
    · split at h
      · rename_i hc;exact ⟨_,List.mem_cons_self,by rw [hc.1,hc.2]⟩
      · cases h
def newAt (e:Eff) (dst:Option Tmp) (b:Nat):Option (List A0) :=
  match e.new,dst with
  | some (_,cs),some d=>if b=d then some cs else none
  | _,_=>none
theorem app_m (s:St) (dst:Option Tmp) (e:Eff) (b off:Nat) (hk:e.kill=none):(s.app dst e).m b off=match newAt e dst b with
    | some cs=>cs[off]?
    | none=>match wfind e.wr b off with
      | some x=>some x
      | none=>s.m b off:=by
  rw [app_none hk]
  unfold St.app0 newAt
  cases hn:e.new with
  | none=>simp only;exact wrs_find b off e.wr s.m
  | some q =>
    cases dst with
    | none=>simp only;exact wrs_find b off e.wr s.m
    | some d =>
      obtain ⟨ty,cs⟩:=q
      simp only
      by_cases hb:b=d
      · rw [if_pos hb,if_pos hb]
      · rw [if_neg hb,if_neg hb];exact wrs_find b off e.wr s.m
def touch (e:Eff):List (Nat × Nat):=e.rd++e.wr.map fun p=>(p.1,p.2.1)
def looks (ops:List Oper) (o:Oper):List Tmp:=opTmps o++guardTmps ops o
def leaves0 (ops:List Oper) (o:Oper) (e:Eff) (o':Oper) (e':Eff):Bool :=
  (match o.dst with
    | some d=>!(looks ops o').contains d&&(match o'.dst with|some d'=>d != d'|none=>true)&&(match e.new with|some _=>(touch e').all (fun p=>p.1 != d)|none=>true)
    | none=>true) &&
  e.wr.all fun p=>!(touch e').contains (p.1,p.2.1)
def leaves (ops:List Oper) (o:Oper) (e:Eff) (o':Oper) (e':Eff):Bool:=leaves0 ops o e o' e'&&(e.kill.isNone&&e'.kill.isNone)
theorem leaves_0 {ops:List Oper} {o o':Oper} {e e':Eff} (h:leaves ops o e o' e'=true):leaves0 ops o e o' e'=true∧e.kill=none∧e'.kill=none:=by
  unfold leaves at h
  simp only [Bool.and_eq_true,Option.isNone_iff_eq_none] at h
  exact h
theorem leaves_g {ops:List Oper} {o o':Oper} {e e':Eff} {s:St} (h:leaves ops o e o' e'=true) {t:Tmp} (ht:t∈looks ops o'):(s.app o.dst e).g t=s.g t:=by
  obtain ⟨h,hk,hk'⟩:=leaves_0 h
  rw [app_g _ _ _ hk]
  unfold leaves0 at h
  cases hd:o.dst with
  | none=>rfl
  | some d =>
    rw [hd] at h
    simp only [Bool.and_eq_true,Bool.not_eq_true',List.contains_eq_mem,decide_eq_false_iff_not] at h
    simp only [upd]
    rw [if_neg]
    rintro rfl
    exact h.1.1.1 ht
theorem leaves_m {ops:List Oper} {o o':Oper} {e e':Eff} {s:St} (h:leaves ops o e o' e'=true) {b off:Nat} (ht:(b,off)∈touch e'):(s.app o.dst e).m b off=s.m b off:=by
  obtain ⟨h,hk,hk'⟩:=leaves_0 h
  rw [app_m _ _ _ _ _ hk]
  unfold leaves0 at h
  rw [Bool.and_eq_true] at h
  have h1:newAt e o.dst b=none:=by
    unfold newAt
    cases hn:e.new with
    | none=>rfl
    | some q =>
      cases hd:o.dst with
      | none=>rfl
      | some d =>
        simp only
        rw [if_neg]
        rintro rfl
        have:=h.1
        rw [hd,hn] at this
        simp only [Bool.and_eq_true] at this
        have h2:=List.all_eq_true.1 this.2 _ ht
        simp at h2
  have h2:wfind e.wr b off=none:=wfind_none (fun p hp he=>by
    have:=List.all_eq_true.1 h.2 p hp
    rw [he] at this
    rw [List.contains_iff_mem.2 ht] at this
    cases this)
  rw [h1,h2]
theorem leaves_congr {X:Cx} {ops:List Oper} {o o':Oper} {e e':Eff} {s:St} (h:leaves ops o e o' e'=true):(absG X ops s o'=some e'→absG X ops (s.app o.dst e) o'=some e')∧(absG X ops (s.app o.dst e) o'=some e'→absG X ops s o'=some e'):=by
  have hg:∀ t∈looks ops o',(s.app o.dst e).g t=s.g t:=fun t ht=>leaves_g h ht
  have hm:∀ p∈e'.rd,(s.app o.dst e).m p.1 p.2=s.m p.1 p.2:=fun p hp=>leaves_m h (by unfold touch;exact List.mem_append_left _ hp)
  constructor
  · intro h1
    exact absG_congr h1 (fun t ht=>hg t (List.mem_append_left _ ht)) (fun t ht=>hg t (List.mem_append_right _ ht)) hm
  · intro h1
    exact absG_congr h1 (fun t ht=>(hg t (List.mem_append_left _ ht)).symm) (fun t ht=>(hg t (List.mem_append_right _ ht)).symm) (fun p hp=>(hm p hp).symm)
theorem app_comm {ops:List Oper} {o o':Oper} {e e':Eff} (s:St) (h:leaves ops o e o' e'=true) (h':leaves ops o' e' o e=true):(s.app o.dst e).app o'.dst e'=(s.app o'.dst e').app o.dst e:=by
  obtain ⟨h,hk,hk'⟩:=leaves_0 h
  obtain ⟨h',_,_⟩:=leaves_0 h'
  have hdd:∀ d d',o.dst=some d→o'.dst=some d'→d≠d':=by
    intro d d' h1 h2
    unfold leaves0 at h
    rw [h1,h2] at h
    simp only [Bool.and_eq_true,bne_iff_ne] at h
    exact h.1.1.2
  have e1 : ((s.app o.dst e).app o'.dst e').g = ((s.app o'.dst e').app o.dst e).g := by
    funext t
    rw [app_g _ _ _ hk',app_g _ _ _ hk,app_g _ _ _ hk,app_g _ _ _ hk']
    cases h1:o.dst with
    | none=>rfl
    | some d =>
      cases h2:o'.dst with
      | none=>rfl
      | some d' =>
        have:=hdd d d' h1 h2
        simp only [upd]
        by_cases ht:t=d
        · by_cases ht':t=d'
          · exact absurd (ht.symm.trans ht') this
          · simp [ht,this]
        · simp [ht]
  have e2:((s.app o.dst e).app o'.dst e').T=((s.app o'.dst e').app o.dst e).T:=by
    funext t
    rw [app_none hk',app_none hk,app_none hk,app_none hk']
    unfold St.app0
    simp only
    cases h1:o.dst<;>cases h2:o'.dst<;>cases h3:e.new<;>cases h4:e'.new<;>try rfl
    rename_i d d' q q'
    have:=hdd d d' h1 h2
    simp only [upd]
    by_cases ht:t=d
    · by_cases ht':t=d'
      · exact absurd (ht.symm.trans ht') this
      · simp [ht,this]
    · simp [ht]
  have e3 : ((s.app o.dst e).app o'.dst e').m = ((s.app o'.dst e').app o.dst e).m := by
    funext b off
    rw [app_m _ _ _ _ _ hk',app_m _ _ _ _ _ hk,app_m _ _ _ _ _ hk,app_m _ _ _ _ _ hk']
    -- what one makes the other does not make or write
    have sep:∀ {o o':Oper} {e e':Eff},(∀ d d',o.dst=some d→o'.dst=some d'→d≠d')→leaves0 ops o e o' e'=true→∀ cs,newAt e o.dst b=some cs→newAt e' o'.dst b=none∧wfind e'.wr b off=none:=by
      intro o o' e e' hdd h cs hn
      unfold newAt at hn
      cases h3:e.new with
      | none=>rw [h3] at hn;cases hn
      | some q =>
        cases h1:o.dst with
        | none=>rw [h3,h1] at hn;cases hn
        | some d =>
          rw [h3,h1] at hn
          simp only at hn
          split at hn
          · rename_i hb
            subst hb
            refine ⟨?_,wfind_none (fun p hp he=>?_)⟩
            · unfold newAt
              cases h4:e'.new with
              | none=>rfl
              | some q' =>
                cases h2:o'.dst with
                | none=>rfl
                | some d'=>simp only;rw [if_neg (hdd _ _ h1 h2)]
            · unfold leaves0 at h
              rw [h1,h3] at h
              simp only [Bool.and_eq_true] at h
              have:=List.all_eq_true.1 h.1.2 (p.1,p.2.1) (by unfold touch;exact List.mem_append_right _ (List.mem_map.2 ⟨p,hp,rfl⟩))
              rw [he] at this
              simp at this
          · cases hn
    cases hn:newAt e o.dst b with
    | some cs =>
      obtain ⟨k1,k2⟩:=sep hdd h cs hn
      rw [k1,k2]
    | none =>
      cases hn':newAt e' o'.dst b with
      | some cs =>
        obtain ⟨k1,k2⟩:=sep (fun d d' h1 h2=>(hdd d' d h2 h1).symm) h' cs hn'
        rw [k2]
      | none =>
        simp only
        cases hf:wfind e.wr b off with
        | none=>cases hf':wfind e'.wr b off<;>rfl
        | some x =>
          have:wfind e'.wr b off=none:=wfind_none (fun p hp he=>by
            obtain ⟨p',hp',he'⟩:=wfind_some hf
            unfold leaves0 at h
            rw [Bool.and_eq_true] at h
            have:=List.all_eq_true.1 h.2 p' hp'
            rw [he',← he,List.contains_iff_mem.2 (by unfold touch;exact List.mem_append_right _ (List.mem_map.2 ⟨p,hp,rfl⟩))] at this
            cases this)
          rw [this]
  cases h5:(s.app o.dst e).app o'.dst e'
  cases h6:(s.app o'.dst e').app o.dst e
  rw [h5,h6] at e1 e2 e3
  simp only at e1 e2 e3
  rw [e1,e2,e3]
def newOk (s:St) (o:Oper) (e:Eff):Prop:=∀ q,e.new=some q→∀ d,o.dst=some d→(s.after e).T d=none∧rawT q.1=false∧d≠eraK
theorem newOk_app {s:St} {o o':Oper} {e e':Eff} (hdd:∀ d d',o.dst=some d→o'.dst=some d'→d≠d') (hk:e.kill=none) (hk':e'.kill=none):newOk (s.app o.dst e) o' e'↔newOk s o' e':=by
  have hT:∀ d',o'.dst=some d'→(s.app o.dst e).T d'=s.T d':=by
    intro d' h2
    rw [app_none hk]
    unfold St.app0
    cases h1:o.dst with
    | none=>cases e.new<;>rfl
    | some d =>
      cases e.new with
      | none=>rfl
      | some q =>
        simp only [upd]
        rw [if_neg (fun he=>hdd _ _ h1 h2 he.symm)]
  unfold newOk
  rw [after_none hk',after_none hk']
  constructor
  · intro h q hq d hd
    rw [← hT d hd];exact h q hq d hd
  · intro h q hq d hd
    rw [hT d hd];exact h q hq d hd
inductive Runs (X:Cx) (ops:List Oper) (E:Nat→Eff):List Nat→St→St→Prop where
  | nil (s:St):Runs X ops E [] s s
  | cons {i:Nat} {l:List Nat} {s s':St} (o:Oper):ops[i]?=some o→absG X ops s o=some (E i)→newOk s o (E i)→Runs X ops E l (s.app o.dst (E i)) s'→Runs X ops E (i::l) s s'
def apartAt (ops:List Oper) (E:Nat→Eff) (i j:Nat):Bool :=
  match ops[i]?,ops[j]? with
  | some o,some o'=>leaves ops o (E i) o' (E j)&&leaves ops o' (E j) o (E i)
  | _,_=>false
theorem Runs.swap {X:Cx} {ops:List Oper} {E:Nat→Eff} {i j:Nat} {l:List Nat} {s s':St} (h:Runs X ops E (i::j::l) s s') (hij:apartAt ops E i j=true):Runs X ops E (j::i::l) s s':=by
  cases h with
  | cons o ho h1 h2 h3 =>
    cases h3 with
    | cons o' ho' h1' h2' h3' =>
      unfold apartAt at hij
      rw [ho,ho'] at hij
      simp only [Bool.and_eq_true] at hij
      have hdd:∀ d d',o.dst=some d→o'.dst=some d'→d≠d':=by
        intro d d' e1 e2
        have:=(leaves_0 hij.1).1
        unfold leaves0 at this
        rw [e1,e2] at this
        simp only [Bool.and_eq_true,bne_iff_ne] at this
        exact this.1.1.2
      obtain ⟨_,hk,hk'⟩:=leaves_0 hij.1
      refine .cons o' ho' ((leaves_congr hij.1).2 h1') ((newOk_app hdd hk hk').1 h2') (.cons o ho ((leaves_congr hij.2).1 h1) ((newOk_app (fun d d' a b=>(hdd d' d b a).symm) hk' hk).2 h2) ?_)
      rw [← app_comm s hij.1 hij.2]
      exact h3'
theorem Runs.front {X:Cx} {ops:List Oper} {E:Nat→Eff} {i:Nat} {l2:List Nat} {s':St}:∀ {l1:List Nat} {s:St},Runs X ops E (l1++i::l2) s s'→(∀ j∈l1,apartAt ops E j i=true)→Runs X ops E (i::(l1++l2)) s s'
  | [],s,h,_=>h
  | j :: l1, s, h, ha => by
    cases h with
    | cons o ho h1 h2 h3 =>
      exact Runs.swap (.cons o ho h1 h2 (Runs.front h3 (fun k hk=>ha k (List.mem_cons_of_mem _ hk)))) (ha j (by simp))
def edges (o:Oper):List Nat:=(o.after.toList.filter (Region.binds .any)).map (·.on)
def edgesAt (ops:List Oper) (k:Nat):List Nat :=
  match ops[k]? with
  | some o=>edges o
  | none=>[]
def ancOk (ops:List Oper) (A:List Nat):Bool:=(List.range ops.length).all fun k=>(edgesAt ops k).all (fun e=>decide (e<k))&&(List.range k).all fun j=>!(A.getD k 0).testBit j||(edgesAt ops k).any fun e=>j == e||(decide (j<e)&&(A.getD e 0).testBit j)
def pairsOk (ops:List Oper) (E:Nat→Eff) (A:List Nat):Bool:=(List.range ops.length).all fun k=>(List.range k).all fun j=>(A.getD k 0).testBit j||apartAt ops E j k
def ancs (ops:List Oper):List Nat:=ops.foldl (fun A o=>A++[(edges o).foldl (fun m e=>m ||| (1 <<< e) ||| A.getD e 0) 0]) []
theorem getD_setIf {l:Array Bool} {i j:Nat} {d:Bool} (hi:i<l.size):(l.setIfInBounds i true).getD j d=if j=i then true else l.getD j d:=by
  rw [Array.getD_eq_getD_getElem?,Array.getD_eq_getD_getElem?]
  by_cases h:j=i
  · subst h;simp [hi]
  · rw [Array.getElem?_setIfInBounds_ne (by omega),if_neg h]
theorem filter_split {p:Nat→Bool} {i n:Nat} (hi:i<n) (hp:p i=true):∃ l1 l2,(List.range n).filter p=l1++i::l2∧(∀ j∈l1,j<i∧p j=true)∧(List.range n).filter (fun j=>p j&&j != i)=l1++l2:=by
  have e:List.range n=List.range i++i::(List.range' (i+1) (n-(i+1))):=by
    rw [List.range_eq_range',List.range_eq_range',show i::List.range' (i+1) (n-(i+1))=List.range' i (n-i) by
      rw [show n-i=(n-(i+1))+1 by omega,List.range'_succ]]
    rw [show List.range' i (n-i)=List.range' (0+1*i) (n-i) by simp,List.range'_append]
    congr 1;omega
  refine ⟨(List.range i).filter p,(List.range' (i+1) (n-(i+1))).filter p,?_,fun j hj=>?_,?_⟩
  · rw [e,List.filter_append,List.filter_cons,if_pos hp]
  · rw [List.mem_filter,List.mem_range] at hj;exact hj
  · rw [e,List.filter_append,List.filter_cons,if_neg (by simp)]
    congr 1
    · refine List.filter_congr (fun j hj=>?_)
      rw [List.mem_range] at hj
      have:(j != i)=true:=by simp;omega
      rw [this,Bool.and_true]
    · refine List.filter_congr (fun j hj=>?_)
      rw [List.mem_range'_1] at hj
      have:(j != i)=true:=by simp;omega
      rw [this,Bool.and_true]
section
variable {P:Program} {X:Cx} {base:Nat} {w0:World} {n:Nat} {s s':St} {a:Act} {w:World} {Q:Exit→Act→World→Prop} {ops:List Oper} {E:Nat→Eff} {A:List Nat}
def statOk (X:Cx) (n:Nat) (ops:List Oper):Bool:=ops.all fun o=>srcOk X o.op&&dstOk n o
theorem wpOp_sound (ok:CxOk2 P X) (hst:statOk X n ops=true) {i:Nat} {o:Oper} (ho:ops[i]?=some o) (hS:SatE base w0 n s a w) (h:absG X ops s o=some (E i)) (hn:newOk s o (E i)) (hp:(E i).pre) {K:Act→World→Prop}
    (hK:∀ a' w',SatE base w0 n (s.app o.dst (E i)) a' w'→K a' w'):wpOp P ops.toArray Q i K a w:=by
  obtain ⟨β,hS⟩:=hS
  unfold wpOp
  have ho':ops.toArray[i]?=some o:=by simpa using ho
  rw [ho']
  simp only
  have hs:=List.all_eq_true.1 hst o (List.mem_of_getElem? ho)
  rw [Bool.and_eq_true] at hs
  have:=absG_sound (Q:=Q) ok hS h hp hs.1 hs.2 hn (fun β' a' w' h=>hK a' w' ⟨β',h⟩)
  split at this
  · rename_i hw;rw [if_pos hw];exact .inl this
  · rename_i hw;rw [if_neg hw];exact this
theorem seq_sound (ok:CxOk2 P X) (hst:statOk X n ops=true):∀ {l:List Nat} {s:St} {a:Act} {w:World},Runs X ops E l s s'→(∀ i∈l,(E i).pre)→SatE base w0 n s a w→(∀ a w,SatE base w0 n s' a w→Q .normal a w)→wpOps P ops.toArray Q l a w
  | [],s,a,w,h,_,hS,hQ=>by
    cases h
    exact hQ a w hS
  | i :: l, s, a, w, h, hp, hS, hQ => by
    cases h with
    | cons o ho h1 h2 h3 =>
      rw [wpOps_cons]
      exact wpOp_sound ok hst ho hS h1 h2 (hp i (by simp)) (fun a' w' hS'=>seq_sound ok hst h3 (fun j hj=>hp j (List.mem_cons_of_mem _ hj)) hS' hQ)
theorem any_sound (ok:CxOk2 P X) (hst:statOk X n ops=true) (hA:ancOk ops A=true) (hpr:pairsOk ops E A=true):∀ (fuel:Nat) (listed:Array Bool) (s:St) (a:Act) (w:World),listed.size=ops.length →
    ((List.range ops.length).filter fun i=>!listed.getD i true).length=fuel→(∀ k,k<ops.length→listed.getD k true=true→∀ e∈edgesAt ops k,listed.getD e false=true) →
    Runs X ops E ((List.range ops.length).filter fun i=>!listed.getD i true) s s'→(∀ i,i<ops.length→(E i).pre)→SatE base w0 n s a w→(∀ a w,SatE base w0 n s' a w→Q .normal a w)→wpAny P .any ops.toArray Q fuel listed a w:=by
  have anc:∀ (listed:Array Bool),(∀ k,k<ops.length→listed.getD k true=true→∀ e∈edgesAt ops k,listed.getD e false=true)→listed.size=ops.length→∀ k,k<ops.length→(∀ e∈edgesAt ops k,listed.getD e false=true)→∀ j,j<k→(A.getD k 0).testBit j=true→listed.getD j true=true:=by
    intro listed hcl hsz k
    induction k using Nat.strongRecOn with
    | _ k ih =>
      intro hk he j hj hb
      have h1:=List.all_eq_true.1 hA k (List.mem_range.2 hk)
      rw [Bool.and_eq_true] at h1
      have h2:=List.all_eq_true.1 h1.2 j (List.mem_range.2 hj)
      rw [hb] at h2
      simp only [Bool.not_true,Bool.false_or,List.any_eq_true,Bool.or_eq_true,beq_iff_eq,Bool.and_eq_true,decide_eq_true_eq] at h2
      obtain ⟨e,hem,h3⟩:=h2
      have hek:e<k:=of_decide_eq_true (List.all_eq_true.1 h1.1 e hem)
      have hel:listed.getD e true=true:=by
        have:=he e hem
        rw [Array.getD_eq_getD_getElem?] at this ⊢
        rw [Array.getElem?_eq_getElem (by omega)] at this ⊢
        exact this
      rcases h3 with rfl|h3
      · exact hel
      · exact ih e hek (by omega) (hcl e (by omega) hel) j h3.1 h3.2
  intro fuel
  induction fuel with
  | zero =>
    intro listed s a w hsz hl hcl hr hp hS hQ
    have hnil:=List.length_eq_zero_iff.1 hl
    rw [hnil] at hr
    cases hr
    refine ⟨?_,hQ a w hS⟩
    unfold Region.ready
    rw [List.filter_eq_nil_iff]
    intro i hi hc
    rw [Bool.and_eq_true] at hc
    have:i∈(List.range ops.length).filter fun i=>!listed.getD i true:=List.mem_filter.2 ⟨by simpa using hi,hc.1⟩
    rw [hnil] at this
    cases this
  | succ fuel ih =>
    intro listed s a w hsz hl hcl hr hp hS hQ
    have hready:∀ i,i∈Region.ready .any ops.toArray listed↔i<ops.length∧listed.getD i true=false∧∀ e∈edgesAt ops i,listed.getD e false=true:=by
      intro i
      unfold Region.ready
      rw [List.mem_filter,List.mem_range,List.size_toArray,Bool.and_eq_true,Bool.not_eq_true']
      constructor
      · rintro ⟨h1,h2,h3⟩
        refine ⟨h1,h2,fun e he=>?_⟩
        unfold edgesAt at he
        rw [List.getElem?_eq_getElem h1] at he
        rw [List.getElem?_toArray,List.getElem?_eq_getElem h1] at h3
        simp only [Option.map_some,Option.getD_some,Array.all_eq_true_iff_forall_mem] at h3
        simp only [edges,List.mem_map,List.mem_filter] at he
        obtain ⟨ed,⟨hm,hb⟩,rfl⟩:=he
        have:=h3 ed (by simpa using hm)
        rw [hb] at this
        simpa using this
      · rintro ⟨h1,h2,h3⟩
        refine ⟨h1,h2,?_⟩
        rw [List.getElem?_toArray,List.getElem?_eq_getElem h1]
        simp only [Option.map_some,Option.getD_some,Array.all_eq_true_iff_forall_mem]
        intro ed hm
        cases hb:Region.binds .any ed with
        | false=>simp
        | true =>
          simp only [Bool.not_true,Bool.false_or]
          refine h3 ed.on ?_
          unfold edgesAt
          rw [List.getElem?_eq_getElem h1]
          simp only [edges,List.mem_map,List.mem_filter]
          exact ⟨ed,⟨by simpa using hm,hb⟩,rfl⟩
    refine ⟨fun hnone=>?_,fun i hi=>?_⟩
    · exfalso
      have hne:(List.range ops.length).filter (fun i=>!listed.getD i true)≠[]:=by
        intro h;rw [h] at hl;cases hl
      -- the least that is not listed may come up
      have:∃ i,i<ops.length∧listed.getD i true=false∧∀ j,j<i→listed.getD j true=true:=by
        obtain ⟨x,hx⟩:=List.exists_mem_of_ne_nil _ hne
        rw [List.mem_filter,List.mem_range,Bool.not_eq_true'] at hx
        clear hne hready hnone
        induction x using Nat.strongRecOn with
        | _ x ihx =>
          by_cases hc:∃ j,j<x∧listed.getD j true=false
          · obtain ⟨j,hj,hjl⟩:=hc
            exact ihx j hj ⟨by omega,hjl⟩
          · refine ⟨x,hx.1,hx.2,fun j hj=>?_⟩
            cases hjl:listed.getD j true with
            | true=>rfl
            | false=>exact absurd ⟨j,hj,hjl⟩ hc
      obtain ⟨i,hi1,hi2,hi3⟩:=this
      have hmem:i∈Region.ready .any ops.toArray listed:=(hready i).2 ⟨hi1,hi2,fun e he=>by
        have h1:=List.all_eq_true.1 hA i (List.mem_range.2 hi1)
        rw [Bool.and_eq_true] at h1
        have hek:e<i:=of_decide_eq_true (List.all_eq_true.1 h1.1 e he)
        have:=hi3 e hek
        rw [Array.getD_eq_getD_getElem?] at this ⊢
        rw [Array.getElem?_eq_getElem (by omega)] at this ⊢
        exact this⟩
      rw [hnone] at hmem
      cases hmem
    · obtain ⟨hi1,hi2,hi3⟩:=(hready i).1 hi
      obtain ⟨l1,l2,e1,e2,e3⟩:=filter_split (p:=fun i=>!listed.getD i true) hi1 (by simp [hi2])
      rw [e1] at hr
      have hfront:=Runs.front hr (fun j hj=>by
        obtain ⟨hji,hjp⟩:=e2 j hj
        have h1:=List.all_eq_true.1 hpr i (List.mem_range.2 hi1)
        have h2:=List.all_eq_true.1 h1 j (List.mem_range.2 hji)
        rw [Bool.or_eq_true] at h2
        rcases h2 with h2|h2
        · have:=anc listed hcl hsz i hi1 hi3 j hji h2
          rw [this] at hjp
          cases hjp
        · exact h2)
      cases hfront with
      | cons o ho h1 h2 h3 =>
        have hset:∀ j,(!(listed.setIfInBounds i true).getD j true)=((!listed.getD j true)&&j != i):=by
          intro j
          rw [getD_setIf (by omega)]
          by_cases hji:j=i
          · simp [hji]
          · rw [if_neg hji];simp [hji]
        refine wpOp_sound ok hst ho hS h1 h2 (hp i hi1) (fun a' w' hS'=>ih _ (s.app o.dst (E i)) a' w' (by simp [hsz]) ?_ ?_ ?_ hp hS' hQ)
        · simp only [hset]
          rw [e3]
          rw [e1] at hl
          simp only [List.length_append,List.length_cons] at hl ⊢
          omega
        · intro k hk hkl e he
          rw [getD_setIf (by omega)] at hkl ⊢
          by_cases hei:e=i
          · rw [if_pos hei]
          · rw [if_neg hei]
            by_cases hki:k=i
            · subst hki;exact hi3 e he
            · rw [if_neg hki] at hkl
              exact hcl k hk hkl e he
        · simp only [hset]
          rw [e3]
          exact h3
end
def Eff.nil:Eff:={ pre:=True }
def newB (s:St) (o:Oper) (e:Eff):Bool :=
  match e.new,o.dst with
  | some q,some d=>((s.after e).T d).isNone&&(!rawT q.1&&decide (d≠eraK))
  | _,_=>true
def effs (X:Cx) (ops:List Oper):List Oper→St→Option (List Eff × St)
  | [],s=>some ([],s)
  | o :: r, s => match absG X ops s o with
    | some e=>match newB s o e,effs X ops r (s.app o.dst e) with
      | true,some (es,s')=>some (e::es,s')
      | _,_=>none
    | none=>none
def pres:List Eff→Prop
  | []=>True
  | e::r=>e.pre∧pres r
def regChk (X:Cx) (n:Nat) (ops:List Oper) (draw:Bool) (es:List Eff):Bool :=
  statOk X n ops&&(!draw||(ancOk ops (ancs ops)&&pairsOk ops (fun i=>es.getD i Eff.nil) (ancs ops)))
theorem newB_ok {s:St} {o:Oper} {e:Eff} (h:newB s o e=true):newOk s o e:=by
  intro q hq d hd
  unfold newB at h
  rw [hq,hd] at h
  simpa using h
theorem effs_runs {X:Cx} {ops:List Oper}:∀ {r:List Oper} {s s':St} {es:List Eff} {k:Nat} {E:Nat→Eff},effs X ops r s=some (es,s')→(∀ i o,r[i]?=some o→ops[k+i]?=some o)→(∀ i e,es[i]?=some e→E (k+i)=e) →
    Runs X ops E (List.range' k r.length) s s'∧es.length=r.length
  | [],s,s',es,k,E,h,_,_=>by cases h;exact ⟨.nil s,rfl⟩
  | o :: r, s, s', es, k, E, h, ho, hE => by
    rw [effs] at h
    split at h
    · rename_i e he
      split at h
      · rename_i es' s'' hn hr
        cases h
        obtain ⟨h1,h2⟩:=effs_runs (k:=k+1) (E:=E) hr (fun i o' hi=>by rw [show k+1+i=k+(i+1) by omega];exact ho (i+1) o' (by simpa using hi)) (fun i e' hi=>by rw [show k+1+i=k+(i+1) by omega];exact hE (i+1) e' (by simpa using hi))
        have e0:E k=e:=hE 0 e rfl
        have h0:ops[k]?=some o:=ho 0 o rfl
        rw [List.length_cons,List.range'_succ]
        refine ⟨.cons o h0 (by rw [e0];exact he) (by rw [e0];exact newB_ok hn) (by rw [e0];exact h1),by simp [h2]⟩
      · cases h
    · cases h
theorem pres_get:∀ {es:List Eff},pres es→∀ i,(es.getD i Eff.nil).pre
  | [],_,i=>by simp [Eff.nil]
  | e::r,h,i=>by
    cases i with
    | zero=>exact h.1
    | succ i=>simpa using pres_get h.2 i
structure Fr where
  n:Nat
  res:List ResultVar
def resPart (X:Cx) (s:St):ResultVar→Option (Bool × List A0)
  | .tmp t=>match s.g t with
    | some (.sc c)=>some (false,[c])
    | some (.agg cs)=>some (true,cs)
    | _=>none
  | .cell t ty=>match s.g t with
    | some (.ptr b off)=>match allSome ((span b off (X.ti ty).size).map fun p=>s.m p.1 p.2),(X.ti ty).agg with
      | some (c::l),true=>some (true,c::l)
      | some [c],false=>some (false,[c])
      | _,_=>none
    | _=>none
def resParts (X:Cx) (s:St):List ResultVar→Option (List (Bool × List A0))
  | []=>some []
  | r::l=>match resPart X s r,resParts X s l with
    | some p,some q=>some (p::q)
    | _,_=>none
def resCR0 (X:Cx) (rs:List ResultVar) (s:St):Option CR :=
  match rs with
  | [.tmp t]=>match s.g t with
    | some (.sc c)=>some (.tv (.sc c))
    | some (.agg cs)=>some (.tv (.agg cs))
    | some (.own b 0 k sz)=>match s.T b,allSome ((span b 0 (k*sz)).map fun p=>s.m p.1 p.2) with
      | some ty,some l=>some (.new ty k sz l)
      | _,_=>none
    | some (.gro b k sz _)=>match s.T b,allSome ((span b 0 (k*sz)).map fun p=>s.m p.1 p.2) with
      | some ty,some l=>some (.new ty k sz l)
      | _,_=>none
    | _=>none
  | [r]=>match resPart X s r with
    | some p=>match ofPart p with
      | some x=>some (.tv x)
      | none=>none
    | none=>none
  | rs=>match resParts X s rs with
    | some l=>some (.tv (.tup l))
    | none=>none
def CR.noOs:CR→Bool
  | .tv x=>x.plain
  | .new _ _ _ cs=>cs.all A0.noOs
def resCR (X:Cx) (rs:List ResultVar) (s:St):Option CR :=
  match resCR0 X rs s with
  | some r=>if r.noOs then some r else none
  | none=>none
def boolOf:Option TV→Option Bool
  | some (.sc c)=>match c.val? with
    | some (.bool b)=>some b
    | _=>none
  | _=>none
def vc (X:Cx) (n:Nat):Nat→Code→(St→Prop)→(Nat→St→Prop)→(St→Prop)→St→Prop
  | 0,_,_,_,_,_=>False
  | f+1,.skip,kn,_,_,s=>kn s
  | f+1,.seq x y,kn,ke,kr,s=>vc X n f x (vc X n f y kn ke kr) ke kr s
  | f+1,.region _ ops draw,kn,_,_,s=>match effs X ops.toList ops.toList s with
    | some (es,s')=>regChk X n ops.toList draw es=true∧pres es∧kn s'
    | none=>False
  | f+1,.cond c x y,kn,ke,kr,s=>match boolOf (getv s.g c) with
    | some b=>(b=true→vc X n f x kn ke kr s)∧(b=false→vc X n f y kn ke kr s)
    | none=>False
  | f+1,.block id c,kn,ke,kr,s=>vc X n f c kn (fun id' s=>if id'=id then kn s else ke id' s) kr s
  | f+1,.loop c,kn,ke,kr,s=>vc X n f c (vc X n f (.loop c) kn ke kr) ke kr s
  | f+1,.exit id,_,ke,_,s=>ke id s
  | f+1,.ret,_,_,kr,s=>kr s
  | _+1,_,_,_,_,_=>False
section
variable {P:Program} {X:Cx} {base:Nat} {w0:World} {n:Nat} {s s':St} {a:Act} {w:World} {Q:Exit→Act→World→Prop}
theorem region_sound (ok:CxOk2 P X) (hmo:P.follows .mixedOrders=true) {id:Nat} {ops:Array Oper} {draw:Bool} {es:List Eff} (heff:effs X ops.toList ops.toList s=some (es,s')) (hc:regChk X n ops.toList draw es=true) (hp:pres es) (hS:SatE base w0 n s a w)
    (hQ:∀ a w,SatE base w0 n s' a w→Q .normal a w):(Code.region id ops draw).wp P Q a w:=by
  obtain ⟨hr,hlen⟩:=effs_runs (k:=0) (E:=fun i=>es.getD i Eff.nil) heff (fun i o h=>by simpa using h) (fun i e h=>by simp [List.getD_eq_getElem?_getD,h])
  unfold regChk at hc
  rw [Bool.and_eq_true] at hc
  cases draw with
  | false =>
    refine wp_region ?_
    have:=seq_sound (Q:=Q) ok hc.1 (l:=List.range ops.size) (by rw [List.range_eq_range',← Array.length_toList];exact hr) (fun i _=>pres_get hp i) hS hQ
    simpa using this
  | true =>
    have hc2:=hc.2
    simp only [Bool.not_true,Bool.false_or,Bool.and_eq_true] at hc2
    refine wp_region_any hmo ?_
    have hall:(List.range ops.toList.length).filter (fun i=>!(Array.replicate ops.size false).getD i true)=List.range' 0 ops.toList.length:=by
      rw [List.filter_eq_self.2,List.range_eq_range']
      intro i hi
      rw [List.mem_range] at hi
      simp at hi
      rw [Array.getD_eq_getD_getElem?]
      simp [hi]
    have hS':SatE base w0 n s a { w with drawn:=w.drawn+1 }:=by
      obtain ⟨β,hS⟩:=hS
      exact ⟨β,hS.grow (below_drew (Below.refl _ w))⟩
    have:=any_sound (Q:=Q) (s':=s') (E:=fun i=>es.getD i Eff.nil) ok hc.1 hc2.1 hc2.2 ops.size (Array.replicate ops.size false) s a { w with drawn:=w.drawn+1 } (by simp) (by rw [hall];simp) (fun k hk hkl=>by
      exfalso
      rw [Array.getD_eq_getD_getElem?] at hkl
      simp at hk
      simp [hk] at hkl) (by rw [hall];exact hr) (fun i _=>pres_get hp i) hS' hQ
    simpa using this
theorem boolOf_eq (hS:SatE base w0 n s a w) {c:Operand} {b:Bool} (h:boolOf (getv s.g c)=some b):a.eval c = .bool b:=by
  obtain ⟨β,hS⟩:=hS
  unfold boolOf at h
  split at h
  · rename_i c' hg
    split at h
    · rename_i b' hv
      cases h
      exact val_reads (c := .sc c') hv (getv_good hS hg).1
    · cases h
  · cases h
theorem vc_both (ok:CxOk2 P X) (hmo:P.follows .mixedOrders=true):∀ (f:Nat),(∀ (c:Code) (kn:St→Prop) (ke:Nat→St→Prop) (kr:St→Prop) (s:St) (a:Act) (w:World) (Q:Exit→Act→World→Prop),vc X n f c kn ke kr s→SatE base w0 n s a w →
    (∀ s a w,kn s→SatE base w0 n s a w→Q .normal a w)→(∀ id s a w,ke id s→SatE base w0 n s a w→Q (.exit id) a w)→(∀ s a w,kr s→SatE base w0 n s a w→Q .ret a w)→c.wp P Q a w) ∧
    (∀ (c:Code) (kn:St→Prop) (ke:Nat→St→Prop) (kr:St→Prop) (s:St) (a:Act) (w:World) (Q:Exit→Act→World→Prop),vc X n f (.loop c) kn ke kr s→SatE base w0 n s a w →
    (∀ id s a w,ke id s→SatE base w0 n s a w→Q (.exit id) a w)→(∀ s a w,kr s→SatE base w0 n s a w→Q .ret a w)→Code.rounds P c Q f a w):=by
  intro f
  induction f with
  | zero=>exact ⟨(fun c kn ke kr s a w Q h=>by cases h),(fun c kn ke kr s a w Q h=>by cases h)⟩
  | succ f ih =>
    obtain ⟨ihA,ihB⟩:=ih
    have hB:∀ (c:Code) (kn:St→Prop) (ke:Nat→St→Prop) (kr:St→Prop) (s:St) (a:Act) (w:World) (Q:Exit→Act→World→Prop),vc X n (f+1) (.loop c) kn ke kr s→SatE base w0 n s a w →
        (∀ id s a w,ke id s→SatE base w0 n s a w→Q (.exit id) a w)→(∀ s a w,kr s→SatE base w0 n s a w→Q .ret a w)→Code.rounds P c Q (f+1) a w:=by
      intro c kn ke kr s a w Q h hS he hr
      exact ihA c _ ke kr s a w _ h hS (fun s a w hk hS=>ihB c kn ke kr s a w Q hk hS he hr) (fun id s a w hk hS=>he id s a w hk hS) (fun s a w hk hS=>hr s a w hk hS)
    refine ⟨?_,hB⟩
    intro c kn ke kr s a w Q h hS hn he hr
    cases c with
    | skip=>exact wp_skip (hn s a w h hS)
    | seq x y =>
      refine wp_seq (ihA x _ ke kr s a w _ h hS (fun s a w hk hS=>ihA y kn ke kr s a w Q hk hS hn he hr) (fun id s a w hk hS=>he id s a w hk hS) (fun s a w hk hS=>hr s a w hk hS))
    | region id ops draw =>
      simp only [vc] at h
      split at h
      · rename_i es s' heff
        exact region_sound ok hmo heff h.1 h.2.1 hS (fun a w hS'=>hn s' a w h.2.2 hS')
      · cases h
    | cond c x y =>
      simp only [vc] at h
      split at h
      · rename_i b hb
        refine wp_cond (boolOf_eq hS hb) ?_
        cases b with
        | true=>exact ihA x kn ke kr s a w Q (h.1 rfl) hS hn he hr
        | false=>exact ihA y kn ke kr s a w Q (h.2 rfl) hS hn he hr
      · cases h
    | block id c =>
      refine wp_block (ihA c kn _ kr s a w _ h hS (fun s a w hk hS=>hn s a w hk hS) (fun id' s a w hk hS=>?_) (fun s a w hk hS=>hr s a w hk hS))
      show if id'=id then Q .normal a w else Q (.exit id') a w
      split
      · rename_i e;rw [if_pos e] at hk;exact hn s a w hk hS
      · rename_i e;rw [if_neg e] at hk;exact he id' s a w hk hS
    | loop c=>exact wp_loop_rounds (f+1) (hB c kn ke kr s a w Q h hS he hr)
    | exit id=>exact wp_exit (he id s a w h hS)
    | ret=>exact wp_ret (hr s a w h hS)
    | rangeFunc _ _ _ _=>cases h
    | scope _=>cases h
    | label _=>cases h
    | goto _=>cases h
    | refuse _=>cases h
theorem vc_sound (ok:CxOk2 P X) (hmo:P.follows .mixedOrders=true) (f:Nat) (c:Code) (kn:St→Prop) (ke:Nat→St→Prop) (kr:St→Prop) (s:St) (a:Act) (w:World) (Q:Exit→Act→World→Prop) (h:vc X n f c kn ke kr s) (hS:SatE base w0 n s a w)
    (hn:∀ s a w,kn s→SatE base w0 n s a w→Q .normal a w) (he:∀ id s a w,ke id s→SatE base w0 n s a w→Q (.exit id) a w) (hr:∀ s a w,kr s→SatE base w0 n s a w→Q .ret a w):c.wp P Q a w :=
  (vc_both ok hmo f).1 c kn ke kr s a w Q h hS hn he hr
def st0 (ays:List TV):St:={ g:=fun t=>ays[t]?,m:=fun _ _=>none,T:=fun _=>none }
theorem sat0 {ays:List TV} {us:List Value} {w:World} {n:Nat} (h:All2 (TV.reads (fun _=>0) w.heap.size w) ays us) (hr:ays.all (fun x=>x.refs.isEmpty)=true) (hn:us.length≤n) :
    SatE w.heap.size w n (st0 ays) { tmps:=us.toArray++Array.replicate (n-us.toArray.size) undef,defers:=[] } w:=by
  refine ⟨fun _=>0,{ tm:=fun t x hx=>?_,box:=(fun b ty h=>by cases h),era:=Nat.le_refl _,raw:=(fun b ty h=>by cases h),has:=fun b off h=>absurd rfl h,inj:=fun b b' h=>absurd rfl h,refs:=fun t x hx b hb=>?_,below:=Below.refl _ _,base_eq:=rfl,defers:=rfl,size:=by simp;omega }⟩
  · obtain ⟨u,hu,hru⟩:=All2.get h t x hx
    have:(us.toArray++Array.replicate (n-us.toArray.size) undef).getD t undef=u:=by
      rw [Array.getD_eq_getD_getElem?,Array.getElem?_append_left (by have:=(List.getElem?_eq_some_iff.1 hu).1;simpa using this)]
      simp [hu]
    rw [this];exact hru
  · have:=List.all_eq_true.1 hr x (List.mem_of_getElem? hx)
    rw [List.isEmpty_iff] at this
    rw [this] at hb
    cases hb
theorem load_box (ok:CxOk P X) {β:Nat→Nat} (hS:Sat base w0 n β s a w) {T:TypeId} {b off:Nat} {p:Bool × List A0}
    (h:(match allSome ((span b off (X.ti T).size).map fun p=>s.m p.1 p.2),(X.ti T).agg with
      | some (c::l),true=>some (true,c::l)
      | some [c],false=>some (false,[c])
      | _,_=>none)=some p):∃ u,(loadVar T ⟨β b,off,none⟩).run P w = .ok u w∧part0 (base+β eraK) w p u:=by
  have hT:=ok.ty T
  split at h
  · rename_i c l hl hag
    cases h
    obtain ⟨us,h1,h2,h4⟩:=box_cells hS b (X.ti T).size off _ (allSome_get hl)
    have hne:(X.ti T).size≠0:=by rw [← h1,← All2.length h2];simp
    obtain ⟨inf,hi,hsz⟩:=hT.size hne
    have hr:=congrFun (hT.agg hne) w
    rw [hag] at hr
    refine ⟨.agg us.toArray,?_,us,rfl,h2⟩
    have:=run_loadCells_list (P:=P) w ⟨β b,off,none⟩ us (fun j v hj=>by rw [addr_add];exact h4 j v hj)
    simp only [Sem.run_bind,Sem.run_pure,Result.andThen_ok,loadVar,hr,if_true,run_sizeOf' hi,hsz,← h1,this]
  · rename_i c hl hag
    cases h
    obtain ⟨us,h1,h2,h4⟩:=box_cells hS b (X.ti T).size off _ (allSome_get hl)
    have hne:(X.ti T).size≠0:=by rw [← h1,← All2.length h2];simp
    have hr:=congrFun (hT.agg hne) w
    rw [hag] at hr
    cases h2 with
    | cons hu hnil =>
      cases hnil
      rename_i u
      refine ⟨u,?_,c,rfl,hu⟩
      have:=h4 0 u rfl
      simp only [Nat.add_zero] at this
      simp only [Sem.run_bind,Sem.run_pure,Result.andThen_ok,loadVar,hr,Bool.false_eq_true,if_false,run_load,this]
  · cases h
def resOne (tm:Array Value):ResultVar→Sem Value
  | .tmp t=>pure (tm.getD t undef)
  | .cell a t=>do loadVar t (← asAddr (tm.getD a undef))
theorem resPart_run (ok:CxOk P X) {β:Nat→Nat} (hS:Sat base w0 n β s a w) {r:ResultVar} {p:Bool × List A0} (h:resPart X s r=some p):∃ u,(resOne a.tmps r).run P w = .ok u w∧part0 (base+β eraK) w p u:=by
  cases r with
  | tmp t =>
    simp only [resPart] at h
    split at h
    · rename_i c hg;cases h;exact ⟨_,rfl,c,rfl,hS.tm t _ hg⟩
    · rename_i cs hg;cases h;exact ⟨_,rfl,hS.tm t _ hg⟩
    · cases h
  | cell t ty =>
    simp only [resPart] at h
    split at h
    · rename_i b off hg
      obtain ⟨u,h1,h2⟩:=load_box ok hS h
      refine ⟨u,?_,h2⟩
      have:=hS.tm t _ hg
      simp only [resOne]
      rw [show a.tmps.getD t undef=_ from this]
      simpa [asAddr] using h1
    · cases h
theorem resParts_run (ok:CxOk P X) {β:Nat→Nat} (hS:Sat base w0 n β s a w):∀ {rs:List ResultVar} {ps:List (Bool × List A0)},resParts X s rs=some ps→∃ us:List Value,(rs.mapM (resOne a.tmps)).run P w = .ok us w∧All2 (part0 (base+β eraK) w) ps us
  | [],ps,h=>by cases h;exact ⟨[],rfl,.nil⟩
  | r :: rs, ps, h => by
    rw [resParts] at h
    split at h
    · rename_i p q h1 h2
      cases h
      obtain ⟨u,hu,hp⟩:=resPart_run ok hS h1
      obtain ⟨us,hus,hps⟩:=resParts_run ok hS h2
      refine ⟨u::us,?_,.cons hp hps⟩
      rw [List.mapM_cons]
      simp [hu,hus]
    · cases h
theorem results_eq (fn:Func) (tm:Array Value):results fn tm=(do let vs ← fn.results.toList.mapM (resOne tm);pure (if h:vs.length=1 then vs[0] else .tuple vs.toArray)):=by
  have key:∀ (g:ResultVar→Sem Value),g=resOne tm→(do let vs ← fn.results.mapM g;pure (if h:vs.size=1 then vs[0] else .tuple vs):Sem Value)=(do let vs ← fn.results.toList.mapM (resOne tm);pure (if h:vs.length=1 then vs[0] else .tuple vs.toArray)):=by
    intro g hg
    subst hg
    rw [Array.mapM_eq_mapM_toList]
    simp only [bind_map_left]
    congr 1
  unfold results
  exact key _ (funext fun r=>by cases r<;>rfl)
theorem res_run0 (ok:CxOk P X) {fn:Func} {β:Nat→Nat} (hS:Sat base w0 n β s a w) {r:CR} (h:resCR0 X fn.results.toList s=some r):∃ u,(results fn a.tmps).run P w = .ok u w∧r.toldN (base+β eraK) w0 w u:=by
  rw [results_eq]
  have one:∀ rv u,fn.results.toList=[rv]→(resOne a.tmps rv).run P w = .ok u w→(do let vs ← fn.results.toList.mapM (resOne a.tmps);pure (if h:vs.length=1 then vs[0] else .tuple vs.toArray):Sem Value).run P w = .ok u w:=by
    intro rv u he hr
    rw [he]
    simp [hr]
  unfold resCR0 at h
  split at h
  · rename_i t hres
    split at h
    · rename_i c hg
      cases h
      exact ⟨_,one _ _ hres rfl,hS.tm t _ hg⟩
    · rename_i cs hg
      cases h
      exact ⟨_,one _ _ hres rfl,hS.tm t _ hg⟩
    · rename_i b k sz hg
      split at h
      · rename_i ty l hT hl
        cases h
        obtain ⟨c,hu,hc⟩:=hS.tm t _ hg
        obtain ⟨h1,arr,ha,hok,hcs⟩:=hS.box b ty hT
        refine ⟨_,one _ _ hres rfl,β b,c,arr,hu,hc,by rw [← hS.base_eq];exact h1,ha,hok,fun off x hx=>?_⟩
        have h2:=allSome_get hl
        have h3:=congrArg (fun t=>t[off]?) h2
        have hlt:off<k*sz:=by
          have:=(List.getElem?_eq_some_iff.1 hx).1
          have h4:=congrArg List.length h2
          simp [span] at h4
          omega
        simp only [span,List.map_map,List.getElem?_map,hx] at h3
        rw [List.getElem?_range' (by omega)] at h3
        simp only [Option.map_some,Function.comp,Nat.zero_add,Nat.one_mul,Option.some.injEq] at h3
        exact hcs off x h3
      · cases h
    · rename_i b k sz _ hg
      split at h
      · rename_i ty l hT hl
        cases h
        obtain ⟨c,_,hu,hc,_⟩:=hS.tm t _ hg
        obtain ⟨h1,arr,ha,hok,hcs⟩:=hS.box b ty hT
        refine ⟨_,one _ _ hres rfl,β b,c,arr,hu,hc,by rw [← hS.base_eq];exact h1,ha,hok,fun off x hx=>?_⟩
        have h2:=allSome_get hl
        have h3:=congrArg (fun t=>t[off]?) h2
        have hlt:off<k*sz:=by
          have:=(List.getElem?_eq_some_iff.1 hx).1
          have h4:=congrArg List.length h2
          simp [span] at h4
          omega
        simp only [span,List.map_map,List.getElem?_map,hx] at h3
        rw [List.getElem?_range' (by omega)] at h3
        simp only [Option.map_some,Function.comp,Nat.zero_add,Nat.one_mul,Option.some.injEq] at h3
        exact hcs off x h3
      · cases h
    · cases h
  · rename_i rv _ hres
    split at h
    · rename_i p hp
      split at h
      · rename_i x hx
        cases h
        obtain ⟨u,h1,h2⟩:=resPart_run ok hS hp
        refine ⟨u,one _ _ hres h1,?_⟩
        unfold ofPart at hx
        split at hx
        · cases hx;exact h2
        · cases hx
          obtain ⟨c',e',hc'⟩:=h2
          cases e'
          exact hc'
        · cases hx
      · cases h
    · cases h
  · rename_i hne1 hne2
    split at h
    · rename_i l hl
      cases h
      obtain ⟨us,h1,h2⟩:=resParts_run ok hS hl
      refine ⟨.tuple us.toArray,?_,us,rfl,h2⟩
      have hlen:us.length≠1:=by
        intro h3
        have h4:=All2.length h2
        have:∀ {rs:List ResultVar} {ps},resParts X s rs=some ps→rs.length=ps.length:=by
          intro rs
          induction rs with
          | nil=>intro ps h;cases h;rfl
          | cons r rs ih =>
            intro ps h
            rw [resParts] at h
            split at h
            · rename_i p q e1 e2;cases h;simp [ih e2]
            · cases h
        have h5:=this hl
        rw [h4,h3] at h5
        match hrs:fn.results.toList,h5 with
        | [rv],_=>exact hne2 rv hrs
      rw [Sem.run_bind,h1]
      simp [hlen]
    · cases h
theorem told_of_N {N:Nat} {r:CR} {u:Value} (h:r.toldN N w0 w u) (hN:w0.heap.size≤N) (hno:r.noOs=true):r.told w0 w u:=by
  cases r with
  | tv x=>exact (plain_reads (β':=fun _=>0) (b':=w0.heap.size) hno h (by simpa using hN)).1
  | new ty n sz cs =>
    obtain ⟨g,cap,arr,h1,h2,h3,h4,h5,h6⟩:=h
    refine ⟨g,cap,arr,h1,h2,h3,h4,h5,fun off c hc=>?_⟩
    obtain ⟨x,hx,hr⟩:=h6 off c hc
    exact ⟨x,hx,A0.lower hr hN (List.all_eq_true.1 hno c (List.mem_of_getElem? hc))⟩
theorem res_run (ok:CxOk P X) {fn:Func} {β:Nat→Nat} (hS:Sat base w0 n β s a w) {r:CR} (h:resCR X fn.results.toList s=some r):∃ u,(results fn a.tmps).run P w = .ok u w∧r.told w0 w u:=by
  unfold resCR at h
  split at h
  · rename_i r' hr
    split at h
    · rename_i hno
      cases h
      obtain ⟨u,h1,h2⟩:=res_run0 ok hS hr
      exact ⟨u,h1,told_of_N h2 (by rw [← hS.base_eq];omega) hno⟩
    · cases h
  · cases h
theorem fn_sound (ok:CxOk2 P X) (hmo:P.follows .mixedOrders=true) {fid:FuncId} {fn:Func} {c:Code} (hf:P.funcs[fid]?=some fn) (hb:fn.body=some c) {ays:List TV} {us:List Value} {w:World} (f:Nat) (R:CR→Prop)
    (hr:ays.all (fun x=>x.refs.isEmpty)=true) (hn:ays.length≤fn.ntmps) (h:vc X fn.ntmps f c (fun s=>∃ r,resCR X fn.results.toList s=some r∧R r) (fun _ _=>False) (fun s=>∃ r,resCR X fn.results.toList s=some r∧R r) (st0 ays))
    (hargs:All2 (TV.reads (fun _=>0) w.heap.size w) ays us):Calls P fid us.toArray w fun e w'=>∃ r,R r∧∃ u,e = .returned u∧r.told w w' u∧Below w.heap.size w w':=by
  refine calls_of_wp hf hb ?_
  have hS:=sat0 hargs hr (n:=fn.ntmps) (by rw [← All2.length hargs];exact hn)
  have fin:∀ (s:St) (a:Act) (w':World),(∃ r,resCR X fn.results.toList s=some r∧R r)→SatE w.heap.size w fn.ntmps s a w'→a.defers=[]∧∃ v,(results fn a.tmps).run P w' = .ok v w'∧∃ r,R r∧∃ u,Ending.returned v = .returned u∧r.told w w' u∧Below w.heap.size w w':=by
    rintro s a w' ⟨r,hr1,hr2⟩ ⟨β,hS⟩
    obtain ⟨u,h1,h2⟩:=res_run ok.toCxOk hS hr1
    exact ⟨hS.defers,u,h1,r,hr2,u,rfl,h2,hS.below⟩
  exact vc_sound ok hmo f c _ _ _ _ _ _ _ h hS (fun s a w' hk hS=>fin s a w' hk hS) (fun id s a w' hk=>hk.elim) (fun s a w' hk hS=>fin s a w' hk hS)
end
def fieldsOk (P:Program) (fs:Array Field):Bool:=fs.toList.all fun f=>match P.info? f.type,P.underlying f.type with
  | some inf,some _=>inf.size != 0
  | _,_=>false
def descAgg:TypeDesc→Bool
  | .struct _=>true
  | .array _ _=>true
  | _=>false
def descOffs (P:Program):TypeDesc→List (Nat × TypeId)
  | .struct fs=>if fieldsOk P fs then fs.toList.map fun f=>(f.offset,f.type) else []
  | _=>[]
def descOk (P:Program):TypeDesc→Bool
  | .struct fs=>fieldsOk P fs
  | _=>true
def descInt:TypeDesc→Option IntKind
  | .int k=>some k
  | _=>none
def descElt:TypeDesc→Option (Option Nat × TypeId)
  | .slice e=>some (none,e)
  | .array n e=>some (some n,e)
  | _=>none
def descBl:TypeDesc→Bool
  | .bool=>true
  | _=>false
def zeroOf (inf:TypeInfo):Option (List A0) :=
  match inf.zero with
  | some z=>if z.cells.toList.all okCell then some (z.cells.toList.map A0.v) else none
  | none=>none
def tiOf (P:Program) (ints:List TypeId) (T:TypeId):TIn :=
  match P.info? T,P.underlying T with
  | some inf,some d=>{ agg:=descAgg d,size:=inf.size,zero:=if descOk P d then (if ints.contains T then some [.neg 0,.mag 0] else zeroOf inf) else none,offs:=descOffs P d,int:=descInt d,elt:=descElt d,bl:=descBl d,bytes:=inf.bytes }
  | _,_=>{ agg:=false,size:=0 }
def intB (P:Program) (T:TypeId):Bool :=
  match P.info? T with
  | some inf=>match inf.zero with
    | some (.agg ⟨[.bool false,.slice none 0 0]⟩)=>true
    | _=>false
  | none=>false
def intsOk (P:Program) (ints:List TypeId):Prop:=ints.all (intB P)=true
theorem intsOk_at {P:Program} {ints:List TypeId} (h:intsOk P ints):∀ T∈ints,∃ inf z,P.info? T=some inf∧inf.zero=some z∧z.cells=([.bool false,.slice none 0 0]:List Value).toArray:=by
  intro T hT
  have:=List.all_eq_true.1 h T hT
  unfold intB at this
  split at this
  · rename_i inf hi
    split at this
    · rename_i hz;exact ⟨inf,_,hi,hz,rfl⟩
    · cases this
  · cases this
theorem all2_v {base:Nat} {w:World}:∀ us:List Value,All2 (A0.reads base w) (us.map A0.v) us
  | [] => .nil
  | u::us => .cons rfl (all2_v us)
theorem lm_zero:lm 0=[]:=limbs_zero
theorem tiOf_ok (P:Program) {ints:List TypeId} (hi:intsOk P ints) (T:TypeId):TOk P T (tiOf P ints T):=by
  unfold tiOf
  split
  · rename_i inf d hinf hd
    refine { size:=fun _=>⟨inf,hinf,rfl⟩,agg:=fun _=>?_,zero:=fun zs hz=>?_,offs:=fun j o ft h=>?_,int:=fun k h=>?_,slc:=fun e h=>?_,arr:=fun m e h=>?_,bl:=fun h=>?_,bts:=fun _ inf' h'=>by rw [hinf] at h';cases h';rfl }
    · funext w
      simp only [isAgg,Sem.run_bind,run_underlying hd,Result.andThen_ok]
      cases d<;>rfl
    · simp only at hz
      split at hz
      · split at hz
        · rename_i hc
          cases hz
          obtain ⟨inf',z,h1,h2,h3⟩:=intsOk_at hi T (List.contains_iff_mem.1 hc)
          rw [hinf] at h1;cases h1
          refine ⟨inf,z,_,hinf,h2,h3,fun _ w => .cons rfl (.cons ⟨none,0,by rw [lm_zero];rfl,by rw [lm_zero];exact ⟨Nat.le_refl _,Kd.C_nil _ _⟩⟩ .nil),rfl⟩
        · unfold zeroOf at hz
          split at hz
          · rename_i z hz0
            split at hz
            · rename_i hall
              cases hz
              exact ⟨inf,z,z.cells.toList,hinf,hz0,by simp,fun _ w=>all2_v _,hall⟩
            · cases hz
          · cases hz
      · cases hz
    · simp only at h
      cases d with
      | struct fs =>
        simp only [descOffs] at h
        split at h
        · rename_i hfo
          rw [List.getElem?_map,Option.map_eq_some_iff] at h
          obtain ⟨f,hf,he⟩:=h
          cases he
          have:=List.all_eq_true.1 hfo f (List.mem_of_getElem? hf)
          split at this
          · rename_i inf' d' hi' hd'
            exact ⟨fs,f,inf',hd,by simpa using hf,rfl,rfl,hi',by simpa using this⟩
          · cases this
        · simp at h
      | _=>simp [descOffs] at h
    · cases d<;>simp only [descInt] at h<;>first|(cases h;exact hd)|cases h
    · cases d<;>simp only [descElt] at h<;>first|(cases h;exact hd)|cases h
    · cases d<;>simp only [descElt] at h<;>first|(cases h;exact hd)|cases h
    · cases d<;>simp only [descBl] at h<;>first|exact hd|cases h
  · refine { size:=fun h=>absurd rfl h,agg:=fun h=>absurd rfl h,zero:=(fun zs h=>by cases h),offs:=(fun j o ft h=>by simp at h),int:=(fun k h=>by cases h),slc:=(fun e h=>by cases h),arr:=(fun m e h=>by cases h),bl:=(fun h=>by cases h),bts:=fun h=>absurd rfl h }
structure Con (P:Program) where
  f:FuncId
  sem:List TV→Option (Prop × CR)
  ok : ∀ args p r, sem args = some (p, r) → p → (∃ fn, P.funcs[f]? = some fn ∧ (fn.name == "runtime.NumGoroutine") = false ∧ fn.body.isNone = false) ∧
    ∀ (us:List Value) w,All2 (TV.reads (fun _=>0) w.heap.size w) args us→Calls P f us.toArray w fun e w'=>∃ u,e = .returned u∧r.told w w' u∧Below w.heap.size w w'
structure EqT (P:Program) where
  T:TypeId
  f:List A0→List A0→Option Bool
  ok:∀ xs ys z,f xs ys=some z→∀ base us vs w x y,All2 (A0.reads base w) xs us→All2 (A0.reads base w) ys vs →
    (eqGuard .eql T x y (.agg us.toArray) (.agg vs.toArray)).run P w = .ok () w∧(eqGuard .neq T x y (.agg us.toArray) (.agg vs.toArray)).run P w = .ok () w∧(Op.equal T (.agg us.toArray) (.agg vs.toArray)).run P w = .ok z w
def lookK {P:Program}:List (Con P)→FuncId→List TV→Option (Prop × CR)
  | [],_,_=>none
  | c::r,f,ays=>if f=c.f then c.sem ays else lookK r f ays
def lookE {P:Program}:List (EqT P)→TypeId→List A0→List A0→Option Bool
  | [],_,_,_=>none
  | c::r,T,xs,ys=>if T=c.T then c.f xs ys else lookE r T xs ys
structure ConW (P:Program) where
  f:FuncId
  k:Nat
  sem:List A0→List TV→Option (Prop × List A0 × TV)
  ok : ∀ cs args p new r, sem cs args = some (p, new, r) → p → (∃ fn, P.funcs[f]? = some fn ∧ (fn.name == "runtime.NumGoroutine") = false ∧ fn.body.isNone = false) ∧
    ∀ (us:List Value) (w:World) (g:Nat) (arr:Array Value) (ty:TypeId),w.heap[g]?=some (.cells arr ty (0,0))→(∀ x∈arr,okCell x=true)→(∀ (i:Nat) (c:A0),cs[i]?=some c→∃ x,arr[i]?=some x∧c.reads w.heap.size w x)→All2 (TV.reads (fun _=>0) w.heap.size w) args us→RetW P f g arr ty us w new r
def lookN {P:Program}:List (ConW P)→FuncId→Nat
  | [],_=>0
  | c::r,f=>if f=c.f then c.k else lookN r f
def lookW {P:Program}:List (ConW P)→FuncId→List A0→List TV→Option (Prop × List A0 × TV)
  | [],_,_,_=>none
  | c::r,f,cs,ays=>if f=c.f then c.sem cs ays else lookW r f cs ays
def cxOfW (P:Program) (ints:List TypeId) (es:List (EqT P)) (cs:List (Con P)) (ws:List (ConW P)):Cx:={ ti:=tiOf P ints,K:=lookK cs,eqs:=lookE es,kn:=lookN ws,KW:=lookW ws }
abbrev cxOf (P:Program) (ints:List TypeId) (es:List (EqT P)) (cs:List (Con P)):Cx:=cxOfW P ints es cs []
theorem lookW_ok {P : Program} : ∀ {ws : List (ConW P)} {f : FuncId} {cs : List A0} {ays : List TV} {p : Prop} {new : List A0} {r : TV}, lookW ws f cs ays = some (p, new, r) → p → (∃ fn, P.funcs[f]? = some fn ∧ (fn.name == "runtime.NumGoroutine") = false ∧ fn.body.isNone = false) ∧
    ∀ (us:List Value) (w:World) (g:Nat) (arr:Array Value) (ty:TypeId),w.heap[g]?=some (.cells arr ty (0,0))→(∀ x∈arr,okCell x=true)→(∀ (i:Nat) (c:A0),cs[i]?=some c→∃ x,arr[i]?=some x∧c.reads w.heap.size w x)→All2 (TV.reads (fun _=>0) w.heap.size w) ays us→RetW P f g arr ty us w new r
  | [],f,cs,ays,p,new,r,h,_=>by cases h
  | c::ws,f,cs,ays,p,new,r,h,hp=>by
    rw [lookW] at h
    split at h
    · rename_i e;subst e;exact c.ok cs ays p new r h hp
    · exact lookW_ok h hp
theorem lookK_ok {P : Program} : ∀ {cs : List (Con P)} {f : FuncId} {ays : List TV} {p : Prop} {r : CR}, lookK cs f ays = some (p, r) → p → (∃ fn, P.funcs[f]? = some fn ∧ (fn.name == "runtime.NumGoroutine") = false ∧ fn.body.isNone = false) ∧
    ∀ (us:List Value) w,All2 (TV.reads (fun _=>0) w.heap.size w) ays us→Calls P f us.toArray w fun e w'=>∃ u,e = .returned u∧r.told w w' u∧Below w.heap.size w w'
  | [],f,ays,p,r,h,_=>by cases h
  | c::cs,f,ays,p,r,h,hp=>by
    rw [lookK] at h
    split at h
    · rename_i e;subst e;exact c.ok ays p r h hp
    · exact lookK_ok h hp
theorem lookE_ok {P:Program}:∀ {es:List (EqT P)} {T:TypeId} {xs ys:List A0} {z:Bool},lookE es T xs ys=some z→∀ base us vs w x y,All2 (A0.reads base w) xs us→All2 (A0.reads base w) ys vs →
    (eqGuard .eql T x y (.agg us.toArray) (.agg vs.toArray)).run P w = .ok () w∧(eqGuard .neq T x y (.agg us.toArray) (.agg vs.toArray)).run P w = .ok () w∧(Op.equal T (.agg us.toArray) (.agg vs.toArray)).run P w = .ok z w
  | [],T,xs,ys,z,h=>by cases h
  | c::cs,T,xs,ys,z,h=>by
    rw [lookE] at h
    split at h
    · rename_i e;subst e;exact c.ok xs ys z h
    · exact lookE_ok h
theorem cxOkW (P:Program) {ints:List TypeId} (hi:intsOk P ints) (es:List (EqT P)) (cs:List (Con P)) (ws:List (ConW P)):CxOk2 P (cxOfW P ints es cs ws) where
  ty:=tiOf_ok P hi
  call:=fun f args p r h hp=>lookK_ok h hp
  callW:=fun f cs args p new r h hp=>lookW_ok h hp
  eqs:=fun T xs ys z h=>lookE_ok h
  bld := by
    intro T w hag helt hz
    show ∃ fs,_
    simp only [cxOfW] at hag helt hz ⊢
    unfold tiOf at hag helt hz ⊢
    split at hag
    · rename_i inf d hinf hd
      simp only [hinf,hd] at helt hz ⊢
      cases d with
      | struct fs =>
        have hfo:fieldsOk P fs=true:=by
          cases hc:fieldsOk P fs with
          | true=>rfl
          | false=>simp [descOk,hc] at hz
        refine ⟨fs,rfl,(fs.toList.map fun f=>(f.offset,((P.info? f.type).map (·.size)).getD 0)).toArray,?_,fun i=>?_⟩
        · rw [Array.mapM_eq_mapM_toList]
          have key:∀ l:List Field,(l.all fun f=>match P.info? f.type,P.underlying f.type with|some inf,some _=>inf.size != 0|_,_=>false)=true→(l.mapM (fun f=>do pure (f.offset,← sizeOf f.type)):Sem (List (Nat × Nat))).run P w = .ok (l.map fun f=>(f.offset,((P.info? f.type).map (·.size)).getD 0)) w:=by
            intro l
            induction l with
            | nil=>intro _;rfl
            | cons f l ih =>
              intro h
              rw [List.all_cons,Bool.and_eq_true] at h
              have h1:=h.1
              split at h1
              · rename_i inf' d' hi' hd'
                rw [List.mapM_cons]
                simp only [Sem.run_bind,run_sizeOf' hi',Result.andThen_ok,Sem.run_pure,ih h.2,List.map_cons,hi',Option.map_some,Option.getD_some]
              · cases h1
          rw [Sem.run_map,key _ hfo];rfl
        · simp only [descOffs,hfo,if_true,List.getElem?_toArray,List.getElem?_map,Option.map_map]
          cases hf:fs.toList[i]? with
          | none=>rfl
          | some f =>
            simp only [Option.map_some,Function.comp]
            congr 2
            have:=List.all_eq_true.1 hfo f (List.mem_of_getElem? hf)
            split at this
            · rename_i inf' d' hi' hd'
              simp only [hi',hd',Option.map_some,Option.getD_some]
            · cases this
      | array m e=>simp [descElt] at helt
      | _=>simp [descAgg] at hag
    · cases hag
  all:=by
    intro T h
    simp only [cxOfW] at h
    unfold tiOf at h
    split at h
    · rename_i inf d hinf hd;rw [hd];rfl
    · exact absurd rfl h
theorem cxOk (P:Program) {ints:List TypeId} (hi:intsOk P ints) (es:List (EqT P)) (cs:List (Con P)):CxOk2 P (cxOf P ints es cs):=cxOkW P hi es cs []
def FOk (P : Program) (f : FuncId) : Prop := ∃ fn, P.funcs[f]? = some fn ∧ (fn.name == "runtime.NumGoroutine") = false ∧ fn.body.isNone = false
def ivl (x:Int) (A:Option Addr) (c:Nat):Value := .agg #[.bool (sgn x),.slice A (lm x).length c]
abbrev tI (x:Int):TV := .agg [.neg x,.mag x]
theorem told_int {w:World} {β:Nat→Nat} {b:Nat} {x:Int} {A:Option Addr} {c:Nat} (h:Rd w (lm x) A c):(tI x).reads β b w (ivl x A c):=⟨[_,_],rfl,.cons rfl (.cons ⟨A,c,rfl,h⟩ .nil)⟩
theorem all2_1 {α β:Type} {R:α→β→Prop} {x:α} {us:List β} (h:All2 R [x] us):∃ u,us=[u]∧R x u:=by
  cases h with|cons h1 h2=>cases h2;exact ⟨_,rfl,h1⟩
theorem all2_2 {α β:Type} {R:α→β→Prop} {x y:α} {us:List β} (h:All2 R [x,y] us):∃ u v,us=[u,v]∧R x u∧R y v:=by
  cases h with|cons h1 h2=>cases h2 with|cons h2 h3=>cases h3;exact ⟨_,_,rfl,h1,h2⟩
theorem all2_3 {α β:Type} {R:α→β→Prop} {x y z:α} {us:List β} (h:All2 R [x,y,z] us):∃ u v t,us=[u,v,t]∧R x u∧R y v∧R z t:=by
  cases h with|cons h1 h2=>cases h2 with|cons h2 h3=>cases h3 with|cons h3 h4=>cases h4;exact ⟨_,_,_,rfl,h1,h2,h3⟩
def Ret (P:Program) (f:FuncId) (us:Array Value) (w:World) (r:CR):Prop:=Calls P f us w fun e w'=>∃ u,e = .returned u∧r.told w w' u∧Below w.heap.size w w'
theorem Ret.of {P:Program} {f:FuncId} {us:Array Value} {w:World} {r:CR} {R:Ending→World→Prop} (h:Calls P f us w R) (hr:∀ e w',R e w'→∃ u,e = .returned u∧r.told w w' u∧Below w.heap.size w w'):Ret P f us w r:=h.mono hr
theorem Ret.int {P:Program} {f:FuncId} {us:Array Value} {w:World} {z:Int} (h:Calls P f us w fun e w'=>∃ A c,e = .returned (ivl z A c)∧Rd w' (lm z) A c∧Below w.heap.size w w'):Ret P f us w (.tv (tI z)) :=
  h.mono fun _ _ ⟨A,c,he,hr,hb⟩=>⟨_,he,told_int (β:=fun _=>0) (b:=_) hr,hb⟩
theorem Ret.val {P:Program} {f:FuncId} {us:Array Value} {w:World} {v:Value} (h:Calls P f us w fun e w'=>e = .returned v∧Below w.heap.size w w'):Ret P f us w (.tv (.sc (.v v))) :=
  h.mono fun _ _ ⟨he,hb⟩=>⟨_,he,rfl,hb⟩
section
variable {P:Program}
theorem told_of {P:Program} {f:FuncId} {us:Array Value} {w:World} {r:CR} (h:Calls P f us w fun e w'=>∃ r',r'=r∧∃ u,e = .returned u∧r'.told w w' u∧Below w.heap.size w w'):Ret P f us w r :=
  h.mono fun _ _ ⟨_,hr,h⟩=>by rw [← hr];exact h
theorem fn_ret {X:Cx} (ok:CxOk2 P X) (hmo:P.follows .mixedOrders=true) {fid:FuncId} {fn:Func} {c:Code} (hf:P.funcs[fid]?=some fn) (hb:fn.body=some c) {xs:List TV} {us:List Value} {w:World} (f:Nat) (r:CR)
    (hr:xs.all (fun x=>x.refs.isEmpty)=true) (hn:xs.length≤fn.ntmps) (h:vc X fn.ntmps f c (fun s=>resCR X fn.results.toList s=some r) (fun _ _=>False) (fun s=>resCR X fn.results.toList s=some r) (st0 xs))
    (hargs:All2 (TV.reads (fun _=>0) w.heap.size w) xs us):Ret P fid us.toArray w r:=by
  have e:(fun s=>resCR X fn.results.toList s=some r)=fun s=>∃ r',resCR X fn.results.toList s=some r'∧r'=r:=by
    funext s
    exact propext ⟨fun h=>⟨r,h,rfl⟩,fun ⟨_,h,he⟩=>he ▸ h⟩
  rw [e] at h
  exact told_of (fn_sound ok hmo hf hb f (fun r'=>r'=r) hr hn h hargs)
end
end Go.Proofs.YtaeabemipnbgbaaW.Sx
end
section
set_option linter.unusedVariables false
set_option linter.unusedSimpArgs false
namespace Go.Proofs.Ytaeabemipnbgbaa.Cmd
open Go RowKit YtaeabemipnbgbaaW.PrintWords YtaeabemipnbgbaaW.PrintMore YtaeabemipnbgbaaW.Aid YtaeabemipnbgbaaW.Big YtaeabemipnbgbaaW.Sx
theorem i64w (n:Int):IntKind.i64.wrap n=wrap64 n:=by unfold wrap64;exact IntKind.wrap_i64 n
theorem i5:∃ i,Try.prog.info? 5=some i∧i.size=1:=by
  have h:(Try.prog.info? 5).map (fun i=>i.size)=some 1:=by kernel_rfl
  obtain ⟨i,h1,h2⟩:=Option.map_eq_some_iff.1 h
  exact ⟨i,h1,h2⟩
def tkl:Nat→Int→List Int→Int→Option Int
  | 0,_,_,_=>none
  | k+1,x,s,i=>if i<(s.length:Int) then (if 0≤i then tkl k (Go.bits .or .u64 (IntKind.u64.wrap (x*256)) (IntKind.u64.wrap (rd s i))) s (wrap64 (i+1)) else none) else some x
set_option maxHeartbeats 8000000 in
set_option maxRecDepth 100000 in
theorem tki_yes (k:Nat) (l:List Int) (n x:Int) (A:Option Addr) (c g:Nat) (arr:Array Value) (ty:TypeId) (w:World) (hb:w.heap[g]?=some (.cells arr ty (0,0))) (h0:arr[0]?=some (.slice A l.length c)) (h1:arr[1]?=some (.bool true)) (hr:Kd.C (Kd.int .u8) w A l.length l) (hc:l.length≤c) (hn0:0≤n) (hn:n≤(l.length:Int)) (h:tkl k 0 (l.take n.toNat) 0=some x) :
    Calls Try.prog 73 #[.pointer (some ⟨g,0,none⟩),.int .i64 n] w fun e w'=>e = .returned (.int .i64 (IntKind.i64.wrap x))∧∃ A' c' m m',(l.drop n.toNat).length≤c'∧(∀ W:World,Kd.C (Kd.int .u8) W A l.length l→Kd.C (Kd.int .u8) W A' (l.drop n.toNat).length (l.drop n.toNat))∧w'=((w.drewN m).setCell ⟨g,0,none⟩ (.slice A' (l.drop n.toNat).length c')).drewN m':=by
  obtain ⟨i0,hi0,hsz⟩:=i5
  obtain ⟨hcut,hA8,hC8⟩:=print_take_int (P:=Try.prog) (k := .u8) 25 5 Try.underlying25 hi0 hsz A c l n hn0 hn hc
  obtain ⟨A',hcut2,hA9,hC9⟩:=print_cut_int (P:=Try.prog) (k := .u8) 25 5 Try.underlying25 hi0 hsz A c l n hn0 hn hc
  have hA9':∀ W:World,Kd.C (Kd.int .u8) W A l.length l→Kd.C (Kd.int .u8) W A' (l.drop n.toNat).length (l.drop n.toNat):=fun W h=>Kd.C_of_reads (h1:=fun _=>rfl) (hA9 _ (Kd.reads_of_C h))
  have HA9:=Aside0.mk hA9'
  have HC9:=Aside0.mk hC9
  have HR:=Aside0.mk (Kd.C_of_reads (h1:=fun _=>rfl) (hA8 _ (Kd.reads_of_C hr)))
  clear hA8 hC8 hA9 hA9' hC9 hi0 hsz
  obtain ⟨s_,hs_⟩:∃ s_,l.take n.toNat=s_:=⟨_,rfl⟩
  rw [hs_] at hcut HR h
  obtain ⟨d_,hd_⟩:∃ d_,l.drop n.toNat=d_:=⟨_,rfl⟩
  rw [hd_] at hcut2 HC9
  have HA9':=Aside0.mk HA9.out
  rw [hd_] at HA9' ⊢
  clear HA9
  have H':=Aside0.mk h
  have HL:=Aside0.mk hs_
  clear h hr hs_ hd_
  have c0:w.cell? ⟨g,0,none⟩=some (.slice A l.length c):=(blk_cell hb 0).trans h0
  have c1:w.cell? ⟨g,1,none⟩=some (.bool true):=(blk_cell hb 1).trans h1
  have f0:=blk_frozen hb 0
  have hd:decide ((l.length:Int)<n)=false:=decide_eq_false (by omega)
  clear hb h0 h1 hc hn hn0
  go_enter Try.func73,Try.ntmps73
  go_wp2
  go_loopg [5,32] k (fun kq v5 v32 w'=>∃ (x5:Int) (x32:Int),v5 = .int .u64 x5∧v32 = .int .i64 x32∧Aside0 (tkl kq x5 s_ x32=some x)∧Aside0 (kq≤k)∧Drawn0 w w')
  case atStart=>exact ⟨(0),(0),(by first|rfl|(simp;done)|(simp [*];done)),(by first|rfl|(simp;done)|(simp [*];done)),H',⟨Nat.le_refl _⟩,by repeat (first|exact Drawn0.refl _|apply Drawn0.step)⟩
  case round =>
    clear H'
    obtain ⟨x5,x32,rfl,rfl,HA,HK1,⟨m1,rfl⟩⟩:=hrel
    cases gk with
    | zero=>exact absurd HA.out (by simp [tkl])
    | succ k1 =>
      have H:=HA.out
      clear HA
      simp only [tkl] at H
      by_cases c9:x32<(s_.length:Int)
      · rw [if_pos c9] at H
        have c9b0:decide (x32<(s_.length:Int))=true:=decide_eq_true c9
        clear c9
        by_cases c10:0≤x32
        · rw [if_pos c10] at H
          have c10b0:decide (0≤x32)=true:=decide_eq_true c10
          clear c10
          have H':=Aside0.mk H
          clear H
          have p197:0≤(x32:Int):=of_decide_eq_true (by first|(with_reducible assumption)|assumption)
          have q197:x32<(s_.length:Int):=of_decide_eq_true (by first|(with_reducible assumption)|assumption)
          obtain ⟨ad197,e197,hx197_0⟩:=Kd.at_int HR.out x32 p197 q197
          cases e197
          replace p197:=eq_true p197
          replace q197:=eq_true q197
          go_wp2
          go_roundg k1
          case measure=>have:=HK1.out;omega
          case rel=>exact ⟨(Go.bits .or .u64 (IntKind.u64.wrap (x5*256)) (IntKind.u64.wrap (rd s_ x32))),(wrap64 (x32+1)),(by first|rfl|(simp;done)|(simp [*];done)),(by first|rfl|(simp;done)|(simp [*];done)),H',⟨by have:=HK1.out;omega⟩,by repeat (first|exact Drawn0.refl _|apply Drawn0.step)⟩
        · rw [if_neg c10] at H
          exact absurd H (by simp)
      · rw [if_neg c9] at H
        have c9b0:decide (x32<(s_.length:Int))=false:=decide_eq_false c9
        clear c9
        simp only [Option.some.injEq] at H
        obtain rfl:=H
        go_wp2
        go_ret
        refine ⟨by simp;exact (i64w _).symm,A',_,m1,0,HC9.out,HA9'.out,?_⟩
        rfl
set_option maxHeartbeats 8000000 in
set_option maxRecDepth 100000 in
theorem tki_no (l:List Int) (n:Int) (okb:Bool) (A:Option Addr) (c g:Nat) (arr:Array Value) (ty:TypeId) (w:World) (hb:w.heap[g]?=some (.cells arr ty (0,0))) (h0:arr[0]?=some (.slice A l.length c)) (h1:arr[1]?=some (.bool okb)) (h:okb=false∨(l.length:Int)<n) :
    Calls Try.prog 73 #[.pointer (some ⟨g,0,none⟩),.int .i64 n] w fun e w'=>e = .returned (.int .i64 0)∧w'=w.setCell ⟨g,1,none⟩ (.bool false):=by
  have c0:w.cell? ⟨g,0,none⟩=some (.slice A l.length c):=(blk_cell hb 0).trans h0
  have c1:w.cell? ⟨g,1,none⟩=some (.bool okb):=(blk_cell hb 1).trans h1
  have f0:=blk_frozen hb 1
  clear hb h0 h1
  cases okb with
  | false =>
    clear h
    go_enter Try.func73,Try.ntmps73
    go_wp2
    go_ret
    exact ⟨rfl,rfl⟩
  | true =>
    have hd:decide ((l.length:Int)<n)=true:=decide_eq_true (by simpa using h)
    clear h
    go_enter Try.func73,Try.ntmps73
    go_wp2
    go_ret
    exact ⟨rfl,rfl⟩
end Go.Proofs.Ytaeabemipnbgbaa.Cmd
end
section
set_option linter.unusedVariables false
namespace Go.Proofs.Ytaeabemipnbgbaa.CloneB
open RowKit YtaeabemipnbgbaaW.PrintWords YtaeabemipnbgbaaW.PrintLast YtaeabemipnbgbaaW.PrintMore YtaeabemipnbgbaaW.Aid
theorem info:(Try.prog.info? 5).map (fun i=>(i.zero,i.size,i.bytes))=some (some (.int .u8 0),1,1):=by kernel_rfl
set_option maxRecDepth 10000 in
set_option maxHeartbeats 400000 in
theorem bytes_calls (l:List Int) (A:Option Addr) (c:Nat) (w:World) (hr:Kd.C (Kd.int .u8) w A l.length l) (hle:l.length≤c) (hm:l.length*1≤140737488355328) :
    Calls Try.prog 74 #[.slice A l.length c] w fun e w'=>∃ v,e = .returned v∧Kd.R (Kd.int .u8) 5 w' w.heap.size (fun _=>True) v l∧Below w.heap.size w w':=by
  have HR:=Aside0.mk hr
  have HM:=Aside0.mk hm
  have HL:=Aside0.mk hle
  clear hr hm hle
  cases A with
  | none =>
    have hn1:=Lib.run_eql_slice_nil (P:=Try.prog) w 25 5 none 0 c 0 0 Try.underlying25
    have e:l=[]:=by
      have h:=HR.out.2.2
      by_cases hl:0<l.length
      · obtain ⟨ad,h1,_⟩:=h hl
        cases h1
      · exact List.length_eq_zero_iff.1 (by omega)
    subst e
    go_enter Try.func74,Try.ntmps74
    go_wp2
    go_ret
    exact ⟨.slice none 0 0,rfl,Kd.R_nil _ _ _ _ _,Below.refl _ _⟩
  | some ad =>
    have hn1:=Lib.run_eql_slice_nil (P:=Try.prog) w 25 5 (some ad) l.length c 0 0 Try.underlying25
    go_enter Try.func74,Try.ntmps74
    have h0:Kd.R (Kd.int .u8) 5 (w.alloc (.cells #[] 5)) w.heap.size (fun _=>True) (.slice (some ⟨w.heap.size,0,none⟩) 0 0) [] :=
      Kd.R_of_own ⟨rfl,.inr ⟨w.heap.size,0,#[],rfl,Nat.le_refl _,blk_new _ _,Nat.le_refl _,by decide,rfl,rfl⟩⟩ (fun _ _=>trivial)
    have H0:=Aside0.mk h0
    clear h0
    go_wp2_with (first|((with_reducible refine gate_builtin (b := .append) (xs:=#[.tmp 5,.tmp 6]) rfl ?_);at_builtin;refine Kd.R_append_rows (Kd.int .u8) (w0:=w) w.heap.size rfl (.tmp 5) (.tmp 6) 25 5 (.int .u8 0) 1 rfl Try.underlying25 info rfl (by decide) (by omega) (.slice (some ⟨w.heap.size,0,none⟩) 0 0) [] l _ _ _ (fun _=>True) (fun _=>False) rfl rfl H0.out (Kd.C_alloc HR.out _) (fun _ _ h=>h) (fun _ h=>h.elim) (fun _ _=>trivial) (below_alloc (Below.refl _ _) _) (by simp) (by have:=HM.out;simp;omega) ?_;intro v1 w1 ho hb hg hat;have HO:=Aside0.mk ho;have HB:=Aside0.mk hb;clear ho hb hg hat))
    go_ret
    exact ⟨v1,rfl,HO.out,HB.out⟩
end Go.Proofs.Ytaeabemipnbgbaa.CloneB
end
section
set_option linter.unusedVariables false
set_option linter.unusedSimpArgs false
namespace Go.Proofs.YtaeabemipnbgbaaW.Sx
open Go RowKit YtaeabemipnbgbaaW.PrintWords YtaeabemipnbgbaaW.PrintMore YtaeabemipnbgbaaW.Aid YtaeabemipnbgbaaW.Big
def lookG:List (Nat × TV)→Nat→Option TV
  | [],_=>none
  | (t,x)::r,k=>if k=t then some x else lookG r k
def lookB:List (Nat × TypeId × List A0)→Nat→Option (TypeId × List A0)
  | [],_=>none
  | (b,q)::r,k=>if k=b then some q else lookB r k
def stB (gs:List (Nat × TV)) (bs:List (Nat × TypeId × List A0)):St :=
  { g:=fun t=>lookG gs t,m:=fun b i=>(lookB bs b).bind fun q=>q.2[i]?,T:=fun b=>(lookB bs b).map fun q=>q.1 }
def leG (s:St):List (Nat × TV)→Prop
  | []=>True
  | (t,x)::r=>s.g t=some x∧leG s r
def leM (s:St) (b:Nat):Nat→List A0→Prop
  | _,[]=>True
  | i,c::r=>s.m b i=some c∧leM s b (i+1) r
def leB (s:St):List (Nat × TypeId × List A0)→Prop
  | []=>True
  | (b,q)::r=>s.T b=some q.1∧leM s b 0 q.2∧leB s r
def wfB (gs:List (Nat × TV)) (bs:List (Nat × TypeId × List A0)):Bool:=gs.all fun p=>p.2.refs.all fun b=>(lookB bs b).isSome
theorem leG_at {s:St}:∀ {gs:List (Nat × TV)} {t:Nat} {x:TV},leG s gs→lookG gs t=some x→s.g t=some x
  | (t',y)::r,t,x,h,e=>by
    unfold lookG at e
    split at e
    · rename_i he;cases e;rw [he];exact h.1
    · exact leG_at h.2 e
theorem lookG_mem:∀ {gs:List (Nat × TV)} {t:Nat} {x:TV},lookG gs t=some x→∃ p∈gs,p.2=x
  | (t',y)::r,t,x,e=>by
    unfold lookG at e
    split at e
    · cases e;exact ⟨_,List.mem_cons_self,rfl⟩
    · obtain ⟨p,hp,hx⟩:=lookG_mem e;exact ⟨p,List.mem_cons_of_mem _ hp,hx⟩
theorem leM_at {s:St} {b:Nat}:∀ {cs:List A0} {i j:Nat} {c:A0},leM s b i cs→cs[j]?=some c→s.m b (i+j)=some c
  | c'::r,i,0,c,h,e=>by cases e;exact h.1
  | c'::r,i,j+1,c,h,e=>by
    have:=leM_at (j:=j) h.2 (by simpa using e)
    rw [show i+(j+1)=i+1+j by omega];exact this
theorem leB_at {s:St}:∀ {bs:List (Nat × TypeId × List A0)} {b:Nat} {q:TypeId × List A0},leB s bs→lookB bs b=some q→s.T b=some q.1∧∀ j c,q.2[j]?=some c→s.m b j=some c
  | (b',q')::r,b,q,h,e=>by
    unfold lookB at e
    split at e
    · rename_i he
      cases e
      rw [he]
      exact ⟨h.1,fun j c hc=>by have:=leM_at h.2.1 hc;rwa [Nat.zero_add] at this⟩
    · exact leB_at h.2.2 e
section
variable {P:Program} {X:Cx} {base:Nat} {w0:World} {n:Nat} {s s':St} {a:Act} {w:World} {Q:Exit→Act→World→Prop}
theorem sat_le {β:Nat→Nat} {gs:List (Nat × TV)} {bs:List (Nat × TypeId × List A0)} (h:Sat base w0 n β s a w) (hg:leG s gs) (hb:leB s bs) (hw:wfB gs bs=true):Sat base w0 n β (stB gs bs) a w:=by
  have hT:∀ b ty,(stB gs bs).T b=some ty→s.T b=some ty:=by
    intro b ty e
    obtain ⟨q,hq,rfl⟩:=Option.map_eq_some_iff.1 e
    exact (leB_at hb hq).1
  have hT':∀ b,(stB gs bs).T b≠none→s.T b≠none:=by
    intro b e
    obtain ⟨ty,hty⟩:=Option.ne_none_iff_exists'.1 e
    rw [hT b ty hty];simp
  exact { h with
    tm:=fun t x e=>h.tm t x (leG_at hg e)
    box:=fun b ty e=>by
      obtain ⟨h1,arr,h2,h3,h4⟩:=h.box b ty (hT b ty e)
      refine ⟨h1,arr,h2,h3,fun off c hc=>h4 off c ?_⟩
      obtain ⟨q,hq,hqc⟩:=Option.bind_eq_some_iff.1 hc
      exact (leB_at hb hq).2 off c hqc
    raw:=fun b ty e=>h.raw b ty (hT b ty e)
    has:=fun b off e hn=>by
      apply e
      have:lookB bs b=none:=Option.map_eq_none_iff.1 hn
      show (lookB bs b).bind _=none
      rw [this];rfl
    inj:=fun b b' h1 h2=>h.inj b b' (hT' b h1) (hT' b' h2)
    refs:=fun t x e b hb' hn=>by
      have h1:lookG gs t=some x:=e
      have hmem:=lookG_mem h1
      obtain ⟨p,hp,rfl⟩:=hmem
      have:=List.all_eq_true.1 (List.all_eq_true.1 hw p hp) b hb'
      rw [show lookB bs b=none from Option.map_eq_none_iff.1 hn] at this
      cases this }
structure LI (α:Type) where
  gs:α→List (Nat × TV)
  bs:α→List (Nat × TypeId × List A0)
  I:α→Prop
  μ:α→Nat
def atL {α:Type} (L:LI α) (v:α) (s:St):Prop:=L.I v∧leG s (L.gs v)∧leB s (L.bs v)
end
end Go.Proofs.YtaeabemipnbgbaaW.Sx
end
section
set_option linter.unusedVariables false
set_option linter.unusedSimpArgs false
namespace Go.Proofs.YtaeabemipnbgbaaW.Sx
open Go RowKit YtaeabemipnbgbaaW.PrintWords YtaeabemipnbgbaaW.PrintMore YtaeabemipnbgbaaW.Aid YtaeabemipnbgbaaW.Big
section
variable {P:Program} {X:Cx} {base:Nat} {w0:World} {n:Nat} {s s':St} {a:Act} {w:World} {Q:Exit→Act→World→Prop}
def refsOf (s:St) (ts:List Nat):List Nat:=ts.flatMap fun t=>match s.g t with
  | some x=>x.refs
  | none=>[]
def St.keep (s:St) (ts:List Nat):St :=
  { g:=fun t=>if ts.contains t then s.g t else none
    m:=fun b off=>if (refsOf s ts).contains b then s.m b off else none
    T:=fun b=>if (refsOf s ts).contains b then s.T b else none }
theorem Sat.keep {β:Nat→Nat} (h:Sat base w0 n β s a w) (ts:List Nat):Sat base w0 n β (s.keep ts) a w:=by
  refine h.weaken (fun t x hx=>?_) (fun b o x hx=>?_) (fun b x hx=>?_) (fun t x hx b hb=>?_) (fun b off hm=>?_)
  · simp only [St.keep] at hx
    split at hx
    · exact hx
    · cases hx
  · simp only [St.keep] at hx
    split at hx
    · exact hx
    · cases hx
  · simp only [St.keep] at hx
    split at hx
    · exact hx
    · cases hx
  · simp only [St.keep] at hx ⊢
    split at hx
    · rename_i hc
      rw [if_pos]
      · exact h.refs t x hx b hb
      · rw [List.contains_iff_mem]
        unfold refsOf
        rw [List.mem_flatMap]
        exact ⟨t,List.contains_iff_mem.1 hc,by rw [hx];exact hb⟩
    · cases hx
  · simp only [St.keep] at hm ⊢
    split at hm
    · rename_i hc
      rw [if_pos hc]
      exact h.has b off hm
    · exact absurd rfl hm
end
end Go.Proofs.YtaeabemipnbgbaaW.Sx
end
section
set_option linter.unusedVariables false
set_option linter.unusedSimpArgs false
namespace Go.Proofs.YtaeabemipnbgbaaW.Sx
open Go RowKit YtaeabemipnbgbaaW.PrintWords YtaeabemipnbgbaaW.PrintMore YtaeabemipnbgbaaW.Aid YtaeabemipnbgbaaW.Big
def guardBool (s:St) (ops:List Oper) (j:Nat):Option (Nat × Bool) :=
  match ops[j]? with
  | some oj=>match oj.dst with
    | some t=>match s.g t with
      | some (.sc c)=>match c.val? with
        | some (.bool b)=>some (t,b)
        | _=>none
      | _=>none
    | none=>none
  | none=>none
def St.lit (s:St) (t:Nat) (b:Bool):St:={ s with g:=upd s.g t (some (.sc (.v (.bool b)))) }
def St.skip (s:St) (dst:Option Tmp):St :=
  match dst with
  | some d=>{ s with g:=upd s.g d (some (.cond false (.sc (.v (.bool true))))) }
  | none=>s
def stepChk (X:Cx) (n:Nat) (s:St) (o:Oper) (e:Eff):Bool:=srcOk X o.op&&dstOk n o&&newB s o e
def stp (X:Cx) (n:Nat) (o:Oper) (next:St→Prop) (s:St):Prop :=
  match absR X s o with
  | some e=>stepChk X n s o e=true∧e.pre∧next (s.app o.dst e)
  | none=>False
def dstB (n:Nat) (dst:Option Tmp):Bool:=match dst with
  | some d=>decide (d<n)
  | none=>true
def vops (X:Cx) (n:Nat) (ops:List Oper) (kn:St→Prop):List Oper→St→Prop
  | [],s=>kn s
  | o :: r, s => match o.guard with
    | none=>stp X n o (vops X n ops kn r) s
    | some (j,true)=>match guardBool s ops j with
      | some (t,b)=>(b=true→stp X n o (vops X n ops kn r) (s.lit t true))∧(b=false→dstB n o.dst=true∧vops X n ops kn r ((s.lit t false).skip o.dst))
      | none=>match gcond s ops j true with
        | some false=>dstB n o.dst=true∧vops X n ops kn r (s.skip o.dst)
        | _=>False
    | some (j,false)=>match guardBool s ops j with
      | some (t,b)=>(b=false→stp X n o (vops X n ops kn r) (s.lit t false))∧(b=true→dstB n o.dst=true∧vops X n ops kn r ((s.lit t true).skip o.dst))
      | none=>match gcond s ops j false with
        | some false=>dstB n o.dst=true∧vops X n ops kn r (s.skip o.dst)
        | _=>False
section
variable {P:Program} {X:Cx} {base:Nat} {w0:World} {n:Nat} {s s':St} {a:Act} {w:World} {Q:Exit→Act→World→Prop} {ops:List Oper}
def allocs:Code→List Nat
  | .region _ ops _=>ops.toList.filterMap fun o=>match o.op with
    | .alloc _=>o.dst
    | _=>none
  | .seq a b=>allocs a++allocs b
  | .cond _ a b=>allocs a++allocs b
  | .block _ c=>allocs c
  | .loop c=>allocs c
  | _=>[]
def vcg (X:Cx) (n:Nat) (ts:List Nat):Nat→Code→(St→Prop)→(Nat→St→Prop)→(St→Prop)→St→Prop
  | 0,_,_,_,_,_=>False
  | f+1,.skip,kn,_,_,s=>kn s
  | f+1,.seq x y,kn,ke,kr,s=>vcg X n ts f x (vcg X n ts f y kn ke kr) ke kr s
  | f+1,.region _ ops false,kn,_,_,s=>vops X n ops.toList kn ops.toList s
  | f+1,.region _ ops true,kn,_,_,s=>match effs X ops.toList ops.toList s with
    | some (es,s')=>regChk X n ops.toList true es=true∧pres es∧kn s'
    | none=>False
  | f+1,.cond c x y,kn,ke,kr,s=>match boolOf (getv s.g c) with
    | some b=>(b=true→vcg X n ts f x kn ke kr s)∧(b=false→vcg X n ts f y kn ke kr s)
    | none=>False
  | f+1,.block id c,kn,ke,kr,s=>vcg X n ts f c kn (fun id' s=>if id'=id then kn s else ke id' s) kr s
  | f+1,.loop c,kn,ke,kr,s=>vcg X n ts f c (vcg X n ts f (.loop c) kn ke kr) ke kr (s.keep (ts.filter fun d=>!(allocs c).contains d))
  | f+1,.exit id,_,ke,_,s=>ke id s
  | f+1,.ret,_,_,kr,s=>kr s
  | _+1,_,_,_,_,_=>False
def vcd (X:Cx) (n:Nat) (ts:List Nat):Nat→Code→(St→Prop)→(Nat→St→Prop)→(St→Prop)→St→Prop
  | 0,_,_,_,_,_=>False
  | f+1,.skip,kn,_,_,s=>kn s
  | f+1,.seq x y,kn,ke,kr,s=>vcd X n ts f x (vcd X n ts f y kn ke kr) ke kr s
  | f+1,.region _ ops draw,kn,_,_,s=>match effs X ops.toList ops.toList s with
    | some (es,s')=>regChk X n ops.toList draw es=true∧pres es∧kn s'
    | none=>False
  | f+1,.cond c x y,kn,ke,kr,s=>match boolOf (getv s.g c) with
    | some b=>(b=true→vcd X n ts f x kn ke kr s)∧(b=false→vcd X n ts f y kn ke kr s)
    | none=>False
  | f+1,.block id c,kn,ke,kr,s=>vcd X n ts f c kn (fun id' s=>if id'=id then kn s else ke id' s) kr s
  | f+1,.loop c,kn,ke,kr,s=>vcd X n ts f c (vcd X n ts f (.loop c) kn ke kr) ke kr (s.keep (ts.filter fun d=>!(allocs c).contains d))
  | f+1,.exit id,_,ke,_,s=>ke id s
  | f+1,.ret,_,_,kr,s=>kr s
  | _+1,_,_,_,_,_=>False
theorem vcd_both (ok:CxOk2 P X) (hmo:P.follows .mixedOrders=true) (ts:List Nat):∀ (f:Nat),(∀ (c:Code) (kn:St→Prop) (ke:Nat→St→Prop) (kr:St→Prop) (s:St) (a:Act) (w:World) (Q:Exit→Act→World→Prop),vcd X n ts f c kn ke kr s→SatE base w0 n s a w →
    (∀ s a w,kn s→SatE base w0 n s a w→Q .normal a w)→(∀ id s a w,ke id s→SatE base w0 n s a w→Q (.exit id) a w)→(∀ s a w,kr s→SatE base w0 n s a w→Q .ret a w)→c.wp P Q a w) ∧
    (∀ (c:Code) (kn:St→Prop) (ke:Nat→St→Prop) (kr:St→Prop) (s:St) (a:Act) (w:World) (Q:Exit→Act→World→Prop),vcd X n ts f (.loop c) kn ke kr s→SatE base w0 n s a w →
    (∀ id s a w,ke id s→SatE base w0 n s a w→Q (.exit id) a w)→(∀ s a w,kr s→SatE base w0 n s a w→Q .ret a w)→Code.rounds P c Q f a w):=by
  intro f
  induction f with
  | zero=>exact ⟨(fun c kn ke kr s a w Q h=>by cases h),(fun c kn ke kr s a w Q h=>by cases h)⟩
  | succ f ih =>
    obtain ⟨ihA,ihB⟩:=ih
    have hB:∀ (c:Code) (kn:St→Prop) (ke:Nat→St→Prop) (kr:St→Prop) (s:St) (a:Act) (w:World) (Q:Exit→Act→World→Prop),vcd X n ts (f+1) (.loop c) kn ke kr s→SatE base w0 n s a w →
        (∀ id s a w,ke id s→SatE base w0 n s a w→Q (.exit id) a w)→(∀ s a w,kr s→SatE base w0 n s a w→Q .ret a w)→Code.rounds P c Q (f+1) a w:=by
      intro c kn ke kr s a w Q h hS he hr
      obtain ⟨β,hS⟩:=hS
      exact ihA c _ ke kr _ a w _ h ⟨β,hS.keep _⟩ (fun s a w hk hS=>ihB c kn ke kr s a w Q hk hS he hr) (fun id s a w hk hS=>he id s a w hk hS) (fun s a w hk hS=>hr s a w hk hS)
    refine ⟨?_,hB⟩
    intro c kn ke kr s a w Q h hS hn he hr
    cases c with
    | skip=>exact wp_skip (hn s a w h hS)
    | seq x y =>
      refine wp_seq (ihA x _ ke kr s a w _ h hS (fun s a w hk hS=>ihA y kn ke kr s a w Q hk hS hn he hr) (fun id s a w hk hS=>he id s a w hk hS) (fun s a w hk hS=>hr s a w hk hS))
    | region id ops draw =>
      simp only [vcd] at h
      split at h
      · rename_i es s' heff
        exact region_sound ok hmo heff h.1 h.2.1 hS (fun a w hS'=>hn s' a w h.2.2 hS')
      · cases h
    | cond c x y =>
      simp only [vcd] at h
      split at h
      · rename_i b hb
        refine wp_cond (boolOf_eq hS hb) ?_
        cases b with
        | true=>exact ihA x kn ke kr s a w Q (h.1 rfl) hS hn he hr
        | false=>exact ihA y kn ke kr s a w Q (h.2 rfl) hS hn he hr
      · cases h
    | block id c =>
      refine wp_block (ihA c kn _ kr s a w _ h hS (fun s a w hk hS=>hn s a w hk hS) (fun id' s a w hk hS=>?_) (fun s a w hk hS=>hr s a w hk hS))
      show if id'=id then Q .normal a w else Q (.exit id') a w
      split
      · rename_i e;rw [if_pos e] at hk;exact hn s a w hk hS
      · rename_i e;rw [if_neg e] at hk;exact he id' s a w hk hS
    | loop c=>exact wp_loop_rounds (f+1) (hB c kn ke kr s a w Q h hS he hr)
    | exit id=>exact wp_exit (he id s a w h hS)
    | ret=>exact wp_ret (hr s a w h hS)
    | rangeFunc _ _ _ _=>cases h
    | scope _=>cases h
    | label _=>cases h
    | goto _=>cases h
    | refuse _=>cases h
end
end Go.Proofs.YtaeabemipnbgbaaW.Sx
end
section
set_option linter.unusedVariables false
set_option linter.unusedSimpArgs false
namespace Go.Proofs.YtaeabemipnbgbaaW.Sx
open Go RowKit YtaeabemipnbgbaaW.PrintWords YtaeabemipnbgbaaW.PrintMore YtaeabemipnbgbaaW.Aid YtaeabemipnbgbaaW.Big
def partAt:Code→List Bool→Option Code
  | c,[]=>some c
  | .seq a b,d::p=>if d=true then partAt b p else partAt a p
  | .cond _ a b,d::p=>if d=true then partAt b p else partAt a p
  | .block _ c,_::p=>partAt c p
  | .loop c,_::p=>partAt c p
  | _,_=>none
def bodyAt (fn:Func) (p:List Bool):Option Code:=match fn.body with
  | some c=>partAt c p
  | none=>none
section
variable {P:Program} {X:Cx} {n base:Nat} {w0:World} {c c' x y:Code} {kn kx kn':St→Prop} {ke ke':Nat→St→Prop} {kr kr':St→Prop} {s:St}
def SpecC (P:Program) (n base:Nat) (w0:World) (c:Code) (kn:St→Prop) (ke:Nat→St→Prop) (kr:St→Prop) (s:St):Prop :=
  ∀ (a:Act) (w:World) (Q:Exit→Act→World→Prop),SatE base w0 n s a w→(∀ s a w,kn s→SatE base w0 n s a w→Q .normal a w)→(∀ id s a w,ke id s→SatE base w0 n s a w→Q (.exit id) a w)→(∀ s a w,kr s→SatE base w0 n s a w→Q .ret a w)→c.wp P Q a w
theorem spec_of {o:Option Code} (h:o=some c) (h':o=some c') (k:SpecC P n base w0 c' kn ke kr s):SpecC P n base w0 c kn ke kr s:=by
  rw [h] at h';cases h';exact k
theorem spec_vcd (ok:CxOk2 P X) (hmo:P.follows .mixedOrders=true) (ts:List Nat) (f:Nat) (h:vcd X n ts f c kn ke kr s):SpecC P n base w0 c kn ke kr s :=
  fun a w Q hS hn he hr=>(vcd_both ok hmo ts f).1 c kn ke kr s a w Q h hS hn he hr
theorem spec_seq (h:SpecC P n base w0 x kx ke kr s) (h2:∀ s',kx s'→SpecC P n base w0 y kn ke kr s'):SpecC P n base w0 (.seq x y) kn ke kr s :=
  fun a w Q hS hn he hr=>wp_seq (h a w _ hS (fun s a w hk hS=>h2 s hk a w Q hS hn he hr) (fun id s a w hk hS=>he id s a w hk hS) (fun s a w hk hS=>hr s a w hk hS))
theorem spec_block {id:Nat} (h:SpecC P n base w0 c kn (fun id' s=>if id'=id then kn s else ke id' s) kr s):SpecC P n base w0 (.block id c) kn ke kr s:=by
  intro a w Q hS hn he hr
  refine wp_block (h a w _ hS (fun s a w hk hS=>hn s a w hk hS) (fun id' s a w hk hS=>?_) (fun s a w hk hS=>hr s a w hk hS))
  show if id'=id then Q .normal a w else Q (.exit id') a w
  split
  · rename_i e;exact hn s a w (by simpa [e] using hk) hS
  · rename_i e;exact he id' s a w (by simpa [e] using hk) hS
theorem spec_mono (h:SpecC P n base w0 c kn ke kr s) (h1:∀ s,kn s→kn' s) (h2:∀ id s,ke id s→ke' id s) (h3:∀ s,kr s→kr' s):SpecC P n base w0 c kn' ke' kr' s :=
  fun a w Q hS hn he hr=>h a w Q hS (fun s a w hk hS=>hn s a w (h1 s hk) hS) (fun id s a w hk hS=>he id s a w (h2 id s hk) hS) (fun s a w hk hS=>hr s a w (h3 s hk) hS)
theorem spec_le {gs:List (Nat × TV)} {bs:List (Nat × TypeId × List A0)} (hg:leG s gs) (hb:leB s bs) (hw:wfB gs bs=true) (h:SpecC P n base w0 c kn ke kr (stB gs bs)):SpecC P n base w0 c kn ke kr s:=by
  rintro a w Q ⟨β,hS⟩ hn he hr
  exact h a w Q ⟨β,sat_le hS hg hb hw⟩ hn he hr
theorem spec_loopI {α:Type} (L:LI α) (h:∃ v,atL L v s) (h2:∀ v,L.I v→wfB (L.gs v) (L.bs v)=true∧SpecC P n base w0 c (fun s'=>∃ v',L.μ v'<L.μ v∧atL L v' s') ke kr (stB (L.gs v) (L.bs v))):SpecC P n base w0 (.loop c) kn ke kr s:=by
  intro a w Q hS hn he hr
  obtain ⟨v,hv⟩:=h
  have key:∀ m v s a w,L.μ v<m→atL L v s→SatE base w0 n s a w→Code.rounds P c Q m a w:=by
    intro m
    induction m with
    | zero=>intro v s a w h;exact absurd h (Nat.not_lt_zero _)
    | succ m ih =>
      intro v s a w hm hv hS
      obtain ⟨β,hS⟩:=hS
      have hw:=(h2 v hv.1).1
      have hS':SatE base w0 n (stB (L.gs v) (L.bs v)) a w:=⟨β,sat_le hS hv.2.1 hv.2.2 hw⟩
      exact (h2 v hv.1).2 a w _ hS' (fun s a w hk hS=>by obtain ⟨v',h1,h2⟩:=hk;exact ih v' s a w (by omega) h2 hS) (fun id s a w hk hS=>he id s a w hk hS) (fun s a w hk hS=>hr s a w hk hS)
  exact wp_loop_rounds (L.μ v+1) (key _ v s a w (by omega) hv hS)
def vch (X:Cx) (n:Nat) (ts:List Nat) (f:Nat) (K:St→Prop) (ke:Nat→St→Prop) (kr:St→Prop):Nat→Code→St→Prop
  | 0,_,s=>K s
  | k+1,.seq x y,s=>vcd X n ts f x (vch X n ts f K ke kr k y) ke kr s
  | _+1,_,_=>False
def restOf:Nat→Code→Code
  | 0,c=>c
  | k+1,.seq _ y=>restOf k y
  | _+1,c=>c
theorem spec_vch (ok:CxOk2 P X) (hmo:P.follows .mixedOrders=true) (ts:List Nat) (f:Nat):∀ (k:Nat) (c:Code) (s:St),vch X n ts f kx ke kr k c s→(∀ s',kx s'→SpecC P n base w0 (restOf k c) kn ke kr s')→SpecC P n base w0 c kn ke kr s:=by
  intro k
  induction k with
  | zero=>intro c s h h2;exact h2 s h
  | succ k ih =>
    intro c s h h2
    cases c with
    | seq x y=>exact spec_seq (spec_vcd ok hmo ts f h) (fun s' hk=>ih y s' hk h2)
    | _=>cases h
theorem fns_ret (ok:CxOk2 P X) {fid:FuncId} {fn:Func} (hf:P.funcs[fid]?=some fn) (hb:fn.body=some c) {xs:List TV} {us:List Value} {w:World} (r:CR)
    (hr:xs.all (fun x=>x.refs.isEmpty)=true) (hn:xs.length≤fn.ntmps) (h:SpecC P fn.ntmps w.heap.size w c (fun s=>resCR X fn.results.toList s=some r) (fun _ _=>False) (fun s=>resCR X fn.results.toList s=some r) (st0 xs))
    (hargs:All2 (TV.reads (fun _=>0) w.heap.size w) xs us):Ret P fid us.toArray w r:=by
  refine calls_of_wp hf hb ?_
  have hS:=sat0 hargs hr (n:=fn.ntmps) (by rw [← All2.length hargs];exact hn)
  have fin:∀ (s:St) (a:Act) (w':World),resCR X fn.results.toList s=some r→SatE w.heap.size w fn.ntmps s a w'→a.defers=[]∧∃ v,(results fn a.tmps).run P w' = .ok v w'∧∃ u,Ending.returned v = .returned u∧r.told w w' u∧Below w.heap.size w w':=by
    rintro s a w' hr1 ⟨β,hS⟩
    obtain ⟨u,h1,h2⟩:=res_run ok.toCxOk hS hr1
    exact ⟨hS.defers,u,h1,u,rfl,h2,hS.below⟩
  exact h _ _ _ hS (fun s a w' hk hS=>fin s a w' hk hS) (fun id s a w' hk=>hk.elim) (fun s a w' hk hS=>fin s a w' hk hS)
end
end Go.Proofs.YtaeabemipnbgbaaW.Sx
end
section
set_option linter.unusedVariables false
set_option linter.unusedSimpArgs false
namespace Go.Proofs.YtaeabemipnbgbaaW.Sx
open Go RowKit YtaeabemipnbgbaaW.PrintWords YtaeabemipnbgbaaW.PrintMore YtaeabemipnbgbaaW.Aid YtaeabemipnbgbaaW.Big
def TV.oldT:TV→TV
  | .sc c => .sc c.old
  | .agg cs => .agg (cs.map A0.old)
  | .tup l => .tup (l.map fun p=>(p.1,p.2.map A0.old))
  | x=>x
def TV.eraOk:TV→Bool
  | .cond _ _=>false
  | _=>true
abbrev oldG (gs:List (Nat × TV)):List (Nat × TV):=gs.map fun p=>(p.1,p.2.oldT)
abbrev oldB (bs:List (Nat × TypeId × List A0)):List (Nat × TypeId × List A0):=bs.map fun p=>(p.1,p.2.1,p.2.2.map A0.old)
theorem lookB_mem:∀ {bs:List (Nat × TypeId × List A0)} {b:Nat} {y:TypeId × List A0},lookB bs b=some y→∃ p∈bs,p.2=y
  | (t',q)::r,b,y,e=>by
    unfold lookB at e
    split at e
    · cases e;exact ⟨_,List.mem_cons_self,rfl⟩
    · obtain ⟨p,hp,hx⟩:=lookB_mem e;exact ⟨p,List.mem_cons_of_mem _ hp,hx⟩
theorem lookG_old:∀ (gs:List (Nat × TV)) (t:Nat),lookG (oldG gs) t=(lookG gs t).map TV.oldT
  | [],t=>rfl
  | (t',x)::r,t=>by
    show lookG ((t',x.oldT)::oldG r) t=_
    unfold lookG
    split
    · rfl
    · exact lookG_old r t
theorem lookB_old:∀ (bs:List (Nat × TypeId × List A0)) (b:Nat),lookB (oldB bs) b=(lookB bs b).map fun q=>(q.1,q.2.map A0.old)
  | [],t=>rfl
  | (t',x)::r,t=>by
    show lookB ((t',x.1,x.2.map A0.old)::oldB r) t=_
    unfold lookB
    split
    · rfl
    · exact lookB_old r t
theorem rdk_lt {w:World} {k:IntKind} {l:List Int} {A:Option Addr} {c:Nat} (h:RdK w k l A c) (hl:l≠[]):∀ ad,A=some ad→ad.block<w.heap.size:=by
  intro ad e
  subst e
  have hp:0<l.length:=List.length_pos_iff.2 hl
  obtain ⟨ad',e',hc⟩:=h.2.2.2 hp
  cases e'
  obtain ⟨cs,h1,h2,h3⟩:=hc 0 l[0] (List.getElem?_eq_getElem hp)
  have e2:cs=[.int k l[0]]:=h2
  have h4:=h3 0 (.int k l[0]) (by rw [e2];rfl)
  have:=World.block_lt_of_cell? w _ h4
  have e3:(ad.add (0*(Kd.int k).sz+0)).block=ad.block:=by unfold Addr.add;split<;>rfl
  rw [e3] at this
  exact this
theorem A0.old_reads {N:Nat} {w:World} {c:A0} {u:Value} (h:c.reads N w u) (hN:N≤w.heap.size):c.old.reads w.heap.size w u:=by
  cases c with
  | fs e k l =>
    obtain ⟨hk,he,hr⟩:=h
    obtain ⟨A,c,e1,h1,h2⟩:=Kd.R_reads hr
    exact ⟨hk,A,c,e1,⟨h1,h2⟩,fun hl=>rdk_lt ⟨h1,h2⟩ hl⟩
  | sl k l =>
    obtain ⟨hk,A,c,e1,hr⟩:=h
    exact ⟨hk,A,c,e1,hr,fun hl=>rdk_lt hr hl⟩
  | os k l=>exact A0.raise (c := .os k l) h hN (fun _ _ _ h=>by cases h)
  | _=>exact h
theorem part0_old {N:Nat} {w:World} {x:Bool × List A0} {u:Value} (h:part0 N w x u) (hN:N≤w.heap.size):part0 w.heap.size w (x.1,x.2.map A0.old) u:=by
  obtain ⟨d,cs⟩:=x
  cases d with
  | true=>obtain ⟨us,e,hr⟩:=h;exact ⟨us,e,All2.map_left' _ (fun _ _ h=>A0.old_reads h hN) hr⟩
  | false=>obtain ⟨c,e,hr⟩:=h;subst e;exact ⟨c.old,rfl,A0.old_reads hr hN⟩
section
variable {P:Program} {X:Cx} {n base:Nat} {w0:World} {c c' x y:Code} {kn kx kn':St→Prop} {ke ke':Nat→St→Prop} {kr kr':St→Prop} {s:St}
theorem sat_era {β:Nat→Nat} {gs:List (Nat × TV)} {bs:List (Nat × TypeId × List A0)} {a:Act} {w:World} (h:Sat base w0 n β (stB gs bs) a w) (hk:lookB bs eraK=none) (hc:gs.all (fun p=>p.2.eraOk)=true):SatE base w0 n (stB (oldG gs) (oldB bs)) a w:=by
  have hbase:base≤w.heap.size:=by rw [h.base_eq];exact h.below.size
  refine ⟨upd β eraK (w.heap.size-base),?_⟩
  have hN:base+upd β eraK (w.heap.size-base) eraK=w.heap.size:=by simp only [upd,if_true];omega
  have hT:∀ b,(stB (oldG gs) (oldB bs)).T b=(stB gs bs).T b:=fun b=>by
    show (lookB (oldB bs) b).map _=(lookB bs b).map _
    rw [lookB_old,Option.map_map];rfl
  have hm:∀ b o,(stB (oldG gs) (oldB bs)).m b o=((stB gs bs).m b o).map A0.old:=fun b o=>by
    show (lookB (oldB bs) b).bind (fun q=>q.2[o]?)=((lookB bs b).bind fun q=>q.2[o]?).map A0.old
    rw [lookB_old]
    cases lookB bs b with
    | none=>rfl
    | some q=>simp
  have hg:∀ t y,(stB (oldG gs) (oldB bs)).g t=some y→∃ x,(stB gs bs).g t=some x∧y=x.oldT∧x.eraOk=true:=fun t y e=>by
    have e':lookG (oldG gs) t=some y:=e
    rw [lookG_old] at e'
    obtain ⟨x,hx,rfl⟩:=Option.map_eq_some_iff.1 e'
    obtain ⟨p,hp,hpx⟩:=lookG_mem hx
    exact ⟨x,hx,rfl,by rw [← hpx];exact List.all_eq_true.1 hc p hp⟩
  have hkT:(stB gs bs).T eraK=none:=by show (lookB bs eraK).map _=none;rw [hk];rfl
  have hβ:∀ b,(stB gs bs).T b≠none→upd β eraK (w.heap.size-base) b=β b:=fun b hb=>by
    simp only [upd];rw [if_neg];rintro rfl;exact hb hkT
  refine { tm:=fun t y e=>?_,box:=fun b ty e=>?_,era:=Nat.le_of_eq hN,raw:=fun b ty e=>h.raw b ty (by rw [← hT];exact e),has:=fun b off e=>?_,inj:=fun b b' h1 h2 he=>?_,refs:=fun t y e b hb=>?_,below:=h.below,base_eq:=h.base_eq,defers:=h.defers,size:=h.size }
  · obtain ⟨x,hx,rfl,hok⟩:=hg t y e
    have hr:=h.tm t x hx
    have href:=h.refs t x hx
    cases x with
    | sc c=>show c.old.reads _ w _;rw [hN];exact A0.old_reads hr h.era
    | agg cs=>show part0 _ w (true,cs.map A0.old) _;rw [hN];exact part0_old (x:=(true,cs)) hr h.era
    | tup l=>obtain ⟨us,e2,h2⟩:=hr;refine ⟨us,e2,?_⟩;rw [hN];exact All2.map_left' _ (fun _ _ h'=>part0_old h' h.era) h2
    | ptr b off=>show _=_;rw [hβ b (href b (by simp [TV.refs]))];exact hr
    | own b off n sz=>obtain ⟨c,e2,h2⟩:=hr;exact ⟨c,by rw [hβ b (href b (by simp [TV.refs]))];exact e2,h2⟩
    | gro b n sz ty=>obtain ⟨c,arr,e2,h1,h2,ha,hs⟩:=hr;have hb:=hβ b (href b (by simp [TV.refs]));exact ⟨c,arr,by rw [hb];exact e2,h1,h2,by rw [hb];exact ha,hs⟩
    | oclo f bs' =>
      show _=_
      rw [show a.tmps.getD t undef=_ from hr]
      congr 2
      refine List.map_congr_left (fun b hm=>?_)
      rw [hβ b (href b hm)]
    | cond c x=>cases hok
    | elem k l i=>exact hr
    | row n cs=>exact hr
    | rowF n sz f=>exact hr
    | rptr cs=>exact hr
    | clo f caps=>exact hr
  · rw [hT] at e
    obtain ⟨h1,arr,h2,h3,h4⟩:=h.box b ty e
    have hb:=hβ b (by rw [e];simp)
    refine ⟨by rw [hb];exact h1,arr,by rw [hb];exact h2,h3,fun off q hq=>?_⟩
    rw [hm] at hq
    obtain ⟨q',hq',rfl⟩:=Option.map_eq_some_iff.1 hq
    obtain ⟨x,hx,hr⟩:=h4 off q' hq'
    exact ⟨x,hx,by rw [hN];exact A0.old_reads hr h.era⟩
  · rw [hT]
    refine h.has b off (fun hn=>e ?_)
    rw [hm,hn];rfl
  · rw [hT] at h1 h2
    rw [hβ b h1,hβ b' h2] at he
    exact h.inj b b' h1 h2 he
  · obtain ⟨x,hx,rfl,hok⟩:=hg t y e
    rw [hT]
    refine h.refs t x hx b ?_
    cases x<;>first|exact hb|(simp [TV.oldT,TV.refs] at hb)
theorem spec_era {gs:List (Nat × TV)} {bs:List (Nat × TypeId × List A0)} (hk:lookB bs eraK=none) (hc:gs.all (fun p=>p.2.eraOk)=true) (h:SpecC P n base w0 c kn ke kr (stB (oldG gs) (oldB bs))):SpecC P n base w0 c kn ke kr (stB gs bs):=by
  rintro a w Q ⟨β,hS⟩ hn he hr
  exact h a w Q (sat_era hS hk hc) hn he hr
structure KillC (P:Program) where
  f:FuncId
  e:TypeId
  k:IntKind
  pre:List Int→Prop
  fok:FOk P f
  ok:∀ (l:List Int) (u:Value) (w:World) (N:Nat),pre l→Kd.R (Kd.int k) e w N (fun _=>True) u l→Calls P f #[u] w fun en w'=>∃ v,en = .returned v∧Below 0 w w'∧∀ b,b<w.heap.size→u.ownBlock≠some b→w'.heap[b]?=w.heap[b]?
def TV.safeP:TV→Prop
  | .sc c=>c.safe=true
  | .agg cs=>cs.all A0.safe=true
  | .ptr _ _=>True
  | .rowF _ _ f=>∀ i,(f i).all A0.safe=true
  | _=>False
theorem A0.safe_far {N:Nat} {w w':World} {c:A0} {u:Value} (h:c.reads N w u) (hs:c.safe=true) (hk:∀ b,b<N→b<w.heap.size→w'.heap[b]?=w.heap[b]?):c.reads N w' u:=by
  cases c with
  | v x=>exact h
  | neg x=>exact h
  | ls n=>exact h
  | os k l =>
    obtain ⟨hk',A,c,e1,hr,hl⟩:=h
    refine ⟨hk',A,c,e1,⟨hr.1,hr.2.1,hr.2.2.1,fun hp=>?_⟩,hl⟩
    obtain ⟨ad,e2,hc⟩:=hr.2.2.2 hp
    have hlt:=hl (List.length_pos_iff.1 hp) ad e2
    have hlt2:=rdk_lt hr (List.length_pos_iff.1 hp) ad e2
    refine ⟨ad,e2,fun j p hj=>?_⟩
    obtain ⟨cs,h1,h2,h3⟩:=hc j p hj
    refine ⟨cs,h1,h2,fun i v hv=>?_⟩
    have e3:(ad.add (j*(Kd.int k).sz+i)).block=ad.block:=by unfold Addr.add;split<;>rfl
    rw [World.cell?_of_block (w:=w) (by rw [e3];exact hk _ hlt hlt2)]
    exact h3 i v hv
  | _=>cases hs
theorem all2_safe {N:Nat} {w w':World} (hk:∀ b,b<N→b<w.heap.size→w'.heap[b]?=w.heap[b]?):∀ {cs:List A0} {us:List Value},All2 (A0.reads N w) cs us→cs.all A0.safe=true→All2 (A0.reads N w') cs us
  | [],_,h,_=>by cases h;exact .nil
  | c::cs,_,h,hs=>by
    simp only [List.all_cons,Bool.and_eq_true] at hs
    cases h with
    | cons h1 h2=>exact .cons (A0.safe_far h1 hs.1 hk) (all2_safe hk h2 hs.2)
theorem sat_kill {β:Nat→Nat} {gs:List (Nat × TV)} {bs:List (Nat × TypeId × List A0)} {a:Act} {w w':World} {g:Option Nat} (h:Sat base w0 n β (stB gs bs) a w) (hg:∀ p∈gs,p.2.safeP) (hb:∀ p∈bs,p.2.2.all A0.safe=true) (hbel:Below 0 w w')
    (hk:∀ b,b<w.heap.size→g≠some b→w'.heap[b]?=w.heap[b]?) (hgN:∀ b,g=some b→base+β eraK≤b∧∃ arr t,w.heap[b]?=some (.cells arr t (0,0))∧rawT t=true):Sat base w0 n β (stB gs bs) a w':=by
  have hkN:∀ b,b<base+β eraK→b<w.heap.size→w'.heap[b]?=w.heap[b]?:=fun b h1 h2=>hk b h2 (fun e=>by have:=(hgN b e).1;omega)
  have hbase:w0.heap.size=base:=h.base_eq.symm
  refine { tm:=fun t x e=>?_,box:=fun b ty e=>?_,era:=Nat.le_trans h.era hbel.size,raw:=h.raw,has:=h.has,inj:=h.inj,refs:=h.refs,below:=?_,base_eq:=h.base_eq,defers:=h.defers,size:=h.size }
  · have hr:=h.tm t x e
    obtain ⟨p,hp,hpx⟩:=lookG_mem (show lookG gs t=some x from e)
    have hs:=hg p hp
    rw [hpx] at hs
    cases x with
    | sc c=>exact A0.safe_far hr hs hkN
    | agg cs=>obtain ⟨us,e2,h2⟩:=hr;exact ⟨us,e2,all2_safe hkN h2 hs⟩
    | ptr b off=>exact hr
    | rowF m sz f =>
      obtain ⟨A,q,e2,hn,hh⟩:=hr
      refine ⟨A,q,e2,hn,fun h0=>?_⟩
      obtain ⟨ad,ea,hlt,hc⟩:=hh h0
      refine ⟨ad,ea,hlt,fun i hi j c' hj=>?_⟩
      obtain ⟨x,hx,hrx⟩:=hc i hi j c' hj
      have e3:((ad.add (i*sz)).add j).block=ad.block:=by unfold Addr.add;split<;>split<;>rfl
      have hltw:=World.block_lt_of_cell? w _ hx
      refine ⟨x,?_,fun N hN=>?_⟩
      · rw [World.cell?_of_block (w:=w) (hkN _ (by rw [e3];omega) hltw)];exact hx
      · have hsafe:=List.all_eq_true.1 (hs i) c' (List.mem_of_getElem? hj)
        have h5:=A0.safe_far (hrx base (Nat.le_refl _)) hsafe (fun b h1 h2=>hkN b (by omega) h2)
        exact A0.raise h5 hN (fun e k l hh=>by rw [hh] at hsafe;cases hsafe)
    | _=>exact hs.elim
  · obtain ⟨h1,arr,h2,h3,h4⟩:=h.box b ty e
    have hne:g≠some (β b):=fun hge=>by
      obtain ⟨_,arr',t',h5,h6⟩:=hgN _ hge
      rw [h2] at h5;cases h5
      rw [h.raw b ty e] at h6;cases h6
    refine ⟨h1,arr,by rw [hk _ (Array.getElem?_eq_some_iff.1 h2).1 hne];exact h2,h3,fun off q hq=>?_⟩
    obtain ⟨x,hx,hr⟩:=h4 off q hq
    have hq':(lookB bs b).bind (fun q=>q.2[off]?)=some q:=hq
    obtain ⟨y,hy,hyq⟩:=Option.bind_eq_some_iff.1 hq'
    obtain ⟨p,hp,hpy⟩:=lookB_mem hy
    have:=List.all_eq_true.1 (hb p hp) q (by rw [hpy];exact List.mem_of_getElem? hyq)
    exact ⟨x,hx,A0.safe_far hr this hkN⟩
  · refine h.below.trans ⟨hbel.os,hbel.tape,hbel.output,hbel.size,fun k hk1=>?_⟩
    exact hkN k (by omega) (by have:=h.below.size;omega)
theorem seq_sound2 {ops:List Oper} {E:Nat→Eff} {Q:Exit→Act→World→Prop} {s':St} (ok:CxOk2 P X) (hst:statOk X n ops=true) (l2:List Nat):∀ {l:List Nat} {s:St} {a:Act} {w:World},Runs X ops E l s s'→(∀ i∈l,(E i).pre)→SatE base w0 n s a w→(∀ a w,SatE base w0 n s' a w→wpOps P ops.toArray Q l2 a w)→wpOps P ops.toArray Q (l++l2) a w
  | [],s,a,w,h,_,hS,hQ=>by
    cases h
    exact hQ a w hS
  | i :: l, s, a, w, h, hp, hS, hQ => by
    cases h with
    | cons o ho h1 h2 h3 =>
      rw [List.cons_append,wpOps_cons]
      exact wpOp_sound ok hst ho hS h1 h2 (hp i (by simp)) (fun a' w' hS'=>seq_sound2 ok hst l2 h3 (fun j hj=>hp j (List.mem_cons_of_mem _ hj)) hS' hQ)
theorem ne_put {gs:List (Nat × TV)} {d:Nat} (hd:(gs.all fun p=>p.1 != d)=true) {t:Nat} {x:TV} (h:lookG gs t=some x):t≠d:=by
  induction gs with
  | nil=>cases h
  | cons p r ih =>
    obtain ⟨t',y⟩:=p
    simp only [List.all_cons,Bool.and_eq_true,bne_iff_ne] at hd
    unfold lookG at h
    split at h
    · rename_i e;rw [e];exact hd.1
    · exact ih hd.2 h
theorem spec_kill {id:Nat} {ops:Array Oper} (ok:CxOk2 P X) (C:KillC P) (pre:List Oper) (o:Oper) (hops:ops.toList=pre++[o]) (hst:statOk X n ops.toList=true) (es:List Eff) (s1:St) (heff:effs X ops.toList pre s=some (es,s1)) (hp:pres es)
    (x:Operand) (d:Tmp) (ats:Array TypeId) (ho:o.op = .call { callee := .value (.func C.f),args:=#[x],argTypes:=ats }) (hgd:o.guard=none) (hdst:o.dst=some d) (l:List Int) (hx:getv s1.g x=some (.sc (.fs C.e C.k l))) (hpl:C.pre l)
    (gs:List (Nat × TV)) (bs:List (Nat × TypeId × List A0)) (hg:leG s1 gs) (hb:leB s1 bs) (hw:wfB gs bs=true) (hsafe:∀ p∈gs,p.2.safeP) (hsafeB:∀ p∈bs,p.2.2.all A0.safe=true) (hd:(gs.all fun p=>p.1 != d)=true) (h:kn (stB gs bs)):SpecC P n base w0 (.region id ops false) kn ke kr s:=by
  intro a w Q hS hn _ _
  obtain ⟨hr,hlen⟩:=effs_runs (k:=0) (E:=fun i=>es.getD i Eff.nil) heff (fun i o' h=>by
    rw [hops,Nat.zero_add,List.getElem?_append_left (List.getElem?_eq_some_iff.1 h).1];exact h) (fun i e h=>by simp [List.getD_eq_getElem?_getD,h])
  refine wp_region ?_
  have hsz:ops.size=pre.length+1:=by rw [← Array.length_toList,hops];simp
  have hrange:List.range ops.size=List.range' 0 pre.length++[pre.length]:=by
    rw [hsz,List.range_succ,List.range_eq_range']
  rw [hrange]
  have main:=seq_sound2 (Q:=Q) (s':=s1) ok hst [pre.length] hr (fun i _=>pres_get hp i) hS (fun a1 w1 hS1=>by
    obtain ⟨β,hS1⟩:=hS1
    rw [wpOps_cons]
    unfold wpOp
    have hlast:ops.toList.toArray[pre.length]?=some o:=by
      rw [List.getElem?_toArray,hops,List.getElem?_append_right (Nat.le_refl _)];simp
    rw [hlast]
    simp only
    rw [if_pos (by unfold Region.wanted;rw [hgd])]
    left
    have hgood:=getv_good hS1 hx
    obtain ⟨hk,he,hR⟩:=hgood.1
    have hS2:=sat_le hS1 hg hb hw
    obtain ⟨fn,hf1,hf2,hf3⟩:=C.fok
    have hrun:(execOp a1.eval o).run P w1 = .ok (.enter C.f #[a1.eval x]) w1:=by
      unfold execOp;rw [ho]
      dsimp only
      rw [Sem.run_bind]
      have e1:(resolve a1.eval { callee := .value (.func C.f),args:=#[x],argTypes:=ats } o.type).run P w1 = .ok { target := .fn (.func C.f) #[],args:=#[a1.eval x] } w1:=by
        simp [resolve,Deferred.ofValue,Act.eval]
      rw [e1]
      simp only [Result.andThen_ok,invoke,callFunc,Sem.run_bind,run_program,hf1,hf2,hf3,Bool.false_eq_true,if_false,Sem.run_pure]
      simp
    unfold Oper.wp
    rw [hrun,Oper.upon_enter]
    refine (C.ok l _ w1 _ hpl hR).mono ?_
    rintro en w2 ⟨v,rfl,hbel,hkeep⟩
    show wpOps P _ Q [] (a1.put o.dst v) w2
    have hd':d<n:=by
      have h1:=List.all_eq_true.1 hst o (by rw [hops];simp)
      rw [Bool.and_eq_true] at h1
      exact dst_lt h1.2 hdst
    have hS3:Sat base w0 n β (stB gs bs) a1 w2:=sat_kill hS2 hsafe hsafeB hbel hkeep (fun b hb'=>⟨Kd.R_base hR b hb',by
      obtain ⟨_,_,_,q,hq,cells,hc⟩:=(Kd.R_bound hR).1 b hb'
      have hq':q=C.e:=by simpa [Kd.int,Kd.scalar] using hq
      exact ⟨cells,q,hc,by rw [hq'];exact he⟩⟩)
    have hS4:=hS3.put hd' (v:=v) (x:=none) (fun y hy=>by cases hy)
    have hS5:Sat base w0 n β (stB gs bs) (a1.put (some d) v) w2:=hS4.weaken (fun t y hy=>by
      show upd _ d none t=some y
      simp only [upd]
      rw [if_neg (ne_put hd hy)];exact hy) (fun _ _ _ h=>h) (fun _ _ h=>h) hS3.refs hS3.has
    rw [hdst]
    exact hn _ _ _ h ⟨β,hS5⟩)
  simpa using main
theorem spec_killK {id:Nat} {ops:Array Oper} (ok:CxOk2 P X) (C:KillC P) (k:Nat) (o:Oper) (h0:ops.toList[k]?=some o) (hlen:ops.toList.length=k+1) (x:Operand) (d:Tmp) (ats:Array TypeId) (ho:o.op = .call { callee := .value (.func C.f),args:=#[x],argTypes:=ats }) (hgd:o.guard=none) (hdst:o.dst=some d) (hst:statOk X n ops.toList=true) (es:List Eff) (s1:St) (heff:effs X ops.toList (ops.toList.take k) s=some (es,s1)) (hp:pres es)
    (l:List Int) (hx:getv s1.g x=some (.sc (.fs C.e C.k l))) (hpl:C.pre l)
    (gs:List (Nat × TV)) (bs:List (Nat × TypeId × List A0)) (hg:leG s1 gs) (hb:leB s1 bs) (hw:wfB gs bs=true) (hsafe:∀ p∈gs,p.2.safeP) (hsafeB:∀ p∈bs,p.2.2.all A0.safe=true) (hd:(gs.all fun p=>p.1 != d)=true) (h:kn (stB gs bs)):SpecC P n base w0 (.region id ops false) kn ke kr s:=by
  have hops:ops.toList=ops.toList.take k++[o]:=by
    have hk:k<ops.toList.length:=by omega
    have e:ops.toList[k]=o:=(List.getElem?_eq_some_iff.1 h0).2
    rw [← e,← List.take_succ_eq_append_getElem hk,List.take_of_length_le (by omega)]
  exact spec_kill ok C _ o hops hst es s1 heff hp x d ats ho hgd hdst l hx hpl gs bs hg hb hw hsafe hsafeB hd h
end
end Go.Proofs.YtaeabemipnbgbaaW.Sx
end
