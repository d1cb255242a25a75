/- Part of a proof: texts of this session, one behind the other, and words that print.sh printed for this seat, of these only those that the proof leans on (wip/tools/pack.py). -/
import Derived.Below
import Derived.Deep.Draws
import Derived.Deep.AppendLies
import Derived.Maps.AppendAt
import Derived.OwnWalk
import Derived.Laws.BytesArg
import Derived.Laws.MakeOwn
import Derived.Laws.OwnMore
import Derived.Deep.OwnRows
import Derived.Tactics
import Derived.Lib.ConvBytes
import Derived.Laws.Slices
import Derived.WalkKit
import Derived.KernelRfl
import Derived.RowKit3
import Derived.Deep.LoopGhost
import Derived.Deep.QuietTactic
import Derived.BigQuiet
import Derived.WideLaws
import Derived.Deep.DeepCutAuto
import Derived.Deep.CutBlock
import Derived.Deep.RegionHeld3
import Derived.Laws.Rows
import Derived.Lib.AppendStr
import Derived.ArgAppend
import Derived.Laws.IdiomCopy
import Derived.RowKit
import Derived.OrdersHeld
import Derived.Laws.BitsLemmas
import Derived.Orders
import Derived.LoopN
namespace Foot
end Foot
namespace Go.Proofs.Ytcgknibjbnijmaa
end Go.Proofs.Ytcgknibjbnijmaa
namespace Go.Proofs.Ytcgknibjbnijmaa.PPw
end Go.Proofs.Ytcgknibjbnijmaa.PPw
namespace Go.Proofs.Ytcgknibjbnijmaa.QPw
end Go.Proofs.Ytcgknibjbnijmaa.QPw
namespace Go.Proofs.Ytcgknibjbnijmaa.powerClosed
end Go.Proofs.Ytcgknibjbnijmaa.powerClosed
namespace Go.Proofs.YtcgknibjbnijmaaW.Aid
end Go.Proofs.YtcgknibjbnijmaaW.Aid
namespace Go.Proofs.YtcgknibjbnijmaaW.Big
end Go.Proofs.YtcgknibjbnijmaaW.Big
namespace Go.Proofs.YtcgknibjbnijmaaW.Opens
end Go.Proofs.YtcgknibjbnijmaaW.Opens
namespace Go.Proofs.YtcgknibjbnijmaaW.PrintLast
end Go.Proofs.YtcgknibjbnijmaaW.PrintLast
namespace Go.Proofs.YtcgknibjbnijmaaW.PrintMore
end Go.Proofs.YtcgknibjbnijmaaW.PrintMore
namespace Go.Proofs.YtcgknibjbnijmaaW.PrintWords
end Go.Proofs.YtcgknibjbnijmaaW.PrintWords
namespace Go.Proofs.YtcgknibjbnijmaaW.Sy
end Go.Proofs.YtcgknibjbnijmaaW.Sy
namespace Kd
end Kd
section
set_option linter.unusedVariables false
set_option linter.unusedSimpArgs false
namespace Go.Proofs.YtcgknibjbnijmaaW.PrintWords
open RowKit
structure Aside0 (p:Prop):Prop where mk::(out:p)
structure Drawn0 (w w':World):Prop where mk::(out:∃ n,w'=w.drewN n)
theorem Drawn0.refl (w:World):Drawn0 w w:=⟨⟨0,rfl⟩⟩
theorem Drawn0.step {w w':World} (h:Drawn0 w w') (n:Nat):Drawn0 w (w'.drewN n):=by
  obtain ⟨m,rfl⟩:=h
  exact ⟨⟨m+n,World.drewN_drewN ..⟩⟩
theorem Drawn0.grown {w w':World} (h:Drawn0 w w'):Grown w w':=by
  obtain ⟨n,rfl⟩:=h
  induction n with
  | zero=>exact Grown.refl _
  | succ n ih=>rw [← World.drew_drewN];exact Grown.drew ih
theorem Drawn0.below {w w':World} (h:Drawn0 w w'):Below w.heap.size w w':=by
  obtain ⟨n,rfl⟩:=h
  induction n with
  | zero=>exact Below.refl _ _
  | succ n ih=>rw [← World.drew_drewN];exact ih.drew
def rd (xs:List Int) (i:Int):Int:=xs.getD i.toNat 0
def nums (k:IntKind) (xs:List Int):List Value:=xs.map fun x => .int k x
theorem below_alloc {w W:World} (h:Below w.heap.size w W) (o:Obj):Below w.heap.size w (W.alloc o):=h.alloc h.size o
theorem below_drew {B:Nat} {w W:World} (h:Below B w W):Below B w W.drew:=⟨h.os,h.tape,h.output,h.size,h.block⟩
theorem pw_below_drewN {B:Nat} {w W:World} (h:Below B w W) (n:Nat):Below B w (W.drewN n):=⟨h.os,h.tape,h.output,h.size,h.block⟩
theorem below_then {B:Nat} {w w1 w2:World} (h:Below B w w1) (hB:B≤w1.heap.size) (k:Below w1.heap.size w1 w2):Below B w w2 :=
  h.trans ⟨k.os,k.tape,k.output,k.size,fun i hi=>k.block i (Nat.lt_of_lt_of_le hi hB)⟩
theorem grown_of_below {w w1:World} (h:Below w.heap.size w w1) (row:Option Nat):w.grownBy w1 row:=⟨h.os,h.tape,h.output,h.size,fun i hi _=>h.block i hi⟩
theorem pw_cell_below {w w1:World} (h:Below w.heap.size w w1) {a:Addr} {v:Value} (hc:w.cell? a=some v):w1.cell? a=some v:=(h.cell (World.block_lt_of_cell? w a hc)).trans hc
theorem add_plain (g j:Nat):(⟨g,0,none⟩:Addr).add j=⟨g,j,none⟩:=by unfold Addr.add;split<;>simp_all
def ReadsInt (w:World) (k:IntKind) (A:Option Addr) (n:Nat) (xs:List Int):Prop :=
  xs.length=n∧n≤9223372036854775807∧(0<n→∃ ad,A=some ad∧∀ j,j<n→w.cell? (ad.add j)=some (.int k (xs.getD j 0)))
theorem ReadsInt.at_ {w:World} {k:IntKind} {A:Option Addr} {n:Nat} {xs:List Int} (h:ReadsInt w k A n xs) (i:Int) (h0:0≤i) (h1:i<n):∃ ad,A=some ad∧w.cell? (ad.add i.toNat)=some (.int k (rd xs i)):=by
  obtain ⟨ad,e,hc⟩:=h.2.2 (by omega)
  exact ⟨ad,e,hc _ (by omega)⟩
theorem ReadsInt.below {w w1:World} {k:IntKind} {A:Option Addr} {n:Nat} {xs:List Int} (h:ReadsInt w k A n xs) (hb:Below w.heap.size w w1):ReadsInt w1 k A n xs :=
  ⟨h.1,h.2.1,fun hn=>by
    obtain ⟨ad,e,hc⟩:=h.2.2 hn
    exact ⟨ad,e,fun j hj=>pw_cell_below hb (hc j hj)⟩⟩
theorem own_nil (W:World) (base:Nat) (e:TypeId) (size:Nat):W.ownsRow base e size (.slice none 0 0) 0 []:=⟨by simp,.inl ⟨rfl,rfl⟩⟩
theorem own_base {w:World} {base:Nat} {e:TypeId} {size n:Nat} {v:Value} {xs:List Value} (h:w.ownsRow base e size v n xs) (k:Nat) (hk:v.ownBlock=some k):base≤k:=by
  rcases h.2 with ⟨rfl,_⟩|⟨g,cap,cur,rfl,hb,_⟩
  · simp [Value.ownBlock] at hk
  · have:g=k:=by simpa [Value.ownBlock] using hk
    omega
theorem own_lt {w:World} {base:Nat} {e:TypeId} {size n:Nat} {v:Value} {xs:List Value} (h:w.ownsRow base e size v n xs) (k:Nat) (hk:v.ownBlock=some k):k<w.heap.size:=by
  rcases h.2 with ⟨rfl,_⟩|⟨g,cap,cur,rfl,hb,hh,_⟩
  · simp [Value.ownBlock] at hk
  · have:g=k:=by simpa [Value.ownBlock] using hk
    subst this
    exact (Array.getElem?_eq_some_iff.1 hh).1
theorem pw_own_below {w w1:World} {base:Nat} {e:TypeId} {size n:Nat} {v:Value} {xs:List Value} (h:w.ownsRow base e size v n xs) (hb:Below w.heap.size w w1):w1.ownsRow base e size v n xs :=
  h.kept (grown_of_below hb none) (by cases v.ownBlock<;>simp)
theorem own_other {w w1:World} {base:Nat} {e:TypeId} {size n:Nat} {v:Value} {xs:List Value} (h:w.ownsRow base e size v n xs) {row:Option Nat} (hg:w.grownBy w1 row) (hne:v.ownBlock=none∨v.ownBlock≠row):w1.ownsRow base e size v n xs:=h.kept hg hne
theorem own_slice {w:World} {base n:Nat} {e:TypeId} {size:Nat} {v:Value} {xs:List Value} (h:w.ownsRow base e size v n xs):∃ A c,v = .slice A n c:=by
  rcases h.2 with ⟨rfl,rfl⟩|⟨g,cap,cur,rfl,_⟩
  · exact ⟨none,0,rfl⟩
  · exact ⟨_,cap,rfl⟩
section
variable {P:Program} {ops:Array Oper} {rest:List Oper} {o:Oper} {a:Act} {Q:Exit→Act→World→Prop}
end
section
variable {P:Program}
end
section
variable {P:Program} {ops:Array Oper} {rest:List Oper} {o:Oper} {a:Act} {Q:Exit→Act→World→Prop}
theorem print_append_row {w0 W:World} (base:Nat) (hgd:o.guard=none) (s x:Operand) (t e:TypeId) (k:IntKind) (bytes:Nat)
    (ho:o.op = .call { callee := .builtin .append,args:=#[s,x],argTypes:=#[t,t] })
    (ht:P.underlying t=some (.slice e)) (hinfo:(P.info? e).map (fun i=>(i.zero,i.size,i.bytes))=some (some (.int k 0),1,bytes)) (hb0:0<bytes)
    (v:Value) (xs ys:List Int) (A:Option Addr) (m c:Nat) (hs:a.eval s=v) (hx:a.eval x = .slice A m c)
    (HO:W.ownsRow base e 1 v xs.length (nums k xs)) (HR:ReadsInt W k A m ys) (HB:Below base w0 W) (hbase:base≤W.heap.size) (hl:(xs.length+m)*bytes≤140737488355328)
    (h:∀ v1 w1,w1.ownsRow base e 1 v1 (xs++ys).length (nums k (xs++ys))→Below base w0 w1→W.grownBy w1 v.ownBlock→(v1.ownBlock=v.ownBlock∨∃ b,v1.ownBlock=some b∧W.heap.size≤b)→wpList P ops Q rest (a.put o.dst v1) w1) :
    wpList P ops Q (o::rest) a W:=by
  obtain ⟨i0,hi,hzz⟩:=Option.map_eq_some_iff.1 hinfo
  simp only [Prod.mk.injEq] at hzz
  obtain ⟨hz0,hz1,hz2⟩:=hzz
  have hm:ys.length=m:=HR.1
  have hlen:xs.length+m≤140737488355328:=Nat.le_trans (Nat.le_mul_of_pos_right _ hb0) hl
  have hrun:∃ v1 w1,(Builtin.append_ #[t,t] o.type #[v,.slice A m c]).run P W = .ok v1 w1∧w1.ownsRow base e 1 v1 (xs++ys).length (nums k (xs++ys))∧W.grownBy w1 v.ownBlock∧(v1.ownBlock=v.ownBlock∨v1.ownBlock=some W.heap.size):=by
    rcases A with _|ad
    · have h0:m=0:=by
        rcases Nat.eq_zero_or_pos m with h0|h0
        · exact h0
        · obtain ⟨ad,h,_⟩:=HR.2.2 h0
          cases h
      subst h0
      obtain rfl:ys=[]:=List.eq_nil_of_length_eq_zero hm
      refine ⟨v,W,?_,by simpa using HO,World.grownBy.refl W _,.inl rfl⟩
      rcases HO.2 with ⟨rfl,hn⟩|⟨g,cap,cur,rfl,_,_,hnc,_⟩
      · simp [Builtin.append_,run_underlying ht,sizeOf,typeInfo,hi,Builtin.lenOf,Builtin.firstCells]
      · simp [Builtin.append_,run_underlying ht,sizeOf,typeInfo,hi,Builtin.lenOf,Builtin.firstCells,hnc,storeCells]
    · have hcells:∀ j u,(nums k ys)[j]?=some u→W.cell? (ad.add j)=some u:=by
        intro j u hu
        have hj:j<ys.length:=by
          rcases Nat.lt_or_ge j ys.length with h|h
          · exact h
          · simp [nums,List.getElem?_eq_none h] at hu
        obtain ⟨ad',h',hc⟩:=HR.2.2 (by omega)
        injection h' with h'
        subst h'
        have:=hc j (by omega)
        simp [nums,List.getElem?_eq_getElem hj] at hu
        subst hu
        rw [this]
        simp [List.getD_eq_getElem?_getD,List.getElem?_eq_getElem hj]
      obtain ⟨v1,w1,hr,h2,h3,_,h5⟩:=run_append_own_at (P:=P) W base t o.type e i0 (.int k 0) 1 bytes ht hi hz0 hz1 hz2 rfl (by omega) v xs.length (nums k xs) HO ad m c (nums k ys) (by simp [nums,hm]) hcells
        (by intro u hu;simp only [nums,List.mem_map] at hu;obtain ⟨q,_,rfl⟩:=hu;rfl) (by simp only [maxLen];omega) hl hbase
      exact ⟨v1,w1,hr,by simpa [nums,hm] using h2,h3,h5⟩
  obtain ⟨v1,w1,hr,hown,hg,hat⟩:=hrun
  refine wpList_plain hgd fun K hK=>?_
  unfold Oper.wp execOp
  simp only [ho,resolve,invoke,builtin,Sem.run_bind,Sem.run_pure,Result.andThen_ok,List.map_toArray,List.map_cons,List.map_nil,hs,hx,hr]
  refine hK _ _ (h v1 w1 hown (HB.grown hg hbase (own_base HO)) hg ?_)
  rcases hat with hat|hat
  · exact .inl hat
  · exact .inr ⟨_,hat,Nat.le_refl _⟩
end
theorem ReadsInt.take_ {w:World} {k:IntKind} {A:Option Addr} {n:Nat} {xs:List Int} (h:ReadsInt w k A n xs) (i:Nat) (hi:i≤n):ReadsInt w k A i (xs.take i):=by
  refine ⟨by rw [List.length_take,h.1];omega,by have:=h.2.1;omega,fun hp=>?_⟩
  obtain ⟨ad,e,hc⟩:=h.2.2 (by omega)
  refine ⟨ad,e,fun j hj=>?_⟩
  rw [hc j (by omega)]
  simp [List.getD_eq_getElem?_getD,hj]
theorem ReadsInt.drop_ {w:World} {k:IntKind} {A:Option Addr} {n c:Nat} {xs:List Int} (h:ReadsInt w k A n xs) (i:Nat) (hi:i≤n) (hc:n≤c):ReadsInt w k (if c=i then A else A.map (·.add i)) (n-i) (xs.drop i):=by
  refine ⟨by rw [List.length_drop,h.1],by have:=h.2.1;omega,fun hp=>?_⟩
  obtain ⟨ad,rfl,hcell⟩:=h.2.2 (by omega)
  rw [if_neg (by omega)]
  refine ⟨ad.add i,rfl,fun j hj=>?_⟩
  have ha:(ad.add i).add j=ad.add (i+j):=by
    unfold Addr.add
    by_cases h1:i=0<;>by_cases h2:j=0<;>simp [h1,h2,Nat.add_assoc]
  rw [ha,hcell (i+j) (by omega)]
  simp [List.getD_eq_getElem?_getD,List.getElem?_drop]
def LeO {α:Type} (a b:Option α):Prop:=∀ r,a=some r→b=some r
theorem LeO.refl {α:Type} (a:Option α):LeO a a:=fun _ h=>h
theorem LeO.none {α:Type} (b:Option α):LeO Option.none b:=fun _ h=>by cases h
theorem LeO.trans {α:Type} {a b c:Option α} (h:LeO a b) (k:LeO b c):LeO a c:=fun r hr=>k r (h r hr)
theorem LeO.ite {α:Type} {c:Prop} [Decidable c] {a a' b b':Option α} (h:LeO a a') (k:LeO b b'):LeO (if c then a else b) (if c then a' else b'):=by
  split
  · exact h
  · exact k
theorem LeO.bind {α β:Type} {a a':Option α} {f f':α→Option β} (h:LeO a a') (k:∀ x,LeO (f x) (f' x)):LeO (a.bind f) (a'.bind f'):=by
  intro r hr
  obtain ⟨x,hx,hf⟩:=Option.bind_eq_some_iff.1 hr
  exact Option.bind_eq_some_iff.2 ⟨x,h x hx,k x r hf⟩
theorem LeO.map {α β:Type} {a a':Option α} (f:α→β) (h:LeO a a'):LeO (a.map f) (a'.map f):=by
  intro r hr
  obtain ⟨x,hx,hf⟩:=Option.map_eq_some_iff.1 hr
  exact Option.map_eq_some_iff.2 ⟨x,h x hx,hf⟩
theorem more_rounds {α:Type} {g:Nat→Option α} (h:∀ k,LeO (g k) (g (k+1))) (k:Nat):∀ j,LeO (g k) (g (k+j))
  | 0=>LeO.refl _
  | j+1=>(more_rounds h k j).trans (h (k+j))
theorem at_rounds {α:Type} {g:Nat→Option α} (h:∀ k,LeO (g k) (g (k+1))) {k k':Nat} (hk:k≤k') {r:α} (hr:g k=some r):g k'=some r:=by
  have:=more_rounds h k (k'-k) r hr
  rwa [Nat.add_sub_cancel' hk] at this
def Reps {α:Type} (R:α→List Value→Prop) (size:Nat) (ps:List α) (cs:List Value):Prop :=
  cs.length=ps.length*size∧∀ j p,ps[j]?=some p→R p ((cs.drop (j*size)).take size)
theorem Reps.none {α:Type} (R:α→List Value→Prop) (size:Nat):Reps R size [] []:=⟨by simp,fun j p h=>by simp at h⟩
theorem Reps.snoc {α:Type} {R:α→List Value→Prop} {size:Nat} {ps:List α} {cs c:List Value} {p:α} (h:Reps R size ps cs) (hp:R p c) (hc:c.length=size):Reps R size (ps++[p]) (cs++c):=by
  refine ⟨by rw [List.length_append,h.1,hc,List.length_append,List.length_singleton,Nat.add_mul,Nat.one_mul],fun j q hq=>?_⟩
  rcases Nat.lt_or_ge j ps.length with hj|hj
  · rw [List.getElem?_append_left hj] at hq
    have h1:j*size+size≤cs.length:=by rw [h.1,← Nat.succ_mul];exact Nat.mul_le_mul_right _ hj
    have h2:=h.2 j q hq
    rw [List.drop_append_of_le_length (by omega),List.take_append_of_le_length (by rw [List.length_drop];omega)]
    exact h2
  · have hj':j=ps.length:=by
      have:=(List.getElem?_eq_some_iff.1 hq).1
      rw [List.length_append,List.length_singleton] at this
      omega
    subst hj'
    have hq':p=q:=by simpa using hq
    subst hq'
    rw [← h.1,List.drop_left,← hc,List.take_length]
    exact hp
theorem Reps.imp_ {α:Type} {R R':α→List Value→Prop} {size:Nat} {ps:List α} {cs:List Value} (h:Reps R size ps cs) (hR:∀ p c,R p c→R' p c):Reps R' size ps cs:=⟨h.1,fun j p hj=>hR _ _ (h.2 j p hj)⟩
def ReadsRow {α:Type} (R:α→List Value→Prop) (size:Nat) (w:World) (A:Option Addr) (n:Nat) (ps:List α):Prop :=
  ps.length=n∧n≤9223372036854775807∧(0<n→∃ ad,A=some ad∧∀ j p,ps[j]?=some p→∃ c,c.length=size∧R p c∧∀ i u,c[i]?=some u→w.cell? (ad.add (j*size+i))=some u)
theorem ReadsRow.get_ {α:Type} {R:α→List Value→Prop} {size:Nat} {w:World} {A:Option Addr} {n:Nat} {ps:List α} (h:ReadsRow R size w A n ps) (d:α) (i:Int) (h0:0≤i) (h1:i<n) :
    ∃ ad c,A=some ad∧c.length=size∧R (ps.getD i.toNat d) c∧∀ j u,c[j]?=some u→w.cell? (ad.add (i.toNat*size+j))=some u:=by
  obtain ⟨ad,e,hc⟩:=h.2.2 (by omega)
  have hl:i.toNat<ps.length:=by have:=h.1;omega
  obtain ⟨c,hs,hr,hcell⟩:=hc i.toNat _ (List.getElem?_eq_getElem hl)
  refine ⟨ad,c,e,hs,?_,hcell⟩
  rw [List.getD_eq_getElem?_getD,List.getElem?_eq_getElem hl]
  exact hr
theorem ReadsRow.imp_ {α:Type} {R R':α→List Value→Prop} {size:Nat} {w w1:World} {A:Option Addr} {n:Nat} {ps:List α} (h:ReadsRow R size w A n ps) (hb:Below w.heap.size w w1) (hR:∀ p c,R p c→R' p c):ReadsRow R' size w1 A n ps :=
  ⟨h.1,h.2.1,fun hn=>by
    obtain ⟨ad,e,hc⟩:=h.2.2 hn
    refine ⟨ad,e,fun j p hj=>?_⟩
    obtain ⟨c,hs,hr,hcell⟩:=hc j p hj
    exact ⟨c,hs,hR _ _ hr,fun i u hu=>pw_cell_below hb (hcell i u hu)⟩⟩
theorem own_reads_row {α:Type} {R:α→List Value→Prop} {w:World} {base n size:Nat} {e:TypeId} {v:Value} {ps:List α} {cs:List Value} (h:w.ownsRow base e size v n cs) (hR:Reps R size ps cs) (hn:ps.length=n) :
    ∃ A c,v = .slice A n c∧ReadsRow R size w A n ps:=by
  rcases Nat.eq_zero_or_pos n with h0|h0
  · rcases h.2 with ⟨rfl,rfl⟩|⟨g,cap,cur,rfl,_⟩
    · exact ⟨none,0,rfl,hn,by omega,fun hp=>absurd hp (by omega)⟩
    · exact ⟨_,cap,rfl,hn,by omega,fun hp=>absurd hp (by omega)⟩
  · obtain ⟨g,cap,rfl,_,_⟩:=h.form h0
    have hm:n≤9223372036854775807:=by
      rcases h.2 with ⟨_,h1⟩|⟨g',cap',cur,he,_,_,h1,h2,_⟩
      · omega
      · simp only [maxLen] at h2
        omega
    refine ⟨_,cap,rfl,hn,hm,fun _=>⟨_,rfl,fun j p hj=>⟨(cs.drop (j*size)).take size,?_,hR.2 j p hj,fun i u hu=>?_⟩⟩⟩
    · have hjl:=(List.getElem?_eq_some_iff.1 hj).1
      have h1:j*size+size≤cs.length:=by rw [hR.1,← Nat.succ_mul];exact Nat.mul_le_mul_right _ hjl
      rw [List.length_take,List.length_drop]
      omega
    · refine h.cells (g:=g) rfl _ u ?_
      rw [List.getElem?_take] at hu
      split at hu
      · rw [List.getElem?_drop] at hu
        exact hu
      · cases hu
theorem add_field (ad:Addr) (m j:Nat) (hj:0<j):ad.add (m+j)=⟨(ad.add m).block,(ad.add m).off+j,none⟩:=by
  unfold Addr.add
  by_cases hm:m=0
  · subst hm
    simp [Nat.ne_of_gt hj]
  · simp [hm,Nat.add_assoc]
section
variable {P:Program} {ops:Array Oper} {rest:List Oper} {o:Oper} {a:Act} {Q:Exit→Act→World→Prop}
theorem print_append_cells {w0 W:World} (base:Nat) (hgd:o.guard=none) (s x:Operand) (t e:TypeId) (z:Value) (size bytes:Nat)
    (ho:o.op = .call { callee := .builtin .append,args:=#[s,x],argTypes:=#[t,t] })
    (ht:P.underlying t=some (.slice e)) (hinfo:(P.info? e).map (fun i=>(i.zero,i.size,i.bytes))=some (some z,size,bytes)) (hz:z.cells.size=size) (hs0:0<size) (hb0:0<bytes)
    (v:Value) (n:Nat) (xs ys:List Value) (hs:a.eval s=v) (hx:a.eval x = .slice (some ⟨W.heap.size,0,none⟩) 1 1) (hys:ys.length=size) (h1:∀ u∈ys,u.oneCell'=true)
    (HO:W.ownsRow base e size v n xs) (HB:Below base w0 W) (hbase:base≤W.heap.size) (hl:(n+1)*bytes≤140737488355328)
    (h:∀ v1 w1,w1.ownsRow base e size v1 (n+1) (xs++ys)→Below base w0 w1→W.grownBy w1 v.ownBlock→(v1.ownBlock=v.ownBlock∨∃ b,v1.ownBlock=some b∧W.heap.size≤b)→wpList P ops Q rest (a.put o.dst v1) w1) :
    wpList P ops Q (o::rest) a (W.alloc (.cells ys.toArray e)):=by
  obtain ⟨i0,hi,hzz⟩:=Option.map_eq_some_iff.1 hinfo
  simp only [Prod.mk.injEq] at hzz
  obtain ⟨hz0,hz1,hz2⟩:=hzz
  have hlen:n+1≤140737488355328:=Nat.le_trans (Nat.le_mul_of_pos_right _ hb0) hl
  refine wpList_append_own_at (W.alloc (.cells ys.toArray e)) hgd s x t ho base e i0 z size bytes ht hi hz0 hz1 hz2 hz hs0 v n xs hs (HO.alloc _) ⟨W.heap.size,0,none⟩ 1 1 ys hx (by rw [hys];simp)
    (by simpa using World.news_of_block (cs:=ys.toArray) (t:=e) (fr:=(0,0)) (heap_alloc_new W (.cells ys.toArray e))) h1 (by simp only [maxLen];omega) hl (by simp;omega) ?_
  intro v1 w1 hown hg _ hat
  refine h v1 w1 hown ((HB.alloc hbase _).grown hg (by simp;omega) (own_base HO)) (World.grownBy.trans (World.grownBy_alloc W _ _) hg) ?_
  rcases hat with hat|hat
  · exact .inl hat
  · exact .inr ⟨_,hat,by simp⟩
end
theorem own_ne {w:World} {base:Nat} {e t:TypeId} {size n g:Nat} {v:Value} {xs:List Value} {cs:Array Value} (h:w.ownsRow base e size v n xs) (hg:w.heap[g]?=some (.cells cs t (0,0))) (hne:e≠t):some g≠v.ownBlock:=by
  rcases h.2 with ⟨rfl,_⟩|⟨g',cap,cur,rfl,_,hh,_⟩
  · simp [Value.ownBlock]
  · intro he
    have:g=g':=by simpa [Value.ownBlock] using he
    subst this
    rw [hg] at hh
    injection hh with hh
    injection hh with _ ht
    exact hne ht.symm
theorem own_setCell {w:World} {base:Nat} {e:TypeId} {size n:Nat} {v:Value} {xs:List Value} (h:w.ownsRow base e size v n xs) {p:Addr} (hne:some p.block≠v.ownBlock) (u:Value):(w.setCell p u).ownsRow base e size v n xs:=by
  obtain ⟨h1,h2⟩:=h
  refine ⟨h1,?_⟩
  rcases h2 with h2|⟨g,cap,cur,rfl,hg,hh,r⟩
  · exact .inl h2
  · exact .inr ⟨g,cap,cur,rfl,hg,by rw [Below.heap_setCell _ _ _ _ (fun e=>hne (by rw [e];rfl))];exact hh,r⟩
theorem blk_set {w:World} {g:Nat} {t:TypeId} {cs:Array Value} (h:w.heap[g]?=some (.cells cs t (0,0))) (i:Nat) (u:Value):(w.setCell ⟨g,i,none⟩ u).heap[g]?=some (.cells (cs.setIfInBounds i u) t (0,0)):=by
  simp [World.setCell,Array.getElem?_modify,h]
theorem blk_lt {w:World} {g:Nat} {o:Obj} (h:w.heap[g]?=some o):g<w.heap.size:=(Array.getElem?_eq_some_iff.1 h).1
theorem blk_cell {w:World} {g:Nat} {t:TypeId} {cs:Array Value} (h:w.heap[g]?=some (.cells cs t (0,0))) (i:Nat):w.cell? ⟨g,i,none⟩=cs[i]?:=cell_of_row w g i cs t (0,0) h
theorem blk_frozen {w:World} {g:Nat} {t:TypeId} {cs:Array Value} (h:w.heap[g]?=some (.cells cs t (0,0))) (i:Nat):w.frozen? ⟨g,i,none⟩=false:=by simp [World.frozen?,h]
def KeepBut (w w':World) (g:Nat) (row:Option Nat):Prop:=w.heap.size≤w'.heap.size∧∀ i,i<w.heap.size→i≠g→some i≠row→w'.heap[i]?=w.heap[i]?
theorem KeepBut.refl (w:World) (g:Nat) (row:Option Nat):KeepBut w w g row:=⟨Nat.le_refl _,fun _ _ _ _=>rfl⟩
theorem KeepBut.of_grown {w w1:World} {row:Option Nat} (h:w.grownBy w1 row) (g:Nat):KeepBut w w1 g row:=⟨h.size,fun i hi _ hr=>h.block i hi hr⟩
theorem KeepBut.of_below {w w1:World} (h:Below w.heap.size w w1) (g:Nat) (row:Option Nat):KeepBut w w1 g row:=⟨h.size,fun i hi _ _=>h.block i hi⟩
theorem KeepBut.set_ {w w1:World} {g:Nat} {row:Option Nat} (h:KeepBut w w1 g row) (j:Nat) (u:Value):KeepBut w (w1.setCell ⟨g,j,none⟩ u) g row :=
  ⟨by simpa [World.setCell] using h.1,fun i hi hg hr=>(Below.heap_setCell w1 ⟨g,j,none⟩ u i hg).trans (h.2 i hi hg hr)⟩
theorem KeepBut.trans {w w1 w2:World} {g:Nat} {row row1:Option Nat} (h:KeepBut w w1 g row) (k:KeepBut w1 w2 g row1) (hr:row1=row∨∃ b,row1=some b∧w.heap.size≤b):KeepBut w w2 g row :=
  ⟨Nat.le_trans h.1 k.1,fun i hi hg hn=>by
    refine (k.2 i (Nat.lt_of_lt_of_le hi h.1) hg ?_).trans (h.2 i hi hg hn)
    rcases hr with rfl|⟨b,rfl,hb⟩
    · exact hn
    · intro e
      injection e with e
      omega⟩
theorem KeepBut.blk {w w1:World} {g g':Nat} {row:Option Nat} {o:Obj} (h:KeepBut w w1 g row) (hb:w.heap[g']?=some o) (hg:g'≠g) (hr:some g'≠row):w1.heap[g']?=some o:=(h.2 g' (blk_lt hb) hg hr).trans hb
theorem KeepBut.own {w w1:World} {g:Nat} {row:Option Nat} {base:Nat} {e:TypeId} {size n:Nat} {v:Value} {xs:List Value} (h:KeepBut w w1 g row) (ho:w.ownsRow base e size v n xs) (hg:v.ownBlock≠some g) (hr:v.ownBlock=none∨v.ownBlock≠row):w1.ownsRow base e size v n xs:=by
  obtain ⟨h1,h2⟩:=ho
  refine ⟨h1,?_⟩
  rcases h2 with h2|⟨b,cap,cur,rfl,hb,hh,r⟩
  · exact .inl h2
  · refine .inr ⟨b,cap,cur,rfl,hb,h.blk hh ?_ ?_,r⟩
    · intro e
      exact hg (by rw [← e];rfl)
    · rcases hr with hr|hr
      · simp [Value.ownBlock] at hr
      · exact hr
def Ev {α:Type} (g:Nat→Option α) (r:α):Prop:=∃ K,∀ k,K≤k→g k=some r
theorem Ev.of {α:Type} {g:Nat→Option α} {r:α} (hg:∀ k,LeO (g k) (g (k+1))) {k:Nat} (h:g k=some r):Ev g r:=⟨k,fun _ hk=>at_rounds hg hk h⟩
theorem Ev.now {α:Type} (r:α):Ev (fun _=>some r) r:=⟨0,fun _ _=>rfl⟩
theorem Ev.rounds {α:Type} {g:Nat→Option α} {r:α} (h:Ev g r):∃ k,g k=some r:=by
  obtain ⟨K,h⟩:=h
  exact ⟨K,h K (Nat.le_refl _)⟩
theorem Ev.bind {α β:Type} {g:Nat→Option α} {f:Nat→α→Option β} {a:α} {r:β} (h:Ev g a) (k:Ev (fun n=>f n a) r):Ev (fun n=>(g n).bind (f n)) r:=by
  obtain ⟨K,h⟩:=h
  obtain ⟨K',k⟩:=k
  refine ⟨max K K',fun n hn=>?_⟩
  have h1:=h n (by omega)
  have h2:=k n (by omega)
  simp only [h1,Option.bind_some]
  exact h2
theorem Ev.step {α:Type} {g f:Nat→Option α} {r:α} (h:∀ k,g (k+1)=f k) (k:Ev f r):Ev g r:=by
  obtain ⟨K,k⟩:=k
  refine ⟨K+1,fun n hn=>?_⟩
  obtain ⟨m,rfl⟩:∃ m,n=m+1:=⟨n-1,by omega⟩
  rw [h]
  exact k m (by omega)
theorem Ev.congr {α:Type} {g f:Nat→Option α} {r:α} (h:∀ k,g k=f k) (k:Ev f r):Ev g r:=by
  obtain ⟨K,k⟩:=k
  exact ⟨K,fun n hn=>(h n).trans (k n hn)⟩
section
variable {P:Program} {ops:Array Oper} {o:Oper} {a:Act} {Q:Exit→Act→World→Prop} {K:Act→World→Prop}
theorem step_append_cells {w0 W:World} (base:Nat) (hw:Region.wanted o (yielded ops a.tmps)=true) (s x:Operand) (t e:TypeId) (z:Value) (size bytes:Nat)
    (ho:o.op = .call { callee := .builtin .append,args:=#[s,x],argTypes:=#[t,t] })
    (ht:P.underlying t=some (.slice e)) (hinfo:(P.info? e).map (fun i=>(i.zero,i.size,i.bytes))=some (some z,size,bytes)) (hz:z.cells.size=size) (hs0:0<size) (hb0:0<bytes)
    (v:Value) (n:Nat) (xs ys:List Value) (hs:a.eval s=v) (hx:a.eval x = .slice (some ⟨W.heap.size,0,none⟩) 1 1) (hys:ys.length=size) (h1:∀ u∈ys,u.oneCell'=true)
    (HO:W.ownsRow base e size v n xs) (HB:Below base w0 W) (hbase:base≤W.heap.size) (hl:(n+1)*bytes≤140737488355328)
    (h:∀ v1 w1,w1.ownsRow base e size v1 (n+1) (xs++ys)→Below base w0 w1→W.grownBy w1 v.ownBlock→(v1.ownBlock=v.ownBlock∨∃ b,v1.ownBlock=some b∧W.heap.size≤b)→K (a.put o.dst v1) w1) :
    if Region.wanted o (yielded ops a.tmps)=true then Oper.wp P o a (W.alloc (.cells ys.toArray e)) K Q else K (a.put o.dst undef) (W.alloc (.cells ys.toArray e)):=by
  obtain ⟨i0,hi,hzz⟩:=Option.map_eq_some_iff.1 hinfo
  simp only [Prod.mk.injEq] at hzz
  obtain ⟨hz0,hz1,hz2⟩:=hzz
  have hlen:n+1≤140737488355328:=Nat.le_trans (Nat.le_mul_of_pos_right _ hb0) hl
  rw [if_pos hw]
  obtain ⟨v1,w1,hr,hown,hg,_,hat⟩:=run_append_own_at (P:=P) (W.alloc (.cells ys.toArray e)) base t o.type e i0 z size bytes ht hi hz0 hz1 hz2 hz hs0 v n xs (HO.alloc _) ⟨W.heap.size,0,none⟩ 1 1 ys (by rw [hys];simp)
    (by simpa using World.news_of_block (cs:=ys.toArray) (t:=e) (fr:=(0,0)) (heap_alloc_new W (.cells ys.toArray e))) h1 (by simp only [maxLen];omega) hl (by simp;omega)
  unfold Oper.wp execOp
  simp only [ho,resolve,invoke,builtin,Sem.run_bind,Sem.run_pure,Result.andThen_ok,List.map_toArray,List.map_cons,List.map_nil,hs,hx,hr]
  refine h v1 w1 hown ((HB.alloc hbase _).grown hg (by simp;omega) (own_base HO)) (World.grownBy.trans (World.grownBy_alloc W _ _) hg) ?_
  rcases hat with hat|hat
  · exact .inl hat
  · exact .inr ⟨_,hat,by simp⟩
end
theorem own_weaken {w:World} {base base':Nat} {e:TypeId} {size n:Nat} {v:Value} {xs:List Value} (h:w.ownsRow base e size v n xs) (hb:base'≤base):w.ownsRow base' e size v n xs:=by
  obtain ⟨h1,h2⟩:=h
  refine ⟨h1,?_⟩
  rcases h2 with h2|⟨g,cap,cur,rfl,hg,r⟩
  · exact .inl h2
  · exact .inr ⟨g,cap,cur,rfl,Nat.le_trans hb hg,r⟩
section
variable {α:Type} {enc:α→Value} {d:α}
def encs (enc:α→Value) (xs:List α):List Value:=xs.map enc
def rdOf (d:α) (xs:List α) (i:Int):α:=xs.getD i.toNat d
theorem encs_length (xs:List α):(encs enc xs).length=xs.length:=by simp [encs]
theorem encs_append (xs ys:List α):encs enc (xs++ys)=encs enc xs++encs enc ys:=by simp [encs]
theorem encs_get (xs:List α) (j:Nat) (h:j<xs.length):(encs enc xs)[j]?=some (enc (xs.getD j d)):=by
  simp [encs,List.getElem?_eq_getElem h,List.getD_eq_getElem?_getD]
def ReadsOf (enc:α→Value) (d:α) (w:World) (A:Option Addr) (n:Nat) (xs:List α):Prop :=
  xs.length=n∧n≤9223372036854775807∧(0<n→∃ ad,A=some ad∧∀ j,j<n→w.cell? (ad.add j)=some (enc (xs.getD j d)))
theorem ReadsOf.at_ {w:World} {A:Option Addr} {n:Nat} {xs:List α} (h:ReadsOf enc d w A n xs) (i:Int) (h0:0≤i) (h1:i<n):∃ ad,A=some ad∧w.cell? (ad.add i.toNat)=some (enc (rdOf d xs i)):=by
  obtain ⟨ad,e,hc⟩:=h.2.2 (by omega)
  exact ⟨ad,e,hc _ (by omega)⟩
theorem ReadsOf.below {w w1:World} {A:Option Addr} {n:Nat} {xs:List α} (h:ReadsOf enc d w A n xs) (hb:Below w.heap.size w w1):ReadsOf enc d w1 A n xs :=
  ⟨h.1,h.2.1,fun hn=>by
    obtain ⟨ad,e,hc⟩:=h.2.2 hn
    exact ⟨ad,e,fun j hj=>pw_cell_below hb (hc j hj)⟩⟩
theorem ReadsOf.take_ {w:World} {A:Option Addr} {n:Nat} {xs:List α} (h:ReadsOf enc d w A n xs) (i:Nat) (hi:i≤n):ReadsOf enc d w A i (xs.take i):=by
  refine ⟨by rw [List.length_take,h.1];omega,by have:=h.2.1;omega,fun hp=>?_⟩
  obtain ⟨ad,e,hc⟩:=h.2.2 (by omega)
  refine ⟨ad,e,fun j hj=>?_⟩
  rw [hc j (by omega)]
  simp [List.getD_eq_getElem?_getD,hj]
theorem ReadsOf.drop_ {w:World} {A:Option Addr} {n c:Nat} {xs:List α} (h:ReadsOf enc d w A n xs) (i:Nat) (hi:i≤n) (hc:n≤c):ReadsOf enc d w (if c=i then A else A.map (·.add i)) (n-i) (xs.drop i):=by
  refine ⟨by rw [List.length_drop,h.1],by have:=h.2.1;omega,fun hp=>?_⟩
  obtain ⟨ad,rfl,hcell⟩:=h.2.2 (by omega)
  rw [if_neg (by omega)]
  refine ⟨ad.add i,rfl,fun j hj=>?_⟩
  have ha:(ad.add i).add j=ad.add (i+j):=by
    unfold Addr.add
    by_cases h1:i=0<;>by_cases h2:j=0<;>simp [h1,h2,Nat.add_assoc]
  rw [ha,hcell (i+j) (by omega)]
  simp [List.getD_eq_getElem?_getD,List.getElem?_drop]
theorem own_at_of {W:World} {base g n cap:Nat} {e:TypeId} {xs:List α} (h:W.ownsRow base e 1 (.slice (some ⟨g,0,none⟩) n cap) n (encs enc xs)) (i:Int) (h0:0≤i) (h1:i<n) :
    W.cell? ⟨g,i.toNat,none⟩=some (enc (rdOf d xs i))∧W.frozen? ⟨g,i.toNat,none⟩=false:=by
  have hl:xs.length=n:=by have:=h.1;simp [encs] at this;exact this
  constructor
  · have hc:=h.cells (g:=g) rfl i.toNat _ (encs_get (d:=d) xs i.toNat (by omega))
    rwa [add_plain] at hc
  · rcases h.2 with ⟨h',_⟩|⟨g',cap',cur,h',_,hh,_⟩
    · cases h'
    · have:g=g':=by injection h' with h';injection h' with h';injection h' with h'
      subst this
      simp [World.frozen?,hh]
theorem own_store_of {W:World} {base g n cap:Nat} {e:TypeId} {xs:List α} (h:W.ownsRow base e 1 (.slice (some ⟨g,0,none⟩) n cap) n (encs enc xs)) (i:Int) (x:α) :
    (W.setCell ⟨g,i.toNat,none⟩ (enc x)).ownsRow base e 1 (.slice (some ⟨g,0,none⟩) n cap) n (encs enc (xs.set i.toNat x))∧W.grownBy (W.setCell ⟨g,i.toNat,none⟩ (enc x)) (some g):=by
  have hs:=h.stored i.toNat (enc x)
  have he:(encs enc xs).set i.toNat (enc x)=encs enc (xs.set i.toNat x):=by simp [encs,List.map_set]
  rwa [he] at hs
end
section
variable {α:Type} {P:Program} {ops:Array Oper} {rest:List Oper} {o:Oper} {a:Act} {Q:Exit→Act→World→Prop}
theorem print_append_row_of {w0 W:World} (enc:α→Value) (d:α) (base:Nat) (hgd:o.guard=none) (s x:Operand) (t e:TypeId) (z:Value) (bytes:Nat)
    (ho:o.op = .call { callee := .builtin .append,args:=#[s,x],argTypes:=#[t,t] })
    (ht:P.underlying t=some (.slice e)) (hinfo:(P.info? e).map (fun i=>(i.zero,i.size,i.bytes))=some (some z,1,bytes)) (hz:z.cells.size=1) (hb0:0<bytes) (h1:∀ x:α,(enc x).oneCell'=true)
    (v:Value) (xs ys:List α) (A:Option Addr) (m c:Nat) (hs:a.eval s=v) (hx:a.eval x = .slice A m c)
    (HO:W.ownsRow base e 1 v xs.length (encs enc xs)) (HR:ReadsOf enc d W A m ys) (HB:Below base w0 W) (hbase:base≤W.heap.size) (hl:(xs.length+m)*bytes≤140737488355328)
    (h:∀ v1 w1,w1.ownsRow base e 1 v1 (xs++ys).length (encs enc (xs++ys))→Below base w0 w1→W.grownBy w1 v.ownBlock→(v1.ownBlock=v.ownBlock∨∃ b,v1.ownBlock=some b∧W.heap.size≤b)→wpList P ops Q rest (a.put o.dst v1) w1) :
    wpList P ops Q (o::rest) a W:=by
  obtain ⟨i0,hi,hzz⟩:=Option.map_eq_some_iff.1 hinfo
  simp only [Prod.mk.injEq] at hzz
  obtain ⟨hz0,hz1,hz2⟩:=hzz
  have hm:ys.length=m:=HR.1
  have hlen:xs.length+m≤140737488355328:=Nat.le_trans (Nat.le_mul_of_pos_right _ hb0) hl
  have hrun:∃ v1 w1,(Builtin.append_ #[t,t] o.type #[v,.slice A m c]).run P W = .ok v1 w1∧w1.ownsRow base e 1 v1 (xs++ys).length (encs enc (xs++ys))∧W.grownBy w1 v.ownBlock∧(v1.ownBlock=v.ownBlock∨v1.ownBlock=some W.heap.size):=by
    rcases A with _|ad
    · have h0:m=0:=by
        rcases Nat.eq_zero_or_pos m with h0|h0
        · exact h0
        · obtain ⟨ad,h,_⟩:=HR.2.2 h0
          cases h
      subst h0
      obtain rfl:ys=[]:=List.eq_nil_of_length_eq_zero hm
      refine ⟨v,W,?_,by simpa using HO,World.grownBy.refl W _,.inl rfl⟩
      rcases HO.2 with ⟨rfl,hn⟩|⟨g,cap,cur,rfl,_,_,hnc,_⟩
      · simp [Builtin.append_,run_underlying ht,sizeOf,typeInfo,hi,Builtin.lenOf,Builtin.firstCells]
      · simp [Builtin.append_,run_underlying ht,sizeOf,typeInfo,hi,Builtin.lenOf,Builtin.firstCells,hnc,storeCells]
    · have hcells:∀ j u,(encs enc ys)[j]?=some u→W.cell? (ad.add j)=some u:=by
        intro j u hu
        have hj:j<ys.length:=by
          rcases Nat.lt_or_ge j ys.length with h|h
          · exact h
          · simp [encs,List.getElem?_eq_none h] at hu
        obtain ⟨ad',h',hc⟩:=HR.2.2 (by omega)
        injection h' with h'
        subst h'
        rw [encs_get (d:=d) ys j hj] at hu
        rw [← hu]
        exact hc j (by omega)
      obtain ⟨v1,w1,hr,h2,h3,_,h5⟩:=run_append_own_at (P:=P) W base t o.type e i0 z 1 bytes ht hi hz0 hz1 hz2 hz (by omega) v xs.length (encs enc xs) HO ad m c (encs enc ys) (by simp [encs,hm]) hcells
        (by intro u hu;simp only [encs,List.mem_map] at hu;obtain ⟨q,_,rfl⟩:=hu;exact h1 q) (by simp only [maxLen];omega) hl hbase
      exact ⟨v1,w1,hr,by simpa [encs,hm] using h2,h3,h5⟩
  obtain ⟨v1,w1,hr,hown,hg,hat⟩:=hrun
  refine wpList_plain hgd fun K hK=>?_
  unfold Oper.wp execOp
  simp only [ho,resolve,invoke,builtin,Sem.run_bind,Sem.run_pure,Result.andThen_ok,List.map_toArray,List.map_cons,List.map_nil,hs,hx,hr]
  refine hK _ _ (h v1 w1 hown (HB.grown hg hbase (own_base HO)) hg ?_)
  rcases hat with hat|hat
  · exact .inl hat
  · exact .inr ⟨_,hat,Nat.le_refl _⟩
end
def NeRow (v v':Value):Prop:=∀ k,v.ownBlock=some k→v'.ownBlock≠some k
theorem ne_below {W w1:World} {v1 v':Value} {base n size n1 size1:Nat} {e e1:TypeId} {xs xs1:List Value} (h1:w1.ownsRow W.heap.size e1 size1 v1 n1 xs1) (ho:W.ownsRow base e size v' n xs):NeRow v1 v':=by
  intro k hk hk'
  have h2:=own_base h1 k hk
  have h3:=own_lt ho k hk'
  omega
theorem blk_new (w:World) (o:Obj):(w.alloc o).heap[w.heap.size]?=some o:=heap_alloc_new w o
section
variable {P:Program}
end
theorem own_le {w:World} {base n m c size:Nat} {e:TypeId} {A:Option Addr} {xs:List Value} (h:w.ownsRow base e size (.slice A m c) n xs):m≤c:=by
  rcases h.2 with ⟨he,_⟩|⟨g,cap,cur,he,_,_,hnc,_⟩
  · injection he with _ h2 h3
    omega
  · injection he with _ h2 h3
    omega
def OwnRow {α:Type} (R:α→List Value→Prop) (e:TypeId) (size:Nat) (w:World) (base:Nat) (v:Value) (ps:List α):Prop :=
  ∃ inner,w.ownsRow base e size v ps.length inner∧Reps R size ps inner
section
variable {α:Type} {R R':α→List Value→Prop} {e:TypeId} {size:Nat} {w w1:World} {base:Nat} {v:Value} {ps:List α}
theorem OwnRow.none_ (R:α→List Value→Prop) (e:TypeId) (size:Nat) (w:World) (base:Nat):OwnRow R e size w base (.slice none 0 0) []:=⟨[],own_nil _ _ _ _,Reps.none _ _⟩
theorem OwnRow.imp_ (h:OwnRow R e size w base v ps) (hR:∀ p c,R p c→R' p c):OwnRow R' e size w base v ps:=by
  obtain ⟨inner,ho,hr⟩:=h
  exact ⟨inner,ho,hr.imp_ hR⟩
theorem OwnRow.below (h:OwnRow R e size w base v ps) (hb:Below w.heap.size w w1):OwnRow R e size w1 base v ps:=by
  obtain ⟨inner,ho,hr⟩:=h
  exact ⟨inner,pw_own_below ho hb,hr⟩
theorem OwnRow.other (h:OwnRow R e size w base v ps) {row:Option Nat} (hg:w.grownBy w1 row) (hne:v.ownBlock=none∨v.ownBlock≠row):OwnRow R e size w1 base v ps:=by
  obtain ⟨inner,ho,hr⟩:=h
  exact ⟨inner,own_other ho hg hne,hr⟩
theorem OwnRow.set_ (h:OwnRow R e size w base v ps) {g:Nat} {t:TypeId} {cells:Array Value} (hb:w.heap[g]?=some (.cells cells t (0,0))) (ht:e≠t) (j:Nat) (u:Value):OwnRow R e size (w.setCell ⟨g,j,none⟩ u) base v ps:=by
  obtain ⟨inner,ho,hr⟩:=h
  exact ⟨inner,own_setCell ho (own_ne ho hb ht) u,hr⟩
theorem OwnRow.keep (h:OwnRow R e size w base v ps) {g:Nat} {t:TypeId} {cells:Array Value} (hb:w.heap[g]?=some (.cells cells t (0,0))) (ht:e≠t) (hk:KeepBut w w1 g none):OwnRow R e size w1 base v ps:=by
  obtain ⟨inner,ho,hr⟩:=h
  exact ⟨inner,hk.own ho (Ne.symm (own_ne ho hb ht)) (by cases v.ownBlock<;>simp),hr⟩
theorem OwnRow.lower (h:OwnRow R e size w base v ps) {base':Nat} (hb:base'≤base):OwnRow R e size w base' v ps:=by
  obtain ⟨inner,ho,hr⟩:=h
  exact ⟨inner,own_weaken ho hb,hr⟩
theorem OwnRow.slice_ (h:OwnRow R e size w base v ps):∃ A c,v = .slice A ps.length c∧ps.length≤c:=by
  obtain ⟨inner,ho,hr⟩:=h
  obtain ⟨A,c,rfl⟩:=own_slice ho
  exact ⟨A,c,rfl,own_le ho⟩
theorem OwnRow.reads (h:OwnRow R e size w base v ps):∃ A c,v = .slice A ps.length c∧ps.length≤c∧ReadsRow R size w A ps.length ps:=by
  obtain ⟨inner,ho,hr⟩:=h
  obtain ⟨A,c,rfl,hrow⟩:=own_reads_row ho hr rfl
  exact ⟨A,c,rfl,own_le ho,hrow⟩
theorem OwnRow.ne_block (h:OwnRow R e size w base v ps) {g:Nat} {t:TypeId} {cells:Array Value} (hb:w.heap[g]?=some (.cells cells t (0,0))) (ht:e≠t):some g≠v.ownBlock:=by
  obtain ⟨inner,ho,hr⟩:=h
  exact own_ne ho hb ht
theorem OwnRow.lit (W:World) (base:Nat) {inner:List Value} (hr:Reps R size ps inner) (hb:base≤W.heap.size) (hm:ps.length≤9223372036854775807) :
    OwnRow R e size (W.alloc (.cells inner.toArray e)) base (.slice (some ⟨W.heap.size,0,none⟩) ps.length ps.length) ps:=by
  have h:=World.ownsRow_lit (base:=base) (e:=e) (size:=size) W inner.toArray ps.length hb (by simpa [maxLen] using hm) (by simpa using hr.1)
  exact ⟨inner,by simpa using h,hr⟩
end
section
variable {P:Program} {ops:Array Oper} {rest:List Oper} {o:Oper} {a:Act} {Q:Exit→Act→World→Prop} {α:Type} {R:α→List Value→Prop}
theorem OwnRow.append {w0 W:World} (base:Nat) (hgd:o.guard=none) (s x:Operand) (t e:TypeId) (z:Value) (size bytes:Nat)
    (ho:o.op = .call { callee := .builtin .append,args:=#[s,x],argTypes:=#[t,t] })
    (ht:P.underlying t=some (.slice e)) (hinfo:(P.info? e).map (fun i=>(i.zero,i.size,i.bytes))=some (some z,size,bytes)) (hz:z.cells.size=size) (hs0:0<size) (hb0:0<bytes)
    (v:Value) (ps:List α) (p:α) (cs:List Value) (hs:a.eval s=v) (hx:a.eval x = .slice (some ⟨W.heap.size,0,none⟩) 1 1) (hp:R p cs) (hcs:cs.length=size) (h1:∀ u∈cs,u.oneCell'=true)
    (HO:OwnRow R e size W base v ps) (HB:Below base w0 W) (hbase:base≤W.heap.size) (hl:(ps.length+1)*bytes≤140737488355328)
    (h:∀ v1 w1,OwnRow R e size w1 base v1 (ps++[p])→Below base w0 w1→W.grownBy w1 v.ownBlock→(v1.ownBlock=v.ownBlock∨∃ b,v1.ownBlock=some b∧W.heap.size≤b)→wpList P ops Q rest (a.put o.dst v1) w1) :
    wpList P ops Q (o::rest) a (W.alloc (.cells cs.toArray e)):=by
  obtain ⟨inner,hown,hr⟩:=HO
  refine print_append_cells base hgd s x t e z size bytes ho ht hinfo hz hs0 hb0 v ps.length inner cs hs hx hcs h1 hown HB hbase hl ?_
  intro v1 w1 hown1 hb1 hg1 hat1
  exact h v1 w1 ⟨inner++cs,by rw [List.length_append,List.length_singleton];exact hown1,hr.snoc hp hcs⟩ hb1 hg1 hat1
end
section
variable {P:Program} {ops:Array Oper} {o:Oper} {a:Act} {Q:Exit→Act→World→Prop} {K:Act→World→Prop} {α:Type} {R:α→List Value→Prop}
theorem OwnRow.append_step {w0 W:World} (base:Nat) (hw:Region.wanted o (yielded ops a.tmps)=true) (s x:Operand) (t e:TypeId) (z:Value) (size bytes:Nat)
    (ho:o.op = .call { callee := .builtin .append,args:=#[s,x],argTypes:=#[t,t] })
    (ht:P.underlying t=some (.slice e)) (hinfo:(P.info? e).map (fun i=>(i.zero,i.size,i.bytes))=some (some z,size,bytes)) (hz:z.cells.size=size) (hs0:0<size) (hb0:0<bytes)
    (v:Value) (ps:List α) (p:α) (cs:List Value) (hs:a.eval s=v) (hx:a.eval x = .slice (some ⟨W.heap.size,0,none⟩) 1 1) (hp:R p cs) (hcs:cs.length=size) (h1:∀ u∈cs,u.oneCell'=true)
    (HO:OwnRow R e size W base v ps) (HB:Below base w0 W) (hbase:base≤W.heap.size) (hl:(ps.length+1)*bytes≤140737488355328)
    (h:∀ v1 w1,OwnRow R e size w1 base v1 (ps++[p])→Below base w0 w1→W.grownBy w1 v.ownBlock→(v1.ownBlock=v.ownBlock∨∃ b,v1.ownBlock=some b∧W.heap.size≤b)→K (a.put o.dst v1) w1) :
    if Region.wanted o (yielded ops a.tmps)=true then Oper.wp P o a (W.alloc (.cells cs.toArray e)) K Q else K (a.put o.dst undef) (W.alloc (.cells cs.toArray e)):=by
  obtain ⟨inner,hown,hr⟩:=HO
  refine step_append_cells base hw s x t e z size bytes ho ht hinfo hz hs0 hb0 v ps.length inner cs hs hx hcs h1 hown HB hbase hl ?_
  intro v1 w1 hown1 hb1 hg1 hat1
  exact h v1 w1 ⟨inner++cs,by rw [List.length_append,List.length_singleton];exact hown1,hr.snoc hp hcs⟩ hb1 hg1 hat1
end
theorem ReadsRow.inner_ {α:Type} {R:α→List Value→Prop} {size:Nat} {w:World} {ad:Addr} {n:Nat} {ps:List α} (h:ReadsRow R size w (some ad) n ps) :
    ∃ inner,Reps R size ps inner∧∀ j u,inner[j]?=some u→w.cell? (ad.add j)=some u:=by
  have key:∀ m,m≤ps.length→∃ inner,Reps R size (ps.take m) inner∧∀ j u,inner[j]?=some u→w.cell? (ad.add j)=some u:=by
    intro m
    induction m with
    | zero=>exact fun _=>⟨[],Reps.none _ _,fun j u hu=>by simp at hu⟩
    | succ m ih =>
      intro hm
      obtain ⟨inner,hr,hc⟩:=ih (by omega)
      obtain ⟨ad',he,hcell⟩:=h.2.2 (by have:=h.1;omega)
      injection he with he
      subst he
      obtain ⟨c,hcl,hp,hcc⟩:=hcell m _ (List.getElem?_eq_getElem (show m<ps.length by omega))
      refine ⟨inner++c,?_,fun j u hu=>?_⟩
      · rw [List.take_succ_eq_append_getElem (show m<ps.length by omega)]
        exact hr.snoc hp hcl
      · have hil:inner.length=m*size:=by rw [hr.1,List.length_take,Nat.min_eq_left (by omega)]
        rcases Nat.lt_or_ge j inner.length with hj|hj
        · rw [List.getElem?_append_left hj] at hu
          exact hc j u hu
        · rw [List.getElem?_append_right hj] at hu
          have:=hcc (j-inner.length) u hu
          rwa [hil,Nat.add_sub_cancel' (by omega)] at this
  obtain ⟨inner,hr,hc⟩:=key ps.length (Nat.le_refl _)
  rw [List.take_length] at hr
  exact ⟨inner,hr,hc⟩
section
variable {α:Type} {P:Program}
theorem ReadsOf.len_ {enc:α→Value} {d:α} {w:World} {A:Option Addr} {n:Nat} {xs:List α} (h:ReadsOf enc d w A n xs):ReadsOf enc d w A xs.length xs:=by rw [h.1];exact h
end
section
variable {P:Program} {ops:Array Oper} {rest:List Oper} {o:Oper} {a:Act} {Q:Exit→Act→World→Prop}
end
structure Kd (α:Type) where
  sz:Nat
  E:List Nat
  K:World→α→List Value→Prop
  M:World→Nat→(Nat→Prop)→α→List Value→Prop
  K_len:∀ {w x cs},K w x cs→cs.length=sz
  K_one:∀ {w x cs},K w x cs→∀ u∈cs,u.oneCell'=true
  K_below:∀ {w w1:World} {x cs},Below w.heap.size w w1→K w x cs→K w1 x cs
  K_of_M:∀ {w base ok x cs},M w base ok x cs→K w x cs
  M_mono:∀ {w base ok ok' x cs},(∀ k,ok k→ok' k)→M w base ok x cs→M w base ok' x cs
  M_bound:∀ {w:World} {base ok x cs},M w base ok x cs→M w base (fun k=>ok k∧base≤k∧k<w.heap.size∧∃ q,q∈E∧∃ cells,w.heap[k]?=some (.cells cells q (0,0))) x cs
  M_move:∀ {w w1:World} {base ok x cs},(∀ k,ok k→w1.heap[k]?=w.heap[k]?)→M w base ok x cs→M w1 base ok x cs
  M_lower:∀ {w base base' ok x cs},base'≤base→M w base ok x cs→M w base' ok x cs
theorem own_move {w w1:World} {base:Nat} {e:TypeId} {size n:Nat} {v:Value} {xs:List Value} (h:w.ownsRow base e size v n xs) (hm:∀ k,v.ownBlock=some k→w1.heap[k]?=w.heap[k]?):w1.ownsRow base e size v n xs:=by
  obtain ⟨h1,h2⟩:=h
  refine ⟨h1,?_⟩
  rcases h2 with h2|⟨g,cap,cur,rfl,hg,hh,r⟩
  · exact .inl h2
  · exact .inr ⟨g,cap,cur,rfl,hg,(hm g (by simp [Value.ownBlock])).trans hh,r⟩
theorem own_typed {w:World} {base:Nat} {e:TypeId} {size n:Nat} {v:Value} {xs:List Value} (h:w.ownsRow base e size v n xs) (k:Nat) (hk:v.ownBlock=some k):∃ cells,w.heap[k]?=some (.cells cells e (0,0)):=by
  rcases h.2 with ⟨rfl,_⟩|⟨g,cap,cur,rfl,hg,hh,r⟩
  · simp [Value.ownBlock] at hk
  · have:g=k:=by simpa [Value.ownBlock] using hk
    subst this
    exact ⟨cur,hh⟩
namespace Kd
def C {α:Type} (d:Kd α) (w:World) (A:Option Addr) (n:Nat) (xs:List α):Prop:=ReadsRow (d.K w) d.sz w A n xs
def R {α:Type} (d:Kd α) (e:Nat) (w:World) (base:Nat) (ok:Nat→Prop) (v:Value) (xs:List α):Prop :=
  (∀ k,v.ownBlock=some k→ok k)∧OwnRow (d.M w base (fun k=>ok k∧some k≠v.ownBlock)) e d.sz w base v xs
section
variable {α:Type} {d:Kd α} {e:Nat} {w w1:World} {base:Nat} {ok ok':Nat→Prop} {v:Value} {xs:List α}
theorem C_below {A:Option Addr} {n:Nat} (h:d.C w A n xs) (hb:Below w.heap.size w w1):d.C w1 A n xs:=ReadsRow.imp_ h hb (fun _ _ hp=>d.K_below hb hp)
theorem R_nil (d:Kd α) (e:Nat) (w:World) (base:Nat) (ok:Nat→Prop):d.R e w base ok (.slice none 0 0) []:=⟨fun k hk=>by simp [Value.ownBlock] at hk,OwnRow.none_ _ _ _ _ _⟩
theorem R_mono (h:d.R e w base ok v xs) (hok:∀ k,ok k→ok' k):d.R e w base ok' v xs:=⟨fun k hk=>hok k (h.1 k hk),h.2.imp_ (fun _ _ hp=>d.M_mono (fun k hk=>⟨hok k hk.1,hk.2⟩) hp)⟩
theorem R_bound (h:d.R e w base ok v xs):d.R e w base (fun k=>ok k∧base≤k∧k<w.heap.size∧∃ q,q∈e::d.E∧∃ cells,w.heap[k]?=some (.cells cells q (0,0))) v xs:=by
  obtain ⟨h0,inner,ho,hr⟩:=h
  refine ⟨fun k hk=>?_,inner,ho,hr.imp_ (fun _ _ hp=>d.M_mono (fun k hk=>?_) (d.M_bound hp))⟩
  · obtain ⟨cells,hc⟩:=own_typed ho k hk
    exact ⟨h0 k hk,own_base ho k hk,own_lt ho k hk,e,List.mem_cons_self,cells,hc⟩
  · obtain ⟨⟨h1,h2⟩,h3,h4,q,hq,hc⟩:=hk
    exact ⟨⟨h1,h3,h4,q,List.mem_cons_of_mem _ hq,hc⟩,h2⟩
theorem R_move (h:d.R e w base ok v xs) (hm:∀ k,ok k→w1.heap[k]?=w.heap[k]?):d.R e w1 base ok v xs:=by
  obtain ⟨h0,inner,ho,hr⟩:=h
  exact ⟨h0,inner,own_move ho (fun k hk=>hm k (h0 k hk)),hr.imp_ (fun _ _ hp=>d.M_move (fun k hk=>hm k hk.1) hp)⟩
theorem R_lower {base':Nat} (h:d.R e w base ok v xs) (hb:base'≤base):d.R e w base' ok v xs:=by
  obtain ⟨h0,inner,ho,hr⟩:=h
  exact ⟨h0,inner,own_weaken ho hb,hr.imp_ (fun _ _ hp=>d.M_lower hb hp)⟩
theorem R_step (h:d.R e w base ok v xs) (hm:∀ k,ok k→k<w.heap.size→w1.heap[k]?=w.heap[k]?):d.R e w1 base ok v xs :=
  R_mono (R_move (R_bound h) (fun k hk=>hm k hk.1 hk.2.2.1)) (fun _ hk=>hk.1)
theorem M_step {x:α} {cs:List Value} (h:d.M w base ok x cs) (hm:∀ k,ok k→k<w.heap.size→w1.heap[k]?=w.heap[k]?):d.M w1 base ok x cs :=
  d.M_mono (fun _ hk=>hk.1) (d.M_move (fun k hk=>hm k hk.1 hk.2.2.1) (d.M_bound h))
theorem R_below (h:d.R e w base ok v xs) (hb:Below w.heap.size w w1):d.R e w1 base ok v xs:=R_step h (fun k _ hk=>hb.block k hk)
theorem M_below {x:α} {cs:List Value} (h:d.M w base ok x cs) (hb:Below w.heap.size w w1):d.M w1 base ok x cs:=M_step h (fun k _ hk=>hb.block k hk)
theorem R_grown (h:d.R e w base ok v xs) {row:Option Nat} (hg:w.grownBy w1 row) (hok:∀ k,ok k→some k≠row):d.R e w1 base ok v xs:=R_step h (fun k ho hk=>hg.block k hk (hok k ho))
theorem M_grown {x:α} {cs:List Value} (h:d.M w base ok x cs) {row:Option Nat} (hg:w.grownBy w1 row) (hok:∀ k,ok k→some k≠row):d.M w1 base ok x cs:=M_step h (fun k ho hk=>hg.block k hk (hok k ho))
theorem R_far (h:d.R e w base ok v xs) {p:Addr} (hok:∀ k,ok k→k≠p.block) (u:Value):d.R e (w.setCell p u) base ok v xs:=R_step h (fun k ho _=>Below.heap_setCell w p u k (hok k ho))
theorem M_far {x:α} {cs:List Value} (h:d.M w base ok x cs) {p:Addr} (hok:∀ k,ok k→k≠p.block) (u:Value):d.M (w.setCell p u) base ok x cs:=M_step h (fun k ho _=>Below.heap_setCell w p u k (hok k ho))
theorem R_keep (h:d.R e w base ok v xs) {g:Nat} (hk:KeepBut w w1 g none) (hok:∀ k,ok k→k≠g):d.R e w1 base ok v xs:=R_step h (fun k ho hlt=>hk.2 k hlt (hok k ho) (by simp))
theorem M_keep {x:α} {cs:List Value} (h:d.M w base ok x cs) {g:Nat} (hk:KeepBut w w1 g none) (hok:∀ k,ok k→k≠g):d.M w1 base ok x cs:=M_step h (fun k ho hlt=>hk.2 k hlt (hok k ho) (by simp))
theorem R_types (h:d.R e w base ok v xs) {g t:Nat} {cells:Array Value} (hb:w.heap[g]?=some (.cells cells t (0,0))) (ht:∀ q,q∈e::d.E→q≠t):d.R e w base (fun k=>ok k∧k≠g) v xs :=
  R_mono (R_bound h) (fun k hk=>⟨hk.1,by
    obtain ⟨_,_,_,q,hq,cells',hc⟩:=hk
    rintro rfl
    rw [hc] at hb
    injection hb with hb
    injection hb with _ hb
    exact ht q hq hb⟩)
theorem M_types {x:α} {cs:List Value} (h:d.M w base ok x cs) {g t:Nat} {cells:Array Value} (hb:w.heap[g]?=some (.cells cells t (0,0))) (ht:∀ q,q∈d.E→q≠t):d.M w base (fun k=>ok k∧k≠g) x cs :=
  d.M_mono (fun k hk=>⟨hk.1,by
    obtain ⟨_,_,_,q,hq,cells',hc⟩:=hk
    rintro rfl
    rw [hc] at hb
    injection hb with hb
    injection hb with _ hb
    exact ht q hq hb⟩) (d.M_bound h)
theorem R_set (h:d.R e w base ok v xs) {g t:Nat} {cells:Array Value} (hb:w.heap[g]?=some (.cells cells t (0,0))) (ht:∀ q,q∈e::d.E→q≠t) (j:Nat) (u:Value):d.R e (w.setCell ⟨g,j,none⟩ u) base ok v xs :=
  R_mono (R_far (p:=⟨g,j,none⟩) (R_types h hb ht) (fun _ hk=>hk.2) u) (fun _ hk=>hk.1)
theorem R_reads (h:d.R e w base ok v xs):∃ A c,v = .slice A xs.length c∧xs.length≤c∧d.C w A xs.length xs:=by
  obtain ⟨A,c,he,hl,hr⟩:=OwnRow.reads h.2
  exact ⟨A,c,he,hl,hr.imp_ (Below.refl _ _) (fun _ _ hp=>d.K_of_M hp)⟩
theorem R_slice (h:d.R e w base ok v xs):∃ A c,v = .slice A xs.length c:=by
  obtain ⟨A,c,he,_⟩:=R_reads h
  exact ⟨A,c,he⟩
theorem R_own (h:d.R e w base ok v xs):∃ inner,w.ownsRow base e d.sz v xs.length inner:=by
  obtain ⟨_,inner,ho,_⟩:=h
  exact ⟨inner,ho⟩
theorem R_ne (h:d.R e w base ok v xs) {g t:Nat} {cells:Array Value} (hb:w.heap[g]?=some (.cells cells t (0,0))) (ht:e≠t):some g≠v.ownBlock:=OwnRow.ne_block h.2 hb ht
theorem R_new {W:World} {b e0 s0 n0:Nat} {u:Value} {ys:List Value} (h:d.R e w W.heap.size ok v xs) (ho:W.ownsRow b e0 s0 u n0 ys):d.R e w W.heap.size (fun k=>ok k∧some k≠u.ownBlock) v xs :=
  R_mono (R_bound h) (fun k hk=>⟨hk.1,fun e=>by have:=own_lt ho k e.symm;omega⟩)
theorem M_new {W:World} {b e0 s0 n0:Nat} {u:Value} {ys:List Value} {x:α} {cs:List Value} (h:d.M w W.heap.size ok x cs) (ho:W.ownsRow b e0 s0 u n0 ys):d.M w W.heap.size (fun k=>ok k∧some k≠u.ownBlock) x cs :=
  d.M_mono (fun k hk=>⟨hk.1,fun e=>by have:=own_lt ho k e.symm;omega⟩) (d.M_bound h)
end
def scalar {α:Type} (enc:α→Value) (h1:∀ x,(enc x).oneCell'=true):Kd α where
  sz:=1
  E:=[]
  K:=fun _ x cs=>cs=[enc x]
  M:=fun _ _ _ x cs=>cs=[enc x]
  K_len:=fun h=>by rw [h];rfl
  K_one:=fun h u hu=>by
    rw [h] at hu
    rw [List.mem_singleton.1 hu]
    exact h1 _
  K_below:=fun _ h=>h
  K_of_M:=fun h=>h
  M_mono:=fun _ h=>h
  M_bound:=fun h=>h
  M_move:=fun _ h=>h
  M_lower:=fun _ h=>h
def int (k:IntKind):Kd Int:=scalar (Value.int k) (fun _=>rfl)
def bool:Kd Bool:=scalar Value.bool (fun _=>rfl)
def string:Kd ByteArray:=scalar Value.string (fun _=>rfl)
def slice {α:Type} (e:Nat) (d:Kd α):Kd (List α) where
  sz:=1
  E:=e::d.E
  K:=fun w xs cs=>∃ A c,cs=[.slice A xs.length c]∧xs.length≤c∧d.C w A xs.length xs
  M:=fun w base ok xs cs=>∃ v,cs=[v]∧d.R e w base ok v xs
  K_len:=by
    rintro w x cs ⟨A,c,rfl,_⟩
    rfl
  K_one:=by
    rintro w x cs ⟨A,c,rfl,_⟩ u hu
    rw [List.mem_singleton.1 hu]
    rfl
  K_below:=by
    rintro w w1 x cs hb ⟨A,c,rfl,hl,hr⟩
    exact ⟨A,c,rfl,hl,C_below hr hb⟩
  K_of_M:=by
    rintro w base ok x cs ⟨v,rfl,h⟩
    obtain ⟨A,c,rfl,hl,hr⟩:=R_reads h
    exact ⟨A,c,rfl,hl,hr⟩
  M_mono:=by
    rintro w base ok ok' x cs hok ⟨v,rfl,h⟩
    exact ⟨v,rfl,R_mono h hok⟩
  M_bound:=by
    rintro w base ok x cs ⟨v,rfl,h⟩
    exact ⟨v,rfl,R_bound h⟩
  M_move:=by
    rintro w w1 base ok x cs hm ⟨v,rfl,h⟩
    exact ⟨v,rfl,R_move h hm⟩
  M_lower:=by
    rintro w base base' ok x cs hb ⟨v,rfl,h⟩
    exact ⟨v,rfl,R_lower h hb⟩
def pair {α β:Type} (a:Kd α) (b:Kd β):Kd (α × β) where
  sz:=a.sz+b.sz
  E:=a.E++b.E
  K:=fun w x cs=>∃ c0 c1,cs=c0++c1∧a.K w x.1 c0∧b.K w x.2 c1
  M:=fun w base ok x cs=>∃ c0 c1,cs=c0++c1∧a.M w base ok x.1 c0∧b.M w base ok x.2 c1
  K_len:=by
    rintro w x cs ⟨c0,c1,rfl,h0,h1⟩
    rw [List.length_append,a.K_len h0,b.K_len h1]
  K_one:=by
    rintro w x cs ⟨c0,c1,rfl,h0,h1⟩ u hu
    rcases List.mem_append.1 hu with hu|hu
    · exact a.K_one h0 u hu
    · exact b.K_one h1 u hu
  K_below:=by
    rintro w w1 x cs hb ⟨c0,c1,rfl,h0,h1⟩
    exact ⟨c0,c1,rfl,a.K_below hb h0,b.K_below hb h1⟩
  K_of_M:=by
    rintro w base ok x cs ⟨c0,c1,rfl,h0,h1⟩
    exact ⟨c0,c1,rfl,a.K_of_M h0,b.K_of_M h1⟩
  M_mono:=by
    rintro w base ok ok' x cs hok ⟨c0,c1,rfl,h0,h1⟩
    exact ⟨c0,c1,rfl,a.M_mono hok h0,b.M_mono hok h1⟩
  M_bound:=by
    rintro w base ok x cs ⟨c0,c1,rfl,h0,h1⟩
    refine ⟨c0,c1,rfl,a.M_mono ?_ (a.M_bound h0),b.M_mono ?_ (b.M_bound h1)⟩
    · rintro k ⟨h2,h3,h4,q,hq,hc⟩
      exact ⟨h2,h3,h4,q,List.mem_append_left _ hq,hc⟩
    · rintro k ⟨h2,h3,h4,q,hq,hc⟩
      exact ⟨h2,h3,h4,q,List.mem_append_right _ hq,hc⟩
  M_move:=by
    rintro w w1 base ok x cs hm ⟨c0,c1,rfl,h0,h1⟩
    exact ⟨c0,c1,rfl,a.M_move hm h0,b.M_move hm h1⟩
  M_lower:=by
    rintro w base base' ok x cs hb ⟨c0,c1,rfl,h0,h1⟩
    exact ⟨c0,c1,rfl,a.M_lower hb h0,b.M_lower hb h1⟩
def iso {α β:Type} (d:Kd α) (f:β→α):Kd β where
  sz:=d.sz
  E:=d.E
  K:=fun w x cs=>d.K w (f x) cs
  M:=fun w base ok x cs=>d.M w base ok (f x) cs
  K_len:=d.K_len
  K_one:=d.K_one
  K_below:=d.K_below
  K_of_M:=d.K_of_M
  M_mono:=d.M_mono
  M_bound:=d.M_bound
  M_move:=d.M_move
  M_lower:=d.M_lower
def bot {α:Type} (sz:Nat) (E:List Nat):Kd α where
  sz:=sz
  E:=E
  K:=fun _ _ _=>False
  M:=fun _ _ _ _ _=>False
  K_len:=fun h=>h.elim
  K_one:=fun h=>h.elim
  K_below:=fun _ h=>h
  K_of_M:=fun h=>h
  M_mono:=fun _ h=>h
  M_bound:=fun h=>h
  M_move:=fun _ h=>h
  M_lower:=fun _ h=>h
def upto {α:Type} (F:Kd α→Kd α) (sz:Nat) (E:List Nat):Nat→Kd α
  | 0=>bot sz E
  | n+1=>F (upto F sz E n)
def fix {α:Type} (F:Kd α→Kd α) (sz:Nat) (E:List Nat) (hs:∀ n,(upto F sz E n).sz=sz) (hE:∀ n q,q∈(upto F sz E n).E→q∈E):Kd α where
  sz:=sz
  E:=E
  K:=fun w x cs=>∃ n,(upto F sz E n).K w x cs
  M:=fun w base ok x cs=>∃ n,(upto F sz E n).M w base ok x cs
  K_len:=by
    rintro w x cs ⟨n,h⟩
    rw [(upto F sz E n).K_len h,hs n]
  K_one:=by
    rintro w x cs ⟨n,h⟩
    exact (upto F sz E n).K_one h
  K_below:=by
    rintro w w1 x cs hb ⟨n,h⟩
    exact ⟨n,(upto F sz E n).K_below hb h⟩
  K_of_M:=by
    rintro w base ok x cs ⟨n,h⟩
    exact ⟨n,(upto F sz E n).K_of_M h⟩
  M_mono:=by
    rintro w base ok ok' x cs hok ⟨n,h⟩
    exact ⟨n,(upto F sz E n).M_mono hok h⟩
  M_bound:=by
    rintro w base ok x cs ⟨n,h⟩
    refine ⟨n,(upto F sz E n).M_mono ?_ ((upto F sz E n).M_bound h)⟩
    rintro k ⟨h2,h3,h4,q,hq,hc⟩
    exact ⟨h2,h3,h4,q,hE n q hq,hc⟩
  M_move:=by
    rintro w w1 base ok x cs hm ⟨n,h⟩
    exact ⟨n,(upto F sz E n).M_move hm h⟩
  M_lower:=by
    rintro w base base' ok x cs hb ⟨n,h⟩
    exact ⟨n,(upto F sz E n).M_lower hb h⟩
theorem C_get {α:Type} {d:Kd α} {w:World} {A:Option Addr} {n:Nat} {xs:List α} (h:d.C w A n xs) (z:α) (i:Int) (h0:0≤i) (h1:i<n) :
    ∃ ad c,A=some ad∧c.length=d.sz∧d.K w (xs.getD i.toNat z) c∧∀ j u,c[j]?=some u→w.cell? (ad.add (i.toNat*d.sz+j))=some u:=ReadsRow.get_ h z i h0 h1
theorem R_appended {α:Type} {d:Kd α} {e base:Nat} {ok okp:Nat→Prop} {W w1:World} {v v1:Value} {xs:List α} {p:α} {inner cs:List Value} (h0:∀ k,v.ownBlock=some k→ok k) (hr:Reps (d.M W base (fun k=>ok k∧some k≠v.ownBlock)) d.sz xs inner) (hp:d.M W base okp p cs) (hokp:∀ k,okp k→ok k∧some k≠v.ownBlock) (hfresh:∀ k,W.heap.size≤k→ok k)
    (hown:w1.ownsRow base e d.sz v1 (xs.length+1) (inner++cs)) (hg:W.grownBy w1 v.ownBlock) (hat:v1.ownBlock=v.ownBlock∨∃ b,v1.ownBlock=some b∧W.heap.size≤b):d.R e w1 base ok v1 (xs++[p]):=by
  have hne:∀ k,some k≠v.ownBlock→k<W.heap.size→some k≠v1.ownBlock:=by
    intro k hk hlt
    rcases hat with hat|⟨b,hb,hle⟩
    · rw [hat];exact hk
    · rw [hb]
      intro he
      injection he with he
      omega
  have step:∀ {q:α} {c:List Value} {o:Nat→Prop},d.M W base o q c→(∀ k,o k→ok k∧some k≠v.ownBlock)→d.M w1 base (fun k=>ok k∧some k≠v1.ownBlock) q c:=by
    intro q c o hq ho
    have h1:=d.M_move (w1:=w1) (fun k hk=>hg.block k hk.2.2.1 (ho k hk.1).2) (d.M_bound hq)
    exact d.M_mono (fun k hk=>⟨(ho k hk.1).1,hne k (ho k hk.1).2 hk.2.2.1⟩) h1
  refine ⟨fun k hk=>?_,inner++cs,by rw [List.length_append,List.length_singleton];exact hown,?_⟩
  · rcases hat with hat|⟨b,hb,hle⟩
    · exact h0 k (hat ▸ hk)
    · rw [hb] at hk
      injection hk with hk
      exact hfresh k (by omega)
  · exact (hr.imp_ (fun _ _ hq=>step hq (fun _ hk=>hk))).snoc (step hp hokp) (d.K_len (d.K_of_M hp))
section
variable {P:Program} {ops:Array Oper} {rest:List Oper} {o:Oper} {a:Act} {Q:Exit→Act→World→Prop} {α:Type}
theorem R_append (d:Kd α) {w0 W:World} (base:Nat) (hgd:o.guard=none) (s x:Operand) (t e:TypeId) (z:Value) (bytes:Nat)
    (ho:o.op = .call { callee := .builtin .append,args:=#[s,x],argTypes:=#[t,t] })
    (ht:P.underlying t=some (.slice e)) (hinfo:(P.info? e).map (fun i=>(i.zero,i.size,i.bytes))=some (some z,d.sz,bytes)) (hz:z.cells.size=d.sz) (hs0:0<d.sz) (hb0:0<bytes)
    (v:Value) (xs:List α) (p:α) (cs:List Value) (ok okp:Nat→Prop) (hs:a.eval s=v) (hx:a.eval x = .slice (some ⟨W.heap.size,0,none⟩) 1 1) (hp:d.M W base okp p cs) (hokp:∀ k,okp k→ok k∧some k≠v.ownBlock) (hfresh:∀ k,W.heap.size≤k→ok k)
    (HO:d.R e W base ok v xs) (HB:Below base w0 W) (hbase:base≤W.heap.size) (hl:(xs.length+1)*bytes≤140737488355328)
    (h:∀ v1 w1,d.R e w1 base ok v1 (xs++[p])→Below base w0 w1→W.grownBy w1 v.ownBlock→(v1.ownBlock=v.ownBlock∨∃ b,v1.ownBlock=some b∧W.heap.size≤b)→wpList P ops Q rest (a.put o.dst v1) w1) :
    wpList P ops Q (o::rest) a (W.alloc (.cells cs.toArray e)):=by
  obtain ⟨h0,inner,hown,hr⟩:=HO
  refine print_append_cells base hgd s x t e z d.sz bytes ho ht hinfo hz hs0 hb0 v xs.length inner cs hs hx (d.K_len (d.K_of_M hp)) (d.K_one (d.K_of_M hp)) hown HB hbase hl ?_
  intro v1 w1 hown1 hb1 hg1 hat1
  exact h v1 w1 (R_appended h0 hr hp hokp hfresh hown1 hg1 hat1) hb1 hg1 hat1
end
section
variable {P:Program} {ops:Array Oper} {o:Oper} {a:Act} {Q:Exit→Act→World→Prop} {Kc:Act→World→Prop} {α:Type}
theorem R_append_step (d:Kd α) {w0 W:World} (base:Nat) (hw:Region.wanted o (yielded ops a.tmps)=true) (s x:Operand) (t e:TypeId) (z:Value) (bytes:Nat)
    (ho:o.op = .call { callee := .builtin .append,args:=#[s,x],argTypes:=#[t,t] })
    (ht:P.underlying t=some (.slice e)) (hinfo:(P.info? e).map (fun i=>(i.zero,i.size,i.bytes))=some (some z,d.sz,bytes)) (hz:z.cells.size=d.sz) (hs0:0<d.sz) (hb0:0<bytes)
    (v:Value) (xs:List α) (p:α) (cs:List Value) (ok okp:Nat→Prop) (hs:a.eval s=v) (hx:a.eval x = .slice (some ⟨W.heap.size,0,none⟩) 1 1) (hp:d.M W base okp p cs) (hokp:∀ k,okp k→ok k∧some k≠v.ownBlock) (hfresh:∀ k,W.heap.size≤k→ok k)
    (HO:d.R e W base ok v xs) (HB:Below base w0 W) (hbase:base≤W.heap.size) (hl:(xs.length+1)*bytes≤140737488355328)
    (h:∀ v1 w1,d.R e w1 base ok v1 (xs++[p])→Below base w0 w1→W.grownBy w1 v.ownBlock→(v1.ownBlock=v.ownBlock∨∃ b,v1.ownBlock=some b∧W.heap.size≤b)→Kc (a.put o.dst v1) w1) :
    if Region.wanted o (yielded ops a.tmps)=true then Oper.wp P o a (W.alloc (.cells cs.toArray e)) Kc Q else Kc (a.put o.dst undef) (W.alloc (.cells cs.toArray e)):=by
  obtain ⟨h0,inner,hown,hr⟩:=HO
  refine step_append_cells base hw s x t e z d.sz bytes ho ht hinfo hz hs0 hb0 v xs.length inner cs hs hx (d.K_len (d.K_of_M hp)) (d.K_one (d.K_of_M hp)) hown HB hbase hl ?_
  intro v1 w1 hown1 hb1 hg1 hat1
  exact h v1 w1 (R_appended h0 hr hp hokp hfresh hown1 hg1 hat1) hb1 hg1 hat1
end
theorem reps_scalar {α:Type} {enc:α→Value} (xs:List α):Reps (fun (x:α) (cs:List Value)=>cs=[enc x]) 1 xs (encs enc xs):=by
  refine ⟨by simp [encs],fun j p hj=>?_⟩
  obtain ⟨hl,hp⟩:=List.getElem?_eq_some_iff.1 hj
  have hl':j<(encs enc xs).length:=by rw [encs_length];exact hl
  rw [Nat.mul_one,List.drop_eq_getElem_cons hl']
  simp [encs,hp]
theorem R_of_own {α:Type} {enc:α→Value} {h1:∀ x,(enc x).oneCell'=true} {e:Nat} {w:World} {base:Nat} {ok:Nat→Prop} {v:Value} {xs:List α} (ho:w.ownsRow base e 1 v xs.length (encs enc xs)) (hok:∀ k,v.ownBlock=some k→ok k):(scalar enc h1).R e w base ok v xs:=⟨hok,encs enc xs,ho,reps_scalar xs⟩
theorem own_of_R {α:Type} {enc:α→Value} {h1:∀ x,(enc x).oneCell'=true} {e:Nat} {w:World} {base:Nat} {ok:Nat→Prop} {v:Value} {xs:List α} (h:(scalar enc h1).R e w base ok v xs):w.ownsRow base e 1 v xs.length (encs enc xs):=by
  obtain ⟨_,inner,ho,hr⟩:=h
  have:inner=encs enc xs:=by
    apply List.ext_getElem?
    intro j
    rcases Nat.lt_or_ge j xs.length with hj|hj
    · have h2:=hr.2 j _ (List.getElem?_eq_getElem hj)
      have hl:j<inner.length:=by have:=hr.1;simp [scalar] at this;omega
      have h3:(inner.drop (j*1)).take 1=[enc xs[j]]:=h2
      rw [Nat.mul_one,List.drop_eq_getElem_cons hl] at h3
      have h4:inner[j]=enc xs[j]:=by
        have h5:=congrArg List.head? h3
        rw [List.take_succ_cons] at h5
        exact Option.some.inj h5
      rw [List.getElem?_eq_getElem hl,h4]
      simp [encs,List.getElem?_eq_getElem hj]
    · have h3:inner.length=xs.length:=by have:=hr.1;simp [scalar] at this;omega
      rw [List.getElem?_eq_none (by omega),List.getElem?_eq_none (by rw [encs_length];omega)]
  rw [← this]
  exact ho
theorem C_of_reads {α:Type} {enc:α→Value} {d:α} {h1:∀ x,(enc x).oneCell'=true} {w:World} {A:Option Addr} {n:Nat} {xs:List α} (h:ReadsOf enc d w A n xs):(scalar enc h1).C w A n xs:=by
  refine ⟨h.1,h.2.1,fun hn=>?_⟩
  obtain ⟨ad,e,hc⟩:=h.2.2 hn
  refine ⟨ad,e,fun j p hj=>⟨[enc p],rfl,rfl,fun i u hu=>?_⟩⟩
  obtain ⟨hl,hp⟩:=List.getElem?_eq_some_iff.1 hj
  have h2:=hc j (by have:=h.1;omega)
  rw [List.getD_eq_getElem?_getD,hj] at h2
  cases i with
  | zero =>
    have:enc p=u:=by simpa using hu
    subst this
    simpa [scalar] using h2
  | succ i=>simp at hu
theorem reads_of_C {α:Type} {enc:α→Value} {d:α} {h1:∀ x,(enc x).oneCell'=true} {w:World} {A:Option Addr} {n:Nat} {xs:List α} (h:(scalar enc h1).C w A n xs):ReadsOf enc d w A n xs:=by
  refine ⟨h.1,h.2.1,fun hn=>?_⟩
  obtain ⟨ad,e,hc⟩:=h.2.2 hn
  refine ⟨ad,e,fun j hj=>?_⟩
  have hl:j<xs.length:=by have:=h.1;omega
  obtain ⟨c,_,hK,hcell⟩:=hc j _ (List.getElem?_eq_getElem hl)
  have hK':c=[enc xs[j]]:=hK
  subst hK'
  have:=hcell 0 _ rfl
  simpa [scalar,List.getD_eq_getElem?_getD,List.getElem?_eq_getElem hl] using this
end Kd
namespace Kd
structure Mono {α β:Type} (F:Kd α→Kd β):Prop where
  sz:∀ d d':Kd α,d.sz=d'.sz→(F d).sz=(F d').sz
  K:∀ d d':Kd α,d.sz=d'.sz→(∀ w x cs,d.K w x cs→d'.K w x cs)→∀ w x cs,(F d).K w x cs→(F d').K w x cs
  M:∀ d d':Kd α,d.sz=d'.sz→(∀ w base ok x cs,d.M w base ok x cs→d'.M w base ok x cs)→∀ w base ok x cs,(F d).M w base ok x cs→(F d').M w base ok x cs
theorem mono_const {α β:Type} (k:Kd β):Mono (fun _:Kd α=>k):=⟨fun _ _ _=>rfl,fun _ _ _ _ _ _ _ h=>h,fun _ _ _ _ _ _ _ _ _ h=>h⟩
theorem mono_id {α:Type}:Mono (fun d:Kd α=>d):=⟨fun _ _ h=>h,fun _ _ _ h=>h,fun _ _ _ h=>h⟩
theorem C_imp {α:Type} {d d':Kd α} (hs:d.sz=d'.sz) (h:∀ w x cs,d.K w x cs→d'.K w x cs) {w:World} {A:Option Addr} {n:Nat} {xs:List α} (hc:d.C w A n xs):d'.C w A n xs:=by
  unfold C at hc ⊢
  rw [← hs]
  exact hc.imp_ (Below.refl _ _) (fun _ _ hp=>h _ _ _ hp)
theorem R_imp {α:Type} {d d':Kd α} (hs:d.sz=d'.sz) (h:∀ w base ok x cs,d.M w base ok x cs→d'.M w base ok x cs) {e:Nat} {w:World} {base:Nat} {ok:Nat→Prop} {v:Value} {xs:List α} (hr:d.R e w base ok v xs):d'.R e w base ok v xs:=by
  unfold R at hr ⊢
  rw [← hs]
  exact ⟨hr.1,hr.2.imp_ (fun _ _ hp=>h _ _ _ _ _ hp)⟩
theorem mono_slice {α β:Type} (e:Nat) {G:Kd α→Kd β} (hG:Mono G):Mono (fun d=>slice e (G d)):=by
  refine ⟨fun _ _ _=>rfl,?_,?_⟩
  · rintro d d' hs h w x cs ⟨A,c,rfl,hl,hr⟩
    exact ⟨A,c,rfl,hl,C_imp (hG.sz d d' hs) (hG.K d d' hs h) hr⟩
  · rintro d d' hs h w base ok x cs ⟨v,rfl,hr⟩
    exact ⟨v,rfl,R_imp (hG.sz d d' hs) (hG.M d d' hs h) hr⟩
theorem mono_pair {α β γ:Type} {G:Kd α→Kd β} {H:Kd α→Kd γ} (hG:Mono G) (hH:Mono H):Mono (fun d=>pair (G d) (H d)):=by
  refine ⟨fun d d' hs=>?_,?_,?_⟩
  · show (G d).sz+(H d).sz=(G d').sz+(H d').sz
    rw [hG.sz d d' hs,hH.sz d d' hs]
  · rintro d d' hs h w x cs ⟨c0,c1,rfl,h0,h1⟩
    exact ⟨c0,c1,rfl,hG.K d d' hs h _ _ _ h0,hH.K d d' hs h _ _ _ h1⟩
  · rintro d d' hs h w base ok x cs ⟨c0,c1,rfl,h0,h1⟩
    exact ⟨c0,c1,rfl,hG.M d d' hs h _ _ _ _ _ h0,hH.M d d' hs h _ _ _ _ _ h1⟩
theorem mono_iso {α β γ:Type} {G:Kd α→Kd β} (f:γ→β) (hG:Mono G):Mono (fun d=>iso (G d) f) :=
  ⟨hG.sz,fun d d' hs h w x cs=>hG.K d d' hs h w (f x) cs,fun d d' hs h w base ok x cs=>hG.M d d' hs h w base ok (f x) cs⟩
def Sub {α β:Type} (F:Kd α→Kd β) (E:List Nat):Prop:=∀ d:Kd α,(∀ q,q∈d.E→q∈E)→∀ q,q∈(F d).E→q∈E
theorem sub_const {α β:Type} {E:List Nat} (k:Kd β) (h:∀ q,q∈k.E→q∈E):Sub (fun _:Kd α=>k) E:=fun _ _=>h
theorem sub_id {α:Type} {E:List Nat}:Sub (fun d:Kd α=>d) E:=fun _ h=>h
theorem sub_slice {α β:Type} {E:List Nat} (e:Nat) {G:Kd α→Kd β} (he:e∈E) (hG:Sub G E):Sub (fun d=>slice e (G d)) E:=fun d h q hq=>by
  rcases List.mem_cons.1 hq with rfl|hq
  · exact he
  · exact hG d h q hq
theorem sub_pair {α β γ:Type} {E:List Nat} {G:Kd α→Kd β} {H:Kd α→Kd γ} (hG:Sub G E) (hH:Sub H E):Sub (fun d=>pair (G d) (H d)) E:=fun d h q hq=>by
  rcases List.mem_append.1 hq with hq|hq
  · exact hG d h q hq
  · exact hH d h q hq
theorem sub_iso {α β γ:Type} {E:List Nat} {G:Kd α→Kd β} (f:γ→β) (hG:Sub G E):Sub (fun d=>iso (G d) f) E:=hG
theorem upto_E {α:Type} {F:Kd α→Kd α} {sz:Nat} {E:List Nat} (h:Sub F E):∀ n q,q∈(upto F sz E n).E→q∈E
  | 0,_,hq=>hq
  | n+1,q,hq=>h _ (upto_E h n) q hq
theorem upto_sz {α:Type} {F:Kd α→Kd α} {sz:Nat} {E:List Nat} (h:∀ d:Kd α,(F d).sz=sz):∀ n,(upto F sz E n).sz=sz
  | 0=>rfl
  | _+1=>h _
section
variable {α:Type} {F:Kd α→Kd α} {sz:Nat} {E:List Nat} {hs:∀ n,(upto F sz E n).sz=sz} {hE:∀ n q,q∈(upto F sz E n).E→q∈E}
theorem upto_K (hm:Mono F) (hs:∀ n,(upto F sz E n).sz=sz):∀ n {w x cs},(upto F sz E n).K w x cs→(upto F sz E (n+1)).K w x cs
  | 0,_,_,_,h=>h.elim
  | n+1,_,_,_,h=>hm.K _ _ (by rw [hs n,hs (n+1)]) (fun _ _ _ hk=>upto_K hm hs n hk) _ _ _ h
theorem upto_M (hm:Mono F) (hs:∀ n,(upto F sz E n).sz=sz):∀ n {w base ok x cs},(upto F sz E n).M w base ok x cs→(upto F sz E (n+1)).M w base ok x cs
  | 0,_,_,_,_,_,h=>h.elim
  | n+1,_,_,_,_,_,h=>hm.M _ _ (by rw [hs n,hs (n+1)]) (fun _ _ _ _ _ hk=>upto_M hm hs n hk) _ _ _ _ _ h
theorem upto_K_le (hm:Mono F) (hs:∀ n,(upto F sz E n).sz=sz) {n m:Nat} (hnm:n≤m) {w x cs} (h:(upto F sz E n).K w x cs):(upto F sz E m).K w x cs:=by
  obtain ⟨j,rfl⟩:=Nat.exists_eq_add_of_le hnm
  induction j with
  | zero=>exact h
  | succ j ih=>exact upto_K hm hs _ (ih (by omega))
theorem upto_M_le (hm:Mono F) (hs:∀ n,(upto F sz E n).sz=sz) {n m:Nat} (hnm:n≤m) {w base ok x cs} (h:(upto F sz E n).M w base ok x cs):(upto F sz E m).M w base ok x cs:=by
  obtain ⟨j,rfl⟩:=Nat.exists_eq_add_of_le hnm
  induction j with
  | zero=>exact h
  | succ j ih=>exact upto_M hm hs _ (ih (by omega))
theorem fix_C {n:Nat} {w:World} {A:Option Addr} {m:Nat} {xs:List α} (h:(upto F sz E n).C w A m xs):(fix F sz E hs hE).C w A m xs:=C_imp (d':=fix F sz E hs hE) (hs n) (fun w x cs hp=>(⟨n,hp⟩:∃ n,(upto F sz E n).K w x cs)) h
theorem fix_R {n:Nat} {e:Nat} {w:World} {base:Nat} {ok:Nat→Prop} {v:Value} {xs:List α} (h:(upto F sz E n).R e w base ok v xs):(fix F sz E hs hE).R e w base ok v xs:=R_imp (d':=fix F sz E hs hE) (hs n) (fun w base ok x cs hp=>(⟨n,hp⟩:∃ n,(upto F sz E n).M w base ok x cs)) h
theorem bounded {P:Nat→Nat→Prop} (hP:∀ n m j,n≤m→P n j→P m j):∀ m,(∀ j,j<m→∃ n,P n j)→∃ N,∀ j,j<m→P N j
  | 0,_=>⟨0,fun j hj=>absurd hj (Nat.not_lt_zero j)⟩
  | m + 1, h => by
    obtain ⟨N,hN⟩:=bounded hP m (fun j hj=>h j (by omega))
    obtain ⟨n,hn⟩:=h m (by omega)
    refine ⟨max N n,fun j hj=>?_⟩
    rcases Nat.lt_or_ge j m with hj'|hj'
    · exact hP N _ j (Nat.le_max_left _ _) (hN j hj')
    · have:j=m:=by omega
      subst this
      exact hP n _ j (Nat.le_max_right _ _) hn
theorem reps_bounded {α:Type} {R:Nat→α→List Value→Prop} (hR:∀ n m p c,n≤m→R n p c→R m p c) {size:Nat} {ps:List α} {cs:List Value} (h:Reps (fun p c=>∃ n,R n p c) size ps cs):∃ N,Reps (R N) size ps cs:=by
  obtain ⟨N,hN⟩:=bounded (P:=fun n j=>∀ p,ps[j]?=some p→R n p ((cs.drop (j*size)).take size)) (fun n m j hnm hp p hj=>hR n m p _ hnm (hp p hj)) ps.length
    (fun j hj=>by
      obtain ⟨n,hn⟩:=h.2 j _ (List.getElem?_eq_getElem hj)
      refine ⟨n,fun p hp=>?_⟩
      rw [List.getElem?_eq_getElem hj] at hp
      injection hp with hp
      rw [← hp]
      exact hn)
  exact ⟨N,h.1,fun j p hj=>hN j (List.getElem?_eq_some_iff.1 hj).1 p hj⟩
theorem fix_R_back (hm:Mono F) {e:Nat} {w:World} {base:Nat} {ok:Nat→Prop} {v:Value} {xs:List α} (h:(fix F sz E hs hE).R e w base ok v xs):∃ n,(upto F sz E n).R e w base ok v xs:=by
  obtain ⟨h0,inner,ho,hr⟩:=h
  obtain ⟨N,hN⟩:=reps_bounded (R:=fun n p c=>(upto F sz E n).M w base (fun k=>ok k∧some k≠v.ownBlock) p c) (fun n m p c hnm hp=>upto_M_le hm hs hnm hp) hr
  refine ⟨N,h0,inner,?_,?_⟩
  · rw [hs N];exact ho
  · rw [hs N];exact hN
theorem fix_C_back (hm:Mono F) {w:World} {A:Option Addr} {m:Nat} {xs:List α} (h:(fix F sz E hs hE).C w A m xs):∃ n,(upto F sz E n).C w A m xs:=by
  rcases Nat.eq_zero_or_pos m with hz|hpos
  · subst hz
    exact ⟨0,h.1,h.2.1,fun hp=>absurd hp (Nat.lt_irrefl 0)⟩
  · obtain ⟨ad,e,hc⟩:=h.2.2 hpos
    obtain ⟨N,hN⟩:=bounded (P:=fun n j=>∀ p,xs[j]?=some p→∃ c,c.length=sz∧(upto F sz E n).K w p c∧∀ i u,c[i]?=some u→w.cell? (ad.add (j*sz+i))=some u)
      (fun n n' j hnm hp p hj=>by
        obtain ⟨c,h1,h2,h3⟩:=hp p hj
        exact ⟨c,h1,upto_K_le hm hs hnm h2,h3⟩) xs.length
      (fun j hj=>by
        obtain ⟨c,h1,⟨n,h2⟩,h3⟩:=hc j _ (List.getElem?_eq_getElem hj)
        refine ⟨n,fun p hp=>?_⟩
        rw [List.getElem?_eq_getElem hj] at hp
        injection hp with hp
        rw [← hp]
        exact ⟨c,h1,h2,h3⟩)
    refine ⟨N,h.1,h.2.1,fun _=>⟨ad,e,fun j p hj=>?_⟩⟩
    rw [hs N]
    exact hN j (List.getElem?_eq_some_iff.1 hj).1 p hj
theorem upto_R_le (hm:Mono F) (hs:∀ n,(upto F sz E n).sz=sz) {n m:Nat} (hnm:n≤m) {e:Nat} {w:World} {base:Nat} {ok:Nat→Prop} {v:Value} {xs:List α} (h:(upto F sz E n).R e w base ok v xs):(upto F sz E m).R e w base ok v xs:=R_imp (by rw [hs n,hs m]) (fun _ _ _ _ _ hp=>upto_M_le hm hs hnm hp) h
theorem upto_C_le (hm:Mono F) (hs:∀ n,(upto F sz E n).sz=sz) {n m:Nat} (hnm:n≤m) {w:World} {A:Option Addr} {l:Nat} {xs:List α} (h:(upto F sz E n).C w A l xs):(upto F sz E m).C w A l xs:=C_imp (by rw [hs n,hs m]) (fun _ _ _ hp=>upto_K_le hm hs hnm hp) h
end
end Kd
namespace Kd
theorem R_after {α:Type} {d:Kd α} {e base:Nat} {ok:Nat→Prop} {W w1:World} {u v v1:Value} {xs:List α} (h:d.R e W base (fun k=>ok k∧some k≠v.ownBlock) u xs) (hg:W.grownBy w1 v.ownBlock) (hat:v1.ownBlock=v.ownBlock∨∃ b,v1.ownBlock=some b∧W.heap.size≤b):d.R e w1 base (fun k=>ok k∧some k≠v1.ownBlock) u xs:=by
  refine R_mono (R_move (R_bound h) (fun k hk=>hg.block k hk.2.2.1 hk.1.2)) (fun k hk=>⟨hk.1.1,?_⟩)
  rcases hat with hat|⟨b,hb,hle⟩
  · rw [hat];exact hk.1.2
  · rw [hb]
    intro he
    injection he with he
    have:=hk.2.2.1
    omega
theorem M_after {α:Type} {d:Kd α} {base:Nat} {ok:Nat→Prop} {W w1:World} {v v1:Value} {x:α} {cs:List Value} (h:d.M W base (fun k=>ok k∧some k≠v.ownBlock) x cs) (hg:W.grownBy w1 v.ownBlock) (hat:v1.ownBlock=v.ownBlock∨∃ b,v1.ownBlock=some b∧W.heap.size≤b):d.M w1 base (fun k=>ok k∧some k≠v1.ownBlock) x cs:=by
  refine d.M_mono (fun k hk=>⟨hk.1.1,?_⟩) (d.M_move (fun k hk=>hg.block k hk.2.2.1 hk.1.2) (d.M_bound h))
  rcases hat with hat|⟨b,hb,hle⟩
  · rw [hat];exact hk.1.2
  · rw [hb]
    intro he
    injection he with he
    have:=hk.2.2.1
    omega
theorem R_apart_nil {α:Type} {d:Kd α} {e base:Nat} {ok:Nat→Prop} {w:World} {u:Value} {xs:List α} (h:d.R e w base ok u xs):d.R e w base (fun k=>ok k∧some k≠(Value.slice none 0 0).ownBlock) u xs:=R_mono h (fun k hk=>⟨hk,by simp [Value.ownBlock]⟩)
theorem R_drop {α:Type} {d:Kd α} {e base:Nat} {ok ok':Nat→Prop} {w:World} {u:Value} {xs:List α} (h:d.R e w base (fun k=>ok k∧ok' k) u xs):d.R e w base ok u xs:=R_mono h (fun _ hk=>hk.1)
theorem M_drop {α:Type} {d:Kd α} {base:Nat} {ok ok':Nat→Prop} {w:World} {x:α} {cs:List Value} (h:d.M w base (fun k=>ok k∧ok' k) x cs):d.M w base ok x cs:=d.M_mono (fun _ hk=>hk.1) h
theorem M_row {α:Type} {d:Kd α} {e base:Nat} {ok:Nat→Prop} {w:World} {v:Value} {xs:List α} (h:d.R e w base ok v xs):(slice e d).M w base ok xs [v]:=⟨v,rfl,h⟩
end Kd
namespace Kd
section
variable {α β:Type} {d:Kd α} {d':Kd β} {e e':Nat} {w w1 W:World} {base b b':Nat} {ok ok' okv oku:Nat→Prop} {v u:Value} {xs:List α} {ys:List β}
theorem R_alloc (h:d.R e w base ok v xs) (o:Obj):d.R e (w.alloc o) base ok v xs:=R_below h (below_alloc (Below.refl _ _) o)
theorem R_drew (h:d.R e w base ok v xs):d.R e w.drew base ok v xs:=R_below h (below_drew (Below.refl _ _))
theorem R_drewN (h:d.R e w base ok v xs) (m:Nat):d.R e (w.drewN m) base ok v xs:=R_below h (pw_below_drewN (Below.refl _ _) m)
theorem M_alloc {x:α} {cs:List Value} (h:d.M w base ok x cs) (o:Obj):d.M (w.alloc o) base ok x cs:=M_below h (below_alloc (Below.refl _ _) o)
theorem M_drewN {x:α} {cs:List Value} (h:d.M w base ok x cs) (m:Nat):d.M (w.drewN m) base ok x cs:=M_below h (pw_below_drewN (Below.refl _ _) m)
theorem C_alloc {A:Option Addr} {n:Nat} (h:d.C w A n xs) (o:Obj):d.C (w.alloc o) A n xs:=C_below h (below_alloc (Below.refl _ _) o)
theorem C_drew {A:Option Addr} {n:Nat} (h:d.C w A n xs):d.C w.drew A n xs:=C_below h (below_drew (Below.refl _ _))
theorem C_drewN {A:Option Addr} {n:Nat} (h:d.C w A n xs) (m:Nat):d.C (w.drewN m) A n xs:=C_below h (pw_below_drewN (Below.refl _ _) m)
theorem C_nil (d:Kd α) (w:World):d.C w none ([]:List α).length []:=⟨rfl,by simp,fun h=>absurd h (Nat.lt_irrefl 0)⟩
theorem C_len {A:Option Addr} {n:Nat} (h:d.C w A n xs):xs.length=n:=h.1
theorem C_max {A:Option Addr} {n:Nat} (h:d.C w A n xs):n≤9223372036854775807:=h.2.1
theorem R_reads' {A:Option Addr} {n c:Nat} (h:d.R e w base ok (.slice A n c) xs):n=xs.length∧n≤c∧d.C w A xs.length xs:=by
  obtain ⟨A',c',he,hl,hr⟩:=R_reads h
  injection he with h1 h2 h3
  subst h1
  exact ⟨h2,by omega,hr⟩
theorem R_lt (h:d.R e w base ok v xs):∀ k,v.ownBlock=some k→k<w.heap.size:=by
  obtain ⟨inner,ho⟩:=R_own h
  exact own_lt ho
theorem R_base (h:d.R e w base ok v xs):∀ k,v.ownBlock=some k→base≤k:=by
  obtain ⟨inner,ho⟩:=R_own h
  exact own_base ho
theorem R_away (h:d.R e w base ok v xs) {g:Nat} (hok:∀ k,ok k→k≠g):some g≠v.ownBlock:=fun e=>hok g (h.1 g e.symm) rfl
theorem R_form (h:d.R e w base ok v xs) (hp:0<xs.length):∃ g cap,v = .slice (some ⟨g,0,none⟩) xs.length cap∧base≤g∧g<w.heap.size∧∃ cells,w.heap[g]?=some (.cells cells e (0,0)):=by
  obtain ⟨inner,ho⟩:=R_own h
  obtain ⟨g,cap,he,hb,hl⟩:=ho.form hp
  obtain ⟨cells,hc⟩:=own_typed ho g (by rw [he];simp [Value.ownBlock])
  exact ⟨g,cap,he,hb,hl,cells,hc⟩
theorem R_over (h:d.R e W b ok u xs) (hv:d'.R e' W b' ok' v ys) (ht:∀ q,q∈e::d.E→q≠e') (hg:W.grownBy w1 v.ownBlock):d.R e w1 b ok u xs:=by
  obtain ⟨inner,ho⟩:=R_own hv
  refine R_mono (R_move (R_bound h) (fun k hk=>hg.block k hk.2.2.1 (fun he=>?_))) (fun _ hk=>hk.1)
  obtain ⟨_,_,_,q,hq,cells,hc⟩:=hk
  obtain ⟨cells',hc'⟩:=own_typed ho k he.symm
  rw [hc] at hc'
  injection hc' with hc'
  injection hc' with _ hc'
  exact ht q hq hc'
theorem M_over {x:α} {cs:List Value} (h:d.M W b ok x cs) (hv:d'.R e' W b' ok' v ys) (ht:∀ q,q∈d.E→q≠e') (hg:W.grownBy w1 v.ownBlock):d.M w1 b ok x cs:=by
  obtain ⟨inner,ho⟩:=R_own hv
  refine d.M_mono (fun _ hk=>hk.1) (d.M_move (fun k hk=>hg.block k hk.2.2.1 (fun he=>?_)) (d.M_bound h))
  obtain ⟨_,_,_,q,hq,cells,hc⟩:=hk
  obtain ⟨cells',hc'⟩:=own_typed ho k he.symm
  rw [hc] at hc'
  injection hc' with hc'
  injection hc' with _ hc'
  exact ht q hq hc'
theorem R_elder (hu:d'.R e' W b oku u ys) (h:d.R e w1 W.heap.size okv v xs) (hb:Below W.heap.size W w1):d'.R e' w1 b (fun k=>oku k∧some k≠v.ownBlock) u ys:=by
  obtain ⟨inner,ho⟩:=R_own h
  exact R_mono (R_move (R_bound hu) (fun k hk=>hb.block k hk.2.2.1)) (fun k hk=>⟨hk.1,fun he=>by have:=own_base ho k he.symm;have:=hk.2.2.1;omega⟩)
theorem R_newR (h:d.R e w1 W.heap.size ok v xs) (hu:d'.R e' W b oku u ys):d.R e w1 W.heap.size (fun k=>ok k∧some k≠u.ownBlock) v xs:=by
  obtain ⟨inner,ho⟩:=R_own hu
  exact R_new h ho
theorem fresh_ok (hu:d'.R e' W b oku u ys):∀ k,W.heap.size≤k→some k≠u.ownBlock:=fun k hk he=>by have:=R_lt hu k he.symm;omega
end
section
variable {w W:World} {A:Option Addr} {n:Nat}
theorem at_int {k:IntKind} {xs:List Int} (h:(Kd.int k).C w A n xs) (i:Int) (h0:0≤i) (h1:i<n):∃ ad,A=some ad∧w.cell? (ad.add i.toNat)=some (.int k (rd xs i)) :=
  ReadsOf.at_ (reads_of_C (enc:=Value.int k) (d:=(0:Int)) (h1:=fun _=>rfl) h) i h0 h1
theorem at_bool {xs:List Bool} (h:Kd.bool.C w A n xs) (i:Int) (h0:0≤i) (h1:i<n):∃ ad,A=some ad∧w.cell? (ad.add i.toNat)=some (.bool (rdOf false xs i)) :=
  ReadsOf.at_ (reads_of_C (enc:=Value.bool) (d:=false) (h1:=fun _=>rfl) h) i h0 h1
theorem at_string {xs:List ByteArray} (h:Kd.string.C w A n xs) (i:Int) (h0:0≤i) (h1:i<n):∃ ad,A=some ad∧w.cell? (ad.add i.toNat)=some (.string (rdOf ByteArray.empty xs i)) :=
  ReadsOf.at_ (reads_of_C (enc:=Value.string) (d:=ByteArray.empty) (h1:=fun _=>rfl) h) i h0 h1
variable {α:Type} {enc:α→Value} {h1:∀ x,(enc x).oneCell'=true} {e base g cap:Nat} {ok:Nat→Prop} {xs:List α}
theorem R_cell (d:α) (h:(scalar enc h1).R e W base ok (.slice (some ⟨g,0,none⟩) xs.length cap) xs) (i:Int) (h0:0≤i) (hi:i<xs.length):W.cell? ⟨g,i.toNat,none⟩=some (enc (rdOf d xs i))∧W.frozen? ⟨g,i.toNat,none⟩=false:=own_at_of (own_of_R h) i h0 hi
theorem R_put (h:(scalar enc h1).R e W base ok (.slice (some ⟨g,0,none⟩) xs.length cap) xs) (i:Int) (x:α):(scalar enc h1).R e (W.setCell ⟨g,i.toNat,none⟩ (enc x)) base ok (.slice (some ⟨g,0,none⟩) xs.length cap) (xs.set i.toNat x)∧W.grownBy (W.setCell ⟨g,i.toNat,none⟩ (enc x)) (some g):=by
  obtain ⟨ho,hg⟩:=own_store_of (own_of_R h) i x
  exact ⟨R_of_own (by rw [List.length_set];exact ho) h.1,hg⟩
end
section
variable {P:Program} {ops:Array Oper} {rest:List Oper} {o:Oper} {a:Act} {Q:Exit→Act→World→Prop}
theorem event_run {W w1:World} {v:Value} (hgd:o.guard=none) (hrun:(execOp a.eval o).run P W = .ok (.value v) w1) (h:wpList P ops Q rest (a.put o.dst v) w1):wpList P ops Q (o::rest) a W:=by
  refine wpList_plain hgd fun K hK=>?_
  unfold Oper.wp
  rw [hrun]
  exact hK _ _ h
variable {α:Type}
theorem R_lit (d:Kd α) {w0 W:World} (base e:Nat) (hgd:o.guard=none) {N:Tmp} (_hd:o.dst=some N) {xs:List α} {inner:List Value} {ok okp:Nat→Prop}
    (hrun:(execOp a.eval o).run P W = .ok (.value (.slice (some ⟨W.heap.size,0,none⟩) xs.length xs.length)) (W.alloc (.cells inner.toArray e)))
    (hrep:Reps (d.M W base okp) d.sz xs inner) (hok:∀ k,okp k→ok k) (hfresh:ok W.heap.size) (HB:Below base w0 W) (hbase:base≤W.heap.size) (hm:xs.length≤9223372036854775807)
    (h:∀ v1 w1,d.R e w1 base ok v1 xs→Below base w0 w1→W.grownBy w1 none→(∃ b,v1.ownBlock=some b∧W.heap.size≤b)→wpList P ops Q rest (a.put o.dst v1) w1):wpList P ops Q (o::rest) a W:=by
  refine event_run hgd hrun (h _ _ ⟨fun k hk=>?_,inner,?_,?_⟩ (HB.alloc hbase _) (World.grownBy_alloc W _ none) ⟨W.heap.size,by simp [Value.ownBlock],Nat.le_refl _⟩)
  · have:W.heap.size=k:=by simpa [Value.ownBlock] using hk
    subst this
    exact hfresh
  · have h2:=World.ownsRow_lit (base:=base) (e:=e) (size:=d.sz) W inner.toArray xs.length hbase (by simpa [maxLen] using hm) (by simpa using hrep.1)
    simpa using h2
  · refine hrep.imp_ (fun p c hp=>d.M_mono (fun k hk=>⟨hok k hk.1,fun he=>?_⟩) (M_below (d.M_bound hp) (below_alloc (Below.refl _ _) _)))
    have h3:k=W.heap.size:=by simpa [Value.ownBlock] using he
    have:=hk.2.2.1
    omega
theorem reps_made {α:Type} {R:α→List Value→Prop} {z:Value} {size:Nat} {z0:α} (hz:z.cells.size=size) (hs:0<size) (h0:R z0 z.cells.toList) (m:Nat):Reps R size (List.replicate m z0) (madeCells z.cells (m*size)).toList:=by
  refine ⟨by simp [size_madeCells],fun j p hj=>?_⟩
  obtain ⟨hjl,hp⟩:=List.getElem?_eq_some_iff.1 hj
  have hjm:j<m:=by simpa using hjl
  have hp':z0=p:=by simpa using hp
  subst hp'
  have hle:j*size+size≤m*size:=by rw [← Nat.succ_mul];exact Nat.mul_le_mul_right _ hjm
  have:((madeCells z.cells (m*size)).toList.drop (j*size)).take size=z.cells.toList:=by
    apply List.ext_getElem
    · simp [size_madeCells,hz]
      omega
    · intro i h1 h2
      have hi:i<size:=by rw [Array.length_toList,hz] at h2;exact h2
      have hmod:(j*size+i)%size=i:=by
        rw [Nat.mul_comm,Nat.mul_add_mod]
        exact Nat.mod_eq_of_lt hi
      simp [madeCells,hz,hmod]
      rw [getElem!_pos z.cells i (by omega)]
  rw [this]
  exact h0
theorem R_make (d:Kd α) {w0 W:World} (base e:Nat) (hgd:o.guard=none) {N:Tmp} (hd:o.dst=some N) (t:TypeId) (x y:Operand) (ho:o.op = .makeSlice t x y) (n:Int) (hx:a.eval x = .int .i64 n) (hy:a.eval y = .int .i64 n)
    (ht:P.underlying t=some (.slice e)) (z:Value) (bytes:Nat) (hinfo:(P.info? e).map (fun i=>(i.zero,i.size,i.bytes))=some (some z,d.sz,bytes)) (hz:z.cells.size=d.sz) (hs0:0<d.sz) (hb0:0<bytes)
    (z0:α) {ok okp:Nat→Prop} (hzero:d.M W base okp z0 z.cells.toList) (hok:∀ k,okp k→ok k) (hfresh:ok W.heap.size) (h0:0≤n) (hl:n.toNat*bytes≤281474976710656) (HB:Below base w0 W) (hbase:base≤W.heap.size)
    (h:∀ v1 w1,d.R e w1 base ok v1 (List.replicate n.toNat z0)→Below base w0 w1→W.grownBy w1 none→(∃ b,v1.ownBlock=some b∧W.heap.size≤b)→wpList P ops Q rest (a.put o.dst v1) w1):wpList P ops Q (o::rest) a W:=by
  obtain ⟨m,rfl⟩:=Int.eq_ofNat_of_zero_le h0
  simp only [Int.toNat_natCast] at hl h
  obtain ⟨i0,hi,hzz⟩:=Option.map_eq_some_iff.1 hinfo
  simp only [Prod.mk.injEq] at hzz
  obtain ⟨hz0,hz1,hz2⟩:=hzz
  have hm:m≤281474976710656:=Nat.le_trans (Nat.le_mul_of_pos_right _ hb0) hl
  have hr:=run_make (P:=P) W t e i0 z ht hi hz0 .i64 .i64 (m:Int) (m:Int) (by omega) (by omega)
    (by
      have h3:((i0.bytes*m:Nat):Int)≤281474976710656:=by rw [hz2,Nat.mul_comm];omega
      rwa [Int.natCast_mul] at h3) (by omega)
  simp only [Int.toNat_natCast] at hr
  rw [hz1] at hr
  refine R_lit d base e hgd hd (xs:=List.replicate m z0) (inner:=(madeCells z.cells (m*d.sz)).toList) (okp:=okp) (ok:=ok) ?_ (reps_made hz hs0 hzero m) hok hfresh HB hbase (by simp;omega) h
  simp [execOp,ho,hx,hy,hr]
end
end Kd
theorem own_take {w:World} {base n m c size:Nat} {e:TypeId} {A:Option Addr} {xs:List Value} (h:w.ownsRow base e size (.slice A n c) n xs) (hm:m≤n):w.ownsRow base e size (.slice A m c) m (xs.take (m*size)):=by
  obtain ⟨h1,h2⟩:=h
  refine ⟨by rw [List.length_take,h1];exact Nat.min_eq_left (Nat.mul_le_mul_right _ hm),?_⟩
  rcases h2 with ⟨he,h0⟩|⟨g,cap,cur,he,hb,hh,hnc,hcm,hcs,ht⟩
  · injection he with ha _ hc
    subst ha;subst hc
    exact .inl ⟨by rw [show m=0 by omega],by omega⟩
  · injection he with ha _ hc
    subst ha;subst hc
    refine .inr ⟨g,c,cur,rfl,hb,hh,by omega,hcm,hcs,?_⟩
    rw [← ht,List.take_take,Nat.min_eq_left (Nat.mul_le_mul_right _ hm)]
section
variable {P:Program}
theorem cut_to (t e:TypeId) (kh:IntKind) {i:TypeInfo} (ht:P.underlying t=some (.slice e)) (hi:P.info? e=some i) (A:Option Addr) (n c:Nat) (j:Int) (h0:0≤j) (hm:j≤n) (hc:n≤c) :
    ∀ W:World,(Instr.slice t (.slice A n c) none (some (.int kh j)) none).run P W = .ok (.slice A j.toNat c) W:=by
  intro W
  have hel:P.elem t=e:=by simp [Program.elem,ht]
  have hu:P.underlying t=some (.slice (P.elem t)):=by rw [hel];exact ht
  have ha:(A.map fun x=>x.add 0)=A:=by cases A<;>simp [Addr.add]
  rw [run_slice_h W t A n c hu kh j h0 (by omega),hel]
  simp [sizeOf,typeInfo,hi,sliced,Result.andThen,ha]
theorem cut_from (t e:TypeId) (kl:IntKind) {i:TypeInfo} (ht:P.underlying t=some (.slice e)) (hi:P.info? e=some i) (size:Nat) (hsz:i.size=size) (A:Option Addr) (n c:Nat) (j:Int) (h0:0≤j) (hm:j≤n) :
    ∀ W:World,(Instr.slice t (.slice A n c) (some (.int kl j)) none none).run P W = .ok (.slice (if c=j.toNat then A else A.map (·.add (j.toNat*size))) (n-j.toNat) (c-j.toNat)) W:=by
  intro W
  have hel:P.elem t=e:=by simp [Program.elem,ht]
  have hu:P.underlying t=some (.slice (P.elem t)):=by rw [hel];exact ht
  rw [run_slice_l W t A n c hu kl j h0 hm,hel]
  simp [sizeOf,typeInfo,hi,hsz,sliced,Result.andThen]
end
def QRow (w:World) (base:Nat) (e:TypeId) (size:Nat) (v:Value) (n:Nat) (xs:List Value):Prop :=
  xs.length=n*size ∧
  ((n=0∧∃ A,v = .slice A 0 0∧∀ a,A=some a→base≤a.block∧∃ cur,w.heap[a.block]?=some (.cells cur e (0,0))) ∨
   ∃ g off cap cur,v = .slice (some ⟨g,off*size,none⟩) n cap∧base≤g∧w.heap[g]?=some (.cells cur e (0,0))∧n≤cap∧off+cap≤maxLen∧cur.size=(off+cap)*size∧(cur.toList.drop (off*size)).take (n*size)=xs)
section
variable {w w1:World} {base n size:Nat} {e:TypeId} {v:Value} {xs:List Value}
theorem q_of_own (h:w.ownsRow base e size v n xs):QRow w base e size v n xs:=by
  obtain ⟨h1,h2⟩:=h
  refine ⟨h1,?_⟩
  rcases h2 with ⟨rfl,h0⟩|⟨g,cap,cur,rfl,hb,hh,hnc,hcm,hcs,ht⟩
  · exact .inl ⟨h0,none,rfl,fun a ha=>by cases ha⟩
  · exact .inr ⟨g,0,cap,cur,by rw [Nat.zero_mul],hb,hh,hnc,by rw [Nat.zero_add];exact hcm,by rw [Nat.zero_add];exact hcs,by rw [Nat.zero_mul,List.drop_zero];exact ht⟩
theorem q_move (h:QRow w base e size v n xs) (hm:∀ k,v.ownBlock=some k→w1.heap[k]?=w.heap[k]?):QRow w1 base e size v n xs:=by
  obtain ⟨h1,h2⟩:=h
  refine ⟨h1,?_⟩
  rcases h2 with ⟨h0,A,rfl,hA⟩|⟨g,off,cap,cur,rfl,hg,hh,r⟩
  · refine .inl ⟨h0,A,rfl,fun a ha=>?_⟩
    obtain ⟨hb,cur,hc⟩:=hA a ha
    subst ha
    exact ⟨hb,cur,(hm a.block (by simp [Value.ownBlock])).trans hc⟩
  · exact .inr ⟨g,off,cap,cur,rfl,hg,(hm g (by simp [Value.ownBlock])).trans hh,r⟩
theorem q_typed (h:QRow w base e size v n xs) (k:Nat) (hk:v.ownBlock=some k):base≤k∧∃ cells,w.heap[k]?=some (.cells cells e (0,0)):=by
  rcases h.2 with ⟨_,A,rfl,hA⟩|⟨g,off,cap,cur,rfl,hg,hh,r⟩
  · cases A with
    | none=>simp [Value.ownBlock] at hk
    | some a =>
      have:a.block=k:=by simpa [Value.ownBlock] using hk
      subst this
      exact hA a rfl
  · have:g=k:=by simpa [Value.ownBlock] using hk
    subst this
    exact ⟨hg,cur,hh⟩
theorem q_lt (h:QRow w base e size v n xs) (k:Nat) (hk:v.ownBlock=some k):k<w.heap.size:=by
  obtain ⟨_,cells,hc⟩:=q_typed h k hk
  exact (Array.getElem?_eq_some_iff.1 hc).1
theorem q_lower {base':Nat} (h:QRow w base e size v n xs) (hb:base'≤base):QRow w base' e size v n xs:=by
  obtain ⟨h1,h2⟩:=h
  refine ⟨h1,?_⟩
  rcases h2 with ⟨h0,A,rfl,hA⟩|⟨g,off,cap,cur,rfl,hg,r⟩
  · exact .inl ⟨h0,A,rfl,fun a ha=>⟨Nat.le_trans hb (hA a ha).1,(hA a ha).2⟩⟩
  · exact .inr ⟨g,off,cap,cur,rfl,Nat.le_trans hb hg,r⟩
theorem q_slice (h:QRow w base e size v n xs):∃ A c,v = .slice A n c∧n≤c:=by
  rcases h.2 with ⟨h0,A,rfl,_⟩|⟨g,off,cap,cur,rfl,hg,hh,hnc,r⟩
  · exact ⟨A,0,by rw [h0],by omega⟩
  · exact ⟨_,cap,rfl,hnc⟩
theorem q_max (h:QRow w base e size v n xs):n≤9223372036854775807:=by
  rcases h.2 with ⟨h0,_⟩|⟨g,off,cap,cur,rfl,hg,hh,hnc,hm,r⟩
  · omega
  · simp only [maxLen] at hm
    omega
theorem add_at (g o j:Nat):(⟨g,o,none⟩:Addr).add j=⟨g,o+j,none⟩:=by unfold Addr.add;split<;>simp_all
theorem q_cells {A:Option Addr} {c:Nat} (h:QRow w base e size (.slice A n c) n xs) (hn:0<n):∃ ad,A=some ad∧∀ j u,xs[j]?=some u→w.cell? (ad.add j)=some u:=by
  rcases h.2 with ⟨h0,_⟩|⟨g,off,cap,cur,he,hg,hh,hnc,hm,hcs,ht⟩
  · omega
  · injection he with ha _ hc
    subst ha
    refine ⟨_,rfl,fun j u hu=>?_⟩
    rw [add_at,cell_of_row w g _ cur e (0,0) hh]
    rw [← ht,List.getElem?_take] at hu
    split at hu
    · rw [List.getElem?_drop] at hu
      rw [← Array.getElem?_toList]
      exact hu
    · cases hu
theorem q_take {A:Option Addr} {c m:Nat} (h:QRow w base e size (.slice A n c) n xs) (hm:m≤n):QRow w base e size (.slice A m c) m (xs.take (m*size)):=by
  obtain ⟨h1,h2⟩:=h
  refine ⟨by rw [List.length_take,h1];exact Nat.min_eq_left (Nat.mul_le_mul_right _ hm),?_⟩
  rcases h2 with ⟨h0,A',he,hA⟩|⟨g,off,cap,cur,he,hb,hh,hnc,hcm,hcs,ht⟩
  · injection he with ha hb hc
    subst ha;subst hc
    exact .inl ⟨by omega,A,by rw [show m=0 by omega],hA⟩
  · injection he with ha _ hc
    subst ha;subst hc
    refine .inr ⟨g,off,c,cur,rfl,hb,hh,by omega,hcm,hcs,?_⟩
    rw [← ht,List.take_take,Nat.min_eq_left (Nat.mul_le_mul_right _ hm)]
theorem q_drop {A:Option Addr} {c k:Nat} (h:QRow w base e size (.slice A n c) n xs) (hk:k≤n):QRow w base e size (.slice (if c=k then A else A.map (·.add (k*size))) (n-k) (c-k)) (n-k) (xs.drop (k*size)):=by
  obtain ⟨h1,h2⟩:=h
  refine ⟨by rw [List.length_drop,h1,Nat.sub_mul],?_⟩
  rcases h2 with ⟨h0,A',he,hA⟩|⟨g,off,cap,cur,he,hb,hh,hnc,hcm,hcs,ht⟩
  · injection he with ha hb hc
    subst ha;subst hc
    have hk0:k=0:=by omega
    subst hk0
    exact .inl ⟨by omega,A,by rw [if_pos rfl,h0],hA⟩
  · injection he with ha _ hc
    subst ha;subst hc
    by_cases hck:c=k
    · rw [if_pos hck]
      refine .inl ⟨by omega,some ⟨g,off*size,none⟩,?_,fun a ha=>?_⟩
      · rw [show n-k=0 by omega,show c-k=0 by omega]
      · injection ha with ha
        subst ha
        exact ⟨hb,cur,hh⟩
    · rw [if_neg hck]
      refine .inr ⟨g,off+k,c-k,cur,?_,hb,hh,by omega,by omega,by rw [hcs];congr 1;omega,?_⟩
      · rw [Option.map_some,add_at,Nat.add_mul]
      · rw [← ht,List.drop_take,List.drop_drop,Nat.add_mul,Nat.sub_mul]
theorem setCells_far {g:Nat}:∀ (vs:List Value) (o:Nat) {w:World} (k:Nat),k≠g→(w.setCells g o vs).heap[k]?=w.heap[k]?
  | [],_,_,_,_=>rfl
  | v::r,o,w,k,hk=>by
    rw [World.setCells,setCells_far r (o+1) k hk]
    exact Below.heap_setCell w ⟨g,o,none⟩ v k hk
theorem setCells_same (g:Nat):∀ (vs:List Value) (o:Nat) (w:World),(w.setCells g o vs).os=w.os∧(w.setCells g o vs).tape=w.tape∧(w.setCells g o vs).output=w.output∧(w.setCells g o vs).heap.size=w.heap.size
  | [],_,_=>⟨rfl,rfl,rfl,rfl⟩
  | v::r,o,w=>by
    obtain ⟨h1,h2,h3,h4⟩:=setCells_same g r (o+1) (w.setCell ⟨g,o,none⟩ v)
    rw [World.setCells]
    exact ⟨h1,h2,h3,by rw [h4];simp [World.setCell]⟩
theorem setCells_row {g:Nat} {e:TypeId}:∀ (vs:List Value) (o:Nat) (w:World) (cur:Array Value),w.heap[g]?=some (.cells cur e (0,0))→o+vs.length≤cur.size →
    ∃ cur',(w.setCells g o vs).heap[g]?=some (.cells cur' e (0,0))∧cur'.size=cur.size∧cur'.toList=cur.toList.take o++vs++cur.toList.drop (o+vs.length)
  | [],o,w,cur,h,_=>⟨cur,h,rfl,by simp⟩
  | v::r,o,w,cur,h,hl=>by
    have h2:=blk_set h o v
    simp only [List.length_cons] at hl
    obtain ⟨cur',h3,h4,h5⟩:=setCells_row r (o+1) (w.setCell ⟨g,o,none⟩ v) _ h2 (by simp;omega)
    refine ⟨cur',h3,by rw [h4];simp,?_⟩
    rw [h5,Array.toList_setIfInBounds]
    have ho:o<cur.toList.length:=by rw [Array.length_toList];omega
    rw [List.take_set,List.drop_set_of_lt (by omega)]
    simp only [List.length_cons]
    rw [show o+1+r.length=o+(r.length+1) by omega]
    congr 1
    rw [List.take_succ_eq_append_getElem ho,List.set_append_right _ _ (by rw [List.length_take];omega)]
    have ho':o<cur.size:=by omega
    simp [Nat.min_eq_left (Nat.le_of_lt ho')]
end
section
variable {P:Program}
theorem q_append (w:World) (base:Nat) (t ty e:TypeId) (i:TypeInfo) (z:Value) (size bytes:Nat) (ht:P.underlying t=some (.slice e)) (hi:P.info? e=some i) (hz:i.zero=some z)
    (hsize:i.size=size) (hby:i.bytes=bytes) (hzs:z.cells.size=size) (hsz:0<size)
    (v:Value) (n:Nat) (xs:List Value) (hown:QRow w base e size v n xs)
    (a:Addr) (m c:Nat) (news:List Value) (hl:news.length=m*size) (hnews:∀ j u,news[j]?=some u→w.cell? (a.add j)=some u) (h1:∀ u∈news,u.oneCell'=true) (hm:0<m)
    (h63:n+m≤maxLen) (hbytes:(n+m)*bytes≤140737488355328) (hbase:base≤w.heap.size) :
    ∃ v' w',(Builtin.append_ #[t,t] ty #[v,.slice (some a) m c]).run P w = .ok v' w'∧QRow w' base e size v' (n+m) (xs++news)∧w.grownBy w' v.ownBlock∧(v'.ownBlock=v.ownBlock∨∃ b,v'.ownBlock=some b∧w.heap.size≤b):=by
  have grows:∀ (b:Addr) (cap:Nat),cap<n+m→(∀ j u,xs[j]?=some u→w.cell? (b.add j)=some u)→v = .slice (some b) n cap →
      ∃ v' w',(Builtin.append_ #[t,t] ty #[v,.slice (some a) m c]).run P w = .ok v' w'∧QRow w' base e size v' (n+m) (xs++news)∧w.grownBy w' v.ownBlock∧(v'.ownBlock=v.ownBlock∨∃ b,v'.ownBlock=some b∧w.heap.size≤b):=by
    intro b cap hcap hcells hv
    obtain ⟨v',w',hr,ho,hg⟩:=run_append_arg_grows (P:=P) (w:=w) t ty e i z size bytes ht hi hz hsize hby hzs hsz b n cap xs hown.1 hcells a m c news hl hnews hcap h63 hbytes
    refine ⟨v',w',by rw [hv];exact hr,q_lower (q_of_own ho) hbase,⟨hg.os,hg.tape,hg.output,hg.size,fun k hk _=>hg.block k hk (by simp)⟩,?_⟩
    obtain ⟨g',cap',he,hb,_⟩:=ho.form (by omega)
    exact .inr ⟨g',by rw [he];simp [Value.ownBlock],hb⟩
  rcases hown.2 with ⟨h0,A,hv,hA⟩|⟨g,off,cap,cur,hv,hbg,hg,hnc,hcm,hcs,htake⟩
  · cases A with
    | none =>
      subst h0
      have ho:w.ownsRow base e size v 0 xs:=⟨hown.1,.inl ⟨hv,rfl⟩⟩
      obtain ⟨v',w',hr,ho',hg,_,hat⟩:=run_append_own_at (P:=P) w base t ty e i z size bytes ht hi hz hsize hby hzs hsz v 0 xs ho a m c news hl hnews h1 h63 hbytes hbase
      refine ⟨v',w',hr,q_of_own ho',hg,?_⟩
      rcases hat with hat|hat
      · exact .inl hat
      · exact .inr ⟨_,hat,Nat.le_refl _⟩
    | some b =>
      have hx:xs=[]:=List.eq_nil_of_length_eq_zero (by rw [hown.1,h0,Nat.zero_mul])
      exact grows b 0 (by omega) (fun j u hu=>by rw [hx] at hu;simp at hu) (by rw [hv,h0])
  · by_cases hroom:n+m≤cap
    · have hfit:off*size+n*size+news.length≤cur.size:=by
        rw [hl,hcs,← Nat.add_mul,← Nat.add_mul]
        exact Nat.mul_le_mul_right _ (by omega)
      subst hsize
      have hr:=run_append_room_cells (P:=P) (w:=w) t ty e i ht hi g (off*i.size) n cap a m c news hl hnews h1 hroom
        (fun j hj=>by rw [cell_of_row w g _ cur e (0,0) hg];simp;omega) (fun j _=>blk_frozen hg _)
      obtain ⟨cur',h3,h4,h5⟩:=setCells_row news (off*i.size+n*i.size) w cur hg hfit
      obtain ⟨s1,s2,s3,s4⟩:=setCells_same g news (off*i.size+n*i.size) w
      refine ⟨_,_,by rw [hv];exact hr,⟨by rw [List.length_append,hown.1,hl,Nat.add_mul],.inr ⟨g,off,cap,cur',rfl,hbg,h3,hroom,hcm,by rw [h4,hcs],?_⟩⟩,
        ⟨s1,s2,s3,by rw [s4];exact Nat.le_refl _,fun k _ hk=>setCells_far news _ k (fun he=>hk (by rw [hv,he];simp [Value.ownBlock]))⟩,.inl (by rw [hv];rfl)⟩
      rw [h5,List.append_assoc,List.drop_append_of_le_length (by rw [List.length_take,Array.length_toList];omega),List.drop_take]
      rw [show off*i.size+n*i.size-off*i.size=n*i.size by omega,htake]
      rw [← List.append_assoc]
      exact List.take_left' (by rw [List.length_append,hown.1,hl,Nat.add_mul])
    · refine grows ⟨g,off*size,none⟩ cap (by omega) (fun j u hu=>?_) hv
      rw [add_at,cell_of_row w g _ cur e (0,0) hg]
      rw [← htake,List.getElem?_take] at hu
      split at hu
      · rw [List.getElem?_drop] at hu
        rw [← Array.getElem?_toList]
        exact hu
      · cases hu
end
namespace Kd
theorem reps_take {α:Type} {R:α→List Value→Prop} {size m:Nat} {ps:List α} {cs:List Value} (h:Reps R size ps cs) (hm:m≤ps.length):Reps R size (ps.take m) (cs.take (m*size)):=by
  refine ⟨by rw [List.length_take,List.length_take,h.1,Nat.min_eq_left hm,Nat.min_eq_left (Nat.mul_le_mul_right _ hm)],fun j p hj=>?_⟩
  rw [List.getElem?_take] at hj
  split at hj
  · rename_i hjm
    have:=h.2 j p hj
    have hle:j*size+size≤m*size:=by rw [← Nat.succ_mul];exact Nat.mul_le_mul_right _ hjm
    rw [List.drop_take,List.take_take,Nat.min_eq_left (by omega)]
    exact this
  · cases hj
theorem reps_drop {α:Type} {R:α→List Value→Prop} {size m:Nat} {ps:List α} {cs:List Value} (h:Reps R size ps cs):Reps R size (ps.drop m) (cs.drop (m*size)):=by
  refine ⟨by rw [List.length_drop,List.length_drop,h.1,Nat.sub_mul],fun j p hj=>?_⟩
  rw [List.getElem?_drop] at hj
  have:=h.2 (m+j) p hj
  rw [List.drop_drop,← Nat.add_mul]
  exact this
theorem R_take {α:Type} {d:Kd α} {e m n c:Nat} {w:World} {base:Nat} {ok:Nat→Prop} {A:Option Addr} {xs:List α} (h:d.R e w base ok (.slice A n c) xs) (hm:m≤xs.length):d.R e w base ok (.slice A m c) (xs.take m):=by
  obtain ⟨h0,inner,ho,hr⟩:=h
  have hn:n=xs.length:=by
    obtain ⟨A',c',he⟩:=own_slice ho
    injection he
  subst hn
  have hb:∀ x y:Nat,(Value.slice A x c).ownBlock=(Value.slice A y c).ownBlock:=by
    intro x y
    cases A<;>rfl
  refine ⟨fun k hk=>h0 k (by rw [hb _ m];exact hk),inner.take (m*d.sz),?_,?_⟩
  · rw [List.length_take,Nat.min_eq_left hm]
    exact own_take ho hm
  · rw [hb m xs.length]
    exact reps_take hr hm
def Q {α:Type} (d:Kd α) (e:Nat) (w:World) (base:Nat) (ok:Nat→Prop) (v:Value) (xs:List α):Prop :=
  (∀ k,v.ownBlock=some k→ok k)∧∃ inner,QRow w base e d.sz v xs.length inner∧Reps (d.M w base (fun k=>ok k∧some k≠v.ownBlock)) d.sz xs inner
section
variable {α:Type} {d:Kd α} {e:Nat} {w w1 W:World} {base:Nat} {ok ok':Nat→Prop} {v:Value} {xs:List α}
theorem Q_of_R (h:d.R e w base ok v xs):d.Q e w base ok v xs:=by
  obtain ⟨h0,inner,ho,hr⟩:=h
  exact ⟨h0,inner,q_of_own ho,hr⟩
theorem Q_nil (d:Kd α) (e:Nat) (w:World) (base:Nat) (ok:Nat→Prop):d.Q e w base ok (.slice none 0 0) []:=Q_of_R (R_nil d e w base ok)
theorem Q_mono (h:d.Q e w base ok v xs) (hok:∀ k,ok k→ok' k):d.Q e w base ok' v xs:=by
  obtain ⟨h0,inner,ho,hr⟩:=h
  exact ⟨fun k hk=>hok k (h0 k hk),inner,ho,hr.imp_ (fun _ _ hp=>d.M_mono (fun k hk=>⟨hok k hk.1,hk.2⟩) hp)⟩
theorem Q_bound (h:d.Q e w base ok v xs):d.Q e w base (fun k=>ok k∧base≤k∧k<w.heap.size∧∃ q,q∈e::d.E∧∃ cells,w.heap[k]?=some (.cells cells q (0,0))) v xs:=by
  obtain ⟨h0,inner,ho,hr⟩:=h
  refine ⟨fun k hk=>?_,inner,ho,hr.imp_ (fun _ _ hp=>d.M_mono (fun k hk=>?_) (d.M_bound hp))⟩
  · obtain ⟨hb,cells,hc⟩:=q_typed ho k hk
    exact ⟨h0 k hk,hb,q_lt ho k hk,e,List.mem_cons_self,cells,hc⟩
  · obtain ⟨⟨h1,h2⟩,h3,h4,q,hq,hc⟩:=hk
    exact ⟨⟨h1,h3,h4,q,List.mem_cons_of_mem _ hq,hc⟩,h2⟩
theorem Q_move (h:d.Q e w base ok v xs) (hm:∀ k,ok k→w1.heap[k]?=w.heap[k]?):d.Q e w1 base ok v xs:=by
  obtain ⟨h0,inner,ho,hr⟩:=h
  exact ⟨h0,inner,q_move ho (fun k hk=>hm k (h0 k hk)),hr.imp_ (fun _ _ hp=>d.M_move (fun k hk=>hm k hk.1) hp)⟩
theorem Q_lower {base':Nat} (h:d.Q e w base ok v xs) (hb:base'≤base):d.Q e w base' ok v xs:=by
  obtain ⟨h0,inner,ho,hr⟩:=h
  exact ⟨h0,inner,q_lower ho hb,hr.imp_ (fun _ _ hp=>d.M_lower hb hp)⟩
theorem Q_step (h:d.Q e w base ok v xs) (hm:∀ k,ok k→k<w.heap.size→w1.heap[k]?=w.heap[k]?):d.Q e w1 base ok v xs:=Q_mono (Q_move (Q_bound h) (fun k hk=>hm k hk.1 hk.2.2.1)) (fun _ hk=>hk.1)
theorem Q_below (h:d.Q e w base ok v xs) (hb:Below w.heap.size w w1):d.Q e w1 base ok v xs:=Q_step h (fun k _ hk=>hb.block k hk)
theorem Q_alloc (h:d.Q e w base ok v xs) (o:Obj):d.Q e (w.alloc o) base ok v xs:=Q_below h (below_alloc (Below.refl _ _) o)
theorem Q_drew (h:d.Q e w base ok v xs):d.Q e w.drew base ok v xs:=Q_below h (below_drew (Below.refl _ _))
theorem Q_drewN (h:d.Q e w base ok v xs) (m:Nat):d.Q e (w.drewN m) base ok v xs:=Q_below h (pw_below_drewN (Below.refl _ _) m)
theorem Q_grown (h:d.Q e w base ok v xs) {row:Option Nat} (hg:w.grownBy w1 row) (hok:∀ k,ok k→some k≠row):d.Q e w1 base ok v xs:=Q_step h (fun k ho hk=>hg.block k hk (hok k ho))
theorem Q_far (h:d.Q e w base ok v xs) {p:Addr} (hok:∀ k,ok k→k≠p.block) (u:Value):d.Q e (w.setCell p u) base ok v xs:=Q_step h (fun k ho _=>Below.heap_setCell w p u k (hok k ho))
theorem Q_keep (h:d.Q e w base ok v xs) {g:Nat} (hk:KeepBut w w1 g none) (hok:∀ k,ok k→k≠g):d.Q e w1 base ok v xs:=Q_step h (fun k ho hlt=>hk.2 k hlt (hok k ho) (by simp))
theorem Q_types (h:d.Q e w base ok v xs) {g t:Nat} {cells:Array Value} (hb:w.heap[g]?=some (.cells cells t (0,0))) (ht:∀ q,q∈e::d.E→q≠t):d.Q e w base (fun k=>ok k∧k≠g) v xs :=
  Q_mono (Q_bound h) (fun k hk=>⟨hk.1,by
    obtain ⟨_,_,_,q,hq,cells',hc⟩:=hk
    rintro rfl
    rw [hc] at hb
    injection hb with hb
    injection hb with _ hb
    exact ht q hq hb⟩)
theorem Q_set (h:d.Q e w base ok v xs) {g t:Nat} {cells:Array Value} (hb:w.heap[g]?=some (.cells cells t (0,0))) (ht:∀ q,q∈e::d.E→q≠t) (j:Nat) (u:Value):d.Q e (w.setCell ⟨g,j,none⟩ u) base ok v xs :=
  Q_mono (Q_far (p:=⟨g,j,none⟩) (Q_types h hb ht) (fun _ hk=>hk.2) u) (fun _ hk=>hk.1)
theorem Q_lt (h:d.Q e w base ok v xs):∀ k,v.ownBlock=some k→k<w.heap.size:=by
  obtain ⟨_,inner,ho,_⟩:=h
  exact q_lt ho
theorem Q_base (h:d.Q e w base ok v xs):∀ k,v.ownBlock=some k→base≤k:=by
  obtain ⟨_,inner,ho,_⟩:=h
  exact fun k hk=>(q_typed ho k hk).1
theorem Q_away (h:d.Q e w base ok v xs) {g:Nat} (hok:∀ k,ok k→k≠g):some g≠v.ownBlock:=fun he=>hok g (h.1 g he.symm) rfl
theorem Q_ne (h:d.Q e w base ok v xs) {g t:Nat} {cells:Array Value} (hb:w.heap[g]?=some (.cells cells t (0,0))) (ht:e≠t):some g≠v.ownBlock:=by
  obtain ⟨_,inner,ho,_⟩:=h
  intro he
  obtain ⟨_,cells',hc⟩:=q_typed ho g he.symm
  rw [hc] at hb
  injection hb with hb
  injection hb with _ hb
  exact ht hb
theorem Q_slice (h:d.Q e w base ok v xs):∃ A c,v = .slice A xs.length c∧xs.length≤c:=by
  obtain ⟨_,inner,ho,_⟩:=h
  exact q_slice ho
theorem Q_reads' {A:Option Addr} {n c:Nat} (h:d.Q e w base ok (.slice A n c) xs):n=xs.length∧n≤c∧d.C w A xs.length xs:=by
  obtain ⟨_,inner,ho,hr⟩:=h
  obtain ⟨A',c',he,hl⟩:=q_slice ho
  injection he with h1 h2 h3
  subst h1;subst h2;subst h3
  refine ⟨rfl,hl,rfl,q_max ho,fun hp=>?_⟩
  obtain ⟨ad,ha,hc⟩:=q_cells ho hp
  refine ⟨ad,ha,fun j p hj=>⟨(inner.drop (j*d.sz)).take d.sz,?_,d.K_of_M (hr.2 j p hj),fun i u hu=>?_⟩⟩
  · have hjl:=(List.getElem?_eq_some_iff.1 hj).1
    have h1:j*d.sz+d.sz≤inner.length:=by rw [hr.1,← Nat.succ_mul];exact Nat.mul_le_mul_right _ hjl
    rw [List.length_take,List.length_drop]
    omega
  · refine hc _ u ?_
    rw [List.getElem?_take] at hu
    split at hu
    · rw [List.getElem?_drop] at hu
      exact hu
    · cases hu
theorem Q_reads (h:d.Q e w base ok v xs):∃ A c,v = .slice A xs.length c∧xs.length≤c∧d.C w A xs.length xs:=by
  obtain ⟨A,c,rfl,hl⟩:=Q_slice h
  exact ⟨A,c,rfl,hl,(Q_reads' h).2.2⟩
theorem Q_take {A:Option Addr} {m n c:Nat} (h:d.Q e w base ok (.slice A n c) xs) (hm:m≤xs.length):d.Q e w base ok (.slice A m c) (xs.take m):=by
  have hn:n=xs.length:=(Q_reads' h).1
  subst hn
  obtain ⟨h0,inner,ho,hr⟩:=h
  have hb:∀ x y:Nat,(Value.slice A x c).ownBlock=(Value.slice A y c).ownBlock:=by
    intro x y
    cases A<;>rfl
  refine ⟨fun k hk=>h0 k (by rw [hb _ m];exact hk),inner.take (m*d.sz),?_,?_⟩
  · rw [List.length_take,Nat.min_eq_left hm]
    exact q_take ho hm
  · rw [hb m xs.length]
    exact reps_take hr hm
theorem Q_drop {A:Option Addr} {k n c:Nat} (h:d.Q e w base ok (.slice A n c) xs) (hk:k≤xs.length):d.Q e w base ok (.slice (if c=k then A else A.map (·.add (k*d.sz))) (n-k) (c-k)) (xs.drop k):=by
  have hn:n=xs.length:=(Q_reads' h).1
  subst hn
  obtain ⟨h0,inner,ho,hr⟩:=h
  have hb:(Value.slice (if c=k then A else A.map (·.add (k*d.sz))) (xs.length-k) (c-k)).ownBlock=(Value.slice A xs.length c).ownBlock:=by
    split
    · cases A<;>rfl
    · cases A with
      | none=>rfl
      | some a=>simp [Value.ownBlock];unfold Addr.add;split<;>rfl
  refine ⟨fun j hj=>h0 j (by rw [← hb];exact hj),inner.drop (k*d.sz),?_,?_⟩
  · rw [List.length_drop]
    exact q_drop ho hk
  · rw [hb]
    exact reps_drop hr
theorem Q_after {u v1:Value} {ys:List α} {e':Nat} (h:d.Q e' W base (fun k=>ok k∧some k≠v.ownBlock) u ys) (hg:W.grownBy w1 v.ownBlock) (hat:v1.ownBlock=v.ownBlock∨∃ b,v1.ownBlock=some b∧W.heap.size≤b):d.Q e' w1 base (fun k=>ok k∧some k≠v1.ownBlock) u ys:=by
  refine Q_mono (Q_move (Q_bound h) (fun k hk=>hg.block k hk.2.2.1 hk.1.2)) (fun k hk=>⟨hk.1.1,?_⟩)
  rcases hat with hat|⟨b,hb,hle⟩
  · rw [hat];exact hk.1.2
  · rw [hb]
    intro he
    injection he with he
    have:=hk.2.2.1
    omega
theorem Q_appended {okp:Nat→Prop} {v1:Value} {p:α} {inner cs:List Value} (h0:∀ k,v.ownBlock=some k→ok k) (hr:Reps (d.M W base (fun k=>ok k∧some k≠v.ownBlock)) d.sz xs inner) (hp:d.M W base okp p cs) (hokp:∀ k,okp k→ok k∧some k≠v.ownBlock) (hfresh:∀ k,W.heap.size≤k→ok k)
    (hown:QRow w1 base e d.sz v1 (xs.length+1) (inner++cs)) (hg:W.grownBy w1 v.ownBlock) (hat:v1.ownBlock=v.ownBlock∨∃ b,v1.ownBlock=some b∧W.heap.size≤b):d.Q e w1 base ok v1 (xs++[p]):=by
  have hne:∀ k,some k≠v.ownBlock→k<W.heap.size→some k≠v1.ownBlock:=by
    intro k hk hlt
    rcases hat with hat|⟨b,hb,hle⟩
    · rw [hat];exact hk
    · rw [hb]
      intro he
      injection he with he
      omega
  have step:∀ {q:α} {c:List Value} {o:Nat→Prop},d.M W base o q c→(∀ k,o k→ok k∧some k≠v.ownBlock)→d.M w1 base (fun k=>ok k∧some k≠v1.ownBlock) q c:=by
    intro q c o hq ho
    have h1:=d.M_move (w1:=w1) (fun k hk=>hg.block k hk.2.2.1 (ho k hk.1).2) (d.M_bound hq)
    exact d.M_mono (fun k hk=>⟨(ho k hk.1).1,hne k (ho k hk.1).2 hk.2.2.1⟩) h1
  refine ⟨fun k hk=>?_,inner++cs,by rw [List.length_append,List.length_singleton];exact hown,?_⟩
  · rcases hat with hat|⟨b,hb,hle⟩
    · exact h0 k (hat ▸ hk)
    · rw [hb] at hk
      injection hk with hk
      exact hfresh k (by omega)
  · exact (hr.imp_ (fun _ _ hq=>step hq (fun _ hk=>hk))).snoc (step hp hokp) (d.K_len (d.K_of_M hp))
end
section
variable {P:Program} {ops:Array Oper} {rest:List Oper} {o:Oper} {a:Act} {Q':Exit→Act→World→Prop} {Kc:Act→World→Prop} {α:Type}
theorem Q_run (d:Kd α) {w0 W:World} (base:Nat) (t ty e:TypeId) (z:Value) (bytes:Nat)
    (ht:P.underlying t=some (.slice e)) (hinfo:(P.info? e).map (fun i=>(i.zero,i.size,i.bytes))=some (some z,d.sz,bytes)) (hz:z.cells.size=d.sz) (hs0:0<d.sz) (hb0:0<bytes)
    (v:Value) (xs:List α) (p:α) (cs:List Value) (ok okp:Nat→Prop) (hp:d.M W base okp p cs) (hokp:∀ k,okp k→ok k∧some k≠v.ownBlock) (hfresh:∀ k,W.heap.size≤k→ok k)
    (HO:d.Q e W base ok v xs) (HB:Below base w0 W) (hbase:base≤W.heap.size) (hl:(xs.length+1)*bytes≤140737488355328) :
    ∃ v1 w1,(Builtin.append_ #[t,t] ty #[v,.slice (some ⟨W.heap.size,0,none⟩) 1 1]).run P (W.alloc (.cells cs.toArray e)) = .ok v1 w1∧d.Q e w1 base ok v1 (xs++[p])∧Below base w0 w1∧W.grownBy w1 v.ownBlock∧(v1.ownBlock=v.ownBlock∨∃ b,v1.ownBlock=some b∧W.heap.size≤b):=by
  obtain ⟨h0,inner,hown,hr⟩:=HO
  obtain ⟨i0,hi,hzz⟩:=Option.map_eq_some_iff.1 hinfo
  simp only [Prod.mk.injEq] at hzz
  obtain ⟨hz0,hz1,hz2⟩:=hzz
  have hlen:xs.length+1≤140737488355328:=Nat.le_trans (Nat.le_mul_of_pos_right _ hb0) hl
  have hcl:=d.K_len (d.K_of_M hp)
  have hq:QRow (W.alloc (.cells cs.toArray e)) base e d.sz v xs.length inner:=q_move hown (fun k hk=>Below.heap_alloc W _ k (q_lt hown k hk))
  obtain ⟨v1,w1,hrun,hq1,hg1,hat⟩:=q_append (P:=P) (W.alloc (.cells cs.toArray e)) base t ty e i0 z d.sz bytes ht hi hz0 hz1 hz2 hz hs0 v xs.length inner hq ⟨W.heap.size,0,none⟩ 1 1 cs (by rw [hcl,Nat.one_mul])
    (by simpa using World.news_of_block (cs:=cs.toArray) (t:=e) (fr:=(0,0)) (heap_alloc_new W (.cells cs.toArray e))) (d.K_one (d.K_of_M hp)) (by omega) (by simp only [maxLen];omega) hl (by simp;omega)
  have hg:W.grownBy w1 v.ownBlock:=World.grownBy.trans (World.grownBy_alloc W _ _) hg1
  have hat':v1.ownBlock=v.ownBlock∨∃ b,v1.ownBlock=some b∧W.heap.size≤b:=by
    rcases hat with hat|⟨b,hb,hle⟩
    · exact .inl hat
    · exact .inr ⟨b,hb,by rw [World.size_alloc] at hle;omega⟩
  exact ⟨v1,w1,hrun,Q_appended h0 hr hp hokp hfresh hq1 hg hat',HB.grown hg hbase (fun k hk=>(q_typed hown k hk).1),hg,hat'⟩
theorem Q_append (d:Kd α) {w0 W:World} (base:Nat) (hgd:o.guard=none) (s x:Operand) (t e:TypeId) (z:Value) (bytes:Nat)
    (ho:o.op = .call { callee := .builtin .append,args:=#[s,x],argTypes:=#[t,t] })
    (ht:P.underlying t=some (.slice e)) (hinfo:(P.info? e).map (fun i=>(i.zero,i.size,i.bytes))=some (some z,d.sz,bytes)) (hz:z.cells.size=d.sz) (hs0:0<d.sz) (hb0:0<bytes)
    (v:Value) (xs:List α) (p:α) (cs:List Value) (ok okp:Nat→Prop) (hs:a.eval s=v) (hx:a.eval x = .slice (some ⟨W.heap.size,0,none⟩) 1 1) (hp:d.M W base okp p cs) (hokp:∀ k,okp k→ok k∧some k≠v.ownBlock) (hfresh:∀ k,W.heap.size≤k→ok k)
    (HO:d.Q e W base ok v xs) (HB:Below base w0 W) (hbase:base≤W.heap.size) (hl:(xs.length+1)*bytes≤140737488355328)
    (h:∀ v1 w1,d.Q e w1 base ok v1 (xs++[p])→Below base w0 w1→W.grownBy w1 v.ownBlock→(v1.ownBlock=v.ownBlock∨∃ b,v1.ownBlock=some b∧W.heap.size≤b)→wpList P ops Q' rest (a.put o.dst v1) w1) :
    wpList P ops Q' (o::rest) a (W.alloc (.cells cs.toArray e)):=by
  obtain ⟨v1,w1,hr,h1,h2,h3,h4⟩:=Q_run (P:=P) d base t o.type e z bytes ht hinfo hz hs0 hb0 v xs p cs ok okp hp hokp hfresh HO HB hbase hl
  refine wpList_plain hgd fun K hK=>?_
  unfold Oper.wp execOp
  simp only [ho,resolve,invoke,builtin,Sem.run_bind,Sem.run_pure,Result.andThen_ok,List.map_toArray,List.map_cons,List.map_nil,hs,hx,hr]
  exact hK _ _ (h v1 w1 h1 h2 h3 h4)
theorem Q_append_step (d:Kd α) {w0 W:World} (base:Nat) (hw:Region.wanted o (yielded ops a.tmps)=true) (s x:Operand) (t e:TypeId) (z:Value) (bytes:Nat)
    (ho:o.op = .call { callee := .builtin .append,args:=#[s,x],argTypes:=#[t,t] })
    (ht:P.underlying t=some (.slice e)) (hinfo:(P.info? e).map (fun i=>(i.zero,i.size,i.bytes))=some (some z,d.sz,bytes)) (hz:z.cells.size=d.sz) (hs0:0<d.sz) (hb0:0<bytes)
    (v:Value) (xs:List α) (p:α) (cs:List Value) (ok okp:Nat→Prop) (hs:a.eval s=v) (hx:a.eval x = .slice (some ⟨W.heap.size,0,none⟩) 1 1) (hp:d.M W base okp p cs) (hokp:∀ k,okp k→ok k∧some k≠v.ownBlock) (hfresh:∀ k,W.heap.size≤k→ok k)
    (HO:d.Q e W base ok v xs) (HB:Below base w0 W) (hbase:base≤W.heap.size) (hl:(xs.length+1)*bytes≤140737488355328)
    (h:∀ v1 w1,d.Q e w1 base ok v1 (xs++[p])→Below base w0 w1→W.grownBy w1 v.ownBlock→(v1.ownBlock=v.ownBlock∨∃ b,v1.ownBlock=some b∧W.heap.size≤b)→Kc (a.put o.dst v1) w1) :
    if Region.wanted o (yielded ops a.tmps)=true then Oper.wp P o a (W.alloc (.cells cs.toArray e)) Kc Q' else Kc (a.put o.dst undef) (W.alloc (.cells cs.toArray e)):=by
  obtain ⟨v1,w1,hr,h1,h2,h3,h4⟩:=Q_run (P:=P) d base t o.type e z bytes ht hinfo hz hs0 hb0 v xs p cs ok okp hp hokp hfresh HO HB hbase hl
  rw [if_pos hw]
  unfold Oper.wp execOp
  simp only [ho,resolve,invoke,builtin,Sem.run_bind,Sem.run_pure,Result.andThen_ok,List.map_toArray,List.map_cons,List.map_nil,hs,hx,hr]
  exact h v1 w1 h1 h2 h3 h4
end
end Kd
namespace Kd
section
variable {α:Type} {d:Kd α} {e e':Nat} {w w1 W:World} {base:Nat} {ok:Nat→Prop} {u v:Value} {xs:List α}
theorem R_typed (h:d.R e w base ok v xs):∀ k,v.ownBlock=some k→∃ cells,w.heap[k]?=some (.cells cells e (0,0)):=by
  obtain ⟨inner,ho⟩:=R_own h
  exact fun k hk=>own_typed ho k hk
theorem R_over' (h:d.R e W base ok u xs) (hty:∀ k,v.ownBlock=some k→∃ cells,W.heap[k]?=some (.cells cells e' (0,0))) (ht:∀ q,q∈e::d.E→q≠e') (hg:W.grownBy w1 v.ownBlock):d.R e w1 base ok u xs:=by
  refine R_mono (R_move (R_bound h) (fun k hk=>hg.block k hk.2.2.1 (fun he=>?_))) (fun _ hk=>hk.1)
  obtain ⟨_,_,_,q,hq,cells,hc⟩:=hk
  obtain ⟨cells',hc'⟩:=hty k he.symm
  rw [hc] at hc'
  injection hc' with hc'
  injection hc' with _ hc'
  exact ht q hq hc'
theorem R_apart' (h:d.R e W base ok u xs) (hty:∀ k,v.ownBlock=some k→∃ cells,W.heap[k]?=some (.cells cells e' (0,0))) (ht:∀ q,q∈e::d.E→q≠e'):d.R e W base (fun k=>ok k∧some k≠v.ownBlock) u xs:=by
  refine R_mono (R_bound h) (fun k hk=>⟨hk.1,fun he=>?_⟩)
  obtain ⟨_,_,_,q,hq,cells,hc⟩:=hk
  obtain ⟨cells',hc'⟩:=hty k he.symm
  rw [hc] at hc'
  injection hc' with hc'
  injection hc' with _ hc'
  exact ht q hq hc'
theorem R_elder' (hu:d.R e W base ok u xs) (hbase:∀ k,v.ownBlock=some k→W.heap.size≤k) (hb:Below W.heap.size W w1):d.R e w1 base (fun k=>ok k∧some k≠v.ownBlock) u xs :=
  R_mono (R_move (R_bound hu) (fun k hk=>hb.block k hk.2.2.1)) (fun k hk=>⟨hk.1,fun he=>by have:=hbase k he.symm;have:=hk.2.2.1;omega⟩)
theorem R_new' (h:d.R e w1 W.heap.size ok v xs) (hlt:∀ k,u.ownBlock=some k→k<W.heap.size):d.R e w1 W.heap.size (fun k=>ok k∧some k≠u.ownBlock) v xs :=
  R_mono (R_bound h) (fun k hk=>⟨hk.1,fun he=>by have:=hlt k he.symm;have:=hk.2.1;omega⟩)
theorem Q_typed (h:d.Q e w base ok v xs):∀ k,v.ownBlock=some k→∃ cells,w.heap[k]?=some (.cells cells e (0,0)):=by
  obtain ⟨_,inner,ho,_⟩:=h
  exact fun k hk=>(q_typed ho k hk).2
theorem Q_over' (h:d.Q e W base ok u xs) (hty:∀ k,v.ownBlock=some k→∃ cells,W.heap[k]?=some (.cells cells e' (0,0))) (ht:∀ q,q∈e::d.E→q≠e') (hg:W.grownBy w1 v.ownBlock):d.Q e w1 base ok u xs:=by
  refine Q_mono (Q_move (Q_bound h) (fun k hk=>hg.block k hk.2.2.1 (fun he=>?_))) (fun _ hk=>hk.1)
  obtain ⟨_,_,_,q,hq,cells,hc⟩:=hk
  obtain ⟨cells',hc'⟩:=hty k he.symm
  rw [hc] at hc'
  injection hc' with hc'
  injection hc' with _ hc'
  exact ht q hq hc'
theorem Q_apart' (h:d.Q e W base ok u xs) (hty:∀ k,v.ownBlock=some k→∃ cells,W.heap[k]?=some (.cells cells e' (0,0))) (ht:∀ q,q∈e::d.E→q≠e'):d.Q e W base (fun k=>ok k∧some k≠v.ownBlock) u xs:=by
  refine Q_mono (Q_bound h) (fun k hk=>⟨hk.1,fun he=>?_⟩)
  obtain ⟨_,_,_,q,hq,cells,hc⟩:=hk
  obtain ⟨cells',hc'⟩:=hty k he.symm
  rw [hc] at hc'
  injection hc' with hc'
  injection hc' with _ hc'
  exact ht q hq hc'
theorem Q_elder' (hu:d.Q e W base ok u xs) (hbase:∀ k,v.ownBlock=some k→W.heap.size≤k) (hb:Below W.heap.size W w1):d.Q e w1 base (fun k=>ok k∧some k≠v.ownBlock) u xs :=
  Q_mono (Q_move (Q_bound hu) (fun k hk=>hb.block k hk.2.2.1)) (fun k hk=>⟨hk.1,fun he=>by have:=hbase k he.symm;have:=hk.2.2.1;omega⟩)
theorem Q_new' (h:d.Q e w1 W.heap.size ok v xs) (hlt:∀ k,u.ownBlock=some k→k<W.heap.size):d.Q e w1 W.heap.size (fun k=>ok k∧some k≠u.ownBlock) v xs :=
  Q_mono (Q_bound h) (fun k hk=>⟨hk.1,fun he=>by have:=hlt k he.symm;have:=hk.2.1;omega⟩)
theorem fresh' (hlt:∀ k,u.ownBlock=some k→k<W.heap.size):∀ k,W.heap.size≤k→some k≠u.ownBlock:=fun k hk he=>by have:=hlt k he.symm;omega
theorem Q_elderB (h:d.Q e w base ok v xs) (a:Nat) (ha:w.heap.size≤a):d.Q e w base (fun k=>ok k∧k≠a) v xs:=Q_mono (Q_bound h) (fun k hk=>⟨hk.1,by have:=hk.2.2.1;omega⟩)
theorem Q_newB {g:Nat} {o:Obj} (h:d.Q e w1 w.heap.size ok v xs) (hb:w.heap[g]?=some o):d.Q e w1 w.heap.size (fun k=>ok k∧k≠g) v xs:=Q_mono (Q_bound h) (fun k hk=>⟨hk.1,by have:=blk_lt hb;have:=hk.2.1;omega⟩)
theorem Q_ne_new (h:d.Q e w base ok v xs) (k:Nat):some (w.heap.size+k)≠v.ownBlock:=fun he=>by
  have:=Q_lt h _ he.symm
  omega
theorem Q_base2 (h:d.Q e w base ok v xs):v.ownBlock=none∨∃ k,v.ownBlock=some k∧base≤k:=by
  cases hv:v.ownBlock with
  | none=>exact .inl rfl
  | some k=>exact .inr ⟨k,rfl,Q_base h k hv⟩
theorem R_of_Q {g n cap:Nat} (h:d.Q e w base ok (.slice (some ⟨g,0,none⟩) n cap) xs) (hs:0<d.sz) (hp:0<n):d.R e w base ok (.slice (some ⟨g,0,none⟩) n cap) xs:=by
  have hn:n=xs.length:=(Q_reads' h).1
  obtain ⟨h0,inner,hq,hr⟩:=h
  refine ⟨h0,inner,⟨hq.1,?_⟩,hr⟩
  rcases hq.2 with ⟨h1,_⟩|⟨g',off,cap',cur,he,hb,hh,hnc,hcm,hcs,ht⟩
  · omega
  · injection he with ha hx hc
    injection ha with ha
    injection ha with hg ho
    subst hg;subst hc
    have hoff:off=0:=by
      rcases Nat.eq_zero_or_pos off with h2|h2
      · exact h2
      · have:=Nat.mul_pos h2 hs
        omega
    subst hoff
    exact .inr ⟨g,cap,cur,by rw [hn],hb,hh,hnc,by omega,by rw [hcs,Nat.zero_add],by rw [← ht,Nat.zero_mul,List.drop_zero]⟩
end
end Kd
theorem seg_get {α:Type} (a seg:List α) (o:Nat) (h:o+seg.length≤a.length) (q:Nat) :
    (a.take o++seg++a.drop (o+seg.length))[q]?=if q<o then a[q]? else if q<o+seg.length then seg[q-o]? else a[q]?:=by
  have hl:(a.take o).length=o:=by rw [List.length_take];omega
  rw [List.append_assoc]
  by_cases h1:q<o
  · rw [if_pos h1,List.getElem?_append_left (by omega),List.getElem?_take,if_pos h1]
  · rw [if_neg h1,List.getElem?_append_right (by omega),hl]
    by_cases h2:q<o+seg.length
    · rw [if_pos h2,List.getElem?_append_left (by omega)]
    · rw [if_neg h2,List.getElem?_append_right (by omega),List.getElem?_drop]
      congr 1
      omega
namespace Kd
section
variable {α:Type} {d:Kd α} {e base g n cap:Nat} {ok okp:Nat→Prop} {W:World} {xs:List α}
theorem R_elem (h:d.R e W base ok (.slice (some ⟨g,0,none⟩) n cap) xs) (z:α) (i:Int) (h0:0≤i) (h1:i<n) :
    ∃ c,c.length=d.sz∧d.M W base (fun k=>ok k∧k≠g) (xs.getD i.toNat z) c∧(∀ j u,c[j]?=some u→W.cell? ⟨g,i.toNat*d.sz+j,none⟩=some u)∧∀ j,W.frozen? ⟨g,i.toNat*d.sz+j,none⟩=false:=by
  obtain ⟨hn,hnc,hC⟩:=R_reads' h
  obtain ⟨_,inner,ho,hr⟩:=h
  have hil:i.toNat<xs.length:=by omega
  have hseg:i.toNat*d.sz+d.sz≤inner.length:=by rw [hr.1,← Nat.succ_mul];exact Nat.mul_le_mul_right _ hil
  have hM:=hr.2 i.toNat _ (List.getElem?_eq_getElem hil)
  refine ⟨(inner.drop (i.toNat*d.sz)).take d.sz,by rw [List.length_take,List.length_drop];omega,?_,fun j u hu=>?_,fun j=>?_⟩
  · rw [List.getD_eq_getElem?_getD,List.getElem?_eq_getElem hil]
    exact d.M_mono (fun k hk=>⟨hk.1,fun he=>hk.2 (by rw [he];simp [Value.ownBlock])⟩) hM
  · rw [List.getElem?_take] at hu
    split at hu
    · rw [List.getElem?_drop] at hu
      have:=ho.cells (g:=g) (by simp [Value.ownBlock]) _ u hu
      rwa [add_plain] at this
    · cases hu
  · obtain ⟨cells,hc⟩:=own_typed ho g (by simp [Value.ownBlock])
    exact blk_frozen hc _
theorem R_seg (h:d.R e W base ok (.slice (some ⟨g,0,none⟩) n cap) xs) (i:Int) (h0:0≤i) (h1:i<n) {c seg:List Value} {j:Nat} (hcl:c.length=d.sz) (hcc:∀ j u,c[j]?=some u→W.cell? ⟨g,i.toNat*d.sz+j,none⟩=some u)
    (hj:j+seg.length≤d.sz) {x':α} (hM:d.M W base okp x' (c.take j++seg++c.drop (j+seg.length))) (hokp:∀ k,okp k→ok k∧k≠g) :
    d.R e (W.setCells g (i.toNat*d.sz+j) seg) base ok (.slice (some ⟨g,0,none⟩) n cap) (xs.set i.toNat x')∧W.grownBy (W.setCells g (i.toNat*d.sz+j) seg) (some g):=by
  obtain ⟨hn,hnc,_⟩:=R_reads' h
  obtain ⟨hok,inner,ho,hr⟩:=h
  have hil:i.toNat<xs.length:=by omega
  have hseg:i.toNat*d.sz+d.sz≤inner.length:=by rw [hr.1,← Nat.succ_mul];exact Nat.mul_le_mul_right _ hil
  have hin:inner.length=n*d.sz:=by rw [hr.1,hn]
  obtain ⟨ho1,ho2⟩:=ho
  rcases ho2 with ⟨hv,_⟩|⟨g',cap',cur,hv,hb,hh,hnc',hcm,hcs,ht⟩
  · cases hv
  injection hv with ha _ hc
  injection ha with ha
  injection ha with hg
  subst hg;subst hc
  have hfit:i.toNat*d.sz+j+seg.length≤cur.size:=by
    have:n*d.sz≤cap*d.sz:=Nat.mul_le_mul_right _ hnc
    omega
  obtain ⟨cur',h3,h4,h5⟩:=setCells_row seg (i.toNat*d.sz+j) W cur hh hfit
  obtain ⟨s1,s2,s3,s4⟩:=setCells_same g seg (i.toNat*d.sz+j) W
  have hfar:∀ k,k≠g→(W.setCells g (i.toNat*d.sz+j) seg).heap[k]?=W.heap[k]?:=fun k hk=>setCells_far seg _ k hk
  -- the element's cells before are what was read
  have hcin:∀ q,q<d.sz→c[q]?=inner[i.toNat*d.sz+q]?:=by
    intro q hq
    have hq':q<c.length:=by omega
    have h6:=hcc q _ (List.getElem?_eq_getElem hq')
    rw [cell_of_row W g _ cur e (0,0) hh] at h6
    rw [List.getElem?_eq_getElem hq',← h6,← ht,List.getElem?_take,if_pos (by rw [← hn];omega),Array.getElem?_toList]
  refine ⟨⟨hok,inner.take (i.toNat*d.sz+j)++seg++inner.drop (i.toNat*d.sz+j+seg.length),⟨?_,.inr ⟨g,cap,cur',by rw [List.length_set,hn],hb,h3,by rw [List.length_set,← hn];exact hnc,hcm,by rw [h4,hcs],?_⟩⟩,?_⟩,
    ⟨s1,s2,s3,by rw [s4];exact Nat.le_refl _,fun k _ hk=>hfar k (fun he=>hk (by rw [he]))⟩⟩
  · rw [List.length_set]
    simp only [List.length_append,List.length_take,List.length_drop]
    rw [hr.1] at hseg ⊢
    omega
  · rw [List.length_set,← hn]
    apply List.ext_getElem?
    intro q
    rw [List.getElem?_take,h5]
    rw [seg_get cur.toList seg (i.toNat*d.sz+j) (by rw [Array.length_toList];omega) q,seg_get inner seg (i.toNat*d.sz+j) (by omega) q]
    have hcur:∀ q,q<n*d.sz→cur.toList[q]?=inner[q]?:=by
      intro q hq
      rw [← ht,List.getElem?_take,if_pos (by rw [← hn];exact hq)]
    by_cases hq:q<n*d.sz
    · rw [if_pos hq,hcur q hq]
    · rw [if_neg hq,if_neg (by omega),if_neg (by omega),List.getElem?_eq_none (by omega)]
  · refine ⟨?_, fun m p hm => ?_⟩
    · rw [List.length_set]
      simp only [List.length_append,List.length_take,List.length_drop]
      rw [hr.1] at hseg ⊢
      omega
    · have hml:m<xs.length:=by
        have:=(List.getElem?_eq_some_iff.1 hm).1
        rwa [List.length_set] at this
      have hmfit:m*d.sz+d.sz≤inner.length:=by rw [hr.1,← Nat.succ_mul];exact Nat.mul_le_mul_right _ hml
      have hgo:some g=(Value.slice (some ⟨g,0,none⟩) n cap).ownBlock:=by simp [Value.ownBlock]
      by_cases hmi:m=i.toNat
      · subst hmi
        rw [List.getElem?_set_self (by omega)] at hm
        injection hm with hm
        subst hm
        have hcells:((inner.take (i.toNat*d.sz+j)++seg++inner.drop (i.toNat*d.sz+j+seg.length)).drop (i.toNat*d.sz)).take d.sz=c.take j++seg++c.drop (j+seg.length):=by
          apply List.ext_getElem?
          intro q
          rw [List.getElem?_take,List.getElem?_drop,seg_get inner seg _ (by omega),seg_get c seg j (by omega) q]
          by_cases hq:q<d.sz
          · rw [if_pos hq,hcin q hq]
            by_cases hq1:q<j
            · rw [if_pos (by omega),if_pos hq1]
            · rw [if_neg (by omega),if_neg hq1]
              by_cases hq2:q<j+seg.length
              · rw [if_pos (by omega),if_pos hq2]
                congr 1
                omega
              · rw [if_neg (by omega),if_neg hq2]
          · rw [if_neg hq,if_neg (by omega),if_neg (by omega),List.getElem?_eq_none (by omega)]
        rw [hcells]
        refine d.M_mono (fun k hk=>?_) (d.M_move (w1:=W.setCells g (i.toNat*d.sz+j) seg) (fun k hk=>hfar k (hokp k hk).2) hM)
        exact ⟨(hokp k hk).1,fun he=>(hokp k hk).2 (by rw [← hgo] at he;injection he)⟩
      · rw [List.getElem?_set_ne (by omega)] at hm
        have hold:=hr.2 m p hm
        have hcells:((inner.take (i.toNat*d.sz+j)++seg++inner.drop (i.toNat*d.sz+j+seg.length)).drop (m*d.sz)).take d.sz=(inner.drop (m*d.sz)).take d.sz:=by
          apply List.ext_getElem?
          intro q
          rw [List.getElem?_take,List.getElem?_take,List.getElem?_drop,List.getElem?_drop,seg_get inner seg _ (by omega)]
          by_cases hq:q<d.sz
          · rw [if_pos hq,if_pos hq]
            rcases Nat.lt_or_gt_of_ne hmi with hlt|hgt
            · have:m*d.sz+d.sz≤i.toNat*d.sz:=by rw [← Nat.succ_mul];exact Nat.mul_le_mul_right _ hlt
              rw [if_pos (by omega)]
            · have:i.toNat*d.sz+d.sz≤m*d.sz:=by rw [← Nat.succ_mul];exact Nat.mul_le_mul_right _ hgt
              rw [if_neg (by omega),if_neg (by omega)]
          · rw [if_neg hq,if_neg hq]
        rw [hcells]
        refine d.M_move (fun k hk=>hfar k (fun he=>hk.2 (by rw [he];exact hgo))) hold
end
end Kd
namespace Kd
def fixed {α:Type} (d:Kd α) (w0:World):Kd α where
  sz:=d.sz
  E:=[]
  K:=fun _ x cs=>d.K w0 x cs
  M:=fun _ _ _ x cs=>d.K w0 x cs
  K_len:=d.K_len
  K_one:=d.K_one
  K_below:=fun _ h=>h
  K_of_M:=fun h=>h
  M_mono:=fun _ h=>h
  M_bound:=fun h=>h
  M_move:=fun _ h=>h
  M_lower:=fun _ h=>h
def or_ {α:Type} (a b:Kd α) (h:b.sz=a.sz):Kd α where
  sz:=a.sz
  E:=a.E++b.E
  K:=fun w x cs=>a.K w x cs∨b.K w x cs
  M:=fun w base ok x cs=>a.M w base ok x cs∨b.M w base ok x cs
  K_len:=fun hk=>hk.elim a.K_len (fun hk=>(b.K_len hk).trans h)
  K_one:=fun hk=>hk.elim a.K_one b.K_one
  K_below:=fun hb hk=>hk.imp (a.K_below hb) (b.K_below hb)
  K_of_M:=fun hk=>hk.imp a.K_of_M b.K_of_M
  M_mono:=fun hok hk=>hk.imp (a.M_mono hok) (b.M_mono hok)
  M_bound:=fun hk=>hk.imp
    (fun hk=>a.M_mono (fun _ ⟨h1,h2,h3,q,hq,hc⟩=>⟨h1,h2,h3,q,List.mem_append_left _ hq,hc⟩) (a.M_bound hk))
    (fun hk=>b.M_mono (fun _ ⟨h1,h2,h3,q,hq,hc⟩=>⟨h1,h2,h3,q,List.mem_append_right _ hq,hc⟩) (b.M_bound hk))
  M_move:=fun hm hk=>hk.imp (a.M_move hm) (b.M_move hm)
  M_lower:=fun hb hk=>hk.imp (a.M_lower hb) (b.M_lower hb)
def mix {α:Type} (e:Nat) (d dm:Kd α) (w0:World):Kd (List α):=or_ (fixed (slice e d) w0) (slice e dm) rfl
theorem mix_came {α:Type} {e:Nat} {d dm:Kd α} {w0 w:World} {base:Nat} {ok:Nat→Prop} {A:Option Addr} {c:Nat} {xs:List α} (hl:xs.length≤c) (h:d.C w0 A xs.length xs):(mix e d dm w0).M w base ok xs [.slice A xs.length c] := .inl ⟨A,c,rfl,hl,h⟩
theorem mix_made {α:Type} {e:Nat} {d dm:Kd α} {w0 w:World} {base:Nat} {ok:Nat→Prop} {v:Value} {xs:List α} (h:dm.R e w base ok v xs):(mix e d dm w0).M w base ok xs [v] := .inr ⟨v,rfl,h⟩
theorem mix_read {α:Type} {e:Nat} {d dm:Kd α} {w0 w:World} (hs:dm.sz=d.sz) (hd:∀ x cs,dm.K w x cs→d.K w x cs) (hb:Below w0.heap.size w0 w) {xs:List α} {cs:List Value} (h:(mix e d dm w0).K w xs cs):∃ A c,cs=[.slice A xs.length c]∧xs.length≤c∧d.C w A xs.length xs:=by
  rcases h with ⟨A,c,rfl,hl,hr⟩|⟨A,c,rfl,hl,hr⟩
  · exact ⟨A,c,rfl,hl,C_below hr hb⟩
  · refine ⟨A,c,rfl,hl,?_⟩
    unfold C at hr ⊢
    rw [← hs]
    exact hr.imp_ (Below.refl _ _) (fun _ _ hp=>hd _ _ hp)
theorem mono_or {α β:Type} {G H:Kd α→Kd β} (h:∀ d,(H d).sz=(G d).sz) (hG:Mono G) (hH:Mono H):Mono (fun d=>or_ (G d) (H d) (h d)) :=
  ⟨hG.sz,fun d d' hs hk w x cs hx=>hx.imp (hG.K d d' hs hk w x cs) (hH.K d d' hs hk w x cs),fun d d' hs hk w base ok x cs hx=>hx.imp (hG.M d d' hs hk w base ok x cs) (hH.M d d' hs hk w base ok x cs)⟩
theorem sub_or {α β:Type} {E:List Nat} {G H:Kd α→Kd β} (h:∀ d,(H d).sz=(G d).sz) (hG:Sub G E) (hH:Sub H E):Sub (fun d=>or_ (G d) (H d) (h d)) E:=fun d hd q hq=>by
  rcases List.mem_append.1 hq with hq|hq
  · exact hG d hd q hq
  · exact hH d hd q hq
theorem mono_mix {α β:Type} (e:Nat) (d:Kd β) (w0:World) {G:Kd α→Kd β} (hG:Mono G):Mono (fun k=>mix e d (G k) w0):=mono_or (G:=fun _=>fixed (slice e d) w0) (H:=fun k=>slice e (G k)) (fun _=>rfl) (mono_const (fixed (slice e d) w0)) (mono_slice e hG)
theorem sub_mix {α β:Type} {E:List Nat} (e:Nat) (d:Kd β) (w0:World) {G:Kd α→Kd β} (he:e∈E) (hG:Sub G E):Sub (fun k=>mix e d (G k) w0) E:=sub_or (G:=fun _=>fixed (slice e d) w0) (H:=fun k=>slice e (G k)) (fun _=>rfl) (sub_const (fixed (slice e d) w0) (fun _ h=>absurd h List.not_mem_nil)) (sub_slice e he hG)
theorem C_read {α:Type} {d dm:Kd α} {w:World} (hs:dm.sz=d.sz) (hd:∀ x cs,dm.K w x cs→d.K w x cs) {A:Option Addr} {n:Nat} {xs:List α} (h:dm.C w A n xs):d.C w A n xs:=by
  unfold C at h ⊢
  rw [← hs]
  exact h.imp_ (Below.refl _ _) (fun _ _ hp=>hd _ _ hp)
theorem mix_one {α:Type} {e:Nat} {d dm:Kd α} {w0 w:World} {base:Nat} {ok:Nat→Prop} {xs:List α} {cs:List Value} (h:(mix e d dm w0).M w base ok xs cs):∃ v,cs=[v]∧(mix e d dm w0).M w base ok xs [v]:=by
  rcases h with ⟨A,c,rfl,hl,hr⟩|⟨v,rfl,hr⟩
  · exact ⟨_,rfl,.inl ⟨A,c,rfl,hl,hr⟩⟩
  · exact ⟨v,rfl,.inr ⟨v,rfl,hr⟩⟩
theorem mix_imp {α:Type} {e:Nat} {d dm dm':Kd α} {w0 w:World} {base:Nat} {ok:Nat→Prop} {xs:List α} {cs:List Value} (hs:dm.sz=dm'.sz) (hd:∀ w base ok x cs,dm.M w base ok x cs→dm'.M w base ok x cs) (h:(mix e d dm w0).M w base ok xs cs):(mix e d dm' w0).M w base ok xs cs:=by
  rcases h with h|⟨v,rfl,hr⟩
  · exact .inl h
  · exact .inr ⟨v,rfl,R_imp hs hd hr⟩
theorem slice_mix {α:Type} {e:Nat} {d0 d dm:Kd α} {w0 w:World} {base:Nat} {ok:Nat→Prop} {xs:List α} {cs:List Value} (hs:d.sz=dm.sz) (hd:∀ w base ok x cs,d.M w base ok x cs→dm.M w base ok x cs) (h:(slice e d).M w base ok xs cs):(mix e d0 dm w0).M w base ok xs cs:=by
  obtain ⟨v,rfl,hr⟩:=h
  exact .inr ⟨v,rfl,R_imp hs hd hr⟩
theorem slice_came {α:Type} {e:Nat} {d dm:Kd α} {w0 w:World} {base:Nat} {ok:Nat→Prop} {xs:List α} {cs:List Value} (h:(slice e d).K w0 xs cs):(mix e d dm w0).M w base ok xs cs := .inl h
section
variable {α:Type} {F:Kd α→Kd α} {sz:Nat} {E:List Nat} {hs:∀ n,(upto F sz E n).sz=sz} {hE:∀ n q,q∈(upto F sz E n).E→q∈E}
theorem mix_fix {n:Nat} {e:Nat} {d:Kd α} {w0 w:World} {base:Nat} {ok:Nat→Prop} {xs:List α} {cs:List Value} (h:(mix e d (upto F sz E n) w0).M w base ok xs cs):(mix e d (fix F sz E hs hE) w0).M w base ok xs cs :=
  mix_imp (hs n) (fun w base ok x cs hp=>(⟨n,hp⟩:∃ n,(upto F sz E n).M w base ok x cs)) h
theorem mix_back (hm:Mono F) {e:Nat} {d:Kd α} {w0 w:World} {base:Nat} {ok:Nat→Prop} {xs:List α} {cs:List Value} (h:(mix e d (fix F sz E hs hE) w0).M w base ok xs cs):∃ n,(mix e d (upto F sz E n) w0).M w base ok xs cs:=by
  rcases h with h|⟨v,rfl,hr⟩
  · exact ⟨0,.inl h⟩
  · obtain ⟨n,hn⟩:=fix_R_back hm hr
    exact ⟨n,.inr ⟨v,rfl,hn⟩⟩
theorem mix_le (hm:Mono F) (hs:∀ n,(upto F sz E n).sz=sz) {n m:Nat} (hnm:n≤m) {e:Nat} {d:Kd α} {w0 w:World} {base:Nat} {ok:Nat→Prop} {xs:List α} {cs:List Value} (h:(mix e d (upto F sz E n) w0).M w base ok xs cs):(mix e d (upto F sz E m) w0).M w base ok xs cs :=
  mix_imp (by rw [hs n,hs m]) (fun _ _ _ _ _ hp=>upto_M_le hm hs hnm hp) h
end
end Kd
namespace Kd
theorem reps_append {α:Type} {R:α→List Value→Prop} {size:Nat} {ps qs:List α} {cs ds:List Value} (h:Reps R size ps cs) (h':Reps R size qs ds):Reps R size (ps++qs) (cs++ds):=by
  refine ⟨by rw [List.length_append,List.length_append,h.1,h'.1,Nat.add_mul],fun j p hj=>?_⟩
  rcases Nat.lt_or_ge j ps.length with hlt|hge
  · rw [List.getElem?_append_left hlt] at hj
    have hle:j*size+size≤cs.length:=by rw [h.1,← Nat.succ_mul];exact Nat.mul_le_mul_right _ hlt
    rw [List.drop_append_of_le_length (by omega),List.take_append_of_le_length (by rw [List.length_drop];omega)]
    exact h.2 j p hj
  · rw [List.getElem?_append_right hge] at hj
    have h2:=h'.2 (j-ps.length) p hj
    have hle:ps.length*size≤j*size:=Nat.mul_le_mul_right _ hge
    rw [List.drop_append,List.drop_eq_nil_of_le (by rw [h.1];exact hle),List.nil_append,h.1,← Nat.sub_mul]
    exact h2
section
variable {P:Program} {ops:Array Oper} {rest:List Oper} {o:Oper} {a:Act} {Q:Exit→Act→World→Prop} {α:Type}
theorem R_append_rows (d:Kd α) {Rr:α→List Value→Prop} {w0 W:World} (base:Nat) (hgd:o.guard=none) (s x:Operand) (t e:TypeId) (z:Value) (bytes:Nat)
    (ho:o.op = .call { callee := .builtin .append,args:=#[s,x],argTypes:=#[t,t] })
    (ht:P.underlying t=some (.slice e)) (hinfo:(P.info? e).map (fun i=>(i.zero,i.size,i.bytes))=some (some z,d.sz,bytes)) (hz:z.cells.size=d.sz) (hs0:0<d.sz) (hb0:0<bytes)
    (v:Value) (xs ys:List α) (A:Option Addr) (m c:Nat) (ok okp:Nat→Prop) (hs:a.eval s=v) (hx:a.eval x = .slice A m c)
    (HO:d.R e W base ok v xs) (HR:ReadsRow Rr d.sz W A m ys) (hKM:∀ x cs,Rr x cs→d.M W base okp x cs) (hokp:∀ k,okp k→ok k∧some k≠v.ownBlock) (hfresh:∀ k,W.heap.size≤k→ok k)
    (HB:Below base w0 W) (hbase:base≤W.heap.size) (hl:(xs.length+m)*bytes≤140737488355328)
    (h:∀ v1 w1,d.R e w1 base ok v1 (xs++ys)→Below base w0 w1→W.grownBy w1 v.ownBlock→(v1.ownBlock=v.ownBlock∨∃ b,v1.ownBlock=some b∧W.heap.size≤b)→wpList P ops Q rest (a.put o.dst v1) w1) :
    wpList P ops Q (o::rest) a W:=by
  obtain ⟨i0,hi,hzz⟩:=Option.map_eq_some_iff.1 hinfo
  simp only [Prod.mk.injEq] at hzz
  obtain ⟨hz0,hz1,hz2⟩:=hzz
  have hm:ys.length=m:=HR.1
  have hlen:xs.length+m≤140737488355328:=Nat.le_trans (Nat.le_mul_of_pos_right _ hb0) hl
  obtain ⟨hok,inner,hown,hr⟩:=HO
  have hrun:∃ v1 w1,(Builtin.append_ #[t,t] o.type #[v,.slice A m c]).run P W = .ok v1 w1∧d.R e w1 base ok v1 (xs++ys)∧W.grownBy w1 v.ownBlock∧(v1.ownBlock=v.ownBlock∨∃ b,v1.ownBlock=some b∧W.heap.size≤b):=by
    rcases A with _|ad
    · have h0:m=0:=by
        rcases Nat.eq_zero_or_pos m with h0|h0
        · exact h0
        · obtain ⟨ad,h,_⟩:=HR.2.2 h0
          cases h
      subst h0
      obtain rfl:ys=[]:=List.eq_nil_of_length_eq_zero hm
      refine ⟨v,W,?_,by rw [List.append_nil];exact ⟨hok,inner,hown,hr⟩,World.grownBy.refl W _,.inl rfl⟩
      rcases hown.2 with ⟨rfl,hn⟩|⟨g,cap,cur,rfl,_,_,hnc,_⟩
      · simp [Builtin.append_,run_underlying ht,sizeOf,typeInfo,hi,Builtin.lenOf,Builtin.firstCells]
      · simp [Builtin.append_,run_underlying ht,sizeOf,typeInfo,hi,Builtin.lenOf,Builtin.firstCells,hnc,storeCells]
    · obtain ⟨news,hnr,hnc⟩:=ReadsRow.inner_ HR
      have hnM:Reps (d.M W base okp) d.sz ys news:=hnr.imp_ (fun p c hp=>hKM p c hp)
      have hone:∀ u∈news,u.oneCell'=true:=by
        intro u hu
        obtain ⟨q,hq,rfl⟩:=List.mem_iff_getElem.1 hu
        have hql:q/d.sz<ys.length:=by
          rw [Nat.div_lt_iff_lt_mul hs0]
          rw [← hnM.1]
          exact hq
        have hc:=hnM.2 (q/d.sz) _ (List.getElem?_eq_getElem hql)
        refine d.K_one (d.K_of_M hc) _ ?_
        rw [List.mem_iff_getElem?]
        refine ⟨q%d.sz,?_⟩
        rw [List.getElem?_take,if_pos (Nat.mod_lt _ hs0),List.getElem?_drop,Nat.mul_comm,Nat.div_add_mod,List.getElem?_eq_getElem hq]
      obtain ⟨v1,w1,hrun,h2,hg,_,hat⟩:=run_append_own_at (P:=P) W base t o.type e i0 z d.sz bytes ht hi hz0 hz1 hz2 hz hs0 v xs.length inner hown ad m c news (by rw [hnM.1,hm]) hnc hone (by simp only [maxLen];omega) hl hbase
      have hat':v1.ownBlock=v.ownBlock∨∃ b,v1.ownBlock=some b∧W.heap.size≤b:=by
        rcases hat with hat|hat
        · exact .inl hat
        · exact .inr ⟨_,hat,Nat.le_refl _⟩
      have hne:∀ k,some k≠v.ownBlock→k<W.heap.size→some k≠v1.ownBlock:=by
        intro k hk hlt
        rcases hat' with hat|⟨b,hb,hle⟩
        · rw [hat];exact hk
        · rw [hb]
          intro he
          injection he with he
          omega
      have step:∀ {q:α} {c:List Value} {o:Nat→Prop},d.M W base o q c→(∀ k,o k→ok k∧some k≠v.ownBlock)→d.M w1 base (fun k=>ok k∧some k≠v1.ownBlock) q c:=by
        intro q c o hq ho
        have h1:=d.M_move (w1:=w1) (fun k hk=>hg.block k hk.2.2.1 (ho k hk.1).2) (d.M_bound hq)
        exact d.M_mono (fun k hk=>⟨(ho k hk.1).1,hne k (ho k hk.1).2 hk.2.2.1⟩) h1
      refine ⟨v1,w1,hrun,⟨fun k hk=>?_,inner++news,by rw [List.length_append,hm];exact h2,reps_append (hr.imp_ (fun _ _ hq=>step hq (fun _ hk=>hk))) (hnM.imp_ (fun _ _ hq=>step hq hokp))⟩,hg,hat'⟩
      rcases hat' with hat|⟨b,hb,hle⟩
      · exact hok k (hat ▸ hk)
      · rw [hb] at hk
        injection hk with hk
        exact hfresh k (by omega)
  obtain ⟨v1,w1,hr1,h1,hg,hat⟩:=hrun
  refine wpList_plain hgd fun K hK=>?_
  unfold Oper.wp execOp
  simp only [ho,resolve,invoke,builtin,Sem.run_bind,Sem.run_pure,Result.andThen_ok,List.map_toArray,List.map_cons,List.map_nil,hs,hx,hr1]
  exact hK _ _ (h v1 w1 h1 (HB.grown hg hbase (own_base hown)) hg hat)
theorem R_copy {enc:α→Value} {h1:∀ x,(enc x).oneCell'=true} (d:α) {w0 W:World} (base:Nat) (hgd:o.guard=none) (s x:Operand) (t t' e:TypeId)
    (ho:o.op = .call { callee := .builtin .copy,args:=#[s,x],argTypes:=#[t,t'] }) (ht:P.underlying t=some (.slice e)) (hinfo:(P.info? e).map (·.size)=some 1)
    (v:Value) (xs ys:List α) (A:Option Addr) (m c:Nat) (ok:Nat→Prop) (hs:a.eval s=v) (hx:a.eval x = .slice A m c)
    (HO:(scalar enc h1).R e W base ok v xs) (HR:(scalar enc h1).C W A m ys) (HB:Below base w0 W) (hbase:base≤W.heap.size)
    (h:∀ w1,(scalar enc h1).R e w1 base ok v (ys.take (min m xs.length)++xs.drop (min m xs.length))→Below base w0 w1→W.grownBy w1 v.ownBlock→wpList P ops Q rest (a.put o.dst (.int .i64 ((min m xs.length:Nat):Int))) w1) :
    wpList P ops Q (o::rest) a W:=by
  have hR:=reads_of_C (enc:=enc) (d:=d) (h1:=h1) HR
  have hm:ys.length=m:=hR.1
  have hown:=own_of_R HO
  have fin:∀ w1,(Builtin.copy_ #[t,t'] o.type #[v,.slice A m c]).run P W = .ok (goInt ((min m xs.length:Nat):Int)) w1→(scalar enc h1).R e w1 base ok v (ys.take (min m xs.length)++xs.drop (min m xs.length))→W.grownBy w1 v.ownBlock→wpList P ops Q (o::rest) a W:=by
    intro w1 hr hrow hg
    refine wpList_plain hgd fun K hK=>?_
    unfold Oper.wp execOp
    simp only [ho,resolve,invoke,builtin,Sem.run_bind,Sem.run_pure,Result.andThen_ok,List.map_toArray,List.map_cons,List.map_nil,hs,hx,hr]
    exact hK _ _ (h w1 hrow (HB.grown hg hbase (own_base hown)) hg)
  rcases Nat.eq_zero_or_pos (min m xs.length) with h0|hp
  · obtain ⟨A',c',hv⟩:=own_slice hown
    refine fin W ?_ (by rw [h0,List.take_zero,List.drop_zero,List.nil_append];exact HO) (World.grownBy.refl W _)
    rw [h0,hv]
    exact run_copy_none W t t' o.type e A' A xs.length c' m c ht hinfo h0
  · obtain ⟨ad,hA,hc⟩:=hR.2.2 (by omega)
    rcases hown.2 with ⟨_,hx0⟩|⟨g,cap,cur,hv,hb,hh,hnc,hcm,hcs,htake⟩
    · omega
    have hcs1:cur.size=cap:=by omega
    have hsrc:∀ j u,(encs enc (ys.take (min m xs.length)))[j]?=some u→W.cell? (ad.add j)=some u:=by
      intro j u hu
      have hj:j<(ys.take (min m xs.length)).length:=by
        rcases Nat.lt_or_ge j (ys.take (min m xs.length)).length with h|h
        · exact h
        · rw [List.getElem?_eq_none (by rw [encs_length];exact h)] at hu
          cases hu
      have hjm:j<min m xs.length:=by rw [List.length_take] at hj;omega
      rw [encs_get (d:=d) _ j hj] at hu
      rw [hc j (by omega),← hu]
      simp [List.getD_eq_getElem?_getD,hjm]
    have hkl:(encs enc (ys.take (min m xs.length))).length=min m xs.length:=by rw [encs_length,List.length_take];omega
    have hr:=run_copy_cells (P:=P) W t t' o.type e g 0 xs.length cap ad m c (encs enc (ys.take (min m xs.length))) ht hinfo (by rw [hkl]) hsrc
      (fun j hj=>by rw [cell_of_row W g _ cur e (0,0) hh];simp;omega) (fun j _=>blk_frozen hh _) (by intro u hu;simp only [encs,List.mem_map] at hu;obtain ⟨q,_,rfl⟩:=hu;exact h1 q)
    obtain ⟨cur',h3,h4,h5⟩:=setCells_row (encs enc (ys.take (min m xs.length))) 0 W cur hh (by rw [hkl];omega)
    obtain ⟨s1,s2,s3,s4⟩:=setCells_same g (encs enc (ys.take (min m xs.length))) 0 W
    refine fin _ (by rw [hv,hA,hr,hkl]) (R_of_own ?_ HO.1) ⟨s1,s2,s3,by rw [s4];exact Nat.le_refl _,fun k _ hk=>setCells_far _ _ k (fun he=>hk (by rw [hv,he];simp [Value.ownBlock]))⟩
    have hln:(ys.take (min m xs.length)++xs.drop (min m xs.length)).length=xs.length:=by
      rw [List.length_append,List.length_take,List.length_drop]
      omega
    rw [hln]
    refine ⟨by rw [encs_length,hln,Nat.mul_one],.inr ⟨g,cap,cur',hv,hb,h3,hnc,hcm,by rw [h4,hcs],?_⟩⟩
    rw [h5,List.take_zero,List.nil_append,hkl,Nat.zero_add,encs_append,Nat.mul_one]
    rw [List.take_append,hkl,List.take_of_length_le (by rw [hkl];omega)]
    congr 1
    have htk:cur.toList.take xs.length=encs enc xs:=by rw [← htake,Nat.mul_one]
    have hd:encs enc (xs.drop (min m xs.length))=(encs enc xs).drop (min m xs.length):=by simp [encs,List.map_drop]
    rw [hd,← htk,List.drop_take]
end
end Kd
theorem run_store_run {P:Program} {w:World} {g o:Nat} {e:TypeId} {cur:Array Value} (t:TypeId) (u:Value) (seg:List Value) (hh:w.heap[g]?=some (.cells cur e (0,0))) (hu:u.cells.toList=seg) (ht:(P.info? t).map (·.size)=some seg.length)
    (hfit:o+seg.length≤cur.size) (h1:∀ q∈seg,q.oneCell'=true):(Instr.storeAt t (.pointer (some ⟨g,o,none⟩)) u).run P w = .ok () (w.setCells g o seg):=by
  obtain ⟨i,hi,hsz⟩:=Option.map_eq_some_iff.1 ht
  have hc:u.cells.size=i.size:=by rw [hsz,← hu,Array.length_toList]
  have hst:=run_storeCells_cells (P:=P) g o seg 0 w (fun j hj=>by rw [cell_of_row w g _ cur e (0,0) hh];simp;omega) (fun j _=>blk_frozen hh _) h1
  simp only [Nat.add_zero] at hst
  simp [Instr.storeAt,Instr.sureAddr,storeVar,sizeOf,typeInfo,hi,hc,hu,hst]
namespace Kd
section
variable {P:Program} {ops:Array Oper} {rest:List Oper} {o:Oper} {a:Act} {Q:Exit→Act→World→Prop} {α:Type}
theorem R_store (d:Kd α) {w0 W:World} (base:Nat) (hN:o.dst=none) (hgd:o.guard=none) (t:TypeId) (p x:Operand) (ho:o.op = .store t p x) (e:TypeId) {g n cap o':Nat} (i:Int) (j:Nat) (xs:List α) (x':α) (u:Value) (seg c:List Value) (ok okp:Nat→Prop)
    (haddr:a.eval p = .pointer (some ⟨g,o',none⟩)) (hoff:o'=i.toNat*d.sz+j) (hx:a.eval x=u) (hu:u.cells.toList=seg) (ht:(P.info? t).map (·.size)=some seg.length) (h1:∀ q∈seg,q.oneCell'=true)
    (HO:d.R e W base ok (.slice (some ⟨g,0,none⟩) n cap) xs) (h0:0≤i) (hi:i<n) (hcl:c.length=d.sz) (hcc:∀ j u,c[j]?=some u→W.cell? ⟨g,i.toNat*d.sz+j,none⟩=some u)
    (hj:j+seg.length≤d.sz) (hM:d.M W base okp x' (c.take j++seg++c.drop (j+seg.length))) (hokp:∀ k,okp k→ok k∧k≠g) (HB:Below base w0 W)
    (h:∀ w1,d.R e w1 base ok (.slice (some ⟨g,0,none⟩) n cap) (xs.set i.toNat x')→Below base w0 w1→W.grownBy w1 (some g)→wpList P ops Q rest a w1):wpList P ops Q (o::rest) a W:=by
  subst hoff
  obtain ⟨hrow,hg⟩:=R_seg HO i h0 hi hcl hcc hj hM hokp
  have hbg:base≤g:=R_base HO g (by simp [Value.ownBlock])
  have hnx:n=xs.length:=(R_reads' HO).1
  obtain ⟨_,inner,hown,hr⟩:=HO
  have hil:i.toNat<n:=by omega
  have hB:Below base w0 (W.setCells g (i.toNat*d.sz+j) seg):=HB.trans ⟨hg.os,hg.tape,hg.output,hg.size,fun k hk=>by
    have hlt:k<W.heap.size∨W.heap.size≤k:=Nat.lt_or_ge _ _
    rcases hlt with hlt|hge
    · exact hg.block k hlt (fun he=>by injection he with he;omega)
    · exact setCells_far seg _ k (by omega)⟩
  refine wpList_plain hgd fun K hK=>?_
  have hrun:(Instr.storeAt t (.pointer (some ⟨g,i.toNat*d.sz+j,none⟩)) u).run P W = .ok () (W.setCells g (i.toNat*d.sz+j) seg):=by
    rcases hown.2 with ⟨hv,_⟩|⟨g',cap',cur,hv,hb,hh,hnc,hcm,hcs,_⟩
    · cases hv
    injection hv with ha _ hc
    injection ha with ha
    injection ha with hg'
    subst hg';subst hc
    refine run_store_run t u seg hh hu ht ?_ h1
    have h2:i.toNat*d.sz+d.sz≤n*d.sz:=by rw [← Nat.succ_mul];exact Nat.mul_le_mul_right _ hil
    have h3:n*d.sz≤cap*d.sz:=Nat.mul_le_mul_right _ (by omega)
    omega
  unfold Oper.wp execOp
  simp only [ho,haddr,hx,Sem.run_bind,Sem.run_pure,Result.andThen_ok,hrun]
  show K (a.put o.dst undef) _
  rw [hN]
  exact hK a _ (h _ hrow hB hg)
end
end Kd
theorem add_add (a:Addr) (i j:Nat):(a.add i).add j=a.add (i+j):=by
  unfold Addr.add
  by_cases h1:i=0<;>by_cases h2:j=0<;>simp [h1,h2,Nat.add_assoc]
namespace Kd
section
variable {α:Type} {k:Kd α} {w:World} {A:Option Addr} {xs:List α} {m c:Nat}
theorem C_take (h:k.C w A xs.length xs) (hm:m≤xs.length):k.C w A (xs.take m).length (xs.take m):=by
  have hl:(xs.take m).length=m:=by rw [List.length_take];omega
  refine ⟨rfl,by rw [hl];have:=h.2.1;omega,fun hp=>?_⟩
  obtain ⟨ad,e,hc⟩:=h.2.2 (by omega)
  refine ⟨ad,e,fun j p hj=>hc j p ?_⟩
  rw [List.getElem?_take] at hj
  split at hj
  · exact hj
  · cases hj
theorem C_drop (h:k.C w A xs.length xs) (hm:m≤xs.length) (hc:xs.length≤c):k.C w (if c=m then A else A.map (·.add (m*k.sz))) (xs.drop m).length (xs.drop m):=by
  have hl:(xs.drop m).length=xs.length-m:=List.length_drop
  refine ⟨rfl,by rw [hl];have:=h.2.1;omega,fun hp=>?_⟩
  rw [hl] at hp
  obtain ⟨ad,rfl,hcell⟩:=h.2.2 (by omega)
  rw [if_neg (by omega)]
  refine ⟨ad.add (m*k.sz),rfl,fun j p hj=>?_⟩
  rw [List.getElem?_drop] at hj
  obtain ⟨cs,h1,h2,h3⟩:=hcell (m+j) p hj
  refine ⟨cs,h1,h2,fun i u hu=>?_⟩
  rw [add_add,show m*k.sz+(j*k.sz+i)=(m+j)*k.sz+i by rw [Nat.add_mul];omega]
  exact h3 i u hu
theorem C_mid {lo hi:Nat} (h:k.C w A xs.length xs) (h1:lo≤hi) (h2:hi≤xs.length) (hc:xs.length≤c):k.C w (if c=lo then A else A.map (·.add (lo*k.sz))) ((xs.take hi).drop lo).length ((xs.take hi).drop lo):=by
  have hl:(xs.take hi).length=hi:=by rw [List.length_take];omega
  exact C_drop (C_take h h2) (by omega) (by omega)
end
end Kd
section
variable {P:Program}
theorem cut_mid (t e:TypeId) (kl kh:IntKind) {i:TypeInfo} (ht:P.underlying t=some (.slice e)) (hi:P.info? e=some i) (size:Nat) (hsz:i.size=size) (A:Option Addr) (n c:Nat) (lo hi':Int) (h0:0≤lo) (h1:lo≤hi') (h2:hi'≤n) (hc:n≤c) :
    ∀ W:World,(Instr.slice t (.slice A n c) (some (.int kl lo)) (some (.int kh hi')) none).run P W = .ok (.slice (if c=lo.toNat then A else A.map (·.add (lo.toNat*size))) (hi'.toNat-lo.toNat) (c-lo.toNat)) W:=by
  intro W
  have hel:P.elem t=e:=by simp [Program.elem,ht]
  have hu:P.underlying t=some (.slice (P.elem t)):=by rw [hel];exact ht
  rw [run_slice_lh W t A n c hu kl kh lo hi' h0 h1 (by omega),hel]
  simp [sizeOf,typeInfo,hi,hsz,sliced,Result.andThen]
end
theorem string_of_reads {P:Program} {w:World} {src dst e:TypeId} {A:Option Addr} {n c:Nat} {xs:List Int} (hs:P.underlying src=some (.slice e)) (he:P.underlying e=some (.int .u8)) (hd:P.underlying dst=some .string)
    (h:ReadsInt w .u8 A n xs):(convert src dst (.slice A n c)).run P w = .ok (.string (strOfNums xs)) w:=by
  have hn:xs.length=n:=h.1
  rcases A with _|ad
  · have h0:n=0:=by
      rcases Nat.eq_zero_or_pos n with h0|h0
      · exact h0
      · obtain ⟨ad,h',_⟩:=h.2.2 h0
        cases h'
    subst h0
    obtain rfl:xs=[]:=List.eq_nil_of_length_eq_zero hn
    exact run_convert_bytes_nil w src e hs he 0 c dst hd
  · have hl : (loadCells ad n).run P w = .ok (xs.map (Value.int .u8)).toArray w := by
      have:=run_loadCells_list (P:=P) w ad (xs.map (Value.int .u8)) (fun j v hj=>by
        have hjl:j<xs.length:=by
          rcases Nat.lt_or_ge j xs.length with h'|h'
          · exact h'
          · rw [List.getElem?_eq_none (by rw [List.length_map];exact h')] at hj
            cases hj
        obtain ⟨ad',he',hc⟩:=h.2.2 (by omega)
        injection he' with he'
        subst he'
        rw [hc j (by omega)]
        rw [List.getElem?_map,List.getElem?_eq_getElem hjl] at hj
        simp at hj
        subst hj
        simp [List.getD_eq_getElem?_getD,List.getElem?_eq_getElem hjl])
      simpa [hn] using this
    rw [run_convert_bytes_string w src dst e _ n c hs he hd,run_bytesToString w ad n c xs hl,foldl_push_bytes]
    simp [strOfNums,ByteArray.empty,ByteArray.emptyWithCapacity]
    rfl
theorem Kd.C_string {P:Program} {w:World} {src dst e:TypeId} {A:Option Addr} {n c:Nat} {xs:List Int} (hs:P.underlying src=some (.slice e)) (he:P.underlying e=some (.int .u8)) (hd:P.underlying dst=some .string)
    (h:(Kd.int .u8).C w A n xs):(convert src dst (.slice A n c)).run P w = .ok (.string (strOfNums xs)) w :=
  string_of_reads hs he hd (Kd.reads_of_C (enc:=Value.int .u8) (d:=(0:Int)) (h1:=fun _=>rfl) h)
theorem below_size {w W:World} (h:Below w.heap.size w W):w.heap.size≤W.heap.size:=h.size
theorem below_step {w W w2:World} (h:Below w.heap.size w W) (k:Below W.heap.size W w2):Below w.heap.size w w2:=below_then h h.size k
theorem ReadsInt.nil (W:World) (k:IntKind):ReadsInt W k none ([]:List Int).length []:=⟨rfl,by simp,fun h=>absurd h (Nat.lt_irrefl 0)⟩
theorem ReadsInt.drewN {W:World} {k:IntKind} {A:Option Addr} {n:Nat} {xs:List Int} (h:ReadsInt W k A n xs) (m:Nat):ReadsInt (W.drewN m) k A n xs:=h
theorem ReadsInt.allocS {W:World} {k:IntKind} {A:Option Addr} {n:Nat} {xs:List Int} (h:ReadsInt W k A n xs) (o:Obj):ReadsInt (W.alloc o) k A n xs:=h.below (below_alloc (Below.refl _ _) o)
theorem ReadsInt.ofRow {k:IntKind} {w:World} {a:Option Addr} {len cap:Nat} {zs:List Int} (h:(a=none∧len=0∧cap=0∧zs=[])∨∃ x,a=some x∧len≤cap∧cap≤maxLen∧zs.length=cap∧(∀ i,i<zs.length→w.cell? (x.add i)=some (.int k (zs.getD i 0)))∧∀ n∈zs,(Lit.int k n).wf=true) :
    ∃ l:List Int,len=l.length∧ReadsInt w k a l.length l∧l.length≤maxLen∧∀ x∈l,(Lit.int k x).wf=true:=by
  rcases h with ⟨rfl,rfl,rfl,rfl⟩|⟨x,rfl,hl,hm,hz,hc,hw⟩
  · exact ⟨[],rfl,ReadsInt.nil _ _,Nat.zero_le _,fun x hx=>by simp at hx⟩
  · have e:(zs.take len).length=len:=by simp;omega
    have hm':len≤maxLen:=Nat.le_trans hl hm
    refine ⟨zs.take len,e.symm,⟨rfl,by rw [e];simpa [maxLen] using hm',fun _=>⟨x,rfl,fun j hj=>?_⟩⟩,by rw [e];exact hm',fun y hy=>hw y (List.mem_of_mem_take hy)⟩
    rw [e] at hj
    rw [hc j (by omega)]
    simp [List.getD,List.getElem?_take,hj]
theorem below_set {w W:World} {g j:Nat} {v:Value} (h:Below w.heap.size w W) (hg:w.heap.size≤g):Below w.heap.size w (W.setCell ⟨g,j,none⟩ v):=h.setCell hg _
theorem keep_cell {w W:World} {g:Nat} (h:KeepBut w W g none) {a:Addr} {v:Value} (hc:w.cell? a=some v) (hne:a.block≠g):W.cell? a=some v:=by
  have:=h.2 a.block (World.block_lt_of_cell? w a hc) hne (by simp)
  simpa [World.cell?,this] using hc
theorem add_block (a:Addr) (i:Nat):(a.add i).block=a.block:=by unfold Addr.add;split<;>rfl
theorem own_base' {w:World} {base:Nat} {e:TypeId} {size n:Nat} {v:Value} {xs:List Value} (h:w.ownsRow base e size v n xs):v.ownBlock=none∨∃ b,v.ownBlock=some b∧base≤b:=by
  cases hv:v.ownBlock with
  | none=>exact .inl rfl
  | some b=>exact .inr ⟨b,rfl,own_base h b hv⟩
theorem ReadsOf.nil {α:Type} (enc:α→Value) (d:α) (W:World):ReadsOf enc d W none ([]:List α).length []:=⟨rfl,by simp,fun h=>absurd h (Nat.lt_irrefl 0)⟩
theorem ReadsOf.drewN {α:Type} {enc:α→Value} {d:α} {W:World} {A:Option Addr} {n:Nat} {xs:List α} (h:ReadsOf enc d W A n xs) (m:Nat):ReadsOf enc d (W.drewN m) A n xs:=h
theorem ReadsOf.allocS {α:Type} {enc:α→Value} {d:α} {W:World} {A:Option Addr} {n:Nat} {xs:List α} (h:ReadsOf enc d W A n xs) (o:Obj):ReadsOf enc d (W.alloc o) A n xs:=h.below (below_alloc (Below.refl _ _) o)
theorem far_own {W:World} {base n c g:Nat} {e:TypeId} {size:Nat} {A:Option Addr} {xs:List Value} (_:W.ownsRow base e size (.slice A n c) n xs) (hne:some g≠(Value.slice A n c).ownBlock):∀ ad,A=some ad→0<n→ad.block≠g:=by
  rintro ad rfl _ rfl
  exact hne (by simp [Value.ownBlock])
theorem far_int {w0:World} {k:IntKind} {A:Option Addr} {n g:Nat} {xs:List Int} (h:ReadsInt w0 k A n xs) (hg:w0.heap.size≤g):∀ ad,A=some ad→0<n→ad.block≠g:=by
  rintro ad rfl hn
  obtain ⟨ad',h',hc⟩:=h.2.2 hn
  injection h' with h'
  subst h'
  have:=World.block_lt_of_cell? w0 _ (hc 0 hn)
  rw [add_block] at this
  omega
theorem far_of {α:Type} {enc:α→Value} {d:α} {w0:World} {A:Option Addr} {n g:Nat} {xs:List α} (h:ReadsOf enc d w0 A n xs) (hg:w0.heap.size≤g):∀ ad,A=some ad→0<n→ad.block≠g:=by
  rintro ad rfl hn
  obtain ⟨ad',h',hc⟩:=h.2.2 hn
  injection h' with h'
  subst h'
  have:=World.block_lt_of_cell? w0 _ (hc 0 hn)
  rw [add_block] at this
  omega
theorem ReadsInt.keep {w W:World} {k:IntKind} {A:Option Addr} {n g:Nat} {xs:List Int} (h:ReadsInt w k A n xs) (hk:KeepBut w W g none) (hf:∀ ad,A=some ad→0<n→ad.block≠g):ReadsInt W k A n xs :=
  ⟨h.1,h.2.1,fun hn=>by
    obtain ⟨ad,e,hc⟩:=h.2.2 hn
    exact ⟨ad,e,fun j hj=>keep_cell hk (hc j hj) (by rw [add_block];exact hf ad e hn)⟩⟩
theorem ReadsOf.keep {α:Type} {enc:α→Value} {d:α} {w W:World} {A:Option Addr} {n g:Nat} {xs:List α} (h:ReadsOf enc d w A n xs) (hk:KeepBut w W g none) (hf:∀ ad,A=some ad→0<n→ad.block≠g):ReadsOf enc d W A n xs :=
  ⟨h.1,h.2.1,fun hn=>by
    obtain ⟨ad,e,hc⟩:=h.2.2 hn
    exact ⟨ad,e,fun j hj=>keep_cell hk (hc j hj) (by rw [add_block];exact hf ad e hn)⟩⟩
theorem own_blk {W:World} {base n c:Nat} {e:TypeId} {size g:Nat} {ad:Addr} {xs:List Value} (_:W.ownsRow base e size (.slice (some ad) n c) n xs) (hne:some g≠(Value.slice (some ad) n c).ownBlock):ad.block≠g:=by
  rintro rfl
  exact hne (by simp [Value.ownBlock])
theorem ReadsInt.ofRowC {k:IntKind} {w:World} {a:Option Addr} {len cap:Nat} {zs:List Int} (h:(a=none∧len=0∧cap=0∧zs=[])∨∃ x,a=some x∧len≤cap∧cap≤maxLen∧zs.length=cap∧(∀ i,i<zs.length→w.cell? (x.add i)=some (.int k (zs.getD i 0)))∧∀ n∈zs,(Lit.int k n).wf=true) :
    ∃ l:List Int,len=l.length∧ReadsInt w k a l.length l∧l.length≤maxLen∧(∀ x∈l,(Lit.int k x).wf=true)∧l.length≤cap:=by
  have hl:len≤cap:=by
    rcases h with ⟨_,rfl,rfl,_⟩|⟨_,_,h,_⟩
    · exact Nat.le_refl _
    · exact h
  obtain ⟨l,e,h1,h2,h3⟩:=ReadsInt.ofRow h
  exact ⟨l,e,h1,h2,h3,e ▸ hl⟩
namespace Kd
section
variable {α β:Type} {d:Kd α} {d':Kd β} {e e' base base' n:Nat} {ok ok':Nat→Prop} {w W w1 W1:World} {v u:Value} {xs:List α} {ys:List β} {A:Option Addr} {c:Nat}
theorem own_blk {ad:Addr} {g:Nat} (hne:some g≠(Value.slice (some ad) n c).ownBlock):ad.block≠g:=by
  rintro rfl
  exact hne (by simp [Value.ownBlock])
theorem R_ne_new (h:d.R e w base ok v xs) (k:Nat):some (w.heap.size+k)≠v.ownBlock:=fun he=>by
  have:=R_lt h _ he.symm
  omega
theorem R_base2 (h:d.R e w base ok v xs):v.ownBlock=none∨∃ k,v.ownBlock=some k∧base≤k:=by
  obtain ⟨inner,ho⟩:=R_own h
  exact own_base' ho
theorem R_apartR (h:d.R e w base ok u xs) (hv:d'.R e' w base' ok' v ys) (ht:∀ q,q∈e::d.E→q≠e'):d.R e w base (fun k=>ok k∧some k≠v.ownBlock) u xs:=by
  refine R_mono (R_bound h) (fun k hk=>⟨hk.1,fun he=>?_⟩)
  obtain ⟨q,hq,cells,hc⟩:=hk.2.2.2
  obtain ⟨inner,ho⟩:=R_own hv
  obtain ⟨cells',hc'⟩:=own_typed ho k he.symm
  rw [hc] at hc'
  injection hc' with h1
  injection h1 with _ h2
  exact ht q hq h2
theorem far_own {g:Nat} (_:d.R e w base ok (.slice A n c) xs) (hne:some g≠(Value.slice A n c).ownBlock):∀ ad,A=some ad→0<n→ad.block≠g:=by
  rintro ad rfl _ rfl
  exact hne (by simp [Value.ownBlock])
end
section
variable {α:Type} {enc:α→Value} {h1:∀ x,(enc x).oneCell'=true} {w W:World} {A:Option Addr} {n g:Nat} {xs:List α}
theorem C_keep (d:α) (h:(scalar enc h1).C w A n xs) (hk:KeepBut w W g none) (hf:∀ ad,A=some ad→0<n→ad.block≠g):(scalar enc h1).C W A n xs:=C_of_reads (ReadsOf.keep (reads_of_C (d:=d) h) hk hf)
theorem far_C (d:α) (h:(scalar enc h1).C w A n xs) (hg:w.heap.size≤g):∀ ad,A=some ad→0<n→ad.block≠g:=far_of (reads_of_C (d:=d) h) hg
end
end Kd
namespace Kd
section
variable {α:Type} {d:Kd α} {e base g:Nat} {ok:Nat→Prop} {w w1:World} {v:Value} {xs:List α} {o:Obj}
theorem R_elderB (h:d.R e w base ok v xs) (a:Nat) (ha:w.heap.size≤a):d.R e w base (fun k=>ok k∧k≠a) v xs:=R_mono (R_bound h) (fun k hk=>⟨hk.1,by have:=hk.2.2.1;omega⟩)
theorem R_newB (h:d.R e w1 w.heap.size ok v xs) (hb:w.heap[g]?=some o):d.R e w1 w.heap.size (fun k=>ok k∧k≠g) v xs:=R_mono (R_bound h) (fun k hk=>⟨hk.1,by have:=blk_lt hb;have:=hk.2.1;omega⟩)
theorem freshB (hb:w.heap[g]?=some o):∀ k,w.heap.size≤k→k≠g:=fun k hk=>by have:=blk_lt hb;omega
end
end Kd
section
variable {P:Program} {ops:Array Oper} {rest:List Oper} {o:Oper} {a:Act} {Q:Exit→Act→World→Prop}
theorem box_event {W:World} (hgd:o.guard=none) {N:Tmp} (_hd:o.dst=some N) {cs:Array Value} {t:TypeId}
    (hrun:(execOp a.eval o).run P W = .ok (.value (.pointer (some ⟨W.heap.size,0,none⟩))) (W.alloc (.cells cs t (0,0))))
    (h:∀ g,g=W.heap.size→∀ w1,w1.heap[g]?=some (.cells cs t (0,0))→Below W.heap.size W w1→wpList P ops Q rest (a.put o.dst (.pointer (some ⟨g,0,none⟩))) w1):wpList P ops Q (o::rest) a W :=
  Kd.event_run hgd hrun (h _ rfl _ (blk_new W _) (below_alloc (Below.refl _ _) _))
theorem Kd.R_append_row {α:Type} (enc:α→Value) (d:α) {h1:∀ x:α,(enc x).oneCell'=true} {w0 W:World} (base:Nat) (hgd:o.guard=none) (s x:Operand) (t e:TypeId) (z:Value) (bytes:Nat)
    (ho:o.op = .call { callee := .builtin .append,args:=#[s,x],argTypes:=#[t,t] })
    (ht:P.underlying t=some (.slice e)) (hinfo:(P.info? e).map (fun i=>(i.zero,i.size,i.bytes))=some (some z,1,bytes)) (hz:z.cells.size=1) (hb0:0<bytes)
    (v:Value) (xs ys:List α) (A:Option Addr) (m c:Nat) (ok:Nat→Prop) (hs:a.eval s=v) (hx:a.eval x = .slice A m c) (hfresh:∀ k,W.heap.size≤k→ok k)
    (HO:(Kd.scalar enc h1).R e W base ok v xs) (HR:(Kd.scalar enc h1).C W A m ys) (HB:Below base w0 W) (hbase:base≤W.heap.size) (hl:(xs.length+m)*bytes≤140737488355328)
    (h:∀ v1 w1,(Kd.scalar enc h1).R e w1 base ok v1 (xs++ys)→Below base w0 w1→W.grownBy w1 v.ownBlock→(v1.ownBlock=v.ownBlock∨∃ b,v1.ownBlock=some b∧W.heap.size≤b)→wpList P ops Q rest (a.put o.dst v1) w1) :
    wpList P ops Q (o::rest) a W:=by
  refine print_append_row_of (w0:=w0) enc d base hgd s x t e z bytes ho ht hinfo hz hb0 h1 v xs ys A m c hs hx (Kd.own_of_R HO) (Kd.reads_of_C (d:=d) HR) HB hbase hl ?_
  intro v1 w1 hown hb hg hat
  refine h v1 w1 (Kd.R_of_own hown (fun k hk=>?_)) hb hg hat
  rcases hat with e1|⟨b,e1,hbb⟩
  · exact HO.1 k (by rw [← e1];exact hk)
  · rw [e1] at hk
    injection hk with hk
    subst hk
    exact hfresh _ hbb
end
namespace Kd
section
variable {α:Type} {enc:α→Value} {h1:∀ x,(enc x).oneCell'=true} {e base g n cap:Nat} {ok:Nat→Prop} {W:World} {xs:List α}
theorem R_celln (d:α) (h:(scalar enc h1).R e W base ok (.slice (some ⟨g,0,none⟩) n cap) xs) (i:Int) (h0:0≤i) (hi:i<n):W.cell? ⟨g,i.toNat,none⟩=some (enc (rdOf d xs i))∧W.frozen? ⟨g,i.toNat,none⟩=false:=by
  obtain ⟨rfl,_⟩:=R_reads' h
  exact R_cell d h i h0 hi
theorem R_putn (h:(scalar enc h1).R e W base ok (.slice (some ⟨g,0,none⟩) n cap) xs) (i:Int) (x:α):(scalar enc h1).R e (W.setCell ⟨g,i.toNat,none⟩ (enc x)) base ok (.slice (some ⟨g,0,none⟩) n cap) (xs.set i.toNat x):=by
  obtain ⟨rfl,_⟩:=R_reads' h
  exact (R_put h i x).1
end
end Kd
section
variable {P:Program} {ops:Array Oper} {rest:List Oper} {o:Oper} {a:Act} {Q:Exit→Act→World→Prop}
theorem store_event {W w1:World} (hgd:o.guard=none) {t:TypeId} {p:Tmp} {v:Operand} (_ho:o.op = .store t (.tmp p) v) (hN:o.dst=none)
    (hrun:(execOp a.eval o).run P W = .ok .skip w1) (h:∀ w',w'=w1→wpList P ops Q rest a w'):wpList P ops Q (o::rest) a W:=by
  refine wpList_plain hgd fun K hK=>?_
  unfold Oper.wp
  rw [hrun]
  show K (a.put o.dst undef) w1
  rw [hN]
  exact hK _ _ (h _ rfl)
end
namespace Kd
section
variable {α:Type} {enc:α→Value} {h1:∀ x,(enc x).oneCell'=true} {e base g n cap:Nat} {ok:Nat→Prop} {W:World} {xs:List α}
theorem R_putg (h:(scalar enc h1).R e W base ok (.slice (some ⟨g,0,none⟩) n cap) xs) (i:Int) (x:α):(scalar enc h1).R e (W.setCell ⟨g,i.toNat,none⟩ (enc x)) base ok (.slice (some ⟨g,0,none⟩) n cap) (xs.set i.toNat x)∧W.grownBy (W.setCell ⟨g,i.toNat,none⟩ (enc x)) (some g):=by
  obtain ⟨rfl,_⟩:=R_reads' h
  exact R_put h i x
end
end Kd
section
variable {P:Program} {ops:Array Oper} {rest:List Oper} {o:Oper} {a:Act} {Q:Exit→Act→World→Prop} {W:World}
theorem gate_dst {N:Tmp} (_hN:o.dst=some N) (h:wpList P ops Q (o::rest) a W):wpList P ops Q (o::rest) a W:=h
theorem gate_store {t:TypeId} {p:Tmp} {v:Operand} (_ho:o.op = .store t (.tmp p) v) (h:wpList P ops Q (o::rest) a W):wpList P ops Q (o::rest) a W:=h
end
section
variable {P:Program} {ops:Array Oper} {o:Oper} {a:Act} {Q:Exit→Act→World→Prop} {Kc:Act→World→Prop}
theorem event_step {W w1:World} {v:Value} (hw:Region.wanted o (yielded ops a.tmps)=true) (hrun:(execOp a.eval o).run P W = .ok (.value v) w1) (h:Kc (a.put o.dst v) w1):if Region.wanted o (yielded ops a.tmps)=true then Oper.wp P o a W Kc Q else Kc (a.put o.dst undef) W:=by
  rw [if_pos hw]
  unfold Oper.wp
  rw [hrun]
  exact h
namespace Kd
variable {α:Type}
theorem R_lit_step (d:Kd α) {w0 W:World} (base e:Nat) (hw:Region.wanted o (yielded ops a.tmps)=true) {N:Tmp} (_hd:o.dst=some N) {xs:List α} {inner:List Value} {ok okp:Nat→Prop}
    (hrun:(execOp a.eval o).run P W = .ok (.value (.slice (some ⟨W.heap.size,0,none⟩) xs.length xs.length)) (W.alloc (.cells inner.toArray e)))
    (hrep:Reps (d.M W base okp) d.sz xs inner) (hok:∀ k,okp k→ok k) (hfresh:ok W.heap.size) (HB:Below base w0 W) (hbase:base≤W.heap.size) (hm:xs.length≤9223372036854775807)
    (h:∀ v1 w1,d.R e w1 base ok v1 xs→Below base w0 w1→W.grownBy w1 none→(∃ b,v1.ownBlock=some b∧W.heap.size≤b)→Kc (a.put o.dst v1) w1):if Region.wanted o (yielded ops a.tmps)=true then Oper.wp P o a W Kc Q else Kc (a.put o.dst undef) W:=by
  refine event_step hw hrun (h _ _ ⟨fun k hk=>?_,inner,?_,?_⟩ (HB.alloc hbase _) (World.grownBy_alloc W _ none) ⟨W.heap.size,by simp [Value.ownBlock],Nat.le_refl _⟩)
  · have:W.heap.size=k:=by simpa [Value.ownBlock] using hk
    subst this
    exact hfresh
  · have h2:=World.ownsRow_lit (base:=base) (e:=e) (size:=d.sz) W inner.toArray xs.length hbase (by simpa [maxLen] using hm) (by simpa using hrep.1)
    simpa using h2
  · refine hrep.imp_ (fun p c hp=>d.M_mono (fun k hk=>⟨hok k hk.1,fun he=>?_⟩) (M_below (d.M_bound hp) (below_alloc (Below.refl _ _) _)))
    have h3:k=W.heap.size:=by simpa [Value.ownBlock] using he
    have:=hk.2.2.1
    omega
theorem R_make_step (d:Kd α) {w0 W:World} (base e:Nat) (hw:Region.wanted o (yielded ops a.tmps)=true) {N:Tmp} (hd:o.dst=some N) (t:TypeId) (x y:Operand) (ho:o.op = .makeSlice t x y) (n:Int) (hx:a.eval x = .int .i64 n) (hy:a.eval y = .int .i64 n)
    (ht:P.underlying t=some (.slice e)) (z:Value) (bytes:Nat) (hinfo:(P.info? e).map (fun i=>(i.zero,i.size,i.bytes))=some (some z,d.sz,bytes)) (hz:z.cells.size=d.sz) (hs0:0<d.sz) (hb0:0<bytes)
    (z0:α) {ok okp:Nat→Prop} (hzero:d.M W base okp z0 z.cells.toList) (hok:∀ k,okp k→ok k) (hfresh:ok W.heap.size) (h0:0≤n) (hl:n.toNat*bytes≤281474976710656) (HB:Below base w0 W) (hbase:base≤W.heap.size)
    (h:∀ v1 w1,d.R e w1 base ok v1 (List.replicate n.toNat z0)→Below base w0 w1→W.grownBy w1 none→(∃ b,v1.ownBlock=some b∧W.heap.size≤b)→Kc (a.put o.dst v1) w1):if Region.wanted o (yielded ops a.tmps)=true then Oper.wp P o a W Kc Q else Kc (a.put o.dst undef) W:=by
  obtain ⟨m,rfl⟩:=Int.eq_ofNat_of_zero_le h0
  simp only [Int.toNat_natCast] at hl h
  obtain ⟨i0,hi,hzz⟩:=Option.map_eq_some_iff.1 hinfo
  simp only [Prod.mk.injEq] at hzz
  obtain ⟨hz0,hz1,hz2⟩:=hzz
  have hm:m≤281474976710656:=Nat.le_trans (Nat.le_mul_of_pos_right _ hb0) hl
  have hr:=run_make (P:=P) W t e i0 z ht hi hz0 .i64 .i64 (m:Int) (m:Int) (by omega) (by omega)
    (by
      have h3:((i0.bytes*m:Nat):Int)≤281474976710656:=by rw [hz2,Nat.mul_comm];omega
      rwa [Int.natCast_mul] at h3) (by omega)
  simp only [Int.toNat_natCast] at hr
  rw [hz1] at hr
  refine R_lit_step d base e hw hd (xs:=List.replicate m z0) (inner:=(madeCells z.cells (m*d.sz)).toList) (okp:=okp) (ok:=ok) ?_ (reps_made hz hs0 hzero m) hok hfresh HB hbase (by simp;omega) h
  simp [execOp,ho,hx,hy,hr]
theorem R_append_rows_step (d:Kd α) {Rr:α→List Value→Prop} {w0 W:World} (base:Nat) (hw:Region.wanted o (yielded ops a.tmps)=true) (s x:Operand) (t e:TypeId) (z:Value) (bytes:Nat)
    (ho:o.op = .call { callee := .builtin .append,args:=#[s,x],argTypes:=#[t,t] })
    (ht:P.underlying t=some (.slice e)) (hinfo:(P.info? e).map (fun i=>(i.zero,i.size,i.bytes))=some (some z,d.sz,bytes)) (hz:z.cells.size=d.sz) (hs0:0<d.sz) (hb0:0<bytes)
    (v:Value) (xs ys:List α) (A:Option Addr) (m c:Nat) (ok okp:Nat→Prop) (hs:a.eval s=v) (hx:a.eval x = .slice A m c)
    (HO:d.R e W base ok v xs) (HR:ReadsRow Rr d.sz W A m ys) (hKM:∀ x cs,Rr x cs→d.M W base okp x cs) (hokp:∀ k,okp k→ok k∧some k≠v.ownBlock) (hfresh:∀ k,W.heap.size≤k→ok k)
    (HB:Below base w0 W) (hbase:base≤W.heap.size) (hl:(xs.length+m)*bytes≤140737488355328)
    (h:∀ v1 w1,d.R e w1 base ok v1 (xs++ys)→Below base w0 w1→W.grownBy w1 v.ownBlock→(v1.ownBlock=v.ownBlock∨∃ b,v1.ownBlock=some b∧W.heap.size≤b)→Kc (a.put o.dst v1) w1) :
    if Region.wanted o (yielded ops a.tmps)=true then Oper.wp P o a W Kc Q else Kc (a.put o.dst undef) W:=by
  obtain ⟨i0,hi,hzz⟩:=Option.map_eq_some_iff.1 hinfo
  simp only [Prod.mk.injEq] at hzz
  obtain ⟨hz0,hz1,hz2⟩:=hzz
  have hm:ys.length=m:=HR.1
  have hlen:xs.length+m≤140737488355328:=Nat.le_trans (Nat.le_mul_of_pos_right _ hb0) hl
  obtain ⟨hok,inner,hown,hr⟩:=HO
  have hrun:∃ v1 w1,(Builtin.append_ #[t,t] o.type #[v,.slice A m c]).run P W = .ok v1 w1∧d.R e w1 base ok v1 (xs++ys)∧W.grownBy w1 v.ownBlock∧(v1.ownBlock=v.ownBlock∨∃ b,v1.ownBlock=some b∧W.heap.size≤b):=by
    rcases A with _|ad
    · have h0:m=0:=by
        rcases Nat.eq_zero_or_pos m with h0|h0
        · exact h0
        · obtain ⟨ad,h,_⟩:=HR.2.2 h0
          cases h
      subst h0
      obtain rfl:ys=[]:=List.eq_nil_of_length_eq_zero hm
      refine ⟨v,W,?_,by rw [List.append_nil];exact ⟨hok,inner,hown,hr⟩,World.grownBy.refl W _,.inl rfl⟩
      rcases hown.2 with ⟨rfl,hn⟩|⟨g,cap,cur,rfl,_,_,hnc,_⟩
      · simp [Builtin.append_,run_underlying ht,sizeOf,typeInfo,hi,Builtin.lenOf,Builtin.firstCells]
      · simp [Builtin.append_,run_underlying ht,sizeOf,typeInfo,hi,Builtin.lenOf,Builtin.firstCells,hnc,storeCells]
    · obtain ⟨news,hnr,hnc⟩:=ReadsRow.inner_ HR
      have hnM:Reps (d.M W base okp) d.sz ys news:=hnr.imp_ (fun p c hp=>hKM p c hp)
      have hone:∀ u∈news,u.oneCell'=true:=by
        intro u hu
        obtain ⟨q,hq,rfl⟩:=List.mem_iff_getElem.1 hu
        have hql:q/d.sz<ys.length:=by
          rw [Nat.div_lt_iff_lt_mul hs0]
          rw [← hnM.1]
          exact hq
        have hc:=hnM.2 (q/d.sz) _ (List.getElem?_eq_getElem hql)
        refine d.K_one (d.K_of_M hc) _ ?_
        rw [List.mem_iff_getElem?]
        refine ⟨q%d.sz,?_⟩
        rw [List.getElem?_take,if_pos (Nat.mod_lt _ hs0),List.getElem?_drop,Nat.mul_comm,Nat.div_add_mod,List.getElem?_eq_getElem hq]
      obtain ⟨v1,w1,hrun,h2,hg,_,hat⟩:=run_append_own_at (P:=P) W base t o.type e i0 z d.sz bytes ht hi hz0 hz1 hz2 hz hs0 v xs.length inner hown ad m c news (by rw [hnM.1,hm]) hnc hone (by simp only [maxLen];omega) hl hbase
      have hat':v1.ownBlock=v.ownBlock∨∃ b,v1.ownBlock=some b∧W.heap.size≤b:=by
        rcases hat with hat|hat
        · exact .inl hat
        · exact .inr ⟨_,hat,Nat.le_refl _⟩
      have hne:∀ k,some k≠v.ownBlock→k<W.heap.size→some k≠v1.ownBlock:=by
        intro k hk hlt
        rcases hat' with hat|⟨b,hb,hle⟩
        · rw [hat];exact hk
        · rw [hb]
          intro he
          injection he with he
          omega
      have step:∀ {q:α} {c:List Value} {o:Nat→Prop},d.M W base o q c→(∀ k,o k→ok k∧some k≠v.ownBlock)→d.M w1 base (fun k=>ok k∧some k≠v1.ownBlock) q c:=by
        intro q c o hq ho
        have h1:=d.M_move (w1:=w1) (fun k hk=>hg.block k hk.2.2.1 (ho k hk.1).2) (d.M_bound hq)
        exact d.M_mono (fun k hk=>⟨(ho k hk.1).1,hne k (ho k hk.1).2 hk.2.2.1⟩) h1
      refine ⟨v1,w1,hrun,⟨fun k hk=>?_,inner++news,by rw [List.length_append,hm];exact h2,reps_append (hr.imp_ (fun _ _ hq=>step hq (fun _ hk=>hk))) (hnM.imp_ (fun _ _ hq=>step hq hokp))⟩,hg,hat'⟩
      rcases hat' with hat|⟨b,hb,hle⟩
      · exact hok k (hat ▸ hk)
      · rw [hb] at hk
        injection hk with hk
        exact hfresh k (by omega)
  obtain ⟨v1,w1,hr1,h1,hg,hat⟩:=hrun
  rw [if_pos hw]
  unfold Oper.wp execOp
  simp only [ho,resolve,invoke,builtin,Sem.run_bind,Sem.run_pure,Result.andThen_ok,List.map_toArray,List.map_cons,List.map_nil,hs,hx,hr1]
  exact h v1 w1 h1 (HB.grown hg hbase (own_base hown)) hg hat
end Kd
end
section
variable {P:Program} {tmps:Array Value} {w:World}
end
namespace Kd
section
variable {P:Program} {α:Type}
theorem R_delete_run (d:Kd α) {W:World} (base:Nat) (t ty e:TypeId) (i:TypeInfo) (ht:P.underlying t=some (.slice e)) (hi:P.info? e=some i) (hsz:i.size=d.sz)
    {g n c k:Nat} {xs:List α} {ok:Nat→Prop} (HO:d.R e W base ok (.slice (some ⟨g,0,none⟩) n c) xs) (hk:k<n) {A:Option Addr} (hA:A=if c=k+1 then some ⟨g,0,none⟩ else (some (⟨g,0,none⟩:Addr)).map (·.add ((k+1)*d.sz))) (c2:Nat) :
    ∃ w1,(Builtin.append_ #[t,t] ty #[.slice (some ⟨g,0,none⟩) k c,.slice A (n-(k+1)) c2]).run P W = .ok (.slice (some ⟨g,0,none⟩) (n-1) c) w1∧d.R e w1 base ok (.slice (some ⟨g,0,none⟩) (n-1) c) (xs.eraseIdx k)∧W.grownBy w1 (some g):=by
  obtain ⟨hn,hnc,_⟩:=R_reads' HO
  obtain ⟨hok,inner,hown,hr⟩:=HO
  have hin:inner.length=n*d.sz:=by rw [hr.1,hn]
  rcases hown.2 with ⟨hv,_⟩|⟨g',cap',cur,hv,hb,hh,_,hcm,hcs,htake⟩
  · cases hv
  injection hv with ha _ hc
  injection ha with ha
  injection ha with hg
  subst hg;subst hc
  rw [← hn] at htake
  obtain ⟨news,hnews⟩:∃ news,news=inner.drop ((k+1)*d.sz):=⟨_,rfl⟩
  have hnl:news.length=(n-(k+1))*d.sz:=by rw [hnews,List.length_drop,hin,Nat.sub_mul]
  have hle:(k+1)*d.sz≤n*d.sz:=Nat.mul_le_mul_right _ hk
  have hks:(k+1)*d.sz=k*d.sz+d.sz:=Nat.succ_mul _ _
  have hnc':n*d.sz≤c*d.sz:=Nat.mul_le_mul_right _ hnc
  have hsub:(n-(k+1))*d.sz=n*d.sz-(k+1)*d.sz:=Nat.sub_mul _ _ _
  have hcur:∀ q,q<n*d.sz→cur.toList[q]?=inner[q]?:=by
    intro q hq
    rw [← htake,List.getElem?_take,if_pos hq]
  obtain ⟨a,rfl,hcell⟩:∃ a,A=some a∧∀ j u,news[j]?=some u→W.cell? (a.add j)=some u:=by
    by_cases hck:c=k+1
    · rw [if_pos hck] at hA
      refine ⟨_,hA,fun j u hu=>?_⟩
      have h0:news=[]:=List.eq_nil_of_length_eq_zero (by rw [hnl,show n-(k+1)=0 by omega,Nat.zero_mul])
      rw [h0] at hu
      simp at hu
    · rw [if_neg hck,Option.map_some] at hA
      refine ⟨_,hA,fun j u hu=>?_⟩
      have hj:j<news.length:=(List.getElem?_eq_some_iff.1 hu).1
      rw [add_add,add_at,cell_of_row W g _ cur e (0,0) hh,← Array.getElem?_toList]
      rw [hnews,List.getElem?_drop] at hu
      rw [← hu,Nat.zero_add]
      exact hcur _ (by omega)
  have hone:∀ u∈news,u.oneCell'=true:=by
    intro u hu
    have hu':u∈inner:=by rw [hnews] at hu;exact List.mem_of_mem_drop hu
    obtain ⟨q,hq,rfl⟩:=List.mem_iff_getElem.1 hu'
    have hs0:0<d.sz:=by
      rcases Nat.eq_zero_or_pos d.sz with h|h
      · rw [h,Nat.mul_zero] at hin;omega
      · exact h
    have hql:q/d.sz<xs.length:=by
      rw [Nat.div_lt_iff_lt_mul hs0,← hr.1]
      exact hq
    refine d.K_one (d.K_of_M (hr.2 (q/d.sz) _ (List.getElem?_eq_getElem hql))) _ ?_
    rw [List.mem_iff_getElem?]
    refine ⟨q%d.sz,?_⟩
    rw [List.getElem?_take,if_pos (Nat.mod_lt _ hs0),List.getElem?_drop,Nat.mul_comm,Nat.div_add_mod,List.getElem?_eq_getElem hq]
  have hfit:0+k*d.sz+news.length≤cur.size:=by omega
  have hrun:=run_append_room_cells (P:=P) (w:=W) t ty e i ht hi g 0 k c a (n-(k+1)) c2 news (by rw [hnl,hsz]) hcell hone (by omega)
    (fun j hj=>by rw [hsz,cell_of_row W g _ cur e (0,0) hh];simp;omega) (fun j _=>blk_frozen hh _)
  rw [hsz,show k+(n-(k+1))=n-1 by omega] at hrun
  obtain ⟨cur',h3,h4,h5⟩:=setCells_row news (0+k*d.sz) W cur hh hfit
  obtain ⟨s1,s2,s3,s4⟩:=setCells_same g news (0+k*d.sz) W
  have hfar:∀ k',k'≠g→(W.setCells g (0+k*d.sz) news).heap[k']?=W.heap[k']?:=fun k' hk'=>setCells_far news _ k' hk'
  have hgo:∀ m,some g=(Value.slice (some ⟨g,0,none⟩) m c).ownBlock:=fun m=>by simp [Value.ownBlock]
  have hel:(xs.eraseIdx k).length=n-1:=by rw [List.length_eraseIdx_of_lt (by omega),hn]
  refine ⟨_,hrun,⟨fun k' hk'=>hok k' (by rw [← hgo] at hk' ⊢;exact hk'),inner.take (k*d.sz)++news,⟨?_,.inr ⟨g,c,cur',by rw [hel],hb,h3,by rw [hel];omega,hcm,by rw [h4,hcs],?_⟩⟩,?_⟩,⟨s1,s2,s3,by rw [s4];exact Nat.le_refl _,fun k' _ hk'=>hfar k' (fun he=>hk' (by rw [he]))⟩⟩
  · rw [List.length_append,List.length_take,hnl,hel]
    have:(n-1)*d.sz=n*d.sz-d.sz:=by rw [Nat.sub_mul,Nat.one_mul]
    omega
  · rw [hel,h5,Nat.zero_add]
    have h6:(n-1)*d.sz=n*d.sz-d.sz:=by rw [Nat.sub_mul,Nat.one_mul]
    have h7:cur.toList.take (k*d.sz)=inner.take (k*d.sz):=by
      rw [← htake,List.take_take,Nat.min_eq_left (by omega)]
    rw [h7]
    exact List.take_left' (by rw [List.length_append,List.length_take,hnl];omega)
  · rw [List.eraseIdx_eq_take_drop_succ]
    have hmv:∀ p q,d.M W base (fun k'=>ok k'∧some k'≠(Value.slice (some ⟨g,0,none⟩) n c).ownBlock) p q→d.M (W.setCells g (0+k*d.sz) news) base (fun k'=>ok k'∧some k'≠(Value.slice (some ⟨g,0,none⟩) (n-1) c).ownBlock) p q:=fun p q hp =>
      d.M_mono (fun k' hk'=>⟨hk'.1,by rw [← hgo];rw [← hgo] at hk';exact hk'.2⟩) (d.M_move (fun k' hk'=>hfar k' (fun he=>hk'.2 (by rw [← hgo,he]))) hp)
    subst hnews
    exact reps_append ((reps_take hr (by omega)).imp_ hmv) ((reps_drop hr).imp_ hmv)
end
section
variable {P:Program} {ops:Array Oper} {rest:List Oper} {o:Oper} {a:Act} {Q:Exit→Act→World→Prop} {Kc:Act→World→Prop} {α:Type}
theorem R_delete (d:Kd α) {w0 W:World} (base:Nat) (hgd:o.guard=none) (s x:Operand) (t e:TypeId) (ho:o.op = .call { callee := .builtin .append,args:=#[s,x],argTypes:=#[t,t] })
    (ht:P.underlying t=some (.slice e)) (hinfo:(P.info? e).map (·.size)=some d.sz) {g n c k m c2:Nat} {A:Option Addr} {xs:List α} {ok:Nat→Prop}
    (hs:a.eval s = .slice (some ⟨g,0,none⟩) k c) (hx:a.eval x = .slice A m c2) (hA:A=if c=k+1 then some ⟨g,0,none⟩ else (some (⟨g,0,none⟩:Addr)).map (·.add ((k+1)*d.sz))) (hm:m=n-(k+1))
    (HO:d.R e W base ok (.slice (some ⟨g,0,none⟩) n c) xs) (hk:k<n) (HB:Below base w0 W) (hbase:base≤W.heap.size)
    (h:∀ w1,d.R e w1 base ok (.slice (some ⟨g,0,none⟩) (n-1) c) (xs.eraseIdx k)→Below base w0 w1→W.grownBy w1 (some g)→wpList P ops Q rest (a.put o.dst (.slice (some ⟨g,0,none⟩) (n-1) c)) w1):wpList P ops Q (o::rest) a W:=by
  obtain ⟨i0,hi,hsz⟩:=Option.map_eq_some_iff.1 hinfo
  subst hm
  obtain ⟨w1,hr,h1,h2⟩:=R_delete_run (P:=P) d base t o.type e i0 ht hi hsz HO hk hA c2
  refine wpList_plain hgd fun K hK=>?_
  unfold Oper.wp execOp
  simp only [ho,resolve,invoke,builtin,Sem.run_bind,Sem.run_pure,Result.andThen_ok,List.map_toArray,List.map_cons,List.map_nil,hs,hx,hr]
  exact hK _ _ (h w1 h1 (HB.grown h2 hbase (fun k hk=>by injection hk with hk;subst hk;exact R_base HO _ (by simp [Value.ownBlock]))) h2)
theorem R_delete_step (d:Kd α) {w0 W:World} (base:Nat) (hw:Region.wanted o (yielded ops a.tmps)=true) (s x:Operand) (t e:TypeId) (ho:o.op = .call { callee := .builtin .append,args:=#[s,x],argTypes:=#[t,t] })
    (ht:P.underlying t=some (.slice e)) (hinfo:(P.info? e).map (·.size)=some d.sz) {g n c k m c2:Nat} {A:Option Addr} {xs:List α} {ok:Nat→Prop}
    (hs:a.eval s = .slice (some ⟨g,0,none⟩) k c) (hx:a.eval x = .slice A m c2) (hA:A=if c=k+1 then some ⟨g,0,none⟩ else (some (⟨g,0,none⟩:Addr)).map (·.add ((k+1)*d.sz))) (hm:m=n-(k+1))
    (HO:d.R e W base ok (.slice (some ⟨g,0,none⟩) n c) xs) (hk:k<n) (HB:Below base w0 W) (hbase:base≤W.heap.size)
    (h:∀ w1,d.R e w1 base ok (.slice (some ⟨g,0,none⟩) (n-1) c) (xs.eraseIdx k)→Below base w0 w1→W.grownBy w1 (some g)→Kc (a.put o.dst (.slice (some ⟨g,0,none⟩) (n-1) c)) w1) :
    if Region.wanted o (yielded ops a.tmps)=true then Oper.wp P o a W Kc Q else Kc (a.put o.dst undef) W:=by
  obtain ⟨i0,hi,hsz⟩:=Option.map_eq_some_iff.1 hinfo
  subst hm
  obtain ⟨w1,hr,h1,h2⟩:=R_delete_run (P:=P) d base t o.type e i0 ht hi hsz HO hk hA c2
  rw [if_pos hw]
  unfold Oper.wp execOp
  simp only [ho,resolve,invoke,builtin,Sem.run_bind,Sem.run_pure,Result.andThen_ok,List.map_toArray,List.map_cons,List.map_nil,hs,hx,hr]
  exact h w1 h1 (HB.grown h2 hbase (fun k hk=>by injection hk with hk;subst hk;exact R_base HO _ (by simp [Value.ownBlock]))) h2
end
end Kd
end Go.Proofs.YtcgknibjbnijmaaW.PrintWords
end
section
namespace Go.Proofs.YtcgknibjbnijmaaW.PrintLast
section
variable {P:Program} {ops:Array Oper} {Q:Exit→Act→World→Prop} {md:Region.Mode} {S:World→Prop} {ds:List Nat}
end
section
variable {P:Program} {ops:Array Oper} {Q:Exit→Act→World→Prop} {md:Region.Mode} {S:World→Prop} {ds:List Nat}
theorem enters_ {f : FuncId} {fn : Func} (hf : P.funcs[f]? = some fn) (hname : (fn.name == "runtime.NumGoroutine") = false) (hb : fn.body.isSome = true) (args : Array Value) (w : World) : (callFunc f args).run P w = .ok (.enter f args) w := by
  have h1 : fn.name ≠ "runtime.NumGoroutine" := by simpa using hname
  obtain ⟨c,hc⟩:=Option.isSome_iff_exists.1 hb
  simp [callFunc,hf,h1,hc]
theorem goesL_ {rest : List Oper} {oi : Oper} {a : Act} {w : World} (N : Option Tmp) (hd : oi.dst = N) (hg : oi.guard = none) {f : FuncId} {fn : Func} {as0 : Array Operand} {ts : Array TypeId} (hf : P.funcs[f]? = some fn) (hname : (fn.name == "runtime.NumGoroutine") = false) (hb : fn.body.isSome = true) (args : Array Value)
    (hop:oi.op = .call { callee := .value (.func f),args:=as0,argTypes:=ts }) (hargs:as0.map a.eval=args)
    (h:Calls P f args w fun e w'=>∃ v,e = .returned v∧wpList P ops Q rest (a.put N v) w'):wpList P ops Q (oi::rest) a w:=by
  refine wpList_plain hg fun K hK=>?_
  have he:=enters_ hf hname hb args w
  have hrun:(execOp a.eval oi).run P w = .ok (.enter f args) w:=by
    unfold execOp
    simp [hop,resolve,Deferred.ofValue,invoke,Act.eval,hargs,he]
  unfold Oper.wp
  rw [hrun,Oper.upon_enter]
  refine h.mono fun e w'' hh=>?_
  obtain ⟨v,rfl,hk⟩:=hh
  subst hd
  exact hK _ _ hk
theorem i64_w (n:Int):IntKind.i64.wrap n=Go.RowKit.wrap64 n:=by unfold Go.RowKit.wrap64;exact IntKind.wrap_i64 n
end
end Go.Proofs.YtcgknibjbnijmaaW.PrintLast
end
section
namespace Go.Proofs.YtcgknibjbnijmaaW.PrintWords
open RowKit
namespace Kd
section
variable {α β:Type} {d:Kd α} {d':Kd β} {e e':Nat} {w w1 W:World} {base b:Nat} {ok ok' okv oku:Nat→Prop} {u v:Value} {xs:List α} {ys:List β}
end
section
variable {α β:Type} {d:Kd α} {d':Kd β} {e e' g:Nat} {w w1 W:World} {base b:Nat} {ok ok' okv oku:Nat→Prop} {u v:Value} {xs:List α} {ys:List β}
end
section
open Classical in
variable {P:Program} {ops:Array Oper} {rest:List Oper} {o:Oper} {a:Act} {Q:Exit→Act→World→Prop} {Kc:Act→World→Prop} {α:Type}
end
def gap {α:Type} (f:Nat→Nat) (d:Kd α) (i:Nat) (c:List Value):Kd (α × Nat) where
  sz:=d.sz
  E:=d.E
  K:=fun w x cs=>(x.2=i→cs=c∧cs.length=d.sz∧∀ u∈cs,u.oneCell'=true)∧(x.2≠i→d.K w x.1 cs)
  M:=fun w base ok x cs=>(x.2=i→cs=c∧cs.length=d.sz∧∀ u∈cs,u.oneCell'=true)∧(x.2≠i→d.M w base (fun k=>ok k∧f k=x.2) x.1 cs)
  K_len:=fun {w x cs} h=>by
    by_cases hx:x.2=i
    · exact (h.1 hx).2.1
    · exact d.K_len (h.2 hx)
  K_one:=fun {w x cs} h=>by
    by_cases hx:x.2=i
    · exact (h.1 hx).2.2
    · exact d.K_one (h.2 hx)
  K_below:=fun hb h=>⟨h.1,fun hx=>d.K_below hb (h.2 hx)⟩
  K_of_M:=fun h=>⟨h.1,fun hx=>d.K_of_M (h.2 hx)⟩
  M_mono:=fun hok h=>⟨h.1,fun hx=>d.M_mono (fun k hk=>⟨hok k hk.1,hk.2⟩) (h.2 hx)⟩
  M_bound:=fun h=>⟨h.1,fun hx=>d.M_mono (fun _ hk=>⟨⟨hk.1.1,hk.2⟩,hk.1.2⟩) (d.M_bound (h.2 hx))⟩
  M_move:=fun hm h=>⟨h.1,fun hx=>d.M_move (fun k hk=>hm k hk.1) (h.2 hx)⟩
  M_lower:=fun hb h=>⟨h.1,fun hx=>d.M_lower hb (h.2 hx)⟩
def H {α:Type} (d:Kd α) (e:Nat) (w:World) (base:Nat) (ok:Nat→Prop) (v:Value) (xs:List α) (i:Int) (oki:Nat→Prop) (c:List Value):Prop :=
  (∀ k,oki k→ok k)∧∃ f,(gap f d i.toNat c).R e w base (fun k=>ok k∧¬ oki k) v xs.zipIdx
section
variable {α β:Type} {d:Kd α} {e e' g n cap:Nat} {w w1 W:World} {base:Nat} {ok ok' oki okp:Nat→Prop} {u v:Value} {xs:List α} {i:Int} {c:List Value}
open Classical in
end
section
variable {P:Program} {ops:Array Oper} {rest:List Oper} {o:Oper} {a:Act} {Q:Exit→Act→World→Prop} {α:Type}
end
end Kd
end Go.Proofs.YtcgknibjbnijmaaW.PrintWords
end
section
namespace Go.Proofs.YtcgknibjbnijmaaW.PrintWords
open RowKit
namespace Kd
structure Heap {α:Type} (d:Kd α):Prop where
  K:∀ {w w1:World} {x:α} {cs:List Value},(∀ k,k<w.heap.size→w1.heap[k]?=w.heap[k]?)→d.K w x cs→d.K w1 x cs
theorem cell_heap {w w1:World} (hb:∀ k,k<w.heap.size→w1.heap[k]?=w.heap[k]?) {a:Addr} {v:Value} (h:w.cell? a=some v):w1.cell? a=some v:=by
  have:=hb a.block (World.block_lt_of_cell? w a h)
  simpa [World.cell?,this] using h
theorem Heap.C {α:Type} {d:Kd α} (hd:Heap d) {w w1:World} {A:Option Addr} {n:Nat} {xs:List α} (hb:∀ k,k<w.heap.size→w1.heap[k]?=w.heap[k]?) (h:d.C w A n xs):d.C w1 A n xs :=
  ⟨h.1,h.2.1,fun hn=>by
    obtain ⟨ad,e,hc⟩:=h.2.2 hn
    refine ⟨ad,e,fun j p hj=>?_⟩
    obtain ⟨c,hs,hr,hcell⟩:=hc j p hj
    exact ⟨c,hs,hd.K hb hr,fun i u hu=>cell_heap hb (hcell i u hu)⟩⟩
section
variable {α:Type} {d:Kd α} {e base g n c:Nat} {ok:Nat→Prop} {w w0 W:World} {A:Option Addr} {xs:List α}
end
end Kd
end Go.Proofs.YtcgknibjbnijmaaW.PrintWords
end
section
namespace Go.Proofs.YtcgknibjbnijmaaW.PrintWords
open RowKit
def Kept (w W:World) (S:Nat→Prop):Prop:=w.heap.size≤W.heap.size∧∀ i,i<w.heap.size→¬ S i→W.heap[i]?=w.heap[i]?
section
variable {w W W2:World} {S S2 S':Nat→Prop}
theorem Kept.refl (w:World) (S:Nat→Prop):Kept w w S:=⟨Nat.le_refl _,fun _ _ _=>rfl⟩
theorem Kept.of_below (h:Below w.heap.size w W) (S:Nat→Prop):Kept w W S:=⟨h.size,fun i hi _=>h.block i hi⟩
theorem Kept.mono (h:Kept w W S) (hs:∀ k,S k→S' k):Kept w W S':=⟨h.1,fun i hi hn=>h.2 i hi (fun hk=>hn (hs i hk))⟩
theorem Kept.then_ (h:Kept w W S) (k:Kept W W2 S2) (hs:∀ k,S2 k→S k∨w.heap.size≤k):Kept w W2 S :=
  ⟨Nat.le_trans h.1 k.1,fun i hi hn=>(k.2 i (Nat.lt_of_lt_of_le hi h.1) (fun h2=>(hs i h2).elim hn (fun h3=>by omega))).trans (h.2 i hi hn)⟩
theorem Kept.of_grown {row:Option Nat} (hg:W.grownBy W2 row) (h:Kept w W S) (hr:∀ k,row=some k→S k∨w.heap.size≤k):Kept w W2 S :=
  h.then_ (S2:=fun k=>row=some k) ⟨hg.size,fun i hi hn=>hg.block i hi (fun he=>hn he.symm)⟩ hr
theorem Kept.below (h:Kept w W S) (hb:Below W.heap.size W W2):Kept w W2 S:=h.then_ (Kept.of_below hb (fun _=>False)) (fun _ hk=>hk.elim)
theorem Kept.alloc (h:Kept w W S) (o:Obj):Kept w (W.alloc o) S:=h.below (below_alloc (Below.refl _ _) o)
theorem Kept.drew (h:Kept w W S):Kept w W.drew S:=h
theorem Kept.drewN (h:Kept w W S) (m:Nat):Kept w (W.drewN m) S:=h
theorem Kept.setCell (h:Kept w W S) {p:Addr} (hp:S p.block∨w.heap.size≤p.block) (u:Value):Kept w (W.setCell p u) S :=
  h.then_ (S2:=fun k=>k=p.block) ⟨by simp [World.setCell],fun i _ hn=>Below.heap_setCell W p u i hn⟩ (fun k hk=>by rw [hk];exact hp)
theorem Kept.of_keep {g:Nat} (h:Kept w W S) (k:KeepBut W W2 g none) (hg:S g∨w.heap.size≤g):Kept w W2 S :=
  h.then_ (S2:=fun k=>k=g) ⟨k.1,fun i hi hn=>k.2 i hi hn (by simp)⟩ (fun k hk=>by rw [hk];exact hg)
theorem Kept.keep {g:Nat} (h:KeepBut w W g none) (k:Kept W W2 S2) (hs:∀ k,S2 k→w.heap.size≤k):KeepBut w W2 g none :=
  ⟨Nat.le_trans h.1 k.1,fun i hi hg hr=>(k.2 i (Nat.lt_of_lt_of_le hi h.1) (fun h2=>by have:=hs i h2;omega)).trans (h.2 i hi hg hr)⟩
end
namespace Kd
section
variable {α:Type} {d:Kd α} {e base n c:Nat} {ok oki S S2:Nat→Prop} {w w0 W W1 W2:World} {v:Value} {A:Option Addr} {xs:List α} {i:Int} {cs:List Value}
end
end Kd
end Go.Proofs.YtcgknibjbnijmaaW.PrintWords
end
section
namespace Go.Proofs.YtcgknibjbnijmaaW.PrintWords
open RowKit
def Foot (P:World→Prop) (W:World) (ok:Nat→Prop):Prop:=∀ W':World,(∀ k,ok k→k<W.heap.size→W'.heap[k]?=W.heap[k]?)→P W'
theorem heap_lt {W W1:World} {k:Nat} (h:W1.heap[k]?=W.heap[k]?) (hlt:k<W.heap.size):k<W1.heap.size:=by
  rw [Array.getElem?_eq_getElem hlt] at h
  exact (Array.getElem?_eq_some_iff.1 h).1
namespace Foot
variable {P Q:World→Prop} {W W1:World} {ok ok':Nat→Prop}
theorem now (h:Foot P W ok):P W:=h W (fun _ _ _=>rfl)
theorem mono (h:Foot P W ok) (hok:∀ k,ok k→ok' k):Foot P W ok':=fun W' hW=>h W' (fun k hk hlt=>hW k (hok k hk) hlt)
theorem bound (h:Foot P W ok):Foot P W (fun k=>ok k∧k<W.heap.size):=fun W' hW=>h W' (fun k hk hlt=>hW k ⟨hk,hlt⟩ hlt)
theorem step (h:Foot P W ok) (hm:∀ k,ok k→k<W.heap.size→W1.heap[k]?=W.heap[k]?):Foot P W1 ok:=fun W' hW=>h W' (fun k hk hlt=>(hW k hk (heap_lt (hm k hk hlt) hlt)).trans (hm k hk hlt))
theorem imp (h:Foot P W ok) (hi:∀ W',P W'→Q W'):Foot Q W ok:=fun W' hW=>hi W' (h W' hW)
theorem old (h:Foot P W ok) (hb:Below W.heap.size W W1):Foot P W1 (fun k=>ok k∧k<W.heap.size):=(h.bound).step (fun k _ hlt=>hb.block k hlt)
end Foot
namespace Kd
def F {α:Type} (d:Kd α) (W:World) (ok:Nat→Prop) (A:Option Addr) (n:Nat) (xs:List α):Prop:=Foot (fun W=>d.C W A n xs) W ok
section
variable {α β:Type} {d:Kd α} {e base n n' cc g N:Nat} {ok ok' okp S:Nat→Prop} {w w0 w1 W W1:World} {A A':Option Addr} {u v v1:Value} {xs:List α} {xs':List β} {d':Kd β} {x:α} {c:List Value}
end
end Kd
end Go.Proofs.YtcgknibjbnijmaaW.PrintWords
end
section
namespace Go.Proofs.YtcgknibjbnijmaaW.PrintMore
open RowKit YtcgknibjbnijmaaW.PrintWords
namespace Kd
open YtcgknibjbnijmaaW.PrintWords.Kd
end Kd
namespace Kd
open YtcgknibjbnijmaaW.PrintWords.Kd
section
variable {α:Type} {d:Kd α} {e base g N:Nat} {ok:Nat→Prop} {W w1:World} {u v:Value} {xs:List α}
end
end Kd
theorem max2_int (k k':IntKind) (x y:Int):Builtin.max2 (.int k x) (.int k' y)=pure (.int k (if x<y then y else x)):=by simp only [Builtin.max2,gt_iff_lt]
theorem min2_int (k k':IntKind) (x y:Int):Builtin.min2 (.int k x) (.int k' y)=pure (.int k (if y<x then y else x)):=by simp only [Builtin.min2]
theorem max_two (ats:Array TypeId) (ty:TypeId) (a b:Value):Builtin.max_ ats ty #[a,b]=(Builtin.max2 a b >>= fun s=>pure s):=by simp only [Builtin.max_,List.foldlM_cons,List.foldlM_nil]
theorem min_two (ats:Array TypeId) (ty:TypeId) (a b:Value):Builtin.min_ ats ty #[a,b]=(Builtin.min2 a b >>= fun s=>pure s):=by simp only [Builtin.min_,List.foldlM_cons,List.foldlM_nil]
theorem max_three (ats:Array TypeId) (ty:TypeId) (a b c:Value):Builtin.max_ ats ty #[a,b,c]=(Builtin.max2 a b >>= fun s=>Builtin.max2 s c >>= fun s=>pure s):=by simp only [Builtin.max_,List.foldlM_cons,List.foldlM_nil]
theorem min_three (ats:Array TypeId) (ty:TypeId) (a b c:Value):Builtin.min_ ats ty #[a,b,c]=(Builtin.min2 a b >>= fun s=>Builtin.min2 s c >>= fun s=>pure s):=by simp only [Builtin.min_,List.foldlM_cons,List.foldlM_nil]
theorem max_four (ats:Array TypeId) (ty:TypeId) (a b c d:Value):Builtin.max_ ats ty #[a,b,c,d]=(Builtin.max2 a b >>= fun s=>Builtin.max2 s c >>= fun s=>Builtin.max2 s d >>= fun s=>pure s):=by simp only [Builtin.max_,List.foldlM_cons,List.foldlM_nil]
theorem min_four (ats:Array TypeId) (ty:TypeId) (a b c d:Value):Builtin.min_ ats ty #[a,b,c,d]=(Builtin.min2 a b >>= fun s=>Builtin.min2 s c >>= fun s=>Builtin.min2 s d >>= fun s=>pure s):=by simp only [Builtin.min_,List.foldlM_cons,List.foldlM_nil]
end Go.Proofs.YtcgknibjbnijmaaW.PrintMore
namespace Go.Proofs.YtcgknibjbnijmaaW.PrintWords
open RowKit
section
variable {P:Program} {ops:Array Oper} {rest:List Oper} {o:Oper} {a:Act} {Q:Exit→Act→World→Prop} {W:World}
theorem gate_callee {f:FuncId} {as0:Array Operand} {ts:Array TypeId} (_ho:o.op = .call { callee := .value (.func f),args:=as0,argTypes:=ts }) (h:wpList P ops Q (o::rest) a W):wpList P ops Q (o::rest) a W:=h
theorem gate_builtin {b:Builtin} {xs:Array Operand} {ts:Array TypeId} (_ho:o.op = .call { callee := .builtin b,args:=xs,argTypes:=ts }) (h:wpList P ops Q (o::rest) a W):wpList P ops Q (o::rest) a W:=h
end
def shl (k:IntKind) (x y:Int):Int:=k.wrap (x*2 ^ min y.toNat k.bits)
def shr (k:IntKind) (x y:Int):Int:=x/2 ^ min y.toNat k.bits
theorem shl_small {k:IntKind} {x y j:Int} (h:shl k x y=j) (hy:y≤k.bits):k.wrap (x*2 ^ y.toNat)=j:=by rw [← h];unfold shl;rw [Nat.min_eq_left (by omega)]
theorem shr_small {k:IntKind} {x y j:Int} (h:shr k x y=j) (hy:y≤k.bits):x/2 ^ y.toNat=j:=by rw [← h];unfold shr;rw [Nat.min_eq_left (by omega)]
namespace Kd
section
variable {α:Type} {d:Kd α} {e base:Nat} {ok:Nat→Prop} {W w1:World} {v:Value} {xs:List α}
end
section
variable {α:Type} {d:Kd α} {e base g n cap:Nat} {ok oki okp:Nat→Prop} {W:World} {xs:List α} {i:Int} {c:List Value}
end
section
variable {α:Type} {d:Kd α} {e base b b' g N:Nat} {ok ok1:Nat→Prop} {W W2 w1:World} {u v:Value} {xs ys:List α} {S:Nat→Prop}
end
end Kd
end Go.Proofs.YtcgknibjbnijmaaW.PrintWords
namespace Go.Proofs.YtcgknibjbnijmaaW.PrintWords
open RowKit
namespace Kd
section
variable {α β:Type} {d:Kd α} {e base base' n m c g N' lo hi:Nat} {ok ok' S:Nat→Prop} {w W w1:World} {A:Option Addr} {ad:Addr} {u v v1:Value} {xs:List α}
end
end Kd
end Go.Proofs.YtcgknibjbnijmaaW.PrintWords
end
section
namespace Go.Proofs.YtcgknibjbnijmaaW.Aid
open RowKit YtcgknibjbnijmaaW.PrintWords YtcgknibjbnijmaaW.PrintMore
theorem Ev.shift {α:Type} {g:Nat→Option α} {r:α} (h:Ev (fun k=>g (k+1)) r):Ev g r:=by
  obtain ⟨K,h⟩:=h
  refine ⟨K+1,fun k hk=>?_⟩
  obtain ⟨j,rfl⟩:∃ j,k=j+1:=⟨k-1,by omega⟩
  exact h j (by omega)
theorem Ev.pure {α:Type} {g:Nat→Option α} {r:α} (h:∀ k,g k=some r):Ev g r:=⟨0,fun k _=>h k⟩
theorem Ev.val {α:Type} {a:Option α} {r:α} (h:a=some r):Ev (fun _=>a) r:=⟨0,fun _ _=>h⟩
theorem Ev.to {α:Type} {g:Nat→Option α} {r r':α} (h:Ev g r) (e:r=r'):Ev g r':=e ▸ h
theorem wrap64_id {x:Int} (h : -9223372036854775808≤x) (h':x≤9223372036854775807):wrap64 x=x:=by unfold wrap64;omega
theorem rd_at {l:List Int} {i:Int} (h0:0≤i) (h:i<(l.length:Int)):∃ hj:i.toNat<l.length,rd l i=l[i.toNat]:=by
  have:i.toNat<l.length:=by omega
  exact ⟨this,by unfold rd;rw [List.getD_eq_getElem?_getD,List.getElem?_eq_getElem this];rfl⟩
theorem rd_mem {l:List Int} {i:Int} (h0:0≤i) (h:i<(l.length:Int)):rd l i∈l:=by
  obtain ⟨hj,e⟩:=rd_at h0 h
  rw [e];exact List.getElem_mem hj
end Go.Proofs.YtcgknibjbnijmaaW.Aid
end
section
set_option linter.unusedVariables false
namespace Go.Proofs.YtcgknibjbnijmaaW.Big
open RowKit YtcgknibjbnijmaaW.PrintWords YtcgknibjbnijmaaW.PrintMore YtcgknibjbnijmaaW.Aid
def limbs (n:Nat):List Int:=if h:n=0 then [] else ((n%18446744073709551616:Nat):Int)::limbs (n/18446744073709551616)
termination_by n
decreasing_by omega
def val:List Int→Nat
  | []=>0
  | x::r=>x.toNat+18446744073709551616*val r
theorem limbs_zero:limbs 0=[]:=by rw [limbs];simp
theorem limbs_pos {n:Nat} (h:n≠0):limbs n=((n%18446744073709551616:Nat):Int)::limbs (n/18446744073709551616):=by rw [limbs];simp [h]
theorem val_limbs (n:Nat):val (limbs n)=n:=by
  induction n using Nat.strongRecOn with
  | _ n ih =>
    by_cases h:n=0
    · subst h;rw [limbs_zero];rfl
    · rw [limbs_pos h,val,ih _ (by omega)]
      omega
def Dig (l:List Int):Prop:=∀ x∈l,0≤x∧x<18446744073709551616
def Canon (l:List Int):Prop:=Dig l∧(∀ h:l≠[],l.getLast h≠0)
theorem limbs_ne {n:Nat}:limbs n=[]↔n=0:=by
  constructor
  · intro h
    have:=val_limbs n
    rw [h] at this
    exact this.symm
  · rintro rfl;exact limbs_zero
theorem Canon.limbs {l:List Int} (h:Canon l):l=limbs (val l):=by
  induction l with
  | nil=>rw [val,limbs_zero]
  | cons x r ih =>
    have hx:=h.1 x (by simp)
    have hr:Canon r:=⟨fun y hy=>h.1 y (List.mem_cons_of_mem _ hy),fun hne=>by have:=h.2 (by simp);rw [List.getLast_cons hne] at this;exact this⟩
    have hv:val (x::r)≠0:=by
      intro e
      simp only [val] at e
      cases r with
      | nil=>have:=h.2 (by simp);simp at this;omega
      | cons y r' =>
        have:Big.limbs (val (y::r'))=[]:=limbs_ne.2 (by omega)
        rw [← ih hr] at this
        simp at this
    rw [limbs_pos hv]
    have e1:val (x::r)%18446744073709551616=x.toNat:=by simp only [val];omega
    have e2:val (x::r)/18446744073709551616=val r:=by simp only [val];omega
    rw [e1,e2,← ih hr]
    congr 1
    omega
def sgn (x:Int):Bool:=decide (x<0)
def lm (x:Int):List Int:=limbs x.natAbs
end Go.Proofs.YtcgknibjbnijmaaW.Big
end
section
set_option linter.unusedVariables false
set_option linter.unusedSimpArgs false
namespace Go.Proofs.YtcgknibjbnijmaaW.Sy
open Go RowKit YtcgknibjbnijmaaW.PrintWords YtcgknibjbnijmaaW.PrintMore YtcgknibjbnijmaaW.Aid YtcgknibjbnijmaaW.Big
structure Ag (O:Nat→Prop) (w w1:World):Prop where
  os:w1.os=w.os
  tape:w1.tape=w.tape
  output:w1.output=w.output
  size:w.heap.size≤w1.heap.size
  block:∀ k,k<w.heap.size→¬ O k→w1.heap[k]?=w.heap[k]?
theorem Ag.refl (O:Nat→Prop) (w:World):Ag O w w:=⟨rfl,rfl,rfl,Nat.le_refl _,fun _ _ _=>rfl⟩
theorem Ag.trans {O:Nat→Prop} {w w1 w2:World} (h:Ag O w w1) (h2:Ag O w1 w2):Ag O w w2 :=
  ⟨h2.os.trans h.os,h2.tape.trans h.tape,h2.output.trans h.output,Nat.le_trans h.size h2.size,fun k hk hn=>(h2.block k (Nat.lt_of_lt_of_le hk h.size) hn).trans (h.block k hk hn)⟩
theorem Ag.mono {O O':Nat→Prop} {w w1:World} (h:Ag O w w1) (ho:∀ k,k<w.heap.size→O k→O' k):Ag O' w w1 :=
  ⟨h.os,h.tape,h.output,h.size,fun k hk hn=>h.block k hk (fun hO=>hn (ho k hk hO))⟩
theorem Ag.of_below {O:Nat→Prop} {w w1:World} (h:Below w.heap.size w w1):Ag O w w1:=⟨h.os,h.tape,h.output,h.size,fun k hk _=>h.block k hk⟩
theorem Ag.to_below {w w1:World} (h:Ag (fun _=>False) w w1):Below w.heap.size w w1:=⟨h.os,h.tape,h.output,h.size,fun k hk=>h.block k hk (fun h=>h)⟩
theorem Ag.then {O O':Nat→Prop} {w w1 w2:World} (h:Ag O w w1) (h2:Ag O' w1 w2) (ho:∀ k,k<w.heap.size→O' k→O k):Ag O w w2 :=
  ⟨h2.os.trans h.os,h2.tape.trans h.tape,h2.output.trans h.output,Nat.le_trans h.size h2.size,fun k hk hn=>(h2.block k (Nat.lt_of_lt_of_le hk h.size) (fun h'=>hn (ho k hk h'))).trans (h.block k hk hn)⟩
abbrev FrD:=Int × Int × List Int
inductive D where
  /-- A slice of numbers. -/
  | ints (k:IntKind) (e:TypeId) (l:List Int)
  /-- A slice of structs of numbers alone. -/
  | flat (e:TypeId) (sz:Nat) (l:List (List Int))
  /-- A slice of frames: two numbers and bytes. -/
  | frs (e eb:TypeId) (l:List FrD)
def kFlat (sz:Nat):Kd (List Int) where
  sz:=sz
  E:=[]
  K:=fun _ x cs=>cs=x.map (Value.int .i64)∧x.length=sz
  M:=fun _ _ _ x cs=>cs=x.map (Value.int .i64)∧x.length=sz
  K_len:=by rintro w x cs ⟨rfl,h⟩;simp [h]
  K_one:=by
    rintro w x cs ⟨rfl,h⟩ u hu
    obtain ⟨y,_,rfl⟩:=List.mem_map.1 hu
    rfl
  K_below:=fun _ h=>h
  K_of_M:=fun h=>h
  M_mono:=fun _ h=>h
  M_bound:=fun h=>h
  M_move:=fun _ h=>h
  M_lower:=fun _ h=>h
abbrev kFr (eb:TypeId):Kd FrD:=Kd.pair (Kd.int .i64) (Kd.pair (Kd.int .i64) (Kd.slice eb (Kd.int .u8)))
def RdK (w:World) (k:IntKind) (l:List Int) (A:Option Addr) (c:Nat):Prop:=l.length≤c∧Kd.C (Kd.int k) w A l.length l
def rdSl (w:World) (k:IntKind) (l:List Int) (u:Value):Prop:=∃ A c,u = .slice A l.length c∧RdK w k l A c
def D.rd (w:World):D→Value→Prop
  | .ints k _ l,u=>rdSl w k l u
  | .flat _ sz l,u=>∃ A c,u = .slice A l.length c∧l.length≤c∧Kd.C (kFlat sz) w A l.length l
  | .frs _ eb l,u=>∃ A c,u = .slice A l.length c∧l.length≤c∧Kd.C (kFr eb) w A l.length l
def D.own (F:Nat→Prop) (w:World):D→Value→Prop
  | .ints k e l,u=>Kd.R (Kd.int k) e w 0 F u l
  | .flat e sz l,u=>Kd.R (kFlat sz) e w 0 F u l
  | .frs e eb l,u=>Kd.R (kFr eb) e w 0 F u l
def D.len:D→Nat
  | .ints _ _ l=>l.length
  | .flat _ _ l=>l.length
  | .frs _ _ l=>l.length
theorem D.own_rd {x:D} {F:Nat→Prop} {w:World} {u:Value} (h:x.own F w u):x.rd w u:=by
  cases x<;>exact Kd.R_reads h
theorem D.own_move {x:D} {F:Nat→Prop} {w w1:World} {u:Value} (h:x.own F w u) (hm:∀ k,F k→w1.heap[k]?=w.heap[k]?):x.own F w1 u:=by
  cases x<;>exact Kd.R_move h hm
theorem D.own_mono {x:D} {F F':Nat→Prop} {w:World} {u:Value} (h:x.own F w u) (hm:∀ k,F k→F' k):x.own F' w u:=by
  cases x<;>exact Kd.R_mono h hm
theorem D.own_tight {x:D} {F:Nat→Prop} {w:World} {u:Value} (h:x.own F w u):x.own (fun k=>F k∧k<w.heap.size) w u:=by
  cases x<;>exact Kd.R_mono (Kd.R_bound h) (fun k hk=>⟨hk.1,hk.2.2.1⟩)
theorem D.rd_slice {x:D} {w:World} {u:Value} (h:x.rd w u):∃ A c,u = .slice A x.len c:=by
  cases x<;>(obtain ⟨A,c,e,_⟩:=h;exact ⟨A,c,e⟩)
inductive A0 where
  | v (x:Value)
  | sl (k:IntKind) (l:List Int)
  | neg (x:Int)
  | mag (x:Int)
  /-- A slice of which the length alone is told. -/
  | ls (n:Nat)
  /-- Data,told. -/
  | op (x:D)
  /-- An own thing. -/
  | ref (b:Nat)
  /-- What an own thing holds. -/
  | obs (x:D)
structure Pl where
  f:Nat→Nat
  v:Nat→Value
  F:Nat→Nat→Prop
  O:Nat→Prop
  /-- Of a box that came in: how many of its cells are spoken of,and the others. -/
  r:Nat→Option (Nat × Array Value)
instance:CoeFun Pl (fun _=>Nat→Nat):=⟨Pl.f⟩
abbrev plO (O:Nat→Prop):Pl:=⟨fun _=>0,fun _=>undef,fun _ _=>False,O,fun _=>none⟩
abbrev pl0:Pl:=plO (fun _=>False)
def A0.reads (β:Pl) (w:World):A0→Value→Prop
  | .v x,u=>u=x
  | .sl k l,u=>∀ w1,Ag β.O w w1→rdSl w1 k l u
  | .neg x,u=>u = .bool (sgn x)
  | .mag x,u=>∀ w1,Ag β.O w w1→rdSl w1 .u64 (lm x) u
  | .ls n,u=>∃ A c,u = .slice A n c
  | .op x,u=>∀ w1,Ag β.O w w1→x.rd w1 u
  | .ref b,u=>u=β.v b
  | .obs _,_=>False
def A0.refs:A0→List Nat
  | .ref b=>[b]
  | _=>[]
def D.told:D→A0
  | .ints k _ l => .sl k l
  | x => .op x
theorem A0.to {β β':Pl} {w w':World} {c:A0} {u:Value} (h:c.reads β w u) (ha:Ag β.O w w') (hO:∀ k,k<w.heap.size→β'.O k→β.O k) (hv:∀ b∈c.refs,β'.v b=β.v b):c.reads β' w' u:=by
  have key:∀ w1,Ag β'.O w' w1→Ag β.O w w1:=fun w1 h1=>Ag.then ha h1 hO
  cases c with
  | v x=>exact h
  | sl k l=>exact fun w1 h1=>h w1 (key w1 h1)
  | neg x=>exact h
  | mag x=>exact fun w1 h1=>h w1 (key w1 h1)
  | ls n=>exact h
  | op x=>exact fun w1 h1=>h w1 (key w1 h1)
  | ref b=>show u=_;rw [hv b (by simp [A0.refs])];exact h
  | obs x=>exact h
def okA:A0→Bool
  | .v (.agg _)=>false
  | .v (.tuple _)=>false
  | .obs _=>false
  | .ref _=>true
  | _=>true
theorem D.own_told {x:D} {F:Nat→Prop} {β:Pl} {w:World} {u:Value} (h:x.own F w u) (hF:∀ k,F k→¬ β.O k):x.told.reads β w u:=by
  have key:∀ w1,Ag β.O w w1→x.rd w1 u:=fun w1 h1=>D.own_rd (D.own_move (D.own_tight h) (fun k hk=>h1.block k hk.2 (hF k hk.1)))
  cases x with
  | ints k e l=>exact key
  | flat e sz l=>exact key
  | frs e eb l=>exact key
theorem D.told_refs (x:D):x.told.refs=[]:=by cases x<;>rfl
def A0.free:A0→Bool
  | .v _=>true
  | .neg _=>true
  | .ls _=>true
  | _=>false
theorem A0.free_reads {β β':Pl} {w w':World} {c:A0} {u:Value} (h:c.reads β w u) (hc:c.free=true):c.reads β' w' u:=by
  cases c<;>first|exact h|cases hc
theorem A0.free_refs {c:A0} (hc:c.free=true):c.refs=[]:=by cases c<;>first|rfl|cases hc
def A0.noObs:A0→Bool
  | .obs _=>false
  | _=>true
inductive All2 {α β:Type} (R:α→β→Prop):List α→List β→Prop where
  | nil:All2 R [] []
  | cons {a b l l'}:R a b→All2 R l l'→All2 R (a::l) (b::l')
inductive TV where
  | sc (c:A0)
  | agg (cs:List A0)
  | tup (l:List (Bool × List A0))
  | ptr (b off:Nat)
  /-- An element of a told slice of numbers. -/
  | elem (k:IntKind) (l:List Int) (i:Int)
  /-- An element of an own slice of numbers. -/
  | oel (b:Nat) (i:Int)
  | own (b off n sz:Nat)
  | row (n:Nat) (cs:List A0)
  | rowF (n sz:Nat) (f:Nat→List A0)
  | rptr (cs:List A0)
  | clo (f:FuncId) (caps:List (List A0))
  | oclo (f:FuncId) (bs:List Nat)
  | cond (c:Bool) (x:TV)
def CellsAt (β:Pl) (w:World) (ad:Addr) (cs:List A0):Prop:=∀ i c,cs[i]?=some c→∃ x,w.cell? (ad.add i)=some x∧c.reads β w x∧c.refs=[]
def part0 (β:Pl) (w:World) (x:Bool × List A0) (u:Value):Prop :=
  match x with
  | (true,cs)=>∃ us:List Value,u = .agg us.toArray∧All2 (A0.reads β w) cs us
  | (false,cs)=>∃ c,cs=[c]∧c.reads β w u
def Outs (β:Pl) (w:World) (ad:Addr):Prop:=ad.block<w.heap.size∧¬ β.O ad.block
def FRef (β:Pl) (w:World) (cs:List A0) (u:Value):Prop:=∃ ad:Addr,u = .pointer (some ad)∧Outs β w ad∧CellsAt β w ad cs
def TV.reads (β:Pl) (w:World):TV→Value→Prop
  | .sc c,u=>c.reads β w u
  | .agg cs,u=>part0 β w (true,cs) u
  | .tup l,u=>∃ us:List Value,u = .tuple us.toArray∧All2 (part0 β w) l us
  | .ptr b off,u=>u = .pointer (some ⟨β b,off,none⟩)
  | .elem k l i,u=>∃ ad:Addr,u = .pointer (some ad)∧0≤i∧i<(l.length:Int)∧∀ w1,Ag β.O w w1→w1.cell? ad=some (.int k (rd l i))
  | .oel b i,u=>∃ A n c,β.v b = .slice (some A) n c∧0≤i∧u = .pointer (some (A.add i.toNat))
  | .own b off n sz,u=>∃ c,u = .slice (some ⟨β b,off,none⟩) n c∧n≤c
  | .row n cs,u=>∃ A c,u = .slice A n c∧n≤c∧(0<n→∃ ad:Addr,A=some ad∧Outs β w ad∧CellsAt β w ad cs)
  | .rowF n sz f,u=>∃ A c,u = .slice A n c∧n≤c∧(0<n→∃ ad:Addr,A=some ad∧Outs β w ad∧∀ i,i<n→CellsAt β w (ad.add (i*sz)) (f i))
  | .rptr cs,u=>FRef β w cs u
  | .clo f caps,u=>∃ us:List Value,u = .func (.func f) #[] us.toArray∧All2 (FRef β w) caps us
  | .oclo f bs,u=>u = .func (.func f) #[] (bs.map fun b=>Value.pointer (some ⟨β b,0,none⟩)).toArray
  | .cond c x,u=>(c=true→x.reads β w u)∧(c=false→u=undef)
def TV.refs:TV→List Nat
  | .sc c=>c.refs
  | .agg cs=>cs.flatMap A0.refs
  | .tup l=>l.flatMap fun p=>p.2.flatMap A0.refs
  | .ptr b _=>[b]
  | .oel b _=>[b]
  | .own b _ _ _=>[b]
  | .oclo _ bs=>bs
  | .cond _ x=>x.refs
  | _=>[]
theorem add_block (ad:Addr) (i:Nat):(ad.add i).block=ad.block:=by unfold Addr.add;split<;>rfl
theorem Outs.to {β β':Pl} {w w':World} {ad:Addr} (h:Outs β w ad) (ha:Ag β.O w w') (hO:∀ k,k<w.heap.size→β'.O k→β.O k):Outs β' w' ad :=
  ⟨Nat.lt_of_lt_of_le h.1 ha.size,fun h'=>h.2 (hO _ h.1 h')⟩
theorem CellsAt.to {β β':Pl} {w w':World} {ad:Addr} {cs:List A0} (h:CellsAt β w ad cs) (ho:Outs β w ad) (ha:Ag β.O w w') (hO:∀ k,k<w.heap.size→β'.O k→β.O k):CellsAt β' w' ad cs:=by
  intro i c hi
  obtain ⟨x,hx,hr,hn⟩:=h i c hi
  refine ⟨x,?_,A0.to hr ha hO (by rw [hn];simp),hn⟩
  rw [World.cell?_of_block (w:=w) (by rw [add_block];exact ha.block _ ho.1 ho.2)]
  exact hx
theorem All2.imp {α β:Type} {R S:α→β→Prop} (h:∀ a b,R a b→S a b):∀ {l:List α} {l':List β},All2 R l l'→All2 S l l'
  | [],_,h'=>by cases h';exact .nil
  | a::l,_,h'=>by
    cases h' with
    | cons hx hr=>exact .cons (h _ _ hx) (All2.imp h hr)
theorem All2.imp_mem {α β:Type} {R S:α→β→Prop}:∀ {l:List α} {l':List β},(∀ a∈l,∀ b,R a b→S a b)→All2 R l l'→All2 S l l'
  | [],_,_,h'=>by cases h';exact .nil
  | a::l,_,h,h'=>by
    cases h' with
    | cons hx hr=>exact .cons (h a List.mem_cons_self _ hx) (All2.imp_mem (fun a ha=>h a (List.mem_cons_of_mem _ ha)) hr)
section
variable {β β':Pl} {w w':World}
theorem part0.to {x:Bool × List A0} {u:Value} (h:part0 β w x u) (ha:Ag β.O w w') (hO:∀ k,k<w.heap.size→β'.O k→β.O k) (hv:∀ b∈x.2.flatMap A0.refs,β'.v b=β.v b):part0 β' w' x u:=by
  obtain ⟨b,cs⟩:=x
  have hv':∀ c∈cs,∀ b∈c.refs,β'.v b=β.v b:=fun c hc b hb=>hv b (List.mem_flatMap.2 ⟨c,hc,hb⟩)
  cases b with
  | true=>obtain ⟨us,e,hr⟩:=h;exact ⟨us,e,All2.imp_mem (fun c hc _ h=>A0.to h ha hO (hv' c hc)) hr⟩
  | false=>obtain ⟨c,e,hr⟩:=h;exact ⟨c,e,A0.to hr ha hO (hv' c (by rw [show cs=[c] from e];simp))⟩
theorem FRef.to {cs:List A0} {u:Value} (h:FRef β w cs u) (ha:Ag β.O w w') (hO:∀ k,k<w.heap.size→β'.O k→β.O k):FRef β' w' cs u:=by
  obtain ⟨ad,e,hb,hc⟩:=h
  exact ⟨ad,e,hb.to ha hO,hc.to hb ha hO⟩
theorem Outs.add {ad:Addr} (h:Outs β w ad) (i:Nat):Outs β w (ad.add i):=by unfold Outs;rw [add_block];exact h
theorem TV.to (ha:Ag β.O w w') (hO:∀ k,k<w.heap.size→β'.O k→β.O k):∀ {x:TV} {u:Value},(∀ b∈x.refs,β'.f b=β.f b∧β'.v b=β.v b)→x.reads β w u→x.reads β' w' u
  | .sc c,u,hv,h=>A0.to h ha hO (fun b hb=>(hv b hb).2)
  | .agg cs,u,hv,h=>part0.to (x:=(true,cs)) h ha hO (fun b hb=>(hv b hb).2)
  | .tup l,u,hv,⟨us,e,h⟩=>⟨us,e,All2.imp_mem (fun p hp _ h=>part0.to h ha hO (fun b hb=>(hv b (List.mem_flatMap.2 ⟨p,hp,hb⟩)).2)) h⟩
  | .ptr b off,u,hv,h=>by show u=_;rw [(hv b (by simp [TV.refs])).1];exact h
  | .elem k l i,u,_,⟨ad,e,h0,h1,h⟩=>⟨ad,e,h0,h1,fun w1 h'=>h w1 (Ag.then ha h' hO)⟩
  | .oel b i,u,hv,⟨A,n,c,e,h0,h1⟩=>⟨A,n,c,by rw [(hv b (by simp [TV.refs])).2];exact e,h0,h1⟩
  | .own b off n sz,u,hv,⟨c,e,hc⟩=>⟨c,by rw [(hv b (by simp [TV.refs])).1];exact e,hc⟩
  | .row n cs,u,_,⟨A,c,e,hn,h⟩=>⟨A,c,e,hn,fun h0=>by
      obtain ⟨ad,ea,hb,hc⟩:=h h0
      exact ⟨ad,ea,hb.to ha hO,hc.to hb ha hO⟩⟩
  | .rowF n sz f,u,_,⟨A,c,e,hn,h⟩=>⟨A,c,e,hn,fun h0=>by
      obtain ⟨ad,ea,hb,hc⟩:=h h0
      exact ⟨ad,ea,hb.to ha hO,fun i hi=>(hc i hi).to (hb.add _) ha hO⟩⟩
  | .rptr cs,u,_,h=>FRef.to h ha hO
  | .clo f caps,u,_,⟨us,e,h⟩=>⟨us,e,All2.imp (fun _ _ h=>FRef.to h ha hO) h⟩
  | .oclo f bs,u,hv,h=>by
    show u=_
    rw [show u=_ from h]
    congr 2
    refine List.map_congr_left (fun b hm=>?_)
    rw [(hv b hm).1]
  | .cond c x,u,hv,h=>⟨fun hc=>TV.to ha hO (x:=x) hv (h.1 hc),h.2⟩
end
structure St where
  g:Nat→Option TV
  m:Nat→Nat→Option A0
  T:Nat→Option TypeId
def upd {α:Type} (f:Nat→α) (k:Nat) (v:α):Nat→α:=fun i=>if i=k then v else f i
def upd2 {α:Type} (f:Nat→Nat→α) (b o:Nat) (v:α):Nat→Nat→α:=fun i j=>if i=b∧j=o then v else f i j
def obT:TypeId:=1000000007
def Cell1 (u:Value):Prop:=u.cells=#[u]∧u.oneCell'=true
structure BoxOk (β:Pl) (b:Nat) (mb:Nat→Option A0) (ty:TypeId) (w:World):Prop where
  one:Cell1 (β.v b)
  obj:ty=obT→∀ off c,mb off=some c→off=0∧∃ x,c = .obs x∧x.own (β.F b) w (β.v b)
  cel:ty≠obT→(∀ k,β.F b k↔k=β b)∧∃ arr,w.heap[β b]?=some (.cells arr ty (0,0))∧∀ off c,mb off=some c→∃ x,arr[off]?=some x∧x.oneCell'=true∧c.reads β w x
  rst:∀ k a0,β.r b=some (k,a0)→ty≠obT→(∀ arr,w.heap[β b]?=some (.cells arr ty (0,0))→∀ off,k≤off→arr[off]?=a0[off]?)∧∀ off,mb off≠none→off<k
structure Sat (W:Nat→Prop) (w0:World) (n:Nat) (β:Pl) (s:St) (a:Act) (w:World):Prop where
  tm:∀ t x,s.g t=some x→x.reads β w (a.tmps.getD t undef)
  box:∀ b ty,s.T b=some ty→BoxOk β b (s.m b) ty w
  has:∀ b off,s.m b off≠none→s.T b≠none
  refs:∀ t x,s.g t=some x→∀ b∈x.refs,s.T b≠none
  refm:∀ b off c,s.m b off=some c→∀ r∈c.refs,s.T r≠none
  disj:∀ b b' k,s.T b≠none→s.T b'≠none→β.F b k→β.F b' k→b=b'
  own:∀ b k,s.T b≠none→β.F b k→β.O k∧(w0.heap.size≤k∨W k)
  lt:∀ k,β.O k→k<w.heap.size
  below:Ag W w0 w
  defers:a.defers=[]
  size:a.tmps.size=n
def SatE (W:Nat→Prop) (w0:World) (n:Nat) (s:St) (a:Act) (w:World):Prop:=∃ β,Sat W w0 n β s a w
theorem getD_set {tm:Array Value} {d:Nat} {v:Value} (hd:d<tm.size) (t:Nat):(tm.setIfInBounds d v).getD t undef=if t=d then v else tm.getD t undef:=by
  rw [Array.getD_eq_getD_getElem?,Array.getD_eq_getD_getElem?]
  by_cases h:t=d
  · subst h;simp [hd]
  · rw [Array.getElem?_setIfInBounds_ne (by omega),if_neg h]
section
variable {W:Nat→Prop} {w0:World} {n:Nat} {β β':Pl} {s:St} {a:Act} {w w':World}
theorem Sat.put (h:Sat W w0 n β s a w) {d:Nat} (hd:d<n) {v:Value} {x:Option TV} (hx:∀ y,x=some y→y.reads β w v∧∀ b∈y.refs,s.T b≠none) :
    Sat W w0 n β { s with g:=upd s.g d x } (a.put (some d) v) w:=by
  refine { tm:=fun t y hy=>?_,box:=h.box,has:=h.has,refs:=fun t y hy=>?_,refm:=h.refm,disj:=h.disj,own:=h.own,lt:=h.lt,below:=h.below,defers:=h.defers,size:=by simp [Act.put,h.size] }
  · show y.reads β w ((a.tmps.setIfInBounds d v).getD t undef)
    rw [getD_set (by rw [h.size];exact hd)]
    simp only [upd] at hy
    by_cases e:t=d
    · rw [if_pos e] at hy ⊢;exact (hx y hy).1
    · rw [if_neg e] at hy ⊢;exact h.tm t y hy
  · simp only [upd] at hy
    by_cases e:t=d
    · rw [if_pos e] at hy;exact (hx y hy).2
    · rw [if_neg e] at hy;exact h.refs t y hy
theorem BoxOk.to {b:Nat} {mb:Nat→Option A0} {ty:TypeId} (h:BoxOk β b mb ty w) (ha:Ag β.O w w') (hO:∀ k,k<w.heap.size→β'.O k→β.O k) (hf:β'.f b=β.f b) (hvb:β'.v b=β.v b) (hrb:β'.r b=β.r b) (hF:∀ k,β'.F b k↔β.F b k) (hm:∀ k,β.F b k→w'.heap[k]?=w.heap[k]?) (hv:∀ off c,mb off=some c→∀ r∈c.refs,β'.v r=β.v r):BoxOk β' b mb ty w':=by
  refine ⟨by rw [hvb];exact h.one,fun e off c hc=>?_,fun e=>?_,fun k a0 hk hne=>?_⟩
  · obtain ⟨h0,x,rfl,ho⟩:=h.obj e off c hc
    exact ⟨h0,x,rfl,by rw [hvb];exact D.own_mono (D.own_move ho hm) (fun k hk=>(hF k).2 hk)⟩
  · obtain ⟨h1,arr,h2,h3⟩:=h.cel e
    refine ⟨fun k=>by rw [hF k,hf];exact h1 k,arr,?_,fun off c hc=>?_⟩
    · rw [hf,hm _ ((h1 _).2 rfl)];exact h2
    · obtain ⟨x,hx,h5,h4⟩:=h3 off c hc
      exact ⟨x,hx,h5,A0.to h4 ha hO (hv off c hc)⟩
  · rw [hrb] at hk
    obtain ⟨h1,h2⟩:=h.rst k a0 hk hne
    obtain ⟨h3,_⟩:=h.cel hne
    exact ⟨fun arr ha' off ho=>h1 arr (by rw [hf,hm _ ((h3 _).2 rfl)] at ha';exact ha') off ho,h2⟩
theorem Sat.step (h:Sat W w0 n β s a w) (ha:Ag β.O w w') {T':Nat→Option TypeId} {m':Nat→Nat→Option A0}
    (hO:∀ k,k<w.heap.size→β'.O k→β.O k)
    (hsame:∀ b,s.T b≠none→β'.f b=β.f b∧β'.v b=β.v b∧β'.r b=β.r b)
    (hT:∀ b,s.T b≠none→T' b≠none)
    (hb:∀ b ty,T' b=some ty→(s.T b=some ty∧m' b=s.m b∧(∀ k,β'.F b k↔β.F b k)∧(∀ k,β.F b k→w'.heap[k]?=w.heap[k]?))∨BoxOk β' b (m' b) ty w')
    (hhas:∀ b off,m' b off≠none→T' b≠none)
    (hrefm:∀ b off c,m' b off=some c→∀ r∈c.refs,T' r≠none)
    (hdisj:∀ b b' k,T' b≠none→T' b'≠none→β'.F b k→β'.F b' k→b=b')
    (hown:∀ b k,T' b≠none→β'.F b k→β'.O k∧(w0.heap.size≤k∨W k))
    (hlt:∀ k,β'.O k→k<w'.heap.size)
    (hbelow:Ag W w0 w'):Sat W w0 n β' { g:=s.g,m:=m',T:=T' } a w':=by
  refine { tm:=fun t x hx=>TV.to ha hO (fun b hb=>⟨(hsame b (h.refs t x hx b hb)).1,(hsame b (h.refs t x hx b hb)).2.1⟩) (h.tm t x hx),box:=fun b ty hT'=>?_,has:=hhas,refs:=fun t x hx b hb=>hT b (h.refs t x hx b hb),refm:=hrefm,disj:=hdisj,own:=hown,lt:=hlt,below:=hbelow,defers:=h.defers,size:=h.size }
  rcases hb b ty hT' with ⟨h1,h2,h3,h4⟩|h1
  · have hne:s.T b≠none:=by rw [h1];simp
    show BoxOk β' b (m' b) ty w'
    rw [h2]
    exact (h.box b ty h1).to ha hO (hsame b hne).1 (hsame b hne).2.1 (hsame b hne).2.2 h3 h4 (fun off c hc r hr=>(hsame r (h.refm b off c hc r hr)).2.1)
  · exact h1
theorem Sat.grow (h:Sat W w0 n β s a w) (hb:Below w.heap.size w w'):Sat W w0 n β s a w':=by
  have ha:Ag β.O w w':=Ag.of_below hb
  refine h.step ha (fun k _ hk=>hk) (fun _ _=>⟨rfl,rfl,rfl⟩) (fun _ hb=>hb) (fun b ty hT => .inl ⟨hT,rfl,fun _=>Iff.rfl,fun k hk=>?_⟩) h.has h.refm h.disj h.own (fun k hk=>Nat.lt_of_lt_of_le (h.lt k hk) hb.size) (Ag.then h.below (Ag.of_below (O:=fun _=>False) hb) (fun _ _ h=>h.elim))
  exact hb.block k (h.lt k (h.own b k (by rw [hT];simp) hk).1)
end
end Go.Proofs.YtcgknibjbnijmaaW.Sy
end
section
set_option linter.unusedVariables false
set_option linter.unusedSimpArgs false
namespace Go.Proofs.YtcgknibjbnijmaaW.Sy
open Go RowKit YtcgknibjbnijmaaW.PrintWords YtcgknibjbnijmaaW.PrintMore YtcgknibjbnijmaaW.Aid YtcgknibjbnijmaaW.Big
structure TIn where
  agg:Bool
  size:Nat
  zero:Option (List A0):=none
  offs:List (Nat × TypeId):=[]
  int:Option IntKind:=none
  elt:Option (Option Nat × TypeId):=none
  bl:Bool:=false
  bytes:Nat:=0
  pt:Bool:=false
inductive RC where
  | t (c:A0)
  | o (x:D)
inductive CR where
  | tv (x:TV)
  | new (ty:TypeId) (n sz:Nat) (cs:List A0)
  | newp (ty:TypeId) (cs:List RC)
  | parts (tup:Bool) (l:List (Bool × List RC))
structure Cx where
  ti:TypeId→TIn
  K:FuncId→List TV→Option (Prop × CR)
  eqs:TypeId→List A0→List A0→Option Bool
  kn:FuncId→Nat
  KW:FuncId→List A0→List TV→Option (Prop × List (Option RC) × CR)
  KM:FuncId→D→List TV→Option (Prop × Option D × CR)
def TV.plain:TV→Bool
  | .sc c=>c.free
  | .agg cs=>cs.all A0.free
  | .tup l=>l.all fun p=>p.2.all A0.free
  | _=>false
def RC.free:RC→Bool
  | .t c=>c.free
  | .o _=>true
structure Eff where
  pre:Prop
  val:Option TV:=none
  rd:List (Nat × Nat):=[]
  wr:List (Nat × Nat × A0):=[]
  new:List (Nat × TypeId × List A0):=[]
  kill:List Nat:=[]
def RC.cell (i:Nat):RC→A0
  | .t c=>c
  | .o _ => .ref i
def cellsR:Nat→List RC→List A0
  | _,[]=>[]
  | i,x::r=>x.cell i::cellsR (i+1) r
def objsR:Nat→List RC→List (Nat × D)
  | _,[]=>[]
  | i,.t _::r=>objsR (i+1) r
  | i,.o x::r=>(i,x)::objsR (i+1) r
def cellsP:Nat→List (Bool × List RC)→List (Bool × List A0)
  | _,[]=>[]
  | i,(b,l)::r=>(b,cellsR i l)::cellsP (i+l.length) r
def objsP:Nat→List (Bool × List RC)→List (Nat × D)
  | _,[]=>[]
  | i,(_,l)::r=>objsR i l++objsP (i+l.length) r
def oid (d j:Nat):Nat:=100000*(d+1)+j
def obNew (l:List (Nat × D)):List (Nat × TypeId × List A0):=l.map fun p=>(p.1,obT,[.obs p.2])
def getv (g:Nat→Option TV):Operand→Option TV
  | .tmp t=>g t
  | .const v=>some (.sc (.v v))
  | .func f=>some (.clo f [])
  | .global _=>none
def force:Option TV→Option (Prop × TV)
  | some (.cond c (.cond _ _))=>none
  | some (.cond c y)=>some (c=true,y)
  | some y=>some (True,y)
  | none=>none
def forces:List (Option TV)→Option (Prop × List TV)
  | []=>some (True,[])
  | x::r =>
    match force x,forces r with
    | some (p,y),some (q,ys)=>some (p∧q,y::ys)
    | _,_=>none
def A0.val?:A0→Option Value
  | .v x=>some x
  | .neg x=>some (.bool (sgn x))
  | _=>none
def TV.val?:TV→Option Value
  | .sc c=>c.val?
  | _=>none
def TV.asSl:TV→Option (IntKind × List Int)
  | .sc (.sl k l)=>some (k,l)
  | .sc (.mag x)=>some (.u64,lm x)
  | _=>none
def TV.cells:TV→Option (List A0)
  | .sc (.v (.agg _))=>none
  | .sc (.v (.tuple _))=>none
  | .sc c=>some [c]
  | .agg cs=>some cs
  | _=>none
def allSome {α:Type}:List (Option α)→Option (List α)
  | []=>some []
  | none::_=>none
  | some x::r=>match allSome r with
    | some l=>some (x::l)
    | none=>none
def span (b off n:Nat):List (Nat × Nat):=(List.range' off n).map fun i=>(b,i)
def refP (c:A0):List (Nat × Nat):=c.refs.map fun b=>(b,0)
def toArg1:TV→List (Nat × Nat)
  | .sc c=>refP c
  | .agg cs=>cs.flatMap refP
  | .own b off n sz=>span b off (n*sz)
  | .oclo _ bs=>bs.flatMap fun b=>span b 0 12
  | _=>[]
def isApp:Callee→Bool
  | .builtin .append=>true
  | _=>false
def isLen:Callee→Bool
  | .builtin .len=>true
  | _=>false
def reqC (X:Cx) (y:TV) (ays:List TV):List (Nat × Nat) :=
  match y,ays with
  | .clo f _,.ptr b 0::rest=>span b 0 (X.kn f)++rest.flatMap toArg1
  | _,_=>ays.flatMap toArg1
def req (X:Cx) (o:Oper) (vs:List (Option TV)):List (Nat × Nat) :=
  match o.op,vs with
  | .load T _,[v]=>match force v with
    | some (_,.ptr b off)=>span b off (X.ti T).size
    | some (_,.oel b _)=>[(b,0)]
    | _=>[]
  | .store T _ _,[v,_]=>match force v with
    | some (_,.ptr b off)=>span b off (X.ti T).size
    | some (_,.oel b _)=>[(b,0)]
    | _=>[]
  | .indexAddr _ _ _,[v,_]=>match force v with
    | some (_,.sc c)=>refP c
    | _=>[]
  | .call c,vs=>match isApp c.callee||isLen c.callee with
    | true=>match forces vs with
      | some (_,ays)=>ays.flatMap toArg1
      | none=>[]
    | false=>match c.callee,forces vs with
      | .value _,some (_,y::ays)=>reqC X y ays
      | _,_=>[]
  | _,_=>[]
def cellRef:Option A0→List (Nat × Nat)
  | some c=>refP c
  | none=>[]
def req2 (X:Cx) (o:Oper) (vs:List (Option TV)) (cs:List (Option A0)):List (Nat × Nat) :=
  match o.op with
  | .call c=>match c.callee,forces vs with
    | .value _,some (_,.clo f _ :: .ptr _ 0::_)=>(cs.take (X.kn f)).flatMap cellRef
    | _,_=>[]
  | _=>[]
def someTake (l:List (Option A0)):List A0:=l.foldr (fun x r=>match x with|some y=>y::r|none=>[]) []
def chunks:Nat→List (Option A0)→List (List A0)
  | 0,_=>[]
  | n+1,l=>someTake (l.take 12)::chunks n (l.drop 12)
def A0.noRef:A0→Bool
  | .ref _=>false
  | .obs _=>false
  | _=>true
def lendA (c:A0) (cs:List (Option A0)):Option A0 :=
  match c with
  | .ref _=>match cs with
    | some (.obs x)::_=>some x.told
    | _=>none
  | .obs _=>none
  | c=>some c
def lendL:List A0→List (Option A0)→Option (List A0)
  | [],_=>some []
  | c::r,cs=>match lendA c cs,lendL r (cs.drop c.refs.length) with
    | some c',some r'=>some (c'::r')
    | _,_=>none
def toArgs:List TV→List (Option A0)→Option (List TV)
  | [],_=>some []
  | .sc c::r,cs=>match lendA c cs,toArgs r (cs.drop c.refs.length) with
    | some c',some ays=>some (.sc c'::ays)
    | _,_=>none
  | .agg l::r,cs=>match lendL l cs,toArgs r (cs.drop (l.flatMap refP).length) with
    | some l',some ays=>some (.agg l'::ays)
    | _,_=>none
  | .own b off n sz::r,cs=>match allSome (cs.take (n*sz)),toArgs r (cs.drop (n*sz)) with
    | some l,some ays=>if l.all A0.noRef=true∧0<sz then some (.row n l::ays) else none
    | _,_=>none
  | .oclo f bs::r,cs=>match toArgs r (cs.drop (bs.length*12)) with
    | some ays=>if (chunks bs.length cs).all (fun l=>l.all A0.noRef&&!l.isEmpty)=true then some (.clo f (chunks bs.length cs)::ays) else none
    | none=>none
  | .rowF n sz f::r,cs=>match toArgs r cs with
    | some ays=>some (.rowF n sz f::ays)
    | none=>none
  | .row n l::r,cs=>match toArgs r cs with
    | some ays=>some (.row n l::ays)
    | none=>none
  | .rptr l::r,cs=>match toArgs r cs with
    | some ays=>some (.rptr l::ays)
    | none=>none
  | .clo f l::r,cs=>match toArgs r cs with
    | some ays=>some (.clo f l::ays)
    | none=>none
  | _::_,_=>none
def intOp (op:BinOp) (k:IntKind) (a b:Int):Option (Prop × Value) :=
  match op with
  | .add=>some (True,.int k (k.wrap (a+b)))
  | .sub=>some (True,.int k (k.wrap (a-b)))
  | .mul=>some (True,.int k (k.wrap (a*b)))
  | .quo=>some (b≠0,.int k (k.wrap (a.tdiv b)))
  | .rem=>some (b≠0,.int k (a.tmod b))
  | .or=>some (True,.int k (Go.bits .or k a b))
  | .and=>some (True,.int k (Go.bits .and k a b))
  | .xor=>some (True,.int k (Go.bits .xor k a b))
  | .andNot=>some (True,.int k (Go.bits .andNot k a b))
  | .eql=>some (True,.bool (a == b))
  | .neq=>some (True,.bool (a != b))
  | .lss=>some (True,.bool (decide (a<b)))
  | .leq=>some (True,.bool (decide (a≤b)))
  | .gtr=>some (True,.bool (decide (a>b)))
  | .geq=>some (True,.bool (decide (a≥b)))
  | _=>none
def shOp (op:BinOp) (k:IntKind) (a b:Int):Option (Prop × Value) :=
  match op with
  | .shl=>some (0≤b,.int k (k.wrap (a*2 ^ min b.toNat k.bits)))
  | .shr=>some (0≤b,.int k (a.fdiv (2 ^ min b.toNat k.bits)))
  | _=>none
def isSh:BinOp→Bool
  | .shl=>true | .shr=>true|_=>false
def ofPart:Bool × List A0→Option TV
  | (true,cs)=>some (.agg cs)
  | (false,[c])=>some (.sc c)
  | _=>none
def putAll0 (cs:List A0) (off:Nat):List A0→List A0
  | []=>cs
  | y::r=>putAll0 (cs.set off y) (off+1) r
def fillAll (place:Nat→Option (Nat × Nat)) (cs:List A0):List (Nat × TV)→Option (List A0)
  | []=>some cs
  | (i,y)::r =>
    match place i,y.cells with
    | some (off,size),some ys=>if ys.length=size∧off+ys.length≤cs.length then fillAll place (putAll0 cs off ys) r else none
    | _,_=>none
def pk:Option TV→Option (Option Bool × Bool)
  | some (.cond c y)=>match y.val? with
    | some (.bool x)=>some (some c,x)
    | _=>none
  | some y=>match y.val? with
    | some (.bool x)=>some (none,x)
    | _=>none
  | none=>none
def condOk:Option Bool→Prop
  | none=>True
  | some b=>b=true
def numsOf (k:IntKind):List A0→Option (List Int)
  | []=>some []
  | .v (.int k' x)::r=>match decide (k'=k),numsOf k r with
    | true,some l=>some (x::l)
    | _,_=>none
  | _::_=>none
def chunk (sz:Nat):Nat→List Int→List (List Int)
  | 0,_=>[]
  | m+1,l=>l.take sz::chunk sz m (l.drop sz)
def appY (k:IntKind):TV→List (Option A0)→Option (List Int)
  | .own _ _ n sz,cs=>match allSome cs with
    | some l=>match numsOf k l with
      | some xs=>if sz=1∧xs.length=n then some xs else none
      | none=>none
    | none=>none
  | .sc (.sl k' l),_=>if k'=k then some l else none
  | .sc (.ref _),some (.obs (.ints k' _ l))::_=>if k'=k then some l else none
  | .sc (.v (.slice none 0 0)),_=>some []
  | _,_=>none
def appF (sz:Nat):TV→List (Option A0)→Option (List (List Int))
  | .own _ _ n sz',cs=>match allSome cs with
    | some l=>match numsOf .i64 l with
      | some xs=>if sz'=sz∧xs.length=n*sz then some (chunk sz n xs) else none
      | none=>none
    | none=>none
  | .sc (.op (.flat _ sz' l)),_=>if sz'=sz then some l else none
  | .sc (.ref _),some (.obs (.flat _ sz' l))::_=>if sz'=sz then some l else none
  | .sc (.v (.slice none 0 0)),_=>some []
  | _,_=>none
def TV.ref?:TV→Option Nat
  | .sc (.ref b)=>some b
  | _=>none
def finApp (X:Cx) (tys:List TypeId) (dst:Option Tmp) (vs:List (Option TV)) (cs:List (Option A0)):Option Eff :=
  match forces vs,tys,dst with
  | some (p,[x,y]),[T,T'],some d=>match (X.ti T).elt with
    | some (none,e)=>if T'=T∧x.ref?≠y.ref?∨T'=T∧x.ref?=none then match x,cs with
      | .sc (.ref b),some (.obs (.ints k e' l))::r=>match appY k y r with
        | some xs=>if e'=e∧(X.ti e).size=1∧0<(X.ti e).bytes∧(X.ti e).zero.map List.length=some (X.ti e).size then some { pre:=p∧(l.length+xs.length)*(X.ti e).bytes≤140737488355328,val:=some (.sc (.ref d)),new:=[(d,obT,[.obs (.ints k e (l++xs))])],kill:=[b] } else none
        | none=>none
      | .sc (.ref b),some (.obs (.flat e' sz l))::r=>match appF sz y r with
        | some xs=>if e'=e∧(X.ti e).size=sz∧0<sz∧0<(X.ti e).bytes∧(X.ti e).zero.map List.length=some (X.ti e).size then some { pre:=p∧(l.length+xs.length)*(X.ti e).bytes≤140737488355328,val:=some (.sc (.ref d)),new:=[(d,obT,[.obs (.flat e sz (l++xs))])],kill:=[b] } else none
        | none=>none
      | .sc (.v (.slice none 0 0)),cs=>match (X.ti e).int with
        | some k=>match appY k y cs with
          | some xs=>if (X.ti e).size=1∧0<(X.ti e).bytes∧(X.ti e).zero.map List.length=some (X.ti e).size then some { pre:=p∧xs.length*(X.ti e).bytes≤140737488355328,val:=some (.sc (.ref d)),new:=[(d,obT,[.obs (.ints k e xs)])] } else none
          | none=>none
        | none=>match appF (X.ti e).size y cs with
          | some xs=>if 0<(X.ti e).size∧0<(X.ti e).bytes∧(X.ti e).zero.map List.length=some (X.ti e).size then some { pre:=p∧xs.length*(X.ti e).bytes≤140737488355328,val:=some (.sc (.ref d)),new:=[(d,obT,[.obs (.flat e (X.ti e).size xs)])] } else none
          | none=>none
      | _,_=>none
      else none
    | _=>none
  | _,_,_=>none
def effCR (dst:Option Tmp) (r:CR):Option (Option TV × List (Nat × TypeId × List A0)) :=
  match r,dst with
  | .tv x,_=>if x.plain=true then some (some x,[]) else none
  | .new ty n sz l,some d=>if l.all A0.free=true∧ty≠obT then some (some (.own d 0 n sz),[(d,ty,l)]) else none
  | .newp ty l,some d=>if l.all RC.free=true∧ty≠obT then some (some (.ptr d 0),(d,ty,cellsR (oid d 1) l)::obNew (objsR (oid d 1) l)) else none
  | .parts true l,some d=>if (l.all fun p=>p.2.all RC.free)=true then some (some (.tup (cellsP (oid d 0) l)),obNew (objsP (oid d 0) l)) else none
  | .parts false [(true,l)],some d=>if l.all RC.free=true then some (some (.agg (cellsR (oid d 0) l)),obNew (objsR (oid d 0) l)) else none
  | .parts false [(false,[.o x])],some d=>some (some (.sc (.ref (oid d 0))),[(oid d 0,obT,[.obs x])])
  | _,_=>none
def wrsB (b o:Nat):Nat→List (Option RC)→List (Nat × Nat × A0)
  | _,[]=>[]
  | i,none::r=>wrsB b o (i+1) r
  | i,some x::r=>(b,i,x.cell (o+i))::wrsB b o (i+1) r
def objsB:Nat→List (Option RC)→List (Nat × D)
  | _,[]=>[]
  | i,some (.o x)::r=>(i,x)::objsB (i+1) r
  | i,_::r=>objsB (i+1) r
def CR.simple:CR→Bool
  | .tv _=>true
  | .parts _ _=>true
  | _=>false
def optFree:Option RC→Bool
  | none=>true
  | some x=>x.free
def finW (X : Cx) (dst : Option Tmp) (p : Prop) (f : FuncId) (caps : List (List A0)) (ays : List TV) (cs cs2 : List (Option A0)) : Option Eff :=
  match caps,ays with
  | [], .ptr b 0 :: rest => match allSome (cs.take (X.kn f)), toArgs rest (cs.drop (X.kn f)) with
    | some l,some rest'=>match lendL l cs2,decide (l.all A0.noObs=true∧0<X.kn f∧(l.flatMap A0.refs).contains b=false∧(rest.flatMap TV.refs).contains b=false) with
      | some l',true=>match X.K f (.rptr l'::rest') with
        | some (q,r)=>match effCR dst r with
          | some (v,nw)=>some { pre:=p∧q,val:=v,new:=nw }
          | none=>none
        | none=>match X.KW f l' rest',dst with
          | some (q,new,r),some d=>match effCR dst r with
            | some (v,nw)=>if new.length=X.kn f∧new.all optFree=true∧r.simple=true then some { pre:=p∧q,val:=v,wr:=wrsB b (oid d 50000) 0 new,new:=nw++obNew (objsB (oid d 50000) new) } else none
            | none=>none
          | _,_=>none
      | _,_=>none
    | _,_=>none
  | [], .sc (.ref b) :: rest => match cs with
    | some (.obs x)::cs'=>match toArgs rest cs' with
      | some rest'=>match X.KM f x rest',(rest.flatMap TV.refs).contains b with
        | some (q,new,r),false=>match effCR dst r with
          | some (v,nw)=>if r.simple=true then match new with
            | some x'=>some { pre:=p∧q,val:=v,wr:=[(b,0,.obs x')],new:=nw }
            | none=>some { pre:=p∧q,val:=v,new:=nw,kill:=[b] }
            else none
          | none=>none
        | _,_=>none
      | none=>none
    | _=>none
  | _,_=>none
def finCut (X:Cx) (T:TypeId) (lo hi mx:Option Operand) (vs:List (Option TV)):Option Eff :=
  match mx,forces vs,(X.ti T).elt with
  | none,some (p,x::r),some (none,e)=>match x.asSl with
    | none=>match lo,hi,x,r with
      | some _,none,.sc (.op (.flat e' sz l)),[.sc (.v (.int _ i))]=>if (X.ti e).size=sz∧0<sz then some { pre:=p∧0≤i∧i≤(l.length:Int),val:=some (.sc (.op (.flat e' sz (l.drop i.toNat)))) } else none
      | _,_,_,_=>none
    | some (k,l)=>if (X.ti e).size=1 then
      match lo,hi,r with
      | some _,some _,[.sc (.v (.int _ i)),.sc (.v (.int _ j))]=>some { pre:=p∧0≤i∧i≤j∧j≤(l.length:Int),val:=some (.sc (.sl k ((l.take j.toNat).drop i.toNat))) }
      | some _,none,[.sc (.v (.int _ i))]=>some { pre:=p∧0≤i∧i≤(l.length:Int),val:=some (.sc (.sl k (l.drop i.toNat))) }
      | none,some _,[.sc (.v (.int _ j))]=>some { pre:=p∧0≤j∧j≤(l.length:Int),val:=some (.sc (.sl k (l.take j.toNat))) }
      | _,_,_=>none
    else none
  | _,_,_=>none
def D.rowC:D→Nat→List A0
  | .ints _ _ _,_=>[]
  | .flat _ sz l,i=>(List.range sz).map fun j => .v (.int .i64 ((l.getD i []).getD j 0))
  | .frs _ _ l,i=>let f:=l.getD i (0,0,[]);[.v (.int .i64 f.1),.v (.int .i64 f.2.1),.sl .u8 f.2.2]
def D.rowN:D→Nat
  | .ints _ _ _=>0
  | .flat _ sz _=>sz
  | .frs _ _ _=>3
def fin (X:Cx) (o:Oper) (vs:List (Option TV)) (cs cs2:List (Option A0)):Option Eff :=
  match o.op,vs with
  | .move _,[v]=>match force v with
    | some (p,y)=>some { pre:=p,val:=some y }
    | none=>none
  | .assign _,[v]=>match force v with
    | some (p,y)=>some { pre:=p,val:=some y }
    | none=>none
  | .alloc T,[]=>match (X.ti T).zero,o.dst with
    | some zs,some d=>if T≠obT then some { pre:=True,val:=some (.ptr d 0),new:=[(d,T,zs)] } else none
    | _,_=>none
  | .box T _,[v]=>match force v,o.dst with
    | some (p,y),some d=>match y.cells with
      | some ys=>if ys.all okA=true∧T≠obT then some { pre:=p,val:=some (.ptr d 0),new:=[(d,T,ys)] } else none
      | none=>none
    | _,_=>none
  | .load T _,[v]=>match force v with
    | some (p,.ptr b off)=>match allSome cs,(X.ti T).agg with
      | some (c::l),true=>if (c::l).all A0.noObs=true then some { pre:=p,val:=some (.agg (c::l)),rd:=span b off (X.ti T).size } else none
      | some [c],false=>if c.noObs=true then some { pre:=p,val:=some (.sc c),rd:=span b off (X.ti T).size } else none
      | _,_=>none
    | some (p,.rptr l)=>match (X.ti T).agg with
      | true=>if (l.take (X.ti T).size).length=(X.ti T).size∧0<(X.ti T).size then some { pre:=p,val:=some (.agg (l.take (X.ti T).size)) } else none
      | false=>match l,(X.ti T).size with
        | c::_,1=>some { pre:=p,val:=some (.sc c) }
        | _,_=>none
    | some (p,.elem k l i)=>match (X.ti T).agg,(X.ti T).size with
      | false,1=>some { pre:=p,val:=some (.sc (.v (.int k (rd l i)))) }
      | _,_=>none
    | some (p,.oel b i)=>match cs,(X.ti T).agg,(X.ti T).size with
      | [some (.obs (.ints k e l))],false,1=>some { pre:=p∧0≤i∧i<(l.length:Int),val:=some (.sc (.v (.int k (rd l i)))) }
      | _,_,_=>none
    | _=>none
  | .store T _ _,[v,u]=>match force v,force u with
    | some (p,.ptr b off),some (q,y)=>match y.cells,allSome cs with
      | some ys,some l=>if ys.length=(X.ti T).size∧ys.all okA=true∧0<(X.ti T).size∧l.all A0.noObs=true then some { pre:=p∧q,rd:=span b off (X.ti T).size,wr:=(span b off (X.ti T).size).zipWith (fun p y=>(p.1,p.2,y)) ys } else none
      | _,_=>none
    | some (p,.oel b i),some (q,.sc (.v (.int k' x)))=>match cs,(X.ti T).agg,(X.ti T).size with
      | [some (.obs (.ints k e l))],false,1=>if k'=k then some { pre:=p∧q∧0≤i∧i<(l.length:Int),wr:=[(b,0,.obs (.ints k e (l.set i.toNat x)))] } else none
      | _,_,_=>none
    | _,_=>none
  | .fieldAddr T _ j,[v]=>match force v,(X.ti T).offs[j]? with
    | some (p,.ptr b off),some (d,_)=>some { pre:=p,val:=some (.ptr b (off+d)) }
    | some (p,.rptr l),some (d,_)=>some { pre:=p,val:=some (.rptr (l.drop d)) }
    | _,_=>none
  | .field T _ j,[v]=>match force v,(X.ti T).offs[j]? with
    | some (p,.agg l),some (d,ft)=>match (X.ti ft).agg,l[d]? with
      | true,_=>if 0<(X.ti ft).size then some { pre:=p,val:=some (.agg ((l.drop d).take (X.ti ft).size)) } else none
      | false,some c=>if (X.ti ft).size=1 then some { pre:=p,val:=some (.sc c) } else none
      | false,none=>none
    | _,_=>none
  | .indexAddr T _ _,[v,u]=>match force v,force u,(X.ti T).elt with
    | some (p,x),some (q,.sc (.v (.int ki i))),some (none,e)=>match x.asSl,x with
      | some (k,l),_=>if (X.ti e).size=1 then some { pre:=p∧q∧0≤i∧i<(l.length:Int),val:=some (.elem k l i) } else none
      | none,.sc (.op y)=>if (X.ti e).size=y.rowN∧0<y.rowN then some { pre:=p∧q∧0≤i∧i<(y.len:Int),val:=some (.rptr (y.rowC i.toNat)) } else none
      | none,.sc (.ref b)=>match cs with
        | [some (.obs (.ints k e' l))]=>if (X.ti e).size=1 then some { pre:=p∧q∧0≤i∧i<(l.length:Int),val:=some (.oel b i) } else none
        | _=>none
      | none,.own b off n sz=>if (X.ti e).size=sz∧0<sz then some { pre:=p∧q∧0≤i∧i<(n:Int),val:=some (.ptr b (off+i.toNat*sz)) } else none
      | none,.row n l=>if 0<(X.ti e).size then some { pre:=p∧q∧0≤i∧i<(n:Int),val:=some (.rptr (l.drop (i.toNat*(X.ti e).size))) } else none
      | none,.rowF n sz f=>if (X.ti e).size=sz∧0<sz then some { pre:=p∧q∧0≤i∧i<(n:Int),val:=some (.rptr (f i.toNat)) } else none
      | _,_=>none
    | some (p,.ptr b off),some (q,.sc (.v (.int ki i))),some (some len,e)=>if 0<(X.ti e).size then some { pre:=p∧q∧0≤i∧i<(len:Int),val:=some (.ptr b (off+i.toNat*(X.ti e).size)) } else none
    | some (p,.rptr l),some (q,.sc (.v (.int ki i))),some (some len,e)=>if 0<(X.ti e).size then some { pre:=p∧q∧0≤i∧i<(len:Int),val:=some (.rptr (l.drop (i.toNat*(X.ti e).size))) } else none
    | _,_,_=>none
  | .binOp op T _ _ _,[v,u]=>match force v,force u with
    | some (p,x),some (q,y)=>match x.val?,y.val? with
      | some (.int k a),some (.int k' b)=>match isSh op,decide (k=k') with
        | true,_=>match shOp op k a b with
          | some (r,z)=>some { pre:=p∧q∧r,val:=some (.sc (.v z)) }
          | none=>none
        | false,true=>match intOp op k a b with
          | some (r,z)=>some { pre:=p∧q∧r,val:=some (.sc (.v z)) }
          | none=>none
        | false,false=>none
      | some (.bool a),some (.bool b)=>match op,(X.ti T).bl with
        | .eql,true=>some { pre:=p∧q,val:=some (.sc (.v (.bool (a == b)))) }
        | .neq,true=>some { pre:=p∧q,val:=some (.sc (.v (.bool (!(a == b))))) }
        | _,_=>none
      | _,some (.pointer none)=>match op,(X.ti T).pt,x with
        | .eql,true,.ptr _ _=>some { pre:=p∧q,val:=some (.sc (.v (.bool false))) }
        | .neq,true,.ptr _ _=>some { pre:=p∧q,val:=some (.sc (.v (.bool true))) }
        | _,_,_=>none
      | _,_=>match x,y with
        | .agg xs,.agg ys=>match op,X.eqs T xs ys with
          | .eql,some z=>some { pre:=p∧q,val:=some (.sc (.v (.bool z))) }
          | .neq,some z=>some { pre:=p∧q,val:=some (.sc (.v (.bool (!z)))) }
          | _,_=>none
        | _,_=>none
    | _,_=>none
  | .unOp op _ _,[v]=>match force v with
    | some (p,x)=>match op,x.val? with
      | .not,some (.bool b)=>some { pre:=p,val:=some (.sc (.v (.bool (!b)))) }
      | .neg,some (.int k n)=>some { pre:=p,val:=some (.sc (.v (.int k (k.wrap (0-n))))) }
      | _,_=>none
    | _=>none
  | .nilCheck _,[v]=>match force v with
    | some (p,.ptr b off)=>some { pre:=p,val:=some (.ptr b off) }
    | _=>none
  | .convert src dst _,[v]=>match force v with
    | some (p,x)=>match x.val?,(X.ti dst).int with
      | some (.int _ n),some k=>some { pre:=p,val:=some (.sc (.v (.int k (k.wrap n)))) }
      | _,_=>none
    | _=>none
  | .extract _ i,[v]=>match force v with
    | some (p,.tup l)=>match l[i]? with
      | some c=>match ofPart c with
        | some y=>some { pre:=p,val:=some y }
        | none=>none
      | none=>none
    | _=>none
  | .pick _ _ _,[v,a,b]=>match force v,pk a,pk b with
    | some (p,x),some (ca,xa),some (cb,xb)=>match x.val? with
      | some (.bool c)=>some { pre:=p∧(c=true→condOk ca)∧(c=false→condOk cb),val:=some (.sc (.v (.bool (bif c then xa else xb)))) }
      | _=>none
    | _,_,_=>none
  | .build T parts,vs=>match forces vs,(X.ti T).zero,(X.ti T).agg,(X.ti T).elt with
    | some (p,ys),some zs,true,none=>match fillAll (fun i=>((X.ti T).offs[i]?).map fun q=>(q.1,(X.ti q.2).size)) zs (List.zip (parts.toList.map (·.1)) ys) with
      | some l=>some { pre:=p,val:=some (.agg l) }
      | none=>none
    | some (p,ys),some zs,true,some (some _,e)=>match decide (0<(X.ti e).size),fillAll (fun i=>some (i*(X.ti e).size,(X.ti e).size)) zs (List.zip (parts.toList.map (·.1)) ys) with
      | true,some l=>some { pre:=p,val:=some (.agg l) }
      | _,_=>none
    | _,_,_,_=>none
  | .buildSlice T n parts,vs=>match forces vs,(X.ti T).elt,o.dst with
    | some (p,ys),some (none,e),some d=>match (X.ti e).zero with
      | some zs=>match fillAll (fun i=>some (i*(X.ti e).size,(X.ti e).size)) ((List.replicate n zs).flatten) (List.zip (parts.toList.map (·.1)) ys) with
        | some l=>if l.all okA=true∧0<(X.ti e).size∧zs.length=(X.ti e).size∧n*(X.ti e).size≤1000∧0<n∧e≠obT then some { pre:=p,val:=some (.own d 0 n (X.ti e).size),new:=[(d,e,l)] } else none
        | none=>none
      | none=>none
    | _,_,_=>none
  | .makeFunc fn first _,vs=>match fn,first.toList,forces vs with
    | .func f,[],some (p,ys)=>match allSome (ys.map fun y=>match y with | .ptr b 0=>some b|_=>none) with
      | some bs=>some { pre:=p,val:=some (.oclo f bs) }
      | none=>none
    | _,_,_=>none
  | .call c,vs=>match isApp c.callee with
    | true=>finApp X c.argTypes.toList o.dst vs cs
    | false => match c.callee, forces vs with
      | .value _,some (p,.clo f caps::ays)=>match toArgs ays cs with
        | some ays'=>match X.K f (ays'++caps.map TV.rptr) with
          | some (q,r)=>match effCR o.dst r with
            | some (v,nw)=>some { pre:=p∧q,val:=v,new:=nw }
            | none=>none
          | none=>finW X o.dst p f caps ays cs cs2
        | none=>finW X o.dst p f caps ays cs cs2
      | .builtin .len,some (p,[x])=>match c.argTypes.toList with
        | [T]=>match (X.ti T).elt,x.asSl,x with
          | some (none,_),some (_,l),_=>some { pre:=p,val:=some (.sc (.v (.int .i64 l.length))) }
          | some (none,_),none,.own b off n sz=>some { pre:=p,val:=some (.sc (.v (.int .i64 n))) }
          | some (none,_),none,.sc (.ls n)=>some { pre:=p,val:=some (.sc (.v (.int .i64 n))) }
          | some (none,_),none,.sc (.v (.slice A n c))=>some { pre:=p,val:=some (.sc (.v (.int .i64 n))) }
          | some (none,_),none,.sc (.op y)=>some { pre:=p,val:=some (.sc (.v (.int .i64 y.len))) }
          | some (none,_),none,.sc (.ref b)=>match cs with
            | [some (.obs y)]=>some { pre:=p,val:=some (.sc (.v (.int .i64 y.len))) }
            | _=>none
          | some (none,_),none,.row n l=>some { pre:=p,val:=some (.sc (.v (.int .i64 n))) }
          | some (none,_),none,.rowF n sz f=>some { pre:=p,val:=some (.sc (.v (.int .i64 n))) }
          | _,_,_=>none
        | _=>none
      | .builtin .min,some (p,[x,y])=>match x.val?,y.val? with
        | some (.int k a),some (.int _ b)=>some { pre:=p,val:=some (.sc (.v (.int k (if b<a then b else a)))) }
        | _,_=>none
      | .builtin .max,some (p,[x,y])=>match x.val?,y.val? with
        | some (.int k a),some (.int _ b)=>some { pre:=p,val:=some (.sc (.v (.int k (if b>a then b else a)))) }
        | _,_=>none
      | _,_=>none
  | .slice T _ lo hi mx,vs=>match finCut X T lo hi mx vs with
    | some e=>some e
    | none=>match lo,hi,mx,forces vs,(X.ti T).elt with
      | some _,some _,none,some (p,[.ptr b off,.sc (.v (.int _ i)),.sc (.v (.int _ j))]),some (some len,e)=>if 0<(X.ti e).size then some { pre:=p∧0≤i∧i≤j∧j≤(len:Int)∧i<(len:Int),val:=some (.own b (off+i.toNat*(X.ti e).size) (j.toNat-i.toNat) (X.ti e).size) } else none
      | none,none,none,some (p,[.ptr b off]),some (some len,e)=>if 0<(X.ti e).size∧0<len then some { pre:=p,val:=some (.own b off len (X.ti e).size) } else none
      | _,_,_,_,_=>none
  | _,_=>none
def absOp (X:Cx) (s:St) (o:Oper):Option Eff :=
  fin X o (o.op.operands.toList.map (getv s.g)) ((req X o (o.op.operands.toList.map (getv s.g))).map fun p=>s.m p.1 p.2) ((req2 X o (o.op.operands.toList.map (getv s.g)) ((req X o (o.op.operands.toList.map (getv s.g))).map fun p=>s.m p.1 p.2)).map fun p=>s.m p.1 p.2)
structure TOk (P:Program) (T:TypeId) (i:TIn):Prop where
  size:i.size≠0→∃ inf,P.info? T=some inf∧inf.size=i.size
  agg:i.size≠0→(isAgg T).run P=fun w => .ok i.agg w
  zero:∀ zs,i.zero=some zs→∃ inf z us,P.info? T=some inf∧inf.zero=some z∧z.cells=(us:List Value).toArray∧(∀ β w,All2 (A0.reads β w) zs us)∧(∀ u∈us,u.oneCell'=true)∧zs.all A0.free=true
  offs:∀ (j d:Nat) (ft:TypeId),i.offs[j]?=some (d,ft)→∃ (fs:Array Field) (f:Field) (inf:TypeInfo),P.underlying T=some (.struct fs)∧fs[j]?=some f∧f.offset=d∧f.type=ft∧P.info? ft=some inf∧inf.size≠0
  int:∀ k,i.int=some k→P.underlying T=some (.int k)
  slc:∀ e,i.elt=some (none,e)→P.underlying T=some (.slice e)
  arr:∀ m e,i.elt=some (some m,e)→P.underlying T=some (.array m e)
  bl:i.bl=true→P.underlying T=some .bool
  bts:i.size≠0→∀ inf,P.info? T=some inf→inf.bytes=i.bytes
  pt:i.pt=true→P.underlying T=some (.pointer (P.pointee T))
structure News (w w':World) (v:Nat→Value) (F:Nat→Nat→Prop) (os:List (Nat × D)):Prop where
  own:∀ p∈os,p.2.own (F p.1) w' (v p.1)
  new:∀ p∈os,∀ k,F p.1 k→w.heap.size≤k∧k<w'.heap.size
  disj:∀ p∈os,∀ q∈os,∀ k,F p.1 k→F q.1 k→p.1=q.1
abbrev plV (v:Nat→Value):Pl:=⟨fun _=>0,v,fun _ _=>False,fun _=>False,fun _=>none⟩
def CR.objs:CR→List (Nat × D)
  | .newp _ cs=>objsR 1 cs
  | .parts _ l=>objsP 0 l
  | _=>[]
def CR.val (w w':World) (v:Nat→Value) (F:Nat→Nat→Prop):CR→Value→Prop
  | .tv x,u=>x.reads pl0 w' u
  | .new ty n sz cs,u=>∃ g cap arr,u = .slice (some ⟨g,0,none⟩) n cap∧n≤cap∧w.heap.size≤g∧w'.heap[g]?=some (.cells arr ty (0,0))∧∀ (off:Nat) (c:A0),cs[off]?=some c→∃ x,arr[off]?=some x∧x.oneCell'=true∧c.reads pl0 w' x
  | .newp ty cs,u=>∃ g arr,u = .pointer (some ⟨g,0,none⟩)∧w.heap.size≤g∧w'.heap[g]?=some (.cells arr ty (0,0))∧(∀ p∈objsR 1 cs,¬ F p.1 g)∧∀ (off:Nat) (c:A0),(cellsR 1 cs)[off]?=some c→∃ x,arr[off]?=some x∧x.oneCell'=true∧c.reads (plV v) w' x
  | .parts true l,u=>(TV.tup (cellsP 0 l)).reads (plV v) w' u
  | .parts false [p],u=>part0 (plV v) w' (p.1,cellsR 0 p.2) u
  | .parts false _,_=>False
def CR.told (w w':World) (r:CR) (u:Value):Prop:=∃ v F,News w w' v F r.objs∧r.val w w' v F u
def RetW (P:Program) (f:FuncId) (g:Nat) (arr:Array Value) (ty:TypeId) (us:List Value) (w:World) (new:List (Option RC)) (r:CR):Prop :=
  Calls P f (Value.pointer (some ⟨g,0,none⟩)::us).toArray w fun e w'=>∃ u,e = .returned u∧Ag (fun k=>k=g) w w'∧∃ v F,News w w' v F (r.objs++objsB 50000 new)∧r.val w w' v F u∧∃ arr',w'.heap[g]?=some (.cells arr' ty (0,0))∧(∀ (i:Nat) (x:RC),new[i]?=some (some x)→∃ y:Value,arr'[i]?=some y∧y.oneCell'=true∧(x.cell (50000+i)).reads (plV v) w' y)∧∀ i:Nat,(new[i]?=none∨new[i]?=some none)→arr'[i]?=arr[i]?
def RetM (P:Program) (f:FuncId) (u:Value) (us:List Value) (w:World) (F:Nat→Prop) (new:Option D) (r:CR):Prop :=
  Calls P f (u::us).toArray w fun e w'=>∃ u',e = .returned u'∧Ag F w w'∧∃ F' v G,(∀ k,F' k→(F k∨w.heap.size≤k)∧k<w'.heap.size)∧(∀ x,new=some x→x.own F' w' u)∧News w w' v G r.objs∧(∀ p∈r.objs,∀ k,G p.1 k→¬ F' k)∧r.val w w' v G u'
def FOk (P : Program) (f : FuncId) : Prop := ∃ fn, P.funcs[f]? = some fn ∧ (fn.name == "runtime.NumGoroutine") = false ∧ fn.body.isNone = false
structure CxOk (P:Program) (X:Cx):Prop where
  ty:∀ T,TOk P T (X.ti T)
  call:∀ f args p r,X.K f args=some (p,r)→p→FOk P f ∧
    ∀ (us:List Value) w,All2 (TV.reads pl0 w) args us→Calls P f us.toArray w fun e w'=>∃ u,e = .returned u∧r.told w w' u∧Below w.heap.size w w'
  eqs:∀ T xs ys z,X.eqs T xs ys=some z→∀ β us vs w x y,All2 (A0.reads β w) xs us→All2 (A0.reads β w) ys vs →
    (eqGuard .eql T x y (.agg us.toArray) (.agg vs.toArray)).run P w = .ok () w∧(eqGuard .neq T x y (.agg us.toArray) (.agg vs.toArray)).run P w = .ok () w∧(Op.equal T (.agg us.toArray) (.agg vs.toArray)).run P w = .ok z w
  callW:∀ f cs args p new r,X.KW f cs args=some (p,new,r)→p→FOk P f ∧
    ∀ (us:List Value) (w:World) (g:Nat) (arr:Array Value) (ty:TypeId),w.heap[g]?=some (.cells arr ty (0,0))→ty≠obT→(∀ (i:Nat) (c:A0),cs[i]?=some c→∃ x,arr[i]?=some x∧x.oneCell'=true∧c.reads (plO (fun k=>k=g)) w x)→All2 (TV.reads (plO (fun k=>k=g)) w) args us→RetW P f g arr ty us w new r
  callM:∀ f x args p new r,X.KM f x args=some (p,new,r)→p→FOk P f ∧
    ∀ (us:List Value) (w:World) (u:Value) (F:Nat→Prop),x.own F w u→(∀ k,F k→k<w.heap.size)→All2 (TV.reads (plO F) w) args us→RetM P f u us w F new r
def St.wrs (m:Nat→Nat→Option A0):List (Nat × Nat × A0)→Nat→Nat→Option A0
  | []=>m
  | (b,off,c)::r=>St.wrs (upd2 m b off (some c)) r
def TV.has (ks:List Nat) (x:TV):Bool:=x.refs.any fun b=>ks.contains b
def A0.has (ks:List Nat) (c:A0):Bool:=c.refs.any fun b=>ks.contains b
def St.drop (s:St) (ks:List Nat):St :=
  { g := fun t => match s.g t with
      | some x=>if x.has ks then none else some x
      | none=>none
    m := fun b off => if ks.contains b then none else match s.m b off with
      | some c=>if c.has ks then none else some c
      | none=>none
    T:=fun b=>if ks.contains b then none else s.T b }
def St.after (s:St) (e:Eff):St :=
  match e.kill with
  | []=>s
  | ks=>s.drop ks
def lookN:List (Nat × TypeId × List A0)→Nat→Option (TypeId × List A0)
  | [],_=>none
  | (i,q)::r,b=>if b=i then some q else lookN r b
def St.app0 (s:St) (dst:Option Tmp) (e:Eff):St :=
  { g := match dst with
      | some d=>upd s.g d e.val
      | none=>s.g
    m := fun b off => match lookN e.new b with
      | some q=>q.2[off]?
      | none=>St.wrs s.m e.wr b off
    T := fun b => match lookN e.new b with
      | some q=>some q.1
      | none=>s.T b }
def St.app (s:St) (dst:Option Tmp) (e:Eff):St:=(s.after e).app0 dst e
theorem after_none {s:St} {e:Eff} (h:e.kill=[]):s.after e=s:=by unfold St.after;rw [h]
theorem app_none {s:St} {dst:Option Tmp} {e:Eff} (h:e.kill=[]):s.app dst e=s.app0 dst e:=by unfold St.app;rw [after_none h]
def newOk (s:St) (e:Eff):Prop:=∀ p∈e.new,(s.after e).T p.1=none
end Go.Proofs.YtcgknibjbnijmaaW.Sy
end
section
set_option linter.unusedVariables false
set_option linter.unusedSimpArgs false
namespace Go.Proofs.YtcgknibjbnijmaaW.Sy
open Go RowKit YtcgknibjbnijmaaW.PrintWords YtcgknibjbnijmaaW.PrintMore YtcgknibjbnijmaaW.Aid YtcgknibjbnijmaaW.Big
theorem All2.length {α β:Type} {R:α→β→Prop}:∀ {l:List α} {l':List β},All2 R l l'→l.length=l'.length
  | [],_,h=>by cases h;rfl
  | _::_,_,h=>by cases h with|cons _ h=>simp [All2.length h]
theorem All2.get {α β:Type} {R:α→β→Prop}:∀ {l:List α} {l':List β},All2 R l l'→∀ (i:Nat) (x:α),l[i]?=some x→∃ y,l'[i]?=some y∧R x y
  | [],_,h,i,x,hi=>by simp at hi
  | c :: l, _, h, i, x, hi => by
    cases h with
    | cons h1 h2 =>
      cases i with
      | zero=>simp at hi;subst hi;exact ⟨_,rfl,h1⟩
      | succ i=>simp at hi;obtain ⟨y,hy,hr⟩:=All2.get h2 i x hi;exact ⟨y,by simpa using hy,hr⟩
theorem All2.of_get {α β:Type} {R:α→β→Prop}:∀ {l:List α} {l':List β},l.length=l'.length→(∀ (i:Nat) (x:α) (y:β),l[i]?=some x→l'[i]?=some y→R x y)→All2 R l l'
  | [],[],_,_ => .nil
  | [],_::_,h,_=>by simp at h
  | _::_,[],h,_=>by simp at h
  | x::l,y::l',h,hr => .cons (hr 0 x y rfl rfl) (All2.of_get (by simpa using h) fun i x y hx hy=>hr (i+1) x y (by simpa using hx) (by simpa using hy))
theorem allSome_get {α:Type}:∀ {l:List (Option α)} {r:List α},allSome l=some r→l=r.map some
  | [],r,h=>by cases h;rfl
  | none::l,r,h=>by cases h
  | some x::l,r,h=>by
    rw [allSome] at h
    split at h
    · rename_i r' e;cases h;rw [allSome_get e];rfl
    · cases h
theorem addr_add (b off i:Nat):(⟨b,off,none⟩:Addr).add i=⟨b,off+i,none⟩:=by unfold Addr.add;split<;>simp_all
theorem addr_add_add (ad:Addr) (i j:Nat):(ad.add i).add j=ad.add (i+j):=by
  unfold Addr.add
  by_cases hi:i=0
  · subst hi;simp
  · by_cases hj:j=0
    · subst hj;simp
    · rw [if_neg hi,if_neg hj,if_neg (by omega)];simp;omega
theorem alloc_at (w:World) (ob:Obj):(w.alloc ob).heap[w.heap.size]?=some ob:=by
  show (w.heap.push ob)[w.heap.size]?=_
  simp
theorem setCell_heap {w:World} {p:Addr} {v:Value} {arr:Array Value} {ty:TypeId} (ha:w.heap[p.block]?=some (.cells arr ty (0,0))) (hs:p.spot=none):(w.setCell p v).heap[p.block]?=some (.cells (arr.setIfInBounds p.off v) ty (0,0)):=by
  have hlt:=(Array.getElem?_eq_some_iff.1 ha).1
  unfold World.setCell
  simp only [Array.getElem?_modify,ha,Option.map_some,if_true,hs]
  simp
theorem ag_setCell {O:Nat→Prop} (w:World) (p:Addr) (v:Value) (hO:O p.block):Ag O w (w.setCell p v) :=
  ⟨rfl,rfl,rfl,by simp [World.setCell],fun k _ hk=>Below.heap_setCell w p v k (fun e=>hk (by rw [e];exact hO))⟩
theorem run_sizeOf' {P:Program} {T:TypeId} {inf:TypeInfo} (h:P.info? T=some inf) (w:World):(sizeOf T).run P w = .ok inf.size w:=by
  simp [sizeOf,typeInfo,h]
section
variable {P:Program} {X:Cx} {W:Nat→Prop} {w0:World} {n:Nat} {β β':Pl} {s:St} {a:Act} {w w':World} {o:Oper} {e:Eff} {K:Act→World→Prop} {Q:Exit→Act→World→Prop}
theorem Sat.drop (h:Sat W w0 n β s a w) (ks:List Nat):Sat W w0 n β (s.drop ks) a w:=by
  have hg:∀ {t x},(s.drop ks).g t=some x→s.g t=some x∧x.has ks=false:=by
    intro t x hx
    simp only [St.drop] at hx
    split at hx
    · rename_i y hy
      split at hx
      · cases hx
      · rename_i hc;cases hx;exact ⟨hy,by simpa using hc⟩
    · cases hx
  have hT:∀ {b ty},(s.drop ks).T b=some ty→s.T b=some ty∧ks.contains b=false:=by
    intro b ty hb
    simp only [St.drop] at hb
    split at hb
    · cases hb
    · rename_i hc;exact ⟨hb,by simpa using hc⟩
  have hTn:∀ {b},(s.drop ks).T b≠none→s.T b≠none:=by
    intro b hb
    obtain ⟨ty,hb⟩:=Option.ne_none_iff_exists'.1 hb
    rw [(hT hb).1];simp
  have hm:∀ {b off c},(s.drop ks).m b off=some c→s.m b off=some c∧ks.contains b=false∧c.has ks=false:=by
    intro b off c hc
    simp only [St.drop] at hc
    split at hc
    · cases hc
    · rename_i h1
      split at hc
      · rename_i y hy
        split at hc
        · cases hc
        · rename_i h2;cases hc;exact ⟨hy,by simpa using h1,by simpa using h2⟩
      · cases hc
  have live:∀ {r:Nat},s.T r≠none→ks.contains r=false→(s.drop ks).T r≠none:=by
    intro r h1 h2
    show (if ks.contains r=true then none else s.T r)≠none
    rw [if_neg (by rw [h2];exact Bool.false_ne_true)];exact h1
  refine { tm:=fun t x hx=>h.tm t x (hg hx).1,box:=fun b ty hb=>?_,has:=fun b off hb=>?_,refs:=fun t x hx b hb=>?_,refm:=fun b off c hc r hr=>?_,disj:=fun b b' k h1 h2=>h.disj b b' k (hTn h1) (hTn h2),own:=fun b k h1=>h.own b k (hTn h1),lt:=h.lt,below:=h.below,defers:=h.defers,size:=h.size }
  · obtain ⟨h1,h2⟩:=hT hb
    have hB:=h.box b ty h1
    refine ⟨hB.one,fun e off c hc=>hB.obj e off c (hm hc).1,fun e=>?_,fun k a0 hk hne=>⟨(hB.rst k a0 hk hne).1,fun off ho=>(hB.rst k a0 hk hne).2 off (fun hn=>ho (by simp [St.drop,hn]))⟩⟩
    obtain ⟨h3,arr,h4,h5⟩:=hB.cel e
    exact ⟨h3,arr,h4,fun off c hc=>h5 off c (hm hc).1⟩
  · obtain ⟨c,hc⟩:=Option.ne_none_iff_exists'.1 hb
    obtain ⟨h1,h2,_⟩:=hm hc
    exact live (h.has b off (by rw [h1];simp)) h2
  · obtain ⟨h1,h2⟩:=hg hx
    refine live (h.refs t x h1 b hb) ?_
    unfold TV.has at h2
    rw [List.any_eq_false] at h2
    simpa using h2 b hb
  · obtain ⟨h1,_,h2⟩:=hm hc
    refine live (h.refm b off c h1 r hr) ?_
    unfold A0.has at h2
    rw [List.any_eq_false] at h2
    simpa using h2 r hr
theorem Sat.after (h:Sat W w0 n β s a w) (e:Eff):Sat W w0 n β (s.after e) a w:=by
  unfold St.after
  split
  · exact h
  · exact h.drop _
theorem wrs_nil (m:Nat→Nat→Option A0):St.wrs m []=m:=rfl
def St.addN (s:St) (nw:List (Nat × TypeId × List A0)):St :=
  { g := s.g
    m := fun b off => match lookN nw b with
      | some q=>q.2[off]?
      | none=>s.m b off
    T := fun b => match lookN nw b with
      | some q=>some q.1
      | none=>s.T b }
theorem addN_T0 {nw:List (Nat × TypeId × List A0)} {b:Nat} (h:lookN nw b=none):(s.addN nw).T b=s.T b:=by unfold St.addN;simp only [h]
theorem addN_T1 {nw:List (Nat × TypeId × List A0)} {b:Nat} {q:TypeId × List A0} (h:lookN nw b=some q):(s.addN nw).T b=some q.1:=by unfold St.addN;simp only [h]
theorem addN_m0 {nw:List (Nat × TypeId × List A0)} {b:Nat} (h:lookN nw b=none):(s.addN nw).m b=s.m b:=by unfold St.addN;simp only [h]
theorem addN_m1 {nw:List (Nat × TypeId × List A0)} {b:Nat} {q:TypeId × List A0} (h:lookN nw b=some q):(s.addN nw).m b=fun off=>q.2[off]?:=by unfold St.addN;simp only [h]
theorem app0_addN (s:St) (d:Tmp) (e:Eff) (h:e.wr=[]):s.app0 (some d) e={ (s.addN e.new) with g:=upd s.g d e.val }:=by
  obtain ⟨p,v,rd,wr,nw,kl⟩:=e
  cases h
  rfl
theorem Sat.news (h:Sat W w0 n β s a w) (ha:Ag β.O w w') (hkeep:∀ b k,s.T b≠none→β.F b k→w'.heap[k]?=w.heap[k]?) (hW:Ag W w0 w') (nw:List (Nat × TypeId × List A0))
    (hT:∀ b q,lookN nw b=some q→s.T b=none)
    (hold:∀ b,lookN nw b=none→β'.f b=β.f b∧β'.v b=β.v b∧β'.F b=β.F b∧β'.r b=β.r b)
    (hO:∀ k,β'.O k↔(β.O k∨∃ b q,lookN nw b=some q∧β'.F b k))
    (hF:∀ b q k,lookN nw b=some q→β'.F b k→k<w'.heap.size∧(w.heap.size≤k∨(β.O k∧(w0.heap.size≤k∨W k)∧∀ b',s.T b'≠none→¬ β.F b' k)))
    (hdisj:∀ b b' q q' k,lookN nw b=some q→lookN nw b'=some q'→β'.F b k→β'.F b' k→b=b')
    (hbox:∀ b q,lookN nw b=some q→BoxOk β' b (fun off=>q.2[off]?) q.1 w')
    (hrefs:∀ b q,lookN nw b=some q→∀ c∈q.2,∀ r∈c.refs,lookN nw r≠none∨s.T r≠none) :
    Sat W w0 n β' (s.addN nw) a w':=by
  have nl:∀ b,s.T b≠none→lookN nw b=none:=fun b hb=>by
    cases hl:lookN nw b with
    | none=>rfl
    | some q=>exact absurd (hT b q hl) hb
  have cls:∀ b,(s.addN nw).T b≠none→(∃ q,lookN nw b=some q)∨(lookN nw b=none∧s.T b≠none):=fun b hb=>by
    cases hl:lookN nw b with
    | none=>rw [addN_T0 hl] at hb;exact .inr ⟨rfl,hb⟩
    | some q=>exact .inl ⟨q,rfl⟩
  refine h.step (T':=(s.addN nw).T) (m':=(s.addN nw).m) ha (fun k hk hO'=>?_) (fun b hb=>⟨(hold b (nl b hb)).1,(hold b (nl b hb)).2.1,(hold b (nl b hb)).2.2.2⟩) (fun b hb=>?_) (fun b ty hb=>?_) (fun b off hm=>?_) (fun b off c hm r hr=>?_) (fun b b' k h1 h2 hf hf'=>?_) (fun b k h1 hf=>?_) (fun k hk=>?_) hW
  · rcases (hO k).1 hO' with h1|⟨b,q,hl,hf⟩
    · exact h1
    · rcases (hF b q k hl hf).2 with h2|h2
      · omega
      · exact h2.1
  · rw [addN_T0 (nl b hb)];exact hb
  · cases hl:lookN nw b with
    | none =>
      rw [addN_T0 hl] at hb
      exact .inl ⟨hb,addN_m0 hl,fun k=>by rw [(hold b hl).2.2.1],fun k hk=>hkeep b k (by rw [hb];simp) hk⟩
    | some q =>
      rw [addN_T1 hl] at hb
      cases hb
      right
      rw [addN_m1 hl]
      exact hbox b q hl
  · cases hl:lookN nw b with
    | none=>rw [addN_m0 hl] at hm;rw [addN_T0 hl];exact h.has b off hm
    | some q=>rw [addN_T1 hl];simp
  · have key:lookN nw r≠none∨s.T r≠none:=by
      cases hl:lookN nw b with
      | none=>rw [addN_m0 hl] at hm;exact .inr (h.refm b off c hm r hr)
      | some q=>rw [addN_m1 hl] at hm;exact hrefs b q hl c (List.mem_of_getElem? hm) r hr
    cases hl:lookN nw r with
    | none=>rw [addN_T0 hl];rcases key with h1|h1;exact absurd hl h1;exact h1
    | some q=>rw [addN_T1 hl];simp
  · rcases cls b h1 with ⟨q,hq⟩|⟨hn,hs⟩<;>rcases cls b' h2 with ⟨q',hq'⟩|⟨hn',hs'⟩
    · exact hdisj b b' q q' k hq hq' hf hf'
    · exfalso
      rw [(hold b' hn').2.2.1] at hf'
      rcases (hF b q k hq hf).2 with h3|h3
      · have:=h.lt k (h.own b' k hs' hf').1;omega
      · exact h3.2.2 b' hs' hf'
    · exfalso
      rw [(hold b hn).2.2.1] at hf
      rcases (hF b' q' k hq' hf').2 with h3|h3
      · have:=h.lt k (h.own b k hs hf).1;omega
      · exact h3.2.2 b hs hf
    · rw [(hold b hn).2.2.1] at hf
      rw [(hold b' hn').2.2.1] at hf'
      exact h.disj b b' k hs hs' hf hf'
  · rcases cls b h1 with ⟨q,hq⟩|⟨hn,hs⟩
    · refine ⟨(hO k).2 (.inr ⟨b,q,hq,hf⟩),?_⟩
      rcases (hF b q k hq hf).2 with h3|h3
      · exact .inl (Nat.le_trans h.below.size h3)
      · exact h3.2.1
    · rw [(hold b hn).2.2.1] at hf
      exact ⟨(hO k).2 (.inl (h.own b k hs hf).1),(h.own b k hs hf).2⟩
  · rcases (hO k).1 hk with h1|⟨b,q,hl,hf⟩
    · exact Nat.lt_of_lt_of_le (h.lt k h1) ha.size
    · exact (hF b q k hl hf).1
abbrev Pl.put (β:Pl) (b g:Nat) (v:Value) (F:Nat→Prop):Pl:=⟨upd β.f b g,upd β.v b v,upd β.F b F,fun k=>β.O k∨F k,upd β.r b none⟩
theorem lookN_one {d b:Nat} {q q':TypeId × List A0} (h:lookN [(d,q)] b=some q'):b=d∧q'=q:=by
  unfold lookN at h
  split at h
  · rename_i e;cases h;exact ⟨e,rfl⟩
  · cases h
theorem lookN_self (d:Nat) (q:TypeId × List A0):lookN [(d,q)] d=some q:=by unfold lookN;rw [if_pos rfl]
theorem Sat.one (h:Sat W w0 n β s a w) (ha:Ag β.O w w') (hkeep:∀ b k,s.T b≠none→β.F b k→w'.heap[k]?=w.heap[k]?) (hW:Ag W w0 w') {d g:Nat} {v:Value} {F:Nat→Prop} {ty:TypeId} {cs:List A0} (hT:s.T d=none)
    (hF:∀ k,F k→k<w'.heap.size∧(w.heap.size≤k∨(β.O k∧(w0.heap.size≤k∨W k)∧∀ b',s.T b'≠none→¬ β.F b' k)))
    (hbox:BoxOk (β.put d g v F) d (fun off=>cs[off]?) ty w') (hrefs:∀ c∈cs,∀ r∈c.refs,s.T r≠none) :
    Sat W w0 n (β.put d g v F) (s.addN [(d,ty,cs)]) a w':=by
  refine h.news ha hkeep hW [(d,ty,cs)] (fun b q hl=>by rw [(lookN_one hl).1];exact hT) (fun b hl=>?_) (fun k=>?_) (fun b q k hl hf=>?_) (fun b b' q q' k hl hl' _ _=>by rw [(lookN_one hl).1,(lookN_one hl').1]) (fun b q hl=>?_) (fun b q hl c hc r hr=>?_)
  · have hne:b≠d:=by rintro rfl;rw [lookN_self] at hl;cases hl
    simp [upd,hne]
  · constructor
    · rintro (h1|h1)
      · exact .inl h1
      · exact .inr ⟨d,_,lookN_self d _,by simp [upd];exact h1⟩
    · rintro (h1|⟨b,q,hl,hf⟩)
      · exact .inl h1
      · obtain ⟨rfl,rfl⟩:=lookN_one hl
        simp [upd] at hf
        exact .inr hf
  · obtain ⟨rfl,rfl⟩:=lookN_one hl
    simp [upd] at hf
    exact hF k hf
  · obtain ⟨rfl,rfl⟩:=lookN_one hl
    exact hbox
  · obtain ⟨rfl,rfl⟩:=lookN_one hl
    exact .inr (hrefs c hc r hr)
def Good (β:Pl) (s:St) (w:World) (y:TV) (u:Value):Prop:=y.reads β w u∧∀ b∈y.refs,s.T b≠none
theorem getv_good (h:Sat W w0 n β s a w) {x:Operand} {y:TV} (hx:getv s.g x=some y):Good β s w y (a.eval x):=by
  cases x with
  | tmp t=>exact ⟨h.tm t y hx,h.refs t y hx⟩
  | const v=>cases hx;exact ⟨rfl,by simp [TV.refs,A0.refs]⟩
  | func f=>cases hx;exact ⟨⟨[],rfl,.nil⟩,by simp [TV.refs]⟩
  | global g=>cases hx
theorem force_good {v:Option TV} {p:Prop} {y:TV} {u:Value} (hf:force v=some (p,y)) (hp:p) (hv:∀ x,v=some x→Good β s w x u):Good β s w y u:=by
  unfold force at hf
  split at hf
  · cases hf
  · cases hf
    have:=hv _ rfl
    exact ⟨this.1.1 hp,this.2⟩
  · cases hf;exact hv _ rfl
  · cases hf
def Vs (β:Pl) (s:St) (w:World) (vs:List (Option TV)) (us:List Value):Prop:=All2 (fun v u=>∀ x,v=some x→Good β s w x u) vs us
theorem vs_good (h:Sat W w0 n β s a w):∀ l:List Operand,Vs β s w (l.map (getv s.g)) (l.map a.eval)
  | [] => .nil
  | x::l => .cons (fun y hy=>getv_good h hy) (vs_good h l)
theorem forces_good:∀ {vs:List (Option TV)} {us:List Value} {p:Prop} {ys:List TV},forces vs=some (p,ys)→p→Vs β s w vs us→All2 (Good β s w) ys us
  | [],_,p,ys,hf,hp,h=>by
    cases h
    cases hf;exact .nil
  | v :: vs, _, p, ys, hf, hp, h => by
    cases h with
    | cons hv hr =>
      rw [forces] at hf
      split at hf
      · rename_i p1 y1 q1 ys1 e1 e2
        cases hf
        exact .cons (force_good e1 hp.1 hv) (forces_good e2 hp.2 hr)
      · cases hf
theorem done_val (hS:Sat W w0 n β s a w) {v:Value} (hrun:(execOp a.eval o).run P w = .ok (.value v) w) (hd:∀ d,o.dst=some d→d<n) (hv:∀ y,e.val=some y→Good β s w y v) (he:e.wr=[]) (hn:e.new=[])
    (hK:∀ β' a' w',Sat W w0 n β' (s.app o.dst e) a' w'→K a' w') (hkl:e.kill=[]:=by rfl):o.wp P a w K Q:=by
  rw [app_none hkl] at hK
  unfold Oper.wp
  rw [hrun,Oper.upon_value]
  refine hK β _ _ ?_
  cases hdst:o.dst with
  | none=>simpa [St.app0,hn,he,St.wrs,Act.put,lookN] using hS
  | some d =>
    have:=hS.put (hd d hdst) hv
    simpa [St.app0,hn,he,St.wrs,lookN] using this
theorem done_new (hS:Sat W w0 n β s a w) {d:Nat} {g:Nat} {w1:World} {v:Value} {arr:Array Value} {ty:TypeId} {cs:List A0} (hb:Below w.heap.size w w1) (hg:w.heap.size≤g) (ha:w1.heap[g]?=some (.cells arr ty (0,0))) (hty:ty≠obT)
    (hcs:∀ (off:Nat) (c:A0),cs[off]?=some c→∃ x,arr[off]?=some x∧x.oneCell'=true∧c.reads β w x∧∀ r∈c.refs,s.T r≠none) (hdst:o.dst=some d) (hd:d<n) (hT:s.T d=none) (he:e.wr=[]) (hn:e.new=[(d,ty,cs)]) {y:TV} (hv:e.val=some y) (hy:y.reads (β.put d g (.pointer (some ⟨g,0,none⟩)) (fun k=>k=g)) w1 v) (hyr:∀ b∈y.refs,b=d)
    (hK:∀ β' a' w',Sat W w0 n β' (s.app o.dst e) a' w'→K a' w') (hkl:e.kill=[]:=by rfl):K (a.put o.dst v) w1:=by
  rw [app_none hkl] at hK
  have hag:Ag β.O w w1:=Ag.of_below hb
  have hgl:=(Array.getElem?_eq_some_iff.1 ha).1
  have hne:∀ r,s.T r≠none→r≠d:=fun r hr e=>hr (by rw [e];exact hT)
  have hS2:=hS.one hag (fun b k hb' hf=>hb.block k (hS.lt k (hS.own b k hb' hf).1)) (Ag.then hS.below (Ag.of_below (O:=fun _=>False) hb) (fun _ _ h=>h.elim)) (d:=d) (g:=g) (v := .pointer (some ⟨g,0,none⟩)) (F:=fun k=>k=g) (ty:=ty) (cs:=cs) hT (fun k hk=>by subst hk;exact ⟨hgl,.inl hg⟩) (by
    refine ⟨by simp [upd,Cell1,Value.cells,Value.oneCell'],fun e=>absurd e hty,fun _=>?_,fun k a0 hk _=>by simp [upd] at hk⟩
    refine ⟨fun k=>by simp [upd],arr,by simp only [upd,if_true];exact ha,fun off c hc=>?_⟩
    obtain ⟨x,h1,h2,h3,h4⟩:=hcs off c hc
    refine ⟨x,h1,h2,A0.to h3 hag (fun k hk h5=>?_) (fun r hr=>by simp [upd,hne r (h4 r hr)])⟩
    rcases h5 with h5|h5
    · exact h5
    · omega) (fun c hc r hr=>by
      obtain ⟨i,hi⟩:=List.getElem?_of_mem hc
      obtain ⟨_,_,_,_,h4⟩:=hcs i c hi
      exact h4 r hr)
  have hS3:=hS2.put hd (v:=v) (x:=some y) (fun z hz=>by
    cases hz
    exact ⟨hy,fun b hb=>by rw [hyr b hb];show (s.addN [(d,ty,cs)]).T d≠none;rw [addN_T1 (lookN_self d _)];simp⟩)
  have h4:=hK (β.put d g (.pointer (some ⟨g,0,none⟩)) (fun k=>k=g)) (a.put o.dst v) w1
  rw [hdst] at h4 ⊢
  refine h4 ?_
  rw [app0_addN s d e he,hn,hv]
  exact hS3
theorem Sat.cell (hS:Sat W w0 n β s a w) {b off:Nat} {c:A0} (hm:s.m b off=some c) (hc:c.noObs=true):∃ ty arr x,s.T b=some ty∧ty≠obT∧(∀ k,β.F b k↔k=β b)∧w.heap[β b]?=some (.cells arr ty (0,0))∧arr[off]?=some x∧x.oneCell'=true∧c.reads β w x:=by
  obtain ⟨ty,hT⟩:=Option.ne_none_iff_exists'.1 (hS.has b off (by rw [hm];simp))
  have hB:=hS.box b ty hT
  by_cases hne:ty=obT
  · obtain ⟨_,x,rfl,_⟩:=hB.obj hne off c hm
    cases hc
  · obtain ⟨h1,arr,h2,h3⟩:=hB.cel hne
    obtain ⟨x,h4,h5,h6⟩:=h3 off c hm
    exact ⟨ty,arr,x,hT,hne,h1,h2,h4,h5,h6⟩
theorem Sat.ob (hS:Sat W w0 n β s a w) {b off:Nat} {x:D} (hm:s.m b off=some (.obs x)):s.T b=some obT∧x.own (β.F b) w (β.v b):=by
  obtain ⟨ty,hT⟩:=Option.ne_none_iff_exists'.1 (hS.has b off (by rw [hm];simp))
  have hB:=hS.box b ty hT
  by_cases e:ty=obT
  · obtain ⟨_,y,hy,h2⟩:=hB.obj e off _ hm
    cases hy
    exact ⟨by rw [hT,e],h2⟩
  · obtain ⟨_,arr,_,h3⟩:=hB.cel e
    obtain ⟨_,_,_,h6⟩:=h3 off _ hm
    exact h6.elim
theorem box_cells (hS:Sat W w0 n β s a w) (b:Nat):∀ (k off:Nat) (l:List A0),(span b off k).map (fun p=>s.m p.1 p.2)=l.map some→l.all A0.noObs=true→∃ us:List Value,us.length=k∧All2 (A0.reads β w) l us∧(∀ i v,us[i]?=some v→w.cell? ⟨β b,off+i,none⟩=some v∧v.oneCell'=true)∧∀ c∈l,∀ r∈c.refs,s.T r≠none
  | 0,off,l,h,_=>by
    have:l=[]:=by simpa [span] using h.symm
    subst this
    exact ⟨[],rfl,.nil,fun i v h=>by simp at h,by simp⟩
  | k + 1, off, l, h, ho => by
    cases l with
    | nil=>simp [span,List.range'_succ] at h
    | cons c l =>
      simp only [span,List.range'_succ,List.map_cons,List.cons.injEq] at h
      simp only [List.all_cons,Bool.and_eq_true] at ho
      obtain ⟨us,h1,h2,h3,h4⟩:=box_cells hS b k (off+1) l h.2 ho.2
      obtain ⟨ty,arr,x,hT,hne,hF,ha,hx,hone,hr⟩:=hS.cell h.1 ho.1
      refine ⟨x::us,by simp [h1],.cons hr h2,fun i v hv=>?_,fun c' hc' r hr'=>?_⟩
      · cases i with
        | zero =>
          simp at hv;subst hv
          refine ⟨?_,hone⟩
          unfold World.cell?;rw [show (⟨β b,off+0,none⟩:Addr).block=β b from rfl,ha];exact hx
        | succ i =>
          have:=h3 i v (by simpa using hv)
          rw [show off+1+i=off+(i+1) by omega] at this
          exact this
      · rcases List.mem_cons.1 hc' with rfl|hc'
        · exact hS.refm b off c' h.1 r hr'
        · exact h4 c' hc' r hr'
theorem reads_cells {c:A0} {u:Value} (h:c.reads β w u) (hc:∀ x,c ≠ .v (.agg x)) (hc':∀ x,c ≠ .v (.tuple x)) (hr:∀ r∈c.refs,Cell1 (β.v r)):u.cells=#[u]:=by
  cases c with
  | v x =>
    rw [show u=x from h]
    cases x with
    | agg y=>exact absurd rfl (hc y)
    | tuple y=>rfl
    | _=>rfl
  | sl k l=>obtain ⟨A,c,rfl,_⟩:=(show ∀ w1,Ag β.O w w1→_ from h) w (Ag.refl _ _);rfl
  | neg x=>rw [show u = .bool (sgn x) from h];rfl
  | mag x=>obtain ⟨A,c,rfl,_⟩:=(show ∀ w1,Ag β.O w w1→_ from h) w (Ag.refl _ _);rfl
  | ls n=>obtain ⟨A,c,rfl⟩:=h;rfl
  | op x=>obtain ⟨A,c,rfl⟩:=D.rd_slice ((show ∀ w1,Ag β.O w w1→x.rd w1 u from h) w (Ag.refl _ _));rfl
  | ref b=>rw [show u=β.v b from h];exact (hr b (by simp [A0.refs])).1
  | obs x=>exact (show False from h).elim
theorem Sat.oneV (hS:Sat W w0 n β s a w) {r:Nat} (hr:s.T r≠none):Cell1 (β.v r):=by
  obtain ⟨ty,hT⟩:=Option.ne_none_iff_exists'.1 hr
  exact (hS.box r ty hT).1
theorem okA_one {c:A0} {u:Value} (h:c.reads β w u) (hc:okA c=true) (hr:∀ r∈c.refs,Cell1 (β.v r)):u.oneCell'=true:=by
  cases c with
  | v x=>rw [show u=x from h];cases x<;>first|rfl|cases hc
  | sl k l=>obtain ⟨A,c,rfl,_⟩:=(show ∀ w1,Ag β.O w w1→_ from h) w (Ag.refl _ _);rfl
  | neg x=>rw [show u = .bool (sgn x) from h];rfl
  | mag x=>obtain ⟨A,c,rfl,_⟩:=(show ∀ w1,Ag β.O w w1→_ from h) w (Ag.refl _ _);rfl
  | ls n=>obtain ⟨A,c,rfl⟩:=h;rfl
  | op x=>obtain ⟨A,c,rfl⟩:=D.rd_slice ((show ∀ w1,Ag β.O w w1→x.rd w1 u from h) w (Ag.refl _ _));rfl
  | ref b=>rw [show u=β.v b from h];exact (hr b (by simp [A0.refs])).2
  | obs x=>exact (show False from h).elim
theorem cells_reads {y:TV} {ys:List A0} {u:Value} (hy:y.cells=some ys) (h:y.reads β w u) (hr:∀ r∈y.refs,Cell1 (β.v r)):(∃ us:List Value,u.cells=us.toArray∧All2 (A0.reads β w) ys us)∧y.refs=ys.flatMap A0.refs:=by
  unfold TV.cells at hy
  split at hy
  · cases hy
  · cases hy
  · rename_i c h1 h2
    cases hy
    exact ⟨⟨[u],by rw [reads_cells h (fun x e=>h1 x (by rw [e])) (fun x e=>h2 x (by rw [e])) hr],.cons h .nil⟩,by simp [TV.refs]⟩
  · cases hy
    obtain ⟨us,rfl,hr⟩:=h
    exact ⟨⟨us,rfl,hr⟩,rfl⟩
  · cases hy
theorem okAll {l:List A0} {us:List Value} (h:All2 (A0.reads β w) l us) (hl:l.all okA=true) (hr:∀ r∈l.flatMap A0.refs,Cell1 (β.v r)):∀ u∈us,u.oneCell'=true:=by
  induction h with
  | nil=>simp
  | cons h1 _ ih =>
    simp only [List.all_cons,Bool.and_eq_true] at hl
    simp only [List.flatMap_cons,List.mem_append] at hr
    intro u hu
    rcases List.mem_cons.1 hu with rfl|hu
    · exact okA_one h1 hl.1 (fun r hr'=>hr r (.inl hr'))
    · exact ih hl.2 (fun r hr'=>hr r (.inr hr')) u hu
theorem good1 (hS:Sat W w0 n β s a w) (x:Operand):∀ y,getv s.g x=some y→Good β s w y (a.eval x):=fun y hy=>getv_good hS hy
theorem good_refs {y:TV} {u:Value} (h:y.reads β w u) (hr:y.refs=[]):Good β s w y u:=⟨h,by rw [hr];simp⟩
theorem val_reads {c:TV} {v u:Value} (hv:c.val?=some v) (h:c.reads β w u):u=v:=by
  unfold TV.val? at hv
  split at hv
  · unfold A0.val? at hv
    split at hv
    · cases hv;exact h
    · cases hv;exact h
    · cases hv
  · cases hv
end
end Go.Proofs.YtcgknibjbnijmaaW.Sy
end
