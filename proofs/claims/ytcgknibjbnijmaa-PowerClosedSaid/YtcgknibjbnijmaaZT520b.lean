/- Part of a proof: texts of this session, one behind the other, and words that print.sh printed for this seat, of these only those that the proof leans on (wip/tools/pack.py). -/
import Derived.Test.YtcgknibjbnijmaaZT520a
import Derived.ChangeKeysEq
import Derived.Laws.StructEq
section
set_option linter.unusedVariables false
set_option linter.unusedSimpArgs false
namespace Go.Proofs.YtcgknibjbnijmaaW.Sy
open Go RowKit YtcgknibjbnijmaaW.PrintWords YtcgknibjbnijmaaW.PrintMore YtcgknibjbnijmaaW.Aid YtcgknibjbnijmaaW.Big
section
variable {P:Program} {X:Cx} {W:Nat→Prop} {w0:World} {n:Nat} {β:Pl} {s:St} {a:Act} {w:World} {o:Oper} {e:Eff} {K:Act→World→Prop} {Q:Exit→Act→World→Prop}
theorem own_int {k:IntKind} {e:TypeId} {l:List Int} {F:Nat→Prop} {u:Value} (h:(D.ints k e l).own F w u) {i:Int} (h0:0≤i) (h1:i<(l.length:Int)):∃ A n c,u = .slice (some A) n c∧w.cell? (A.add i.toNat)=some (.int k (rd l i)):=by
  obtain ⟨A,c,e1,h2,h3⟩:=Kd.R_reads h
  obtain ⟨ad',cs,e2,e3,e4,e5⟩:=ReadsRow.get_ h3 (0:Int) i h0 (by omega)
  subst e2
  have e3':cs=[.int k (l.getD i.toNat 0)]:=e4
  have:=e5 0 (.int k (l.getD i.toNat 0)) (by rw [e3'];rfl)
  rw [show i.toNat*(Kd.int k).sz+0=i.toNat from by show i.toNat*1+0=_;omega] at this
  exact ⟨ad',_,c,e1,this⟩
theorem op_load (ok:CxOk P X) (hS:Sat W w0 n β s a w) {T:TypeId} {x:Operand} (ho:o.op = .load T x) (h:absOp X s o=some e) (hp:e.pre) (hd:∀ d,o.dst=some d→d<n)
    (hK:∀ β' a' w',Sat W w0 n β' (s.app o.dst e) a' w'→K a' w'):o.wp P a w K Q:=by
  have hrun:(execOp a.eval o).run P w=((Instr.loadAt T (a.eval x)).run P w).andThen fun v w => .ok (.value v) w:=by
    unfold execOp;rw [ho];simp
  simp only [absOp,req,req2,fin,ho,Op.operands,List.map_cons,List.map_nil] at h
  have hx:=good1 hS x
  have hT:=ok.ty T
  split at h
  · -- a box's own
    rename_i p b off hf
    rw [hf] at h
    simp only at h
    have ptr:∀ l,allSome ((span b off (X.ti T).size).map fun p=>s.m p.1 p.2)=some l→l.all A0.noObs=true→p→∃ us:List Value,us.length=(X.ti T).size∧All2 (A0.reads β w) l us∧a.eval x = .pointer (some ⟨β b,off,none⟩)∧(∀ i v,us[i]?=some v→w.cell? ⟨β b,off+i,none⟩=some v)∧∀ c∈l,∀ r∈c.refs,s.T r≠none:=by
      intro l hl hno hpp
      have hg:=force_good hf hpp hx
      obtain ⟨us,h1,h2,h3,h4⟩:=box_cells hS b (X.ti T).size off l (allSome_get hl) hno
      exact ⟨us,h1,h2,hg.1,fun i v hi=>(h3 i v hi).1,h4⟩
    split at h
    · rename_i c l hl hag
      split at h
      case isFalse=>cases h
      rename_i hno
      cases h
      obtain ⟨us,h1,h2,h3,h4,h5⟩:=ptr _ hl hno hp
      have hne:(X.ti T).size≠0:=by rw [← h1,← All2.length h2];simp
      obtain ⟨inf,hi,hsz⟩:=hT.size hne
      have hr:=congrFun (hT.agg hne) w
      rw [hag] at hr
      refine done_val hS (v := .agg us.toArray) ?_ hd (fun y hy=>?_) rfl rfl hK
      · rw [hrun,h3]
        have:=run_loadCells_list (P:=P) w ⟨β b,off,none⟩ us (fun j v hj=>by rw [addr_add];exact h4 j v hj)
        simp only [Instr.loadAt,Instr.sureAddr,Sem.run_bind,Sem.run_pure,Result.andThen_ok,loadVar,hr,if_true,run_sizeOf' hi,hsz,← h1,this]
      · cases hy
        exact ⟨⟨us,rfl,h2⟩,fun r hr=>by
          obtain ⟨c',hc',hr'⟩:=List.mem_flatMap.1 hr
          exact h5 c' hc' r hr'⟩
    · rename_i c hl hag
      split at h
      case isFalse=>cases h
      rename_i hno
      cases h
      obtain ⟨us,h1,h2,h3,h4,h5⟩:=ptr _ hl (by simpa using hno) hp
      have hne:(X.ti T).size≠0:=by rw [← h1,← All2.length h2];simp
      have hr:=congrFun (hT.agg hne) w
      rw [hag] at hr
      cases h2 with
      | cons hu hnil =>
        cases hnil
        rename_i u
        refine done_val hS (v:=u) ?_ hd (fun y hy=>?_) rfl rfl hK
        · rw [hrun,h3]
          have:=h4 0 u rfl
          simp only [Nat.add_zero] at this
          simp only [Instr.loadAt,Instr.sureAddr,Sem.run_bind,Sem.run_pure,Result.andThen_ok,loadVar,hr,Bool.false_eq_true,if_false,run_load,this]
        · cases hy
          exact ⟨hu,fun r hr=>h5 c (by simp) r hr⟩
    · cases h
  · rename_i p l hf
    split at h
    · rename_i hag
      split at h
      · rename_i hlen
        cases h
        have hg:=force_good hf hp hx
        obtain ⟨ad,he,hb,hc⟩:=hg.1
        have hne:(X.ti T).size≠0:=by omega
        obtain ⟨inf,hi,hsz⟩:=hT.size hne
        have hr:=congrFun (hT.agg hne) w
        rw [hag] at hr
        have hex:∀ k,k≤l.length→∃ us:List Value,All2 (A0.reads β w) (l.take k) us∧∀ i v,us[i]?=some v→w.cell? (ad.add i)=some v:=by
          intro k
          induction k with
          | zero=>intro _;exact ⟨[],by simpa using All2.nil,fun i v h=>by simp at h⟩
          | succ k ih =>
            intro hk
            obtain ⟨us,h1,h2⟩:=ih (by omega)
            obtain ⟨xv,hx1,hx2,_⟩:=hc k l[k] (List.getElem?_eq_getElem (by omega))
            have hlu:=All2.length h1
            have hlk:(l.take k).length=k:=by simp;omega
            refine ⟨us++[xv],?_,fun i v hv=>?_⟩
            · rw [List.take_succ_eq_append_getElem (by omega)]
              refine All2.of_get (by simp;omega) (fun i c u hi hu=>?_)
              by_cases hik:i<k
              · rw [List.getElem?_append_left (by omega)] at hi hu
                obtain ⟨u',hu',hr'⟩:=All2.get h1 i c hi
                rw [hu'] at hu;cases hu;exact hr'
              · rw [List.getElem?_append_right (by omega)] at hi hu
                have hik':i=k:=by
                  have:=(List.getElem?_eq_some_iff.1 hi).1
                  simp at this;omega
                subst hik'
                simp [hlk] at hi
                simp [← hlu,hlk] at hu
                subst hi hu;exact hx2
            · by_cases hik:i<us.length
              · rw [List.getElem?_append_left hik] at hv;exact h2 i v hv
              · rw [List.getElem?_append_right (by omega)] at hv
                have:i=us.length:=by
                  have:=(List.getElem?_eq_some_iff.1 hv).1
                  simp at this;omega
                subst this
                simp at hv;subst hv
                rw [← hlu,hlk];exact hx1
        obtain ⟨us,h1,h2⟩:=hex (X.ti T).size (by have:=hlen.1;simp at this;omega)
        have hl1:=All2.length h1
        have hnr:(l.take (X.ti T).size).flatMap A0.refs=[]:=by
          rw [List.flatMap_eq_nil_iff]
          intro c' hc'
          obtain ⟨i,hi⟩:=List.getElem?_of_mem (List.mem_of_mem_take hc')
          obtain ⟨_,_,_,h5⟩:=hc i c' hi
          exact h5
        refine done_val hS (v := .agg us.toArray) ?_ hd (fun y hy=>?_) rfl rfl hK
        · rw [hrun,he]
          have:=run_loadCells_list (P:=P) w ad us h2
          rw [← hl1,hlen.1] at this
          simp only [Instr.loadAt,Instr.sureAddr,Sem.run_bind,Sem.run_pure,Result.andThen_ok,loadVar,hr,if_true,run_sizeOf' hi,hsz,this]
        · cases hy
          exact good_refs ⟨us,rfl,h1⟩ hnr
      · cases h
    · rename_i hag
      split at h
      · rename_i c l' hsz1
        cases h
        have hg:=force_good hf hp hx
        obtain ⟨ad,he,hb,hc⟩:=hg.1
        have hr:=congrFun (hT.agg (by omega)) w
        rw [hag] at hr
        obtain ⟨u,hu,hru,hnr⟩:=hc 0 c rfl
        refine done_val hS (v:=u) ?_ hd (fun y hy=>?_) rfl rfl hK
        · rw [hrun,he]
          rw [show ad.add 0=ad by simp [Addr.add]] at hu
          simp only [Instr.loadAt,Instr.sureAddr,Sem.run_bind,Sem.run_pure,Result.andThen_ok,loadVar,hr,Bool.false_eq_true,if_false,run_load,hu]
        · cases hy
          exact good_refs hru hnr
      · cases h
  · rename_i p k l i hf
    split at h
    · rename_i hag hsz1
      cases h
      have hg:=force_good hf hp hx
      obtain ⟨ad,he,h0,h1,hr'⟩:=hg.1
      have hr:=congrFun (hT.agg (by omega)) w
      rw [hag] at hr
      refine done_val hS (v := .int k (rd l i)) ?_ hd (fun y hy=>?_) rfl rfl hK
      · rw [hrun,he]
        have hu:=hr' w (Ag.refl _ _)
        simp only [Instr.loadAt,Instr.sureAddr,Sem.run_bind,Sem.run_pure,Result.andThen_ok,loadVar,hr,Bool.false_eq_true,if_false,run_load,hu]
      · cases hy
        exact good_refs rfl rfl
    · cases h
  · rename_i p b i hf
    rw [hf] at h
    simp only [List.map_cons,List.map_nil] at h
    split at h
    · rename_i k e' l hm hag hsz1
      cases h
      have hm':s.m b 0=some (.obs (.ints k e' l)):=by simpa using hm
      have hg:=force_good hf hp.1 hx
      obtain ⟨A,m,c,e1,h0,e2⟩:=hg.1
      obtain ⟨hTb,hown⟩:=hS.ob hm'
      obtain ⟨A',m',c',e3,hcell⟩:=own_int hown hp.2.1 hp.2.2
      rw [e1] at e3
      cases e3
      have hr:=congrFun (hT.agg (by omega)) w
      rw [hag] at hr
      refine done_val hS (v := .int k (rd l i)) ?_ hd (fun y hy=>?_) rfl rfl hK
      · rw [hrun,e2]
        simp only [Instr.loadAt,Instr.sureAddr,Sem.run_bind,Sem.run_pure,Result.andThen_ok,loadVar,hr,Bool.false_eq_true,if_false,run_load,hcell]
      · cases hy
        exact good_refs rfl rfl
    · cases h
  · cases h
theorem op_move (hS:Sat W w0 n β s a w) {x:Operand} (ho:o.op = .move x∨o.op = .assign x) (h:absOp X s o=some e) (hp:e.pre) (hd:∀ d,o.dst=some d→d<n)
    (hK:∀ β' a' w',Sat W w0 n β' (s.app o.dst e) a' w'→K a' w'):o.wp P a w K Q:=by
  have hrun:(execOp a.eval o).run P w = .ok (.value (a.eval x)) w:=by
    unfold execOp;rcases ho with ho|ho<;>rw [ho]<;>rfl
  have hx:=good1 hS x
  rcases ho with ho|ho<;>simp only [absOp,req,req2,fin,ho,Op.operands,List.map_cons,List.map_nil] at h<;>split at h
  · rename_i p y hf;cases h
    exact done_val hS hrun hd (fun z hz=>by cases hz;exact force_good hf hp hx) rfl rfl hK
  · cases h
  · rename_i p y hf;cases h
    exact done_val hS hrun hd (fun z hz=>by cases hz;exact force_good hf hp hx) rfl rfl hK
  · cases h
theorem op_alloc (ok:CxOk P X) (hS:Sat W w0 n β s a w) {T:TypeId} (ho:o.op = .alloc T) (h:absOp X s o=some e) (hp:e.pre) (hd:∀ d,o.dst=some d→d<n) (hn:newOk s e)
    (hK:∀ β' a' w',Sat W w0 n β' (s.app o.dst e) a' w'→K a' w'):o.wp P a w K Q:=by
  simp only [absOp,req,req2,fin,ho,Op.operands,List.map_cons,List.map_nil] at h
  split at h
  · rename_i zs d hz hdst
    split at h
    case isFalse=>cases h
    rename_i hty
    cases h
    obtain ⟨inf,z,us,h1,h2,h3,h4,h5,h6⟩:=(ok.ty T).zero zs hz
    have hrun:(execOp a.eval o).run P w = .ok (.value (.pointer (some ⟨w.heap.size,0,none⟩))) (w.alloc (.cells us.toArray T)):=by
      unfold execOp;rw [ho]
      simp [Instr.alloc,zeroValue,typeInfo,h1,h2,newVar,newRow,h3]
    unfold Oper.wp
    rw [hrun,Oper.upon_value]
    refine done_new hS (below_alloc (Below.refl _ _) _) (Nat.le_refl _) (alloc_at _ _) hty (cs:=zs) (fun off c hc=>?_) hdst (hd d hdst) (hn _ List.mem_cons_self) rfl rfl rfl ?_ (by simp [TV.refs]) hK
    · obtain ⟨x,hx,hr⟩:=All2.get (h4 β w) off c hc
      exact ⟨x,by simpa using hx,h5 x (List.mem_of_getElem? hx),hr,by rw [A0.free_refs (List.all_eq_true.1 h6 c (List.mem_of_getElem? hc))];simp⟩
    · show _=_
      simp [upd]
  · cases h
theorem op_box (ok:CxOk P X) (hS:Sat W w0 n β s a w) {T:TypeId} {x:Operand} (ho:o.op = .box T x) (h:absOp X s o=some e) (hp:e.pre) (hd:∀ d,o.dst=some d→d<n) (hn:newOk s e)
    (hK:∀ β' a' w',Sat W w0 n β' (s.app o.dst e) a' w'→K a' w'):o.wp P a w K Q:=by
  have hx:=good1 hS x
  simp only [absOp,req,req2,fin,ho,Op.operands,List.map_cons,List.map_nil] at h
  split at h
  · rename_i p y d hf hdst
    split at h
    · rename_i ys hys
      split at h
      · rename_i hall
        cases h
        have hg:=force_good hf hp hx
        have hr1:∀ r∈y.refs,Cell1 (β.v r):=fun r hr=>hS.oneV (hg.2 r hr)
        obtain ⟨⟨us,h3,h4⟩,hrf⟩:=cells_reads hys hg.1 hr1
        have hone:=okAll h4 hall.1 (by rw [← hrf];exact hr1)
        have hrun:(execOp a.eval o).run P w = .ok (.value (.pointer (some ⟨w.heap.size,0,none⟩))) (w.alloc (.cells us.toArray T)):=by
          unfold execOp;rw [ho]
          simp [Instr.box,newVar,newRow,h3]
        unfold Oper.wp
        rw [hrun,Oper.upon_value]
        refine done_new hS (below_alloc (Below.refl _ _) _) (Nat.le_refl _) (alloc_at _ _) hall.2 (cs:=ys) (fun off c hc=>?_) hdst (hd d hdst) (hn _ List.mem_cons_self) rfl rfl rfl ?_ (by simp [TV.refs]) hK
        · obtain ⟨x,hx,hr⟩:=All2.get h4 off c hc
          exact ⟨x,by simpa using hx,hone x (List.mem_of_getElem? hx),hr,fun r hr'=>hg.2 r (by rw [hrf];exact List.mem_flatMap.2 ⟨c,List.mem_of_getElem? hc,hr'⟩)⟩
        · show _=_
          simp [upd]
      · cases h
    · cases h
  · cases h
theorem op_nilCheck (hS:Sat W w0 n β s a w) {x:Operand} (ho:o.op = .nilCheck x) (h:absOp X s o=some e) (hp:e.pre) (hd:∀ d,o.dst=some d→d<n)
    (hK:∀ β' a' w',Sat W w0 n β' (s.app o.dst e) a' w'→K a' w'):o.wp P a w K Q:=by
  have hx:=good1 hS x
  simp only [absOp,req,req2,fin,ho,Op.operands,List.map_cons,List.map_nil] at h
  split at h
  · rename_i p b off hf
    cases h
    have hg:=force_good hf hp hx
    refine done_val hS (v := .pointer (some ⟨β b,off,none⟩)) ?_ hd (fun y hy=>by cases hy;exact ⟨rfl,hg.2⟩) rfl rfl hK
    have e1:a.eval x = .pointer (some ⟨β b,off,none⟩):=hg.1
    unfold execOp;rw [ho];simp [e1]
  · cases h
theorem op_fieldAddr (ok:CxOk P X) (hS:Sat W w0 n β s a w) {T:TypeId} {x:Operand} {j:Nat} (ho:o.op = .fieldAddr T x j) (h:absOp X s o=some e) (hp:e.pre) (hd:∀ d,o.dst=some d→d<n)
    (hK:∀ β' a' w',Sat W w0 n β' (s.app o.dst e) a' w'→K a' w'):o.wp P a w K Q:=by
  have hrun:(execOp a.eval o).run P w=((Instr.fieldAt T (a.eval x) j).run P w).andThen fun v w => .ok (.value v) w:=by
    unfold execOp;rw [ho];simp
  have hx:=good1 hS x
  have fa:∀ ad d ft,(X.ti T).offs[j]?=some (d,ft)→(Instr.fieldAt T (.pointer (some ad)) j).run P w = .ok (.pointer (some (ad.add d))) w:=by
    intro ad d ft hj
    obtain ⟨fs,f,inf,h1,h2,h3,h4,h5,h6⟩:=(ok.ty T).offs j d ft hj
    subst h4
    simp [Instr.fieldAt,run_underlying h1,h2,Instr.sureAddr,fieldPlace,run_sizeOf' h5,h6,h3]
  simp only [absOp,req,req2,fin,ho,Op.operands,List.map_cons,List.map_nil] at h
  split at h
  · rename_i p b off d ft hf hj
    cases h
    have hg:=force_good hf hp hx
    refine done_val hS (v := .pointer (some ⟨β b,off+d,none⟩)) ?_ hd (fun y hy=>?_) rfl rfl hK
    · rw [hrun,show a.eval x=_ from hg.1,fa _ d ft hj,addr_add];rfl
    · cases hy
      exact ⟨rfl,hg.2⟩
  · rename_i p l d ft hf hj
    cases h
    have hg:=force_good hf hp hx
    obtain ⟨ad,he,hb,hc⟩:=hg.1
    refine done_val hS (v := .pointer (some (ad.add d))) ?_ hd (fun y hy=>?_) rfl rfl hK
    · rw [hrun,he,fa _ d ft hj];rfl
    · cases hy
      refine good_refs ⟨ad.add d,rfl,?_,fun i c hi=>?_⟩ rfl
      · unfold Addr.add;split<;>exact hb
      · rw [addr_add_add]
        exact hc _ _ (by simpa using hi)
  · cases h
theorem op_extract (hS:Sat W w0 n β s a w) {x:Operand} {i:Nat} (ho:o.op = .extract x i) (h:absOp X s o=some e) (hp:e.pre) (hd:∀ d,o.dst=some d→d<n)
    (hK:∀ β' a' w',Sat W w0 n β' (s.app o.dst e) a' w'→K a' w'):o.wp P a w K Q:=by
  have hrun:(execOp a.eval o).run P w=((Instr.extract (a.eval x) i).run P w).andThen fun v w => .ok (.value v) w:=by
    unfold execOp;rw [ho];simp
  have hx:=good1 hS x
  simp only [absOp,req,req2,fin,ho,Op.operands,List.map_cons,List.map_nil] at h
  split at h
  · rename_i p l hf
    split at h
    · rename_i c hi
      split at h
      · rename_i y hy
        cases h
        have hg:=force_good hf hp hx
        obtain ⟨us,he,hr⟩:=hg.1
        obtain ⟨u,hu,hru⟩:=All2.get hr i c hi
        refine done_val hS (v:=u) ?_ hd (fun z hz=>?_) rfl rfl hK
        · rw [hrun,he]
          simp [Instr.extract,hu]
        · cases hz
          unfold ofPart at hy
          split at hy
          · cases hy;exact ⟨hru,fun r hr'=>hg.2 r (List.mem_flatMap.2 ⟨_,List.mem_of_getElem? hi,hr'⟩)⟩
          · cases hy
            obtain ⟨c',e',hc'⟩:=hru
            cases e'
            exact ⟨hc',fun r hr'=>hg.2 r (List.mem_flatMap.2 ⟨_,List.mem_of_getElem? hi,by simpa [TV.refs] using hr'⟩)⟩
          · cases hy
      · cases h
    · cases h
  · cases h
theorem run_intOp {op:BinOp} {k:IntKind} {x y:Int} {p:Prop} {z:Value} (h:intOp op k x y=some (p,z)) (hp:p) (T:TypeId) (xo yo:Operand) (w:World) :
    ((do eqGuard op T xo yo (.int k x) (.int k y);binOp op T (.int k x) (.int k y)):Sem Value).run P w = .ok z w:=by
  cases op<;>simp only [intOp] at h<;>(first|(cases h;done)|skip)<;>cases h <;>
    first
      | (simp [eqGuard,binOp,Op.intArith];done)
      | (simp [eqGuard,binOp,Op.intCmp];done)
      | (simp [eqGuard,binOp,Op.intDiv,show y≠0 from hp];done)
      | (simp [eqGuard,binOp,Op.intBits,Go.bits];done)
      | (simp only [eqGuard,binOp,Op.intBits,Go.bits];rfl)
theorem run_shOp {op:BinOp} {k k':IntKind} {x y:Int} {p:Prop} {z:Value} (h:shOp op k x y=some (p,z)) (hp:p) (T:TypeId) (xo yo:Operand) (w:World) :
    ((do eqGuard op T xo yo (.int k x) (.int k' y);binOp op T (.int k x) (.int k' y)):Sem Value).run P w = .ok z w:=by
  cases op<;>simp only [shOp] at h<;>(first|(cases h;done)|skip)<;>cases h <;>
    (have hy:¬ y<0:=Int.not_lt.2 hp
     simp [eqGuard,binOp,Op.shift,hy])
theorem run_eqb (T:TypeId) (hu:P.underlying T=some .bool) (xo yo:Operand) (i j:Bool) (w:World):((do eqGuard .eql T xo yo (.bool i) (.bool j);binOp .eql T (.bool i) (.bool j)):Sem Value).run P w = .ok (.bool (i == j)) w:=by
  rw [eqGuard_at_bool]
  show ((Op.equalIn 10000 T (.bool i) (.bool j)) >>= fun b=>pure (Value.bool b)).run P w=_
  rw [Sem.run_bind,run_equalIn_bool w 9999 T i j hu];rfl
theorem run_neqb (T:TypeId) (hu:P.underlying T=some .bool) (xo yo:Operand) (i j:Bool) (w:World):((do eqGuard .neq T xo yo (.bool i) (.bool j);binOp .neq T (.bool i) (.bool j)):Sem Value).run P w = .ok (.bool (!(i == j))) w:=by
  rw [eqGuard_at_bool]
  show ((Op.equalIn 10000 T (.bool i) (.bool j)) >>= fun b=>pure (Value.bool (!b))).run P w=_
  rw [Sem.run_bind,run_equalIn_bool w 9999 T i j hu];rfl
theorem run_eqa {T:TypeId} {xo yo:Operand} {xs ys:Array Value} {z:Bool} {w:World} (g1:(eqGuard .eql T xo yo (.agg xs) (.agg ys)).run P w = .ok () w) (g3:(Op.equal T (.agg xs) (.agg ys)).run P w = .ok z w):((do eqGuard .eql T xo yo (.agg xs) (.agg ys);binOp .eql T (.agg xs) (.agg ys)):Sem Value).run P w = .ok (.bool z) w:=by
  rw [Sem.run_bind,g1]
  show ((Op.equal T (.agg xs) (.agg ys)) >>= fun b=>pure (Value.bool b)).run P w=_
  rw [Sem.run_bind,g3];rfl
theorem run_neqa {T:TypeId} {xo yo:Operand} {xs ys:Array Value} {z:Bool} {w:World} (g1:(eqGuard .neq T xo yo (.agg xs) (.agg ys)).run P w = .ok () w) (g3:(Op.equal T (.agg xs) (.agg ys)).run P w = .ok z w):((do eqGuard .neq T xo yo (.agg xs) (.agg ys);binOp .neq T (.agg xs) (.agg ys)):Sem Value).run P w = .ok (.bool (!z)) w:=by
  rw [Sem.run_bind,g1]
  show ((Op.equal T (.agg xs) (.agg ys)) >>= fun b=>pure (Value.bool (!b))).run P w=_
  rw [Sem.run_bind,g3];rfl
theorem op_binOp (ok:CxOk P X) (hS:Sat W w0 n β s a w) {op:BinOp} {T:TypeId} {x y:Operand} {yt:TypeId} (ho:o.op = .binOp op T x y yt) (h:absOp X s o=some e) (hp:e.pre) (hd:∀ d,o.dst=some d→d<n)
    (hK:∀ β' a' w',Sat W w0 n β' (s.app o.dst e) a' w'→K a' w'):o.wp P a w K Q:=by
  have hrun:(execOp a.eval o).run P w=((do eqGuard op T x y (a.eval x) (a.eval y);binOp op T (a.eval x) (a.eval y):Sem Value).run P w).andThen fun v w => .ok (.value v) w:=by
    unfold execOp;rw [ho];dsimp only;rw [Sem.run_bind];rfl
  have hx:=good1 hS x
  have hy:=good1 hS y
  simp only [absOp,req,req2,fin,ho,Op.operands,List.map_cons,List.map_nil] at h
  split at h
  · rename_i p x' q y' hfx hfy
    split at h
    · rename_i k i k' j h1 h2
      split at h
      · split at h
        · rename_i r z hz
          cases h
          have e1:=val_reads h1 (force_good hfx hp.1 hx).1
          have e2:=val_reads h2 (force_good hfy hp.2.1 hy).1
          refine done_val hS (v:=z) ?_ hd (fun y hy=>by cases hy;exact good_refs rfl rfl) rfl rfl hK
          rw [hrun,e1,e2,run_shOp hz hp.2.2];rfl
        · cases h
      · rename_i hk
        split at h
        · rename_i r z hz
          cases h
          have e1:=val_reads h1 (force_good hfx hp.1 hx).1
          have e2:=val_reads h2 (force_good hfy hp.2.1 hy).1
          have ek:k=k':=of_decide_eq_true hk
          subst ek
          refine done_val hS (v:=z) ?_ hd (fun y hy=>by cases hy;exact good_refs rfl rfl) rfl rfl hK
          rw [hrun,e1,e2,run_intOp hz hp.2.2];rfl
        · cases h
      · cases h
    · rename_i i j h1 h2
      split at h
      · rename_i hb
        cases h
        have e1:=val_reads h1 (force_good hfx hp.1 hx).1
        have e2:=val_reads h2 (force_good hfy hp.2 hy).1
        have hu:=(ok.ty T).bl hb
        refine done_val hS (v := .bool (i == j)) ?_ hd (fun y hy=>by cases hy;exact good_refs rfl rfl) rfl rfl hK
        rw [hrun,e1,e2,run_eqb T hu];rfl
      · rename_i hb
        cases h
        have e1:=val_reads h1 (force_good hfx hp.1 hx).1
        have e2:=val_reads h2 (force_good hfy hp.2 hy).1
        have hu:=(ok.ty T).bl hb
        refine done_val hS (v := .bool (!(i == j))) ?_ hd (fun y hy=>by cases hy;exact good_refs rfl rfl) rfl rfl hK
        rw [hrun,e1,e2,run_neqb T hu];rfl
      · cases h
    · rename_i hpn
      split at h
      · rename_i b' off' hpt
        cases h
        have e1:=(force_good hfx hp.1 hx).1
        have e2:=val_reads hpn (force_good hfy hp.2 hy).1
        refine done_val hS (v := .bool false) ?_ hd (fun y hy=>by cases hy;exact good_refs rfl rfl) rfl rfl hK
        rw [hrun,show a.eval x=_ from e1,e2,eqGuard_at_pointer,Sem.run_bind,Sem.run_pure,Result.andThen_ok,run_eql_pointer_nil _ _ _ ((ok.ty T).pt hpt)];rfl
      · rename_i b' off' hpt
        cases h
        have e1:=(force_good hfx hp.1 hx).1
        have e2:=val_reads hpn (force_good hfy hp.2 hy).1
        refine done_val hS (v := .bool true) ?_ hd (fun y hy=>by cases hy;exact good_refs rfl rfl) rfl rfl hK
        rw [hrun,show a.eval x=_ from e1,e2,eqGuard_at_pointer,Sem.run_bind,Sem.run_pure,Result.andThen_ok,run_neq_pointer_nil _ _ _ ((ok.ty T).pt hpt)];rfl
      · cases h
    · split at h
      · rename_i xs ys _ _ _
        split at h
        · rename_i z hz
          cases h
          obtain ⟨us,e1,r1⟩:=(force_good hfx hp.1 hx).1
          obtain ⟨vs,e2,r2⟩:=(force_good hfy hp.2 hy).1
          obtain ⟨g1,g2,g3⟩:=ok.eqs T xs ys z hz β us vs w x y r1 r2
          refine done_val hS (v := .bool z) ?_ hd (fun y hy=>by cases hy;exact good_refs rfl rfl) rfl rfl hK
          rw [hrun,e1,e2,run_eqa g1 g3];rfl
        · rename_i z hz
          cases h
          obtain ⟨us,e1,r1⟩:=(force_good hfx hp.1 hx).1
          obtain ⟨vs,e2,r2⟩:=(force_good hfy hp.2 hy).1
          obtain ⟨g1,g2,g3⟩:=ok.eqs T xs ys z hz β us vs w x y r1 r2
          refine done_val hS (v := .bool (!z)) ?_ hd (fun y hy=>by cases hy;exact good_refs rfl rfl) rfl rfl hK
          rw [hrun,e1,e2,run_neqa g2 g3];rfl
        · cases h
      · cases h
  · cases h
theorem op_unOp (hS:Sat W w0 n β s a w) {op:UnOp} {T:TypeId} {x:Operand} (ho:o.op = .unOp op T x) (h:absOp X s o=some e) (hp:e.pre) (hd:∀ d,o.dst=some d→d<n)
    (hK:∀ β' a' w',Sat W w0 n β' (s.app o.dst e) a' w'→K a' w'):o.wp P a w K Q:=by
  have hrun:(execOp a.eval o).run P w=((Op.unary op (a.eval x)).run P w).andThen fun v w => .ok (.value v) w:=by
    unfold execOp;rw [ho];simp
  have hx:=good1 hS x
  simp only [absOp,req,req2,fin,ho,Op.operands,List.map_cons,List.map_nil] at h
  split at h
  · rename_i p x' hf
    split at h
    · rename_i b hv
      cases h
      refine done_val hS (v := .bool (!b)) ?_ hd (fun y hy=>by cases hy;exact good_refs rfl rfl) rfl rfl hK
      rw [hrun,val_reads hv (force_good hf hp hx).1];rfl
    · rename_i k m hv
      cases h
      refine done_val hS (v := .int k (k.wrap (0-m))) ?_ hd (fun y hy=>by cases hy;exact good_refs rfl rfl) rfl rfl hK
      rw [hrun,val_reads hv (force_good hf hp hx).1];rfl
    · cases h
  · cases h
theorem op_convert (ok:CxOk P X) (hS:Sat W w0 n β s a w) {src dst:TypeId} {x:Operand} (ho:o.op = .convert src dst x) (hsrc:(P.underlying src).isSome=true) (h:absOp X s o=some e) (hp:e.pre) (hd:∀ d,o.dst=some d→d<n)
    (hK:∀ β' a' w',Sat W w0 n β' (s.app o.dst e) a' w'→K a' w'):o.wp P a w K Q:=by
  have hrun:(execOp a.eval o).run P w=((convert src dst (a.eval x)).run P w).andThen fun v w => .ok (.value v) w:=by
    unfold execOp;rw [ho];simp
  have hx:=good1 hS x
  simp only [absOp,req,req2,fin,ho,Op.operands,List.map_cons,List.map_nil] at h
  split at h
  · rename_i p x' hf
    split at h
    · rename_i k m k' hv hk
      cases h
      have hu:=(ok.ty dst).int k' hk
      obtain ⟨dd,hs⟩:=Option.isSome_iff_exists.1 hsrc
      refine done_val hS (v := .int k' (k'.wrap m)) ?_ hd (fun y hy=>by cases hy;exact good_refs rfl rfl) rfl rfl hK
      rw [hrun,val_reads hv (force_good hf hp hx).1]
      simp [convert,run_underlying hs,run_underlying hu,Conv.intToInt]
    · cases h
  · cases h
theorem pk_reads {v:Option TV} {ca:Option Bool} {xa:Bool} {u:Value} (hv:∀ y,v=some y→Good β s w y u) (h:pk v=some (ca,xa)) (hc:condOk ca):u = .bool xa:=by
  unfold pk at h
  split at h
  · rename_i c y
    split at h
    · rename_i x hx;cases h
      exact val_reads hx ((hv _ rfl).1.1 hc)
    · cases h
  · rename_i y _
    split at h
    · rename_i x hx;cases h
      exact val_reads hx (hv _ rfl).1
    · cases h
  · cases h
theorem op_pick (hS:Sat W w0 n β s a w) {c x y:Operand} (ho:o.op = .pick c x y) (h:absOp X s o=some e) (hp:e.pre) (hd:∀ d,o.dst=some d→d<n)
    (hK:∀ β' a' w',Sat W w0 n β' (s.app o.dst e) a' w'→K a' w'):o.wp P a w K Q:=by
  have hrun:∀ b,a.eval c = .bool b→(execOp a.eval o).run P w = .ok (.value (if b then a.eval x else a.eval y)) w:=by
    intro b hb
    unfold execOp;rw [ho];simp [hb,asBool]
  have hc:=good1 hS c
  have hx:=good1 hS x
  have hy:=good1 hS y
  simp only [absOp,req,req2,fin,ho,Op.operands,List.map_cons,List.map_nil] at h
  split at h
  · rename_i p c' ca xa cb xb hf h1 h2
    split at h
    · rename_i b hv
      cases h
      have hb:=val_reads hv (force_good hf hp.1 hc).1
      have k1:b=true→a.eval x = .bool xa:=fun e=>pk_reads hx h1 (hp.2.1 e)
      have k2:b=false→a.eval y = .bool xb:=fun e=>pk_reads hy h2 (hp.2.2 e)
      refine done_val hS (v := .bool (bif b then xa else xb)) ?_ hd (fun z hz=>by cases hz;exact good_refs rfl rfl) rfl rfl hK
      rw [hrun b hb]
      cases b with
      | true=>simp [k1 rfl]
      | false=>simp [k2 rfl]
    · cases h
  · cases h
end
section
variable {P:Program} {X:Cx} {W:Nat→Prop} {w0:World} {n:Nat} {β:Pl} {s:St} {a:Act} {w:World} {o:Oper} {e:Eff} {K:Act→World→Prop} {Q:Exit→Act→World→Prop}
theorem Sat.store (h:Sat W w0 n β s a w) {b off:Nat} {c0:A0} (hm:s.m b off=some c0) (hno:c0.noObs=true) {c:A0} {v:Value} (hr:c.reads β w v) (hv:v.oneCell'=true) (hrf:∀ r∈c.refs,s.T r≠none) :
    (∃ x,w.cell? ⟨β b,off,none⟩=some x)∧w.frozen? ⟨β b,off,none⟩=false∧Ag β.O w (w.setCell ⟨β b,off,none⟩ v) ∧
    Sat W w0 n β { s with m:=upd2 s.m b off (some c) } a (w.setCell ⟨β b,off,none⟩ v):=by
  obtain ⟨ty,arr,x0,hT,hty,hF,ha,hx0,_,_⟩:=h.cell hm hno
  have hTn:s.T b≠none:=by rw [hT];simp
  have hOb:β.O (β b):=(h.own b _ hTn ((hF _).2 rfl)).1
  have hlt:off<arr.size:=(Array.getElem?_eq_some_iff.1 hx0).1
  have hag:Ag β.O w (w.setCell ⟨β b,off,none⟩ v):=ag_setCell w _ v hOb
  have ha':=setCell_heap (w:=w) (p:=⟨β b,off,none⟩) (v:=v) ha rfl
  refine ⟨⟨x0,by unfold World.cell?;rw [ha];exact hx0⟩,by unfold World.frozen?;rw [ha];simp,hag,?_⟩
  refine h.step (T':=s.T) (m':=upd2 s.m b off (some c)) hag (fun _ _ hk=>hk) (fun _ _=>⟨rfl,rfl,rfl⟩) (fun _ hb=>hb) (fun b' ty' hT'=>?_) (fun b' off' hm'=>?_) (fun b' off' c' hm' r hr'=>?_) h.disj h.own (fun k hk=>by simpa [World.setCell] using h.lt k hk) ?_
  · by_cases e:b'=b
    · subst e
      right
      rw [hT] at hT'
      cases hT'
      have hB:=h.box b' ty hT
      refine ⟨hB.one,fun e=>absurd e hty,fun _=>⟨hF,arr.setIfInBounds off v,ha',fun off' c' hm'=>?_⟩,fun k a0 hk hne=>?_⟩
      case refine_2 =>
        obtain ⟨g1,g2⟩:=hB.rst k a0 hk hne
        refine ⟨fun arr1 h1 off1 ho=>?_,fun off1 ho=>?_⟩
        · rw [ha'] at h1
          cases h1
          have:=g2 off (by rw [hm];simp)
          rw [Array.getElem?_setIfInBounds_ne (show off≠off1 by omega)]
          exact g1 arr ha off1 ho
        · simp only [upd2] at ho
          by_cases eo:off1=off
          · subst eo;exact g2 off1 (by rw [hm];simp)
          · rw [if_neg (by simp [eo])] at ho;exact g2 off1 ho
      obtain ⟨_,arr2,h2,h3⟩:=hB.cel hty
      rw [ha] at h2
      cases h2
      simp only [upd2] at hm'
      by_cases eo:off'=off
      · subst eo
        rw [if_pos (by simp)] at hm'
        cases hm'
        exact ⟨v,by simp [hlt],hv,A0.to hr hag (fun _ _ hk=>hk) (fun _ _=>rfl)⟩
      · rw [if_neg (by simp [eo])] at hm'
        obtain ⟨x,hx,h5,hrx⟩:=h3 off' c' hm'
        exact ⟨x,by rw [Array.getElem?_setIfInBounds_ne (by omega)];exact hx,h5,A0.to hrx hag (fun _ _ hk=>hk) (fun _ _=>rfl)⟩
    · left
      refine ⟨hT',funext fun off'=>by simp [upd2,e],fun _=>Iff.rfl,fun k hk=>Below.heap_setCell w _ v k (fun ek=>e ?_)⟩
      subst ek
      exact h.disj b' b _ (by rw [hT'];simp) hTn hk ((hF _).2 rfl)
  · simp only [upd2] at hm'
    by_cases e:b'=b∧off'=off
    · rw [e.1];exact hTn
    · rw [if_neg e] at hm'
      exact h.has b' off' hm'
  · simp only [upd2] at hm'
    by_cases e:b'=b∧off'=off
    · rw [if_pos e] at hm'
      cases hm'
      exact hrf r hr'
    · rw [if_neg e] at hm'
      exact h.refm b' off' c' hm' r hr'
  · refine Ag.then h.below (ag_setCell (O:=fun k=>k=β b) w ⟨β b,off,none⟩ v rfl) (fun k hk hk'=>?_)
    subst hk'
    rcases (h.own b _ hTn ((hF _).2 rfl)).2 with h1|h1
    · omega
    · exact h1
theorem store_all (b:Nat):∀ (ys:List A0) (us:List Value) (off i:Nat) (s:St) (w:World),Sat W w0 n β s a w→All2 (A0.reads β w) ys us→(∀ u∈us,u.oneCell'=true)→(∀ y∈ys,y.noObs=true∧∀ r∈y.refs,s.T r≠none)→(∀ j,j<ys.length→∃ c,s.m b (off+i+j)=some c∧c.noObs=true) →
    ∃ w',(storeCells ⟨β b,off,none⟩ us i).run P w = .ok () w'∧Sat W w0 n β { s with m:=St.wrs s.m ((span b (off+i) ys.length).zipWith (fun p y=>(p.1,p.2,y)) ys) } a w'
  | [],us,off,i,s,w,hS,hr,hok,hrf,hm=>by
    cases hr
    exact ⟨w,rfl,by simpa [span,St.wrs] using hS⟩
  | y :: ys, us, off, i, s, w, hS, hr, hok, hrf, hm => by
    cases hr with
    | cons h1 h2 =>
      rename_i u us
      obtain ⟨c0,hc0,hno0⟩:=hm 0 (by simp)
      obtain ⟨⟨x0,hx0⟩,hfr,hag,hS1⟩:=hS.store (b:=b) (off:=off+i) (by simpa using hc0) hno0 h1 (hok u (by simp)) (hrf y (by simp)).2
      have hu:u.oneCell'=true:=hok u (by simp)
      obtain ⟨w',hrun,hS2⟩:=store_all b ys us off (i+1) _ _ hS1 (All2.imp (fun _ _ h=>A0.to h hag (fun _ _ hk=>hk) (fun _ _=>rfl)) h2) (fun u' hu'=>hok u' (List.mem_cons_of_mem _ hu')) (fun y' hy'=>hrf y' (List.mem_cons_of_mem _ hy')) (fun j hj=>by
        show ∃ c,upd2 s.m b (off+i) (some y) b (off+(i+1)+j)=some c∧_
        simp only [upd2]
        rw [if_neg (by omega)]
        have:=hm (j+1) (by simp;omega)
        rwa [show off+i+(j+1)=off+(i+1)+j by omega] at this)
      refine ⟨w',?_,?_⟩
      · rw [storeCells,Sem.run_bind,addr_add,run_store P w _ _ _ hu]
        simp only [hx0,hfr,Bool.false_eq_true,if_false,Result.andThen_ok]
        exact hrun
      · rw [show off+(i+1)=off+i+1 by omega] at hS2
        simpa [span,List.range'_succ,St.wrs] using hS2
theorem own_setInt {k:IntKind} {e:TypeId} {l:List Int} {F:Nat→Prop} {u:Value} (h:(D.ints k e l).own F w u) {i:Int} (h0:0≤i) (h1:i<(l.length:Int)) (x:Int):∃ g m c,u = .slice (some ⟨g,0,none⟩) m c∧F g∧(∃ arr,w.heap[g]?=some (.cells arr e (0,0))∧i.toNat<arr.size)∧(D.ints k e (l.set i.toNat x)).own F (w.setCell ⟨g,i.toNat,none⟩ (.int k x)) u:=by
  have hown:=Kd.own_of_R (enc:=Value.int k) (h1:=fun _=>rfl) h
  obtain ⟨hln,hown'⟩:=hown
  rcases hown' with ⟨rfl,hn⟩|⟨g,cap,cur,hu,hbg,hg,hnc,hcm,hcs,htake⟩
  · have:l.length=0:=hn
    omega
  · have hFg:F g:=h.1 g (by rw [hu];simp [Value.ownBlock])
    have hlen:l.length≤cur.size:=by rw [hcs];omega
    refine ⟨g,_,cap,hu,hFg,⟨cur,hg,by omega⟩,?_⟩
    refine Kd.R_of_own (enc:=Value.int k) (h1:=fun _=>rfl) ?_ h.1
    refine ⟨by simp [encs],.inr ⟨g,cap,cur.setIfInBounds i.toNat (.int k x),by simpa using hu,hbg,?_,by simpa using hnc,hcm,by simpa using hcs,?_⟩⟩
    · exact setCell_heap (w:=w) (p:=⟨g,i.toNat,none⟩) hg rfl
    · apply List.ext_getElem?
      intro j
      have hj:=congrArg (fun t=>t[j]?) htake
      simp only [List.getElem?_take,Array.getElem?_toList] at hj ⊢
      simp only [List.length_set,encs,List.getElem?_map] at hj ⊢
      by_cases hjl:j<l.length*1
      · rw [if_pos hjl] at hj ⊢
        by_cases hji:i.toNat=j
        · subst hji
          rw [List.getElem?_set_self (by omega),Array.getElem?_setIfInBounds_self_of_lt (by omega)]
          rfl
        · rw [List.getElem?_set_ne hji,Array.getElem?_setIfInBounds_ne hji];exact hj
      · rw [if_neg hjl]
        rw [List.getElem?_eq_none (by simp;omega)]
        rfl
theorem op_store (ok:CxOk P X) (hS:Sat W w0 n β s a w) {T:TypeId} {x y:Operand} (ho:o.op = .store T x y) (hdst:o.dst=none) (h:absOp X s o=some e) (hp:e.pre)
    (hK:∀ β' a' w',Sat W w0 n β' (s.app o.dst e) a' w'→K a' w'):o.wp P a w K Q:=by
  have hx:=good1 hS x
  have hy:=good1 hS y
  simp only [absOp,req,req2,fin,ho,Op.operands,List.map_cons,List.map_nil] at h
  split at h
  · rename_i p b off q z hfx hfy
    rw [hfx] at h
    simp only at h
    split at h
    · rename_i ys l hys hl
      split at h
      · rename_i hc
        cases h
        obtain ⟨hlen,hall,hpos,hno⟩:=hc
        have gx:=(force_good hfx hp.1 hx).1
        have gy:=force_good hfy hp.2 hy
        have hr1:∀ r∈z.refs,Cell1 (β.v r):=fun r hr=>hS.oneV (gy.2 r hr)
        obtain ⟨⟨us,hus,hru⟩,hrf⟩:=cells_reads hys gy.1 hr1
        have hone:=okAll hru hall (by rw [← hrf];exact hr1)
        obtain ⟨inf,hi,hsz⟩:=(ok.ty T).size (by omega)
        have hm:=allSome_get hl
        obtain ⟨w',hrun,hS'⟩:=store_all (P:=P) b ys us off 0 s w hS hru hone (fun y' hy'=>⟨(by
          have:=List.all_eq_true.1 hall y' hy'
          cases y'<;>first|rfl|cases this),fun r hr=>gy.2 r (by rw [hrf];exact List.mem_flatMap.2 ⟨y',hy',hr⟩)⟩) (fun j hj=>by
          have h1:=congrArg (fun t=>t[j]?) hm
          simp only [span,List.map_map,List.getElem?_map] at h1
          rw [List.getElem?_range' (by omega)] at h1
          simp only [Option.map_some,Function.comp] at h1
          cases hlj:l[j]? with
          | none =>
            have:=congrArg List.length hm
            simp [span] at this
            have:=List.getElem?_eq_none_iff.1 hlj
            omega
          | some c =>
            rw [hlj] at h1
            simp at h1
            exact ⟨c,by simpa using h1,List.all_eq_true.1 hno c (List.mem_of_getElem? hlj)⟩)
        have hlu:=All2.length hru
        have hrun2:(execOp a.eval o).run P w = .ok .skip w':=by
          unfold execOp;rw [ho]
          dsimp only
          rw [show a.eval x=_ from gx]
          simp [Instr.storeAt,Instr.sureAddr,storeVar,run_sizeOf' hi,hus,hsz,← hlen,hlu,hrun]
        unfold Oper.wp
        rw [hrun2,Oper.upon_skip]
        refine hK β _ _ ?_
        rw [hdst]
        simp only [Nat.add_zero,hlen] at hS'
        simpa [St.app,St.after,St.app0,Act.put,lookN] using hS'
      · cases h
    · cases h
  · rename_i p b i q k' x' hfx hfy
    rw [hfx] at h
    simp only [List.map_cons,List.map_nil] at h
    split at h
    · rename_i k e' l hm hag hsz1
      split at h
      case isFalse=>cases h
      rename_i hk
      subst hk
      cases h
      have hm':s.m b 0=some (.obs (.ints k' e' l)):=by simpa using hm
      obtain ⟨A,m,c,e1,h0,e2⟩:=(force_good hfx hp.1 hx).1
      have ey:a.eval y = .int k' x':=(force_good hfy hp.2.1 hy).1
      obtain ⟨hTb,hown⟩:=hS.ob hm'
      have hTn:s.T b≠none:=by rw [hTb];simp
      obtain ⟨g,m',c',e3,hFg,⟨arr,harr,hlt⟩,hown'⟩:=own_setInt hown hp.2.2.1 hp.2.2.2 x'
      rw [e1] at e3
      cases e3
      obtain ⟨inf,hi,hsz⟩:=(ok.ty T).size (by omega)
      have hOg:=hS.own b g hTn hFg
      have hagw:Ag β.O w (w.setCell ⟨g,i.toNat,none⟩ (.int k' x')):=ag_setCell w _ _ hOg.1
      have hrun2:(execOp a.eval o).run P w = .ok .skip (w.setCell ⟨g,i.toNat,none⟩ (.int k' x')):=by
        unfold execOp;rw [ho]
        dsimp only
        rw [e2,ey,addr_add,Nat.zero_add]
        have hcell:w.cell? ⟨g,i.toNat,none⟩=some arr[i.toNat]:=by unfold World.cell?;rw [harr];simp [hlt]
        have hfr:w.frozen? ⟨g,i.toNat,none⟩=false:=by unfold World.frozen?;rw [harr];simp
        have hst:(storeCells ⟨g,i.toNat,none⟩ [Value.int k' x'] 0).run P w = .ok () (w.setCell ⟨g,i.toNat,none⟩ (.int k' x')):=by
          rw [storeCells,Sem.run_bind,addr_add,Nat.add_zero,run_store P w _ _ _ (show (Value.int k' x').oneCell'=true from rfl)]
          simp [hcell,hfr,storeCells]
        simp [Instr.storeAt,Instr.sureAddr,storeVar,run_sizeOf' hi,hsz,hsz1,Value.cells,hst]
      unfold Oper.wp
      rw [hrun2,Oper.upon_skip]
      refine hK β _ _ ?_
      rw [hdst]
      have:=hS.step (T':=s.T) (m':=upd2 s.m b 0 (some (.obs (.ints k' e' (l.set i.toNat x'))))) hagw (fun _ _ hk=>hk) (fun _ _=>⟨rfl,rfl,rfl⟩) (fun _ hb=>hb) (fun b' ty' hT'=>by
        by_cases e:b'=b
        · subst e
          right
          rw [hTb] at hT'
          cases hT'
          refine ⟨(hS.box b' _ hTb).one,fun _ off c hc=>?_,fun e=>absurd rfl e,fun _ _ _ hne=>absurd rfl hne⟩
          simp only [upd2] at hc
          by_cases eo:off=0
          · subst eo
            rw [if_pos (by simp)] at hc
            cases hc
            exact ⟨rfl,_,rfl,hown'⟩
          · rw [if_neg (by simp [eo])] at hc
            exact absurd ((hS.box b' _ hTb).obj rfl off c hc).1 eo
        · left
          refine ⟨hT',funext fun off'=>by simp [upd2,e],fun _=>Iff.rfl,fun k hk=>Below.heap_setCell w _ _ k (fun ek=>e ?_)⟩
          subst ek
          exact hS.disj b' b _ (by rw [hT'];simp) hTn hk hFg) (fun b' off' hm'=>by
        simp only [upd2] at hm'
        by_cases e:b'=b∧off'=0
        · rw [e.1];exact hTn
        · rw [if_neg e] at hm'
          exact hS.has b' off' hm') (fun b' off' c' hm' r hr'=>by
        simp only [upd2] at hm'
        by_cases e:b'=b∧off'=0
        · rw [if_pos e] at hm'
          cases hm'
          simp [A0.refs] at hr'
        · rw [if_neg e] at hm'
          exact hS.refm b' off' c' hm' r hr') hS.disj hS.own (fun k hk=>by simpa [World.setCell] using hS.lt k hk) (Ag.then hS.below (ag_setCell (O:=fun k=>k=g) w ⟨g,i.toNat,none⟩ (.int k' x') rfl) (fun k hk hk'=>by
        subst hk'
        rcases hOg.2 with h1|h1
        · omega
        · exact h1))
      simpa [St.app,St.after,St.app0,Act.put,lookN,St.wrs] using this
    · cases h
  · cases h
end
end Go.Proofs.YtcgknibjbnijmaaW.Sy
end
section
set_option linter.unusedVariables false
set_option linter.unusedSimpArgs false
namespace Go.Proofs.YtcgknibjbnijmaaW.Sy
open Go RowKit YtcgknibjbnijmaaW.PrintWords YtcgknibjbnijmaaW.PrintMore YtcgknibjbnijmaaW.Aid YtcgknibjbnijmaaW.Big
section
variable {P:Program} {X:Cx} {W:Nat→Prop} {w0:World} {n:Nat} {β:Pl} {s:St} {a:Act} {w:World} {o:Oper} {e:Eff} {K:Act→World→Prop} {Q:Exit→Act→World→Prop}
theorem out_of {O:Nat→Prop} {ad:Addr} {x:Value} (hx:w.cell? ad=some x) (h:∀ w1,Ag O w w1→∃ y,w1.cell? ad=some y):ad.block<w.heap.size∧¬ O ad.block:=by
  have hlt:=World.block_lt_of_cell? w _ hx
  refine ⟨hlt,fun hO=>?_⟩
  obtain ⟨y,hy⟩:=h { w with heap:=w.heap.setIfInBounds ad.block (.cells #[] 0 (0,0)) } ⟨rfl,rfl,rfl,by simp,fun k hk hk'=>by
    show (w.heap.setIfInBounds ad.block _)[k]?=_
    rw [Array.getElem?_setIfInBounds_ne (fun e=>hk' (by rw [← e];exact hO))]⟩
  unfold World.cell? at hy
  simp only [Array.getElem?_setIfInBounds_self_of_lt hlt] at hy
  split at hy<;>simp at hy
theorem rdk_get {k:IntKind} {l:List Int} {A:Option Addr} {c:Nat} (h:RdK w k l A c) {i:Int} (h0:0≤i) (h1:i<(l.length:Int)):∃ ad,A=some ad∧w.cell? (ad.add i.toNat)=some (.int k (rd l i)):=by
  obtain ⟨ad',cs,e2,e3,e4,e5⟩:=ReadsRow.get_ h.2 (0:Int) i h0 (by omega)
  have e3':cs=[.int k (l.getD i.toNat 0)]:=e4
  have:=e5 0 (.int k (l.getD i.toNat 0)) (by rw [e3'];rfl)
  rw [show i.toNat*(Kd.int k).sz+0=i.toNat from by show i.toNat*1+0=_;omega] at this
  exact ⟨ad',e2,this⟩
theorem asSl_rd {x:TV} {k:IntKind} {l:List Int} {u:Value} (h:x.asSl=some (k,l)) (hr:x.reads β w u):∀ w1,Ag β.O w w1→rdSl w1 k l u:=by
  unfold TV.asSl at h
  split at h
  · cases h;exact hr
  · cases h;exact hr
  · cases h
theorem asSl_reads {x:TV} {k:IntKind} {l:List Int} {u:Value} (h:x.asSl=some (k,l)) (hr:x.reads β w u) (hl:0<l.length):∃ ad c,u = .slice (some ad) l.length c∧∀ w1,Ag β.O w w1→∀ i:Int,0≤i→i<(l.length:Int)→w1.cell? (ad.add i.toNat)=some (.int k (rd l i)):=by
  have hr':=asSl_rd h hr
  obtain ⟨A,c,e,hR⟩:=hr' w (Ag.refl _ _)
  obtain ⟨ad,rfl,_⟩:=rdk_get hR (Int.le_refl 0) (by omega)
  refine ⟨ad,c,e,fun w1 h1 i h0 hi=>?_⟩
  obtain ⟨A',c',e',hR'⟩:=hr' w1 h1
  rw [e] at e'
  cases e'
  obtain ⟨ad',e2,h2⟩:=rdk_get hR' h0 hi
  cases e2
  exact h2
theorem flat_get {α:Type} {d:Kd α} {l:List α} {u:Value} {rdf:World→Prop} (hr:∀ w1,Ag β.O w w1→∃ A c,u = .slice A l.length c∧l.length≤c∧Kd.C d w1 A l.length l) (hs:0<d.sz) (z:α) {i:Int} (h0:0≤i) (h1:i<(l.length:Int)):∃ ad m c,u = .slice (some ad) m c∧Outs β w ad∧∀ w1,Ag β.O w w1→∃ cs:List Value,cs.length=d.sz∧d.K w1 (l.getD i.toNat z) cs∧∀ (j:Nat) v,cs[j]?=some v→w.cell? ((ad.add (i.toNat*d.sz)).add j)=some v:=by
  obtain ⟨A,c,e,hc,hC⟩:=hr w (Ag.refl _ _)
  obtain ⟨ad,cs,rfl,hcl,hK,hcc⟩:=Kd.C_get hC z i h0 h1
  have hfirst:∀ w1,Ag β.O w w1→∃ y,w1.cell? (ad.add (i.toNat*d.sz+0))=some y:=by
    intro w1 ha
    obtain ⟨A',c',e',hc',hC'⟩:=hr w1 ha
    rw [e] at e';cases e'
    obtain ⟨ad',cs',e2,hcl',_,hcc'⟩:=Kd.C_get hC' z i h0 h1
    cases e2
    exact ⟨cs'[0],hcc' 0 _ (List.getElem?_eq_getElem (by omega))⟩
  obtain ⟨y,hy⟩:=hfirst w (Ag.refl _ _)
  have hout:=out_of hy hfirst
  rw [add_block] at hout
  refine ⟨ad,_,c,e,hout,fun w1 ha=>?_⟩
  obtain ⟨A',c',e',hc',hC'⟩:=hr w1 ha
  rw [e] at e';cases e'
  obtain ⟨ad',cs',e2,hcl',hK',hcc'⟩:=Kd.C_get hC' z i h0 h1
  cases e2
  refine ⟨cs',hcl',hK',fun j v hj=>?_⟩
  have:=hcc' j v hj
  rw [World.cell?_of_block (w:=w) (by rw [add_block];exact ha.block _ hout.1 hout.2)] at this
  rw [addr_add_add];exact this
theorem op_row {D:D} {u:Value} (h:(A0.op D).reads β w u) (hs:0<D.rowN) {i:Int} (h0:0≤i) (h1:i<(D.len:Int)):∃ ad m c,u = .slice (some ad) m c∧Outs β w ad∧CellsAt β w (ad.add (i.toNat*D.rowN)) (D.rowC i.toNat):=by
  have h':∀ w1,Ag β.O w w1→D.rd w1 u:=h
  cases D with
  | ints k e l=>exact absurd hs (Nat.lt_irrefl 0)
  | flat e sz l =>
    obtain ⟨ad,m,c,e1,ho,hc⟩:=flat_get (rdf:=fun _=>True) h' hs ([]:List Int) h0 h1
    refine ⟨ad,m,c,e1,ho,fun j q hj=>?_⟩
    obtain ⟨cs,hl,⟨hK,hsz⟩,hcc⟩:=hc w (Ag.refl _ _)
    have hj':((List.range sz).map fun j=>A0.v (.int .i64 ((l.getD i.toNat []).getD j 0)))[j]?=some q:=hj
    rw [List.getElem?_map] at hj'
    obtain ⟨x,hx,rfl⟩:=Option.map_eq_some_iff.1 hj'
    obtain ⟨hjs,hxj⟩:=List.getElem?_eq_some_iff.1 hx
    have hjs':j<sz:=by simpa using hjs
    have hxj':x=j:=by rw [← hxj];simp
    subst hxj'
    refine ⟨.int .i64 ((l.getD i.toNat []).getD x 0),hcc x _ ?_,rfl,rfl⟩
    rw [hK,List.getElem?_map,List.getD_eq_getElem?_getD (l:=l.getD i.toNat []),List.getElem?_eq_getElem (by omega)]
    rfl
  | frs e eb l =>
    obtain ⟨ad,m,c,e1,ho,hc⟩:=flat_get (rdf:=fun _=>True) h' hs ((0,0,[]):FrD) h0 h1
    refine ⟨ad,m,c,e1,ho,fun j q hj=>?_⟩
    have key:∀ w1,Ag β.O w w1→∃ A c',w.cell? ((ad.add (i.toNat*3)).add 0)=some (.int .i64 (l.getD i.toNat (0,0,[])).1)∧w.cell? ((ad.add (i.toNat*3)).add 1)=some (.int .i64 (l.getD i.toNat (0,0,[])).2.1)∧w.cell? ((ad.add (i.toNat*3)).add 2)=some (.slice A (l.getD i.toNat (0,0,[])).2.2.length c')∧RdK w1 .u8 (l.getD i.toNat (0,0,[])).2.2 A c':=by
      intro w1 ha
      obtain ⟨cs,hl,⟨c0,c1,rfl,k0,c2,c3,rfl,k1,A,c',rfl,hlc,k2⟩,hcc⟩:=hc w1 ha
      have k0':c0=[.int .i64 (l.getD i.toNat (0,0,[])).1]:=k0
      have k1':c2=[.int .i64 (l.getD i.toNat (0,0,[])).2.1]:=k1
      subst k0' k1'
      exact ⟨A,c',hcc 0 _ rfl,hcc 1 _ rfl,hcc 2 _ rfl,hlc,k2⟩
    obtain ⟨A,c',g0,g1,g2,_⟩:=key w (Ag.refl _ _)
    match j,hj with
    | 0,hj=>obtain rfl:=(Option.some.inj hj).symm;exact ⟨_,g0,rfl,rfl⟩
    | 1,hj=>obtain rfl:=(Option.some.inj hj).symm;exact ⟨_,g1,rfl,rfl⟩
    | 2,hj =>
      obtain rfl:=(Option.some.inj hj).symm
      refine ⟨_,g2,fun w1 ha=>?_,rfl⟩
      obtain ⟨A',c'',_,_,g2',hR⟩:=key w1 ha
      rw [g2] at g2'
      cases g2'
      exact ⟨A,c',rfl,hR⟩
theorem op_indexAddr (ok:CxOk P X) (hS:Sat W w0 n β s a w) {T:TypeId} {x y:Operand} (ho:o.op = .indexAddr T x y) (h:absOp X s o=some e) (hp:e.pre) (hd:∀ d,o.dst=some d→d<n)
    (hK:∀ β' a' w',Sat W w0 n β' (s.app o.dst e) a' w'→K a' w'):o.wp P a w K Q:=by
  have hrun:(execOp a.eval o).run P w=((Instr.indexAt T (a.eval x) (a.eval y)).run P w).andThen fun v w => .ok (.value v) w:=by
    unfold execOp;rw [ho];simp
  have hx:=good1 hS x
  have hy:=good1 hS y
  have sl:∀ el ad (len cap:Nat) ki (i:Int) inf,P.underlying T=some (.slice el)→P.info? el=some inf→0≤i→i<(len:Int)→(Instr.indexAt T (.slice (some ad) len cap) (.int ki i)).run P w = .ok (.pointer (some (ad.add (i.toNat*inf.size)))) w:=by
    intro el ad len cap ki i inf hu hi h0 h1
    simp [Instr.indexAt,run_underlying hu,asIntOf,h0,h1,run_sizeOf' hi]
  have ar:∀ m el ad ki (i:Int) inf,P.underlying T=some (.array m el)→P.info? el=some inf→0≤i→i<(m:Int)→(Instr.indexAt T (.pointer (some ad)) (.int ki i)).run P w = .ok (.pointer (some (ad.add (i.toNat*inf.size)))) w:=by
    intro m el ad ki i inf hu hi h0 h1
    simp [Instr.indexAt,run_underlying hu,asIntOf,h0,h1,run_sizeOf' hi,Instr.sureAddr]
  simp only [absOp,req,req2,fin,ho,Op.operands,List.map_cons,List.map_nil] at h
  split at h
  · rename_i p x' q ki i el hfx hfy helt
    have hu:=(ok.ty T).slc el helt
    split at h
    · rename_i k l hsl
      split at h
      · rename_i hsz
        cases h
        have gx:=(force_good hfx hp.1 hx).1
        have gy:a.eval y = .int ki i:=(force_good hfy hp.2.1 hy).1
        obtain ⟨ad,c,hA,hcl⟩:=asSl_reads hsl gx (by have:=hp.2.2.1;have:=hp.2.2.2;omega)
        have h0:=hp.2.2.1
        have h1:=hp.2.2.2
        obtain ⟨inf,hi,hsi⟩:=(ok.ty el).size (by omega)
        refine done_val hS (v := .pointer (some (ad.add i.toNat))) ?_ hd (fun z hz=>?_) rfl rfl hK
        · rw [hrun,hA,gy,sl el ad _ c ki i inf hu hi h0 h1,hsi,hsz,Nat.mul_one];rfl
        · cases hz
          exact good_refs ⟨_,rfl,h0,h1,fun w1 h'=>hcl w1 h' i h0 h1⟩ rfl
      · cases h
    · rename_i D hno
      split at h
      · rename_i hsz
        cases h
        have gx:=(force_good hfx hp.1 hx).1
        have gy:a.eval y = .int ki i:=(force_good hfy hp.2.1 hy).1
        have h0:=hp.2.2.1
        have h1:=hp.2.2.2
        obtain ⟨ad,m,c,hA,hO,hcs⟩:=op_row gx hsz.2 h0 h1
        obtain ⟨inf,hi,hsi⟩:=(ok.ty el).size (by omega)
        refine done_val hS (v := .pointer (some (ad.add (i.toNat*D.rowN)))) ?_ hd (fun z hz=>?_) rfl rfl hK
        · have hm:i<(m:Int):=by
            obtain ⟨A',c',e'⟩:=D.rd_slice ((show ∀ w1,Ag β.O w w1→D.rd w1 _ from gx) w (Ag.refl _ _))
            rw [hA] at e';cases e';exact h1
          rw [hrun,hA,gy,sl el ad _ c ki i inf hu hi h0 hm,hsi,hsz.1];rfl
        · cases hz
          exact good_refs ⟨_,rfl,hO.add _,hcs⟩ rfl
      · cases h
    · rename_i b hno
      split at h
      · rename_i k e' l hm
        split at h
        · rename_i hsz
          cases h
          have gx:=force_good hfx hp.1 hx
          have gy:a.eval y = .int ki i:=(force_good hfy hp.2.1 hy).1
          have h0:=hp.2.2.1
          have h1:=hp.2.2.2
          have hm':s.m b 0=some (.obs (.ints k e' l)):=by
            rw [hfx] at hm
            simpa [refP,A0.refs] using hm
          obtain ⟨A,m,c,e3,hcell⟩:=own_int (hS.ob hm').2 h0 h1
          have hm1:i<(m:Int):=by
            obtain ⟨A',c',e',_⟩:=Kd.R_reads (hS.ob hm').2
            rw [e3] at e';cases e';exact h1
          obtain ⟨inf,hi,hsi⟩:=(ok.ty el).size (by omega)
          refine done_val hS (v := .pointer (some (A.add i.toNat))) ?_ hd (fun z hz=>?_) rfl rfl hK
          · rw [hrun,show a.eval x=β.v b from gx.1,e3,gy,sl el A _ c ki i inf hu hi h0 hm1,hsi,hsz,Nat.mul_one];rfl
          · cases hz
            exact ⟨⟨A,m,c,e3,h0,rfl⟩,gx.2⟩
        · cases h
      · cases h
    · rename_i b off m sz hno
      split at h
      · rename_i hsz
        cases h
        have gx:=force_good hfx hp.1 hx
        have gy:a.eval y = .int ki i:=(force_good hfy hp.2.1 hy).1
        obtain ⟨c,hA,hc⟩:=gx.1
        have h0:=hp.2.2.1
        have h1:=hp.2.2.2
        obtain ⟨inf,hi,hsi⟩:=(ok.ty el).size (by omega)
        refine done_val hS (v := .pointer (some ⟨β b,off+i.toNat*sz,none⟩)) ?_ hd (fun z hz=>?_) rfl rfl hK
        · rw [hrun,hA,gy,sl el _ _ c ki i inf hu hi h0 h1,hsi,hsz.1,addr_add];rfl
        · cases hz
          exact ⟨rfl,gx.2⟩
      · cases h
    · rename_i m l hno
      split at h
      · rename_i hsz
        cases h
        have gx:=force_good hfx hp.1 hx
        have gy:a.eval y = .int ki i:=(force_good hfy hp.2.1 hy).1
        obtain ⟨A,c,hA,hc,hcell⟩:=gx.1
        have h0:=hp.2.2.1
        have h1:=hp.2.2.2
        obtain ⟨ad,rfl,hbl,hcs⟩:=hcell (by omega)
        obtain ⟨inf,hi,hsi⟩:=(ok.ty el).size (by omega)
        refine done_val hS (v := .pointer (some (ad.add (i.toNat*(X.ti el).size)))) ?_ hd (fun z hz=>?_) rfl rfl hK
        · rw [hrun,hA,gy,sl el ad _ c ki i inf hu hi h0 h1,hsi];rfl
        · cases hz
          refine good_refs ⟨_,rfl,?_,fun j c hj=>?_⟩ rfl
          · exact hbl.add _
          · rw [addr_add_add]
            exact hcs _ _ (by simpa using hj)
      · cases h
    · rename_i m sz f hno
      split at h
      · rename_i hsz
        cases h
        have gx:=force_good hfx hp.1 hx
        have gy:a.eval y = .int ki i:=(force_good hfy hp.2.1 hy).1
        obtain ⟨A,c,hA,hc,hcell⟩:=gx.1
        have h0:=hp.2.2.1
        have h1:=hp.2.2.2
        obtain ⟨ad,rfl,hbl,hcs⟩:=hcell (by omega)
        obtain ⟨inf,hi,hsi⟩:=(ok.ty el).size (by omega)
        refine done_val hS (v := .pointer (some (ad.add (i.toNat*sz)))) ?_ hd (fun z hz=>?_) rfl rfl hK
        · rw [hrun,hA,gy,sl el ad _ c ki i inf hu hi h0 h1,hsi,hsz.1];rfl
        · cases hz
          refine good_refs ⟨_,rfl,?_,hcs i.toNat (by omega)⟩ rfl
          exact hbl.add _
      · cases h
    · cases h
  · rename_i p b off q ki i m el hfx hfy helt
    split at h
    · rename_i hsz
      cases h
      have hu:=(ok.ty T).arr m el helt
      have gx:=force_good hfx hp.1 hx
      have gy:a.eval y = .int ki i:=(force_good hfy hp.2.1 hy).1
      obtain ⟨inf,hi,hsi⟩:=(ok.ty el).size (by omega)
      refine done_val hS (v := .pointer (some ⟨β b,off+i.toNat*(X.ti el).size,none⟩)) ?_ hd (fun z hz=>?_) rfl rfl hK
      · rw [hrun,show a.eval x=_ from gx.1,gy,ar m el _ ki i inf hu hi hp.2.2.1 hp.2.2.2,hsi,addr_add];rfl
      · cases hz
        exact ⟨rfl,gx.2⟩
    · cases h
  · rename_i p l q ki i m el hfx hfy helt
    split at h
    · rename_i hsz
      cases h
      have hu:=(ok.ty T).arr m el helt
      obtain ⟨ad,hA,hbl,hcs⟩:=(force_good hfx hp.1 hx).1
      have gy:a.eval y = .int ki i:=(force_good hfy hp.2.1 hy).1
      obtain ⟨inf,hi,hsi⟩:=(ok.ty el).size (by omega)
      refine done_val hS (v := .pointer (some (ad.add (i.toNat*(X.ti el).size)))) ?_ hd (fun z hz=>?_) rfl rfl hK
      · rw [hrun,hA,gy,ar m el ad ki i inf hu hi hp.2.2.1 hp.2.2.2,hsi];rfl
      · cases hz
        refine good_refs ⟨_,rfl,?_,fun j c hj=>?_⟩ rfl
        · exact hbl.add _
        · rw [addr_add_add]
          exact hcs _ _ (by simpa using hj)
    · cases h
  · cases h
theorem all2_append {α β:Type} {R:α→β→Prop} {l1 l2:List α} {m1 m2:List β} (h1:All2 R l1 m1) (h2:All2 R l2 m2):All2 R (l1++l2) (m1++m2):=by
  induction h1 with
  | nil=>exact h2
  | cons h _ ih=>exact .cons h ih
theorem all2_set {α β:Type} {R:α→β→Prop} {l:List α} {m:List β} (h:All2 R l m) {x:α} {y:β} (hr:R x y):∀ i:Nat,All2 R (l.set i x) (m.set i y):=by
  induction h with
  | nil=>intro i;exact .nil
  | cons h1 h2 ih =>
    intro i
    cases i with
    | zero=>exact .cons hr h2
    | succ i=>exact .cons h1 (ih i)
theorem putAll_reads:∀ {ys:List A0} {us:List Value} {cs:List A0} {vs:List Value} (off j:Nat),All2 (A0.reads β w) ys us→All2 (A0.reads β w) cs vs →
    All2 (A0.reads β w) (putAll0 cs (off+j) ys) ((us.zipIdx j).foldl (fun c p=>c.set (off+p.2) p.1) vs)
  | [],_,cs,vs,off,j,h,hc=>by cases h;exact hc
  | y :: ys, _, cs, vs, off, j, h, hc => by
    cases h with
    | cons h1 h2 =>
      rw [putAll0,List.zipIdx_cons,List.foldl_cons]
      exact putAll_reads off (j+1) h2 (all2_set hc h1 _)
theorem foldl_arr (vs:List Value) (off:Nat):∀ (l:List (Value × Nat)),(l.foldl (fun (cs:Array Value) p=>cs.setIfInBounds (off+p.2) p.1) vs.toArray)=(l.foldl (fun c p=>c.set (off+p.2) p.1) vs).toArray:=by
  intro l
  induction l generalizing vs with
  | nil=>rfl
  | cons p l ih=>simp only [List.foldl_cons,List.setIfInBounds_toArray];exact ih _
theorem putAll_mem:∀ (ys:List A0) (cs:List A0) (off:Nat) (c:A0),c∈putAll0 cs off ys→c∈cs∨c∈ys
  | [],_,_,c,h => .inl h
  | y :: ys, cs, off, c, h => by
    rcases putAll_mem ys (cs.set off y) (off+1) c h with h1|h1
    · rcases List.mem_or_eq_of_mem_set h1 with h1|rfl
      · exact .inl h1
      · exact .inr List.mem_cons_self
    · exact .inr (List.mem_cons_of_mem _ h1)
theorem fill_reads (hone:∀ r,s.T r≠none→Cell1 (β.v r)) {place:Nat→Option (Nat × Nat)}:∀ {prs:List (Nat × TV)} {us:List Value} {cs l:List A0} {vs:List Value},fillAll place cs prs=some l→All2 (fun q u=>Good β s w q.2 u) prs us→All2 (A0.reads β w) cs vs→(∀ c∈cs,∀ r∈c.refs,s.T r≠none) →
    ∃ r:List Value,Instr.fill place vs.toArray ((prs.map (·.1)).zip us)=some r.toArray∧All2 (A0.reads β w) l r∧∀ c∈l,∀ r∈c.refs,s.T r≠none
  | [],_,cs,l,vs,h,hu,hc,hrf=>by
    cases hu
    cases h
    exact ⟨vs,rfl,hc,hrf⟩
  | (i, y) :: prs, _, cs, l, vs, h, hu, hc, hrf => by
    cases hu with
    | cons h1 h2 =>
      rename_i u us
      rw [fillAll] at h
      split at h
      · rename_i off size ys hpl hys
        split at h
        · rename_i hln
          obtain ⟨⟨vu,he,hr⟩,hyr⟩:=cells_reads hys h1.1 (fun r hr=>hone r (h1.2 r hr))
          have hlu:=All2.length hr
          have hlv:=All2.length hc
          have h3:=putAll_reads (w:=w) off 0 hr hc
          simp only [Nat.add_zero] at h3
          obtain ⟨r,hr1,hr2,hr3⟩:=fill_reads hone h h2 h3 (fun c hc r hr=>by
            rcases putAll_mem _ _ _ c hc with h4|h4
            · exact hrf c h4 r hr
            · exact h1.2 r (by show r∈y.refs;rw [hyr];exact List.mem_flatMap.2 ⟨c,h4,hr⟩))
          refine ⟨r,?_,hr2,hr3⟩
          rw [List.map_cons,List.zip_cons_cons,Instr.fill]
          simp only [hpl,he]
          rw [if_neg (by simp;omega)]
          rw [← hr1]
          congr 1
          have:=foldl_arr vs off vu.zipIdx
          rw [← this]
          simp only [← Array.foldl_toList,Array.toList_zipIdx,List.toList_toArray]
        · cases h
      · cases h
end
section
variable {P:Program} {X:Cx} {W:Nat→Prop} {w0:World} {n:Nat} {β:Pl} {s:St} {a:Act} {w:World} {o:Oper} {e:Eff} {K:Act→World→Prop} {Q:Exit→Act→World→Prop}
theorem op_field (ok:CxOk P X) (hS:Sat W w0 n β s a w) {T:TypeId} {x:Operand} {j:Nat} (ho:o.op = .field T x j) (h:absOp X s o=some e) (hp:e.pre) (hd:∀ d,o.dst=some d→d<n)
    (hK:∀ β' a' w',Sat W w0 n β' (s.app o.dst e) a' w'→K a' w'):o.wp P a w K Q:=by
  have hrun:(execOp a.eval o).run P w=((Instr.field T (a.eval x) j).run P w).andThen fun v w => .ok (.value v) w:=by
    unfold execOp;rw [ho];simp
  have hx:=good1 hS x
  simp only [absOp,req,req2,fin,ho,Op.operands,List.map_cons,List.map_nil] at h
  split at h
  · rename_i p l d ft hf hj
    obtain ⟨fs,f,inf,h1,h2,h3,h4,h5,h6⟩:=(ok.ty T).offs j d ft hj
    subst h4
    split at h
    · rename_i hag
      split at h
      · rename_i hsz
        cases h
        have hgg:=force_good hf hp hx
        obtain ⟨us,he,hr⟩:=hgg.1
        obtain ⟨inf',hi,hsi⟩:=(ok.ty f.type).size (by omega)
        have hr':=congrFun ((ok.ty f.type).agg (by omega)) w
        rw [hag] at hr'
        refine done_val hS (v := .agg ((us.drop d).take (X.ti f.type).size).toArray) ?_ hd (fun y hy=>?_) rfl rfl hK
        · rw [hrun,he]
          simp [Instr.field,run_underlying h1,h2,asAgg,part,hr',run_sizeOf' hi,hsi,h3,List.extract_eq_take_drop]
        · cases hy
          refine ⟨⟨_,rfl,?_⟩,fun r hr=>hgg.2 r (by
            obtain ⟨c',hc',hr'⟩:=List.mem_flatMap.1 hr
            exact List.mem_flatMap.2 ⟨c',List.mem_of_mem_drop (List.mem_of_mem_take hc'),hr'⟩)⟩
          refine All2.of_get ?_ (fun i c u hi hu=>?_)
          · simp [All2.length hr]
          · rw [List.getElem?_take] at hi hu
            split at hi
            · rename_i hlt
              rw [if_pos hlt] at hu
              rw [List.getElem?_drop] at hi hu
              obtain ⟨u',hu',hru⟩:=All2.get hr _ c hi
              rw [hu'] at hu;cases hu;exact hru
            · cases hi
      · cases h
    · rename_i c hag hc
      split at h
      · rename_i hsz
        cases h
        have hgg:=force_good hf hp hx
        obtain ⟨us,he,hr⟩:=hgg.1
        obtain ⟨u,hu,hru⟩:=All2.get hr d c hc
        have hr':=congrFun ((ok.ty f.type).agg (by omega)) w
        rw [hag] at hr'
        refine done_val hS (v:=u) ?_ hd (fun y hy=>?_) rfl rfl hK
        · rw [hrun,he]
          simp [Instr.field,run_underlying h1,h2,asAgg,part,hr',h3,hu]
        · cases hy
          exact ⟨hru,fun r hr'=>hgg.2 r (List.mem_flatMap.2 ⟨c,List.mem_of_getElem? hc,hr'⟩)⟩
      · cases h
    · cases h
  · cases h
theorem zip_reads:∀ {is:List Nat} {ys:List TV} {us:List Value},is.length=us.length→All2 (Good β s w) ys us→All2 (fun (q:Nat × TV) u=>Good β s w q.2 u) (is.zip ys) us∧(is.zip ys).map (·.1)=is
  | [],_,_,hl,h=>by
    cases h with
    | nil=>exact ⟨.nil,rfl⟩
    | cons _ _=>simp at hl
  | i :: is, _, _, hl, h => by
    cases h with
    | nil=>simp at hl
    | cons h1 h2 =>
      obtain ⟨r1,r2⟩:=zip_reads (is:=is) (by simpa using hl) h2
      exact ⟨.cons h1 r1,by simp [r2]⟩
theorem op_build (ok:CxOk P X) (hS:Sat W w0 n β s a w) {T:TypeId} {parts:Array (Nat × Operand)} (ho:o.op = .build T parts) (hst:(X.ti T).agg=true→(X.ti T).elt=none→(X.ti T).zero≠none→∃ fs,P.underlying T=some (.struct fs)∧∃ ps,((fs.mapM fun f=>do pure (f.offset,← sizeOf f.type)):Sem (Array (Nat × Nat))).run P w = .ok ps w∧∀ (i:Nat),ps[i]?=((X.ti T).offs[i]?).map fun (q:Nat × TypeId)=>(q.1,(X.ti q.2).size)) (h:absOp X s o=some e) (hp:e.pre) (hd:∀ d,o.dst=some d→d<n)
    (hK:∀ β' a' w',Sat W w0 n β' (s.app o.dst e) a' w'→K a' w'):o.wp P a w K Q:=by
  simp only [absOp,req,req2,fin,ho,Op.operands] at h
  have hv:=vs_good hS (parts.toList.map (·.2))
  split at h
  · rename_i p ys zs hf hz hag helt
    split at h
    · rename_i l hl
      cases h
      have hg:=forces_good hf hp hv
      obtain ⟨inf,z,us,h1,h2,h3,h4,h5,h6⟩:=(ok.ty T).zero zs hz
      obtain ⟨zr1,zr2⟩:=zip_reads (is:=parts.toList.map (·.1)) (by simp) hg
      obtain ⟨fs,hu,ps,hps,hpl⟩:=hst hag helt (by rw [hz];simp)
      have hpl':(fun i=>((X.ti T).offs[i]?).map fun (q:Nat × TypeId)=>(q.1,(X.ti q.2).size))=(ps[·]?):=funext fun i=>(hpl i).symm
      rw [hpl'] at hl
      obtain ⟨r,hr1,hr2,hr3⟩:=fill_reads (fun r hr=>hS.oneV hr) hl zr1 (h4 β w) (fun c hc=>by rw [A0.free_refs (List.all_eq_true.1 h6 c hc)];simp)
      rw [zr2] at hr1
      refine done_val hS (v := .agg r.toArray) ?_ hd (fun y hy=>?_) rfl rfl hK
      · unfold execOp;rw [ho]
        have e1:(parts.map fun (q:Nat × Operand)=>(q.1,a.eval q.2)).toList=(parts.toList.map (·.1)).zip (parts.toList.map (fun q=>a.eval q.2)):=by
          rw [Array.toList_map]
          induction parts.toList with
          | nil=>rfl
          | cons q l ih=>simp [ih]
        dsimp only
        rw [Sem.run_bind]
        have e2:(Instr.build T (parts.map fun (q:Nat × Operand)=>(q.1,a.eval q.2))).run P w = .ok (.agg r.toArray) w:=by
          unfold Instr.build
          simp only [Sem.run_bind,zeroValue,typeInfo,run_program,h1,Sem.run_pure,Result.andThen_ok,h2,run_underlying hu,hps]
          rw [e1,h3]
          have hr2:Instr.fill (fun x=>ps[x]?) us.toArray ((parts.toList.map (·.1)).zip (parts.toList.map (fun q=>a.eval q.2)))=some r.toArray:=by
            rw [List.map_map] at hr1;exact hr1
          rw [hr2]
          rfl
        rw [show (fun (x:Nat × Operand)=>match x with|(i,x)=>(i,a.eval x))=fun (q:Nat × Operand)=>(q.1,a.eval q.2) from rfl,e2]
        rfl
      · cases hy
        exact ⟨⟨r,rfl,hr2⟩,fun q hq=>by
          obtain ⟨c',hc',hq'⟩:=List.mem_flatMap.1 hq
          exact hr3 c' hc' q hq'⟩
    · cases h
  · rename_i p ys zs ne ee hf hz hag helt
    split at h
    · rename_i l hpos hl
      cases h
      have hpos:=of_decide_eq_true hpos
      have hg:=forces_good hf hp hv
      obtain ⟨inf,z,us,h1,h2,h3,h4,h5,h6⟩:=(ok.ty T).zero zs hz
      obtain ⟨zr1,zr2⟩:=zip_reads (is:=parts.toList.map (·.1)) (by simp) hg
      have hu:=(ok.ty T).arr _ _ helt
      obtain ⟨einf,he1,he2⟩:=(ok.ty ee).size (by omega)
      obtain ⟨r,hr1,hr2,hr3⟩:=fill_reads (fun r hr=>hS.oneV hr) hl zr1 (h4 β w) (fun c hc=>by rw [A0.free_refs (List.all_eq_true.1 h6 c hc)];simp)
      rw [zr2] at hr1
      refine done_val hS (v := .agg r.toArray) ?_ hd (fun y hy=>?_) rfl rfl hK
      · unfold execOp;rw [ho]
        have e1:(parts.map fun (q:Nat × Operand)=>(q.1,a.eval q.2)).toList=(parts.toList.map (·.1)).zip (parts.toList.map (fun q=>a.eval q.2)):=by
          rw [Array.toList_map]
          induction parts.toList with
          | nil=>rfl
          | cons q l ih=>simp [ih]
        dsimp only
        rw [Sem.run_bind]
        have e2:(Instr.build T (parts.map fun (q:Nat × Operand)=>(q.1,a.eval q.2))).run P w = .ok (.agg r.toArray) w:=by
          unfold Instr.build
          simp only [Sem.run_bind,zeroValue,typeInfo,run_program,h1,Sem.run_pure,Result.andThen_ok,h2,run_underlying hu,run_sizeOf' he1,he2]
          rw [e1,h3]
          have hr2:Instr.fill (fun i=>some (i*(X.ti ee).size,(X.ti ee).size)) us.toArray ((parts.toList.map (·.1)).zip (parts.toList.map (fun q=>a.eval q.2)))=some r.toArray:=by
            rw [List.map_map] at hr1;exact hr1
          rw [hr2]
          rfl
        rw [show (fun (x:Nat × Operand)=>match x with|(i,x)=>(i,a.eval x))=fun (q:Nat × Operand)=>(q.1,a.eval q.2) from rfl,e2]
        rfl
      · cases hy
        exact ⟨⟨r,rfl,hr2⟩,fun q hq=>by
          obtain ⟨c',hc',hq'⟩:=List.mem_flatMap.1 hq
          exact hr3 c' hc' q hq'⟩
    · cases h
  · cases h
theorem op_makeFunc (hS:Sat W w0 n β s a w) {fn:Fn} {first captured:Array Operand} (ho:o.op = .makeFunc fn first captured) (h:absOp X s o=some e) (hp:e.pre) (hd:∀ d,o.dst=some d→d<n)
    (hK:∀ β' a' w',Sat W w0 n β' (s.app o.dst e) a' w'→K a' w'):o.wp P a w K Q:=by
  simp only [absOp,req,req2,fin,ho,Op.operands] at h
  split at h
  · rename_i f p ys hfi hfo
    split at h
    · rename_i bs hbs
      cases h
      have hfi':first=#[]:=by
        apply Array.ext';simpa using hfi
      subst hfi'
      have hv:=vs_good hS captured.toList
      rw [show (#[]++captured:Array Operand).toList=captured.toList by simp] at hfo
      have hg:=forces_good hfo hp hv
      have key:∀ (ys:List TV) (us:List Value) (bs:List Nat),allSome (ys.map fun y=>match y with | .ptr b 0=>some b|_=>none)=some bs→All2 (Good β s w) ys us→us=bs.map (fun b=>Value.pointer (some ⟨β b,0,none⟩))∧∀ b∈bs,s.T b≠none:=by
        intro ys
        induction ys with
        | nil=>intro us bs h1 h2;cases h2;cases h1;exact ⟨rfl,by simp⟩
        | cons y ys ih =>
          intro us bs h1 h2
          cases h2 with
          | cons h3 h4 =>
            have h5:=allSome_get h1
            cases bs with
            | nil=>simp at h5
            | cons b bs =>
              simp only [List.map_cons,List.cons.injEq] at h5
              obtain ⟨h6,h7⟩:=h5
              have hb:y = .ptr b 0:=by
                split at h6
                · cases h6;rfl
                · cases h6
              subst hb
              have h8:allSome (ys.map fun y=>match y with | .ptr b 0=>some b|_=>none)=some bs:=by
                rw [h7]
                clear ih h1 h7 h6 h4
                induction bs with
                | nil=>rfl
                | cons b bs ih=>simp [allSome,ih]
              obtain ⟨r1,r2⟩:=ih _ bs h8 h4
              refine ⟨by rw [r1,show _=_ from h3.1];rfl,fun b' hb'=>?_⟩
              rcases List.mem_cons.1 hb' with rfl|hb'
              · exact h3.2 _ (by simp [TV.refs])
              · exact r2 b' hb'
      obtain ⟨k1,k2⟩:=key ys _ bs hbs hg
      refine done_val hS (v := .func (.func f) #[] (bs.map fun b=>Value.pointer (some ⟨β b,0,none⟩)).toArray) ?_ hd (fun y hy=>?_) rfl rfl hK
      · unfold execOp;rw [ho]
        have:(captured.map a.eval)=(bs.map fun b=>Value.pointer (some ⟨β b,0,none⟩)).toArray:=by
          apply Array.ext';rw [Array.toList_map,k1]
        simp [Instr.makeFunc,this]
      · cases hy
        exact ⟨rfl,k2⟩
    · cases h
  · cases h
end
end Go.Proofs.YtcgknibjbnijmaaW.Sy
end
section
set_option linter.unusedVariables false
set_option linter.unusedSimpArgs false
namespace Go.Proofs.YtcgknibjbnijmaaW.Sy
open Go RowKit YtcgknibjbnijmaaW.PrintWords YtcgknibjbnijmaaW.PrintMore YtcgknibjbnijmaaW.Aid YtcgknibjbnijmaaW.Big
section
variable {P:Program} {X:Cx} {W:Nat→Prop} {w0:World} {n:Nat} {β:Pl} {s:St} {a:Act} {w:World} {o:Oper} {e:Eff} {K:Act→World→Prop} {Q:Exit→Act→World→Prop}
theorem op_len (ok:CxOk P X) (hS:Sat W w0 n β s a w) {c:Call} (ho:o.op = .call c) (hc:c.callee = .builtin .len) (h:absOp X s o=some e) (hp:e.pre) (hd:∀ d,o.dst=some d→d<n)
    (hK:∀ β' a' w',Sat W w0 n β' (s.app o.dst e) a' w'→K a' w'):o.wp P a w K Q:=by
  obtain ⟨callee,args,argTypes⟩:=c
  simp only at hc
  subst hc
  have hia:isApp (.builtin .len)=false:=rfl
  simp only [absOp,req,req2,fin,ho,Op.operands,Call.operands,hia,show isLen (.builtin .len)=true from rfl,Bool.false_or] at h
  have hrun:∀ T x,argTypes=#[T]→args=#[x]→(execOp a.eval o).run P w=((Builtin.len_ #[T] o.type #[a.eval x]).run P w).andThen fun v w => .ok (.value v) w:=by
    intro T x h1 h2
    subst h1 h2
    unfold execOp;rw [ho]
    simp [resolve,invoke,builtin]
  have hv:=vs_good hS args.toList
  split at h
  · rename_i hcal _;cases hcal
  · rename_i p x _ hfo
    rw [show (#[]++args:Array Operand).toList=args.toList by simp] at hfo
    split at h
    · rename_i T hT
      have hT':argTypes=#[T]:=by apply Array.ext';exact hT
      have hex:∃ y,args=#[y]:=by
        have hl:args.toList.length=1:=by
          have:=All2.length (forces_good (β:=β) (s:=s) (w:=w) hfo (by
            split at h
            · cases h;exact hp
            · cases h;exact hp
            · cases h;exact hp
            · cases h;exact hp
            · cases h;exact hp
            · split at h
              · cases h;exact hp
              · cases h
            · cases h;exact hp
            · cases h;exact hp
            · cases h) hv)
          simpa using this.symm
        obtain ⟨l⟩:=args
        match l,hl with
        | [y],_=>exact ⟨y,rfl⟩
      obtain ⟨y,rfl⟩:=hex
      have hgo:p→Good β s w x (a.eval y):=fun hpp=>by
        have:=forces_good hfo hpp hv
        cases this with
        | cons h1 _=>exact h1
      have fin2:∀ A (m cap:Nat) el,P.underlying T=some (.slice el)→a.eval y = .slice A m cap→(execOp a.eval o).run P w = .ok (.value (.int .i64 m)) w:=by
        intro A m cap el hu he
        rw [hrun T y hT' rfl,he]
        simp [Builtin.len_,run_underlying hu,goInt]
      split at h
      · rename_i el k l helt hsl
        cases h
        obtain ⟨A,c,hA,hR⟩:=asSl_rd hsl (hgo hp).1 w (Ag.refl _ _)
        refine done_val hS (fin2 A _ c el ((ok.ty T).slc el helt) hA) hd (fun z hz=>by cases hz;exact good_refs rfl rfl) rfl rfl hK
      · rename_i el b off m sz helt _
        cases h
        obtain ⟨c,hA,_⟩:=(hgo hp).1
        refine done_val hS (fin2 _ _ c el ((ok.ty T).slc el helt) hA) hd (fun z hz=>by cases hz;exact good_refs rfl rfl) rfl rfl hK
      · rename_i el m helt _
        cases h
        obtain ⟨A,c,hA⟩:=(hgo hp).1
        refine done_val hS (fin2 _ _ c el ((ok.ty T).slc el helt) hA) hd (fun z hz=>by cases hz;exact good_refs rfl rfl) rfl rfl hK
      · rename_i el A m c helt _
        cases h
        have hA:a.eval y = .slice A m c:=(hgo hp).1
        refine done_val hS (fin2 _ _ c el ((ok.ty T).slc el helt) hA) hd (fun z hz=>by cases hz;exact good_refs rfl rfl) rfl rfl hK
      · rename_i el D helt _
        cases h
        obtain ⟨A,c,hA⟩:=D.rd_slice ((show ∀ w1,Ag β.O w w1→D.rd w1 _ from (hgo hp).1) w (Ag.refl _ _))
        refine done_val hS (fin2 _ _ c el ((ok.ty T).slc el helt) hA) hd (fun z hz=>by cases hz;exact good_refs rfl rfl) rfl rfl hK
      · rename_i el b helt _
        split at h
        · rename_i D hm
          cases h
          rw [show (#[]++#[y]:Array Operand).toList=[y] by simp] at hm
          rw [hfo] at hm
          have hm':s.m b 0=some (.obs D):=by simpa [toArg1,refP,A0.refs] using hm
          obtain ⟨A,c,hA⟩:=D.rd_slice (D.own_rd (hS.ob hm').2)
          refine done_val hS (fin2 _ _ c el ((ok.ty T).slc el helt) ((show a.eval y=β.v b from (hgo hp).1).trans hA)) hd (fun z hz=>by cases hz;exact good_refs rfl rfl) rfl rfl hK
        · cases h
      · rename_i el m l helt _
        cases h
        obtain ⟨A,c,hA,_⟩:=(hgo hp).1
        refine done_val hS (fin2 _ _ c el ((ok.ty T).slc el helt) hA) hd (fun z hz=>by cases hz;exact good_refs rfl rfl) rfl rfl hK
      · rename_i el m sz f helt _
        cases h
        obtain ⟨A,c,hA,_⟩:=(hgo hp).1
        refine done_val hS (fin2 _ _ c el ((ok.ty T).slc el helt) hA) hd (fun z hz=>by cases hz;exact good_refs rfl rfl) rfl rfl hK
      · cases h
    · cases h
  · rename_i hcal _;cases hcal
  · rename_i hcal _;cases hcal
  · cases h
theorem forces_len:∀ {vs:List (Option TV)} {p:Prop} {ys:List TV},forces vs=some (p,ys)→vs.length=ys.length
  | [],p,ys,h=>by cases h;rfl
  | v::vs,p,ys,h=>by
    rw [forces] at h
    split at h
    · rename_i e1 e2;cases h;simp [forces_len e2]
    · cases h
theorem arr2 {α:Type} {a:Array α} (h:a.toList.length=2):∃ x y,a=#[x,y]:=by
  obtain ⟨l⟩:=a
  match l,h with
  | [x,y],_=>exact ⟨x,y,rfl⟩
theorem op_minmax (hS:Sat W w0 n β s a w) {c:Call} (ho:o.op = .call c) (hc:c.callee = .builtin .min∨c.callee = .builtin .max) (h:absOp X s o=some e) (hp:e.pre) (hd:∀ d,o.dst=some d→d<n)
    (hK:∀ β' a' w',Sat W w0 n β' (s.app o.dst e) a' w'→K a' w'):o.wp P a w K Q:=by
  obtain ⟨callee,args,argTypes⟩:=c
  simp only at hc
  have hv:=vs_good hS args.toList
  have hops:args.toList.map (getv s.g)=(#[]++args:Array Operand).toList.map (getv s.g):=by simp
  rcases hc with hc|hc
  · subst hc
    have hia:isApp (.builtin .min)=false:=rfl
    simp only [absOp,req,req2,fin,ho,Op.operands,Call.operands,hia] at h
    rw [← hops] at h
    split at h
    · rename_i hcal _;cases hcal
    · rename_i hcal _;cases hcal
    · rename_i p x y _ hfo
      split at h
      · rename_i k i k' j h1 h2
        cases h
        obtain ⟨u,v,rfl⟩:=arr2 (a:=args) (by have:=forces_len hfo;simpa using this)
        obtain ⟨_,_,e0,hg1,hg2⟩:∃ a1 a2,[a.eval u,a.eval v]=[a1,a2]∧Good β s w x a1∧Good β s w y a2:=by
          have:=forces_good hfo hp hv
          cases this with
          | cons h1 h2=>cases h2 with|cons h2 h3=>exact ⟨_,_,rfl,h1,h2⟩
        cases e0
        refine done_val hS (v := .int k (if j<i then j else i)) ?_ hd (fun z hz=>by cases hz;exact good_refs rfl rfl) rfl rfl hK
        unfold execOp;rw [ho]
        simp [resolve,invoke,builtin,val_reads h1 hg1.1,val_reads h2 hg2.1,run_min_int2]
      · cases h
    · rename_i hcal _;cases hcal
    · cases h
  · subst hc
    have hia:isApp (.builtin .max)=false:=rfl
    simp only [absOp,req,req2,fin,ho,Op.operands,Call.operands,hia] at h
    rw [← hops] at h
    split at h
    · rename_i hcal _;cases hcal
    · rename_i hcal _;cases hcal
    · rename_i hcal _;cases hcal
    · rename_i p x y _ hfo
      split at h
      · rename_i k i k' j h1 h2
        cases h
        obtain ⟨u,v,rfl⟩:=arr2 (a:=args) (by have:=forces_len hfo;simpa using this)
        obtain ⟨_,_,e0,hg1,hg2⟩:∃ a1 a2,[a.eval u,a.eval v]=[a1,a2]∧Good β s w x a1∧Good β s w y a2:=by
          have:=forces_good hfo hp hv
          cases this with
          | cons h1 h2=>cases h2 with|cons h2 h3=>exact ⟨_,_,rfl,h1,h2⟩
        cases e0
        refine done_val hS (v := .int k (if j>i then j else i)) ?_ hd (fun z hz=>by cases hz;exact good_refs rfl rfl) rfl rfl hK
        unfold execOp;rw [ho]
        simp [resolve,invoke,builtin,val_reads h1 hg1.1,val_reads h2 hg2.1,run_max_int2]
      · cases h
    · cases h
theorem asSl_all {x:TV} {k:IntKind} {l:List Int} {u:Value} (h:x.asSl=some (k,l)) (hr:x.reads β w u):∃ A c,u = .slice A l.length c∧RdK w k l A c∧∀ w1,Ag β.O w w1→RdK w1 k l A c:=by
  have hr':=asSl_rd h hr
  obtain ⟨A,c,e,hR⟩:=hr' w (Ag.refl _ _)
  refine ⟨A,c,e,hR,fun w1 ha=>?_⟩
  obtain ⟨A',c',e',hR'⟩:=hr' w1 ha
  rw [e] at e'
  cases e'
  exact hR'
theorem op_cut (ok:CxOk P X) (hS:Sat W w0 n β s a w) {T:TypeId} {x:Operand} {lo hi mx:Option Operand} (ho:o.op = .slice T x lo hi mx) (h:finCut X T lo hi mx (o.op.operands.toList.map (getv s.g))=some e) (hp:e.pre) (hd:∀ d,o.dst=some d→d<n)
    (hK:∀ β' a' w',Sat W w0 n β' (s.app o.dst e) a' w'→K a' w'):o.wp P a w K Q:=by
  have hrun:(execOp a.eval o).run P w=((Instr.sliceAt T (a.eval x) (lo.map a.eval) (hi.map a.eval) (mx.map a.eval)).run P w).andThen fun v w => .ok (.value v) w:=by
    unfold execOp;rw [ho];simp
  unfold finCut at h
  split at h
  · rename_i p y r e' hfo helt
    split at h
    · split at h
      · rename_i lo' e2 sz l ki i _
        split at h
        · rename_i hk
          cases h
          have hu:=(ok.ty T).slc _ helt
          obtain ⟨inf,hin,hsi⟩:=(ok.ty e').size (by omega)
          have hsl:∀ x lo hi,(Instr.sliceAt T x lo hi none).run P w=(Instr.slice T x lo hi none).run P w:=fun x lo hi=>by
            simp only [Instr.sliceAt,Sem.run_bind,run_underlying hu,Result.andThen_ok]
          have hv:=vs_good hS [x,lo']
          have hg:=forces_good (vs:=[x,lo'].map (getv s.g)) (by rw [ho] at hfo;simpa [Op.operands] using hfo) hp.1 hv
          cases hg with
          | cons g1 hg=>cases hg with
            | cons g2 hg =>
              cases hg
              obtain ⟨_,p1,p2⟩:=hp
              have hrd:∀ w1,Ag β.O w w1→(D.flat e2 sz l).rd w1 (a.eval x):=g1.1
              obtain ⟨A,c,e1,hlc,hC0⟩:=hrd w (Ag.refl _ _)
              have e3:a.eval lo' = .int ki i:=g2.1
              have hl:(l.drop i.toNat).length=l.length-i.toNat:=List.length_drop
              have hC:∀ w1,Ag β.O w w1→Kd.C (kFlat sz) w1 (if c=i.toNat then A else A.map (·.add (i.toNat*sz))) (l.drop i.toNat).length (l.drop i.toNat):=fun w1 ha=>by
                obtain ⟨A',c',e',h1,h2⟩:=hrd w1 ha
                rw [e1] at e';cases e'
                rw [hl]
                have h3:=Kd.C_drop (m:=i.toNat) h2 (by omega) h1
                rw [hl] at h3;exact h3
              refine done_val hS (v := .slice (if c=i.toNat then A else A.map (·.add (i.toNat*sz))) (l.drop i.toNat).length (c-i.toNat)) ?_ hd (fun z hz=>by cases hz;exact ⟨fun w1 ha=>⟨_,_,rfl,by rw [hl];omega,hC w1 ha⟩,by simp [TV.refs,A0.refs]⟩) rfl rfl hK
              rw [hrun,e1]
              simp only [Option.map_some,Option.map_none,e3]
              rw [hsl,cut_from T e' ki hu hin sz (by omega) A l.length c i p1 p2,hl];rfl
        · cases h
      · cases h
    rename_i k l has
    split at h
    · rename_i hk
      have hu:=(ok.ty T).slc _ helt
      obtain ⟨inf,hin,hsi⟩:=(ok.ty e').size (by omega)
      have hsl:∀ x lo hi,(Instr.sliceAt T x lo hi none).run P w=(Instr.slice T x lo hi none).run P w:=fun x lo hi=>by
        simp only [Instr.sliceAt,Sem.run_bind,run_underlying hu,Result.andThen_ok]
      split at h
      · rename_i lo' hi' ki i kj j
        cases h
        have hv:=vs_good hS [x,lo',hi']
        have hg:=forces_good (vs:=[x,lo',hi'].map (getv s.g)) (by rw [ho] at hfo;simpa [Op.operands] using hfo) hp.1 hv
        cases hg with
        | cons g1 hg=>cases hg with
          | cons g2 hg=>cases hg with
            | cons g3 hg =>
              cases hg
              obtain ⟨_,p1,p2,p3⟩:=hp
              obtain ⟨A,c,e1,hr,hr1⟩:=asSl_all has g1.1
              have e2:a.eval lo' = .int ki i:=g2.1
              have e3:a.eval hi' = .int kj j:=g3.1
              have hl:((l.take j.toNat).drop i.toNat).length=j.toNat-i.toNat:=by rw [List.length_drop,List.length_take];omega
              have hC:=fun w1 (ha:Ag β.O w w1)=>Kd.C_mid (lo:=i.toNat) (hi:=j.toNat) (hr1 w1 ha).2 (by omega) (by omega) hr.1
              refine done_val hS (v := .slice (if c=i.toNat then A else A.map (·.add (i.toNat*1))) ((l.take j.toNat).drop i.toNat).length (c-i.toNat)) ?_ hd (fun z hz=>by cases hz;exact ⟨fun w1 ha=>⟨_,_,rfl,by rw [hl];have:=hr.1;omega,hC w1 ha⟩,by simp [TV.refs,A0.refs]⟩) rfl rfl hK
              rw [hrun,e1]
              simp only [Option.map_some,Option.map_none,e2,e3]
              rw [hsl,cut_mid T e' ki kj hu hin 1 (by omega) A l.length c i j p1 p2 p3 hr.1,hl];rfl
      · rename_i lo' ki i
        cases h
        have hv:=vs_good hS [x,lo']
        have hg:=forces_good (vs:=[x,lo'].map (getv s.g)) (by rw [ho] at hfo;simpa [Op.operands] using hfo) hp.1 hv
        cases hg with
        | cons g1 hg=>cases hg with
          | cons g2 hg =>
            cases hg
            obtain ⟨_,p1,p2⟩:=hp
            obtain ⟨A,c,e1,hr,hr1⟩:=asSl_all has g1.1
            have e2:a.eval lo' = .int ki i:=g2.1
            have hl:(l.drop i.toNat).length=l.length-i.toNat:=List.length_drop
            have hC:=fun w1 (ha:Ag β.O w w1)=>Kd.C_drop (m:=i.toNat) (hr1 w1 ha).2 (by omega) hr.1
            refine done_val hS (v := .slice (if c=i.toNat then A else A.map (·.add (i.toNat*1))) (l.drop i.toNat).length (c-i.toNat)) ?_ hd (fun z hz=>by cases hz;exact ⟨fun w1 ha=>⟨_,_,rfl,by rw [hl];have:=hr.1;omega,hC w1 ha⟩,by simp [TV.refs,A0.refs]⟩) rfl rfl hK
            rw [hrun,e1]
            simp only [Option.map_some,Option.map_none,e2]
            rw [hsl,cut_from T e' ki hu hin 1 (by omega) A l.length c i p1 p2,hl];rfl
      · rename_i hi' kj j
        cases h
        have hv:=vs_good hS [x,hi']
        have hg:=forces_good (vs:=[x,hi'].map (getv s.g)) (by rw [ho] at hfo;simpa [Op.operands] using hfo) hp.1 hv
        cases hg with
        | cons g1 hg=>cases hg with
          | cons g2 hg =>
            cases hg
            obtain ⟨_,p1,p2⟩:=hp
            obtain ⟨A,c,e1,hr,hr1⟩:=asSl_all has g1.1
            have e2:a.eval hi' = .int kj j:=g2.1
            have hl:(l.take j.toNat).length=j.toNat:=by rw [List.length_take];omega
            have hC:=fun w1 (ha:Ag β.O w w1)=>Kd.C_take (m:=j.toNat) (hr1 w1 ha).2 (by omega)
            refine done_val hS (v := .slice A (l.take j.toNat).length c) ?_ hd (fun z hz=>by cases hz;exact ⟨fun w1 ha=>⟨_,_,rfl,by rw [hl];have:=hr.1;omega,hC w1 ha⟩,by simp [TV.refs,A0.refs]⟩) rfl rfl hK
            rw [hrun,e1]
            simp only [Option.map_some,Option.map_none,e2]
            rw [hsl,cut_to T e' kj hu hin A l.length c j p1 p2 hr.1,hl];rfl
      · cases h
    · cases h
  · cases h
theorem op_slice (ok:CxOk P X) (hS:Sat W w0 n β s a w) {T:TypeId} {x:Operand} {lo hi mx:Option Operand} (ho:o.op = .slice T x lo hi mx) (h:absOp X s o=some e) (hp:e.pre) (hd:∀ d,o.dst=some d→d<n)
    (hK:∀ β' a' w',Sat W w0 n β' (s.app o.dst e) a' w'→K a' w'):o.wp P a w K Q:=by
  have hrun:(execOp a.eval o).run P w=((Instr.sliceAt T (a.eval x) (lo.map a.eval) (hi.map a.eval) (mx.map a.eval)).run P w).andThen fun v w => .ok (.value v) w:=by
    unfold execOp;rw [ho];simp
  have hall:(match finCut X T lo hi mx (o.op.operands.toList.map (getv s.g)) with
    | some e'=>some e'=some e
    | none=>absOp X s o=some e):=by
    split
    · rename_i e' he
      rw [← h]
      simp only [absOp,fin,ho]
      rw [ho] at he
      simp only [he]
    · exact h
  split at hall
  · rename_i e' he
    cases hall
    exact op_cut ok hS ho he hp hd hK
  rename_i hnone
  rw [ho] at hnone
  simp only [absOp,req,req2,fin,ho,hnone] at h
  simp only [Op.operands] at h
  split at h
  · rename_i lo' hi' p b off ki i kj j len el helt hfo
    split at h
    · rename_i hsz
      cases h
      have hu:=(ok.ty T).arr len el helt
      obtain ⟨inf,hin,hsi⟩:=(ok.ty el).size (by omega)
      have hv:=vs_good hS [x,lo',hi']
      have hg:=forces_good (vs:=[x,lo',hi'].map (getv s.g)) (by simpa using hfo) hp.1 hv
      cases hg with
      | cons g1 hg=>cases hg with
        | cons g2 hg=>cases hg with
          | cons g3 hg =>
            cases hg
            obtain ⟨_,p1,p2,p3,p4⟩:=hp
            have e1:a.eval x = .pointer (some ⟨β b,off,none⟩):=g1.1
            have e2:a.eval lo' = .int ki i:=g2.1
            have e3:a.eval hi' = .int kj j:=g3.1
            refine done_val hS (v := .slice (some ⟨β b,off+i.toNat*(X.ti el).size,none⟩) (j.toNat-i.toNat) (len-i.toNat)) ?_ hd (fun z hz=>by cases hz;exact ⟨⟨_,rfl,by omega⟩,g1.2⟩) rfl rfl hK
            rw [hrun]
            simp only [Option.map_some,Option.map_none,e1,e2,e3,Instr.sliceAt,Sem.run_bind,run_underlying hu,Result.andThen_ok,Instr.sureAddr,Sem.run_pure,Instr.sliceBounds,Instr.sliceBound,asIntOf]
            rw [if_pos ⟨by omega,by omega⟩]
            simp only [Sem.run_pure,Result.andThen_ok,Sem.run_bind]
            rw [if_pos ⟨p1,by omega⟩]
            simp only [Sem.run_pure,Result.andThen_ok,run_sizeOf' hin,hsi]
            rw [if_neg (by omega),addr_add]
    · cases h
  · rename_i p b off len el helt hfo
    split at h
    · rename_i hsz
      cases h
      have hu:=(ok.ty T).arr len el helt
      obtain ⟨inf,hin,hsi⟩:=(ok.ty el).size (by omega)
      have hv:=vs_good hS [x]
      have hg:=forces_good (vs:=[x].map (getv s.g)) (by simpa using hfo) hp hv
      cases hg with
      | cons g1 hg =>
        cases hg
        have e1:a.eval x = .pointer (some ⟨β b,off,none⟩):=g1.1
        refine done_val hS (v := .slice (some ⟨β b,off,none⟩) len len) ?_ hd (fun z hz=>by cases hz;exact ⟨⟨_,rfl,Nat.le_refl _⟩,g1.2⟩) rfl rfl hK
        rw [hrun]
        simp only [Option.map_none,e1,Instr.sliceAt,Sem.run_bind,run_underlying hu,Result.andThen_ok,Instr.sureAddr,Sem.run_pure,Instr.sliceBounds,run_sizeOf' hin,hsi]
        rw [if_neg (by omega),addr_add]
        simp
    · cases h
  · cases h
end
end Go.Proofs.YtcgknibjbnijmaaW.Sy
end
section
set_option linter.unusedVariables false
set_option linter.unusedSimpArgs false
namespace Go.Proofs.YtcgknibjbnijmaaW.Sy
open Go RowKit YtcgknibjbnijmaaW.PrintWords YtcgknibjbnijmaaW.PrintMore YtcgknibjbnijmaaW.Aid YtcgknibjbnijmaaW.Big
theorem objsR_shift (o:Nat):∀ (l:List RC) (i:Nat),objsR (o+i) l=(objsR i l).map fun p=>(o+p.1,p.2)
  | [],i=>rfl
  | .t c::r,i=>by
    have:=objsR_shift o r (i+1)
    rw [show o+(i+1)=o+i+1 by omega] at this
    simpa [objsR] using this
  | .o x::r,i=>by
    have:=objsR_shift o r (i+1)
    rw [show o+(i+1)=o+i+1 by omega] at this
    simpa [objsR] using this
theorem objsP_shift (o:Nat):∀ (l:List (Bool × List RC)) (i:Nat),objsP (o+i) l=(objsP i l).map fun p=>(o+p.1,p.2)
  | [],i=>rfl
  | (b,c)::r,i=>by
    have:=objsP_shift o r (i+c.length)
    rw [show o+(i+c.length)=o+i+c.length by omega] at this
    simp only [objsP,objsR_shift,this,List.map_append]
theorem objsB_shift (o:Nat):∀ (l:List (Option RC)) (i:Nat),objsB (o+i) l=(objsB i l).map fun p=>(o+p.1,p.2)
  | [],i=>rfl
  | none::r,i=>by
    have:=objsB_shift o r (i+1)
    rw [show o+(i+1)=o+i+1 by omega] at this
    simpa [objsB] using this
  | some (.t c)::r,i=>by
    have:=objsB_shift o r (i+1)
    rw [show o+(i+1)=o+i+1 by omega] at this
    simpa [objsB] using this
  | some (.o x)::r,i=>by
    have:=objsB_shift o r (i+1)
    rw [show o+(i+1)=o+i+1 by omega] at this
    simpa [objsB] using this
theorem lookN_ob {os:List (Nat × D)} {b:Nat} {q:TypeId × List A0} (h:lookN (obNew os) b=some q):∃ x,(b,x)∈os∧q=(obT,[.obs x]):=by
  induction os with
  | nil=>cases h
  | cons p r ih =>
    obtain ⟨i,x⟩:=p
    have h':(if b=i then some (obT,[A0.obs x]) else lookN (obNew r) b)=some q:=h
    split at h'
    · rename_i e;cases h';exact ⟨x,by rw [e];exact List.mem_cons_self,rfl⟩
    · obtain ⟨y,h1,h2⟩:=ih h'
      exact ⟨y,List.mem_cons_of_mem _ h1,h2⟩
theorem lookN_mem {os:List (Nat × D)} {b:Nat} {x:D} (h:(b,x)∈os):lookN (obNew os) b≠none:=by
  induction os with
  | nil=>cases h
  | cons p r ih =>
    obtain ⟨i,y⟩:=p
    show (if b=i then some (obT,[A0.obs y]) else lookN (obNew r) b)≠none
    split
    · simp
    · rename_i hne
      rcases List.mem_cons.1 h with e|h
      · cases e;exact absurd rfl hne
      · exact ih h
theorem cellsR_refs:∀ (l:List RC) (i:Nat),l.all RC.free=true→∀ c∈cellsR i l,∀ r∈c.refs,∃ x,(r,x)∈objsR i l
  | [],_,_,c,h,_,_=>by cases h
  | .t c0::l,i,hf,c,h,r,hr=>by
    simp only [List.all_cons,Bool.and_eq_true] at hf
    rcases List.mem_cons.1 h with e|h
    · rw [show c=c0 from e,A0.free_refs hf.1] at hr;cases hr
    · exact cellsR_refs l (i+1) hf.2 c h r hr
  | .o x::l,i,hf,c,h,r,hr=>by
    simp only [List.all_cons,Bool.and_eq_true] at hf
    rcases List.mem_cons.1 h with rfl|h
    · have:r=i:=by simpa [RC.cell,A0.refs] using hr
      subst this
      exact ⟨x,List.mem_cons_self⟩
    · obtain ⟨y,hy⟩:=cellsR_refs l (i+1) hf.2 c h r hr
      exact ⟨y,List.mem_cons_of_mem _ hy⟩
section
variable {P:Program} {X:Cx} {W:Nat→Prop} {w0:World} {n:Nat} {β β':Pl} {s:St} {a:Act} {w w':World} {o:Oper} {e:Eff} {K:Act→World→Prop} {Q:Exit→Act→World→Prop}
theorem cell_shift {v:Nat→Value} {x:RC} {o i:Nat} {u:Value} (h:(x.cell i).reads (plV v) w u) (hf:x.free=true) (hv:∀ y,x = .o y→β'.v (o+i)=v i):(x.cell (o+i)).reads β' w u:=by
  cases x with
  | t c=>exact A0.free_reads h hf
  | o y=>show u=β'.v (o+i);rw [hv y rfl];exact h
theorem all2_shift {v:Nat→Value} {o:Nat}:∀ {l:List RC} {us:List Value} {i:Nat},All2 (A0.reads (plV v) w) (cellsR i l) us→l.all RC.free=true→(∀ p∈objsR i l,β'.v (o+p.1)=v p.1)→All2 (A0.reads β' w) (cellsR (o+i) l) us
  | [],_,i,h,_,_=>by cases h;exact .nil
  | x :: l, _, i, h, hf, hv => by
    simp only [List.all_cons,Bool.and_eq_true] at hf
    cases h with
    | cons h1 h2 =>
      refine .cons (cell_shift h1 hf.1 (fun y hy=>by subst hy;exact hv (i,y) List.mem_cons_self)) ?_
      have:=all2_shift (o:=o) h2 hf.2 (fun p hp=>hv p (by cases x<;>first|exact hp|exact List.mem_cons_of_mem _ hp))
      rw [show o+(i+1)=o+i+1 by omega] at this
      exact this
theorem part_shift {v:Nat→Value} {o i:Nat} {b:Bool} {l:List RC} {u:Value} (h:part0 (plV v) w (b,cellsR i l) u) (hf:l.all RC.free=true) (hv:∀ p∈objsR i l,β'.v (o+p.1)=v p.1):part0 β' w (b,cellsR (o+i) l) u:=by
  cases b with
  | true=>obtain ⟨us,e,hr⟩:=h;exact ⟨us,e,all2_shift hr hf hv⟩
  | false =>
    obtain ⟨c,e,hr⟩:=h
    match l,e with
    | [x],e =>
      have e':x.cell i=c:=by simpa [cellsR] using e
      subst e'
      exact ⟨_,rfl,cell_shift hr (by simpa using hf) (fun y hy=>by subst hy;exact hv (i,y) List.mem_cons_self)⟩
theorem parts_shift {v:Nat→Value} {o:Nat}:∀ {l:List (Bool × List RC)} {us:List Value} {i:Nat},All2 (part0 (plV v) w) (cellsP i l) us→(l.all fun p=>p.2.all RC.free)=true→(∀ p∈objsP i l,β'.v (o+p.1)=v p.1)→All2 (part0 β' w) (cellsP (o+i) l) us
  | [],_,i,h,_,_=>by cases h;exact .nil
  | (b,c)::l,_,i,h,hf,hv=>by
    simp only [List.all_cons,Bool.and_eq_true] at hf
    cases h with
    | cons h1 h2 =>
      refine .cons (part_shift h1 hf.1 (fun p hp=>hv p (List.mem_append_left _ hp))) ?_
      have:=parts_shift (o:=o) h2 hf.2 (fun p hp=>hv p (List.mem_append_right _ hp))
      rw [show o+(i+c.length)=o+i+c.length by omega] at this
      exact this
theorem parts_refs:∀ (l:List (Bool × List RC)) (i:Nat),(l.all fun p=>p.2.all RC.free)=true→∀ q∈cellsP i l,∀ r∈q.2.flatMap A0.refs,∃ x,(r,x)∈objsP i l
  | [],_,_,q,h,_,_=>by cases h
  | (b,c)::l,i,hf,q,h,r,hr=>by
    simp only [List.all_cons,Bool.and_eq_true] at hf
    rcases List.mem_cons.1 h with rfl|h
    · obtain ⟨c',hc',hr'⟩:=List.mem_flatMap.1 hr
      obtain ⟨x,hx⟩:=cellsR_refs c i hf.1 c' hc' r hr'
      exact ⟨x,List.mem_append_left _ hx⟩
    · obtain ⟨x,hx⟩:=parts_refs l (i+c.length) hf.2 q h r hr
      exact ⟨x,List.mem_append_right _ hx⟩
def newPl (β:Pl) (nw:List (Nat × TypeId × List A0)) (f:Nat→Nat) (v:Nat→Value) (F:Nat→Nat→Prop):Pl :=
  ⟨fun b=>if (lookN nw b).isSome=true then f b else β.f b,fun b=>if (lookN nw b).isSome=true then v b else β.v b,fun b=>if (lookN nw b).isSome=true then F b else β.F b,fun k=>β.O k∨∃ b q,lookN nw b=some q∧F b k,fun b=>if (lookN nw b).isSome=true then none else β.r b⟩
theorem ob_box {x:D} {F:Nat→Prop} {u:Value} (h:x.own F w u) {b:Nat} (hF:β'.F b=F) (hv:β'.v b=u):BoxOk β' b (fun off=>[A0.obs x][off]?) obT w:=by
  obtain ⟨A,c,e⟩:=D.rd_slice (D.own_rd h)
  refine ⟨by rw [hv,e];exact ⟨rfl,rfl⟩,fun _ off c hc=>?_,fun e=>absurd rfl e,fun _ _ _ hne=>absurd rfl hne⟩
  cases off with
  | zero =>
    have:A0.obs x=c:=by simpa using hc
    subst this
    exact ⟨rfl,x,rfl,by rw [hF,hv];exact h⟩
  | succ off=>simp at hc
theorem newPl_some {nw:List (Nat × TypeId × List A0)} {f:Nat→Nat} {v:Nat→Value} {F:Nat→Nat→Prop} {b:Nat} (h:lookN nw b≠none):(newPl β nw f v F).f b=f b∧(newPl β nw f v F).v b=v b∧(newPl β nw f v F).F b=F b∧(newPl β nw f v F).r b=none:=by
  have:(lookN nw b).isSome=true:=Option.isSome_iff_ne_none.2 h
  unfold newPl
  simp only [this,if_true,and_self]
theorem newPl_none {nw:List (Nat × TypeId × List A0)} {f:Nat→Nat} {v:Nat→Value} {F:Nat→Nat→Prop} {b:Nat} (h:lookN nw b=none):(newPl β nw f v F).f b=β.f b∧(newPl β nw f v F).v b=β.v b∧(newPl β nw f v F).F b=β.F b∧(newPl β nw f v F).r b=β.r b:=by
  unfold newPl
  simp [h]
theorem Sat.called' (h:Sat W w0 n β s a w) (ha:Ag β.O w w') (hkeep:∀ b k,s.T b≠none→β.F b k→w'.heap[k]?=w.heap[k]?) (hW:Ag W w0 w') {nw:List (Nat × TypeId × List A0)} {f:Nat→Nat} {v:Nat→Value} {F:Nat→Nat→Prop}
    (hT:∀ b q,lookN nw b=some q→s.T b=none)
    (hF:∀ b q k,lookN nw b=some q→F b k→w.heap.size≤k∧k<w'.heap.size)
    (hdisj:∀ b b' q q' k,lookN nw b=some q→lookN nw b'=some q'→F b k→F b' k→b=b')
    (hbox:∀ b q,lookN nw b=some q→BoxOk (newPl β nw f v F) b (fun off=>q.2[off]?) q.1 w')
    (hrefs:∀ b q,lookN nw b=some q→∀ c∈q.2,∀ r∈c.refs,lookN nw r≠none∨s.T r≠none):Sat W w0 n (newPl β nw f v F) (s.addN nw) a w':=by
  have hs:∀ {b q},lookN nw b=some q→lookN nw b≠none:=fun h=>by rw [h];simp
  refine h.news ha hkeep hW nw hT (fun b hl=>newPl_none hl) (fun k=>?_) (fun b q k hl hf=>?_) (fun b b' q q' k hl hl' hf hf'=>?_) hbox hrefs
  · constructor
    · rintro (h1|⟨b,q,hl,hf⟩)
      · exact .inl h1
      · exact .inr ⟨b,q,hl,by rw [(newPl_some (hs hl)).2.2.1];exact hf⟩
    · rintro (h1|⟨b,q,hl,hf⟩)
      · exact .inl h1
      · rw [(newPl_some (hs hl)).2.2.1] at hf
        exact .inr ⟨b,q,hl,hf⟩
  · rw [(newPl_some (hs hl)).2.2.1] at hf
    obtain ⟨h1,h2⟩:=hF b q k hl hf
    exact ⟨h2,.inl h1⟩
  · rw [(newPl_some (hs hl)).2.2.1] at hf
    rw [(newPl_some (hs hl')).2.2.1] at hf'
    exact hdisj b b' q q' k hl hl' hf hf'
theorem Sat.called (h:Sat W w0 n β s a w) (hb:Below w.heap.size w w') {nw:List (Nat × TypeId × List A0)} {f:Nat→Nat} {v:Nat→Value} {F:Nat→Nat→Prop}
    (hT:∀ b q,lookN nw b=some q→s.T b=none)
    (hF:∀ b q k,lookN nw b=some q→F b k→w.heap.size≤k∧k<w'.heap.size)
    (hdisj:∀ b b' q q' k,lookN nw b=some q→lookN nw b'=some q'→F b k→F b' k→b=b')
    (hbox:∀ b q,lookN nw b=some q→BoxOk (newPl β nw f v F) b (fun off=>q.2[off]?) q.1 w')
    (hrefs:∀ b q,lookN nw b=some q→∀ c∈q.2,∀ r∈c.refs,lookN nw r≠none∨s.T r≠none):Sat W w0 n (newPl β nw f v F) (s.addN nw) a w' :=
  h.called' (Ag.of_below hb) (fun b k hb' hf=>hb.block k (h.lt k (h.own b k hb' hf).1)) (Ag.then h.below (Ag.of_below (O:=fun _=>False) hb) (fun _ _ h=>h.elim)) hT hF hdisj hbox hrefs
theorem Sat.calledO' (h:Sat W w0 n β s a w) (ha:Ag β.O w w') (hkeep:∀ b k,s.T b≠none→β.F b k→w'.heap[k]?=w.heap[k]?) (hW:Ag W w0 w') {os:List (Nat × D)} {o0:Nat} {v:Nat→Value} {F:Nat→Nat→Prop} (hN:News w w' v F os)
    (hT:∀ p∈os,s.T (o0+p.1)=none):Sat W w0 n (newPl β (obNew (os.map fun p=>(o0+p.1,p.2))) (fun _=>0) (fun b=>v (b-o0)) (fun b=>F (b-o0))) (s.addN (obNew (os.map fun p=>(o0+p.1,p.2)))) a w':=by
  have hmem:∀ {b q},lookN (obNew (os.map fun p=>(o0+p.1,p.2))) b=some q→∃ p∈os,b=o0+p.1∧q=(obT,[.obs p.2]):=by
    intro b q hl
    obtain ⟨x,hx,e⟩:=lookN_ob hl
    obtain ⟨p,hp,he⟩:=List.mem_map.1 hx
    cases he
    exact ⟨p,hp,rfl,e⟩
  have hsub:∀ i,o0+i-o0=i:=fun i=>by omega
  refine h.called' ha hkeep hW (fun b q hl=>?_) (fun b q k hl hf=>?_) (fun b b' q q' k hl hl' hf hf'=>?_) (fun b q hl=>?_) (fun b q hl c hc r hr=>?_)
  · obtain ⟨p,hp,rfl,_⟩:=hmem hl
    exact hT p hp
  · obtain ⟨p,hp,rfl,_⟩:=hmem hl
    rw [hsub] at hf
    exact hN.new p hp k hf
  · obtain ⟨p,hp,rfl,_⟩:=hmem hl
    obtain ⟨p',hp',rfl,_⟩:=hmem hl'
    rw [hsub] at hf hf'
    rw [hN.disj p hp p' hp' k hf hf']
  · have hne:lookN (obNew (os.map fun p=>(o0+p.1,p.2))) b≠none:=by rw [hl];simp
    obtain ⟨h1,h2,h3,_⟩:=newPl_some (β:=β) (f:=fun _=>0) (v:=fun b=>v (b-o0)) (F:=fun b=>F (b-o0)) hne
    obtain ⟨p,hp,rfl,rfl⟩:=hmem hl
    rw [hsub] at h2 h3
    exact ob_box (hN.own p hp) h3 h2
  · obtain ⟨p,hp,rfl,rfl⟩:=hmem hl
    simp only [List.mem_singleton] at hc
    subst hc
    simp [A0.refs] at hr
theorem range_flat (us:List Value):∀ m,((List.range (m*us.length)).map fun i=>us.toArray[i%us.length]!)=(List.replicate m us).flatten
  | 0=>by simp
  | m+1=>by
    rw [List.replicate_succ',List.flatten_append,← range_flat us m,Nat.add_mul,Nat.one_mul,List.range_add,List.map_append]
    congr 1
    simp only [List.flatten_cons,List.flatten_nil,List.append_nil,List.map_map]
    refine List.ext_getElem (by simp) (fun i h1 h2=>?_)
    simp only [List.getElem_map,List.getElem_range,Function.comp]
    rw [Nat.mul_add_mod',Nat.mod_eq_of_lt h2]
    simp [h2]
theorem all2_flat {R:A0→Value→Prop} {l:List A0} {us:List Value} (h:All2 R l us):∀ m,All2 R (List.replicate m l).flatten (List.replicate m us).flatten
  | 0 => .nil
  | m+1=>by simp only [List.replicate_succ,List.flatten_cons];exact all2_append h (all2_flat h m)
theorem op_buildSlice (ok:CxOk P X) (hS:Sat W w0 n β s a w) {T:TypeId} {m:Nat} {parts:Array (Nat × Operand)} (ho:o.op = .buildSlice T m parts) (h:absOp X s o=some e) (hp:e.pre) (hd:∀ d,o.dst=some d→d<n) (hn:newOk s e)
    (hK:∀ β' a' w',Sat W w0 n β' (s.app o.dst e) a' w'→K a' w'):o.wp P a w K Q:=by
  simp only [absOp,req,req2,fin,ho,Op.operands] at h
  have hv:=vs_good hS (parts.toList.map (·.2))
  split at h
  · rename_i p ys el d hf helt hdst
    split at h
    · rename_i zs hz
      split at h
      · rename_i l hl
        split at h
        · rename_i hc
          cases h
          obtain ⟨hall,hsz,hzl,hsmall,hm0,hty⟩:=hc
          have hg:=forces_good hf hp hv
          obtain ⟨inf,z,us,h1,h2,h3,h4,h5,h6⟩:=(ok.ty el).zero zs hz
          obtain ⟨inf',hi,hsi⟩:=(ok.ty el).size (by omega)
          rw [h1] at hi;cases hi
          have hu:=(ok.ty T).slc el helt
          obtain ⟨zr1,zr2⟩:=zip_reads (is:=parts.toList.map (·.1)) (by simp) hg
          obtain ⟨r,hr1,hr2,hr3⟩:=fill_reads (fun r hr=>hS.oneV hr) hl zr1 (all2_flat (h4 β w) m) (fun c hc=>by
            obtain ⟨l',hl',hc'⟩:=List.mem_flatten.1 hc
            rw [List.eq_of_mem_replicate hl'] at hc'
            rw [A0.free_refs (List.all_eq_true.1 h6 c hc')];simp)
          have hone:=okAll hr2 hall (fun q hq=>by
            obtain ⟨c',hc',hq'⟩:=List.mem_flatMap.1 hq
            exact hS.oneV (hr3 c' hc' q hq'))
          rw [zr2] at hr1
          have hlen:us.length=(X.ti el).size:=by rw [← hzl];exact (All2.length (h4 β w)).symm
          have hrun:(execOp a.eval o).run P w = .ok (.value (.slice (some ⟨w.heap.size,0,none⟩) m m)) (w.alloc (.cells r.toArray el)):=by
            unfold execOp;rw [ho]
            dsimp only
            rw [Sem.run_bind]
            have e1:(parts.map fun (q:Nat × Operand)=>(q.1,a.eval q.2)).toList=(parts.toList.map (·.1)).zip (parts.toList.map (fun q=>a.eval q.2)):=by
              rw [Array.toList_map]
              induction parts.toList with
              | nil=>rfl
              | cons q l ih=>simp [ih]
            have hr3:Instr.fill (fun i=>some (i*(X.ti el).size,(X.ti el).size)) ((List.replicate m us).flatten).toArray ((parts.toList.map (·.1)).zip (parts.toList.map (fun q=>a.eval q.2)))=some r.toArray:=by
              rw [List.map_map] at hr1;exact hr1
            have e3:((Array.range (m*(X.ti el).size)).map fun x=>us.toArray[x%us.toArray.size]!)=((List.replicate m us).flatten).toArray:=by
              apply Array.ext'
              rw [Array.toList_map,Array.toList_range,← hlen]
              exact range_flat us m
            have e2:(Instr.buildSlice T m (parts.map fun (q:Nat × Operand)=>(q.1,a.eval q.2))).run P w = .ok (.slice (some ⟨w.heap.size,0,none⟩) m m) (w.alloc (.cells r.toArray el)):=by
              unfold Instr.buildSlice
              simp only [Sem.run_bind,run_underlying hu,Result.andThen_ok,run_sizeOf' h1,hsi]
              rw [if_neg (by omega)]
              have hz0:m*(X.ti el).size≠0:=Nat.pos_iff_ne_zero.1 (Nat.mul_pos hm0 hsz)
              rw [if_neg hz0]
              simp only [Sem.run_bind,zeroValue,typeInfo,run_program,h1,Sem.run_pure,Result.andThen_ok,h2,h3]
              rw [e3,e1,hr3]
              simp [newRow]
            rw [show (fun (x:Nat × Operand)=>match x with|(i,x)=>(i,a.eval x))=fun (q:Nat × Operand)=>(q.1,a.eval q.2) from rfl,e2]
            rfl
          unfold Oper.wp
          rw [hrun,Oper.upon_value]
          refine done_new (y := .own d 0 m (X.ti el).size) hS (below_alloc (Below.refl _ _) _) (Nat.le_refl _) (alloc_at _ _) hty (cs:=l) (fun off c hc=>?_) hdst (hd d hdst) (hn _ List.mem_cons_self) rfl rfl rfl ⟨m,by simp [upd],Nat.le_refl _⟩ (by simp [TV.refs]) hK
          obtain ⟨x,hx,hr⟩:=All2.get hr2 off c hc
          exact ⟨x,by simpa using hx,hone x (List.mem_of_getElem? hx),hr,hr3 c (List.mem_of_getElem? hc)⟩
        · cases h
      · cases h
    · cases h
  · cases h
end
end Go.Proofs.YtcgknibjbnijmaaW.Sy
end
section
set_option linter.unusedVariables false
set_option linter.unusedSimpArgs false
namespace Go.Proofs.YtcgknibjbnijmaaW.Sy
open Go RowKit YtcgknibjbnijmaaW.PrintWords YtcgknibjbnijmaaW.PrintMore YtcgknibjbnijmaaW.Aid YtcgknibjbnijmaaW.Big
theorem noRef_refs {c:A0} (h:c.noRef=true):c.refs=[]:=by cases c<;>first|rfl|cases h
theorem noRef_noObs {c:A0} (h:c.noRef=true):c.noObs=true:=by cases c<;>first|rfl|cases h
section
variable {P:Program} {X:Cx} {W:Nat→Prop} {w0:World} {n:Nat} {β β':Pl} {s:St} {a:Act} {w w':World} {o:Oper} {e:Eff} {K:Act→World→Prop} {Q:Exit→Act→World→Prop} {O':Nat→Prop}
theorem lendA_reads (hS:Sat W w0 n β s a w) (hO:∀ k,O' k→β.O k) {c c':A0} {u:Value} {tail:List (Option A0)} (h:lendA c ((refP c).map (fun p=>s.m p.1 p.2)++tail)=some c') (hr:c.reads β w u) (hF:∀ r∈c.refs,∀ k,β.F r k→¬ O' k):c'.reads (plO O') w u∧c'.refs=[]:=by
  have plain:∀ {c:A0},c.refs=[]→c.reads β w u→c.reads (plO O') w u:=fun h1 h2=>A0.to h2 (Ag.refl _ _) (fun k _ hk=>hO k hk) (by rw [h1];simp)
  cases c with
  | ref b =>
    have h':(match s.m b 0::tail with|some (.obs x)::_=>some x.told|_=>none)=some c':=h
    split at h'
    · rename_i x r e1
      cases h'
      have hm:s.m b 0=some (.obs x):=by injection e1
      rw [show u=β.v b from hr]
      exact ⟨D.own_told (hS.ob hm).2 (hF b (by simp [A0.refs])),D.told_refs x⟩
    · cases h'
  | obs x=>exact (show False from hr).elim
  | v x=>cases h;exact ⟨plain rfl hr,rfl⟩
  | sl k l=>cases h;exact ⟨plain rfl hr,rfl⟩
  | neg x=>cases h;exact ⟨plain rfl hr,rfl⟩
  | mag x=>cases h;exact ⟨plain rfl hr,rfl⟩
  | ls m=>cases h;exact ⟨plain rfl hr,rfl⟩
  | op x=>cases h;exact ⟨plain rfl hr,rfl⟩
theorem lendL_reads (hS:Sat W w0 n β s a w) (hO:∀ k,O' k→β.O k):∀ {l l':List A0} {us:List Value} {tail:List (Option A0)},lendL l ((l.flatMap refP).map (fun p=>s.m p.1 p.2)++tail)=some l'→All2 (A0.reads β w) l us→(∀ r∈l.flatMap A0.refs,∀ k,β.F r k→¬ O' k)→All2 (A0.reads (plO O') w) l' us∧∀ c∈l',c.refs=[]
  | [],l',us,tail,h,hr,hF=>by cases hr;cases h;exact ⟨.nil,by simp⟩
  | c :: l, l', us, tail, h, hr, hF => by
    cases hr with
    | cons h1 h2 =>
      simp only [List.flatMap_cons,List.map_append,List.append_assoc,lendL] at h
      rw [List.drop_left' (by simp [refP])] at h
      split at h
      · rename_i c' r' e1 e2
        cases h
        simp only [List.flatMap_cons,List.mem_append] at hF
        obtain ⟨g1,g2⟩:=lendA_reads hS hO e1 h1 (fun r hr=>hF r (.inl hr))
        obtain ⟨g3,g4⟩:=lendL_reads hS hO e2 h2 (fun r hr=>hF r (.inr hr))
        refine ⟨.cons g1 g3,fun q hq=>?_⟩
        rcases List.mem_cons.1 hq with rfl|hq
        · exact g2
        · exact g4 q hq
      · cases h
theorem cells_plO (hO:∀ k,O' k→β.O k) {ad:Addr} {cs:List A0} (h:CellsAt β w ad cs):CellsAt (plO O') w ad cs:=fun i c hi=>by
  obtain ⟨x,h1,h2,h3⟩:=h i c hi
  exact ⟨x,h1,A0.to h2 (Ag.refl _ _) (fun k _ hk=>hO k hk) (by rw [h3];simp),h3⟩
theorem outs_plO (hO:∀ k,O' k→β.O k) {ad:Addr} (h:Outs β w ad):Outs (plO O') w ad:=⟨h.1,fun hk=>h.2 (hO _ hk)⟩
theorem toArg_reads (hS:Sat W w0 n β s a w) (hO:∀ k,O' k→β.O k):∀ {ays ays':List TV} {us:List Value},toArgs ays ((ays.flatMap toArg1).map fun p=>s.m p.1 p.2)=some ays'→All2 (Good β s w) ays us→(∀ y∈ays,∀ b∈y.refs,∀ k,β.F b k→¬ O' k)→All2 (TV.reads (plO O') w) ays' us
  | [],ays',us,h,hg,_=>by cases hg;cases h;exact .nil
  | x :: r, ays', us, h, hg, hF => by
    cases hg with
    | cons h1 h2 =>
      rename_i u us
      have hF1:=hF x List.mem_cons_self
      have hF2:∀ y∈r,∀ b∈y.refs,∀ k,β.F b k→¬ O' k:=fun y hy=>hF y (List.mem_cons_of_mem _ hy)
      have plain:∀ {y:TV} ,toArg1 y=[]→(∀ as2,toArgs r ((r.flatMap toArg1).map fun p=>s.m p.1 p.2)=some as2→some (y::as2)=some ays'→y.reads (plO O') w u→All2 (TV.reads (plO O') w) ays' (u::us)):=by
        intro y _ as2 e1 e2 hr
        cases e2
        exact .cons hr (toArg_reads hS hO e1 h2 hF2)
      cases x with
      | own b off m sz =>
        simp only [List.flatMap_cons,toArg1,List.map_append,toArgs] at h
        rw [List.take_left' (by simp [span]),List.drop_left' (by simp [span])] at h
        split at h
        · rename_i l as2 e1 e2
          split at h
          case isFalse=>cases h
          rename_i hnr
          cases h
          obtain ⟨c,hu,hc⟩:=h1.1
          obtain ⟨us',h3,h4,h5,_⟩:=box_cells hS b (m*sz) off l (allSome_get e1) (List.all_eq_true.2 (fun c hc=>noRef_noObs (List.all_eq_true.1 hnr.1 c hc)))
          refine .cons ⟨_,c,hu,hc,fun hm=>⟨_,rfl,?_,fun i c' hi=>?_⟩⟩ (toArg_reads hS hO e2 h2 hF2)
          · have hpos:0<m*sz:=Nat.mul_pos hm hnr.2
            have hne:span b off (m*sz)=(b,off)::span b (off+1) (m*sz-1):=by
              obtain ⟨q,hq⟩:∃ q,m*sz=q+1:=⟨m*sz-1,by omega⟩
              rw [hq];simp [span,List.range'_succ]
            have hl:=allSome_get e1
            rw [hne] at hl
            cases l with
            | nil=>simp at hl
            | cons c0 l0 =>
              simp only [List.map_cons,List.cons.injEq] at hl
              obtain ⟨ty,arr,_,hT,_,hFb,ha,_⟩:=hS.cell hl.1 (noRef_noObs (List.all_eq_true.1 hnr.1 c0 List.mem_cons_self))
              exact ⟨(Array.getElem?_eq_some_iff.1 ha).1,hF1 b (by simp [TV.refs]) _ ((hFb _).2 rfl)⟩
          · obtain ⟨v,hv,hr⟩:=All2.get h4 i c' hi
            have hn:=noRef_refs (List.all_eq_true.1 hnr.1 c' (List.mem_of_getElem? hi))
            exact ⟨v,by rw [addr_add];exact (h5 i v hv).1,A0.to hr (Ag.refl _ _) (fun k _ hk=>hO k hk) (by rw [hn];simp),hn⟩
        · cases h
      | oclo f bs =>
        simp only [List.flatMap_cons,toArg1,List.map_append,toArgs] at h
        have hlen:((bs.flatMap fun b=>span b 0 12).map fun p=>s.m p.1 p.2).length=bs.length*12:=by
          clear h h1 hF1 hF
          induction bs with
          | nil=>rfl
          | cons b bs ih=>rw [List.flatMap_cons,List.map_append,List.length_append,ih,List.length_map,List.length_cons];simp only [span,List.length_map,List.length_range'];omega
        rw [List.drop_left' hlen] at h
        split at h
        · rename_i as2 e2
          split at h
          case isFalse=>cases h
          rename_i hall
          cases h
          refine .cons ⟨bs.map fun b=>Value.pointer (some ⟨β b,0,none⟩),h1.1,?_⟩ (toArg_reads hS hO e2 h2 hF2)
          have hrf:∀ b∈bs,s.T b≠none:=fun b hb=>h1.2 b (by simpa [TV.refs] using hb)
          have hFb:∀ b∈bs,∀ k,β.F b k→¬ O' k:=fun b hb=>hF1 b (by simpa [TV.refs] using hb)
          have : ∀ (bs : List Nat) (tail : List (Option A0)), (∀ b ∈ bs, s.T b ≠ none) → (∀ b ∈ bs, ∀ k, β.F b k → ¬ O' k) → ((chunks bs.length ((bs.flatMap fun b => span b 0 12).map (fun p => s.m p.1 p.2) ++ tail)).all fun l => l.all A0.noRef && !l.isEmpty) = true → All2 (FRef (plO O') w) (chunks bs.length ((bs.flatMap fun b => span b 0 12).map (fun p => s.m p.1 p.2) ++ tail)) (bs.map fun b => Value.pointer (some ⟨β b, 0, none⟩)) := by
            intro bs
            induction bs with
            | nil=>intro tail _ _ _;exact .nil
            | cons b bs ih =>
              intro tail hrf hFb hall
              simp only [List.flatMap_cons,List.map_append,List.length_cons,chunks,List.append_assoc] at hall ⊢
              rw [List.take_left' (by simp [span]),List.drop_left' (by simp [span])] at hall ⊢
              simp only [List.all_cons,Bool.and_eq_true] at hall
              have key:∀ (k off:Nat) (i:Nat) (c:A0),(someTake ((span b off k).map fun p=>s.m p.1 p.2))[i]?=some c→s.m b (off+i)=some c:=by
                intro k
                induction k with
                | zero=>intro off i c hi;simp [span,someTake] at hi
                | succ k ihk =>
                  intro off i c hi
                  simp only [span,List.range'_succ,List.map_cons,someTake,List.foldr_cons] at hi
                  cases hm:s.m b off with
                  | none=>rw [hm] at hi;simp at hi
                  | some y =>
                    rw [hm] at hi
                    cases i with
                    | zero=>simp at hi;subst hi;exact hm
                    | succ i =>
                      have:=ihk (off+1) i c (by simpa [span,someTake] using hi)
                      rwa [show off+1+i=off+(i+1) by omega] at this
              have hcell:∀ (i:Nat) (c:A0),(someTake ((span b 0 12).map fun p=>s.m p.1 p.2))[i]?=some c→∃ (ty:TypeId) (arr:Array Value) (x:Value),s.T b=some ty∧ty≠obT∧(∀ k,β.F b k↔k=β b)∧w.heap[β b]?=some (.cells arr ty (0,0))∧arr[i]?=some x∧x.oneCell'=true∧c.reads β w x:=fun i c hi=>by
                have h3:=key 12 0 i c hi
                rw [Nat.zero_add] at h3
                exact hS.cell h3 (noRef_noObs (List.all_eq_true.1 hall.1.1 c (List.mem_of_getElem? hi)))
              refine .cons ⟨_,rfl,?_,?_⟩ (ih tail (fun b' hb'=>hrf b' (List.mem_cons_of_mem _ hb')) (fun b' hb'=>hFb b' (List.mem_cons_of_mem _ hb')) hall.2)
              · have hne:someTake ((span b 0 12).map fun p=>s.m p.1 p.2)≠[]:=by
                  have h3:=hall.1.2
                  intro e;rw [e] at h3;simp at h3
                obtain ⟨c0,l0,e0⟩:=List.exists_cons_of_ne_nil hne
                obtain ⟨ty,arr,_,hT,_,hFb0,ha,_⟩:=hcell 0 c0 (by rw [e0];rfl)
                exact ⟨(Array.getElem?_eq_some_iff.1 ha).1,hFb b List.mem_cons_self _ ((hFb0 _).2 rfl)⟩
              · intro i c hi
                obtain ⟨ty,arr,x,hT,_,hFb0,ha,hx,_,hr⟩:=hcell i c hi
                have hn:=noRef_refs (List.all_eq_true.1 hall.1.1 c (List.mem_of_getElem? hi))
                exact ⟨x,by rw [addr_add];unfold World.cell?;rw [ha];simpa using hx,A0.to hr (Ag.refl _ _) (fun k _ hk=>hO k hk) (by rw [hn];simp),hn⟩
          exact this bs _ hrf hFb hall
        · cases h
      | ptr b off=>simp only [toArgs] at h;cases h
      | oel b i=>simp only [toArgs] at h;cases h
      | elem k l i=>simp only [toArgs] at h;cases h
      | cond c x=>simp only [toArgs] at h;cases h
      | tup l=>simp only [toArgs] at h;cases h
      | sc c =>
        simp only [List.flatMap_cons,toArg1,List.map_append,toArgs] at h
        rw [List.drop_left' (by simp [refP])] at h
        split at h
        · rename_i c' as2 e1 e2
          cases h
          exact .cons (lendA_reads hS hO e1 h1.1 hF1).1 (toArg_reads hS hO e2 h2 hF2)
        · cases h
      | agg cs =>
        simp only [List.flatMap_cons,toArg1,List.map_append,toArgs] at h
        rw [List.drop_left' (by simp)] at h
        split at h
        · rename_i c' as2 e1 e2
          cases h
          obtain ⟨us',e,hr⟩:=h1.1
          exact .cons ⟨us',e,(lendL_reads hS hO e1 hr hF1).1⟩ (toArg_reads hS hO e2 h2 hF2)
        · cases h
      | row m cs =>
        simp only [List.flatMap_cons,toArg1,List.nil_append,toArgs] at h
        split at h
        · rename_i as2 e1
          obtain ⟨A,c,e,hn,hh⟩:=h1.1
          exact plain rfl as2 e1 h ⟨A,c,e,hn,fun h0=>by obtain ⟨ad,ea,hb,hc⟩:=hh h0;exact ⟨ad,ea,outs_plO hO hb,cells_plO hO hc⟩⟩
        · cases h
      | rowF m sz f =>
        simp only [List.flatMap_cons,toArg1,List.nil_append,toArgs] at h
        split at h
        · rename_i as2 e1
          obtain ⟨A,c,e,hn,hh⟩:=h1.1
          exact plain rfl as2 e1 h ⟨A,c,e,hn,fun h0=>by obtain ⟨ad,ea,hb,hc⟩:=hh h0;exact ⟨ad,ea,outs_plO hO hb,fun i hi=>cells_plO hO (hc i hi)⟩⟩
        · cases h
      | rptr cs =>
        simp only [List.flatMap_cons,toArg1,List.nil_append,toArgs] at h
        split at h
        · rename_i as2 e1
          obtain ⟨ad,e,hb,hc⟩:=h1.1
          exact plain rfl as2 e1 h ⟨ad,e,outs_plO hO hb,cells_plO hO hc⟩
        · cases h
      | clo f caps =>
        simp only [List.flatMap_cons,toArg1,List.nil_append,toArgs] at h
        split at h
        · rename_i as2 e1
          obtain ⟨us',e,hr⟩:=h1.1
          exact plain rfl as2 e1 h ⟨us',e,All2.imp (fun _ _ ⟨ad,e,hb,hc⟩=>⟨ad,e,outs_plO hO hb,cells_plO hO hc⟩) hr⟩
        · cases h
theorem plain_reads {x:TV} (hx:x.plain=true) {β β':Pl} {w w':World} {u:Value} (h:x.reads β w u):x.reads β' w' u∧x.refs=[]:=by
  have hl:∀ {cs:List A0} {us:List Value},cs.all A0.free=true→All2 (A0.reads β w) cs us→All2 (A0.reads β' w') cs us∧cs.flatMap A0.refs=[]:=fun {cs us} hc hr=>⟨All2.imp_mem (fun c hm _ h=>A0.free_reads h (List.all_eq_true.1 hc c hm)) hr,by
    rw [List.flatMap_eq_nil_iff];exact fun c hm=>A0.free_refs (List.all_eq_true.1 hc c hm)⟩
  cases x with
  | sc c=>exact ⟨A0.free_reads h hx,A0.free_refs hx⟩
  | agg cs=>obtain ⟨us,e,hr⟩:=h;obtain ⟨h1,h2⟩:=hl hx hr;exact ⟨⟨us,e,h1⟩,h2⟩
  | tup l =>
    obtain ⟨us,e,hr⟩:=h
    have hx':∀ p∈l,p.2.all A0.free=true:=fun p hp=>List.all_eq_true.1 hx p hp
    refine ⟨⟨us,e,All2.imp_mem (fun p hm u h=>?_) hr⟩,?_⟩
    · obtain ⟨b,cs⟩:=p
      have hc:=hx' _ hm
      cases b with
      | true=>obtain ⟨us,e,hr⟩:=h;exact ⟨us,e,(hl hc hr).1⟩
      | false=>obtain ⟨c,e,hr⟩:=h;subst e;exact ⟨c,rfl,A0.free_reads hr (by simpa using hc)⟩
    · show (l.flatMap fun p=>p.2.flatMap A0.refs)=[]
      rw [List.flatMap_eq_nil_iff]
      intro p hp
      rw [List.flatMap_eq_nil_iff]
      exact fun c hm=>A0.free_refs (List.all_eq_true.1 (hx' p hp) c hm)
  | _=>simp [TV.plain] at hx
theorem one_part {p:Bool × List A0} {y:TV} {u:Value} {β:Pl} {w:World} (h:part0 β w p u) (hy:ofPart p=some y):y.reads β w u∧y.refs=p.2.flatMap A0.refs:=by
  obtain ⟨b,cs⟩:=p
  unfold ofPart at hy
  split at hy
  · rename_i e;cases e;cases hy;exact ⟨h,rfl⟩
  · rename_i e
    cases e;cases hy
    obtain ⟨c',e',hc'⟩:=h
    cases e'
    exact ⟨hc',by simp [TV.refs]⟩
  · cases hy
theorem eff_simple {dst:Option Tmp} {r:CR} {v:Option TV} {nw:List (Nat × TypeId × List A0)} (he:effCR dst r=some (v,nw)) (hs:r.simple=true):∃ y d,v=some y∧nw=obNew (r.objs.map fun p=>(oid d 0+p.1,p.2))∧(r.objs=[]∨dst=some d) ∧
    ∀ (w w':World) (vv:Nat→Value) (F:Nat→Nat→Prop) (u:Value) (β':Pl),r.val w w' vv F u→(∀ p∈r.objs,β'.v (oid d 0+p.1)=vv p.1)→y.reads β' w' u∧∀ b∈y.refs,lookN nw b≠none:=by
  have sh:∀ d l,objsP (oid d 0) l=(objsP 0 l).map fun p=>(oid d 0+p.1,p.2):=fun d l=>objsP_shift (oid d 0) l 0
  unfold effCR at he
  split at he
  · split at he
    · rename_i x hx
      cases he
      exact ⟨x,0,rfl,rfl,.inl rfl,fun w w' vv F u β' hv _=>by
        obtain ⟨h1,h2⟩:=plain_reads (β':=β') (w':=w') hx hv
        exact ⟨h1,by rw [h2];simp⟩⟩
    · cases he
  · cases hs
  · cases hs
  · rename_i l d
    split at he
    · rename_i hf
      cases he
      refine ⟨_,d,rfl,by rw [sh];rfl,.inr rfl,fun w w' vv F u β' hv hvv=>?_⟩
      obtain ⟨us,e,hr⟩:=(show (TV.tup (cellsP 0 l)).reads (plV vv) w' u from hv)
      have:=parts_shift (β':=β') (o:=oid d 0) hr hf hvv
      refine ⟨⟨us,e,this⟩,fun b hb=>?_⟩
      obtain ⟨q,hq,hb'⟩:=List.mem_flatMap.1 hb
      obtain ⟨x,hx⟩:=parts_refs l _ hf q hq b hb'
      exact lookN_mem hx
    · cases he
  · rename_i l d
    split at he
    · rename_i hf
      cases he
      have e1:objsP 0 [(true,l)]=objsR 0 l:=by simp [objsP]
      have e2:objsR (oid d 0) l=(objsR 0 l).map fun p=>(oid d 0+p.1,p.2):=objsR_shift (oid d 0) l 0
      refine ⟨_,d,rfl,by rw [e2];show _=obNew (List.map _ (objsP 0 [(true,l)]));rw [e1],.inr rfl,fun w w' vv F u β' hv hvv=>?_⟩
      have:=part_shift (β':=β') (o:=oid d 0) (b:=true) (l:=l) (show part0 (plV vv) w' (true,cellsR 0 l) u from hv) hf (fun p hp=>hvv p (by show p∈objsP 0 [(true,l)];rw [e1];exact hp))
      refine ⟨this,fun b hb=>?_⟩
      obtain ⟨c,hc,hb'⟩:=List.mem_flatMap.1 hb
      obtain ⟨x,hx⟩:=cellsR_refs l _ hf c hc b hb'
      exact lookN_mem hx
    · cases he
  · rename_i x d
    cases he
    refine ⟨_,d,rfl,rfl,.inr rfl,fun w w' vv F u β' hv hvv=>?_⟩
    obtain ⟨c,e,hr⟩:=(show part0 (plV vv) w' (false,cellsR 0 [.o x]) u from hv)
    have e':A0.ref 0=c:=by simpa [cellsR,RC.cell] using e
    subst e'
    refine ⟨?_,fun b hb=>?_⟩
    · show u=β'.v (oid d 0)
      rw [show u=vv 0 from hr]
      exact (hvv (0,x) (by show (0,x)∈objsP 0 [(false,[.o x])];simp [objsP,objsR])).symm
    · have:b=oid d 0:=by simpa [TV.refs,A0.refs] using hb
      subst this
      rw [lookN_self];simp
  · cases he
end
end Go.Proofs.YtcgknibjbnijmaaW.Sy
end
section
set_option linter.unusedVariables false
set_option linter.unusedSimpArgs false
namespace Go.Proofs.YtcgknibjbnijmaaW.Sy
open Go RowKit YtcgknibjbnijmaaW.PrintWords YtcgknibjbnijmaaW.PrintMore YtcgknibjbnijmaaW.Aid YtcgknibjbnijmaaW.Big
theorem All2.map_left {α α' β:Type} {R:α'→β→Prop} (f:α→α'):∀ {l:List α} {m:List β},All2 (fun x y=>R (f x) y) l m→All2 R (l.map f) m
  | [],_,h=>by cases h;exact .nil
  | x::l,_,h=>by cases h with|cons h1 h2=>exact .cons h1 (All2.map_left f h2)
theorem cellsR_get:∀ (l:List RC) (i off:Nat),(cellsR i l)[off]?=(l[off]?).map fun x=>x.cell (i+off)
  | [],i,off=>by simp [cellsR]
  | x::l,i,0=>by simp [cellsR]
  | x::l,i,off+1=>by
    simp only [cellsR,List.getElem?_cons_succ]
    rw [cellsR_get l (i+1) off,show i+1+off=i+(off+1) by omega]
theorem objsR_get:∀ (l:List RC) (i off:Nat) (x:D),l[off]?=some (.o x)→(i+off,x)∈objsR i l
  | [],i,off,x,h=>by simp at h
  | .o y::l,i,0,x,h=>by
    have:y=x:=by simpa using h
    subst this
    exact List.mem_cons_self
  | .t c::l,i,0,x,h=>by simp at h
  | y::l,i,off+1,x,h=>by
    have:=objsR_get l (i+1) off x (by simpa using h)
    rw [show i+1+off=i+(off+1) by omega] at this
    cases y with
    | t c=>exact this
    | o z=>exact List.mem_cons_of_mem _ this
theorem objsB_get:∀ (l:List (Option RC)) (i off:Nat) (x:D),l[off]?=some (some (.o x))→(i+off,x)∈objsB i l
  | [],i,off,x,h=>by simp at h
  | some (.o y)::l,i,0,x,h=>by
    have:y=x:=by simpa using h
    subst this
    exact List.mem_cons_self
  | some (.t c)::l,i,0,x,h=>by simp at h
  | none::l,i,0,x,h=>by simp at h
  | y :: l, i, off + 1, x, h => by
    have:=objsB_get l (i+1) off x (by simpa using h)
    rw [show i+1+off=i+(off+1) by omega] at this
    cases y with
    | none=>exact this
    | some y=>cases y with
      | t c=>exact this
      | o z=>exact List.mem_cons_of_mem _ this
section
variable {P:Program} {X:Cx} {W:Nat→Prop} {w0:World} {n:Nat} {β β':Pl} {s:St} {a:Act} {w w':World} {o:Oper} {e:Eff} {K:Act→World→Prop} {Q:Exit→Act→World→Prop}
theorem run_call {fo:Operand} {args:Array Operand} {ats:Array TypeId} {f:FuncId} {us:List Value} (ho:o.op = .call { callee := .value fo,args:=args,argTypes:=ats }) (hfe:a.eval fo = .func (.func f) #[] us.toArray) (hf:FOk P f) (w:World):(execOp a.eval o).run P w = .ok (.enter f (args.toList.map a.eval++us).toArray) w:=by
  obtain ⟨fn,hf1,hf2,hf3⟩:=hf
  unfold execOp;rw [ho]
  dsimp only
  rw [Sem.run_bind]
  have e1:(resolve a.eval { callee := .value fo,args:=args,argTypes:=ats } o.type).run P w = .ok { target := .fn (.func f) us.toArray,args:=args.map a.eval } w:=by
    simp [resolve,hfe,Deferred.ofValue]
  rw [e1]
  simp only [Result.andThen_ok,invoke,callFunc,Sem.run_bind,run_program,hf1,hf2,hf3,Bool.false_eq_true,if_false,Sem.run_pure]
  congr 2
  apply Array.ext';simp
theorem oid_gt (d j:Nat):d<oid d j:=by unfold oid;omega
theorem oid_add (d i j:Nat):oid d i+j=oid d (i+j):=by unfold oid;omega
theorem done_simple (hS:Sat W w0 n β (s.after e) a w) (ha:Ag β.O w w') (hkeep:∀ b k,(s.after e).T b≠none→β.F b k→w'.heap[k]?=w.heap[k]?) (hW:Ag W w0 w') {r:CR} (hs:r.simple=true) {v:Option TV} {nw:List (Nat × TypeId × List A0)} (he:effCR o.dst r=some (v,nw)) {u:Value} {vv:Nat→Value} {F:Nat→Nat→Prop} (hN:News w w' vv F r.objs) (hv:r.val w w' vv F u) (hd:∀ d,o.dst=some d→d<n) (hval:e.val=v) (hnew:e.new=nw) (hwr:e.wr=[]) (hn:newOk s e)
    (hK:∀ β' a' w',Sat W w0 n β' (s.app o.dst e) a' w'→K a' w'):K (a.put o.dst u) w':=by
  have hTn:∀ p∈nw,(s.after e).T p.1=none:=fun p hp=>hn p (by rw [hnew];exact hp)
  unfold St.app at hK
  generalize s.after e=s1 at *
  obtain ⟨y,d,rfl,rfl,hdd,hall⟩:=eff_simple he hs
  have hS':=hS.calledO' ha hkeep hW (o0:=oid d 0) hN (fun p hp=>hTn (oid d 0+p.1,obT,[.obs p.2]) (List.mem_map.2 ⟨(oid d 0+p.1,p.2),List.mem_map.2 ⟨p,hp,rfl⟩,rfl⟩))
  obtain ⟨hr1,hr2⟩:=hall w w' vv F u (newPl β (obNew (r.objs.map fun p=>(oid d 0+p.1,p.2))) (fun _=>0) (fun b=>vv (b-oid d 0)) (fun b=>F (b-oid d 0))) hv (fun p hp=>by
    rw [(newPl_some (lookN_mem (x:=p.2) (List.mem_map.2 ⟨p,hp,rfl⟩))).2.1]
    show vv (oid d 0+p.1-oid d 0)=vv p.1
    rw [Nat.add_sub_cancel_left])
  obtain ⟨β2,hS',hr1⟩:∃ β2,Sat W w0 n β2 (s1.addN (obNew (r.objs.map fun p=>(oid d 0+p.1,p.2)))) a w'∧y.reads β2 w' u:=⟨_,hS',hr1⟩
  cases hdst:o.dst with
  | none =>
    rcases hdd with h0|h0
    · have hβ:Sat W w0 n β2 (s1.addN []) a w':=by rw [h0] at hS';exact hS'
      refine hK β2 _ _ ?_
      rw [hdst]
      have e1:s1.app0 none e=s1.addN []:=by
        unfold St.app0 St.addN
        simp only [hnew,h0,hwr,wrs_nil]
        rfl
      rw [e1]
      exact hβ
    · rw [hdst] at h0;cases h0
  | some d' =>
    refine hK β2 _ _ ?_
    rw [hdst,app0_addN s1 d' e hwr,hnew,hval]
    exact hS'.put (hd d' hdst) (fun z hz=>by
      cases hz
      refine ⟨hr1,fun b hb'=>?_⟩
      cases hl:lookN (obNew (r.objs.map fun p=>(oid d 0+p.1,p.2))) b with
      | none=>exact absurd hl (hr2 b hb')
      | some q=>rw [addN_T1 hl];simp)
theorem done_cr (hS:Sat W w0 n β s a w) (hb:Below w.heap.size w w') {r:CR} {v:Option TV} {nw:List (Nat × TypeId × List A0)} (he:effCR o.dst r=some (v,nw)) {u:Value} (ht:r.told w w' u) (hd:∀ d,o.dst=some d→d<n) (hval:e.val=v) (hnew:e.new=nw) (hwr:e.wr=[]) (hkl:e.kill=[]) (hn:newOk s e)
    (hK:∀ β' a' w',Sat W w0 n β' (s.app o.dst e) a' w'→K a' w'):K (a.put o.dst u) w':=by
  have hTn:∀ p∈nw,s.T p.1=none:=fun p hp=>by
    have:=hn p (by rw [hnew];exact hp)
    rw [after_none hkl] at this;exact this
  obtain ⟨vv,F,hN,hv⟩:=ht
  by_cases hs:r.simple=true
  · have ha:=after_none (s:=s) hkl
    exact done_simple (by rw [ha];exact hS) (Ag.of_below hb) (by rw [ha];exact fun b k hb' hf=>hb.block k (hS.lt k (hS.own b k hb' hf).1)) (Ag.then hS.below (Ag.of_below (O:=fun _=>False) hb) (fun _ _ h=>h.elim)) hs he hN hv hd hval hnew hwr hn hK
  · cases r with
    | tv x=>exact absurd rfl hs
    | parts _ _=>exact absurd rfl hs
    | new ty m sz l =>
      unfold effCR at he
      cases hdst:o.dst with
      | none=>rw [hdst] at he;cases he
      | some d =>
        rw [hdst] at he
        simp only at he
        split at he
        · rename_i hc
          cases he
          obtain ⟨g,cap,arr,hu,hcap,hg,ha,hcs⟩:=hv
          rw [← hdst]
          refine done_new (y:=TV.own d 0 m sz) hS hb hg ha hc.2 (cs:=l) (fun off c hoff=>?_) hdst (hd d hdst) (hTn _ List.mem_cons_self) hwr hnew hval ⟨cap,by rw [hu];simp [upd],hcap⟩ (by simp [TV.refs]) hK hkl
          obtain ⟨x,h1,h2,h3⟩:=hcs off c hoff
          have hf:=List.all_eq_true.1 hc.1 c (List.mem_of_getElem? hoff)
          exact ⟨x,h1,h2,A0.free_reads h3 hf,by rw [A0.free_refs hf];simp⟩
        · cases he
    | newp ty l =>
      unfold effCR at he
      cases hdst:o.dst with
      | none=>rw [hdst] at he;cases he
      | some d =>
        rw [hdst] at he
        simp only at he
        split at he
        · rename_i hc
          cases he
          obtain ⟨g,arr,hu,hg,ha,hgF,hcs⟩:=hv
          have hsh:objsR (oid d 1) l=(objsR 1 l).map fun p=>(oid d 0+p.1,p.2):=by
            rw [← objsR_shift];rfl
          have hmem:∀ {b q},lookN (obNew (objsR (oid d 1) l)) b=some q→∃ p∈objsR 1 l,b=oid d 0+p.1∧q=(obT,[.obs p.2]):=by
            intro b q hl
            obtain ⟨x,hx,e⟩:=lookN_ob hl
            rw [hsh] at hx
            obtain ⟨p,hp,he⟩:=List.mem_map.1 hx
            cases he
            exact ⟨p,hp,rfl,e⟩
          have hcase:∀ {b q},lookN ((d,ty,cellsR (oid d 1) l)::obNew (objsR (oid d 1) l)) b=some q→(b=d∧q=(ty,cellsR (oid d 1) l))∨(b≠d∧∃ p∈objsR 1 l,b=oid d 0+p.1∧q=(obT,[.obs p.2])):=by
            intro b q hl
            have hl':(if b=d then some (ty,cellsR (oid d 1) l) else lookN (obNew (objsR (oid d 1) l)) b)=some q:=hl
            split at hl'
            · rename_i e;cases hl';exact .inl ⟨e,rfl⟩
            · rename_i e;exact .inr ⟨e,hmem hl'⟩
          have hlook:∀ p∈objsR 1 l,lookN ((d,ty,cellsR (oid d 1) l)::obNew (objsR (oid d 1) l)) (oid d 0+p.1)≠none:=by
            intro p hp
            show (if oid d 0+p.1=d then some (ty,cellsR (oid d 1) l) else lookN (obNew (objsR (oid d 1) l)) (oid d 0+p.1))≠none
            rw [if_neg (by have:=oid_gt d 0;omega)]
            exact lookN_mem (x:=p.2) (by rw [hsh];exact List.mem_map.2 ⟨p,hp,rfl⟩)
          have hlookd:lookN ((d,ty,cellsR (oid d 1) l)::obNew (objsR (oid d 1) l)) d≠none:=by
            show (if d=d then some (ty,cellsR (oid d 1) l) else _)≠none
            rw [if_pos rfl];simp
          have hsub:∀ i,oid d 0+i-oid d 0=i:=fun i=>by omega
          have hned:∀ i,oid d 0+i≠d:=fun i=>by have:=oid_gt d 0;omega
          have hgl:=(Array.getElem?_eq_some_iff.1 ha).1
          have hvd:∀ p∈objsR 1 l,(newPl β ((d,ty,cellsR (oid d 1) l)::obNew (objsR (oid d 1) l)) (fun _=>g) (fun b=>if b=d then .pointer (some ⟨g,0,none⟩) else vv (b-oid d 0)) (fun b=>if b=d then fun k=>k=g else F (b-oid d 0))).v (oid d 0+p.1)=vv p.1:=by
            intro p hp
            rw [(newPl_some (hlook p hp)).2.1]
            show (if oid d 0+p.1=d then _ else vv (oid d 0+p.1-oid d 0))=_
            rw [if_neg (hned p.1),hsub]
          have hS':=hS.called hb (nw:=(d,ty,cellsR (oid d 1) l)::obNew (objsR (oid d 1) l)) (f:=fun _=>g) (v:=fun b=>if b=d then .pointer (some ⟨g,0,none⟩) else vv (b-oid d 0)) (F:=fun b=>if b=d then fun k=>k=g else F (b-oid d 0)) (fun b q hl=>by
              rcases hcase hl with ⟨rfl,_⟩|⟨_,p,hp,rfl,_⟩
              · exact hTn (b,_) List.mem_cons_self
              · exact hTn (oid d 0+p.1,obT,[.obs p.2]) (List.mem_cons_of_mem _ (List.mem_map.2 ⟨(oid d 0+p.1,p.2),by rw [hsh];exact List.mem_map.2 ⟨p,hp,rfl⟩,rfl⟩)))
            (fun b q k hl hf=>by
              rcases hcase hl with ⟨rfl,_⟩|⟨hne,p,hp,rfl,_⟩
              · simp only [if_true] at hf
                subst hf
                exact ⟨hg,hgl⟩
              · simp only [if_neg hne,hsub] at hf
                exact hN.new p hp k hf)
            (fun b b' q q' k hl hl' hf hf'=>by
              rcases hcase hl with ⟨rfl,_⟩|⟨hne,p,hp,rfl,_⟩<;>rcases hcase hl' with ⟨rfl,_⟩|⟨hne',p',hp',rfl,_⟩
              · rfl
              · simp only [if_true] at hf
                simp only [if_neg hne',hsub] at hf'
                subst hf
                exact absurd hf' (hgF p' hp')
              · simp only [if_true] at hf'
                simp only [if_neg hne,hsub] at hf
                subst hf'
                exact absurd hf (hgF p hp)
              · simp only [if_neg hne,hsub] at hf
                simp only [if_neg hne',hsub] at hf'
                rw [hN.disj p hp p' hp' k hf hf'])
            (fun b q hl=>by
              rcases hcase hl with ⟨rfl,rfl⟩|⟨hne,p,hp,rfl,rfl⟩
              · obtain ⟨h1,h2,h3,h4r⟩:=newPl_some (β:=β) (f:=fun _=>g) (v:=fun b'=>if b'=b then Value.pointer (some ⟨g,0,none⟩) else vv (b'-oid b 0)) (F:=fun b'=>if b'=b then fun k=>k=g else F (b'-oid b 0)) hlookd
                refine ⟨by rw [h2];simp [Cell1,Value.cells,Value.oneCell'],fun e=>absurd e hc.2,fun _=>⟨fun k=>by rw [h3,h1];simp,arr,by rw [h1];exact ha,fun off c hoff=>?_⟩,fun k a0 hk _=>by rw [h4r] at hk;cases hk⟩
                have hoff':(cellsR (oid b 1) l)[off]?=some c:=hoff
                rw [cellsR_get] at hoff'
                obtain ⟨x,hx,rfl⟩:=Option.map_eq_some_iff.1 hoff'
                obtain ⟨y,g1,g2,g3⟩:=hcs off (x.cell (1+off)) (by rw [cellsR_get,hx];rfl)
                refine ⟨y,g1,g2,?_⟩
                have:=cell_shift (β':=newPl β ((b,ty,cellsR (oid b 1) l)::obNew (objsR (oid b 1) l)) (fun _=>g) (fun b'=>if b'=b then Value.pointer (some ⟨g,0,none⟩) else vv (b'-oid b 0)) (fun b'=>if b'=b then fun k=>k=g else F (b'-oid b 0))) (o:=oid b 0) g3 (List.all_eq_true.1 hc.1 x (List.mem_of_getElem? hx)) (fun z hz=>by
                  subst hz
                  exact hvd (1+off,z) (objsR_get l 1 off z hx))
                rw [← Nat.add_assoc] at this
                exact this
              · obtain ⟨h1,h2,h3,h4r⟩:=newPl_some (β:=β) (f:=fun _=>g) (v:=fun b'=>if b'=d then Value.pointer (some ⟨g,0,none⟩) else vv (b'-oid d 0)) (F:=fun b'=>if b'=d then fun k=>k=g else F (b'-oid d 0)) (hlook p hp)
                rw [if_neg (hned p.1),hsub] at h2 h3
                exact ob_box (hN.own p hp) h3 h2)
            (fun b q hl c hcm r hr=>by
              rcases hcase hl with ⟨rfl,rfl⟩|⟨hne,p,hp,rfl,rfl⟩
              · obtain ⟨x,hx⟩:=cellsR_refs l _ hc.1 c hcm r hr
                rw [hsh] at hx
                obtain ⟨p,hp,he⟩:=List.mem_map.1 hx
                cases he
                exact .inl (hlook p hp)
              · simp only [List.mem_singleton] at hcm
                subst hcm
                simp [A0.refs] at hr)
          rw [app_none hkl] at hK
          have hS3:=hS'.put (hd d hdst) (v:=u) (x:=some (.ptr d 0)) (fun z hz=>by
            cases hz
            refine ⟨?_,fun b hb'=>?_⟩
            · show u=_
              rw [hu,(newPl_some hlookd).1]
            · have:b=d:=by simpa [TV.refs] using hb'
              subst this
              obtain ⟨q,hq⟩:=Option.ne_none_iff_exists'.1 hlookd
              rw [addN_T1 hq];simp)
          refine hK _ (a.put (some d) u) w' (?_:Sat W w0 n (newPl β ((d,ty,cellsR (oid d 1) l)::obNew (objsR (oid d 1) l)) (fun _=>g) (fun b=>if b=d then .pointer (some ⟨g,0,none⟩) else vv (b-oid d 0)) (fun b=>if b=d then fun k=>k=g else F (b-oid d 0))) _ _ _)
          rw [hdst]
          rw [app0_addN s d e hwr,hnew,hval]
          exact hS3
        · cases he
end
end Go.Proofs.YtcgknibjbnijmaaW.Sy
end
section
set_option linter.unusedVariables false
set_option linter.unusedSimpArgs false
namespace Go.Proofs.YtcgknibjbnijmaaW.Sy
open Go RowKit YtcgknibjbnijmaaW.PrintWords YtcgknibjbnijmaaW.PrintMore YtcgknibjbnijmaaW.Aid YtcgknibjbnijmaaW.Big
theorem app0_any (s:St) (d:Tmp) (e:Eff):s.app0 (some d) e={ (({ s with m:=St.wrs s.m e.wr }:St).addN e.new) with g:=upd s.g d e.val }:=by
  obtain ⟨p,v,rd,wr,nw,kl⟩:=e
  rfl
theorem app0_no (s:St) (e:Eff):s.app0 none e=(({ s with m:=St.wrs s.m e.wr }:St).addN e.new):=by
  obtain ⟨p,v,rd,wr,nw,kl⟩:=e
  rfl
theorem obNew_append (l l':List (Nat × D)):obNew l++obNew l'=obNew (l++l'):=by simp [obNew]
theorem wrsB_at (b o:Nat):∀ (new:List (Option RC)) (i:Nat) (m:Nat→Nat→Option A0) (b' off:Nat),St.wrs m (wrsB b o i new) b' off=if b'=b∧i≤off then (match new[off-i]? with
    | some (some x)=>some (x.cell (o+off))
    | _=>m b' off) else m b' off
  | [],i,m,b',off=>by simp [wrsB,St.wrs]
  | none::r,i,m,b',off=>by
    rw [wrsB,wrsB_at b o r (i+1)]
    by_cases hb:b'=b
    · by_cases h1:i+1≤off
      · rw [if_pos ⟨hb,h1⟩,if_pos ⟨hb,by omega⟩,show off-i=(off-(i+1))+1 by omega,List.getElem?_cons_succ]
      · rw [if_neg (fun h=>h1 h.2)]
        by_cases h2:i≤off
        · rw [if_pos ⟨hb,h2⟩,show off-i=0 by omega];rfl
        · rw [if_neg (fun h=>h2 h.2)]
    · rw [if_neg (fun h=>hb h.1),if_neg (fun h=>hb h.1)]
  | some x::r,i,m,b',off=>by
    rw [wrsB,St.wrs,wrsB_at b o r (i+1)]
    by_cases hb:b'=b
    · by_cases h1:i+1≤off
      · rw [if_pos ⟨hb,h1⟩,if_pos ⟨hb,by omega⟩,show off-i=(off-(i+1))+1 by omega,List.getElem?_cons_succ]
        have hu:upd2 m b i (some (x.cell (o+i))) b' off=m b' off:=by simp only [upd2];rw [if_neg (by omega)]
        rw [hu]
      · rw [if_neg (fun h=>h1 h.2)]
        by_cases h2:i≤off
        · rw [if_pos ⟨hb,h2⟩,show off-i=0 by omega]
          have:off=i:=by omega
          subst this
          simp [upd2,hb]
        · rw [if_neg (fun h=>h2 h.2)]
          simp only [upd2];rw [if_neg (by omega)]
    · rw [if_neg (fun h=>hb h.1),if_neg (fun h=>hb h.1)]
      simp only [upd2];rw [if_neg (fun h=>hb h.1)]
section
variable {P:Program} {X:Cx} {W:Nat→Prop} {w0:World} {n:Nat} {β:Pl} {s:St} {a:Act} {w w':World} {o:Oper} {e:Eff} {K:Act→World→Prop} {Q:Exit→Act→World→Prop}
def mutPl (β:Pl) (b:Nat) (F1:Nat→Prop):Pl:=⟨β.f,β.v,fun b'=>if b'=b then F1 else β.F b',fun k=>β.O k∨F1 k,β.r⟩
theorem Sat.mutated (h:Sat W w0 n β s a w) {b:Nat} {ty:TypeId} (hTb:s.T b=some ty) (hag:Ag (β.F b) w w') {F1:Nat→Prop} (hF1:∀ k,F1 k→(β.F b k∨w.heap.size≤k)∧k<w'.heap.size) {os:List (Nat × D)} {v:Nat→Value} {F:Nat→Nat→Prop} (hN:News w w' v F os) (hFF:∀ p∈os,∀ k,F p.1 k→¬ F1 k) {o0:Nat} (hT:∀ p∈os,s.T (o0+p.1)=none) {m1:Nat→Option A0}
    (hbox:BoxOk (newPl (mutPl β b F1) (obNew (os.map fun p=>(o0+p.1,p.2))) (fun _=>0) (fun b=>v (b-o0)) (fun b=>F (b-o0))) b m1 ty w')
    (hrefs:∀ off c,m1 off=some c→∀ r∈c.refs,lookN (obNew (os.map fun p=>(o0+p.1,p.2))) r≠none∨s.T r≠none) :
    Sat W w0 n (newPl (mutPl β b F1) (obNew (os.map fun p=>(o0+p.1,p.2))) (fun _=>0) (fun b=>v (b-o0)) (fun b=>F (b-o0))) (({ s with m:=fun b' off=>if b'=b then m1 off else s.m b' off }:St).addN (obNew (os.map fun p=>(o0+p.1,p.2)))) a w':=by
  have hTn:s.T b≠none:=by rw [hTb];simp
  have hmem:∀ {b q},lookN (obNew (os.map fun p=>(o0+p.1,p.2))) b=some q→∃ p∈os,b=o0+p.1∧q=(obT,[.obs p.2]):=by
    intro b q hl
    obtain ⟨x,hx,e⟩:=lookN_ob hl
    obtain ⟨p,hp,he⟩:=List.mem_map.1 hx
    cases he
    exact ⟨p,hp,rfl,e⟩
  have hsub:∀ i,o0+i-o0=i:=fun i=>by omega
  have nl:∀ b,s.T b≠none→lookN (obNew (os.map fun p=>(o0+p.1,p.2))) b=none:=fun b' hb'=>by
    cases hl:lookN (obNew (os.map fun p=>(o0+p.1,p.2))) b' with
    | none=>rfl
    | some q=>obtain ⟨p,hp,rfl,_⟩:=hmem hl;exact absurd (hT p hp) hb'
  have hown:∀ k,β.F b k→β.O k:=fun k hk=>(h.own b k hTn hk).1
  have ha:Ag β.O w w':=hag.mono (fun k _ hk=>hown k hk)
  have cls:∀ b',(({ s with m:=fun b' off=>if b'=b then m1 off else s.m b' off }:St).addN (obNew (os.map fun p=>(o0+p.1,p.2)))).T b'≠none→(∃ p∈os,b'=o0+p.1∧lookN (obNew (os.map fun p=>(o0+p.1,p.2))) b'=some (obT,[.obs p.2]))∨(lookN (obNew (os.map fun p=>(o0+p.1,p.2))) b'=none∧s.T b'≠none):=fun b' hb'=>by
    cases hl:lookN (obNew (os.map fun p=>(o0+p.1,p.2))) b' with
    | none=>rw [addN_T0 hl] at hb';exact .inr ⟨rfl,hb'⟩
    | some q=>obtain ⟨p,hp,e1,e2⟩:=hmem hl;exact .inl ⟨p,hp,e1,by rw [e2]⟩
  have hs:∀ {b q},lookN (obNew (os.map fun p=>(o0+p.1,p.2))) b=some q→lookN (obNew (os.map fun p=>(o0+p.1,p.2))) b≠none:=fun h=>by rw [h];simp
  -- the blocks of a name
  have Fnew:∀ p∈os,∀ k,(newPl (mutPl β b F1) (obNew (os.map fun p=>(o0+p.1,p.2))) (fun _=>0) (fun b=>v (b-o0)) (fun b=>F (b-o0))).F (o0+p.1) k↔F p.1 k:=fun p hp k=>by
    rw [(newPl_some (lookN_mem (x:=p.2) (List.mem_map.2 ⟨p,hp,rfl⟩))).2.2.1]
    show F (o0+p.1-o0) k↔_
    rw [hsub]
  have Fold:∀ b',lookN (obNew (os.map fun p=>(o0+p.1,p.2))) b'=none→∀ k,(newPl (mutPl β b F1) (obNew (os.map fun p=>(o0+p.1,p.2))) (fun _=>0) (fun b=>v (b-o0)) (fun b=>F (b-o0))).F b' k↔(if b'=b then F1 k else β.F b' k):=fun b' hl k=>by
    rw [(newPl_none hl).2.2.1]
    show (if b'=b then F1 else β.F b') k↔_
    split<;>exact Iff.rfl
  refine h.step (β':=newPl (mutPl β b F1) (obNew (os.map fun p=>(o0+p.1,p.2))) (fun _=>0) (fun b=>v (b-o0)) (fun b=>F (b-o0))) (T':=(({ s with m:=fun b' off=>if b'=b then m1 off else s.m b' off }:St).addN (obNew (os.map fun p=>(o0+p.1,p.2)))).T) (m':=(({ s with m:=fun b' off=>if b'=b then m1 off else s.m b' off }:St).addN (obNew (os.map fun p=>(o0+p.1,p.2)))).m) ha (fun k hk hO'=>?_) (fun b' hb'=>⟨(newPl_none (β:=mutPl β b F1) (nl b' hb')).1,(newPl_none (β:=mutPl β b F1) (nl b' hb')).2.1,(newPl_none (β:=mutPl β b F1) (nl b' hb')).2.2.2⟩) (fun b' hb'=>?_) (fun b' ty' hT'=>?_) (fun b' off hm=>?_) (fun b' off c hm r hr=>?_) (fun b1 b2 k h1 h2 hf hf'=>?_) (fun b' k h1 hf=>?_) (fun k hk=>?_) ?_
  · rcases hO' with (h1|h1)|⟨b',q,hl,hf⟩
    · exact h1
    · rcases (hF1 k h1).1 with h2|h2
      · exact hown k h2
      · omega
    · obtain ⟨p,hp,rfl,_⟩:=hmem hl
      rw [hsub] at hf
      have:=(hN.new p hp k hf).1
      omega
  · rw [addN_T0 (nl b' hb')];exact hb'
  · cases hl:lookN (obNew (os.map fun p=>(o0+p.1,p.2))) b' with
    | some q =>
      rw [addN_T1 hl] at hT'
      cases hT'
      right
      rw [addN_m1 hl]
      obtain ⟨h1,h2,h3,_⟩:=newPl_some (β:=mutPl β b F1) (f:=fun _=>0) (v:=fun b=>v (b-o0)) (F:=fun b=>F (b-o0)) (hs hl)
      obtain ⟨p,hp,rfl,rfl⟩:=hmem hl
      rw [hsub] at h2 h3
      exact ob_box (hN.own p hp) h3 h2
    | none =>
      rw [addN_T0 hl] at hT'
      have hT2:s.T b'=some ty':=hT'
      by_cases e:b'=b
      · subst e
        right
        rw [hTb] at hT2
        cases hT2
        rw [addN_m0 hl]
        have:(fun off=>if b'=b' then m1 off else s.m b' off)=m1:=by funext off;rw [if_pos rfl]
        show BoxOk _ b' (fun off=>if b'=b' then m1 off else s.m b' off) ty w'
        rw [this]
        exact hbox
      · left
        refine ⟨hT2,?_,fun k=>by rw [Fold b' hl k,if_neg e],fun k hk=>?_⟩
        · rw [addN_m0 hl]
          funext off
          show (if b'=b then m1 off else s.m b' off)=_
          rw [if_neg e]
        · have hb':s.T b'≠none:=by rw [hT2];simp
          exact hag.block k (h.lt k (h.own b' k hb' hk).1) (fun hk'=>e (h.disj b' b k hb' hTn hk hk'))
  · cases hl:lookN (obNew (os.map fun p=>(o0+p.1,p.2))) b' with
    | some q=>rw [addN_T1 hl];simp
    | none =>
      rw [addN_m0 hl] at hm
      rw [addN_T0 hl]
      have hm':(if b'=b then m1 off else s.m b' off)≠none:=hm
      by_cases e:b'=b
      · subst e;exact hTn
      · rw [if_neg e] at hm';exact h.has b' off hm'
  · have key:lookN (obNew (os.map fun p=>(o0+p.1,p.2))) r≠none∨s.T r≠none:=by
      cases hl:lookN (obNew (os.map fun p=>(o0+p.1,p.2))) b' with
      | some q =>
        rw [addN_m1 hl] at hm
        obtain ⟨p,hp,rfl,rfl⟩:=hmem hl
        have hm':[A0.obs p.2][off]?=some c:=hm
        have:=List.mem_of_getElem? hm'
        simp only [List.mem_singleton] at this
        subst this
        simp [A0.refs] at hr
      | none =>
        rw [addN_m0 hl] at hm
        have hm':(if b'=b then m1 off else s.m b' off)=some c:=hm
        by_cases e:b'=b
        · rw [if_pos e] at hm';exact hrefs off c hm' r hr
        · rw [if_neg e] at hm';exact .inr (h.refm b' off c hm' r hr)
    cases hl:lookN (obNew (os.map fun p=>(o0+p.1,p.2))) r with
    | none=>rw [addN_T0 hl];rcases key with h1|h1;exact absurd hl h1;exact h1
    | some q=>rw [addN_T1 hl];simp
  · rcases cls b1 h1 with ⟨p,hp,rfl,hl⟩|⟨hn,hs1⟩<;>rcases cls b2 h2 with ⟨p',hp',rfl,hl'⟩|⟨hn',hs2⟩
    · rw [Fnew p hp] at hf
      rw [Fnew p' hp'] at hf'
      rw [hN.disj p hp p' hp' k hf hf']
    · rw [Fnew p hp] at hf
      rw [Fold b2 hn'] at hf'
      exfalso
      split at hf'
      · exact hFF p hp k hf hf'
      · have:=h.lt k (h.own b2 k hs2 hf').1;have:=(hN.new p hp k hf).1;omega
    · rw [Fnew p' hp'] at hf'
      rw [Fold b1 hn] at hf
      exfalso
      split at hf
      · exact hFF p' hp' k hf' hf
      · have:=h.lt k (h.own b1 k hs1 hf).1;have:=(hN.new p' hp' k hf').1;omega
    · rw [Fold b1 hn] at hf
      rw [Fold b2 hn'] at hf'
      split at hf
      · rename_i e1
        split at hf'
        · rename_i e2;rw [e1,e2]
        · rename_i e2
          rcases (hF1 k hf).1 with h3|h3
          · exact absurd (h.disj b2 b k hs2 hTn hf' h3) e2
          · have:=h.lt k (h.own b2 k hs2 hf').1;omega
      · rename_i e1
        split at hf'
        · rcases (hF1 k hf').1 with h3|h3
          · exact absurd (h.disj b1 b k hs1 hTn hf h3) e1
          · have:=h.lt k (h.own b1 k hs1 hf).1;omega
        · exact h.disj b1 b2 k hs1 hs2 hf hf'
  · rcases cls b' h1 with ⟨p,hp,rfl,hl⟩|⟨hn,hs1⟩
    · rw [Fnew p hp] at hf
      refine ⟨.inr ⟨_,_,hl,by show F (o0+p.1-o0) k;rw [hsub];exact hf⟩,.inl (Nat.le_trans h.below.size (hN.new p hp k hf).1)⟩
    · rw [Fold b' hn] at hf
      split at hf
      · refine ⟨.inl (.inr hf),?_⟩
        rcases (hF1 k hf).1 with h3|h3
        · exact (h.own b k hTn h3).2
        · exact .inl (Nat.le_trans h.below.size h3)
      · exact ⟨.inl (.inl (h.own b' k hs1 hf).1),(h.own b' k hs1 hf).2⟩
  · rcases hk with (h1|h1)|⟨b',q,hl,hf⟩
    · exact Nat.lt_of_lt_of_le (h.lt k h1) ha.size
    · exact (hF1 k h1).2
    · obtain ⟨p,hp,rfl,_⟩:=hmem hl
      rw [hsub] at hf
      exact (hN.new p hp k hf).2
  · refine Ag.then h.below hag (fun k hk hk'=>?_)
    rcases (h.own b k hTn hk').2 with h1|h1
    · omega
    · exact h1
end
end Go.Proofs.YtcgknibjbnijmaaW.Sy
end
section
set_option linter.unusedVariables false
set_option linter.unusedSimpArgs false
namespace Go.Proofs.YtcgknibjbnijmaaW.Sy
open Go RowKit YtcgknibjbnijmaaW.PrintWords YtcgknibjbnijmaaW.PrintMore YtcgknibjbnijmaaW.Aid YtcgknibjbnijmaaW.Big
section
variable {P:Program} {X:Cx} {W:Nat→Prop} {w0:World} {n:Nat} {β:Pl} {s:St} {a:Act} {w w':World} {o:Oper} {e:Eff} {K:Act→World→Prop} {Q:Exit→Act→World→Prop}
theorem caps_reads {caps:List (List A0)} {us:List Value} (h:All2 (FRef β w) caps us):All2 (TV.reads pl0 w) (caps.map TV.rptr) us :=
  All2.map_left TV.rptr (All2.imp (fun _ _ ⟨ad,e,hb,hc⟩=>⟨ad,e,outs_plO (fun _ h=>h.elim) hb,cells_plO (fun _ h=>h.elim) hc⟩) h)
theorem flatMap_some:∀ (l:List A0),(l.map some).flatMap cellRef=l.flatMap refP
  | []=>rfl
  | c::l=>by rw [List.map_cons,List.flatMap_cons,List.flatMap_cons,flatMap_some l];rfl
theorem done_mut (hS:Sat W w0 n β s a w) {b:Nat} {ty:TypeId} (hTb:s.T b=some ty) (hag:Ag (β.F b) w w') {F1:Nat→Prop} (hF1:∀ k,F1 k→(β.F b k∨w.heap.size≤k)∧k<w'.heap.size) {r:CR} {os:List (Nat × D)} {v:Nat→Value} {F:Nat→Nat→Prop} (hN:News w w' v F (r.objs++os)) (hFF:∀ p∈r.objs++os,∀ k,F p.1 k→¬ F1 k) {o0:Nat} {vt:Option TV} {nw:List (Nat × TypeId × List A0)} (he:effCR o.dst r=some (vt,nw)) (hs:r.simple=true) (hdo:∀ d,o.dst=some d→oid d 0=o0) {u:Value} (hv:r.val w w' v F u) (hd:∀ d,o.dst=some d→d<n)
    (hnew:e.new=nw++obNew (os.map fun p=>(o0+p.1,p.2))) (hval:e.val=vt) (hkl:e.kill=[]) (hn:newOk s e) {m1:Nat→Option A0} (hm:St.wrs s.m e.wr=fun b' off=>if b'=b then m1 off else s.m b' off)
    (hbox:∀ β',β'.f b=β.f b→β'.v b=β.v b→(∀ k,β'.F b k↔F1 k)→(∀ k,k<w.heap.size→β'.O k→β.O k)→(∀ r,s.T r≠none→β'.v r=β.v r)→(∀ p∈os,β'.v (o0+p.1)=v p.1)→β'.r b=β.r b→BoxOk β' b m1 ty w')
    (hrefs:∀ off c,m1 off=some c→∀ r∈c.refs,(∃ p∈os,r=o0+p.1)∨s.T r≠none)
    (hK:∀ β' a' w',Sat W w0 n β' (s.app o.dst e) a' w'→K a' w'):K (a.put o.dst u) w':=by
  rw [app_none hkl] at hK
  have hTbn:s.T b≠none:=by rw [hTb];simp
  obtain ⟨y,d,rfl,hnw,hdd,hall⟩:=eff_simple he hs
  -- the result's things are named by the call's own temporary
  have hnw':nw=obNew (r.objs.map fun p=>(o0+p.1,p.2)):=by
    rcases hdd with h0|h0
    · rw [hnw,h0];rfl
    · rw [hnw,hdo d h0]
  have hdv:∀ p∈r.objs,oid d 0+p.1=o0+p.1:=fun p hp=>by
    rcases hdd with h0|h0
    · rw [h0] at hp;cases hp
    · rw [hdo d h0]
  have hnew':e.new=obNew ((r.objs++os).map fun p=>(o0+p.1,p.2)):=by
    rw [hnew,hnw',List.map_append,obNew_append]
  have hTn:∀ p∈r.objs++os,s.T (o0+p.1)=none:=fun p hp=>by
    have:=hn (o0+p.1,obT,[.obs p.2]) (by rw [hnew'];exact List.mem_map.2 ⟨(o0+p.1,p.2),List.mem_map.2 ⟨p,hp,rfl⟩,rfl⟩)
    rw [after_none hkl] at this;exact this
  have hlook:∀ p∈r.objs++os,lookN (obNew ((r.objs++os).map fun p=>(o0+p.1,p.2))) (o0+p.1)≠none:=fun p hp=>lookN_mem (x:=p.2) (List.mem_map.2 ⟨p,hp,rfl⟩)
  have hvn:∀ p∈r.objs++os,(newPl (mutPl β b F1) (obNew ((r.objs++os).map fun p=>(o0+p.1,p.2))) (fun _=>0) (fun b=>v (b-o0)) (fun b=>F (b-o0))).v (o0+p.1)=v p.1:=fun p hp=>by
    rw [(newPl_some (hlook p hp)).2.1]
    show v (o0+p.1-o0)=_
    rw [Nat.add_sub_cancel_left]
  have nl:∀ b',s.T b'≠none→lookN (obNew ((r.objs++os).map fun p=>(o0+p.1,p.2))) b'=none:=fun b' hb'=>by
    cases hl:lookN (obNew ((r.objs++os).map fun p=>(o0+p.1,p.2))) b' with
    | none=>rfl
    | some q =>
      obtain ⟨x,hx,_⟩:=lookN_ob hl
      obtain ⟨p,hp,he⟩:=List.mem_map.1 hx
      cases he
      exact absurd (hTn p hp) hb'
  have hS':=hS.mutated hTb hag hF1 hN hFF (o0:=o0) hTn (m1:=m1) (hbox _ (newPl_none (nl b hTbn)).1 (newPl_none (nl b hTbn)).2.1 (fun k=>by
      rw [(newPl_none (nl b hTbn)).2.2.1];show (if b=b then F1 else β.F b) k↔_;rw [if_pos rfl]) (fun k hk hO=>by
      rcases hO with (h1|h1)|⟨b',q,hl,hf⟩
      · exact h1
      · rcases (hF1 k h1).1 with h2|h2
        · exact (hS.own b k hTbn h2).1
        · omega
      · obtain ⟨x,hx,_⟩:=lookN_ob hl
        obtain ⟨p,hp,he⟩:=List.mem_map.1 hx
        cases he
        have h3:F (o0+p.1-o0) k:=hf
        rw [Nat.add_sub_cancel_left] at h3
        have:=(hN.new p hp k h3).1
        omega) (fun r' hr'=>(newPl_none (nl r' hr')).2.1) (fun p hp=>hvn p (List.mem_append_right _ hp)) (newPl_none (nl b hTbn)).2.2.2) (fun off c hc r' hr'=>by
      rcases hrefs off c hc r' hr' with ⟨p,hp,rfl⟩|h1
      · exact .inl (hlook p (List.mem_append_right _ hp))
      · exact .inr h1)
  obtain ⟨hr1,hr2⟩:=hall w w' v F u (newPl (mutPl β b F1) (obNew ((r.objs++os).map fun p=>(o0+p.1,p.2))) (fun _=>0) (fun b=>v (b-o0)) (fun b=>F (b-o0))) hv (fun p hp=>by rw [hdv p hp];exact hvn p (List.mem_append_left _ hp))
  obtain ⟨β2,hS',hr1⟩:∃ β2,Sat W w0 n β2 (({ s with m:=St.wrs s.m e.wr }:St).addN e.new) a w'∧y.reads β2 w' u:=⟨_,by rw [hm,hnew'];exact hS',hr1⟩
  cases hdst:o.dst with
  | none =>
    refine hK β2 _ _ ?_
    rw [hdst,app0_no]
    exact hS'
  | some d' =>
    refine hK β2 _ _ ?_
    rw [hdst,app0_any,hval]
    refine hS'.put (hd d' hdst) (fun z hz=>?_)
    cases hz
    refine ⟨hr1,fun b' hb'=>?_⟩
    have h1:=hr2 b' hb'
    rw [hnw'] at h1
    cases hl:lookN e.new b' with
    | some q=>rw [addN_T1 hl];simp
    | none =>
      rw [hnew'] at hl
      obtain ⟨q,hq⟩:=Option.ne_none_iff_exists'.1 h1
      obtain ⟨x,hx,_⟩:=lookN_ob hq
      obtain ⟨p,hp,he⟩:=List.mem_map.1 hx
      cases he
      exact absurd hl (hlook p (List.mem_append_left _ hp))
theorem wrs_one (b:Nat) (c:A0):St.wrs s.m [(b,0,c)]=fun b' off=>if b'=b then (if off=0 then some c else s.m b off) else s.m b' off:=by
  funext b' off
  show upd2 s.m b 0 (some c) b' off=_
  simp only [upd2]
  by_cases h1:b'=b
  · subst h1
    by_cases h2:off=0
    · simp [h2]
    · simp [h2]
  · simp [h1]
end
end Go.Proofs.YtcgknibjbnijmaaW.Sy
end
section
set_option linter.unusedVariables false
set_option linter.unusedSimpArgs false
namespace Go.Proofs.YtcgknibjbnijmaaW.Sy
open Go RowKit YtcgknibjbnijmaaW.PrintWords YtcgknibjbnijmaaW.PrintMore YtcgknibjbnijmaaW.Aid YtcgknibjbnijmaaW.Big
section
variable {P:Program} {X:Cx} {W:Nat→Prop} {w0:World} {n:Nat} {β:Pl} {s:St} {a:Act} {w w':World} {o:Oper} {e:Eff} {K:Act→World→Prop} {Q:Exit→Act→World→Prop}
theorem op_finW (ok:CxOk P X) (hS:Sat W w0 n β s a w) {fo:Operand} {args:Array Operand} {ats:Array TypeId} (ho:o.op = .call { callee := .value fo,args:=args,argTypes:=ats }) {p:Prop} {f:FuncId} {caps:List (List A0)} {ays:List TV} (hfo:forces ((fo::args.toList).map (getv s.g))=some (p,.clo f caps::ays))
    (h:finW X o.dst p f caps ays ((reqC X (.clo f caps) ays).map fun p=>s.m p.1 p.2) ((req2 X o ((fo::args.toList).map (getv s.g)) ((reqC X (.clo f caps) ays).map fun p=>s.m p.1 p.2)).map fun p=>s.m p.1 p.2)=some e) (hp:e.pre) (hd:∀ d,o.dst=some d→d<n) (hn:newOk s e)
    (hK:∀ β' a' w',Sat W w0 n β' (s.app o.dst e) a' w'→K a' w'):o.wp P a w K Q:=by
  have hv:=vs_good hS (fo::args.toList)
  have hgo:p→Good β s w (.clo f caps) (a.eval fo)∧All2 (Good β s w) ays (args.toList.map a.eval):=fun hpp=>by
    have:=forces_good hfo hpp hv
    rw [List.map_cons] at this
    cases this with|cons h1 h2=>exact ⟨h1,h2⟩
  unfold finW at h
  split at h
  · -- a box's pointer
    rename_i b rest
    have hrq:(reqC X (.clo f []) (.ptr b 0::rest)).map (fun p=>s.m p.1 p.2)=(span b 0 (X.kn f)).map (fun p=>s.m p.1 p.2)++(rest.flatMap toArg1).map (fun p=>s.m p.1 p.2):=by
      show ((span b 0 (X.kn f)++rest.flatMap toArg1).map _)=_
      rw [List.map_append]
    rw [hrq,List.take_left' (by simp [span]),List.drop_left' (by simp [span])] at h
    have hr2:req2 X o ((fo::args.toList).map (getv s.g)) ((span b 0 (X.kn f)).map (fun p=>s.m p.1 p.2)++(rest.flatMap toArg1).map (fun p=>s.m p.1 p.2))=((span b 0 (X.kn f)).map (fun p=>s.m p.1 p.2)).flatMap cellRef:=by
      unfold req2
      rw [ho]
      simp only [hfo]
      rw [List.take_left' (by simp [span])]
    rw [hr2] at h
    split at h
    case h_2=>cases h
    rename_i l rest' hl hrest
    have hml:=allSome_get hl
    rw [hml,flatMap_some] at h
    split at h
    case h_2=>cases h
    rename_i l' hlend hchk
    have hchk:=of_decide_eq_true hchk
    obtain ⟨hno,hkn,hlb,hrb⟩:=hchk
    have hlen:l.length=X.kn f:=by have:=congrArg List.length hml;simpa [span] using this.symm
    -- the box
    have hbox:∃ ty arr,s.T b=some ty∧ty≠obT∧(∀ k,β.F b k↔k=β b)∧w.heap[β b]?=some (.cells arr ty (0,0))∧∃ us:List Value,us.length=X.kn f∧All2 (A0.reads β w) l us∧∀ (i:Nat) v,us[i]?=some v→arr[i]?=some v∧v.oneCell'=true:=by
      obtain ⟨us,h1,h2,h3,_⟩:=box_cells hS b (X.kn f) 0 l hml hno
      have hne:span b 0 (X.kn f)=(b,0)::span b (0+1) (X.kn f-1):=by
        obtain ⟨q,hq⟩:∃ q,X.kn f=q+1:=⟨X.kn f-1,by omega⟩
        rw [hq];simp [span,List.range'_succ]
      cases l with
      | nil=>simp at hlen;omega
      | cons c0 l0 =>
        rw [hne] at hml
        simp only [List.map_cons,List.cons.injEq] at hml
        obtain ⟨ty,arr,_,hT,hty,hF,ha,_⟩:=hS.cell hml.1 (List.all_eq_true.1 hno c0 List.mem_cons_self)
        refine ⟨ty,arr,hT,hty,hF,ha,us,h1,h2,fun i v hi=>?_⟩
        obtain ⟨h4,h5⟩:=h3 i v hi
        refine ⟨?_,h5⟩
        unfold World.cell? at h4
        rw [show (⟨β b,0+i,none⟩:Addr).block=β b from rfl,ha] at h4
        simpa using h4
    obtain ⟨ty,arr,hT,hty,hF,ha,us,hul,hur,hua⟩:=hbox
    have hTn:s.T b≠none:=by rw [hT];simp
    have hOb:β.O (β b):=(hS.own b _ hTn ((hF _).2 rfl)).1
    have hne_of:∀ r,s.T r≠none→r≠b→∀ k,β.F r k→¬ k=β b:=fun r hr hrb k hk e=>hrb (hS.disj r b k hr hTn hk ((hF k).2 e))
    split at h
    · -- it is read alone
      rename_i q r hK'
      split at h
      case h_2=>cases h
      rename_i v nw hcr
      cases h
      obtain ⟨hg1,hg2⟩:=hgo hp.1
      generalize hal:args.toList.map a.eval=al at hg2
      cases hg2 with
      | cons hgp hgr =>
      rename_i u0 us0
      obtain ⟨cu,hfe,hcap⟩:=hg1.1
      cases hcap
      obtain ⟨hfok,hcall⟩:=ok.call f _ q r hK' hp.2
      have hargs:=toArg_reads (O':=fun _=>False) hS (fun _ h=>h.elim) hrest hgr (fun _ _ _ _ _ _ h=>h)
      have hlr:=lendL_reads (O':=fun _=>False) (tail:=[]) hS (fun _ h=>h.elim) (by rw [List.append_nil];exact hlend) hur (fun _ _ _ _ h=>h)
      have hcc:=hcall (u0::us0) w (.cons (⟨⟨β b,0,none⟩,hgp.1,⟨(Array.getElem?_eq_some_iff.1 ha).1,fun h=>h⟩,fun i c hi=>by
        obtain ⟨v,hv1,hv2⟩:=All2.get hlr.1 i c hi
        exact ⟨v,by rw [addr_add];unfold World.cell?;rw [show (⟨β b,0+i,none⟩:Addr).block=β b from rfl,ha];simpa using (hua i v hv1).1,hv2,hlr.2 c (List.mem_of_getElem? hi)⟩⟩:FRef pl0 w l' u0) hargs)
      unfold Oper.wp
      rw [run_call ho hfe hfok,hal,List.append_nil,Oper.upon_enter]
      refine hcc.mono ?_
      rintro ee w' ⟨u,rfl,ht,hb⟩
      exact done_cr hS hb hcr ht hd rfl rfl rfl rfl hn hK
    · -- it is written
      split at h
      case h_2=>cases h
      rename_i q new r d hKW hdst
      split at h
      case h_2=>cases h
      rename_i v nw hcr
      split at h
      case isFalse=>cases h
      rename_i hcond
      cases h
      obtain ⟨hnl,hfree,hsimp⟩:=hcond
      obtain ⟨hg1,hg2⟩:=hgo hp.1
      generalize hal:args.toList.map a.eval=al at hg2
      cases hg2 with
      | cons hgp hgr =>
      rename_i u0 us0
      obtain ⟨cu,hfe,hcap⟩:=hg1.1
      cases hcap
      obtain ⟨hfok,hcall⟩:=ok.callW f _ _ q new r hKW hp.2
      have hO':∀ k,k=β b→β.O k:=fun k hk=>by rw [hk];exact hOb
      have hargs:=toArg_reads (O':=fun k=>k=β b) hS hO' hrest hgr (fun y hy r' hr'=>hne_of r' (by
        obtain ⟨i,hi⟩:=List.getElem?_of_mem hy
        obtain ⟨u',hu',hg⟩:=All2.get hgr i y hi
        exact hg.2 r' hr') (fun e=>by
        subst e
        have:(rest.flatMap TV.refs).contains r'=true:=List.contains_iff_mem.2 (List.mem_flatMap.2 ⟨y,hy,hr'⟩)
        rw [hrb] at this;cases this))
      have hlr:=lendL_reads (O':=fun k=>k=β b) (tail:=[]) hS hO' (by rw [List.append_nil];exact hlend) hur (fun r' hr'=>hne_of r' (by
        obtain ⟨c,hc,hr''⟩:=List.mem_flatMap.1 hr'
        obtain ⟨i,hi⟩:=List.getElem?_of_mem hc
        have h1:=congrArg (fun t=>t[i]?) hml
        simp only [span,List.map_map,List.getElem?_map,hi,Option.map_some] at h1
        have hil:i<X.kn f:=by rw [← hlen];exact (List.getElem?_eq_some_iff.1 hi).1
        rw [List.getElem?_range' hil] at h1
        exact hS.refm b _ c (by simpa using h1) r' hr'') (fun e=>by
        subst e
        have:(l.flatMap A0.refs).contains r'=true:=List.contains_iff_mem.2 hr'
        rw [hlb] at this;cases this))
      have hcc:=hcall us0 w (β b) arr ty ha hty (fun i c hi=>by
        obtain ⟨v,hv1,hv2⟩:=All2.get hlr.1 i c hi
        exact ⟨v,(hua i v hv1).1,(hua i v hv1).2,hv2⟩) hargs
      rw [show u0=Value.pointer (some ⟨β b,0,none⟩) from hgp.1] at hal
      unfold Oper.wp
      rw [run_call ho hfe hfok,hal,List.append_nil,Oper.upon_enter]
      refine hcc.mono ?_
      rintro ee w' ⟨u,rfl,hag,vv,F,hN,hval,arr',ha',hnew,hold⟩
      have hgl':=(Array.getElem?_eq_some_iff.1 ha').1
      have hFb:β.F b=fun k=>k=β b:=funext fun k=>propext (hF k)
      have hoid:objsB (oid d 50000) new=(objsB 50000 new).map fun p=>(oid d 0+p.1,p.2):=by
        rw [← objsB_shift,oid_add]
      show K (a.put o.dst u) w'
      refine done_mut (os:=objsB 50000 new) (o0:=oid d 0) hS hT (by rw [hFb];exact hag) (F1:=fun k=>k=β b) (fun k hk=>⟨.inl ((hF k).2 hk),by rw [hk];exact hgl'⟩) hN (fun p hp k hk hk'=>?_) hcr hsimp (fun d' hd'=>by rw [hdst] at hd';cases hd';rfl) hval hd (by rw [hoid]) rfl rfl hn (m1:=fun off=>match new[off]? with
        | some (some x)=>some (x.cell (oid d 0+(50000+off)))
        | _=>s.m b off) ?_ ?_ ?_ hK
      · have:=(hN.new p hp k hk).1
        have:=(Array.getElem?_eq_some_iff.1 ha).1
        omega
      · funext b' off
        rw [wrsB_at]
        by_cases hb:b'=b
        · rw [if_pos ⟨hb,Nat.zero_le _⟩,if_pos hb,hb,Nat.sub_zero,show oid d 50000+off=oid d 0+(50000+off) by rw [oid_add,oid_add,Nat.zero_add]]
          all_goals (generalize new[off]?=q0;cases q0<;>first|rfl|(rename_i y;cases y<;>rfl))
        · rw [if_neg (fun h=>hb h.1),if_neg hb]
      · intro β' hf' hv' hF' hO'' hvr hvo hrb'
        refine ⟨by rw [hv'];exact hS.oneV hTn,fun e=>absurd e hty,fun _=>⟨fun k=>by rw [hF',hf'],arr',by rw [hf'];exact ha',fun off c hc=>?_⟩,fun k a0 hk hne=>?_⟩
        case refine_2 =>
          rw [hrb'] at hk
          obtain ⟨g1,g2⟩:=(hS.box b ty hT).rst k a0 hk hne
          have hkb:X.kn f≤k:=by
            have hlast:s.m b (X.kn f-1)≠none:=by
              have h1:=congrArg (fun t=>t[X.kn f-1]?) hml
              simp only [span,List.map_map,List.getElem?_map] at h1
              rw [List.getElem?_range' (by omega),List.getElem?_eq_getElem (by rw [hlen];omega)] at h1
              simp at h1
              rw [h1];simp
            have:=g2 _ hlast
            omega
          refine ⟨fun arr1 h1 off ho=>?_,fun off ho=>?_⟩
          · rw [hf',ha'] at h1
            cases h1
            rw [hold off (.inl (List.getElem?_eq_none (by omega)))]
            exact g1 arr ha off ho
          · cases hq:new[off]? with
            | none=>rw [hq] at ho;exact g2 off ho
            | some y=>have:=(List.getElem?_eq_some_iff.1 hq).1;omega
        have hcold:(new[off]?=none∨new[off]?=some none)→s.m b off=some c→∃ x,arr'[off]?=some x∧x.oneCell'=true∧c.reads β' w' x:=fun ho hm=>by
          obtain ⟨_,arr2,h2,h3⟩:=(hS.box b ty hT).cel hty
          rw [ha] at h2;cases h2
          obtain ⟨x,h4,h5,h6⟩:=h3 off c hm
          exact ⟨x,by rw [hold off ho];exact h4,h5,A0.to h6 (hag.mono (fun k _ hk=>hO' k hk)) hO'' (fun r hr=>hvr r (hS.refm b off c hm r hr))⟩
        split at hc
        · rename_i x hx
          cases hc
          obtain ⟨y,h1,h2,h3⟩:=hnew off x hx
          exact ⟨y,h1,h2,cell_shift h3 (by simpa [optFree] using List.all_eq_true.1 hfree _ (List.mem_of_getElem? hx)) (fun z hz=>by
            subst hz
            exact hvo (50000+off,z) (objsB_get new 50000 off z hx))⟩
        · rename_i hx
          refine hcold ?_ hc
          cases hq:new[off]? with
          | none=>exact .inl rfl
          | some y=>cases y with
            | none=>exact .inr rfl
            | some z=>exact absurd hq (hx z)
      · intro off c hc r' hr'
        split at hc
        · rename_i x hx
          cases hc
          cases x with
          | t c0 =>
            have hf:=List.all_eq_true.1 hfree _ (List.mem_of_getElem? hx)
            rw [show (RC.t c0).cell _=c0 from rfl,A0.free_refs (by simpa [optFree,RC.free] using hf)] at hr'
            cases hr'
          | o z =>
            have:r'=oid d 0+(50000+off):=by simpa [RC.cell,A0.refs] using hr'
            exact .inl ⟨(50000+off,z),objsB_get new 50000 off z hx,this⟩
        · exact .inr (hS.refm b off c hc r' hr')
  · -- a thing
    rename_i b rest
    have hrq:(reqC X (.clo f []) (.sc (.ref b)::rest)).map (fun p=>s.m p.1 p.2)=s.m b 0::(rest.flatMap toArg1).map (fun p=>s.m p.1 p.2):=rfl
    rw [hrq] at h
    split at h
    case h_2=>cases h
    rename_i x cs' hcs
    injection hcs with hm0 hcs'
    subst hcs'
    split at h
    case h_2=>cases h
    rename_i rest' hrest
    split at h
    case h_2=>cases h
    rename_i q new r hKM hrb
    split at h
    case h_2=>cases h
    rename_i v nw hcr
    split at h
    case isFalse=>cases h
    rename_i hsimp
    obtain ⟨hT,hown⟩:=hS.ob hm0
    have hTn:s.T b≠none:=by rw [hT];simp
    have hFO:∀ k,β.F b k→β.O k:=fun k hk=>(hS.own b k hTn hk).1
    have hpre:p∧q:=by
      split at h
      · cases h;exact hp
      · cases h;exact hp
    obtain ⟨hg1,hg2⟩:=hgo hpre.1
    generalize hal:args.toList.map a.eval=al at hg2
    cases hg2 with
    | cons hgp hgr =>
    rename_i u0 us0
    obtain ⟨cu,hfe,hcap⟩:=hg1.1
    cases hcap
    obtain ⟨hfok,hcall⟩:=ok.callM f _ _ q new r hKM hpre.2
    have hargs:=toArg_reads (O':=β.F b) hS hFO hrest hgr (fun y hy r' hr' k hk hk'=>by
      have h1:s.T r'≠none:=by
        obtain ⟨i,hi⟩:=List.getElem?_of_mem hy
        obtain ⟨u',hu',hg⟩:=All2.get hgr i y hi
        exact hg.2 r' hr'
      have:r'=b:=hS.disj r' b k h1 hTn hk hk'
      subst this
      have:(rest.flatMap TV.refs).contains r'=true:=List.contains_iff_mem.2 (List.mem_flatMap.2 ⟨y,hy,hr'⟩)
      rw [hrb] at this;cases this)
    have hcc:=hcall us0 w (β.v b) (β.F b) hown (fun k hk=>hS.lt k (hFO k hk)) hargs
    rw [show u0=β.v b from hgp.1] at hal
    unfold Oper.wp
    rw [run_call ho hfe hfok,hal,List.append_nil,Oper.upon_enter]
    refine hcc.mono ?_
    rintro ee w' ⟨u,rfl,hag,F',vv,G,hF',hnew,hN,hGF,hval⟩
    show K (a.put o.dst u) w'
    have hdo:∃ d0,∀ d,o.dst=some d→d=d0:=by
      cases o.dst with
      | none=>exact ⟨0,fun d h=>by cases h⟩
      | some d0=>exact ⟨d0,fun d h=>by cases h;rfl⟩
    obtain ⟨d0,hdo⟩:=hdo
    split at h
    · rename_i x'
      cases h
      refine done_mut (os:=[]) (o0:=oid d0 0) hS hT hag hF' (by rw [List.append_nil];exact hN) (by rw [List.append_nil];exact hGF) hcr hsimp (fun d' hd'=>by rw [hdo d' hd']) hval hd (by simp [obNew]) rfl rfl hn (m1:=fun off=>if off=0 then some (.obs x') else s.m b off) (wrs_one b _) ?_ ?_ hK
      · intro β' hf' hv' hFF hO'' hvr hvo hrb'
        refine ⟨by rw [hv'];exact hS.oneV hTn,fun _ off c hc=>?_,fun e=>absurd rfl e,fun _ _ _ hne=>absurd rfl hne⟩
        split at hc
        · rename_i h0
          cases hc
          exact ⟨h0,x',rfl,by rw [hv'];exact D.own_mono (hnew x' rfl) (fun k hk=>(hFF k).2 hk)⟩
        · rename_i h0
          exact absurd ((hS.box b obT hT).obj rfl off c hc).1 h0
      · intro off c hc r' hr'
        split at hc
        · cases hc;simp [A0.refs] at hr'
        · exact .inr (hS.refm b off c hc r' hr')
    · cases h
      -- spoken of no more
      have hS1:=hS.drop [b]
      have hTd:∀ b',(s.drop [b]).T b'≠none→b'≠b∧s.T b'≠none:=fun b' hb'=>by
        have:(if [b].contains b'=true then none else s.T b')≠none:=hb'
        split at this
        · exact absurd rfl this
        · rename_i h1
          exact ⟨fun e=>h1 (by rw [e];simp),this⟩
      have hag':Ag β.O w w':=hag.mono (fun k _ hk=>hFO k hk)
      have hkeep:∀ b' k,(s.drop [b]).T b'≠none→β.F b' k→w'.heap[k]?=w.heap[k]?:=fun b' k hb' hk=>by
        obtain ⟨h1,h2⟩:=hTd b' hb'
        exact hag.block k (hS.lt k (hS.own b' k h2 hk).1) (fun hk'=>h1 (hS.disj b' b k h2 hTn hk hk'))
      exact done_simple (e:={ pre:=p∧q,val:=v,new:=nw,kill:=[b] }) (F:=G) hS1 hag' hkeep (Ag.then hS.below hag (fun k hk hk'=>by
        rcases (hS.own b k hTn hk').2 with h1|h1
        · omega
        · exact h1)) hsimp hcr hN hval hd rfl rfl rfl hn hK
  · cases h
theorem op_call (ok:CxOk P X) (hS:Sat W w0 n β s a w) {c:Call} {fo:Operand} (ho:o.op = .call c) (hc:c.callee = .value fo) (h:absOp X s o=some e) (hp:e.pre) (hd:∀ d,o.dst=some d→d<n) (hn:newOk s e)
    (hK:∀ β' a' w',Sat W w0 n β' (s.app o.dst e) a' w'→K a' w'):o.wp P a w K Q:=by
  obtain ⟨callee,args,ats⟩:=c
  simp only at hc
  subst hc
  have hv:=vs_good hS (fo::args.toList)
  have hops:o.op.operands.toList=fo::args.toList:=by rw [ho];simp [Op.operands,Call.operands]
  unfold absOp at h
  rw [hops] at h
  have hia:isApp (.value fo)=false:=rfl
  have hil:isLen (.value fo)=false:=rfl
  simp only [req,fin,ho,hia,hil,Bool.or_self] at h
  split at h
  case h_2=>rename_i hcal _;cases hcal
  case h_3=>rename_i hcal _;cases hcal
  case h_4=>rename_i hcal _;cases hcal
  case h_5=>cases h
  rename_i _ p f caps ays _ hfo
  rw [hfo] at h
  simp only at h
  split at h
  · rename_i ays' hta
    have hrq:reqC X (.clo f caps) ays=ays.flatMap toArg1:=by
      cases ays with
      | nil=>rfl
      | cons x r=>cases x<;>first|rfl|(simp only [toArgs] at hta;cases hta)
    split at h
    · rename_i q r hK'
      split at h
      case h_2=>cases h
      rename_i v nw hcr
      cases h
      rw [hrq] at hta
      have hg:=forces_good hfo hp.1 hv
      rw [List.map_cons] at hg
      cases hg with
      | cons hg1 hg2 =>
      obtain ⟨us,hfe,hcap⟩:=hg1.1
      obtain ⟨hfok,hcall⟩:=ok.call f _ q r hK' hp.2
      have hargs:=toArg_reads (O':=fun _=>False) hS (fun _ h=>h.elim) hta hg2 (fun _ _ _ _ _ _ h=>h)
      have hcc:=hcall _ w (all2_append hargs (caps_reads hcap))
      unfold Oper.wp
      rw [run_call ho hfe hfok,Oper.upon_enter]
      refine hcc.mono ?_
      rintro ee w' ⟨u,rfl,ht,hb⟩
      exact done_cr hS hb hcr ht hd rfl rfl rfl rfl hn hK
    · exact op_finW ok hS ho hfo h hp hd hn hK
  · exact op_finW ok hS ho hfo h hp hd hn hK
end
end Go.Proofs.YtcgknibjbnijmaaW.Sy
end
section
set_option linter.unusedVariables false
set_option linter.unusedSimpArgs false
namespace Go.Proofs.YtcgknibjbnijmaaW.Sy
open Go RowKit YtcgknibjbnijmaaW.PrintWords YtcgknibjbnijmaaW.PrintMore YtcgknibjbnijmaaW.Aid YtcgknibjbnijmaaW.Big
section
variable {P:Program} {X:Cx} {W:Nat→Prop} {w0:World} {n:Nat} {β:Pl} {s:St} {a:Act} {w w':World} {o:Oper} {e:Eff} {K:Act→World→Prop} {Q:Exit→Act→World→Prop}
theorem app_done (hS:Sat W w0 n β (s.after e) a w) {α:Type} (d:Kd α) (mk:List α→D) {x y:Operand} {T el dd:Nat} {z:Value} {bytes:Nat} (hmk:∀ l F w u,(mk l).own F w u↔d.R el w 0 F u l)
    (ho:o.op = .call { callee := .builtin .append,args:=#[x,y],argTypes:=#[T,T] }) (ht:P.underlying T=some (.slice el)) (hinfo:(P.info? el).map (fun i=>(i.zero,i.size,i.bytes))=some (some z,d.sz,bytes)) (hz:z.cells.size=d.sz) (hs0:0<d.sz) (hb0:0<bytes)
    {F0:Nat→Prop} (hF0:∀ k,F0 k→β.O k∧(w0.heap.size≤k∨W k)∧∀ b',(s.after e).T b'≠none→¬ β.F b' k) {v:Value} {l ys:List α} (HO:d.R el w 0 F0 v l) (hsv:a.eval x=v) {A:Option Addr} {m c:Nat} (hy:a.eval y = .slice A m c) (HR:d.C w A m ys) (hKM:∀ q cs,d.K w q cs→d.M w 0 (fun _=>False) q cs) (hl:(l.length+m)*bytes≤140737488355328)
    (hdst:o.dst=some dd) (hd:dd<n) (hT:(s.after e).T dd=none) (hnew:e.new=[(dd,obT,[.obs (mk (l++ys))])]) (hval:e.val=some (.sc (.ref dd))) (hwr:e.wr=[])
    (hK:∀ β' a' w',Sat W w0 n β' (s.app o.dst e) a' w'→K a' w'):o.wp P a w K Q:=by
  unfold St.app at hK
  generalize s.after e=s1 at *
  have key:=Kd.R_append_rows_step (P:=P) (ops:=#[]) (o:={ o with guard:=none }) (a:=a) (Q:=Q) (Kc:=K) d (Rr:=d.K w) (w0:=w) (W:=w) 0 (by rfl) x y T el z bytes ho ht hinfo hz hs0 hb0 v l ys A m c (fun k=>F0 k∨w.heap.size≤k) (fun _=>False) hsv hy (Kd.R_mono HO (fun k hk => .inl hk)) HR hKM (fun k hk=>hk.elim) (fun k hk => .inr hk) (Below.refl _ _) (Nat.zero_le _) hl (fun v1 w1 h1 h2 h3 h4=>by
    show K (a.put o.dst v1) w1
    have hob:∀ k,v.ownBlock=some k→F0 k:=HO.1
    have hag:Ag β.O w w1:=⟨h2.os,h2.tape,h2.output,h2.size,fun k hk hk'=>h3.block k hk (fun he=>hk' (hF0 k (hob k he.symm)).1)⟩
    have hown:=(hmk (l++ys) _ w1 v1).2 h1
    have hown2:=D.own_tight hown
    have hS2:=hS.one hag (fun b k hb hk=>h3.block k (hS.lt k (hS.own b k hb hk).1) (fun he=>(hF0 k (hob k he.symm)).2.2 b hb hk)) (Ag.then hS.below (O':=fun k=>v.ownBlock=some k) ⟨h2.os,h2.tape,h2.output,h2.size,fun k hk hk'=>h3.block k hk (fun he=>hk' he.symm)⟩ (fun k hk hk'=>by
      rcases (hF0 k (hob k hk')).2.1 with h5|h5
      · omega
      · exact h5)) (d:=dd) (g:=0) (v:=v1) (F:=fun k=>(F0 k∨w.heap.size≤k)∧k<w1.heap.size) (ty:=obT) (cs:=[.obs (mk (l++ys))]) hT (fun k hk=>⟨hk.2,by
      rcases hk.1 with h5|h5
      · exact .inr (hF0 k h5)
      · exact .inl h5⟩) (ob_box hown2 (by simp [upd]) (by simp [upd])) (fun c hc r hr=>by
      simp only [List.mem_singleton] at hc
      subst hc
      simp [A0.refs] at hr)
    refine hK _ _ _ (?_:Sat W w0 n (β.put dd 0 v1 (fun k=>(F0 k∨w.heap.size≤k)∧k<w1.heap.size)) _ _ _)
    rw [hdst,app0_addN s1 dd e hwr,hnew,hval]
    exact hS2.put hd (fun q hq=>by
      cases hq
      refine ⟨?_,fun b hb=>?_⟩
      · show v1=_
        simp [upd]
      · have:b=dd:=by simpa [TV.refs,A0.refs] using hb
        subst this
        rw [addN_T1 (lookN_self b _)];simp))
  rw [if_pos (by rfl)] at key
  exact key
theorem nums_reads {k:IntKind}:∀ (l:List A0) {xs:List Int} {us:List Value},numsOf k l=some xs→All2 (A0.reads β w) l us→us=xs.map (Value.int k):=by
  intro l
  induction l with
  | nil=>intro xs us h hr;cases h;cases hr;rfl
  | cons c l ih =>
    intro xs us h hr
    unfold numsOf at h
    split at h
    · rename_i heq;cases heq
    · rename_i k' x r heq
      cases heq
      split at h
      · rename_i ys hk hn
        cases h
        cases hr with
        | cons h1 h2 =>
          have:k'=k:=of_decide_eq_true hk
          subst this
          rw [ih hn h2,show _=Value.int k' x from h1];rfl
      · cases h
    · cases h
theorem nums_noObs {k:IntKind}:∀ (l:List A0) {xs:List Int},numsOf k l=some xs→l.all A0.noObs=true:=by
  intro l
  induction l with
  | nil=>intro xs h;rfl
  | cons c l ih =>
    intro xs h
    unfold numsOf at h
    split at h
    · rename_i heq;cases heq
    · rename_i k' x r heq
      cases heq
      split at h
      · rename_i ys hk hn
        simp only [List.all_cons,ih hn,Bool.and_true];rfl
      · cases h
    · cases h
theorem chunk_len (sz:Nat):∀ (m:Nat) (l:List Int),(chunk sz m l).length=m
  | 0,l=>rfl
  | m+1,l=>by simp [chunk,chunk_len sz m]
theorem chunk_get (sz:Nat):∀ (m:Nat) (l:List Int) (j:Nat),j<m→(chunk sz m l)[j]?=some ((l.drop (j*sz)).take sz)
  | 0,l,j,h=>absurd h (Nat.not_lt_zero _)
  | m+1,l,0,h=>by simp [chunk]
  | m+1,l,j+1,h=>by
    simp only [chunk,List.getElem?_cons_succ]
    rw [chunk_get sz m (l.drop sz) j (by omega),List.drop_drop,show sz+j*sz=(j+1)*sz by rw [Nat.add_mul,Nat.one_mul,Nat.add_comm]]
theorem own_C {k:IntKind} (hS:Sat W w0 n β s a w) {b off m sz:Nat} {u:Value} (hg:Good β s w (.own b off m sz) u) {l:List A0} (hl:allSome ((span b off (m*sz)).map fun p=>s.m p.1 p.2)=some l) {xs:List Int} (hx:numsOf k l=some xs) (hlen:xs.length=m*sz):∃ ad c,u = .slice (some ad) m c∧∀ (j:Nat) x,xs[j]?=some x→w.cell? (ad.add j)=some (.int k x):=by
  obtain ⟨c,hu,hc⟩:=hg.1
  obtain ⟨us,h1,h2,h3,_⟩:=box_cells hS b (m*sz) off l (allSome_get hl) (nums_noObs l hx)
  have hus:=nums_reads l hx h2
  refine ⟨_,c,hu,fun j x hj=>?_⟩
  rw [addr_add]
  exact (h3 j (.int k x) (by rw [hus,List.getElem?_map,hj];rfl)).1
theorem appY_reads (hS:Sat W w0 n β s a w) {k:IntKind} {y:TV} {xs:List Int} {u:Value} (h:appY k y ((toArg1 y).map fun p=>s.m p.1 p.2)=some xs) (hg:Good β s w y u) (hl:xs.length≤9223372036854775807):∃ A c,u = .slice A xs.length c∧(Kd.int k).C w A xs.length xs:=by
  unfold appY at h
  split at h
  · rename_i b off m sz
    split at h
    · rename_i l hls
      split at h
      · rename_i ys hys
        split at h
        · rename_i hc
          cases h
          obtain ⟨rfl,hlen⟩:=hc
          obtain ⟨ad,c,hu,hcell⟩:=own_C hS hg hls hys (by rw [hlen,Nat.mul_one])
          refine ⟨some ad,c,by rw [hu,hlen],?_⟩
          refine ⟨rfl,hl,fun _=>⟨ad,rfl,fun j p hj=>⟨[.int k p],rfl,rfl,fun i v hi=>?_⟩⟩⟩
          cases i with
          | zero =>
            have:Value.int k p=v:=by simpa using hi
            subst this
            rw [show j*(Kd.int k).sz+0=j from by show j*1+0=j;omega]
            exact hcell j p hj
          | succ i=>simp at hi
        · cases h
      · cases h
    · cases h
  · rename_i k' l
    split at h
    · rename_i hk
      subst hk
      cases h
      obtain ⟨A,c,e1,h1,h2⟩:=(show ∀ w1,Ag β.O w w1→rdSl w1 k' xs u from hg.1) w (Ag.refl _ _)
      exact ⟨A,c,e1,h2⟩
    · cases h
  · rename_i b k' e' l r hcs
    split at h
    · rename_i hk
      subst hk
      cases h
      have hm:s.m b 0=some (.obs (.ints k' e' xs)):=by
        have:=congrArg List.head? hcs
        simpa [toArg1,refP,A0.refs] using this
      obtain ⟨A,c,e1,h1,h2⟩:=Kd.R_reads (hS.ob hm).2
      exact ⟨A,c,(show u=β.v b from hg.1).trans e1,h2⟩
    · cases h
  · cases h
    exact ⟨none,0,hg.1,Kd.C_nil _ _⟩
  · cases h
theorem appF_reads (hS:Sat W w0 n β s a w) {sz:Nat} {y:TV} {xs:List (List Int)} {u:Value} (h:appF sz y ((toArg1 y).map fun p=>s.m p.1 p.2)=some xs) (hg:Good β s w y u) (hl:xs.length≤9223372036854775807):∃ A c,u = .slice A xs.length c∧(kFlat sz).C w A xs.length xs:=by
  unfold appF at h
  split at h
  · rename_i b off m sz'
    split at h
    · rename_i l hls
      split at h
      · rename_i ys hys
        split at h
        · rename_i hc
          cases h
          obtain ⟨rfl,hlen⟩:=hc
          obtain ⟨ad,c,hu,hcell⟩:=own_C hS hg hls hys hlen
          rw [chunk_len] at hl
          rw [chunk_len]
          refine ⟨some ad,c,hu,?_⟩
          refine ⟨chunk_len _ _ _,hl,fun _=>⟨ad,rfl,fun j p hj=>?_⟩⟩
          have hjm:j<m:=by have:=(List.getElem?_eq_some_iff.1 hj).1;rw [chunk_len] at this;exact this
          rw [chunk_get sz' m ys j hjm] at hj
          cases hj
          have hle:j*sz'+sz'≤ys.length:=by
            rw [hlen,← Nat.succ_mul];exact Nat.mul_le_mul_right _ hjm
          have hpl:((ys.drop (j*sz')).take sz').length=sz':=by rw [List.length_take,List.length_drop];omega
          refine ⟨_,by rw [List.length_map];exact hpl,⟨rfl,hpl⟩,fun i v hi=>?_⟩
          rw [List.getElem?_map] at hi
          obtain ⟨x,hx,rfl⟩:=Option.map_eq_some_iff.1 hi
          rw [List.getElem?_take] at hx
          split at hx
          · rw [List.getElem?_drop] at hx
            exact hcell _ x hx
          · cases hx
        · cases h
      · cases h
    · cases h
  · rename_i e' sz' l
    split at h
    · rename_i hk
      subst hk
      cases h
      obtain ⟨A,c,e1,h1,h2⟩:=(show ∀ w1,Ag β.O w w1→(D.flat e' sz' xs).rd w1 u from hg.1) w (Ag.refl _ _)
      exact ⟨A,c,e1,h2⟩
    · cases h
  · rename_i b e' sz' l r hcs
    split at h
    · rename_i hk
      subst hk
      cases h
      have hm:s.m b 0=some (.obs (.flat e' sz' xs)):=by
        have:=congrArg List.head? hcs
        simpa [toArg1,refP,A0.refs] using this
      obtain ⟨A,c,e1,h1,h2⟩:=Kd.R_reads (hS.ob hm).2
      exact ⟨A,c,(show u=β.v b from hg.1).trans e1,h2⟩
    · cases h
  · cases h
    exact ⟨none,0,hg.1,Kd.C_nil _ _⟩
  · cases h
theorem info_of (ok:CxOk P X) {el:TypeId} (hz:(X.ti el).zero.map List.length=some (X.ti el).size) (hs:0<(X.ti el).size):∃ z,(P.info? el).map (fun i=>(i.zero,i.size,i.bytes))=some (some z,(X.ti el).size,(X.ti el).bytes)∧z.cells.size=(X.ti el).size:=by
  obtain ⟨zs,hzs,hlen⟩:=Option.map_eq_some_iff.1 hz
  obtain ⟨inf,z,us,h1,h2,h3,h4,_⟩:=(ok.ty el).zero zs hzs
  obtain ⟨inf',hi,hsi⟩:=(ok.ty el).size (by omega)
  rw [h1] at hi;cases hi
  have hbt:=(ok.ty el).bts (by omega) inf h1
  refine ⟨z,by rw [h1,← hsi,← hbt,← h2];rfl,?_⟩
  rw [h3,List.size_toArray,← hlen]
  exact (All2.length (h4 pl0 default)).symm
theorem drop_live {b b':Nat} (h:(s.drop [b]).T b'≠none):b'≠b∧s.T b'≠none:=by
  have:(if [b].contains b'=true then none else s.T b')≠none:=h
  split at this
  · exact absurd rfl this
  · rename_i h1
    exact ⟨fun e=>h1 (by rw [e];simp),this⟩
theorem forces_two {s:St} {x y:Operand} {p:Prop} {x' y':TV} (h:forces [getv s.g x,getv s.g y]=some (p,[x',y'])) (hS:Sat W w0 n β s a w) (hp:p):Good β s w x' (a.eval x)∧Good β s w y' (a.eval y):=by
  have:=forces_good (vs:=[getv s.g x,getv s.g y]) (us:=[a.eval x,a.eval y]) h hp (.cons (fun _ h=>getv_good hS h) (.cons (fun _ h=>getv_good hS h) .nil))
  cases this with|cons h1 h2=>cases h2 with|cons h2 h3=>exact ⟨h1,h2⟩
theorem op_append (ok:CxOk P X) (hS:Sat W w0 n β s a w) {c:Call} (ho:o.op = .call c) (hc:c.callee = .builtin .append) (h:absOp X s o=some e) (hp:e.pre) (hd:∀ d,o.dst=some d→d<n) (hn:newOk s e)
    (hK:∀ β' a' w',Sat W w0 n β' (s.app o.dst e) a' w'→K a' w'):o.wp P a w K Q:=by
  obtain ⟨callee,args,ats⟩:=c
  simp only at hc
  subst hc
  have hia:isApp (.builtin .append)=true:=rfl
  have hops:o.op.operands.toList=args.toList:=by rw [ho];simp [Op.operands,Call.operands]
  unfold absOp at h
  rw [hops] at h
  simp only [req,req2,fin,ho,hia,Bool.true_or] at h
  unfold finApp at h
  split at h
  case h_2=>cases h
  rename_i p x' y' T T' d hfo hats hdst
  split at h
  case h_2=>cases h
  rename_i el helt
  split at h
  case isFalse=>cases h
  rename_i hcond
  have hTT:T'=T:=by rcases hcond with h1|h1<;>exact h1.1
  subst hTT
  have hut:=(ok.ty T').slc el helt
  have hats':ats=#[T',T']:=by apply Array.ext';exact hats
  subst hats'
  -- two operands
  have hlen:args.toList.length=2:=by
    have:=forces_len hfo
    simpa using this
  obtain ⟨x,y,rfl⟩:=arr2 hlen
  have hfo2:forces [getv s.g x,getv s.g y]=some (p,[x',y']):=hfo
  simp only [hfo] at h
  have hcs:([x',y'].flatMap toArg1).map (fun p=>s.m p.1 p.2)=(toArg1 x').map (fun p=>s.m p.1 p.2)++(toArg1 y').map (fun p=>s.m p.1 p.2):=by simp
  rw [hcs] at h
  split at h
  · -- behind own numbers
    rename_i h4 h3 b k e' l r hrest
    rw [show toArg1 (.sc (.ref b))=[(b,0)] from rfl] at hrest
    injection hrest with hm hr
    subst hr
    split at h
    case h_2=>cases h
    rename_i xs hxs
    split at h
    case isFalse=>cases h
    rename_i hc
    cases h
    obtain ⟨rfl,hsz,hbt,hzl⟩:=hc
    obtain ⟨g1,g2⟩:=forces_two hfo2 hS hp.1
    obtain ⟨hT,hown⟩:=hS.ob hm
    have hTn:s.T b≠none:=by rw [hT];simp
    have hpb:=hp.2
    have hxl:xs.length≤9223372036854775807:=by
      have:xs.length≤(l.length+xs.length)*(X.ti e').bytes:=Nat.le_trans (Nat.le_add_left _ _) (Nat.le_mul_of_pos_right _ hbt)
      omega
    obtain ⟨A,c,hy,hC⟩:=appY_reads hS hxs g2 hxl
    obtain ⟨z,hz1,hz2⟩:=info_of ok hzl (by omega)
    rw [hsz] at hz1 hz2
    refine app_done (e:={ pre:=_,val:=some (.sc (.ref d)),new:=[(d,obT,[.obs (.ints k e' (l++xs))])],kill:=[b] }) (hS.drop [b]) (Kd.int k) (fun l => .ints k e' l) (el:=e') (fun _ _ _ _=>Iff.rfl) ho hut hz1 hz2 Nat.one_pos hbt (F0:=β.F b) (fun k hk=>⟨(hS.own b k hTn hk).1,(hS.own b k hTn hk).2,fun b' hb' hk'=>(drop_live hb').1 (hS.disj b' b k (drop_live hb').2 hTn hk' hk)⟩) hown g1.1 hy hC (fun q cs h=>h) hpb hdst (hd d hdst) (hn _ List.mem_cons_self) rfl rfl rfl hK
  · rename_i h4 h3 b e' sz l r hrest
    rw [show toArg1 (.sc (.ref b))=[(b,0)] from rfl] at hrest
    injection hrest with hm hr
    subst hr
    split at h
    case h_2=>cases h
    rename_i xs hxs
    split at h
    case isFalse=>cases h
    rename_i hc
    cases h
    obtain ⟨rfl,hsz,hpos,hbt,hzl⟩:=hc
    obtain ⟨g1,g2⟩:=forces_two hfo2 hS hp.1
    obtain ⟨hT,hown⟩:=hS.ob hm
    have hTn:s.T b≠none:=by rw [hT];simp
    have hpb:=hp.2
    have hxl:xs.length≤9223372036854775807:=by
      have:xs.length≤(l.length+xs.length)*(X.ti e').bytes:=Nat.le_trans (Nat.le_add_left _ _) (Nat.le_mul_of_pos_right _ hbt)
      omega
    obtain ⟨A,c,hy,hC⟩:=appF_reads hS hxs g2 hxl
    obtain ⟨z,hz1,hz2⟩:=info_of ok hzl (by omega)
    rw [hsz] at hz1 hz2
    refine app_done (e:={ pre:=_,val:=some (.sc (.ref d)),new:=[(d,obT,[.obs (.flat e' sz (l++xs))])],kill:=[b] }) (hS.drop [b]) (kFlat sz) (fun l => .flat e' sz l) (el:=e') (fun _ _ _ _=>Iff.rfl) ho hut hz1 hz2 hpos hbt (F0:=β.F b) (fun k hk=>⟨(hS.own b k hTn hk).1,(hS.own b k hTn hk).2,fun b' hb' hk'=>(drop_live hb').1 (hS.disj b' b k (drop_live hb').2 hTn hk' hk)⟩) hown g1.1 hy hC (fun q cs h=>h) hpb hdst (hd d hdst) (hn _ List.mem_cons_self) rfl rfl rfl hK
  · rename_i h4 h3
    have hnil:toArg1 (.sc (.v (.slice none 0 0)))=[]:=rfl
    simp only [hnil,List.map_nil,List.nil_append] at h
    split at h
    · rename_i k hint
      split at h
      case h_2=>cases h
      rename_i xs hxs
      split at h
      case isFalse=>cases h
      rename_i hc
      cases h
      obtain ⟨hsz,hbt,hzl⟩:=hc
      obtain ⟨g1,g2⟩:=forces_two hfo2 hS hp.1
      have hpb:=hp.2
      have hxl:xs.length≤9223372036854775807:=by
        have:xs.length≤xs.length*(X.ti el).bytes:=Nat.le_mul_of_pos_right _ hbt
        omega
      obtain ⟨A,c,hy,hC⟩:=appY_reads hS hxs g2 hxl
      obtain ⟨z,hz1,hz2⟩:=info_of ok hzl (by omega)
      rw [hsz] at hz1 hz2
      exact app_done (e:={ pre:=_,val:=some (.sc (.ref d)),new:=[(d,obT,[.obs (.ints k el xs)])] }) hS (Kd.int k) (fun l => .ints k el l) (el:=el) (l:=[]) (fun _ _ _ _=>Iff.rfl) ho hut hz1 hz2 Nat.one_pos hbt (F0:=fun _=>False) (fun k hk=>hk.elim) (Kd.R_nil _ _ _ _ _) g1.1 hy hC (fun q cs h=>h) (by simpa using hpb) hdst (hd d hdst) (hn _ List.mem_cons_self) rfl rfl rfl hK
    · rename_i hint
      split at h
      case h_2=>cases h
      rename_i xs hxs
      split at h
      case isFalse=>cases h
      rename_i hc
      cases h
      obtain ⟨hsz,hbt,hzl⟩:=hc
      obtain ⟨g1,g2⟩:=forces_two hfo2 hS hp.1
      have hpb:=hp.2
      have hxl:xs.length≤9223372036854775807:=by
        have:xs.length≤xs.length*(X.ti el).bytes:=Nat.le_mul_of_pos_right _ hbt
        omega
      obtain ⟨A,c,hy,hC⟩:=appF_reads hS hxs g2 hxl
      obtain ⟨z,hz1,hz2⟩:=info_of ok hzl (by omega)
      exact app_done (e:={ pre:=_,val:=some (.sc (.ref d)),new:=[(d,obT,[.obs (.flat el (X.ti el).size xs)])] }) hS (kFlat (X.ti el).size) (fun l => .flat el (X.ti el).size l) (el:=el) (l:=[]) (fun _ _ _ _=>Iff.rfl) ho hut hz1 hz2 hsz hbt (F0:=fun _=>False) (fun k hk=>hk.elim) (Kd.R_nil _ _ _ _ _) g1.1 hy hC (fun q cs h=>h) (by simpa using hpb) hdst (hd d hdst) (hn _ List.mem_cons_self) rfl rfl rfl hK
  · cases h
end
end Go.Proofs.YtcgknibjbnijmaaW.Sy
end
section
set_option linter.unusedVariables false
set_option linter.unusedSimpArgs false
namespace Go.Proofs.YtcgknibjbnijmaaW.Sy
open Go RowKit YtcgknibjbnijmaaW.PrintWords YtcgknibjbnijmaaW.PrintMore YtcgknibjbnijmaaW.Aid YtcgknibjbnijmaaW.Big
section
variable {P:Program} {X:Cx} {W:Nat→Prop} {w0:World} {n:Nat} {β:Pl} {s:St} {a:Act} {w:World} {o:Oper} {e:Eff} {K:Act→World→Prop} {Q:Exit→Act→World→Prop}
structure CxOk2 (P:Program) (X:Cx):Prop extends CxOk P X where
  bld:∀ T w,(X.ti T).agg=true→(X.ti T).elt=none→(X.ti T).zero≠none→∃ fs,P.underlying T=some (.struct fs)∧∃ ps,((fs.mapM fun f=>do pure (f.offset,← sizeOf f.type)):Sem (Array (Nat × Nat))).run P w = .ok ps w∧∀ (i:Nat),ps[i]?=((X.ti T).offs[i]?).map fun (q:Nat × TypeId)=>(q.1,(X.ti q.2).size)
  all:∀ T,(X.ti T).int≠none→(P.underlying T).isSome=true
def srcOk (X:Cx):Op→Bool
  | .convert src _ _=>((X.ti src).int).isSome
  | _=>true
def dstOk (n:Nat) (o:Oper):Bool :=
  match o.op,o.dst with
  | .store _ _ _,none=>true
  | .store _ _ _,some _=>false
  | _,some d=>decide (d<n)
  | .call _,none=>true
  | _,none=>false
theorem dst_lt {d:Tmp} (hdo:dstOk n o=true) (hd:o.dst=some d):d<n:=by
  unfold dstOk at hdo
  rw [hd] at hdo
  split at hdo
  all_goals first
    | (rename_i h2;cases h2;done)
    | (cases hdo;done)
    | (rename_i h2;cases h2;exact of_decide_eq_true hdo)
    | (rename_i h1 h2;cases h2;exact of_decide_eq_true hdo)
    | skip
  all_goals simp_all
theorem op_sound (ok:CxOk2 P X) (hS:Sat W w0 n β s a w) (h:absOp X s o=some e) (hp:e.pre) (hs:srcOk X o.op=true) (hdo:dstOk n o=true) (hn:newOk s e)
    (hK:∀ β' a' w',Sat W w0 n β' (s.app o.dst e) a' w'→K a' w'):o.wp P a w K Q:=by
  have hd:∀ d,o.dst=some d→d<n:=fun d hd=>dst_lt hdo hd
  cases ho:o.op with
  | move x=>exact op_move hS (.inl ho) h hp hd hK
  | assign x=>exact op_move hS (.inr ho) h hp hd hK
  | alloc T=>exact op_alloc ok.toCxOk hS ho h hp hd hn hK
  | box T x=>exact op_box ok.toCxOk hS ho h hp hd hn hK
  | load T x=>exact op_load ok.toCxOk hS ho h hp hd hK
  | store T x y =>
    refine op_store ok.toCxOk hS ho ?_ h hp hK
    unfold dstOk at hdo
    rw [ho] at hdo
    cases hdst:o.dst with
    | none=>rfl
    | some d=>rw [hdst] at hdo;cases hdo
  | nilCheck x=>exact op_nilCheck hS ho h hp hd hK
  | fieldAddr T x j=>exact op_fieldAddr ok.toCxOk hS ho h hp hd hK
  | field T x j=>exact op_field ok.toCxOk hS ho h hp hd hK
  | indexAddr T x y=>exact op_indexAddr ok.toCxOk hS ho h hp hd hK
  | binOp op T x y t=>exact op_binOp ok.toCxOk hS ho h hp hd hK
  | unOp op T x=>exact op_unOp hS ho h hp hd hK
  | convert src dst x =>
    refine op_convert ok.toCxOk hS ho (ok.all src ?_) h hp hd hK
    rw [ho] at hs
    intro he
    simp [srcOk,he] at hs
  | extract x i=>exact op_extract hS ho h hp hd hK
  | pick c x y=>exact op_pick hS ho h hp hd hK
  | build T parts =>
    exact op_build ok.toCxOk hS ho (ok.bld T w) h hp hd hK
  | buildSlice T m parts=>exact op_buildSlice ok.toCxOk hS ho h hp hd hn hK
  | makeFunc fn first captured=>exact op_makeFunc hS ho h hp hd hK
  | call c =>
    cases hc:c.callee with
    | value f=>exact op_call ok.toCxOk hS ho hc h hp hd hn hK
    | invoke r m =>
      have hia:isApp (.invoke r m)=false:=rfl
      simp only [absOp,req,fin,ho,hc,hia] at h;cases h
    | builtin b =>
      by_cases hb:b = .len
      · subst hb;exact op_len ok.toCxOk hS ho hc h hp hd hK
      · by_cases hb3:b = .append
        · subst hb3;exact op_append ok.toCxOk hS ho hc h hp hd hn hK
        have hia:isApp (.builtin b)=false:=by cases b<;>first|rfl|exact absurd rfl hb3
        by_cases hb2:b = .min∨b = .max
        · exact op_minmax hS ho (by rcases hb2 with rfl|rfl;exact .inl hc;exact .inr hc) h hp hd hK
        · simp only [absOp,req,fin,ho,hc,hia] at h
          split at h
          · rename_i hcc _;cases hcc
          · rename_i hcc _;cases hcc;exact absurd rfl hb
          · rename_i hcc _;cases hcc;exact absurd (.inl rfl) hb2
          · rename_i hcc _;cases hcc;exact absurd (.inr rfl) hb2
          · cases h
  | slice T x lo hi mx=>exact op_slice ok.toCxOk hS ho h hp hd hK
  | _=>simp only [absOp,req,fin,ho] at h;cases h
end
def opTmps (o:Oper):List Tmp:=o.op.operands.toList.filterMap fun | .tmp t=>some t|_=>none
def reqs (X:Cx) (s:St) (o:Oper):List (Nat × Nat):=req X o (o.op.operands.toList.map (getv s.g))++req2 X o (o.op.operands.toList.map (getv s.g)) ((req X o (o.op.operands.toList.map (getv s.g))).map fun p=>s.m p.1 p.2)
def absR (X:Cx) (s:St) (o:Oper):Option Eff :=
  match absOp X s o with
  | some e=>some { e with rd:=reqs X s o }
  | none=>none
def gcond (s:St) (ops:List Oper) (j:Nat) (want:Bool):Option Bool :=
  match ops[j]? with
  | some oj=>match oj.dst with
    | some t=>match s.g t with
      | some (.sc c)=>match c.val? with
        | some (.bool b)=>some (b == want)
        | _=>none
      | some (.cond c y)=>match y.val? with
        | some (.bool b)=>some (c&&(b == want))
        | _=>none
      | _=>none
    | none=>none
  | none=>none
def TV.isCond:TV→Bool
  | .cond _ _=>true
  | _=>false
def refsIn (y:TV) (vs:List (Option TV)) (cs:List (Option A0)):Bool:=y.refs.all fun b=>(vs.any fun v=>match v with
  | some z=>z.refs.contains b
  | none=>false)||cs.any fun c=>match c with
  | some q=>q.refs.contains b
  | none=>false
def absG (X:Cx) (ops:List Oper) (s:St) (o:Oper):Option Eff :=
  match o.guard with
  | none=>absR X s o
  | some (j,want)=>match gcond s ops j want,absR X s o with
    | some gc,some e=>match e.wr,e.new,e.val,e.kill with
      | [],[],some y,[]=>if y.isCond=false∧refsIn y (o.op.operands.toList.map (getv s.g)) (e.rd.map fun p=>s.m p.1 p.2)=true∧o.dst.isSome=true then some { pre:=gc=true→e.pre,val:=some (.cond gc y),rd:=e.rd } else none
      | _,_,_,_=>none
    | _,_=>none
def guardTmps (ops:List Oper) (o:Oper):List Tmp :=
  match o.guard with
  | some (j,_)=>match ops[j]? with
    | some oj=>oj.dst.toList
    | none=>[]
  | none=>[]
theorem getv_congr {g g':Nat→Option TV} {x:Operand} (h:∀ t,x = .tmp t→g' t=g t):getv g' x=getv g x:=by
  cases x with
  | tmp t=>exact h t rfl
  | _=>rfl
theorem vals_congr {o:Oper} {s s':St} (h:∀ t∈opTmps o,s'.g t=s.g t):o.op.operands.toList.map (getv s'.g)=o.op.operands.toList.map (getv s.g):=by
  refine List.map_congr_left (fun x hx=>getv_congr (fun t ht=>h t ?_))
  subst ht
  unfold opTmps
  rw [List.mem_filterMap]
  exact ⟨_,hx,rfl⟩
theorem absR_congr {X:Cx} {s s':St} {o:Oper} {e:Eff} (h:absR X s o=some e) (hg:∀ t∈opTmps o,s'.g t=s.g t) (hm:∀ p∈e.rd,s'.m p.1 p.2=s.m p.1 p.2):absR X s' o=some e:=by
  have hv:=vals_congr hg
  have he:∀ e',absOp X s o=some e'→e={ e' with rd:=reqs X s o }:=by
    intro e' h'
    unfold absR at h;rw [h'] at h;cases h;rfl
  have hop:absOp X s' o=absOp X s o:=by
    cases hc:absOp X s o with
    | none=>unfold absR at h;rw [hc] at h;cases h
    | some e' =>
      have h2:=he e' hc
      rw [← hc]
      unfold absOp
      rw [hv]
      have e1:(req X o (o.op.operands.toList.map (getv s.g))).map (fun p=>s'.m p.1 p.2)=(req X o (o.op.operands.toList.map (getv s.g))).map (fun p=>s.m p.1 p.2):=List.map_congr_left (fun p hp=>hm p (by rw [h2];exact List.mem_append_left _ hp))
      rw [e1]
      congr 1
      exact List.map_congr_left (fun p hp=>hm p (by rw [h2];exact List.mem_append_right _ hp))
  have hrq:reqs X s' o=reqs X s o:=by
    cases hc:absOp X s o with
    | none=>unfold absR at h;rw [hc] at h;cases h
    | some e' =>
      have h2:=he e' hc
      unfold reqs
      rw [hv]
      have e1:(req X o (o.op.operands.toList.map (getv s.g))).map (fun p=>s'.m p.1 p.2)=(req X o (o.op.operands.toList.map (getv s.g))).map (fun p=>s.m p.1 p.2):=List.map_congr_left (fun p hp=>hm p (by rw [h2];exact List.mem_append_left _ hp))
      rw [e1]
  unfold absR at h ⊢
  rw [hop,hrq];exact h
theorem absG_congr {X:Cx} {ops:List Oper} {s s':St} {o:Oper} {e:Eff} (h:absG X ops s o=some e) (hg:∀ t∈opTmps o,s'.g t=s.g t) (hgu:∀ t∈guardTmps ops o,s'.g t=s.g t) (hm:∀ p∈e.rd,s'.m p.1 p.2=s.m p.1 p.2):absG X ops s' o=some e:=by
  unfold absG at h ⊢
  split
  · rename_i hgd
    rw [hgd] at h
    exact absR_congr h hg hm
  · rename_i j want hgd
    rw [hgd] at h
    simp only at h
    split at h
    · rename_i gc e' hgc hr
      split at h
      · rename_i y h1 h2 h3 h4
        split at h
        · rename_i hc
          cases h
          have e1:gcond s' ops j want=some gc:=by
            rw [← hgc]
            unfold gcond
            cases hj:ops[j]? with
            | none=>rfl
            | some oj =>
              simp only
              cases hd:oj.dst with
              | none=>rfl
              | some t =>
                simp only
                rw [hgu t (by unfold guardTmps;rw [hgd];simp [hj,hd])]
          have e2:=absR_congr hr hg hm
          rw [e1,e2]
          simp only [h1,h2,h3,h4]
          have e3:(e'.rd.map fun p=>s'.m p.1 p.2)=e'.rd.map fun p=>s.m p.1 p.2:=List.map_congr_left hm
          rw [vals_congr hg,e3,if_pos hc]
        · cases h
      · cases h
    · cases h
section
variable {P:Program} {X:Cx} {W:Nat→Prop} {w0:World} {n:Nat} {β:Pl} {s:St} {a:Act} {w:World} {o:Oper} {e:Eff} {K:Act→World→Prop} {Q:Exit→Act→World→Prop} {ops:List Oper}
theorem absR_sound (ok:CxOk2 P X) (hS:Sat W w0 n β s a w) (h:absR X s o=some e) (hp:e.pre) (hs:srcOk X o.op=true) (hdo:dstOk n o=true) (hn:newOk s e)
    (hK:∀ β' a' w',Sat W w0 n β' (s.app o.dst e) a' w'→K a' w'):o.wp P a w K Q:=by
  unfold absR at h
  split at h
  · rename_i e' he;cases h
    exact op_sound ok hS he hp hs hdo hn hK
  · cases h
theorem yielded_eq (hS:Sat W w0 n β s a w) {j:Nat} {oj:Oper} {t:Tmp} (hj:ops[j]?=some oj) (hd:oj.dst=some t):yielded ops.toArray a.tmps j=match a.tmps.getD t undef with
    | .bool b=>some b
    | _=>none:=by
  unfold yielded
  have:(ops.toArray[j]?).bind (·.dst)=some t:=by simp [hj,hd]
  rw [this]
  simp only [Option.bind_some]
  rw [Array.getD_eq_getD_getElem?]
  cases ht:a.tmps[t]? with
  | none=>rfl
  | some v=>cases v<;>rfl
theorem gcond_true (hS:Sat W w0 n β s a w) {j:Nat} {want gc:Bool} (h:gcond s ops j want=some gc):(yielded ops.toArray a.tmps j == some want)=gc:=by
  unfold gcond at h
  split at h
  · rename_i oj hj
    split at h
    · rename_i t hd
      rw [yielded_eq hS hj hd]
      split at h
      · rename_i c hg
        split at h
        · rename_i b hv
          cases h
          have:=val_reads (c := .sc c) hv (hS.tm t _ hg)
          rw [this];rfl
        · cases h
      · rename_i c y hg
        split at h
        · rename_i b hv
          cases h
          have:=hS.tm t _ hg
          cases c with
          | true=>rw [val_reads hv (this.1 rfl)];simp
          | false=>rw [this.2 rfl];rfl
        · cases h
      · cases h
    · cases h
  · cases h
theorem app_g (s:St) (dst:Option Tmp) (e:Eff) (hk:e.kill=[]):(s.app dst e).g=match dst with
    | some d=>upd s.g d e.val
    | none=>s.g:=by rw [app_none hk];rfl
theorem absG_sound (ok:CxOk2 P X) (hS:Sat W w0 n β s a w) (h:absG X ops s o=some e) (hp:e.pre) (hs:srcOk X o.op=true) (hdo:dstOk n o=true) (hn:newOk s e)
    (hK:∀ β' a' w',Sat W w0 n β' (s.app o.dst e) a' w'→K a' w'):if Region.wanted o (yielded ops.toArray a.tmps)=true then o.wp P a w K Q else K (a.put o.dst undef) w:=by
  unfold absG at h
  split at h
  · rename_i hgd
    rw [if_pos (by unfold Region.wanted;rw [hgd])]
    exact absR_sound ok hS h hp hs hdo hn hK
  · rename_i j want hgd
    split at h
    · rename_i gc e' hgc hr
      split at h
      · rename_i y h1 h2 h3 h4
        split at h
        · rename_i hc
          cases h
          obtain ⟨hcond,hrefs,hdst⟩:=hc
          obtain ⟨d,hdst⟩:=Option.isSome_iff_exists.1 hdst
          have hgt:=gcond_true hS hgc
          have hw:Region.wanted o (yielded ops.toArray a.tmps)=gc:=by unfold Region.wanted;rw [hgd];exact hgt
          rw [hw]
          have hd:d<n:=dst_lt hdo hdst
          have hyr:∀ b∈y.refs,s.T b≠none:=by
            intro b hb
            have h4':=List.all_eq_true.1 hrefs b hb
            rw [Bool.or_eq_true,List.any_eq_true,List.any_eq_true] at h4'
            rcases h4' with ⟨v,hv,hvb⟩|⟨c,hc,hcb⟩
            · rw [List.mem_map] at hv
              obtain ⟨x,hx,rfl⟩:=hv
              split at hvb
              · rename_i z hz
                exact (getv_good hS hz).2 b (List.contains_iff_mem.1 hvb)
              · cases hvb
            · rw [List.mem_map] at hc
              obtain ⟨p,hp,rfl⟩:=hc
              split at hcb
              · rename_i q hq
                exact hS.refm p.1 p.2 q hq b (List.contains_iff_mem.1 hcb)
              · cases hcb
          cases gc with
          | false =>
            rw [if_neg (by simp)]
            refine hK β _ _ ?_
            rw [hdst]
            have:=hS.put hd (v:=undef) (x:=some (.cond false y)) (fun z hz=>by
              cases hz
              exact ⟨⟨(fun h=>by cases h),fun _=>rfl⟩,hyr⟩)
            simpa [St.app,St.after,St.app0,St.wrs,lookN] using this
          | true =>
            rw [if_pos rfl]
            refine absR_sound ok hS hr (hp rfl) hs hdo (fun q hq=>by rw [h2] at hq;cases hq) (fun β' a' w' hS'=>hK β' a' w' ?_)
            rw [hdst] at hS' ⊢
            have ga:(s.app (some d) e').g=upd s.g d e'.val:=app_g _ _ _ h4
            have gb:∀ p:Prop,(s.app (some d) { pre:=p,val:=some (TV.cond true y),rd:=e'.rd }).g=upd s.g d (some (TV.cond true y)):=fun p=>app_g _ _ _ rfl
            have e1:(s.app (some d) e').m=(s.app (some d) { pre:=true=true→e'.pre,val:=some (TV.cond true y),rd:=e'.rd }).m:=by rw [app_none h4,app_none rfl];simp [St.app0,h1,h2,lookN]
            have e2:(s.app (some d) e').T=(s.app (some d) { pre:=true=true→e'.pre,val:=some (TV.cond true y),rd:=e'.rd }).T:=by rw [app_none h4,app_none rfl];simp [St.app0,h2]
            refine { tm:=fun t x hx=>?_,box:=fun b ty hT=>?_,has:=?_,refs:=fun t x hx=>?_,refm:=?_,disj:=?_,own:=?_,lt:=hS'.lt,below:=hS'.below,defers:=hS'.defers,size:=hS'.size }
            · have hx':=hx
              simp only [gb,upd] at hx
              by_cases ht:t=d
              · rw [if_pos ht] at hx
                cases hx
                refine ⟨fun _=>hS'.tm t y ?_,fun h=>by cases h⟩
                simp only [ga,upd]
                rw [if_pos ht,h3]
              · rw [if_neg ht] at hx
                refine hS'.tm t x ?_
                simp only [ga,upd]
                rw [if_neg ht];exact hx
            · rw [← e2] at hT
              rw [← e1]
              exact hS'.box b ty hT
            · rw [← e1,← e2];exact hS'.has
            · rw [← e2]
              simp only [gb,upd] at hx
              by_cases ht:t=d
              · rw [if_pos ht] at hx
                cases hx
                have:=hS'.refs t y (by simp only [ga,upd];rw [if_pos ht,h3])
                exact this
              · rw [if_neg ht] at hx
                exact hS'.refs t x (by simp only [ga,upd];rw [if_neg ht];exact hx)
            · rw [← e1,← e2];exact hS'.refm
            · rw [← e2];exact hS'.disj
            · rw [← e2];exact hS'.own
        · cases h
      · cases h
    · cases h
end
def wfind:List (Nat × Nat × A0)→Nat→Nat→Option A0
  | [],_,_=>none
  | (b',o',c)::r,b,off=>match wfind r b off with
    | some x=>some x
    | none=>if b=b'∧off=o' then some c else none
theorem wrs_find (b off:Nat):∀ (wr:List (Nat × Nat × A0)) (m:Nat→Nat→Option A0),St.wrs m wr b off=match wfind wr b off with
    | some x=>some x
    | none=>m b off
  | [],m=>rfl
  | (b',o',c)::r,m=>by
    rw [St.wrs,wrs_find b off r,wfind]
    cases hf:wfind r b off with
    | some x=>rfl
    | none =>
      simp only [upd2]
      by_cases h:b=b'∧off=o'
      · rw [if_pos h,if_pos h]
      · rw [if_neg h,if_neg h]
theorem wfind_none {b off:Nat}:∀ {wr:List (Nat × Nat × A0)},(∀ p∈wr,(p.1,p.2.1)≠(b,off))→wfind wr b off=none
  | [],_=>rfl
  | (b',o',c)::r,h=>by
    rw [wfind,wfind_none (fun p hp=>h p (List.mem_cons_of_mem _ hp))]
    have:=h (b',o',c) (by simp)
    simp only
    rw [if_neg (by rintro ⟨rfl,rfl⟩;exact this rfl)]
theorem wfind_some {b off:Nat} {x:A0}:∀ {wr:List (Nat × Nat × A0)},wfind wr b off=some x→∃ p∈wr,(p.1,p.2.1)=(b,off)
  | [],h=>by cases h
  | (b',o',c)::r,h=>by
    rw [wfind] at h
    split at h
    · rename_i y hy
      obtain ⟨p,hp,he⟩:=wfind_some hy
      exact ⟨p,List.mem_cons_of_mem _ hp,he⟩
    · split at h
      · rename_i hc;exact ⟨_,List.mem_cons_self,by rw [hc.1,hc.2]⟩
      · cases h
theorem app_m (s:St) (dst:Option Tmp) (e:Eff) (b off:Nat) (hk:e.kill=[]):(s.app dst e).m b off=match lookN e.new b with
    | some q=>q.2[off]?
    | none=>match wfind e.wr b off with
      | some x=>some x
      | none=>s.m b off:=by
  rw [app_none hk]
  unfold St.app0
  cases hn:lookN e.new b with
  | none=>simp only [hn];exact wrs_find b off e.wr s.m
  | some q=>simp only [hn]
theorem app_T (s:St) (dst:Option Tmp) (e:Eff) (b:Nat) (hk:e.kill=[]):(s.app dst e).T b=match lookN e.new b with
    | some q=>some q.1
    | none=>s.T b:=by
  rw [app_none hk];rfl
theorem lookN_in {l:List (Nat × TypeId × List A0)} {b:Nat} {q:TypeId × List A0} (h:lookN l b=some q):∃ p∈l,p.1=b:=by
  induction l with
  | nil=>cases h
  | cons p r ih =>
    obtain ⟨i,x⟩:=p
    unfold lookN at h
    split at h
    · rename_i e;exact ⟨_,List.mem_cons_self,e.symm⟩
    · obtain ⟨p,hp,e⟩:=ih h
      exact ⟨p,List.mem_cons_of_mem _ hp,e⟩
def touch (e:Eff):List (Nat × Nat):=e.rd++e.wr.map fun p=>(p.1,p.2.1)
def looks (ops:List Oper) (o:Oper):List Tmp:=opTmps o++guardTmps ops o
def leaves0 (ops:List Oper) (o:Oper) (e:Eff) (o':Oper) (e':Eff):Bool :=
  (match o.dst with
    | some d=>!(looks ops o').contains d&&(match o'.dst with|some d'=>d != d'|none=>true)
    | none=>true) &&
  (e.wr.all fun p=>!(touch e').contains (p.1,p.2.1)) &&
  e.new.all fun q=>(touch e').all (fun p=>p.1 != q.1)&&e'.new.all (fun q'=>q.1 != q'.1)
def leaves (ops:List Oper) (o:Oper) (e:Eff) (o':Oper) (e':Eff):Bool:=leaves0 ops o e o' e'&&(e.kill.isEmpty&&e'.kill.isEmpty)
theorem leaves_0 {ops:List Oper} {o o':Oper} {e e':Eff} (h:leaves ops o e o' e'=true):leaves0 ops o e o' e'=true∧e.kill=[]∧e'.kill=[]:=by
  unfold leaves at h
  simp only [Bool.and_eq_true,List.isEmpty_iff] at h
  exact h
theorem leaves_g {ops:List Oper} {o o':Oper} {e e':Eff} {s:St} (h:leaves ops o e o' e'=true) {t:Tmp} (ht:t∈looks ops o'):(s.app o.dst e).g t=s.g t:=by
  obtain ⟨h,hk,hk'⟩:=leaves_0 h
  rw [app_g _ _ _ hk]
  unfold leaves0 at h
  cases hd:o.dst with
  | none=>rfl
  | some d =>
    rw [hd] at h
    simp only [Bool.and_eq_true,Bool.not_eq_true',List.contains_eq_mem,decide_eq_false_iff_not] at h
    simp only [upd]
    rw [if_neg]
    rintro rfl
    exact h.1.1.1 ht
theorem leaves_n {ops:List Oper} {o o':Oper} {e e':Eff} (h:leaves0 ops o e o' e'=true) {b:Nat} {q:TypeId × List A0} (hl:lookN e.new b=some q):(∀ p∈touch e',p.1≠b)∧∀ q'∈e'.new,b≠q'.1:=by
  unfold leaves0 at h
  rw [Bool.and_eq_true] at h
  obtain ⟨p,hp,rfl⟩:=lookN_in hl
  have:=List.all_eq_true.1 h.2 p hp
  rw [Bool.and_eq_true] at this
  exact ⟨fun p' hp'=>by simpa using List.all_eq_true.1 this.1 p' hp',fun q' hq'=>by simpa using List.all_eq_true.1 this.2 q' hq'⟩
theorem leaves_w {ops:List Oper} {o o':Oper} {e e':Eff} (h:leaves0 ops o e o' e'=true):∀ p∈e.wr,(touch e').contains (p.1,p.2.1)=false:=by
  unfold leaves0 at h
  simp only [Bool.and_eq_true] at h
  intro p hp
  simpa using List.all_eq_true.1 h.1.2 p hp
theorem leaves_m {ops:List Oper} {o o':Oper} {e e':Eff} {s:St} (h:leaves ops o e o' e'=true) {b off:Nat} (ht:(b,off)∈touch e'):(s.app o.dst e).m b off=s.m b off:=by
  obtain ⟨h,hk,hk'⟩:=leaves_0 h
  rw [app_m _ _ _ _ _ hk]
  have h1:lookN e.new b=none:=by
    cases hn:lookN e.new b with
    | none=>rfl
    | some q=>exact absurd rfl ((leaves_n h hn).1 _ ht)
  have h2:wfind e.wr b off=none:=wfind_none (fun p hp he=>by
    have:=leaves_w h p hp
    rw [he] at this
    rw [List.contains_iff_mem.2 ht] at this
    cases this)
  rw [h1,h2]
theorem leaves_congr {X:Cx} {ops:List Oper} {o o':Oper} {e e':Eff} {s:St} (h:leaves ops o e o' e'=true):(absG X ops s o'=some e'→absG X ops (s.app o.dst e) o'=some e')∧(absG X ops (s.app o.dst e) o'=some e'→absG X ops s o'=some e'):=by
  have hg:∀ t∈looks ops o',(s.app o.dst e).g t=s.g t:=fun t ht=>leaves_g h ht
  have hm:∀ p∈e'.rd,(s.app o.dst e).m p.1 p.2=s.m p.1 p.2:=fun p hp=>leaves_m h (by unfold touch;exact List.mem_append_left _ hp)
  constructor
  · intro h1
    exact absG_congr h1 (fun t ht=>hg t (List.mem_append_left _ ht)) (fun t ht=>hg t (List.mem_append_right _ ht)) hm
  · intro h1
    exact absG_congr h1 (fun t ht=>(hg t (List.mem_append_left _ ht)).symm) (fun t ht=>(hg t (List.mem_append_right _ ht)).symm) (fun p hp=>(hm p hp).symm)
theorem app_comm {ops:List Oper} {o o':Oper} {e e':Eff} (s:St) (h:leaves ops o e o' e'=true) (h':leaves ops o' e' o e=true):(s.app o.dst e).app o'.dst e'=(s.app o'.dst e').app o.dst e:=by
  obtain ⟨h,hk,hk'⟩:=leaves_0 h
  obtain ⟨h',_,_⟩:=leaves_0 h'
  have hdd:∀ d d',o.dst=some d→o'.dst=some d'→d≠d':=by
    intro d d' h1 h2
    unfold leaves0 at h
    rw [h1,h2] at h
    simp only [Bool.and_eq_true,bne_iff_ne] at h
    exact h.1.1.2
  have e1 : ((s.app o.dst e).app o'.dst e').g = ((s.app o'.dst e').app o.dst e).g := by
    funext t
    rw [app_g _ _ _ hk',app_g _ _ _ hk,app_g _ _ _ hk,app_g _ _ _ hk']
    cases h1:o.dst with
    | none=>rfl
    | some d =>
      cases h2:o'.dst with
      | none=>rfl
      | some d' =>
        have:=hdd d d' h1 h2
        simp only [upd]
        by_cases ht:t=d
        · by_cases ht':t=d'
          · exact absurd (ht.symm.trans ht') this
          · simp [ht,this]
        · simp [ht]
  have sep:∀ {o o':Oper} {e e':Eff} {b:Nat},leaves0 ops o e o' e'=true→∀ q,lookN e.new b=some q→lookN e'.new b=none∧∀ off,wfind e'.wr b off=none:=by
    intro o o' e e' b h q hn
    obtain ⟨h1,h2⟩:=leaves_n h hn
    refine ⟨?_,fun off=>wfind_none (fun p hp he=>?_)⟩
    · cases hn':lookN e'.new b with
      | none=>rfl
      | some q' =>
        obtain ⟨p,hp,e⟩:=lookN_in hn'
        exact absurd e.symm (h2 p hp)
    · have:=h1 (p.1,p.2.1) (by unfold touch;exact List.mem_append_right _ (List.mem_map.2 ⟨p,hp,rfl⟩))
      rw [he] at this
      exact this rfl
  have e2:((s.app o.dst e).app o'.dst e').T=((s.app o'.dst e').app o.dst e).T:=by
    funext t
    rw [app_T _ _ _ _ hk',app_T _ _ _ _ hk,app_T _ _ _ _ hk,app_T _ _ _ _ hk']
    cases hn:lookN e.new t with
    | some q=>rw [(sep h q hn).1]
    | none=>rfl
  have e3 : ((s.app o.dst e).app o'.dst e').m = ((s.app o'.dst e').app o.dst e).m := by
    funext b off
    rw [app_m _ _ _ _ _ hk',app_m _ _ _ _ _ hk,app_m _ _ _ _ _ hk,app_m _ _ _ _ _ hk']
    cases hn:lookN e.new b with
    | some cs =>
      obtain ⟨k1,k2⟩:=sep h cs hn
      rw [k1,k2]
    | none =>
      cases hn':lookN e'.new b with
      | some cs =>
        obtain ⟨k1,k2⟩:=sep h' cs hn'
        simp only
        rw [k2]
      | none =>
        simp only
        cases hf:wfind e.wr b off with
        | none=>cases hf':wfind e'.wr b off<;>rfl
        | some x =>
          have:wfind e'.wr b off=none:=wfind_none (fun p hp he=>by
            obtain ⟨p',hp',he'⟩:=wfind_some hf
            have:=leaves_w h p' hp'
            rw [he',← he,List.contains_iff_mem.2 (by unfold touch;exact List.mem_append_right _ (List.mem_map.2 ⟨p,hp,rfl⟩))] at this
            cases this)
          rw [this]
  cases h5:(s.app o.dst e).app o'.dst e'
  cases h6:(s.app o'.dst e').app o.dst e
  rw [h5,h6] at e1 e2 e3
  simp only at e1 e2 e3
  rw [e1,e2,e3]
theorem newOk_app {ops:List Oper} {s:St} {o o':Oper} {e e':Eff} (h:leaves ops o e o' e'=true):newOk (s.app o.dst e) e'↔newOk s e':=by
  obtain ⟨h,hk,hk'⟩:=leaves_0 h
  have hT:∀ p∈e'.new,(s.app o.dst e).T p.1=s.T p.1:=by
    intro p hp
    rw [app_T _ _ _ _ hk]
    cases hn:lookN e.new p.1 with
    | none=>rfl
    | some q=>exact absurd rfl ((leaves_n h hn).2 p hp)
  unfold newOk
  rw [after_none hk',after_none hk']
  constructor
  · intro h q hq
    rw [← hT q hq];exact h q hq
  · intro h q hq
    rw [hT q hq];exact h q hq
inductive Runs (X:Cx) (ops:List Oper) (E:Nat→Eff):List Nat→St→St→Prop where
  | nil (s:St):Runs X ops E [] s s
  | cons {i:Nat} {l:List Nat} {s s':St} (o:Oper):ops[i]?=some o→absG X ops s o=some (E i)→newOk s (E i)→Runs X ops E l (s.app o.dst (E i)) s'→Runs X ops E (i::l) s s'
def apartAt (ops:List Oper) (E:Nat→Eff) (i j:Nat):Bool :=
  match ops[i]?,ops[j]? with
  | some o,some o'=>leaves ops o (E i) o' (E j)&&leaves ops o' (E j) o (E i)
  | _,_=>false
theorem Runs.swap {X:Cx} {ops:List Oper} {E:Nat→Eff} {i j:Nat} {l:List Nat} {s s':St} (h:Runs X ops E (i::j::l) s s') (hij:apartAt ops E i j=true):Runs X ops E (j::i::l) s s':=by
  cases h with
  | cons o ho h1 h2 h3 =>
    cases h3 with
    | cons o' ho' h1' h2' h3' =>
      unfold apartAt at hij
      rw [ho,ho'] at hij
      simp only [Bool.and_eq_true] at hij
      refine .cons o' ho' ((leaves_congr hij.1).2 h1') ((newOk_app hij.1).1 h2') (.cons o ho ((leaves_congr hij.2).1 h1) ((newOk_app hij.2).2 h2) ?_)
      rw [← app_comm s hij.1 hij.2]
      exact h3'
theorem Runs.front {X:Cx} {ops:List Oper} {E:Nat→Eff} {i:Nat} {l2:List Nat} {s':St}:∀ {l1:List Nat} {s:St},Runs X ops E (l1++i::l2) s s'→(∀ j∈l1,apartAt ops E j i=true)→Runs X ops E (i::(l1++l2)) s s'
  | [],s,h,_=>h
  | j :: l1, s, h, ha => by
    cases h with
    | cons o ho h1 h2 h3 =>
      exact Runs.swap (.cons o ho h1 h2 (Runs.front h3 (fun k hk=>ha k (List.mem_cons_of_mem _ hk)))) (ha j (by simp))
def edges (o:Oper):List Nat:=(o.after.toList.filter (Region.binds .any)).map (·.on)
def edgesAt (ops:List Oper) (k:Nat):List Nat :=
  match ops[k]? with
  | some o=>edges o
  | none=>[]
def ancOk (ops:List Oper) (A:List Nat):Bool:=(List.range ops.length).all fun k=>(edgesAt ops k).all (fun e=>decide (e<k))&&(List.range k).all fun j=>!(A.getD k 0).testBit j||(edgesAt ops k).any fun e=>j == e||(decide (j<e)&&(A.getD e 0).testBit j)
def pairsOk (ops:List Oper) (E:Nat→Eff) (A:List Nat):Bool:=(List.range ops.length).all fun k=>(List.range k).all fun j=>(A.getD k 0).testBit j||apartAt ops E j k
def ancs (ops:List Oper):List Nat:=ops.foldl (fun A o=>A++[(edges o).foldl (fun m e=>m ||| (1 <<< e) ||| A.getD e 0) 0]) []
theorem getD_setIf {l:Array Bool} {i j:Nat} {d:Bool} (hi:i<l.size):(l.setIfInBounds i true).getD j d=if j=i then true else l.getD j d:=by
  rw [Array.getD_eq_getD_getElem?,Array.getD_eq_getD_getElem?]
  by_cases h:j=i
  · subst h;simp [hi]
  · rw [Array.getElem?_setIfInBounds_ne (by omega),if_neg h]
theorem filter_split {p:Nat→Bool} {i n:Nat} (hi:i<n) (hp:p i=true):∃ l1 l2,(List.range n).filter p=l1++i::l2∧(∀ j∈l1,j<i∧p j=true)∧(List.range n).filter (fun j=>p j&&j != i)=l1++l2:=by
  have e:List.range n=List.range i++i::(List.range' (i+1) (n-(i+1))):=by
    rw [List.range_eq_range',List.range_eq_range',show i::List.range' (i+1) (n-(i+1))=List.range' i (n-i) by
      rw [show n-i=(n-(i+1))+1 by omega,List.range'_succ]]
    rw [show List.range' i (n-i)=List.range' (0+1*i) (n-i) by simp,List.range'_append]
    congr 1;omega
  refine ⟨(List.range i).filter p,(List.range' (i+1) (n-(i+1))).filter p,?_,fun j hj=>?_,?_⟩
  · rw [e,List.filter_append,List.filter_cons,if_pos hp]
  · rw [List.mem_filter,List.mem_range] at hj;exact hj
  · rw [e,List.filter_append,List.filter_cons,if_neg (by simp)]
    congr 1
    · refine List.filter_congr (fun j hj=>?_)
      rw [List.mem_range] at hj
      have:(j != i)=true:=by simp;omega
      rw [this,Bool.and_true]
    · refine List.filter_congr (fun j hj=>?_)
      rw [List.mem_range'_1] at hj
      have:(j != i)=true:=by simp;omega
      rw [this,Bool.and_true]
section
variable {P:Program} {X:Cx} {W:Nat→Prop} {w0:World} {n:Nat} {s s':St} {a:Act} {w:World} {Q:Exit→Act→World→Prop} {ops:List Oper} {E:Nat→Eff} {A:List Nat}
def statOk (X:Cx) (n:Nat) (ops:List Oper):Bool:=ops.all fun o=>srcOk X o.op&&dstOk n o
theorem wpOp_sound (ok:CxOk2 P X) (hst:statOk X n ops=true) {i:Nat} {o:Oper} (ho:ops[i]?=some o) (hS:SatE W w0 n s a w) (h:absG X ops s o=some (E i)) (hn:newOk s (E i)) (hp:(E i).pre) {K:Act→World→Prop}
    (hK:∀ a' w',SatE W w0 n (s.app o.dst (E i)) a' w'→K a' w'):wpOp P ops.toArray Q i K a w:=by
  obtain ⟨β,hS⟩:=hS
  unfold wpOp
  have ho':ops.toArray[i]?=some o:=by simpa using ho
  rw [ho']
  simp only
  have hs:=List.all_eq_true.1 hst o (List.mem_of_getElem? ho)
  rw [Bool.and_eq_true] at hs
  have:=absG_sound (Q:=Q) ok hS h hp hs.1 hs.2 hn (fun β' a' w' h=>hK a' w' ⟨β',h⟩)
  split at this
  · rename_i hw;rw [if_pos hw];exact .inl this
  · rename_i hw;rw [if_neg hw];exact this
theorem seq_sound (ok:CxOk2 P X) (hst:statOk X n ops=true):∀ {l:List Nat} {s:St} {a:Act} {w:World},Runs X ops E l s s'→(∀ i∈l,(E i).pre)→SatE W w0 n s a w→(∀ a w,SatE W w0 n s' a w→Q .normal a w)→wpOps P ops.toArray Q l a w
  | [],s,a,w,h,_,hS,hQ=>by
    cases h
    exact hQ a w hS
  | i :: l, s, a, w, h, hp, hS, hQ => by
    cases h with
    | cons o ho h1 h2 h3 =>
      rw [wpOps_cons]
      exact wpOp_sound ok hst ho hS h1 h2 (hp i (by simp)) (fun a' w' hS'=>seq_sound ok hst h3 (fun j hj=>hp j (List.mem_cons_of_mem _ hj)) hS' hQ)
theorem any_sound (ok:CxOk2 P X) (hst:statOk X n ops=true) (hA:ancOk ops A=true) (hpr:pairsOk ops E A=true):∀ (fuel:Nat) (listed:Array Bool) (s:St) (a:Act) (w:World),listed.size=ops.length →
    ((List.range ops.length).filter fun i=>!listed.getD i true).length=fuel→(∀ k,k<ops.length→listed.getD k true=true→∀ e∈edgesAt ops k,listed.getD e false=true) →
    Runs X ops E ((List.range ops.length).filter fun i=>!listed.getD i true) s s'→(∀ i,i<ops.length→(E i).pre)→SatE W w0 n s a w→(∀ a w,SatE W w0 n s' a w→Q .normal a w)→wpAny P .any ops.toArray Q fuel listed a w:=by
  have anc:∀ (listed:Array Bool),(∀ k,k<ops.length→listed.getD k true=true→∀ e∈edgesAt ops k,listed.getD e false=true)→listed.size=ops.length→∀ k,k<ops.length→(∀ e∈edgesAt ops k,listed.getD e false=true)→∀ j,j<k→(A.getD k 0).testBit j=true→listed.getD j true=true:=by
    intro listed hcl hsz k
    induction k using Nat.strongRecOn with
    | _ k ih =>
      intro hk he j hj hb
      have h1:=List.all_eq_true.1 hA k (List.mem_range.2 hk)
      rw [Bool.and_eq_true] at h1
      have h2:=List.all_eq_true.1 h1.2 j (List.mem_range.2 hj)
      rw [hb] at h2
      simp only [Bool.not_true,Bool.false_or,List.any_eq_true,Bool.or_eq_true,beq_iff_eq,Bool.and_eq_true,decide_eq_true_eq] at h2
      obtain ⟨e,hem,h3⟩:=h2
      have hek:e<k:=of_decide_eq_true (List.all_eq_true.1 h1.1 e hem)
      have hel:listed.getD e true=true:=by
        have:=he e hem
        rw [Array.getD_eq_getD_getElem?] at this ⊢
        rw [Array.getElem?_eq_getElem (by omega)] at this ⊢
        exact this
      rcases h3 with rfl|h3
      · exact hel
      · exact ih e hek (by omega) (hcl e (by omega) hel) j h3.1 h3.2
  intro fuel
  induction fuel with
  | zero =>
    intro listed s a w hsz hl hcl hr hp hS hQ
    have hnil:=List.length_eq_zero_iff.1 hl
    rw [hnil] at hr
    cases hr
    refine ⟨?_,hQ a w hS⟩
    unfold Region.ready
    rw [List.filter_eq_nil_iff]
    intro i hi hc
    rw [Bool.and_eq_true] at hc
    have:i∈(List.range ops.length).filter fun i=>!listed.getD i true:=List.mem_filter.2 ⟨by simpa using hi,hc.1⟩
    rw [hnil] at this
    cases this
  | succ fuel ih =>
    intro listed s a w hsz hl hcl hr hp hS hQ
    have hready:∀ i,i∈Region.ready .any ops.toArray listed↔i<ops.length∧listed.getD i true=false∧∀ e∈edgesAt ops i,listed.getD e false=true:=by
      intro i
      unfold Region.ready
      rw [List.mem_filter,List.mem_range,List.size_toArray,Bool.and_eq_true,Bool.not_eq_true']
      constructor
      · rintro ⟨h1,h2,h3⟩
        refine ⟨h1,h2,fun e he=>?_⟩
        unfold edgesAt at he
        rw [List.getElem?_eq_getElem h1] at he
        rw [List.getElem?_toArray,List.getElem?_eq_getElem h1] at h3
        simp only [Option.map_some,Option.getD_some,Array.all_eq_true_iff_forall_mem] at h3
        simp only [edges,List.mem_map,List.mem_filter] at he
        obtain ⟨ed,⟨hm,hb⟩,rfl⟩:=he
        have:=h3 ed (by simpa using hm)
        rw [hb] at this
        simpa using this
      · rintro ⟨h1,h2,h3⟩
        refine ⟨h1,h2,?_⟩
        rw [List.getElem?_toArray,List.getElem?_eq_getElem h1]
        simp only [Option.map_some,Option.getD_some,Array.all_eq_true_iff_forall_mem]
        intro ed hm
        cases hb:Region.binds .any ed with
        | false=>simp
        | true =>
          simp only [Bool.not_true,Bool.false_or]
          refine h3 ed.on ?_
          unfold edgesAt
          rw [List.getElem?_eq_getElem h1]
          simp only [edges,List.mem_map,List.mem_filter]
          exact ⟨ed,⟨by simpa using hm,hb⟩,rfl⟩
    refine ⟨fun hnone=>?_,fun i hi=>?_⟩
    · exfalso
      have hne:(List.range ops.length).filter (fun i=>!listed.getD i true)≠[]:=by
        intro h;rw [h] at hl;cases hl
      -- the least that is not listed may come up
      have:∃ i,i<ops.length∧listed.getD i true=false∧∀ j,j<i→listed.getD j true=true:=by
        obtain ⟨x,hx⟩:=List.exists_mem_of_ne_nil _ hne
        rw [List.mem_filter,List.mem_range,Bool.not_eq_true'] at hx
        clear hne hready hnone
        induction x using Nat.strongRecOn with
        | _ x ihx =>
          by_cases hc:∃ j,j<x∧listed.getD j true=false
          · obtain ⟨j,hj,hjl⟩:=hc
            exact ihx j hj ⟨by omega,hjl⟩
          · refine ⟨x,hx.1,hx.2,fun j hj=>?_⟩
            cases hjl:listed.getD j true with
            | true=>rfl
            | false=>exact absurd ⟨j,hj,hjl⟩ hc
      obtain ⟨i,hi1,hi2,hi3⟩:=this
      have hmem:i∈Region.ready .any ops.toArray listed:=(hready i).2 ⟨hi1,hi2,fun e he=>by
        have h1:=List.all_eq_true.1 hA i (List.mem_range.2 hi1)
        rw [Bool.and_eq_true] at h1
        have hek:e<i:=of_decide_eq_true (List.all_eq_true.1 h1.1 e he)
        have:=hi3 e hek
        rw [Array.getD_eq_getD_getElem?] at this ⊢
        rw [Array.getElem?_eq_getElem (by omega)] at this ⊢
        exact this⟩
      rw [hnone] at hmem
      cases hmem
    · obtain ⟨hi1,hi2,hi3⟩:=(hready i).1 hi
      obtain ⟨l1,l2,e1,e2,e3⟩:=filter_split (p:=fun i=>!listed.getD i true) hi1 (by simp [hi2])
      rw [e1] at hr
      have hfront:=Runs.front hr (fun j hj=>by
        obtain ⟨hji,hjp⟩:=e2 j hj
        have h1:=List.all_eq_true.1 hpr i (List.mem_range.2 hi1)
        have h2:=List.all_eq_true.1 h1 j (List.mem_range.2 hji)
        rw [Bool.or_eq_true] at h2
        rcases h2 with h2|h2
        · have:=anc listed hcl hsz i hi1 hi3 j hji h2
          rw [this] at hjp
          cases hjp
        · exact h2)
      cases hfront with
      | cons o ho h1 h2 h3 =>
        have hset:∀ j,(!(listed.setIfInBounds i true).getD j true)=((!listed.getD j true)&&j != i):=by
          intro j
          rw [getD_setIf (by omega)]
          by_cases hji:j=i
          · simp [hji]
          · rw [if_neg hji];simp [hji]
        refine wpOp_sound ok hst ho hS h1 h2 (hp i hi1) (fun a' w' hS'=>ih _ (s.app o.dst (E i)) a' w' (by simp [hsz]) ?_ ?_ ?_ hp hS' hQ)
        · simp only [hset]
          rw [e3]
          rw [e1] at hl
          simp only [List.length_append,List.length_cons] at hl ⊢
          omega
        · intro k hk hkl e he
          rw [getD_setIf (by omega)] at hkl ⊢
          by_cases hei:e=i
          · rw [if_pos hei]
          · rw [if_neg hei]
            by_cases hki:k=i
            · subst hki;exact hi3 e he
            · rw [if_neg hki] at hkl
              exact hcl k hk hkl e he
        · simp only [hset]
          rw [e3]
          exact h3
end
def Eff.nil:Eff:={ pre:=True }
def newB (s:St) (e:Eff):Bool:=e.new.all fun p=>((s.after e).T p.1).isNone
def effs (X:Cx) (ops:List Oper):List Oper→St→Option (List Eff × St)
  | [],s=>some ([],s)
  | o :: r, s => match absG X ops s o with
    | some e=>match newB s e,effs X ops r (s.app o.dst e) with
      | true,some (es,s')=>some (e::es,s')
      | _,_=>none
    | none=>none
def pres:List Eff→Prop
  | []=>True
  | e::r=>e.pre∧pres r
def regChk (X:Cx) (n:Nat) (ops:List Oper) (draw:Bool) (es:List Eff):Bool :=
  statOk X n ops&&(!draw||(ancOk ops (ancs ops)&&pairsOk ops (fun i=>es.getD i Eff.nil) (ancs ops)))
theorem newB_ok {s:St} {e:Eff} (h:newB s e=true):newOk s e:=fun p hp=>by
  have:=List.all_eq_true.1 h p hp
  simpa using this
theorem effs_runs {X:Cx} {ops:List Oper}:∀ {r:List Oper} {s s':St} {es:List Eff} {k:Nat} {E:Nat→Eff},effs X ops r s=some (es,s')→(∀ i o,r[i]?=some o→ops[k+i]?=some o)→(∀ i e,es[i]?=some e→E (k+i)=e) →
    Runs X ops E (List.range' k r.length) s s'∧es.length=r.length
  | [],s,s',es,k,E,h,_,_=>by cases h;exact ⟨.nil s,rfl⟩
  | o :: r, s, s', es, k, E, h, ho, hE => by
    rw [effs] at h
    split at h
    · rename_i e he
      split at h
      · rename_i es' s'' hn hr
        cases h
        obtain ⟨h1,h2⟩:=effs_runs (k:=k+1) (E:=E) hr (fun i o' hi=>by rw [show k+1+i=k+(i+1) by omega];exact ho (i+1) o' (by simpa using hi)) (fun i e' hi=>by rw [show k+1+i=k+(i+1) by omega];exact hE (i+1) e' (by simpa using hi))
        have e0:E k=e:=hE 0 e rfl
        have h0:ops[k]?=some o:=ho 0 o rfl
        rw [List.length_cons,List.range'_succ]
        refine ⟨.cons o h0 (by rw [e0];exact he) (by rw [e0];exact newB_ok hn) (by rw [e0];exact h1),by simp [h2]⟩
      · cases h
    · cases h
theorem pres_get:∀ {es:List Eff},pres es→∀ i,(es.getD i Eff.nil).pre
  | [],_,i=>by simp [Eff.nil]
  | e::r,h,i=>by
    cases i with
    | zero=>exact h.1
    | succ i=>simpa using pres_get h.2 i
end Go.Proofs.YtcgknibjbnijmaaW.Sy
end
section
set_option linter.unusedVariables false
set_option linter.unusedSimpArgs false
namespace Go.Proofs.YtcgknibjbnijmaaW.Sy
open Go RowKit YtcgknibjbnijmaaW.PrintWords YtcgknibjbnijmaaW.PrintMore YtcgknibjbnijmaaW.Aid YtcgknibjbnijmaaW.Big
def resPart (X:Cx) (s:St):ResultVar→Option (Bool × List A0)
  | .tmp t=>match s.g t with
    | some (.sc c)=>some (false,[c])
    | some (.agg cs)=>some (true,cs)
    | _=>none
  | .cell t ty=>match s.g t with
    | some (.ptr b off)=>match allSome ((span b off (X.ti ty).size).map fun p=>s.m p.1 p.2),(X.ti ty).agg with
      | some (c::l),true=>if (c::l).all A0.noObs=true then some (true,c::l) else none
      | some [c],false=>if c.noObs=true then some (false,[c]) else none
      | _,_=>none
    | _=>none
def resParts (X:Cx) (s:St):List ResultVar→Option (List (Bool × List A0))
  | []=>some []
  | r::l=>match resPart X s r,resParts X s l with
    | some p,some q=>some (p::q)
    | _,_=>none
def toRC (s:St):A0→Option RC
  | .ref b=>match s.m b 0 with
    | some (.obs x)=>some (.o x)
    | _=>none
  | c=>if c.free=true then some (.t c) else none
def toRCs (s:St):List A0→Option (List RC)
  | []=>some []
  | c::l=>match toRC s c,toRCs s l with
    | some x,some r=>some (x::r)
    | _,_=>none
def toRCp (s:St):List (Bool × List A0)→Option (List (Bool × List RC))
  | []=>some []
  | (b,c)::l=>match toRCs s c,toRCp s l with
    | some x,some r=>some ((b,x)::r)
    | _,_=>none
def flatA (ps:List (Bool × List A0)):List A0:=ps.flatMap (·.2)
def crOf (s:St) (tup:Bool) (ps:List (Bool × List A0)):Option CR :=
  match (flatA ps).flatMap A0.refs with
  | []=>if (ps.all fun p=>p.2.all A0.free)=true then (match tup,ps with
    | true,ps=>some (.tv (.tup ps))
    | false,[p]=>match ofPart p with
      | some x=>some (.tv x)
      | none=>none
    | false,_=>none) else none
  | r => match decide r.Nodup, toRCp s ps with
    | true,some l=>match tup,l with
      | true,l=>some (.parts true l)
      | false,[p]=>some (.parts false [p])
      | false,_=>none
    | _,_=>none
def resCR (X:Cx) (rs:List ResultVar) (s:St):Option CR :=
  match rs with
  | [r] => match resPart X s r with
    | some p=>crOf s false [p]
    | none => match r with
      | .tmp t=>match s.g t with
        | some (.own b 0 k sz)=>match s.T b,allSome ((span b 0 (k*sz)).map fun p=>s.m p.1 p.2) with
          | some ty,some l=>if l.all A0.free=true∧ty≠obT then some (.new ty k sz l) else none
          | _,_=>none
        | some (.ptr b 0)=>match s.T b with
          | some ty=>match allSome ((span b 0 (X.ti ty).size).map fun p=>s.m p.1 p.2) with
            | some l=>match decide ((l.flatMap A0.refs).Nodup∧ty≠obT∧l.all A0.noObs=true),toRCs s l with
              | true,some l'=>some (.newp ty l')
              | _,_=>none
            | none=>none
          | none=>none
        | _=>none
      | _=>none
  | rs=>match resParts X s rs with
    | some ps=>crOf s true ps
    | none=>none
section
variable {P:Program} {X:Cx} {W:Nat→Prop} {w0:World} {n:Nat} {β:Pl} {s s':St} {a:Act} {w:World}
def boolOf:Option TV→Option Bool
  | some (.sc c)=>match c.val? with
    | some (.bool b)=>some b
    | _=>none
  | _=>none
def vc (X:Cx) (n:Nat):Nat→Code→(St→Prop)→(Nat→St→Prop)→(St→Prop)→St→Prop
  | 0,_,_,_,_,_=>False
  | f+1,.skip,kn,_,_,s=>kn s
  | f+1,.seq x y,kn,ke,kr,s=>vc X n f x (vc X n f y kn ke kr) ke kr s
  | f+1,.region _ ops draw,kn,_,_,s=>match effs X ops.toList ops.toList s with
    | some (es,s')=>regChk X n ops.toList draw es=true∧pres es∧kn s'
    | none=>False
  | f+1,.cond c x y,kn,ke,kr,s=>match boolOf (getv s.g c) with
    | some b=>(b=true→vc X n f x kn ke kr s)∧(b=false→vc X n f y kn ke kr s)
    | none=>False
  | f+1,.block id c,kn,ke,kr,s=>vc X n f c kn (fun id' s=>if id'=id then kn s else ke id' s) kr s
  | f+1,.loop c,kn,ke,kr,s=>vc X n f c (vc X n f (.loop c) kn ke kr) ke kr s
  | f+1,.exit id,_,ke,_,s=>ke id s
  | f+1,.ret,_,_,kr,s=>kr s
  | _+1,_,_,_,_,_=>False
section
variable {P:Program} {X:Cx} {W:Nat→Prop} {w0:World} {n:Nat} {s s':St} {a:Act} {w:World} {Q:Exit→Act→World→Prop}
theorem region_sound (ok:CxOk2 P X) (hmo:P.follows .mixedOrders=true) {id:Nat} {ops:Array Oper} {draw:Bool} {es:List Eff} (heff:effs X ops.toList ops.toList s=some (es,s')) (hc:regChk X n ops.toList draw es=true) (hp:pres es) (hS:SatE W w0 n s a w)
    (hQ:∀ a w,SatE W w0 n s' a w→Q .normal a w):(Code.region id ops draw).wp P Q a w:=by
  obtain ⟨hr,hlen⟩:=effs_runs (k:=0) (E:=fun i=>es.getD i Eff.nil) heff (fun i o h=>by simpa using h) (fun i e h=>by simp [List.getD_eq_getElem?_getD,h])
  unfold regChk at hc
  rw [Bool.and_eq_true] at hc
  cases draw with
  | false =>
    refine wp_region ?_
    have:=seq_sound (Q:=Q) ok hc.1 (l:=List.range ops.size) (by rw [List.range_eq_range',← Array.length_toList];exact hr) (fun i _=>pres_get hp i) hS hQ
    simpa using this
  | true =>
    have hc2:=hc.2
    simp only [Bool.not_true,Bool.false_or,Bool.and_eq_true] at hc2
    refine wp_region_any hmo ?_
    have hall:(List.range ops.toList.length).filter (fun i=>!(Array.replicate ops.size false).getD i true)=List.range' 0 ops.toList.length:=by
      rw [List.filter_eq_self.2,List.range_eq_range']
      intro i hi
      rw [List.mem_range] at hi
      simp at hi
      rw [Array.getD_eq_getD_getElem?]
      simp [hi]
    have hS':SatE W w0 n s a { w with drawn:=w.drawn+1 }:=by
      obtain ⟨β,hS⟩:=hS
      exact ⟨β,hS.grow (below_drew (Below.refl _ w))⟩
    have:=any_sound (Q:=Q) (s':=s') (E:=fun i=>es.getD i Eff.nil) ok hc.1 hc2.1 hc2.2 ops.size (Array.replicate ops.size false) s a { w with drawn:=w.drawn+1 } (by simp) (by rw [hall];simp) (fun k hk hkl=>by
      exfalso
      rw [Array.getD_eq_getD_getElem?] at hkl
      simp at hk
      simp [hk] at hkl) (by rw [hall];exact hr) (fun i _=>pres_get hp i) hS' hQ
    simpa using this
theorem boolOf_eq (hS:SatE W w0 n s a w) {c:Operand} {b:Bool} (h:boolOf (getv s.g c)=some b):a.eval c = .bool b:=by
  obtain ⟨β,hS⟩:=hS
  unfold boolOf at h
  split at h
  · rename_i c' hg
    split at h
    · rename_i b' hv
      cases h
      exact val_reads (c := .sc c') hv (getv_good hS hg).1
    · cases h
  · cases h
theorem vc_both (ok:CxOk2 P X) (hmo:P.follows .mixedOrders=true):∀ (f:Nat),(∀ (c:Code) (kn:St→Prop) (ke:Nat→St→Prop) (kr:St→Prop) (s:St) (a:Act) (w:World) (Q:Exit→Act→World→Prop),vc X n f c kn ke kr s→SatE W w0 n s a w →
    (∀ s a w,kn s→SatE W w0 n s a w→Q .normal a w)→(∀ id s a w,ke id s→SatE W w0 n s a w→Q (.exit id) a w)→(∀ s a w,kr s→SatE W w0 n s a w→Q .ret a w)→c.wp P Q a w) ∧
    (∀ (c:Code) (kn:St→Prop) (ke:Nat→St→Prop) (kr:St→Prop) (s:St) (a:Act) (w:World) (Q:Exit→Act→World→Prop),vc X n f (.loop c) kn ke kr s→SatE W w0 n s a w →
    (∀ id s a w,ke id s→SatE W w0 n s a w→Q (.exit id) a w)→(∀ s a w,kr s→SatE W w0 n s a w→Q .ret a w)→Code.rounds P c Q f a w):=by
  intro f
  induction f with
  | zero=>exact ⟨(fun c kn ke kr s a w Q h=>by cases h),(fun c kn ke kr s a w Q h=>by cases h)⟩
  | succ f ih =>
    obtain ⟨ihA,ihB⟩:=ih
    have hB:∀ (c:Code) (kn:St→Prop) (ke:Nat→St→Prop) (kr:St→Prop) (s:St) (a:Act) (w:World) (Q:Exit→Act→World→Prop),vc X n (f+1) (.loop c) kn ke kr s→SatE W w0 n s a w →
        (∀ id s a w,ke id s→SatE W w0 n s a w→Q (.exit id) a w)→(∀ s a w,kr s→SatE W w0 n s a w→Q .ret a w)→Code.rounds P c Q (f+1) a w:=by
      intro c kn ke kr s a w Q h hS he hr
      exact ihA c _ ke kr s a w _ h hS (fun s a w hk hS=>ihB c kn ke kr s a w Q hk hS he hr) (fun id s a w hk hS=>he id s a w hk hS) (fun s a w hk hS=>hr s a w hk hS)
    refine ⟨?_,hB⟩
    intro c kn ke kr s a w Q h hS hn he hr
    cases c with
    | skip=>exact wp_skip (hn s a w h hS)
    | seq x y =>
      refine wp_seq (ihA x _ ke kr s a w _ h hS (fun s a w hk hS=>ihA y kn ke kr s a w Q hk hS hn he hr) (fun id s a w hk hS=>he id s a w hk hS) (fun s a w hk hS=>hr s a w hk hS))
    | region id ops draw =>
      simp only [vc] at h
      split at h
      · rename_i es s' heff
        exact region_sound ok hmo heff h.1 h.2.1 hS (fun a w hS'=>hn s' a w h.2.2 hS')
      · cases h
    | cond c x y =>
      simp only [vc] at h
      split at h
      · rename_i b hb
        refine wp_cond (boolOf_eq hS hb) ?_
        cases b with
        | true=>exact ihA x kn ke kr s a w Q (h.1 rfl) hS hn he hr
        | false=>exact ihA y kn ke kr s a w Q (h.2 rfl) hS hn he hr
      · cases h
    | block id c =>
      refine wp_block (ihA c kn _ kr s a w _ h hS (fun s a w hk hS=>hn s a w hk hS) (fun id' s a w hk hS=>?_) (fun s a w hk hS=>hr s a w hk hS))
      show if id'=id then Q .normal a w else Q (.exit id') a w
      split
      · rename_i e;rw [if_pos e] at hk;exact hn s a w hk hS
      · rename_i e;rw [if_neg e] at hk;exact he id' s a w hk hS
    | loop c=>exact wp_loop_rounds (f+1) (hB c kn ke kr s a w Q h hS he hr)
    | exit id=>exact wp_exit (he id s a w h hS)
    | ret=>exact wp_ret (hr s a w h hS)
    | rangeFunc _ _ _ _=>cases h
    | scope _=>cases h
    | label _=>cases h
    | goto _=>cases h
    | refuse _=>cases h
theorem vc_sound (ok:CxOk2 P X) (hmo:P.follows .mixedOrders=true) (f:Nat) (c:Code) (kn:St→Prop) (ke:Nat→St→Prop) (kr:St→Prop) (s:St) (a:Act) (w:World) (Q:Exit→Act→World→Prop) (h:vc X n f c kn ke kr s) (hS:SatE W w0 n s a w)
    (hn:∀ s a w,kn s→SatE W w0 n s a w→Q .normal a w) (he:∀ id s a w,ke id s→SatE W w0 n s a w→Q (.exit id) a w) (hr:∀ s a w,kr s→SatE W w0 n s a w→Q .ret a w):c.wp P Q a w :=
  (vc_both ok hmo f).1 c kn ke kr s a w Q h hS hn he hr
theorem load_box (ok:CxOk P X) {β:Pl} (hS:Sat W w0 n β s a w) {T:TypeId} {b off:Nat} {p:Bool × List A0}
    (h:(match allSome ((span b off (X.ti T).size).map fun p=>s.m p.1 p.2),(X.ti T).agg with
      | some (c::l),true=>if (c::l).all A0.noObs=true then some (true,c::l) else none
      | some [c],false=>if c.noObs=true then some (false,[c]) else none
      | _,_=>none)=some p):∃ u,(loadVar T ⟨β b,off,none⟩).run P w = .ok u w∧part0 β w p u:=by
  have hT:=ok.ty T
  split at h
  · rename_i c l hl hag
    split at h
    case isFalse=>cases h
    rename_i hno
    cases h
    obtain ⟨us,h1,h2,h4',h5⟩:=box_cells hS b (X.ti T).size off _ (allSome_get hl) hno
    have h4:∀ (i:Nat) v,us[i]?=some v→w.cell? ⟨β b,off+i,none⟩=some v:=fun i v hi=>(h4' i v hi).1
    have hne:(X.ti T).size≠0:=by rw [← h1,← All2.length h2];simp
    obtain ⟨inf,hi,hsz⟩:=hT.size hne
    have hr:=congrFun (hT.agg hne) w
    rw [hag] at hr
    refine ⟨.agg us.toArray,?_,us,rfl,h2⟩
    have:=run_loadCells_list (P:=P) w ⟨β b,off,none⟩ us (fun j v hj=>by rw [addr_add];exact h4 j v hj)
    simp only [Sem.run_bind,Sem.run_pure,Result.andThen_ok,loadVar,hr,if_true,run_sizeOf' hi,hsz,← h1,this]
  · rename_i c hl hag
    split at h
    case isFalse=>cases h
    rename_i hno
    cases h
    obtain ⟨us,h1,h2,h4',h5⟩:=box_cells hS b (X.ti T).size off _ (allSome_get hl) (by simpa using hno)
    have h4:∀ (i:Nat) v,us[i]?=some v→w.cell? ⟨β b,off+i,none⟩=some v:=fun i v hi=>(h4' i v hi).1
    have hne:(X.ti T).size≠0:=by rw [← h1,← All2.length h2];simp
    have hr:=congrFun (hT.agg hne) w
    rw [hag] at hr
    cases h2 with
    | cons hu hnil =>
      cases hnil
      rename_i u
      refine ⟨u,?_,c,rfl,hu⟩
      have:=h4 0 u rfl
      simp only [Nat.add_zero] at this
      simp only [Sem.run_bind,Sem.run_pure,Result.andThen_ok,loadVar,hr,Bool.false_eq_true,if_false,run_load,this]
  · cases h
def resOne (tm:Array Value):ResultVar→Sem Value
  | .tmp t=>pure (tm.getD t undef)
  | .cell a t=>do loadVar t (← asAddr (tm.getD a undef))
theorem resPart_run (ok:CxOk P X) {β:Pl} (hS:Sat W w0 n β s a w) {r:ResultVar} {p:Bool × List A0} (h:resPart X s r=some p):∃ u,(resOne a.tmps r).run P w = .ok u w∧part0 β w p u:=by
  cases r with
  | tmp t =>
    simp only [resPart] at h
    split at h
    · rename_i c hg;cases h;exact ⟨_,rfl,c,rfl,hS.tm t _ hg⟩
    · rename_i cs hg;cases h;exact ⟨_,rfl,hS.tm t _ hg⟩
    · cases h
  | cell t ty =>
    simp only [resPart] at h
    split at h
    · rename_i b off hg
      obtain ⟨u,h1,h2⟩:=load_box ok hS h
      refine ⟨u,?_,h2⟩
      have:=hS.tm t _ hg
      simp only [resOne]
      rw [show a.tmps.getD t undef=_ from this]
      simpa [asAddr] using h1
    · cases h
theorem resParts_run (ok:CxOk P X) {β:Pl} (hS:Sat W w0 n β s a w):∀ {rs:List ResultVar} {ps:List (Bool × List A0)},resParts X s rs=some ps→∃ us:List Value,(rs.mapM (resOne a.tmps)).run P w = .ok us w∧All2 (part0 β w) ps us
  | [],ps,h=>by cases h;exact ⟨[],rfl,.nil⟩
  | r :: rs, ps, h => by
    rw [resParts] at h
    split at h
    · rename_i p q h1 h2
      cases h
      obtain ⟨u,hu,hp⟩:=resPart_run ok hS h1
      obtain ⟨us,hus,hps⟩:=resParts_run ok hS h2
      refine ⟨u::us,?_,.cons hp hps⟩
      rw [List.mapM_cons]
      simp [hu,hus]
    · cases h
theorem results_eq (fn:Func) (tm:Array Value):results fn tm=(do let vs ← fn.results.toList.mapM (resOne tm);pure (if h:vs.length=1 then vs[0] else .tuple vs.toArray)):=by
  have key:∀ (g:ResultVar→Sem Value),g=resOne tm→(do let vs ← fn.results.mapM g;pure (if h:vs.size=1 then vs[0] else .tuple vs):Sem Value)=(do let vs ← fn.results.toList.mapM (resOne tm);pure (if h:vs.length=1 then vs[0] else .tuple vs.toArray)):=by
    intro g hg
    subst hg
    rw [Array.mapM_eq_mapM_toList]
    simp only [bind_map_left]
    congr 1
  unfold results
  exact key _ (funext fun r=>by cases r<;>rfl)
theorem toRC_free {c:A0} {x:RC} (h:toRC s c=some x):(x = .t c∧c.free=true)∨∃ b y,c = .ref b∧x = .o y∧s.m b 0=some (.obs y):=by
  cases c with
  | ref b =>
    right
    simp only [toRC] at h
    split at h
    · rename_i y hy;cases h;exact ⟨b,y,rfl,rfl,hy⟩
    · cases h
  | v x=>cases h;exact .inl ⟨rfl,rfl⟩
  | sl k l=>cases h
  | neg x=>cases h;exact .inl ⟨rfl,rfl⟩
  | mag x=>cases h
  | ls m=>cases h;exact .inl ⟨rfl,rfl⟩
  | op x=>cases h
  | obs x=>cases h
theorem toRCs_len:∀ {cs:List A0} {l:List RC},toRCs s cs=some l→l.length=cs.length
  | [],l,h=>by cases h;rfl
  | c::cs,l,h=>by
    rw [toRCs] at h
    split at h
    · rename_i x r h1 h2;cases h;simp [toRCs_len h2]
    · cases h
theorem toRCs_reads {v:Nat→Value}:∀ {cs:List A0} {l:List RC} {us:List Value} {i:Nat},toRCs s cs=some l→All2 (A0.reads β w) cs us→(∀ (j b:Nat),cs[j]?=some (.ref b)→v (i+j)=β.v b)→All2 (A0.reads (plV v) w) (cellsR i l) us
  | [],l,us,i,h,hr,_=>by cases h;cases hr;exact .nil
  | c :: cs, l, us, i, h, hr, hv => by
    rw [toRCs] at h
    split at h
    · rename_i x r h1 h2
      cases h
      cases hr with
      | cons hr1 hr2 =>
        refine .cons ?_ (toRCs_reads h2 hr2 (fun j b hj=>by rw [show i+1+j=i+(j+1) by omega];exact hv (j+1) b (by simpa using hj)))
        rcases toRC_free h1 with ⟨rfl,hf⟩|⟨b,y,rfl,rfl,_⟩
        · exact A0.free_reads hr1 hf
        · show _=v i
          rw [show _=β.v b from hr1]
          exact (hv 0 b rfl).symm
    · cases h
theorem toRCs_objs:∀ {cs:List A0} {l:List RC} {i:Nat},toRCs s cs=some l→∀ p∈objsR i l,i≤p.1∧∃ b,cs[p.1-i]?=some (.ref b)∧s.m b 0=some (.obs p.2)
  | [],l,i,h,p,hp=>by cases h;cases hp
  | c :: cs, l, i, h, p, hp => by
    rw [toRCs] at h
    split at h
    · rename_i x r h1 h2
      cases h
      have step:∀ p∈objsR (i+1) r,i≤p.1∧∃ b,(c::cs)[p.1-i]?=some (.ref b)∧s.m b 0=some (.obs p.2):=fun p hp=>by
        obtain ⟨h3,b,h4,h5⟩:=toRCs_objs h2 p hp
        refine ⟨by omega,b,?_,h5⟩
        rw [show p.1-i=(p.1-(i+1))+1 by omega]
        simpa using h4
      rcases toRC_free h1 with ⟨rfl,hf⟩|⟨b,y,rfl,rfl,hm⟩
      · exact step p hp
      · rcases List.mem_cons.1 hp with rfl|hp
        · exact ⟨Nat.le_refl _,b,by simp,hm⟩
        · exact step p hp
    · cases h
theorem toRCp_reads {v:Nat→Value}:∀ {ps:List (Bool × List A0)} {l:List (Bool × List RC)} {us:List Value} {i:Nat},toRCp s ps=some l→All2 (part0 β w) ps us→(∀ (j b:Nat),(flatA ps)[j]?=some (.ref b)→v (i+j)=β.v b)→All2 (part0 (plV v) w) (cellsP i l) us
  | [],l,us,i,h,hr,_=>by cases h;cases hr;exact .nil
  | (d, cs) :: ps, l, us, i, h, hr, hv => by
    rw [toRCp] at h
    split at h
    · rename_i x r h1 h2
      cases h
      have hln:=toRCs_len h1
      cases hr with
      | cons hr1 hr2 =>
        have hv1:∀ (j b:Nat),cs[j]?=some (.ref b)→v (i+j)=β.v b:=fun j b hj=>hv j b (by
          show (cs++flatA ps)[j]?=_
          rw [List.getElem?_append_left (List.getElem?_eq_some_iff.1 hj).1];exact hj)
        refine .cons ?_ (toRCp_reads h2 hr2 (fun j b hj=>by
          rw [hln,show i+cs.length+j=i+(cs.length+j) by omega]
          refine hv _ b ?_
          show (cs++flatA ps)[cs.length+j]?=_
          rw [List.getElem?_append_right (by omega),Nat.add_sub_cancel_left];exact hj))
        cases d with
        | true=>obtain ⟨us',e,hr'⟩:=hr1;exact ⟨us',e,toRCs_reads h1 hr' hv1⟩
        | false =>
          obtain ⟨c,e,hr'⟩:=hr1
          have e':cs=[c]:=e
          subst e'
          have:=toRCs_reads (us:=[_]) h1 (.cons hr' .nil) hv1
          cases l':cellsR i x with
          | nil=>rw [l'] at this;cases this
          | cons q qs =>
            rw [l'] at this
            cases this with
            | cons g1 g2 =>
              cases g2
              exact ⟨q,rfl,g1⟩
    · cases h
theorem toRCp_objs:∀ {ps:List (Bool × List A0)} {l:List (Bool × List RC)} {i:Nat},toRCp s ps=some l→∀ p∈objsP i l,i≤p.1∧∃ b,(flatA ps)[p.1-i]?=some (.ref b)∧s.m b 0=some (.obs p.2)
  | [],l,i,h,p,hp=>by cases h;cases hp
  | (d, cs) :: ps, l, i, h, p, hp => by
    rw [toRCp] at h
    split at h
    · rename_i x r h1 h2
      cases h
      have hln:=toRCs_len h1
      rcases List.mem_append.1 hp with hp|hp
      · obtain ⟨h3,b,h4,h5⟩:=toRCs_objs h1 p hp
        refine ⟨h3,b,?_,h5⟩
        show (cs++flatA ps)[p.1-i]?=_
        rw [List.getElem?_append_left (List.getElem?_eq_some_iff.1 h4).1];exact h4
      · obtain ⟨h3,b,h4,h5⟩:=toRCp_objs h2 p hp
        refine ⟨by omega,b,?_,h5⟩
        show (cs++flatA ps)[p.1-i]?=_
        rw [List.getElem?_append_right (by omega),show p.1-i-cs.length=p.1-(i+x.length) by omega];exact h4
    · cases h
def refAt (cs:List A0) (j:Nat):Nat:=match cs[j]? with
  | some (.ref b)=>b
  | _=>0
theorem refAt_eq {cs:List A0} {j b:Nat} (h:cs[j]?=some (.ref b)):refAt cs j=b:=by unfold refAt;rw [h]
theorem refs_pos:∀ {cs:List A0} {j j' b:Nat},(cs.flatMap A0.refs).Nodup→cs[j]?=some (.ref b)→cs[j']?=some (.ref b)→j=j'
  | [],j,j',b,_,h,_=>by simp at h
  | c :: cs, j, j', b, hn, h, h' => by
    rw [List.flatMap_cons,List.nodup_append] at hn
    have hmem:∀ {k:Nat},cs[k]?=some (.ref b)→b∈cs.flatMap A0.refs:=fun hk=>List.mem_flatMap.2 ⟨_,List.mem_of_getElem? hk,by simp [A0.refs]⟩
    cases j with
    | zero =>
      have:c = .ref b:=by simpa using h
      subst this
      cases j' with
      | zero=>rfl
      | succ j'=>exact absurd rfl (hn.2.2 b (by simp [A0.refs]) b (hmem (by simpa using h')))
    | succ j =>
      cases j' with
      | zero =>
        have:c = .ref b:=by simpa using h'
        subst this
        exact absurd rfl (hn.2.2 b (by simp [A0.refs]) b (hmem (by simpa using h)))
      | succ j'=>exact congrArg (·+1) (refs_pos (b:=b) hn.2.1 (by simpa using h) (by simpa using h'))
theorem out_news (hS:Sat W w0 n β s a w) {cs:List A0} {os:List (Nat × D)} {i:Nat} (hn:(cs.flatMap A0.refs).Nodup) (ho:∀ p∈os,i≤p.1∧∃ b,cs[p.1-i]?=some (.ref b)∧s.m b 0=some (.obs p.2)) (hW:∀ b k,s.T b=some obT→β.F b k→w0.heap.size≤k):News w0 w (fun j=>β.v (refAt cs (j-i))) (fun j=>β.F (refAt cs (j-i))) os:=by
  refine ⟨fun p hp=>?_,fun p hp k hk=>?_,fun p hp q hq k hk hk'=>?_⟩
  · obtain ⟨_,b,h1,h2⟩:=ho p hp
    show D.own (β.F (refAt cs (p.1-i))) w p.2 (β.v (refAt cs (p.1-i)))
    rw [refAt_eq h1]
    exact (hS.ob h2).2
  · obtain ⟨_,b,h1,h2⟩:=ho p hp
    have hk:β.F (refAt cs (p.1-i)) k:=hk
    rw [refAt_eq h1] at hk
    have hT:=(hS.ob h2).1
    exact ⟨hW b k hT hk,hS.lt k (hS.own b k (by rw [hT];simp) hk).1⟩
  · obtain ⟨g1,b,h1,h2⟩:=ho p hp
    obtain ⟨g2,b',h3,h4⟩:=ho q hq
    have hk:β.F (refAt cs (p.1-i)) k:=hk
    have hk':β.F (refAt cs (q.1-i)) k:=hk'
    rw [refAt_eq h1] at hk
    rw [refAt_eq h3] at hk'
    have:b=b':=hS.disj b b' k (by rw [(hS.ob h2).1];simp) (by rw [(hS.ob h4).1];simp) hk hk'
    subst this
    have:=refs_pos hn h1 h3
    omega
theorem crOf_told (hS:Sat W w0 n β s a w) (hW:∀ b k,s.T b=some obT→β.F b k→w0.heap.size≤k) {tup:Bool} {ps:List (Bool × List A0)} {r:CR} (h:crOf s tup ps=some r) {us:List Value} (hr:All2 (part0 β w) ps us) {u:Value} (hu:match tup with
    | true=>u = .tuple us.toArray
    | false=>us=[u]):r.told w0 w u:=by
  unfold crOf at h
  split at h
  · split at h
    case isFalse=>cases h
    rename_i hf
    have hpl:(TV.tup ps).plain=true:=hf
    split at h
    · cases h
      have hu':u = .tuple us.toArray:=hu
      exact ⟨fun _=>undef,fun _ _=>False,⟨(fun p hp=>by cases hp),(fun p hp=>by cases hp),(fun p hp=>by cases hp)⟩,(plain_reads (β':=pl0) (w':=w) hpl (show (TV.tup ps).reads β w u from ⟨us,hu',hr⟩)).1⟩
    · rename_i p _ _
      split at h
      · rename_i x hx
        cases h
        have hu':us=[u]:=hu
        subst hu'
        cases hr with
        | cons h1 _ =>
          obtain ⟨g1,g2⟩:=one_part h1 hx
          have hxp:x.plain=true:=by
            have:p.2.all A0.free=true:=by simpa using hf
            obtain ⟨b,cs⟩:=p
            unfold ofPart at hx
            split at hx
            · rename_i e;cases e;cases hx;exact this
            · rename_i e;cases e;cases hx;simpa [TV.plain] using this
            · cases hx
          exact ⟨fun _=>undef,fun _ _=>False,⟨(fun p hp=>by cases hp),(fun p hp=>by cases hp),(fun p hp=>by cases hp)⟩,(plain_reads (β':=pl0) (w':=w) hxp g1).1⟩
      · cases h
    · cases h
  · split at h
    case h_2=>cases h
    rename_i r' _ l hnd hl
    have hnd':=of_decide_eq_true hnd
    have hN:=out_news hS (i:=0) hnd' (toRCp_objs hl) hW
    have hrd:=toRCp_reads (v:=fun j=>β.v (refAt (flatA ps) (j-0))) hl hr (fun j b hj=>by
      show β.v (refAt (flatA ps) (0+j-0))=_
      rw [Nat.zero_add,Nat.sub_zero,refAt_eq hj])
    split at h
    · cases h
      have hu':u = .tuple us.toArray:=hu
      exact ⟨_,_,hN,us,hu',hrd⟩
    · rename_i p _
      cases h
      have hu':us=[u]:=hu
      subst hu'
      obtain ⟨d,q⟩:=p
      refine ⟨_,_,hN,?_⟩
      cases hrd with
      | cons h1 _=>exact h1
    · cases h
theorem resParts_len:∀ {rs:List ResultVar} {ps},resParts X s rs=some ps→rs.length=ps.length:=by
  intro rs
  induction rs with
  | nil=>intro ps h;cases h;rfl
  | cons r rs ih =>
    intro ps h
    rw [resParts] at h
    split at h
    · rename_i p q e1 e2;cases h;simp [ih e2]
    · cases h
theorem res_run (ok:CxOk P X) (hS:Sat W w0 n β s a w) (hW:∀ b k,s.T b≠none→β.F b k→(s.T b=some obT→w0.heap.size≤k)) (hWc:∀ b,s.T b≠none→s.T b≠some obT→∀ k,β.F b k→w0.heap.size≤k) {fn:Func} {r:CR} (h:resCR X fn.results.toList s=some r):∃ u,(results fn a.tmps).run P w = .ok u w∧r.told w0 w u:=by
  have hW':∀ b k,s.T b=some obT→β.F b k→w0.heap.size≤k:=fun b k hT hk=>hW b k (by rw [hT];simp) hk hT
  rw [results_eq]
  have one:∀ rv u,fn.results.toList=[rv]→(resOne a.tmps rv).run P w = .ok u w→(do let vs ← fn.results.toList.mapM (resOne a.tmps);pure (if h:vs.length=1 then vs[0] else .tuple vs.toArray):Sem Value).run P w = .ok u w:=by
    intro rv u he hr
    rw [he]
    simp [hr]
  unfold resCR at h
  split at h
  · rename_i rv hres
    split at h
    · rename_i p hp
      obtain ⟨u,h1,h2⟩:=resPart_run ok hS hp
      exact ⟨u,one _ _ hres h1,crOf_told hS hW' h (us:=[u]) (.cons h2 .nil) rfl⟩
    · rename_i hnp
      split at h
      · rename_i t
        split at h
        · rename_i b k sz hg
          split at h
          · rename_i ty l hT hl
            split at h
            case isFalse=>cases h
            rename_i hc
            cases h
            obtain ⟨c,hu,hcc⟩:=hS.tm t _ hg
            have hTn:s.T b≠none:=by rw [hT];simp
            obtain ⟨hF,arr,ha,hcs⟩:=(hS.box b ty hT).cel hc.2
            refine ⟨_,one _ _ hres rfl,fun _=>undef,fun _ _=>False,⟨(fun p hp=>by cases hp),(fun p hp=>by cases hp),(fun p hp=>by cases hp)⟩,β b,c,arr,hu,hcc,hWc b hTn (by rw [hT];intro e;exact hc.2 (Option.some.inj e)) _ ((hF _).2 rfl),ha,fun off x hx=>?_⟩
            have h2:=allSome_get hl
            have h3:=congrArg (fun t=>t[off]?) h2
            have hlt:off<k*sz:=by
              have:=(List.getElem?_eq_some_iff.1 hx).1
              have h4:=congrArg List.length h2
              simp [span] at h4
              omega
            simp only [span,List.map_map,List.getElem?_map,hx] at h3
            rw [List.getElem?_range' (by omega)] at h3
            simp only [Option.map_some,Function.comp,Nat.zero_add,Nat.one_mul,Option.some.injEq] at h3
            obtain ⟨y,g1,g2,g3⟩:=hcs off x h3
            exact ⟨y,g1,g2,A0.free_reads g3 (List.all_eq_true.1 hc.1 x (List.mem_of_getElem? hx))⟩
          · cases h
        · rename_i b hg
          split at h
          · rename_i ty hT
            split at h
            · rename_i l hl
              split at h
              case h_2=>cases h
              rename_i l' hc hl'
              cases h
              obtain ⟨hnd,hty,hno⟩:=of_decide_eq_true hc
              have hTn:s.T b≠none:=by rw [hT];simp
              obtain ⟨hF,arr,ha,hcs⟩:=(hS.box b ty hT).cel hty
              have hN:=out_news hS (i:=1) hnd (toRCs_objs hl') hW'
              have hu:a.tmps.getD t undef = .pointer (some ⟨β b,0,none⟩):=hS.tm t _ hg
              refine ⟨_,one _ _ hres rfl,_,_,hN,β b,arr,hu,hWc b hTn (by rw [hT];intro e;exact hty (Option.some.inj e)) _ ((hF _).2 rfl),ha,fun p hp hk=>?_,fun off c hoff=>?_⟩
              · obtain ⟨_,b',h1,h2⟩:=toRCs_objs hl' p hp
                have hk':β.F b' (β b):=by
                  have:β.F (refAt l (p.1-1)) (β b):=hk
                  rw [refAt_eq h1] at this;exact this
                have:=hS.disj b' b _ (by rw [(hS.ob h2).1];simp) hTn hk' ((hF _).2 rfl)
                subst this
                rw [(hS.ob h2).1] at hT
                exact hty (Option.some.inj hT).symm
              · obtain ⟨us,k1,k2,k3,_⟩:=box_cells hS b (X.ti ty).size 0 l (allSome_get hl) hno
                have hrd:=toRCs_reads (v:=fun j=>β.v (refAt l (j-1))) (i:=1) hl' k2 (fun j b' hj=>by
                  show β.v (refAt l (1+j-1))=_
                  rw [Nat.add_sub_cancel_left,refAt_eq hj])
                obtain ⟨v,hv1,hv2⟩:=All2.get hrd off c hoff
                obtain ⟨g1,g2⟩:=k3 off v hv1
                refine ⟨v,?_,g2,hv2⟩
                unfold World.cell? at g1
                rw [show (⟨β b,0+off,none⟩:Addr).block=β b from rfl,ha] at g1
                simpa using g1
            · cases h
          · cases h
        · cases h
      · cases h
  · rename_i hne
    split at h
    · rename_i ps hl
      obtain ⟨us,h1,h2⟩:=resParts_run ok hS hl
      refine ⟨.tuple us.toArray,?_,crOf_told hS hW' h h2 rfl⟩
      have hlen:us.length≠1:=by
        intro h3
        have h4:=All2.length h2
        have h5:=resParts_len hl
        rw [h4,h3] at h5
        match hrs:fn.results.toList,h5 with
        | [rv],_=>exact hne rv hrs
      rw [Sem.run_bind,h1]
      simp [hlen]
    · cases h
end
end
end Go.Proofs.YtcgknibjbnijmaaW.Sy
end
section
set_option linter.unusedVariables false
set_option linter.unusedSimpArgs false
namespace Go.Proofs.YtcgknibjbnijmaaW.Sy
open Go RowKit YtcgknibjbnijmaaW.PrintWords YtcgknibjbnijmaaW.PrintMore YtcgknibjbnijmaaW.Aid YtcgknibjbnijmaaW.Big
def fieldsOk (P:Program) (fs:Array Field):Bool:=fs.toList.all fun f=>match P.info? f.type,P.underlying f.type with
  | some inf,some _=>inf.size != 0
  | _,_=>false
def descAgg:TypeDesc→Bool
  | .struct _=>true
  | .array _ _=>true
  | _=>false
def descOffs (P:Program):TypeDesc→List (Nat × TypeId)
  | .struct fs=>if fieldsOk P fs then fs.toList.map fun f=>(f.offset,f.type) else []
  | _=>[]
def descOk (P:Program):TypeDesc→Bool
  | .struct fs=>fieldsOk P fs
  | _=>true
def descInt:TypeDesc→Option IntKind
  | .int k=>some k
  | _=>none
def descElt:TypeDesc→Option (Option Nat × TypeId)
  | .slice e=>some (none,e)
  | .array n e=>some (some n,e)
  | _=>none
def descBl:TypeDesc→Bool
  | .bool=>true
  | _=>false
def zeroOf (inf:TypeInfo):Option (List A0) :=
  match inf.zero with
  | some z=>if z.cells.toList.all (fun u=>u.oneCell') then some (z.cells.toList.map A0.v) else none
  | none=>none
def descPt:TypeDesc→Bool
  | .pointer _=>true
  | _=>false
def tiOf (P:Program) (T:TypeId):TIn :=
  match P.info? T,P.underlying T with
  | some inf,some d=>{ agg:=descAgg d,size:=inf.size,zero:=if descOk P d then zeroOf inf else none,offs:=descOffs P d,int:=descInt d,elt:=descElt d,bl:=descBl d,bytes:=inf.bytes,pt:=descPt d }
  | _,_=>{ agg:=false,size:=0 }
theorem all2_v {β:Pl} {w:World}:∀ us:List Value,All2 (A0.reads β w) (us.map A0.v) us
  | [] => .nil
  | u::us => .cons rfl (all2_v us)
theorem tiOf_ok (P:Program) (T:TypeId):TOk P T (tiOf P T):=by
  unfold tiOf
  split
  · rename_i inf d hinf hd
    refine { size:=fun _=>⟨inf,hinf,rfl⟩,agg:=fun _=>?_,zero:=fun zs hz=>?_,offs:=fun j o ft h=>?_,int:=fun k h=>?_,slc:=fun e h=>?_,arr:=fun m e h=>?_,bl:=fun h=>?_,bts:=(fun _ inf' h'=>by rw [hinf] at h';cases h';rfl),pt:=fun h=>?_ }
    · funext w
      simp only [isAgg,Sem.run_bind,run_underlying hd,Result.andThen_ok]
      cases d<;>rfl
    · simp only at hz
      split at hz
      · unfold zeroOf at hz
        split at hz
        · rename_i z hz0
          split at hz
          · rename_i hall
            cases hz
            exact ⟨inf,z,z.cells.toList,hinf,hz0,by simp,fun _ w=>all2_v _,fun u hu=>List.all_eq_true.1 hall u hu,by simp [A0.free]⟩
          · cases hz
        · cases hz
      · cases hz
    · simp only at h
      cases d with
      | struct fs =>
        simp only [descOffs] at h
        split at h
        · rename_i hfo
          rw [List.getElem?_map,Option.map_eq_some_iff] at h
          obtain ⟨f,hf,he⟩:=h
          cases he
          have:=List.all_eq_true.1 hfo f (List.mem_of_getElem? hf)
          split at this
          · rename_i inf' d' hi' hd'
            exact ⟨fs,f,inf',hd,by simpa using hf,rfl,rfl,hi',by simpa using this⟩
          · cases this
        · simp at h
      | _=>simp [descOffs] at h
    · cases d<;>simp only [descInt] at h<;>first|(cases h;exact hd)|cases h
    · cases d<;>simp only [descElt] at h<;>first|(cases h;exact hd)|cases h
    · cases d<;>simp only [descElt] at h<;>first|(cases h;exact hd)|cases h
    · cases d<;>simp only [descBl] at h<;>first|exact hd|cases h
    · cases d<;>simp only [descPt] at h<;>first|(rw [hd];simp [Program.pointee,hd];done)|cases h
  · refine { size:=fun h=>absurd rfl h,agg:=fun h=>absurd rfl h,zero:=(fun zs h=>by cases h),offs:=(fun j o ft h=>by simp at h),int:=(fun k h=>by cases h),slc:=(fun e h=>by cases h),arr:=(fun m e h=>by cases h),bl:=(fun h=>by cases h),bts:=fun h=>absurd rfl h,pt:=(fun h=>by cases h) }
structure Con (P:Program) where
  f:FuncId
  sem:List TV→Option (Prop × CR)
  ok:∀ args p r,sem args=some (p,r)→p→FOk P f ∧
    ∀ (us:List Value) w,All2 (TV.reads pl0 w) args us→Calls P f us.toArray w fun e w'=>∃ u,e = .returned u∧r.told w w' u∧Below w.heap.size w w'
structure EqT (P:Program) where
  T:TypeId
  sem:List A0→List A0→Option Bool
  ok:∀ xs ys z,sem xs ys=some z→∀ β us vs w x y,All2 (A0.reads β w) xs us→All2 (A0.reads β w) ys vs →
    (eqGuard .eql T x y (.agg us.toArray) (.agg vs.toArray)).run P w = .ok () w∧(eqGuard .neq T x y (.agg us.toArray) (.agg vs.toArray)).run P w = .ok () w∧(Op.equal T (.agg us.toArray) (.agg vs.toArray)).run P w = .ok z w
structure ConW (P:Program) where
  f:FuncId
  kn:Nat
  sem:List A0→List TV→Option (Prop × List (Option RC) × CR)
  ok:∀ cs args p new r,sem cs args=some (p,new,r)→p→FOk P f ∧
    ∀ (us:List Value) (w:World) (g:Nat) (arr:Array Value) (ty:TypeId),w.heap[g]?=some (.cells arr ty (0,0))→ty≠obT→(∀ (i:Nat) (c:A0),cs[i]?=some c→∃ x,arr[i]?=some x∧x.oneCell'=true∧c.reads (plO (fun k=>k=g)) w x)→All2 (TV.reads (plO (fun k=>k=g)) w) args us→RetW P f g arr ty us w new r
structure ConM (P:Program) where
  f:FuncId
  sem:D→List TV→Option (Prop × Option D × CR)
  ok:∀ x args p new r,sem x args=some (p,new,r)→p→FOk P f ∧
    ∀ (us:List Value) (w:World) (u:Value) (F:Nat→Prop),x.own F w u→(∀ k,F k→k<w.heap.size)→All2 (TV.reads (plO F) w) args us→RetM P f u us w F new r
def lookK {P:Program}:List (Con P)→FuncId→List TV→Option (Prop × CR)
  | [],_,_=>none
  | c::r,f,ays=>if c.f=f then c.sem ays else lookK r f ays
def lookE {P:Program}:List (EqT P)→TypeId→List A0→List A0→Option Bool
  | [],_,_,_=>none
  | c::r,T,xs,ys=>if c.T=T then c.sem xs ys else lookE r T xs ys
def lookKs:List (FuncId × Nat)→FuncId→Nat
  | [],_=>0
  | (g,k)::r,f=>if g=f then k else lookKs r f
def lookKn {P:Program}:List (ConW P)→List (FuncId × Nat)→FuncId→Nat
  | [],l,f=>lookKs l f
  | c::r,l,f=>if c.f=f then c.kn else lookKn r l f
def lookW {P:Program}:List (ConW P)→FuncId→List A0→List TV→Option (Prop × List (Option RC) × CR)
  | [],_,_,_=>none
  | c::r,f,cs,ays=>if c.f=f then c.sem cs ays else lookW r f cs ays
def lookM {P:Program}:List (ConM P)→FuncId→D→List TV→Option (Prop × Option D × CR)
  | [],_,_,_=>none
  | c::r,f,x,ays=>if c.f=f then c.sem x ays else lookM r f x ays
def cxOfK (P:Program) (es:List (EqT P)) (cs:List (Con P)) (ws:List (ConW P)) (ms:List (ConM P)) (ks:List (FuncId × Nat)):Cx:={ ti:=tiOf P,K:=lookK cs,eqs:=lookE es,kn:=lookKn ws ks,KW:=lookW ws,KM:=lookM ms }
abbrev cxOf (P:Program) (es:List (EqT P)) (cs:List (Con P)) (ws:List (ConW P)) (ms:List (ConM P)):Cx:=cxOfK P es cs ws ms []
theorem lookW_ok {P:Program}:∀ {ws:List (ConW P)} {f:FuncId} {cs:List A0} {ays:List TV} {p:Prop} {new:List (Option RC)} {r:CR},lookW ws f cs ays=some (p,new,r)→p→FOk P f ∧
    ∀ (us:List Value) (w:World) (g:Nat) (arr:Array Value) (ty:TypeId),w.heap[g]?=some (.cells arr ty (0,0))→ty≠obT→(∀ (i:Nat) (c:A0),cs[i]?=some c→∃ x,arr[i]?=some x∧x.oneCell'=true∧c.reads (plO (fun k=>k=g)) w x)→All2 (TV.reads (plO (fun k=>k=g)) w) ays us→RetW P f g arr ty us w new r
  | c::ws,f,cs,ays,p,new,r,h,hp=>by
    unfold lookW at h
    split at h
    · rename_i e;subst e;exact c.ok _ _ _ _ _ h hp
    · exact lookW_ok h hp
theorem lookM_ok {P:Program}:∀ {ms:List (ConM P)} {f:FuncId} {x:D} {ays:List TV} {p:Prop} {new:Option D} {r:CR},lookM ms f x ays=some (p,new,r)→p→FOk P f ∧
    ∀ (us:List Value) (w:World) (u:Value) (F:Nat→Prop),x.own F w u→(∀ k,F k→k<w.heap.size)→All2 (TV.reads (plO F) w) ays us→RetM P f u us w F new r
  | c::ms,f,x,ays,p,new,r,h,hp=>by
    unfold lookM at h
    split at h
    · rename_i e;subst e;exact c.ok _ _ _ _ _ h hp
    · exact lookM_ok h hp
theorem lookK_ok {P:Program}:∀ {cs:List (Con P)} {f:FuncId} {ays:List TV} {p:Prop} {r:CR},lookK cs f ays=some (p,r)→p→FOk P f ∧
    ∀ (us:List Value) w,All2 (TV.reads pl0 w) ays us→Calls P f us.toArray w fun e w'=>∃ u,e = .returned u∧r.told w w' u∧Below w.heap.size w w'
  | c::cs,f,ays,p,r,h,hp=>by
    unfold lookK at h
    split at h
    · rename_i e;subst e;exact c.ok _ _ _ h hp
    · exact lookK_ok h hp
theorem lookE_ok {P:Program}:∀ {es:List (EqT P)} {T:TypeId} {xs ys:List A0} {z:Bool},lookE es T xs ys=some z→∀ β us vs w x y,All2 (A0.reads β w) xs us→All2 (A0.reads β w) ys vs →
    (eqGuard .eql T x y (.agg us.toArray) (.agg vs.toArray)).run P w = .ok () w∧(eqGuard .neq T x y (.agg us.toArray) (.agg vs.toArray)).run P w = .ok () w∧(Op.equal T (.agg us.toArray) (.agg vs.toArray)).run P w = .ok z w
  | c::es,T,xs,ys,z,h=>by
    unfold lookE at h
    split at h
    · rename_i e;subst e;exact c.ok _ _ _ h
    · exact lookE_ok h
theorem cxOkK (P:Program) (es:List (EqT P)) (cs:List (Con P)) (ws:List (ConW P)) (ms:List (ConM P)) (ks:List (FuncId × Nat)):CxOk2 P (cxOfK P es cs ws ms ks) where
  ty:=tiOf_ok P
  call:=fun f args p r h hp=>lookK_ok h hp
  callW:=fun f cs args p new r h hp=>lookW_ok h hp
  callM:=fun f x args p new r h hp=>lookM_ok h hp
  eqs:=fun T xs ys z h=>lookE_ok h
  bld := by
    intro T w hag helt hz
    show ∃ fs,_
    simp only [cxOfK] at hag helt hz ⊢
    unfold tiOf at hag helt hz ⊢
    split at hag
    · rename_i inf d hinf hd
      simp only [hinf,hd] at helt hz ⊢
      cases d with
      | struct fs =>
        have hfo:fieldsOk P fs=true:=by
          cases hc:fieldsOk P fs with
          | true=>rfl
          | false=>simp [descOk,hc] at hz
        refine ⟨fs,rfl,(fs.toList.map fun f=>(f.offset,((P.info? f.type).map (·.size)).getD 0)).toArray,?_,fun i=>?_⟩
        · rw [Array.mapM_eq_mapM_toList]
          have key:∀ l:List Field,(l.all fun f=>match P.info? f.type,P.underlying f.type with|some inf,some _=>inf.size != 0|_,_=>false)=true→(l.mapM (fun f=>do pure (f.offset,← sizeOf f.type)):Sem (List (Nat × Nat))).run P w = .ok (l.map fun f=>(f.offset,((P.info? f.type).map (·.size)).getD 0)) w:=by
            intro l
            induction l with
            | nil=>intro _;rfl
            | cons f l ih =>
              intro h
              rw [List.all_cons,Bool.and_eq_true] at h
              have h1:=h.1
              split at h1
              · rename_i inf' d' hi' hd'
                rw [List.mapM_cons]
                simp only [Sem.run_bind,run_sizeOf' hi',Result.andThen_ok,Sem.run_pure,ih h.2,List.map_cons,hi',Option.map_some,Option.getD_some]
              · cases h1
          rw [Sem.run_map,key _ hfo];rfl
        · simp only [descOffs,hfo,if_true,List.getElem?_toArray,List.getElem?_map,Option.map_map]
          cases hf:fs.toList[i]? with
          | none=>rfl
          | some f =>
            simp only [Option.map_some,Function.comp]
            congr 2
            have:=List.all_eq_true.1 hfo f (List.mem_of_getElem? hf)
            split at this
            · rename_i inf' d' hi' hd'
              simp only [hi',hd',Option.map_some,Option.getD_some]
            · cases this
      | array m e=>simp [descElt] at helt
      | _=>simp [descAgg] at hag
    · cases hag
  all:=by
    intro T h
    simp only [cxOfK] at h
    unfold tiOf at h
    split at h
    · rename_i inf d hinf hd;rw [hd];rfl
    · exact absurd rfl h
theorem cxOk (P:Program) (es:List (EqT P)) (cs:List (Con P)) (ws:List (ConW P)) (ms:List (ConM P)):CxOk2 P (cxOf P es cs ws ms):=cxOkK P es cs ws ms []
abbrev tI (x:Int):TV := .sc (.v (.int .i64 x))
abbrev tB (b:Bool):TV := .sc (.v (.bool b))
abbrev i64 (n:Int):A0 := .v (.int .i64 n)
theorem all2_1 {α β:Type} {R:α→β→Prop} {x:α} {us:List β} (h:All2 R [x] us):∃ u,us=[u]∧R x u:=by
  cases h with|cons h1 h2=>cases h2;exact ⟨_,rfl,h1⟩
theorem all2_2 {α β:Type} {R:α→β→Prop} {x y:α} {us:List β} (h:All2 R [x,y] us):∃ u v,us=[u,v]∧R x u∧R y v:=by
  cases h with|cons h1 h2=>cases h2 with|cons h2 h3=>cases h3;exact ⟨_,_,rfl,h1,h2⟩
theorem all2_3 {α β:Type} {R:α→β→Prop} {x y z:α} {us:List β} (h:All2 R [x,y,z] us):∃ u v t,us=[u,v,t]∧R x u∧R y v∧R z t:=by
  cases h with|cons h1 h=>cases h with|cons h2 h=>cases h with|cons h3 h=>cases h;exact ⟨_,_,_,rfl,h1,h2,h3⟩
def Ret (P:Program) (f:FuncId) (us:Array Value) (w:World) (r:CR):Prop:=Calls P f us w fun e w'=>∃ u,e = .returned u∧r.told w w' u∧Below w.heap.size w w'
theorem told_tv {w w':World} {x:TV} {u:Value} (h:x.reads pl0 w' u):(CR.tv x).told w w' u:=⟨fun _=>undef,fun _ _=>False,⟨(fun p hp=>by cases hp),(fun p hp=>by cases hp),(fun p hp=>by cases hp)⟩,h⟩
theorem Ret.val {P:Program} {f:FuncId} {us:Array Value} {w:World} {v:Value} (h:Calls P f us w fun e w'=>e = .returned v∧Below w.heap.size w w'):Ret P f us w (.tv (.sc (.v v))) :=
  h.mono fun e w' h=>⟨v,h.1,told_tv rfl,h.2⟩
end Go.Proofs.YtcgknibjbnijmaaW.Sy
end
section
set_option linter.unusedVariables false
set_option linter.unusedSimpArgs false
namespace Go.Proofs.YtcgknibjbnijmaaW.Sy
open Go RowKit YtcgknibjbnijmaaW.PrintWords YtcgknibjbnijmaaW.PrintMore YtcgknibjbnijmaaW.Aid YtcgknibjbnijmaaW.Big
def lookG:List (Nat × TV)→Nat→Option TV
  | [],_=>none
  | (t,x)::r,k=>if k=t then some x else lookG r k
def lookB:List (Nat × TypeId × List A0)→Nat→Option (TypeId × List A0)
  | [],_=>none
  | (b,q)::r,k=>if k=b then some q else lookB r k
def stB (gs:List (Nat × TV)) (bs:List (Nat × TypeId × List A0)):St :=
  { g:=fun t=>lookG gs t,m:=fun b i=>(lookB bs b).bind fun q=>q.2[i]?,T:=fun b=>(lookB bs b).map fun q=>q.1 }
def leG (s:St):List (Nat × TV)→Prop
  | []=>True
  | (t,x)::r=>s.g t=some x∧leG s r
def leM (s:St) (b:Nat):Nat→List A0→Prop
  | _,[]=>True
  | i,c::r=>s.m b i=some c∧leM s b (i+1) r
def leB (s:St):List (Nat × TypeId × List A0)→Prop
  | []=>True
  | (b,q)::r=>s.T b=some q.1∧leM s b 0 q.2∧leB s r
def wfB (gs:List (Nat × TV)) (bs:List (Nat × TypeId × List A0)):Bool:=(gs.all fun p=>p.2.refs.all fun b=>(lookB bs b).isSome)&&bs.all fun p=>p.2.2.all fun c=>c.refs.all fun b=>(lookB bs b).isSome
theorem leG_at {s:St}:∀ {gs:List (Nat × TV)} {t:Nat} {x:TV},leG s gs→lookG gs t=some x→s.g t=some x
  | (t',y)::r,t,x,h,e=>by
    unfold lookG at e
    split at e
    · rename_i he;cases e;rw [he];exact h.1
    · exact leG_at h.2 e
theorem lookG_mem:∀ {gs:List (Nat × TV)} {t:Nat} {x:TV},lookG gs t=some x→∃ p∈gs,p.2=x
  | (t',y)::r,t,x,e=>by
    unfold lookG at e
    split at e
    · cases e;exact ⟨_,List.mem_cons_self,rfl⟩
    · obtain ⟨p,hp,hx⟩:=lookG_mem e;exact ⟨p,List.mem_cons_of_mem _ hp,hx⟩
theorem leM_at {s:St} {b:Nat}:∀ {cs:List A0} {i j:Nat} {c:A0},leM s b i cs→cs[j]?=some c→s.m b (i+j)=some c
  | c'::r,i,0,c,h,e=>by cases e;exact h.1
  | c'::r,i,j+1,c,h,e=>by
    have:=leM_at (j:=j) h.2 (by simpa using e)
    rw [show i+(j+1)=i+1+j by omega];exact this
theorem leB_at {s:St}:∀ {bs:List (Nat × TypeId × List A0)} {b:Nat} {q:TypeId × List A0},leB s bs→lookB bs b=some q→s.T b=some q.1∧∀ j c,q.2[j]?=some c→s.m b j=some c
  | (b',q')::r,b,q,h,e=>by
    unfold lookB at e
    split at e
    · rename_i he
      cases e
      rw [he]
      exact ⟨h.1,fun j c hc=>by have:=leM_at h.2.1 hc;rwa [Nat.zero_add] at this⟩
    · exact leB_at h.2.2 e
section
variable {P:Program} {X:Cx} {W:Nat→Prop} {w0:World} {n:Nat} {s s':St} {a:Act} {w:World} {Q:Exit→Act→World→Prop}
theorem lookB_mem:∀ {bs:List (Nat × TypeId × List A0)} {b:Nat} {y:TypeId × List A0},lookB bs b=some y→∃ p∈bs,p.2=y
  | (t',q)::r,b,y,e=>by
    unfold lookB at e
    split at e
    · cases e;exact ⟨_,List.mem_cons_self,rfl⟩
    · obtain ⟨p,hp,hx⟩:=lookB_mem e;exact ⟨p,List.mem_cons_of_mem _ hp,hx⟩
theorem sat_le {β:Pl} {gs:List (Nat × TV)} {bs:List (Nat × TypeId × List A0)} (h:Sat W w0 n β s a w) (hg:leG s gs) (hb:leB s bs) (hw:wfB gs bs=true):Sat W w0 n β (stB gs bs) a w:=by
  unfold wfB at hw
  rw [Bool.and_eq_true] at hw
  have hT:∀ b ty,(stB gs bs).T b=some ty→s.T b=some ty:=by
    intro b ty e
    obtain ⟨q,hq,rfl⟩:=Option.map_eq_some_iff.1 e
    exact (leB_at hb hq).1
  have hT':∀ b,(stB gs bs).T b≠none→s.T b≠none:=by
    intro b e
    obtain ⟨ty,hty⟩:=Option.ne_none_iff_exists'.1 e
    rw [hT b ty hty];simp
  have hm:∀ b off c,(stB gs bs).m b off=some c→s.m b off=some c:=by
    intro b off c hc
    obtain ⟨q,hq,hqc⟩:=Option.bind_eq_some_iff.1 hc
    exact (leB_at hb hq).2 off c hqc
  have live:∀ r,(lookB bs r).isSome=true→(stB gs bs).T r≠none:=fun r hr hn=>by
    rw [show lookB bs r=none from Option.map_eq_none_iff.1 hn] at hr
    cases hr
  refine { tm:=fun t x e=>h.tm t x (leG_at hg e),box:=fun b ty e=>?_,has:=fun b off e hn=>?_,refs:=fun t x e b hb'=>?_,refm:=fun b off c hc r hr=>?_,disj:=fun b b' k h1 h2=>h.disj b b' k (hT' b h1) (hT' b' h2),own:=fun b k h1=>h.own b k (hT' b h1),lt:=h.lt,below:=h.below,defers:=h.defers,size:=h.size }
  · have hB:=h.box b ty (hT b ty e)
    refine ⟨hB.one,fun e off c hc=>hB.obj e off c (hm b off c hc),fun e=>?_,fun k a0 hk hne=>⟨(hB.rst k a0 hk hne).1,fun off ho=>(hB.rst k a0 hk hne).2 off (by
      obtain ⟨c,hc⟩:=Option.ne_none_iff_exists'.1 ho
      rw [hm b off c hc];simp)⟩⟩
    obtain ⟨h3,arr,h4,h5⟩:=hB.cel e
    exact ⟨h3,arr,h4,fun off c hc=>h5 off c (hm b off c hc)⟩
  · apply e
    have:lookB bs b=none:=Option.map_eq_none_iff.1 hn
    show (lookB bs b).bind _=none
    rw [this];rfl
  · have h1:lookG gs t=some x:=e
    obtain ⟨p,hp,rfl⟩:=lookG_mem h1
    exact live b (List.all_eq_true.1 (List.all_eq_true.1 hw.1 p hp) b hb')
  · obtain ⟨q,hq,hqc⟩:=Option.bind_eq_some_iff.1 hc
    obtain ⟨p,hp,rfl⟩:=lookB_mem hq
    exact live r (List.all_eq_true.1 (List.all_eq_true.1 (List.all_eq_true.1 hw.2 p hp) c (List.mem_of_getElem? hqc)) r hr)
structure LI (α:Type) where
  gs:α→List (Nat × TV)
  bs:α→List (Nat × TypeId × List A0)
  I:α→Prop
  μ:α→Nat
def atL {α:Type} (L:LI α) (v:α) (s:St):Prop:=L.I v∧leG s (L.gs v)∧leB s (L.bs v)
def partAt:Code→List Bool→Option Code
  | c,[]=>some c
  | .seq a b,d::p=>if d=true then partAt b p else partAt a p
  | .cond _ a b,d::p=>if d=true then partAt b p else partAt a p
  | .block _ c,_::p=>partAt c p
  | .loop c,_::p=>partAt c p
  | _,_=>none
def bodyAt (fn:Func) (p:List Bool):Option Code:=match fn.body with
  | some c=>partAt c p
  | none=>none
end
section
variable {P:Program} {X:Cx} {n:Nat} {W:Nat→Prop} {w0:World} {c c' x y:Code} {kn kx kn':St→Prop} {ke ke':Nat→St→Prop} {kr kr':St→Prop} {s:St}
def SpecC (P:Program) (n:Nat) (W:Nat→Prop) (w0:World) (c:Code) (kn:St→Prop) (ke:Nat→St→Prop) (kr:St→Prop) (s:St):Prop :=
  ∀ (a:Act) (w:World) (Q:Exit→Act→World→Prop),SatE W w0 n s a w→(∀ s a w,kn s→SatE W w0 n s a w→Q .normal a w)→(∀ id s a w,ke id s→SatE W w0 n s a w→Q (.exit id) a w)→(∀ s a w,kr s→SatE W w0 n s a w→Q .ret a w)→c.wp P Q a w
theorem spec_of {o:Option Code} (h:o=some c) (h':o=some c') (k:SpecC P n W w0 c' kn ke kr s):SpecC P n W w0 c kn ke kr s:=by
  rw [h] at h';cases h';exact k
theorem spec_vc (ok:CxOk2 P X) (hmo:P.follows .mixedOrders=true) (f:Nat) (h:vc X n f c kn ke kr s):SpecC P n W w0 c kn ke kr s :=
  fun a w Q hS hn he hr=>vc_sound ok hmo f c kn ke kr s a w Q h hS hn he hr
theorem spec_seq (h:SpecC P n W w0 x kx ke kr s) (h2:∀ s',kx s'→SpecC P n W w0 y kn ke kr s'):SpecC P n W w0 (.seq x y) kn ke kr s :=
  fun a w Q hS hn he hr=>wp_seq (h a w _ hS (fun s a w hk hS=>h2 s hk a w Q hS hn he hr) (fun id s a w hk hS=>he id s a w hk hS) (fun s a w hk hS=>hr s a w hk hS))
theorem spec_skip (h:kn s):SpecC P n W w0 .skip kn ke kr s:=fun a w Q hS hn he hr=>wp_skip (hn s a w h hS)
theorem spec_block {id:Nat} (h:SpecC P n W w0 c kn (fun id' s=>if id'=id then kn s else ke id' s) kr s):SpecC P n W w0 (.block id c) kn ke kr s:=by
  intro a w Q hS hn he hr
  refine wp_block (h a w _ hS (fun s a w hk hS=>hn s a w hk hS) (fun id' s a w hk hS=>?_) (fun s a w hk hS=>hr s a w hk hS))
  show if id'=id then Q .normal a w else Q (.exit id') a w
  split
  · rename_i e;exact hn s a w (by simpa [e] using hk) hS
  · rename_i e;exact he id' s a w (by simpa [e] using hk) hS
theorem spec_mono (h:SpecC P n W w0 c kn ke kr s) (h1:∀ s,kn s→kn' s) (h2:∀ id s,ke id s→ke' id s) (h3:∀ s,kr s→kr' s):SpecC P n W w0 c kn' ke' kr' s :=
  fun a w Q hS hn he hr=>h a w Q hS (fun s a w hk hS=>hn s a w (h1 s hk) hS) (fun id s a w hk hS=>he id s a w (h2 id s hk) hS) (fun s a w hk hS=>hr s a w (h3 s hk) hS)
theorem spec_le {gs:List (Nat × TV)} {bs:List (Nat × TypeId × List A0)} (hg:leG s gs) (hb:leB s bs) (hw:wfB gs bs=true) (h:SpecC P n W w0 c kn ke kr (stB gs bs)):SpecC P n W w0 c kn ke kr s:=by
  rintro a w Q ⟨β,hS⟩ hn he hr
  exact h a w Q ⟨β,sat_le hS hg hb hw⟩ hn he hr
theorem spec_loopI {α:Type} (L:LI α) (h:∃ v,atL L v s) (h2:∀ v,L.I v→wfB (L.gs v) (L.bs v)=true∧SpecC P n W w0 c (fun s'=>∃ v',L.μ v'<L.μ v∧atL L v' s') ke kr (stB (L.gs v) (L.bs v))):SpecC P n W w0 (.loop c) kn ke kr s:=by
  intro a w Q hS hn he hr
  obtain ⟨v,hv⟩:=h
  have key:∀ m v s a w,L.μ v<m→atL L v s→SatE W w0 n s a w→Code.rounds P c Q m a w:=by
    intro m
    induction m with
    | zero=>intro v s a w h;exact absurd h (Nat.not_lt_zero _)
    | succ m ih =>
      intro v s a w hm hv hS
      obtain ⟨β,hS⟩:=hS
      have hw:=(h2 v hv.1).1
      have hS':SatE W w0 n (stB (L.gs v) (L.bs v)) a w:=⟨β,sat_le hS hv.2.1 hv.2.2 hw⟩
      exact (h2 v hv.1).2 a w _ hS' (fun s a w hk hS=>by obtain ⟨v',h1,h2⟩:=hk;exact ih v' s a w (by omega) h2 hS) (fun id s a w hk hS=>he id s a w hk hS) (fun s a w hk hS=>hr s a w hk hS)
  exact wp_loop_rounds (L.μ v+1) (key _ v s a w (by omega) hv hS)
def vch (X:Cx) (n:Nat) (f:Nat) (K:St→Prop) (ke:Nat→St→Prop) (kr:St→Prop):Nat→Code→St→Prop
  | 0,_,s=>K s
  | k+1,.seq x y,s=>vc X n f x (vch X n f K ke kr k y) ke kr s
  | _+1,_,_=>False
def restOf:Nat→Code→Code
  | 0,c=>c
  | k+1,.seq _ y=>restOf k y
  | _+1,c=>c
theorem spec_vch (ok:CxOk2 P X) (hmo:P.follows .mixedOrders=true) (f:Nat):∀ (k:Nat) (c:Code) (s:St),vch X n f kx ke kr k c s→(∀ s',kx s'→SpecC P n W w0 (restOf k c) kn ke kr s')→SpecC P n W w0 c kn ke kr s:=by
  intro k
  induction k with
  | zero=>intro c s h h2;exact h2 s h
  | succ k ih =>
    intro c s h h2
    cases c with
    | seq x y=>exact spec_seq (spec_vc ok hmo f h) (fun s' hk=>ih y s' hk h2)
    | _=>cases h
def st0 (ays:List TV):St:={ g:=fun t=>ays[t]?,m:=fun _ _=>none,T:=fun _=>none }
theorem sat0 {ays:List TV} {us:List Value} {w:World} {n:Nat} (h:All2 (TV.reads pl0 w) ays us) (hr:ays.all (fun x=>x.refs.isEmpty)=true) (hn:us.length≤n) :
    Sat (fun _=>False) w n pl0 (st0 ays) { tmps:=us.toArray++Array.replicate (n-us.toArray.size) undef,defers:=[] } w:=by
  refine { tm:=fun t x hx=>?_,box:=(fun b ty h=>by cases h),has:=fun b off h=>absurd rfl h,refs:=fun t x hx b hb=>?_,refm:=(fun b off c h=>by cases h),disj:=fun b b' k h=>absurd rfl h,own:=fun b k h=>absurd rfl h,lt:=fun k h=>h.elim,below:=Ag.refl _ _,defers:=rfl,size:=by simp;omega }
  · obtain ⟨u,hu,hru⟩:=All2.get h t x hx
    have:(us.toArray++Array.replicate (n-us.toArray.size) undef).getD t undef=u:=by
      rw [Array.getD_eq_getD_getElem?,Array.getElem?_append_left (by have:=(List.getElem?_eq_some_iff.1 hu).1;simpa using this)]
      simp [hu]
    rw [this];exact hru
  · have:=List.all_eq_true.1 hr x (List.mem_of_getElem? hx)
    rw [List.isEmpty_iff] at this
    rw [this] at hb
    cases hb
theorem fns_ret (ok:CxOk2 P X) {fid:FuncId} {fn:Func} (hf:P.funcs[fid]?=some fn) (hb:fn.body=some c) {xs:List TV} {us:List Value} {w:World} (r:CR)
    (hr:xs.all (fun x=>x.refs.isEmpty)=true) (hn:xs.length≤fn.ntmps) (h:SpecC P fn.ntmps (fun _=>False) w c (fun s=>resCR X fn.results.toList s=some r) (fun _ _=>False) (fun s=>resCR X fn.results.toList s=some r) (st0 xs))
    (hargs:All2 (TV.reads pl0 w) xs us):Ret P fid us.toArray w r:=by
  refine calls_of_wp hf hb ?_
  have hS:=sat0 hargs hr (n:=fn.ntmps) (by rw [← All2.length hargs];exact hn)
  have fin:∀ (s:St) (a:Act) (w':World),resCR X fn.results.toList s=some r→SatE (fun _=>False) w fn.ntmps s a w'→a.defers=[]∧∃ v,(results fn a.tmps).run P w' = .ok v w'∧∃ u,Ending.returned v = .returned u∧r.told w w' u∧Below w.heap.size w w':=by
    rintro s a w' hr1 ⟨β,hS⟩
    have hW:∀ b k,s.T b≠none→β.F b k→w.heap.size≤k:=fun b k hT hk=>by
      rcases (hS.own b k hT hk).2 with h1|h1
      · exact h1
      · exact h1.elim
    obtain ⟨u,h1,h2⟩:=res_run ok.toCxOk hS (fun b k hT hk _=>hW b k hT hk) (fun b hT _ k hk=>hW b k hT hk) hr1
    exact ⟨hS.defers,u,h1,u,rfl,h2,hS.below.to_below⟩
  exact h _ _ _ ⟨_,hS⟩ (fun s a w' hk hS=>fin s a w' hk hS) (fun id s a w' hk=>hk.elim) (fun s a w' hk hS=>fin s a w' hk hS)
end
end Go.Proofs.YtcgknibjbnijmaaW.Sy
end
section
set_option linter.unusedVariables false
set_option linter.unusedSimpArgs false
namespace Go.Proofs.YtcgknibjbnijmaaW.Sy
open Go RowKit YtcgknibjbnijmaaW.PrintWords YtcgknibjbnijmaaW.PrintMore YtcgknibjbnijmaaW.Aid YtcgknibjbnijmaaW.Big
def eqV:Value→Value→Bool
  | .int _ a,.int _ b=>a == b
  | .bool a,.bool b=>a == b
  | _,_=>false
def eqL:List Value→List Value→Bool
  | [],[]=>true
  | [x],[y]=>eqV x y
  | x::xs,y::ys=>eqV x y&&eqL xs ys
  | _,_=>false
def rep {α:Type} (l:List α):Nat→List α
  | 0=>[]
  | n+1=>l++rep l n
mutual
/-- What a struct's cells are,in line (arr: also of arrays). -/
def lvs (P:Program) (arr:Bool):Nat→TypeId→Option (List (Option IntKind))
  | 0,_=>none
  | d + 1, T => match P.underlying T, P.info? T with
    | some (.int k),some inf=>if inf.size=1 then some [some k] else none
    | some .bool,some inf=>if inf.size=1 then some [none] else none
    | some (.struct fs),some inf=>if P.stoodInHeld T then none else match lvsF P arr d fs.toList 0 with
      | some ks=>if inf.size=ks.length then some ks else none
      | none=>none
    | some (.array n e),some inf=>if arr then match lvs P arr d e with
      | some ks=>if inf.size=(rep ks n).length then some (rep ks n) else none
      | none=>none
      else none
    | _,_=>none
def lvsF (P:Program) (arr:Bool):Nat→List Field→Nat→Option (List (Option IntKind))
  | _,[],_=>some []
  | 0,_::_,_=>none
  | d + 1, f :: fs, off => if f.name = "_" ∨ f.offset ≠ off then none else match lvs P arr d f.type with
    | some (k::ks)=>match lvsF P arr d fs (off+(k::ks).length) with
      | some r=>some (k::ks++r)
      | none=>none
    | _=>none
end
section
variable {P:Program}
theorem run_isAgg' {T:TypeId} {d:TypeDesc} (hu:P.underlying T=some d) (w:World):(isAgg T).run P w = .ok (descAgg d) w:=by
  simp only [isAgg,Sem.run_bind,run_underlying hu,Result.andThen_ok]
  cases d<;>rfl
end
def eqI:List Int→List Int→Bool
  | [],[]=>true
  | x::xs,y::ys=>(x == y)&&eqI xs ys
  | _,_=>false
theorem eqI_iff:∀ {xs ys:List Int},eqI xs ys=true↔xs=ys
  | [],[]=>by simp [eqI]
  | x::xs,y::ys=>by simp [eqI,eqI_iff]
  | [],_::_=>by simp [eqI]
  | _::_,[]=>by simp [eqI]
theorem items_run {P:Program} {k:IntKind} {e:TypeId} (hu:P.underlying e=some (.int k)) (D:Nat) (w:World) {a b:List Int}:∀ (r j:Nat),j+r=a.length→a.length=b.length →
    (Op.eqItems (D+1) e 1 (a.map (Value.int k)).toArray (b.map (Value.int k)).toArray (List.range' j r)).run P w = .ok (eqI (a.drop j) (b.drop j)) w
  | 0,j,h,hl=>by
    rw [List.drop_of_length_le (by omega),List.drop_of_length_le (by omega)]
    simp [Op.eqItems,eqI]
  | r + 1, j, h, hl => by
    have hja:j<a.length:=by omega
    have hjb:j<b.length:=by omega
    rw [List.range'_succ,List.drop_eq_getElem_cons hja,List.drop_eq_getElem_cons hjb]
    have pa:(part e (a.map (Value.int k)).toArray (j*1)).run P w = .ok (.int k a[j]) w:=by
      simp [part,run_isAgg' hu,descAgg,hja]
    have pb:(part e (b.map (Value.int k)).toArray (j*1)).run P w = .ok (.int k b[j]) w:=by
      simp [part,run_isAgg' hu,descAgg,hjb]
    have pe:(Op.equalIn (D+1) e (.int k a[j]) (.int k b[j])).run P w = .ok (a[j] == b[j]) w:=run_equalIn_int w D e k k _ _ hu
    simp only [Op.eqItems,Sem.run_bind,pa,pb,pe,Result.andThen_ok,eqI]
    cases hab:(a[j] == b[j]) with
    | false=>simp
    | true =>
      simp only [Bool.not_true,Bool.false_eq_true,if_false,Bool.true_and]
      exact items_run hu D w r (j+1) (by omega) hl
def eqaCells (k:IntKind) (m:Nat) (xs ys:List A0):Option Bool:=match numsOf k xs,numsOf k ys with
  | some a,some b=>if a.length=m∧b.length=m then some (eqI a b) else none
  | _,_=>none
def eqaOk (P:Program) (T:TypeId) (k:IntKind) (m:Nat):Bool:=(match P.underlying T with
  | some (.array n e)=>decide (n=m)&&(match P.underlying e with|some (.int k')=>decide (k'=k)|_=>false)&&decide ((P.info? e).map (·.size)=some 1)
  | _=>false)&&!P.eqGuardType P.depth T
def eqA (P:Program) (T:TypeId) (k:IntKind) (m:Nat) (h:eqaOk P T k m=true):EqT P where
  T:=T
  sem:=eqaCells k m
  ok := by
    intro xs ys z hz β us vs w x y hx hy
    unfold eqaOk at h
    simp only [Bool.and_eq_true] at h
    obtain ⟨h1,h2⟩:=h
    have hg:P.eqGuardType P.depth T=false:=by simpa using h2
    refine ⟨run_eqGuard_agg w .eql T x y _ _ hg,run_eqGuard_agg w .neq T x y _ _ hg,?_⟩
    split at h1
    · rename_i n' e hu
      simp only [Bool.and_eq_true] at h1
      obtain ⟨⟨h3,h4⟩,h5⟩:=h1
      have hn:=of_decide_eq_true h3
      subst hn
      split at h4
      · rename_i k' hk
        have:=of_decide_eq_true h4
        subst this
        obtain ⟨inf,hi,hs⟩:=Option.map_eq_some_iff.1 (of_decide_eq_true h5)
        unfold eqaCells at hz
        split at hz
        · rename_i a b ha hb
          split at hz
          · rename_i hl
            cases hz
            have e1:=nums_reads xs ha hx
            have e2:=nums_reads ys hb hy
            subst e1 e2
            have hc:P.cellsOf e=1:=by unfold Program.cellsOf;rw [hi];exact hs
            show (Op.equalIn (9999+1) T _ _).run P w=_
            rw [run_equalIn_array w 9999 _ _ hu hi,hc,List.range_eq_range']
            have:=items_run (P:=P) hk 9998 w (a:=a) (b:=b) n' 0 (by omega) (by omega)
            simpa using this
          · cases hz
        · cases hz
      · cases h4
    · cases h1
end Go.Proofs.YtcgknibjbnijmaaW.Sy
end
section
namespace Go.Proofs.YtcgknibjbnijmaaW.PrintWords
theorem Reps.one {α:Type} {R:α→List Value→Prop} {ps:List α} {cs:List Value} {p:α} {v:Value} (hp:R p [v]) (h:Reps R 1 ps cs):Reps R 1 (p::ps) (v::cs):=by
  refine ⟨by simp [h.1],fun j q hq=>?_⟩
  cases j with
  | zero =>
    simp only [List.getElem?_cons_zero,Option.some.injEq] at hq
    subst hq
    simpa using hp
  | succ j =>
    simp only [List.getElem?_cons_succ] at hq
    have h1:=h.2 j q hq
    simpa [Nat.mul_one] using h1
theorem Reps.front {α:Type} {R:α→List Value→Prop} {size:Nat} {ps:List α} {cs c all:List Value} {p:α} (hp:R p c) (hc:c.length=size) (h:Reps R size ps cs) (ha:c++cs=all):Reps R size (p::ps) all:=by
  subst ha
  refine ⟨by rw [List.length_append,hc,h.1,List.length_cons,Nat.succ_mul,Nat.add_comm],fun j q hq=>?_⟩
  cases j with
  | zero =>
    simp only [List.getElem?_cons_zero,Option.some.injEq] at hq
    subst hq
    rw [Nat.zero_mul,List.drop_zero,List.take_append_of_le_length (by omega),List.take_of_length_le (by omega)]
    exact hp
  | succ j =>
    simp only [List.getElem?_cons_succ] at hq
    have h1:=h.2 j q hq
    rw [Nat.succ_mul,List.drop_append,List.drop_of_length_le (by rw [hc];exact Nat.le_add_left _ _),List.nil_append,hc,Nat.add_sub_cancel]
    exact h1
theorem Reps.c2 {α:Type} {R:α→List Value→Prop} {ps:List α} {cs:List Value} {p:α} {va vb:Value} (hp:R p [va,vb]) (h:Reps R 2 ps cs):Reps R 2 (p::ps) (va::vb::cs):=Reps.front hp rfl h rfl
theorem Reps.c3 {α:Type} {R:α→List Value→Prop} {ps:List α} {cs:List Value} {p:α} {va vb vc:Value} (hp:R p [va,vb,vc]) (h:Reps R 3 ps cs):Reps R 3 (p::ps) (va::vb::vc::cs):=Reps.front hp rfl h rfl
theorem Reps.c4 {α:Type} {R:α→List Value→Prop} {ps:List α} {cs:List Value} {p:α} {va vb vc vd:Value} (hp:R p [va,vb,vc,vd]) (h:Reps R 4 ps cs):Reps R 4 (p::ps) (va::vb::vc::vd::cs):=Reps.front hp rfl h rfl
theorem Reps.c5 {α:Type} {R:α→List Value→Prop} {ps:List α} {cs:List Value} {p:α} {va vb vc vd ve:Value} (hp:R p [va,vb,vc,vd,ve]) (h:Reps R 5 ps cs):Reps R 5 (p::ps) (va::vb::vc::vd::ve::cs):=Reps.front hp rfl h rfl
end Go.Proofs.YtcgknibjbnijmaaW.PrintWords
end
section
namespace Go.Proofs.YtcgknibjbnijmaaW.PrintWords
open RowKit
section
variable {P:Program} {ops:Array Oper} {rest:List Oper} {o:Oper} {a:Act} {Q:Exit→Act→World→Prop} {W:World}
theorem gate_guard (hw:Region.wanted o (yielded ops a.tmps)=true) (h:wpList P ops Q ({ o with guard:=none }::rest) a W):wpList P ops Q (o::rest) a W:=by
  have h1:Region.wanted { o with guard:=none } (yielded ops a.tmps)=true:=rfl
  unfold wpList at h ⊢
  rw [if_pos h1] at h
  rw [if_pos hw]
  exact h
end
end Go.Proofs.YtcgknibjbnijmaaW.PrintWords
end
