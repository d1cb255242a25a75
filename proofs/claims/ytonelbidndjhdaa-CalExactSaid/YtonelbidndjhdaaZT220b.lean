/- Part of a proof: texts of this session, one behind the other, and words that print.sh printed for this seat, of these only those that the proof leans on (wip/tools/pack.py). -/
import Derived.Test.YtonelbidndjhdaaZT220a
import Derived.Test.YtonelbidndjhdaaProg
import Derived.Below
import Derived.Deep.Draws
import Derived.Deep.AppendLies
import Derived.Maps.AppendAt
import Derived.OwnWalk
import Derived.Laws.BytesArg
import Derived.Laws.MakeOwn
import Derived.Laws.OwnMore
import Derived.Deep.OwnRows
import Derived.Tactics
import Derived.Lib.ConvBytes
import Derived.Laws.Slices
import Derived.WalkKit
import Derived.KernelRfl
import Derived.RowKit3
import Derived.Deep.LoopGhost
import Derived.Deep.QuietTactic
import Derived.BigQuiet
import Derived.WideLaws
import Derived.Deep.DeepCutAuto
import Derived.Deep.CutBlock
import Derived.Deep.RegionHeld3
import Derived.Laws.Rows
import Derived.Lib.AppendStr
import Derived.ArgAppend
import Derived.Laws.IdiomCopy
import Derived.OrdersHeld
import Derived.Laws.BitsLemmas
import Derived.RowKit
import Derived.Laws.StructEq
import Derived.Deep.WholeRow
import Derived.Outline
import Derived.Lib.SliceRun
import Derived.Laws.Externs
import Derived.Shelf.Small.Bits
import Derived.Lib.ItoaNum
import Derived.BigRegion
section
set_option linter.unusedVariables false
namespace Go.Proofs.Ytonelbidndjhdaa.CloneW
open RowKit YtonelbidndjhdaaW.PrintWords YtonelbidndjhdaaW.PrintLast YtonelbidndjhdaaW.PrintMore YtonelbidndjhdaaW.Aid
theorem info:(Try.prog.info? 104).map (fun i=>(i.zero,i.size,i.bytes))=some (some (.int .u64 0),1,8):=by kernel_rfl
set_option maxRecDepth 10000 in
set_option maxHeartbeats 400000 in
theorem bytes_calls (l:List Int) (A:Option Addr) (c:Nat) (w:World) (hr:Kd.C (Kd.int .u64) w A l.length l) (hle:l.length≤c) (hm:l.length*8≤140737488355328) :
    Calls Try.prog 98 #[.slice A l.length c] w fun e w'=>∃ v,e = .returned v∧Kd.R (Kd.int .u64) 104 w' w.heap.size (fun _=>True) v l∧Below w.heap.size w w':=by
  have HR:=Aside0.mk hr
  have HM:=Aside0.mk hm
  have HL:=Aside0.mk hle
  clear hr hm hle
  cases A with
  | none =>
    have hn1:=Lib.run_eql_slice_nil (P:=Try.prog) w 82 104 none 0 c 0 0 Try.underlying82
    have e:l=[]:=by
      have h:=HR.out.2.2
      by_cases hl:0<l.length
      · obtain ⟨ad,h1,_⟩:=h hl
        cases h1
      · exact List.length_eq_zero_iff.1 (by omega)
    subst e
    go_enter Try.func98,Try.ntmps98
    go_wp2
    go_ret
    exact ⟨.slice none 0 0,rfl,Kd.R_nil _ _ _ _ _,Below.refl _ _⟩
  | some ad =>
    have hn1:=Lib.run_eql_slice_nil (P:=Try.prog) w 82 104 (some ad) l.length c 0 0 Try.underlying82
    go_enter Try.func98,Try.ntmps98
    have h0:Kd.R (Kd.int .u64) 104 (w.alloc (.cells #[] 104)) w.heap.size (fun _=>True) (.slice (some ⟨w.heap.size,0,none⟩) 0 0) [] :=
      Kd.R_of_own ⟨rfl,.inr ⟨w.heap.size,0,#[],rfl,Nat.le_refl _,blk_new _ _,Nat.le_refl _,by decide,rfl,rfl⟩⟩ (fun _ _=>trivial)
    have H0:=Aside0.mk h0
    clear h0
    go_wp2_with (first|((with_reducible refine gate_builtin (b := .append) (xs:=#[.tmp 5,.tmp 6]) rfl ?_);at_builtin;refine Kd.R_append_rows (Kd.int .u64) (w0:=w) w.heap.size rfl (.tmp 5) (.tmp 6) 82 104 (.int .u64 0) 8 rfl Try.underlying82 info rfl (by decide) (by omega) (.slice (some ⟨w.heap.size,0,none⟩) 0 0) [] l _ _ _ (fun _=>True) (fun _=>False) rfl rfl H0.out (Kd.C_alloc HR.out _) (fun _ _ h=>h) (fun _ h=>h.elim) (fun _ _=>trivial) (below_alloc (Below.refl _ _) _) (by simp) (by have:=HM.out;simp;omega) ?_;intro v1 w1 ho hb hg hat;have HO:=Aside0.mk ho;have HB:=Aside0.mk hb;clear ho hb hg hat))
    go_ret
    exact ⟨v1,rfl,HO.out,HB.out⟩
end Go.Proofs.Ytonelbidndjhdaa.CloneW
set_option linter.unusedVariables false
namespace Go.Proofs.Ytonelbidndjhdaa.Limbs
open RowKit YtonelbidndjhdaaW.PrintWords YtonelbidndjhdaaW.PrintLast YtonelbidndjhdaaW.PrintMore YtonelbidndjhdaaW.Aid YtonelbidndjhdaaW.Big
def Blk (w:World) (g:Nat) (l:List Int):Prop:=∃ ex:Array Value,w.heap[g]?=some (.cells (lc l++ex) 104 (0,0))
theorem Blk.cell {w:World} {g:Nat} {l:List Int} (h:Blk w g l) {i:Nat} (hi:i<l.length):w.cell? ⟨g,i,none⟩=some (.int .u64 (rd l i)):=by
  obtain ⟨ex,h⟩:=h
  refine (blk_cell h i).trans ?_
  rw [Array.getElem?_append_left (by rw [lc_size];exact hi)]
  exact lc_at hi
theorem Blk.frozen {w:World} {g:Nat} {l:List Int} (h:Blk w g l) (i:Nat):w.frozen? ⟨g,i,none⟩=false:=by
  obtain ⟨ex,h⟩:=h
  exact blk_frozen h i
theorem Blk.put {w:World} {g:Nat} {l:List Int} (h:Blk w g l) {i:Nat} (hi:i<l.length) (v:Int):Blk (w.setCell ⟨g,i,none⟩ (.int .u64 v)) g (l.set i v):=by
  obtain ⟨ex,h⟩:=h
  refine ⟨ex,blk_put h i _ ?_⟩
  rw [← lc_set,Array.setIfInBounds_append_left]
  rw [lc_size];exact hi
theorem Blk.rdn {w:World} {g:Nat} {l:List Int} (h:Blk w g l) {n c:Nat} (hn:n≤l.length) (hc:n≤c) (hm:n≤9223372036854775807):Rd w (l.take n) (some ⟨g,0,none⟩) c:=by
  have hl:(l.take n).length=n:=by simp;omega
  refine ⟨by omega,?_⟩
  refine ⟨rfl,by omega,fun _=>⟨_,rfl,fun j p hj=>⟨[.int .u64 p],rfl,rfl,fun i u hu=>?_⟩⟩⟩
  have hi:i=0:=by
    cases i with
    | zero=>rfl
    | succ i=>simp at hu
  subst hi
  simp at hu
  subst hu
  have hjn:j<n:=by have:=(List.getElem?_eq_some_iff.1 hj).1;omega
  have e:p=rd l (j:Int):=by
    rw [rd_nat (by omega)]
    rw [List.getElem?_take_of_lt hjn,List.getElem?_eq_getElem (by omega)] at hj
    exact (Option.some.inj hj).symm
  have:=h.cell (i:=j) (by omega)
  rw [e,← this]
  show w.cell? ((⟨g,0,none⟩:Addr).add (j*1+0))=_
  congr 1
  simp [Addr.add]
  omega
theorem Blk.all {w:World} {g:Nat} {l:List Int} (h:Blk w g l) {c:Nat} (hc:l.length≤c) (hm:l.length≤9223372036854775807):Rd w l (some ⟨g,0,none⟩) c:=(h.rdn (Nat.le_refl _) hc hm).of_eq (List.take_length)
theorem Blk.drop {w:World} {g:Nat} {l:List Int} (h:Blk w g l) {k c:Nat} (hk:k≤l.length) (hc:l.length-k≤c) (hm:l.length≤9223372036854775807):Rd w (l.drop k) (some ⟨g,k,none⟩) c:=by
  have hl:(l.drop k).length=l.length-k:=by simp
  refine ⟨by omega,?_⟩
  refine ⟨rfl,by omega,fun _=>⟨_,rfl,fun j p hj=>⟨[.int .u64 p],rfl,rfl,fun i u hu=>?_⟩⟩⟩
  have hi:i=0:=by
    cases i with
    | zero=>rfl
    | succ i=>simp at hu
  subst hi
  simp at hu
  subst hu
  have hjn:j<l.length-k:=by have:=(List.getElem?_eq_some_iff.1 hj).1;omega
  have e:p=rd l ((k+j:Nat):Int):=by
    rw [rd_nat (by omega)]
    rw [List.getElem?_drop,List.getElem?_eq_getElem (by omega)] at hj
    exact (Option.some.inj hj).symm
  have:=h.cell (i:=k+j) (by omega)
  rw [e,← this]
  show w.cell? ((⟨g,k,none⟩:Addr).add (j*1+0))=_
  congr 1
  simp [Addr.add]
theorem Blk.below {w w1:World} {g:Nat} {l:List Int} (h:Blk w g l) (hb:Below w.heap.size w w1):Blk w1 g l:=by
  obtain ⟨ex,h⟩:=h
  refine ⟨ex,?_⟩
  rw [hb.block g (by exact (Array.getElem?_eq_some_iff.1 h).1)]
  exact h
theorem Blk.new (w:World) (l:List Int):Blk (w.alloc (.cells (lc l) 104)) w.heap.size l:=⟨#[],by rw [Array.append_empty];exact blk_new w _⟩
theorem Blk.lt {w:World} {g:Nat} {l:List Int} (h:Blk w g l):g<w.heap.size:=by
  obtain ⟨ex,h⟩:=h
  exact (Array.getElem?_eq_some_iff.1 h).1
def CloneRet (l:List Int) (w:World) (e:Ending) (w':World):Prop :=
  Below w.heap.size w w'∧((l=[]∧e = .returned (.slice none 0 0))∨∃ g c,e = .returned (.slice (some ⟨g,0,none⟩) l.length c)∧w.heap.size≤g∧l.length≤c∧l.length≤9223372036854775807∧Blk w' g l)
theorem clone_calls (l:List Int) (A:Option Addr) (c:Nat) (w:World) (hr:Rd w l A c) (hm:l.length≤100000):Calls Try.prog 98 #[.slice A l.length c] w (CloneRet l w):=by
  refine (CloneW.bytes_calls l A c w hr.2 hr.1 (by omega)).mono ?_
  rintro e w' ⟨v,rfl,hR,hB⟩
  refine ⟨hB,?_⟩
  have hO:=Kd.own_of_R hR
  obtain ⟨h1,h2|⟨g,cap,cur,hv,hg,hcur,hn,hcap,hsz,htk⟩⟩:=hO
  · refine .inl ⟨List.length_eq_zero_iff.1 h2.2,by rw [h2.1]⟩
  · refine .inr ⟨g,cap,by rw [hv],hg,hn,by omega,cur.extract l.length cur.size,?_⟩
    rw [hcur]
    congr 2
    apply Array.ext'
    rw [Array.toList_append,Array.toList_extract]
    simp only [Nat.mul_one] at htk
    have e1:(lc l).toList=cur.toList.take l.length:=by rw [htk];simp [lc,encs]
    rw [e1]
    have:(cur.toList.drop l.length).take (cur.size-l.length)=cur.toList.drop l.length:=List.take_of_length_le (by simp)
    rw [List.extract_eq_take_drop,this,List.take_append_drop]
end Go.Proofs.Ytonelbidndjhdaa.Limbs
set_option linter.unusedVariables false
namespace Go.Proofs.Ytonelbidndjhdaa.Limbs
open RowKit YtonelbidndjhdaaW.PrintWords YtonelbidndjhdaaW.PrintLast YtonelbidndjhdaaW.PrintMore YtonelbidndjhdaaW.Aid YtonelbidndjhdaaW.Big
section
set_option maxRecDepth 10000
set_option maxHeartbeats 1000000
def SubInv (a b:List Int) (i:Nat) (bw:Int) (cs:List Int):Prop :=
  cs.length=a.length∧Dig cs∧0≤bw∧bw≤1∧(∀ j:Nat,i≤j→rd cs j=rd a j)∧val (cs.take i)+val (b.take i)=val (a.take i)+18446744073709551616 ^ i*bw.toNat
theorem SubInv.start {a b:List Int} (h:Dig a):SubInv a b 0 0 a:=⟨rfl,h,by omega,by omega,fun _ _=>rfl,by simp [val]⟩
theorem SubInv.step {a b cs:List Int} {i:Nat} {bw:Int} (h:SubInv a b i bw cs) (hi:i<a.length) {x y r bw':Int} (hx:rd a i=x) (hy:(i<b.length∧rd b i=y∧0≤y)∨(b.length≤i∧y=0)) (hx0:0≤x) (hr0:0≤r) (hr1:r<18446744073709551616) (hb0:0≤bw') (hb1:bw'≤1)
    (e:r+y+bw=x+18446744073709551616*bw'):SubInv a b (i+1) bw' (cs.set i r):=by
  obtain ⟨h1,h2,h3,h4,h5,h6⟩:=h
  refine ⟨by simpa using h1,h2.set i hr0 hr1,hb0,hb1,fun j hj=>?_,?_⟩
  · rw [rd_set_ne _ (by omega)]
    exact h5 j (by omega)
  · have eb:val (b.take (i+1))=val (b.take i)+18446744073709551616 ^ i*y.toNat:=by
      rcases hy with ⟨h,rfl,_⟩|⟨h,rfl⟩
      · exact val_take_succ h
      · rw [take_ge h];simp
    have hy0:0≤y:=by rcases hy with ⟨_,_,h⟩|⟨_,h⟩<;>omega
    rw [val_set_take (by omega),val_take_succ hi,eb,hx,Nat.pow_succ,Nat.mul_assoc]
    have e':r.toNat+y.toNat+bw.toNat=x.toNat+18446744073709551616*bw'.toNat:=by omega
    have:=congrArg (18446744073709551616 ^ i*·) e'
    simp only [Nat.mul_add] at this
    omega
theorem SubInv.done {a b cs:List Int} {bw:Int} (h:SubInv a b a.length bw cs) (hv:val b≤val a) (hl:b.length≤a.length):Dig cs∧val cs=val a-val b∧cs.length=a.length:=by
  obtain ⟨h1,h2,h3,h4,h5,h6⟩:=h
  have hlt:=val_lt h2
  rw [List.take_of_length_le (by omega),List.take_of_length_le hl,List.take_length] at h6
  rw [h1] at hlt
  have hbw:bw.toNat=0:=by
    rcases Nat.eq_zero_or_pos bw.toNat with h|h
    · exact h
    · have:bw.toNat=1:=by omega
      rw [this] at h6
      omega
  rw [hbw] at h6
  exact ⟨h2,by omega,h1⟩
theorem sub_y {y bw s:Int} (hy0:0≤y) (hy1:y<18446744073709551616) (hc0:0≤bw) (hc1:bw≤1) (h:IntKind.u64.wrap (bw+y)=s):(¬ s<y∧s=bw+y∧0≤s∧s<18446744073709551616)∨(s<y∧bw=1∧y=18446744073709551615∧s=0):=by
  rw [u64_wrap] at h
  omega
theorem sub_x {x s r:Int} (hx0:0≤x) (hx1:x<18446744073709551616) (hs0:0≤s) (hs1:s<18446744073709551616) (h:IntKind.u64.wrap (x-s)=r):0≤r∧r<18446744073709551616∧((¬ x<s∧r=x-s)∨(x<s∧r=x-s+18446744073709551616)):=by
  rw [u64_wrap] at h
  omega
theorem sub_calls (a b:List Int) (A A':Option Addr) (c c':Nat) (w:World) (hda:Dig a) (hdb:Dig b) (hr:Rd w a A c) (hr':Rd w b A' c') (hla:a.length≤1000) (hl:b.length≤a.length) (hv:val b≤val a) :
    Calls Try.prog 104 #[.slice A a.length c,.slice A' b.length c'] w (RetRd (limbs (val a-val b)) w):=by
  have HR:=Aside0.mk hr
  have HR':=Aside0.mk hr'
  have DA:=Aside0.mk hda
  have DB:=Aside0.mk hdb
  have HV:=Aside0.mk hv
  clear hr hr' hda hdb hv
  go_enter Try.func104,Try.ntmps104
  go_wp2_with fail
  refine (clone_calls a A c _ HR.out (by omega)).mono ?_
  rintro e w1 ⟨hB1,⟨hnil,rfl⟩|⟨g,cp,rfl,hg,hcp,hm,hblk1⟩⟩
  · have HB1:=Aside0.mk hB1
    have e0:Aside0 (limbs (val a-val b)=[]):=⟨by rw [hnil,show val []=0 from rfl,Nat.zero_sub,limbs_zero]⟩
    clear hB1
    subst hnil
    go_wp2_with fail
    go_loopw [6,13] (fun v6 v13 wr=>v13 = .int .i64 0∧w1=wr) (fun _ _ _=>0)
    case atStart=>exact ⟨rfl,rfl⟩
    case round =>
      obtain ⟨rfl,rfl⟩:=hrel
      go_wp2_with fail
      refine (trim_calls [] none 0 _ (fun x hx=>by simp at hx) (Rd.nil _)).mono ?_
      rintro e w2 ⟨A2,c2,rfl,hr2,hB2⟩
      go_wp2
      go_ret
      refine ⟨A2,c2,?_,?_,HB1.out.trans (hB2.mono HB1.out.size)⟩
      · rw [e0.out,show limbs (val [])=[] from limbs_zero];rfl
      · rw [e0.out];exact hr2.of_eq limbs_zero
  · have HB1:=Aside0.mk hB1
    have hg:=Aside0.mk hg
    have hcp:=Aside0.mk hcp
    have hblk1:=Aside0.mk hblk1
    have hm:=Aside0.mk hm
    clear hB1
    go_wp2_with fail
    go_loopw [6,13] (fun v6 v13 wr=>∃ (i:Nat) (bw:Int) (cs:List Int),i≤a.length∧v13 = .int .i64 i∧v6 = .int .u64 bw∧Aside0 (SubInv a b i bw cs)∧Aside0 (Blk wr g cs)∧Aside0 (Below w.heap.size w wr)) (fun _ v13 _=>a.length-(intOf v13).toNat)
    case atStart=>exact ⟨0,0,a,by omega,rfl,rfl,⟨SubInv.start DA.out⟩,hblk1,HB1⟩
    case round =>
      obtain ⟨i,bw,cs,hi,rfl,rfl,hI,hblk,hB⟩:=hrel
      have hcl:=hI.out.1
      have hc0:=hI.out.2.2.1
      have hc1:=hI.out.2.2.2.1
      by_cases hil:i<a.length
      · have hfz:=hblk.out.frozen i
        have hcw:wr.cell? ⟨g,i,none⟩=some (.int .u64 (rd a i)):=by rw [← hI.out.2.2.2.2.1 i (Nat.le_refl _)];exact hblk.out.cell (by omega)
        have hx:=Aside0.mk (DA.out.rd (i:=(i:Int)) (by omega) (by omega))
        generalize hxx:rd a i=x at *
        have hxx:=Aside0.mk hxx
        by_cases hib:i<b.length
        · have hib1:decide (i<b.length)=true:=decide_eq_true hib
          have hib2:decide ((i:Int)<(b.length:Int))=true:=decide_eq_true (by omega)
          obtain ⟨ad',rfl,hcell'⟩:=Kd.at_int (HR'.out.below hB.out).2 (i:Int) (by omega) (by omega)
          simp only [Int.toNat_natCast] at hcell'
          have hy:=Aside0.mk (DB.out.rd (i:=(i:Int)) (by omega) (by omega))
          generalize hyy:rd b i=y at *
          have hyy:=Aside0.mk hyy
          obtain ⟨s,hs⟩:∃ s,IntKind.u64.wrap (bw+y)=s:=⟨_,rfl⟩
          have hS:=Aside0.mk (sub_y hy.out.1 hy.out.2 hc0 hc1 hs)
          obtain ⟨r,hr⟩:∃ r,IntKind.u64.wrap (x-s)=r:=⟨_,rfl⟩
          have hR:=Aside0.mk (sub_x hx.out.1 hx.out.2 (by have:=hS.out;omega) (by have:=hS.out;omega) hr)
          by_cases c1:s<y
          · have c1b:decide (s<y)=true:=decide_eq_true c1
            have c2:¬ x<s:=by have:=hR.out;have:=hS.out;have:=hx.out;omega
            have c2b:decide (x<s)=false:=decide_eq_false c2
            have fin:=Aside0.mk (hI.out.step hil (x:=x) (y:=y) (r:=r) (bw':=1) hxx.out (.inl ⟨hib,hyy.out,hy.out.1⟩) hx.out.1 hR.out.1 hR.out.2.1 (by omega) (by omega) (by have:=hR.out;have:=hS.out;have:=hy.out;have:=hx.out;omega))
            clear c1 c2
            go_wp2
            go_roundw
            case rel=>exact ⟨i+1,1,cs.set i r,by omega,by go_num,rfl,fin,⟨hblk.out.put (by omega) r⟩,⟨below_set hB.out hg.out⟩⟩
            case measure=>simp [intOf];omega
          · have c1b:decide (s<y)=false:=decide_eq_false c1
            by_cases c2:x<s
            · have c2b:decide (x<s)=true:=decide_eq_true c2
              have fin:=Aside0.mk (hI.out.step hil (x:=x) (y:=y) (r:=r) (bw':=1) hxx.out (.inl ⟨hib,hyy.out,hy.out.1⟩) hx.out.1 hR.out.1 hR.out.2.1 (by omega) (by omega) (by have:=hR.out;have:=hS.out;have:=hy.out;have:=hx.out;omega))
              clear c1 c2
              go_wp2
              go_roundw
              case rel=>exact ⟨i+1,1,cs.set i r,by omega,by go_num,rfl,fin,⟨hblk.out.put (by omega) r⟩,⟨below_set hB.out hg.out⟩⟩
              case measure=>simp [intOf];omega
            · have c2b:decide (x<s)=false:=decide_eq_false c2
              have fin:=Aside0.mk (hI.out.step hil (x:=x) (y:=y) (r:=r) (bw':=0) hxx.out (.inl ⟨hib,hyy.out,hy.out.1⟩) hx.out.1 hR.out.1 hR.out.2.1 (by omega) (by omega) (by have:=hR.out;have:=hS.out;have:=hy.out;have:=hx.out;omega))
              clear c1 c2
              go_wp2
              go_roundw
              case rel=>exact ⟨i+1,0,cs.set i r,by omega,by go_num,rfl,fin,⟨hblk.out.put (by omega) r⟩,⟨below_set hB.out hg.out⟩⟩
              case measure=>simp [intOf];omega
        · have hib1:decide (i<b.length)=false:=decide_eq_false hib
          have hib2:decide ((i:Int)<(b.length:Int))=false:=decide_eq_false (by omega)
          obtain ⟨r,hr⟩:∃ r,IntKind.u64.wrap (x-bw)=r:=⟨_,rfl⟩
          have hR:=Aside0.mk (sub_x hx.out.1 hx.out.2 hc0 (by omega) hr)
          by_cases c2:x<bw
          · have c2b:decide (x<bw)=true:=decide_eq_true c2
            have fin:=Aside0.mk (hI.out.step hil (x:=x) (y:=0) (r:=r) (bw':=1) hxx.out (.inr ⟨by omega,rfl⟩) hx.out.1 hR.out.1 hR.out.2.1 (by omega) (by omega) (by have:=hR.out;have:=hx.out;omega))
            clear c2
            go_wp2
            go_roundw
            case rel=>exact ⟨i+1,1,cs.set i r,by omega,by go_num,rfl,fin,⟨hblk.out.put (by omega) r⟩,⟨below_set hB.out hg.out⟩⟩
            case measure=>simp [intOf];omega
          · have c2b:decide (x<bw)=false:=decide_eq_false c2
            have fin:=Aside0.mk (hI.out.step hil (x:=x) (y:=0) (r:=r) (bw':=0) hxx.out (.inr ⟨by omega,rfl⟩) hx.out.1 hR.out.1 hR.out.2.1 (by omega) (by omega) (by have:=hR.out;have:=hx.out;omega))
            clear c2
            go_wp2
            go_roundw
            case rel=>exact ⟨i+1,0,cs.set i r,by omega,by go_num,rfl,fin,⟨hblk.out.put (by omega) r⟩,⟨below_set hB.out hg.out⟩⟩
            case measure=>simp [intOf];omega
      · obtain rfl:i=a.length:=by omega
        have hfin:=Aside0.mk (hI.out.done HV.out hl)
        have hrd:=Aside0.mk (hblk.out.all (c:=cp) (by have:=hcp.out;omega) (by have:=hm.out;omega))
        go_wp2_with fail
        have h:=trim_calls cs (some ⟨g,0,none⟩) cp _ hfin.out.1 hrd.out
        rw [hcl] at h
        refine h.mono ?_
        rintro e w2 ⟨A2,c2,rfl,hr2,hB2⟩
        go_wp2
        go_ret
        exact ⟨A2,c2,by rw [hfin.out.2.1];rfl,by rw [← hfin.out.2.1];exact hr2,hB.out.trans (hB2.mono hB.out.size)⟩
end
end Go.Proofs.Ytonelbidndjhdaa.Limbs
end
section
set_option linter.unusedVariables false
namespace Go.Proofs.Ytonelbidndjhdaa.BitsWalk
open RowKit YtonelbidndjhdaaW.PrintWords YtonelbidndjhdaaW.PrintLast YtonelbidndjhdaaW.PrintMore YtonelbidndjhdaaW.Aid
theorem wraps_u64 (n:Int) (h₀:0≤n) (h₁:n<2 ^ 64):IntKind.u64.wrap n=n:=by rw [u64_wrap];omega
theorem and32 {x:Int} (h0:0≤x) (h1:x<18446744073709551616):Go.bits .and .u64 x 4294967295=x%4294967296 :=
  bits_mask .u64 64 (by decide) wraps_u64 32 (by decide) x h0 h1
theorem ret2 {k k':IntKind} {a b a' b':Int} (h:a=a') (h':b=b'):Ending.returned (.tuple #[.int k a,.int k' b]) = .returned (.tuple #[.int k a',.int k' b']):=by rw [h,h']
theorem prod_bd {a b:Int} (ha:0≤a) (ha1:a<4294967296) (hb:0≤b) (hb1:b<4294967296):0≤a*b∧a*b≤18446744065119617025:=by
  refine ⟨Int.mul_nonneg ha hb,?_⟩
  have h:a*b≤4294967295*4294967295:=Int.mul_le_mul (by omega) (by omega) hb (by omega)
  omega
theorem mul64_hi {x y:Int} (hx:0≤x) (hx1:x<18446744073709551616) (hy:0≤y) (hy1:y<18446744073709551616) :
    x / 4294967296 * (y / 4294967296) + (x / 4294967296 * (y % 4294967296) + (x % 4294967296) * (y % 4294967296) / 4294967296) / 4294967296 +
      ((x/4294967296*(y%4294967296)+(x%4294967296)*(y%4294967296)/4294967296)%4294967296+(x%4294967296)*(y/4294967296))/4294967296=x*y/18446744073709551616:=by
  have e:x*y=(x/4294967296*(y/4294967296))*18446744073709551616+((x/4294967296*(y%4294967296))+(x%4294967296)*(y/4294967296))*4294967296+(x%4294967296)*(y%4294967296):=by
    have hx':x=x/4294967296*4294967296+x%4294967296:=by omega
    have hy':y=y/4294967296*4294967296+y%4294967296:=by omega
    generalize x/4294967296=x1 at *
    generalize x%4294967296=x0 at *
    generalize y/4294967296=y1 at *
    generalize y%4294967296=y0 at *
    subst hx' hy'
    simp only [Int.add_mul,Int.mul_add]
    have e1:x1*4294967296*(y1*4294967296)=x1*y1*18446744073709551616:=by
      rw [show x1*4294967296*(y1*4294967296)=x1*y1*(4294967296*4294967296) by simp only [Int.mul_assoc,Int.mul_left_comm,Int.mul_comm]];rfl
    have e2:x1*4294967296*y0=x1*y0*4294967296:=by simp only [Int.mul_assoc,Int.mul_comm,Int.mul_left_comm]
    have e3:x0*(y1*4294967296)=x0*y1*4294967296:=by simp only [Int.mul_assoc]
    rw [e1,e2,e3]
    omega
  rw [e]
  generalize x/4294967296*(y/4294967296)=p at *
  generalize x/4294967296*(y%4294967296)=q at *
  generalize x%4294967296*(y/4294967296)=r at *
  generalize x%4294967296*(y%4294967296)=s at *
  omega
section
set_option maxRecDepth 100000
set_option maxHeartbeats 1000000
theorem mul64_calls (x y:Int) (w:World) (hx:0≤x) (hx1:x<18446744073709551616) (hy:0≤y) (hy1:y<18446744073709551616) :
    Calls Try.prog 139 #[.int .u64 x,.int .u64 y] w fun e w'=>e = .returned (.tuple #[.int .u64 (x*y/18446744073709551616),.int .u64 (x*y%18446744073709551616)])∧w=w':=by
  have M:=Aside0.mk (mul64_hi hx hx1 hy hy1)
  have P1:=Aside0.mk (prod_bd (a:=x/4294967296) (b:=y/4294967296) (by omega) (by omega) (by omega) (by omega))
  have P2:=Aside0.mk (prod_bd (a:=x/4294967296) (b:=y%4294967296) (by omega) (by omega) (by omega) (by omega))
  have P3:=Aside0.mk (prod_bd (a:=x%4294967296) (b:=y/4294967296) (by omega) (by omega) (by omega) (by omega))
  have P4:=Aside0.mk (prod_bd (a:=x%4294967296) (b:=y%4294967296) (by omega) (by omega) (by omega) (by omega))
  have X:=Aside0.mk (and32 hx hx1)
  have Y:=Aside0.mk (and32 hy hy1)
  have HX:=Aside0.mk (And.intro hx hx1)
  have HY:=Aside0.mk (And.intro hy hy1)
  clear hx hx1 hy hy1
  go_enter Try.func139,Try.ntmps139
  go_wp2
  go_ret2
  obtain ⟨p10,p11⟩:=P1.out
  obtain ⟨p20,p21⟩:=P2.out
  obtain ⟨p30,p31⟩:=P3.out
  obtain ⟨p40,p41⟩:=P4.out
  have hm:=M.out
  have hX:=X.out
  have hY:=Y.out
  refine ⟨ret2 ?_ ?_,rfl⟩
  · simp only [hX,hY,u64_wrap]
    generalize x/4294967296*(y/4294967296)=p at *
    generalize x/4294967296*(y%4294967296)=q at *
    generalize x%4294967296*(y/4294967296)=r at *
    generalize x%4294967296*(y%4294967296)=s at *
    have h1:p%18446744073709551616=p:=by omega
    have h2:q%18446744073709551616=q:=by omega
    have h3:r%18446744073709551616=r:=by omega
    have h4:s%18446744073709551616=s:=by omega
    have h5:(q+s/4294967296)%18446744073709551616=q+s/4294967296:=by omega
    rw [h1,h2,h3,h4,h5,and32 (by omega) (by omega),← hm]
    omega
  · rw [u64_wrap]
end
theorem add64_run (x y c:Int) (hx:0≤x) (hy:0≤y) (hc0:0≤c) (hc:c≤1) (w:World) :
    (callFunc 140 #[.int .u64 x,.int .u64 y,.int .u64 c]).run Try.prog w = .ok (.value (.tuple #[.int .u64 ((x+y+c)%18446744073709551616),.int .u64 ((x+y+c)/18446744073709551616)])) w:=by
  rw [run_callFunc_extern Try.func140 (by kernel_rfl) (by kernel_rfl) (by kernel_rfl) (e:=add64Entry) (by kernel_rfl),run_add64 x y c hx hy hc0 hc]
  rfl
end Go.Proofs.Ytonelbidndjhdaa.BitsWalk
end
section
set_option linter.unusedVariables false
namespace Go.Proofs.Ytonelbidndjhdaa.Long
open RowKit YtonelbidndjhdaaW.PrintWords YtonelbidndjhdaaW.Aid
structure Ctx (u d y1 y0:Int):Prop where
  a:2147483648≤y1
  b:y1<4294967296
  c:0≤y0
  e:y0<4294967296
  f:0≤d
  g:d<4294967296
  h:0≤u
  i:u<y1*4294967296+y0
structure Guess (u d y1 y0 q r:Int):Prop where
  q0:0≤q
  q1:q≤4294967297
  r0:0≤r
  r1:r<4294967296
  eq:q*y1+r=u
  hi:u*4294967296+d<(q+1)*(y1*4294967296+y0)
structure Quo (u d y1 y0 q:Int):Prop where
  q0:0≤q
  q1:q<4294967296
  lo:q*(y1*4294967296+y0)≤u*4294967296+d
  hi:u*4294967296+d<(q+1)*(y1*4294967296+y0)
theorem mul_parts (q y1 y0:Int):q*(y1*4294967296+y0)=q*y1*4294967296+q*y0:=by rw [Int.mul_add,Int.mul_assoc]
theorem start {u d y1 y0:Int} (C:Ctx u d y1 y0):Guess u d y1 y0 (u/y1) (u-u/y1*y1):=by
  obtain ⟨a,b,c,e,f,g,h,i⟩:=C
  have hy:0<y1:=by omega
  have e1:u/y1*y1+u%y1=u:=by rw [Int.mul_comm];exact Int.mul_ediv_add_emod u y1
  have e2:=Int.emod_nonneg u (b:=y1) (by omega)
  have e3:=Int.emod_lt_of_pos u hy
  have e4:0≤u/y1:=Int.ediv_nonneg h (by omega)
  have e5:u/y1≤4294967297:=by
    rcases Int.lt_or_le 4294967297 (u/y1) with hq|hq
    · have:=Int.mul_le_mul_of_nonneg_right (show (4294967298:Int)≤u/y1 by omega) (show 0≤y1 by omega)
      omega
    · exact hq
  refine ⟨e4,e5,by omega,by omega,by omega,?_⟩
  rw [Int.add_mul,Int.one_mul,mul_parts]
  have e6:0≤u/y1*y0:=Int.mul_nonneg e4 c
  generalize u/y1*y1=p at *
  generalize u/y1*y0=p0 at *
  omega
theorem stop {u d y1 y0 q r:Int} (C:Ctx u d y1 y0) (G:Guess u d y1 y0 q r) (h1:q<4294967296) (h2:q*y0≤4294967296*r+d):Quo u d y1 y0 q:=by
  obtain ⟨a,b,c,e,f,g,h,i⟩:=C
  obtain ⟨k0,k1,k2,k3,k4,k5⟩:=G
  refine ⟨k0,h1,?_,k5⟩
  rw [mul_parts]
  generalize q*y1=p at *
  generalize q*y0=p0 at *
  omega
theorem down {u d y1 y0 q r:Int} (C:Ctx u d y1 y0) (G:Guess u d y1 y0 q r) (h1:4294967296≤q∨4294967296*r+d<q*y0) :
    0<q∧(r+y1<4294967296→Guess u d y1 y0 (q-1) (r+y1))∧(4294967296≤r+y1→Quo u d y1 y0 (q-1)):=by
  obtain ⟨a,b,c,e,f,g,h,i⟩:=C
  obtain ⟨k0,k1,k2,k3,k4,k5⟩:=G
  have hq:0<q:=by
    rcases h1 with h1|h1
    · omega
    · rcases Int.lt_or_le 0 q with hq|hq
      · exact hq
      · have:q=0:=by omega
        subst this
        omega
  have hlt:u*4294967296+d<q*(y1*4294967296+y0):=by
    rcases h1 with h1|h1
    · have:=Int.mul_le_mul_of_nonneg_right h1 (show 0≤y1*4294967296+y0 by omega)
      omega
    · rw [mul_parts]
      generalize q*y1=p at *
      generalize q*y0=p0 at *
      omega
  have e1:(q-1)*y1=q*y1-y1:=by rw [Int.sub_mul,Int.one_mul]
  have e2:(q-1+1)=q:=by omega
  refine ⟨hq,fun hr=>⟨by omega,by omega,by omega,by omega,by rw [e1];omega,by rw [e2];exact hlt⟩,fun hr=>?_⟩
  have hqb:q-1<4294967296:=by
    rcases Int.lt_or_le (q-1) 4294967296 with hh|hh
    · exact hh
    · have:=Int.mul_le_mul_of_nonneg_right hh (show 0≤y1 by omega)
      omega
  refine ⟨by omega,hqb,?_,by rw [e2];exact hlt⟩
  have e3:=Int.mul_le_mul (show q-1≤4294967295 by omega) (show y0≤4294967295 by omega) c (by omega)
  rw [mul_parts,e1]
  generalize q*y1=p at *
  generalize (q-1)*y0=p0 at *
  omega
theorem both {u d1 d0 y1 y0 q1 q0 v:Int} (C:Ctx u d1 y1 y0) (Q1:Quo u d1 y1 y0 q1) (hv:v=u*4294967296+d1-q1*(y1*4294967296+y0)) (Q0:Quo v d0 y1 y0 q0) :
    0 ≤ v * 4294967296 + d0 - q0 * (y1 * 4294967296 + y0) ∧ v * 4294967296 + d0 - q0 * (y1 * 4294967296 + y0) < y1 * 4294967296 + y0 ∧
      u*18446744073709551616+(d1*4294967296+d0)=(q1*4294967296+q0)*(y1*4294967296+y0)+(v*4294967296+d0-q0*(y1*4294967296+y0)):=by
  obtain ⟨a1,a2,a3,a4⟩:=Q1
  obtain ⟨b1,b2,b3,b4⟩:=Q0
  rw [Int.add_mul,Int.one_mul] at b4
  refine ⟨by omega,by omega,?_⟩
  rw [Int.add_mul,Int.mul_assoc,Int.mul_comm 4294967296,← Int.mul_assoc,hv]
  omega
theorem nextCtx {u d1 d0 y1 y0 q1:Int} (C:Ctx u d1 y1 y0) (Q1:Quo u d1 y1 y0 q1) (h0:0≤d0) (h1:d0<4294967296):Ctx (u*4294967296+d1-q1*(y1*4294967296+y0)) d0 y1 y0:=by
  obtain ⟨a1,a2,a3,a4⟩:=Q1
  obtain ⟨a,b,c,e,f,g,h,i⟩:=C
  rw [Int.add_mul,Int.one_mul] at a4
  exact ⟨a,b,c,e,h0,h1,by omega,by omega⟩
theorem unshift {hi lo y S u low Q R:Int} (hS:0<S) (hy:0<y) (e1:(hi*18446744073709551616+lo)*S=u*18446744073709551616+low) (e2:u*18446744073709551616+low=Q*(y*S)+R) (h0:0≤R) (h1:R<y*S) :
    Q=(hi*18446744073709551616+lo)/y∧R/S=(hi*18446744073709551616+lo)%y:=by
  generalize hi*18446744073709551616+lo=N at *
  have e3:(N-Q*y)*S=R:=by rw [Int.sub_mul,Int.mul_assoc];omega
  have e4:R/S=N-Q*y:=by rw [← e3];exact Int.mul_ediv_cancel _ (by omega)
  have h2:0≤N-Q*y:=by rw [← e4];exact Int.ediv_nonneg h0 (by omega)
  have h3:N-Q*y<y:=by
    rw [← e4]
    exact Int.ediv_lt_of_lt_mul hS h1
  have e5:N=(N-Q*y)+y*Q:=by rw [Int.mul_comm y Q];omega
  constructor
  · conv=>rhs;rw [e5]
    rw [Int.add_mul_ediv_left _ _ (by omega),Int.ediv_eq_zero_of_lt h2 h3]
    omega
  · rw [e4]
    conv=>rhs;rw [e5]
    rw [Int.add_mul_emod_self_left,Int.emod_eq_of_lt h2 h3]
end Go.Proofs.Ytonelbidndjhdaa.Long
set_option linter.unusedVariables false
namespace Go.Proofs.Ytonelbidndjhdaa.Long
open RowKit Go.Shelf YtonelbidndjhdaaW.PrintWords YtonelbidndjhdaaW.Aid
def ren:Ren:=⟨fun n=>if n=129 then 138 else if n=134 then 120 else 0,fun n=>if n=3 then 3 else if n=4 then 4 else if n=5 then 5 else if n=9 then 9 else if n=46 then 67 else if n=53 then 104 else 0,fun n=>n⟩
theorem lays129:Lays.n129 Try.prog ren where
  mixed:=by kernel_rfl
  f129:=by kernel_rfl
  t3:=by kernel_rfl
  a3:=fun _=>by kernel_rfl
  z3:=fun _=>by kernel_rfl
  v3:=fun _=>by kernel_rfl
  t4:=by kernel_rfl
  a4:=fun _=>by kernel_rfl
  z4:=fun _=>by kernel_rfl
  v4:=fun _=>by kernel_rfl
  t5:=by kernel_rfl
  a5:=fun _=>by kernel_rfl
  z5:=fun _=>by kernel_rfl
  v5:=fun _=>by kernel_rfl
  t9:=by kernel_rfl
  a9:=fun _=>by kernel_rfl
  z9:=fun _=>by kernel_rfl
  v9:=fun _=>by kernel_rfl
  t46:=by kernel_rfl
  a46:=fun _=>by kernel_rfl
  z46:=fun _=>by kernel_rfl
  v46:=fun _=>by kernel_rfl
  t53:=by kernel_rfl
  a53:=fun _=>by kernel_rfl
  z53:=fun _=>by kernel_rfl
  v53:=fun _=>by kernel_rfl
theorem lays134:Lays.n134 Try.prog ren:={ lays129 with f134:=by kernel_rfl }
theorem len64_calls (x:Int) (w:World) (h0:0≤x) (h1:x<18446744073709551616) :
    Calls Try.prog 138 #[.int .u64 x] w fun e w'=>e = .returned (.int .i64 (Lib.bitLen x.toNat))∧w=w' :=
  (Any.bits_Len64 lays129 x w h0 (by omega)).mono fun _ _ h=>⟨h.1,h.2.symm⟩
theorem lead64_calls (x:Int) (w:World) (h0:0≤x) (h1:x<18446744073709551616) :
    Calls Try.prog 120 #[.int .u64 x] w fun e w'=>e = .returned (.int .i64 (64-(Lib.bitLen x.toNat:Int)))∧w=w' :=
  (Any.bits_LeadingZeros64 lays134 x w h0 (by omega)).mono fun _ _ h=>⟨h.1,h.2.symm⟩
end Go.Proofs.Ytonelbidndjhdaa.Long
set_option linter.unusedVariables false
namespace Go.Proofs.Ytonelbidndjhdaa.Long
open RowKit YtonelbidndjhdaaW.PrintWords YtonelbidndjhdaaW.PrintLast YtonelbidndjhdaaW.PrintMore YtonelbidndjhdaaW.Aid Ytonelbidndjhdaa.BitsWalk
section
theorem or_shift (s:Nat) (hs:s<64) {a b:Int} (ha:0≤a) (ha1:a*2 ^ s<18446744073709551616) (hb:0≤b) (hb1:b<2 ^ s):Go.bits .or .u64 (a*2 ^ s) b=a*2 ^ s+b:=by
  have hp:(0:Int)<2 ^ s:=Int.pow_pos (by omega)
  have e:(2:Int) ^ s≤2 ^ 63:=by exact_mod_cast Nat.pow_le_pow_right (by omega) (show s≤63 by omega)
  refine bits_join .u64 64 (by decide) wraps_u64 s (a*2 ^ s) b (Int.mul_nonneg ha (by omega)) ?_ ?_ hb hb1 ?_
  · exact Int.mul_emod_left _ _
  · omega
  · omega
theorem prep (hi lo y:Int) (h0:0<hi) (h1:hi<y) (h2:0≤lo) (h3:lo<18446744073709551616) (h5:y<18446744073709551616) :
    ∃ (s:Nat) (Y y1 y0 u L d1 d0:Int),(64-(Go.Lib.bitLen y.toNat:Int))=(s:Int)∧s<64∧IntKind.u64.wrap (y*2 ^ s)=Y∧Y/4294967296=y1∧Go.bits .and .u64 Y 4294967295=y0 ∧
      Go.bits .or .u64 (IntKind.u64.wrap (hi*2 ^ s)) (lo/2 ^ (64-s))=u∧IntKind.u64.wrap (lo*2 ^ s)=L∧L/4294967296=d1∧Go.bits .and .u64 L 4294967295=d0∧Ctx u d1 y1 y0 ∧
      (0≤d0∧d0<4294967296∧Y=y1*4294967296+y0∧Y=y*2 ^ s∧(hi*18446744073709551616+lo)*2 ^ s=u*18446744073709551616+(d1*4294967296+d0)):=by
  have hy:0<y:=by omega
  obtain ⟨a,b,c⟩:=Go.Lib.bitLenAux_bounds 64 y.toNat (by omega) (by omega)
  have d:Go.Lib.bitLen y.toNat≤64:=Go.Lib.bitLen_le y.toNat 64 (by omega) (by omega)
  have e:Go.Lib.bitLenAux 64 y.toNat=Go.Lib.bitLen y.toNat:=rfl
  rw [e] at a b c
  generalize Go.Lib.bitLen y.toNat=n at *
  obtain ⟨s,rfl⟩:∃ s,n=64-s:=⟨64-n,by omega⟩
  have hs:s<64:=by omega
  have hS:(0:Int)<2 ^ s:=Int.pow_pos (by omega)
  have hT:(0:Int)<2 ^ (64-s):=Int.pow_pos (by omega)
  have hST:(2:Int) ^ s*2 ^ (64-s)=18446744073709551616:=by rw [← Int.pow_add,show s+(64-s)=64 by omega];rfl
  have hY1:y*2 ^ s<18446744073709551616:=by
    have h : y < 2 ^ (64 - s) := by have : (y.toNat : Int) < ((2 ^ (64 - s) : Nat) : Int) := by exact_mod_cast c
                                    rw [Int.toNat_of_nonneg (by omega)] at this;exact_mod_cast this
    rw [← hST,Int.mul_comm (2 ^ s)]
    exact Int.mul_lt_mul_of_pos_right h hS
  have hY0 : 9223372036854775808 ≤ y * 2 ^ s := by
    have h : (2 : Int) ^ (64 - s - 1) ≤ y := by have : ((2 ^ (64 - s - 1) : Nat) : Int) ≤ (y.toNat : Int) := by exact_mod_cast b
                                                rw [Int.toNat_of_nonneg (by omega)] at this;exact_mod_cast this
    have h':=Int.mul_le_mul_of_nonneg_right h (show (0:Int)≤2 ^ s by omega)
    rw [← Int.pow_add,show 64-s-1+s=63 by omega] at h'
    exact h'
  have hhi:hi*2 ^ s+2 ^ s≤y*2 ^ s:=by
    have:=Int.mul_le_mul_of_nonneg_right (show hi+1≤y by omega) (show (0:Int)≤2 ^ s by omega)
    rw [Int.add_mul,Int.one_mul] at this
    exact this
  have hhi0:0≤hi*2 ^ s:=Int.mul_nonneg (by omega) (by omega)
  have hq0:0≤lo/2 ^ (64-s):=Int.ediv_nonneg h2 (by omega)
  have hq1:lo/2 ^ (64-s)<2 ^ s:=Int.ediv_lt_of_lt_mul hT (by rw [hST];exact h3)
  have e1:IntKind.u64.wrap (y*2 ^ s)=y*2 ^ s:=wraps_u64 _ (by omega) (by omega)
  have e2:IntKind.u64.wrap (hi*2 ^ s)=hi*2 ^ s:=wraps_u64 _ (by omega) (by omega)
  have e3:Go.bits .or .u64 (hi*2 ^ s) (lo/2 ^ (64-s))=hi*2 ^ s+lo/2 ^ (64-s):=or_shift s hs (by omega) (by omega) hq0 hq1
  have e4:lo*2 ^ s=lo/2 ^ (64-s)*18446744073709551616+lo*2 ^ s%18446744073709551616:=by
    have h:=Int.mul_ediv_add_emod (lo*2 ^ s) 18446744073709551616
    have h':lo*2 ^ s/18446744073709551616=lo/2 ^ (64-s):=by
      rw [← hST,Int.mul_comm lo]
      exact Int.mul_ediv_mul_of_pos _ _ hS
    rw [h'] at h
    omega
  have e5:IntKind.u64.wrap (lo*2 ^ s)=lo*2 ^ s%18446744073709551616:=u64_wrap _
  refine ⟨s,_,_,_,_,_,_,_,by omega,hs,rfl,rfl,rfl,rfl,rfl,rfl,rfl,?_⟩
  rw [e1,e2,e3,e5,Int.add_mul,Int.mul_assoc hi,Int.mul_comm 18446744073709551616,← Int.mul_assoc hi]
  generalize lo/2 ^ (64-s)=t at *
  generalize hi*2 ^ s=p at *
  generalize hYY:y*2 ^ s=Y at *
  generalize hZ:lo*2 ^ s=Z at *
  rw [and32 (by omega) (by omega),and32 (by omega) (by omega)]
  exact ⟨⟨by omega,by omega,by omega,by omega,by omega,by omega,by omega,by omega⟩,by omega,by omega,by omega,rfl,by omega⟩
theorem first {u d y1 y0:Int} (C:Ctx u d y1 y0):∃ q r:Int,IntKind.u64.wrap (Int.tdiv u y1)=q∧IntKind.u64.wrap (u-IntKind.u64.wrap (q*y1))=r∧Guess u d y1 y0 q r:=by
  have G:=start C
  have h:=G.eq
  have h0:=G.r0
  have h1:=G.r1
  have h2:0≤u/y1*y1:=Int.mul_nonneg G.q0 (by have:=C.a;omega)
  have c1:=C.b
  have c2:=C.e
  have c3:=C.i
  have hq:IntKind.u64.wrap (Int.tdiv u y1)=u/y1:=by
    rw [Int.tdiv_eq_ediv_of_nonneg C.h,u64_wrap]
    have a:=G.q0
    have b:=G.q1
    omega
  refine ⟨_,_,hq,?_,G⟩
  rw [u64_wrap,u64_wrap]
  generalize u/y1*y1=p at *
  omega
theorem second {u d1 d0 y1 y0 q1 Y y S N:Int} (C:Ctx u d1 y1 y0) (Q:Quo u d1 y1 y0 q1) (hn:0≤d0∧d0<4294967296∧Y=y1*4294967296+y0∧Y=y*S∧N*S=u*18446744073709551616+(d1*4294967296+d0)) :
    ∃ v q r:Int,IntKind.u64.wrap (IntKind.u64.wrap (IntKind.u64.wrap (u*4294967296)+d1)-IntKind.u64.wrap (q1*Y))=v∧IntKind.u64.wrap (Int.tdiv v y1)=q∧IntKind.u64.wrap (v-IntKind.u64.wrap (q*y1))=r∧v=u*4294967296+d1-q1*(y1*4294967296+y0)∧Ctx v d0 y1 y0∧Guess v d0 y1 y0 q r:=by
  have C2:=nextCtx C Q hn.1 hn.2.1
  obtain ⟨q,r,a,b,c⟩:=first C2
  refine ⟨_,q,r,?_,a,b,rfl,C2,c⟩
  have h0:=C2.h
  have h1:=C2.i
  have h2:=C2.b
  have h3:=C2.e
  rw [u64_wrap,u64_wrap,u64_wrap,u64_wrap,hn.2.2.1]
  generalize q1*(y1*4294967296+y0)=p at *
  omega
theorem final {u v d1 d0 y1 y0 q1 q2 Y hi lo y:Int} {s:Nat} (C:Ctx u d1 y1 y0) (Q:Quo u d1 y1 y0 q1) (hv:v=u*4294967296+d1-q1*(y1*4294967296+y0)) (Q2:Quo v d0 y1 y0 q2)
    (hn:0≤d0∧d0<4294967296∧Y=y1*4294967296+y0∧Y=y*2 ^ s∧(hi*18446744073709551616+lo)*2 ^ s=u*18446744073709551616+(d1*4294967296+d0)) (h0:0<hi) (h1:hi<y) :
    IntKind.u64.wrap (IntKind.u64.wrap (q1*4294967296)+q2)=(hi*18446744073709551616+lo)/y∧IntKind.u64.wrap (IntKind.u64.wrap (IntKind.u64.wrap (v*4294967296)+d0)-IntKind.u64.wrap (q2*Y))/2 ^ s=(hi*18446744073709551616+lo)%y:=by
  obtain ⟨a,b,c⟩:=both C Q hv Q2
  have hS:(0:Int)<2 ^ s:=Int.pow_pos (by omega)
  have e:=hn.2.2.1
  have h2:=C.b
  have h3:=C.e
  have hU:=unshift (hi:=hi) (lo:=lo) (y:=y) (S:=2 ^ s) (low:=d1*4294967296+d0) (u:=u) (Q:=q1*4294967296+q2) (R:=v*4294967296+d0-q2*(y1*4294967296+y0)) hS (by omega) hn.2.2.2.2 (by rw [← hn.2.2.2.1,e];exact c) a (by rw [← hn.2.2.2.1,e];exact b)
  have k0:=Q.q0
  have k1:=Q.q1
  have k2:=Q2.q0
  have k3:=Q2.q1
  rw [← hU.1,← hU.2,e]
  constructor
  · rw [wraps_u64 (q1*4294967296) (by omega) (by omega)]
    exact wraps_u64 _ (by omega) (by omega)
  · congr 1
    rw [u64_wrap,u64_wrap,u64_wrap,u64_wrap]
    generalize q2*(y1*4294967296+y0)=p at *
    omega
set_option maxRecDepth 100000
set_option maxHeartbeats 1000000
theorem div64_zero (lo y:Int) (w:World) (h2:0≤lo) (h3:lo<18446744073709551616) (h4:0<y) (h5:y<18446744073709551616) :
    Calls Try.prog 137 #[.int .u64 0,.int .u64 lo,.int .u64 y] w fun e w'=>e = .returned (.tuple #[.int .u64 (lo/y),.int .u64 (lo%y)])∧∃ n,w'=w.drewN n:=by
  have b1:(y == 0)=false:=by simp;omega
  have b2:decide (y≤0)=false:=decide_eq_false (by omega)
  have hy0:¬ y=0:=by omega
  go_enter Try.func137,Try.ntmps137
  go_wp2_with fail
  go_quiet (fail)
  go_wp2
  go_ret2
  exact ⟨rfl,_,rfl⟩
theorem div64_pos (hi lo y:Int) (w:World) (h0:0<hi) (h1:hi<y) (h2:0≤lo) (h3:lo<18446744073709551616) (h5:y<18446744073709551616) :
    Calls Try.prog 137 #[.int .u64 hi,.int .u64 lo,.int .u64 y] w fun e w'=>e = .returned (.tuple #[.int .u64 ((hi*18446744073709551616+lo)/y),.int .u64 ((hi*18446744073709551616+lo)%y)])∧∃ n,w'=w.drewN n:=by
  have b1:(y == 0)=false:=by simp;omega
  have b2:decide (y≤hi)=false:=decide_eq_false (by omega)
  have b3:(hi == 0)=false:=by simp;omega
  have HL:=Aside0.mk (lead64_calls y w (by omega) h5)
  obtain ⟨s,Y,y1,y0,u,L,d1,d0,hs,hs64,eY,eY1,eY0,eU,eL,eL1,eL0,hC,hn⟩:=prep hi lo y h0 h1 h2 h3 h5
  rw [hs] at HL
  have HC:=Aside0.mk hC
  have HN:=Aside0.mk hn
  have hy1:¬ y1=0:=by have:=hC.a;omega
  have hy1b:(y1 == 0)=false:=by simp;exact hy1
  obtain ⟨q,r,eq,er,hG⟩:=first hC
  have HG:=Aside0.mk hG
  have HH:=Aside0.mk (And.intro h0 h1)
  clear hC hn hG hs h0 h1 h2 h3 h5
  go_enter Try.func137,Try.ntmps137
  go_upto_block 0 with (go_at_call 120;refine HL.out.mono ?_;rintro e w1 ⟨rfl,rfl⟩)
  go_cut [15,16] (fun v15 v16 wx=>∃ q1:Int,v15 = .int .u64 q1∧Aside0 (Quo u d1 y1 y0 q1)∧w=wx)
  case first =>
    go_wp2_with fail
    go_loopw [15,16] (fun vq vr wr=>∃ q r:Int,vq = .int .u64 q∧vr = .int .u64 r∧Aside0 (Guess u d1 y1 y0 q r)∧w=wr) (fun vq _ _=>(intOf vq).toNat)
    case atStart=>exact ⟨q,r,rfl,rfl,HG,rfl⟩
    case round =>
      obtain ⟨q,r,rfl,rfl,hG,rfl⟩:=hrel
      have hq:=Aside0.mk (And.intro hG.out.q0 hG.out.q1)
      have hr:=Aside0.mk (And.intro hG.out.r0 hG.out.r1)
      have DN:Aside0 ((4294967296≤q∨4294967296*r+d1<q*y0)→0<q∧IntKind.u64.wrap (q-1)=q-1∧IntKind.u64.wrap (r+y1)=r+y1∧(r+y1<4294967296→Guess u d1 y1 y0 (q-1) (r+y1))∧(4294967296≤r+y1→Quo u d1 y1 y0 (q-1))) :=
        ⟨fun h=>by
          obtain ⟨a,b,c⟩:=down HC.out hG.out h
          have k0:=hq.out
          have k1:=hr.out
          have k2:=HC.out.a
          have k3:=HC.out.b
          exact ⟨a,wraps_u64 _ (by omega) (by omega),wraps_u64 _ (by omega) (by omega),b,c⟩⟩
      by_cases c1:4294967296≤q
      · have c1b:decide (4294967296≤q)=true:=decide_eq_true c1
        obtain ⟨a,e1,e2,b,c⟩:=DN.out (.inl c1)
        have hb:=Aside0.mk b
        have hc:=Aside0.mk c
        have ha:=Aside0.mk a
        clear a b c
        by_cases c3:4294967296≤r+y1
        · have c3b:decide (4294967296≤r+y1)=true:=decide_eq_true c3
          have hQ:=Aside0.mk (hc.out c3)
          clear hb hc DN c1 c3
          go_wp2_with fail
          go_meet
          case rel=>exact ⟨q-1,rfl,hQ,by trivial⟩
        · have c3b:decide (4294967296≤r+y1)=false:=decide_eq_false c3
          have hQ:=Aside0.mk (hb.out (by omega))
          clear hb hc DN c1 c3
          go_wp2_with fail
          go_roundw
          case rel=>exact ⟨q-1,r+y1,rfl,rfl,hQ,by trivial⟩
          case measure=>simp [intOf];have:=ha.out;omega
      · have c1b:decide (4294967296≤q)=false:=decide_eq_false c1
        have hP:IntKind.u64.wrap (q*y0)=q*y0:=by
          have k0:=hq.out
          have h1:=Int.mul_le_mul (show q≤4294967295 by omega) (show y0≤4294967295 by have:=HC.out.e;omega) HC.out.c (by omega)
          exact wraps_u64 _ (Int.mul_nonneg k0.1 HC.out.c) (by omega)
        have hT:IntKind.u64.wrap (IntKind.u64.wrap (4294967296*r)+d1)=4294967296*r+d1:=by
          have k1:=hr.out
          have k2:=HC.out.f
          have k3:=HC.out.g
          rw [wraps_u64 (4294967296*r) (by omega) (by omega)]
          exact wraps_u64 _ (by omega) (by omega)
        have ST:Aside0 (¬ 4294967296*r+d1<q*y0→Quo u d1 y1 y0 q):=⟨fun h=>stop HC.out hG.out (by omega) (by omega)⟩
        by_cases c2:4294967296*r+d1<q*y0
        · have c2b:decide (4294967296*r+d1<q*y0)=true:=decide_eq_true c2
          obtain ⟨a,e1,e2,b,c⟩:=DN.out (.inr c2)
          have hb:=Aside0.mk b
          have hc:=Aside0.mk c
          have ha:=Aside0.mk a
          clear a b c
          by_cases c3:4294967296≤r+y1
          · have c3b:decide (4294967296≤r+y1)=true:=decide_eq_true c3
            have hQ:=Aside0.mk (hc.out c3)
            clear hb hc DN c1 c3
            go_wp2_with fail
            go_meet
            case rel=>exact ⟨q-1,rfl,hQ,by trivial⟩
          · have c3b:decide (4294967296≤r+y1)=false:=decide_eq_false c3
            have hQ:=Aside0.mk (hb.out (by omega))
            clear hb hc DN c1 c3
            go_wp2_with fail
            go_roundw
            case rel=>exact ⟨q-1,r+y1,rfl,rfl,hQ,by trivial⟩
            case measure=>simp [intOf];have:=ha.out;omega
        · have c2b:decide (4294967296*r+d1<q*y0)=false:=decide_eq_false c2
          have hQ:=Aside0.mk (ST.out c2)
          clear DN ST c1 c2
          go_wp2_with fail
          go_meet
          case rel=>exact ⟨q,rfl,hQ,by trivial⟩
  case rest =>
    obtain ⟨q1,rfl,hQ1,rfl⟩:=hcut
    obtain ⟨v,q0,r0,ev,eq0,er0,hv,hC2,hG2⟩:=second HC.out hQ1.out HN.out
    have HC2:=Aside0.mk hC2
    have HG2:=Aside0.mk hG2
    have HV:=Aside0.mk hv
    clear hC2 hG2 hv HL
    go_upto_block 2 with fail
    go_cut [18,16] (fun v18 v16 wx=>∃ q2:Int,v18 = .int .u64 q2∧Aside0 (Quo v d0 y1 y0 q2)∧w=wx)
    case first =>
      go_wp2_with fail
      go_loopw [18,16] (fun vq vr wr=>∃ q r:Int,vq = .int .u64 q∧vr = .int .u64 r∧Aside0 (Guess v d0 y1 y0 q r)∧w=wr) (fun vq _ _=>(intOf vq).toNat)
      case atStart=>exact ⟨q0,r0,rfl,rfl,HG2,rfl⟩
      case round =>
        obtain ⟨q,r,rfl,rfl,hG,rfl⟩:=hrel
        have hq:=Aside0.mk (And.intro hG.out.q0 hG.out.q1)
        have hr:=Aside0.mk (And.intro hG.out.r0 hG.out.r1)
        have DN:Aside0 ((4294967296≤q∨4294967296*r+d0<q*y0)→0<q∧IntKind.u64.wrap (q-1)=q-1∧IntKind.u64.wrap (r+y1)=r+y1∧(r+y1<4294967296→Guess v d0 y1 y0 (q-1) (r+y1))∧(4294967296≤r+y1→Quo v d0 y1 y0 (q-1))) :=
          ⟨fun h=>by
            obtain ⟨a,b,c⟩:=down HC2.out hG.out h
            have k0:=hq.out
            have k1:=hr.out
            have k2:=HC2.out.a
            have k3:=HC2.out.b
            exact ⟨a,wraps_u64 _ (by omega) (by omega),wraps_u64 _ (by omega) (by omega),b,c⟩⟩
        by_cases c1:4294967296≤q
        · have c1b:decide (4294967296≤q)=true:=decide_eq_true c1
          obtain ⟨a,e1,e2,b,c⟩:=DN.out (.inl c1)
          have hb:=Aside0.mk b
          have hc:=Aside0.mk c
          have ha:=Aside0.mk a
          clear a b c
          by_cases c3:4294967296≤r+y1
          · have c3b:decide (4294967296≤r+y1)=true:=decide_eq_true c3
            have hQ:=Aside0.mk (hc.out c3)
            clear hb hc DN c1 c3
            go_wp2_with fail
            go_meet
            case rel=>exact ⟨q-1,rfl,hQ,by trivial⟩
          · have c3b:decide (4294967296≤r+y1)=false:=decide_eq_false c3
            have hQ:=Aside0.mk (hb.out (by omega))
            clear hb hc DN c1 c3
            go_wp2_with fail
            go_roundw
            case rel=>exact ⟨q-1,r+y1,rfl,rfl,hQ,by trivial⟩
            case measure=>simp [intOf];have:=ha.out;omega
        · have c1b:decide (4294967296≤q)=false:=decide_eq_false c1
          have hP:IntKind.u64.wrap (q*y0)=q*y0:=by
            have k0:=hq.out
            have h1:=Int.mul_le_mul (show q≤4294967295 by omega) (show y0≤4294967295 by have:=HC2.out.e;omega) HC2.out.c (by omega)
            exact wraps_u64 _ (Int.mul_nonneg k0.1 HC2.out.c) (by omega)
          have hT:IntKind.u64.wrap (IntKind.u64.wrap (4294967296*r)+d0)=4294967296*r+d0:=by
            have k1:=hr.out
            have k2:=HC2.out.f
            have k3:=HC2.out.g
            rw [wraps_u64 (4294967296*r) (by omega) (by omega)]
            exact wraps_u64 _ (by omega) (by omega)
          have ST:Aside0 (¬ 4294967296*r+d0<q*y0→Quo v d0 y1 y0 q):=⟨fun h=>stop HC2.out hG.out (by omega) (by omega)⟩
          by_cases c2:4294967296*r+d0<q*y0
          · have c2b:decide (4294967296*r+d0<q*y0)=true:=decide_eq_true c2
            obtain ⟨a,e1,e2,b,c⟩:=DN.out (.inr c2)
            have hb:=Aside0.mk b
            have hc:=Aside0.mk c
            have ha:=Aside0.mk a
            clear a b c
            by_cases c3:4294967296≤r+y1
            · have c3b:decide (4294967296≤r+y1)=true:=decide_eq_true c3
              have hQ:=Aside0.mk (hc.out c3)
              clear hb hc DN c1 c3
              go_wp2_with fail
              go_meet
              case rel=>exact ⟨q-1,rfl,hQ,by trivial⟩
            · have c3b:decide (4294967296≤r+y1)=false:=decide_eq_false c3
              have hQ:=Aside0.mk (hb.out (by omega))
              clear hb hc DN c1 c3
              go_wp2_with fail
              go_roundw
              case rel=>exact ⟨q-1,r+y1,rfl,rfl,hQ,by trivial⟩
              case measure=>simp [intOf];have:=ha.out;omega
          · have c2b:decide (4294967296*r+d0<q*y0)=false:=decide_eq_false c2
            have hQ:=Aside0.mk (ST.out c2)
            clear DN ST c1 c2
            go_wp2_with fail
            go_meet
            case rel=>exact ⟨q,rfl,hQ,by trivial⟩
    case rest =>
      obtain ⟨q2,rfl,hQ2,rfl⟩:=hcut
      have FIN:=Aside0.mk (final HC.out hQ1.out HV.out hQ2.out HN.out HH.out.1 HH.out.2)
      go_wp2
      go_ret2
      refine ⟨ret2 ?_ ?_,0,rfl⟩
      · exact FIN.out.1
      · exact FIN.out.2
theorem div64_calls (hi lo y:Int) (w:World) (h0:0≤hi) (h1:hi<y) (h2:0≤lo) (h3:lo<18446744073709551616) (h5:y<18446744073709551616) :
    Calls Try.prog 137 #[.int .u64 hi,.int .u64 lo,.int .u64 y] w fun e w'=>e = .returned (.tuple #[.int .u64 ((hi*18446744073709551616+lo)/y),.int .u64 ((hi*18446744073709551616+lo)%y)])∧∃ n,w'=w.drewN n:=by
  by_cases h:hi=0
  · subst h
    have:=div64_zero lo y w h2 h3 h1 h5
    rwa [show (0:Int)*18446744073709551616+lo=lo by omega]
  · exact div64_pos hi lo y w (by omega) h1 h2 h3 h5
end
end Go.Proofs.Ytonelbidndjhdaa.Long
end
section
set_option linter.unusedVariables false
namespace Go.Proofs.Ytonelbidndjhdaa.Limbs
open RowKit YtonelbidndjhdaaW.PrintWords YtonelbidndjhdaaW.PrintLast YtonelbidndjhdaaW.PrintMore YtonelbidndjhdaaW.Aid YtonelbidndjhdaaW.Big Ytonelbidndjhdaa.BitsWalk
def LeftInv (a:List Int) (k s i:Nat) (cs:List Int):Prop :=
  cs.length=a.length+k+1∧Dig cs∧(∀ j:Nat,j<k→rd cs j=0)∧rd cs ((i+k:Nat):Int)<2 ^ s∧(∀ j:Nat,i+k<j→rd cs j=0)∧val (cs.take (k+i+1))=18446744073709551616 ^ k*(val (a.take i)*2 ^ s)
theorem LeftInv.start (a:List Int) (k s:Nat):LeftInv a k s 0 (List.replicate (a.length+k+1) 0):=by
  refine ⟨by simp,Dig.zeros _,fun j _=>rd_zeros,by rw [rd_zeros];exact Int.pow_pos (by omega),fun j _=>rd_zeros,?_⟩
  rw [List.take_replicate,val_zeros]
  simp [val]
theorem bits_comm_or (a b:Int):Go.bits .or .u64 a b=Go.bits .or .u64 b a:=by
  simp [Go.bits,Nat.or_comm]
theorem below_drew1 {B:Nat} {w w1:World} (h:Below B w w1):Below B w w1.drew:=⟨h.os,h.tape,h.output,h.size,h.block⟩
theorem Blk.drew {w:World} {g:Nat} {l:List Int} (h:Blk w g l):Blk w.drew g l:=h
theorem left_parts {s:Nat} {x y:Int} (hs:s<64) (hx0:0≤x) (hx1:x<18446744073709551616) (hy0:0≤y) (hy1:y<2 ^ s) :
    0 ≤ Go.bits .or .u64 y (IntKind.u64.wrap (x * 2 ^ s)) ∧ Go.bits .or .u64 y (IntKind.u64.wrap (x * 2 ^ s)) < 18446744073709551616 ∧ 0 ≤ x / 2 ^ (64 - s) ∧ x / 2 ^ (64 - s) < 2 ^ s ∧ x / 2 ^ (64 - s) < 18446744073709551616 ∧
      Go.bits .or .u64 y (IntKind.u64.wrap (x*2 ^ s))+18446744073709551616*(x/2 ^ (64-s))=y+x*2 ^ s:=by
  have hS:(0:Int)<2 ^ s:=Int.pow_pos (by omega)
  have hT:(0:Int)<2 ^ (64-s):=Int.pow_pos (by omega)
  have hST:(2:Int) ^ s*2 ^ (64-s)=18446744073709551616:=by rw [← Int.pow_add,show s+(64-s)=64 by omega];rfl
  have e:(2:Int) ^ s≤2 ^ 63:=by exact_mod_cast Nat.pow_le_pow_right (by omega) (show s≤63 by omega)
  have hdiv:x*2 ^ s/18446744073709551616=x/2 ^ (64-s):=by
    rw [← hST,Int.mul_comm x]
    exact Int.mul_ediv_mul_of_pos _ _ hS
  have hmod:x*2 ^ s%18446744073709551616=x%2 ^ (64-s)*2 ^ s:=by
    rw [← hST,Int.mul_comm x,Int.mul_emod_mul_of_pos _ _ hS,Int.mul_comm]
  have hm0:=Int.emod_nonneg x (b:=2 ^ (64-s)) (by omega)
  have hm1:=Int.emod_lt_of_pos x hT
  have hml:x%2 ^ (64-s)*2 ^ s+2 ^ s≤18446744073709551616:=by
    have:=Int.mul_le_mul_of_nonneg_right (show x%2 ^ (64-s)+1≤2 ^ (64-s) by omega) (show (0:Int)≤2 ^ s by omega)
    rw [Int.add_mul,Int.one_mul,Int.mul_comm (2 ^ (64-s)),hST] at this
    exact this
  have ho:Go.bits .or .u64 y (IntKind.u64.wrap (x*2 ^ s))=y+x*2 ^ s%18446744073709551616:=by
    rw [u64_wrap,hmod,bits_comm_or,Go.Proofs.Ytonelbidndjhdaa.Long.or_shift s hs hm0 (by omega) hy0 hy1]
    omega
  have hq0:0≤x/2 ^ (64-s):=Int.ediv_nonneg hx0 (by omega)
  have hq1:x/2 ^ (64-s)<2 ^ s:=Int.ediv_lt_of_lt_mul hT (by rw [hST];exact hx1)
  have hsum:=Int.mul_ediv_add_emod (x*2 ^ s) 18446744073709551616
  rw [hdiv] at hsum
  rw [ho]
  refine ⟨?_,?_,hq0,hq1,by omega,by omega⟩
  · have:=Int.emod_nonneg (x*2 ^ s) (b:=18446744073709551616) (by omega)
    omega
  · rw [hmod];omega
theorem LeftInv.step {a cs:List Int} {k s i:Nat} {x y v1 v2:Int} (h:LeftInv a k s i cs) (hi:i<a.length) (hx:rd a i=x) (hy:rd cs ((i+k:Nat):Int)=y) (hx0:0≤x)
    (hv:0≤v1∧v1<18446744073709551616∧0≤v2∧v2<2 ^ s∧v2<18446744073709551616∧v1+18446744073709551616*v2=y+x*2 ^ s):LeftInv a k s (i+1) ((cs.set (i+k) v1).set (i+k+1) v2):=by
  obtain ⟨h1,h2,h3,h4,h5,h6⟩:=h
  obtain ⟨b1,b2,b3,b4,b5,b6⟩:=hv
  have hy0:0≤y:=hy ▸ (h2.rd (i:=((i+k:Nat):Int)) (by omega) (by omega)).1
  refine ⟨by simpa using h1,(h2.set _ b1 b2).set _ b3 b5,fun j hj=>?_,?_,fun j hj=>?_,?_⟩
  · rw [rd_set_ne _ (by omega),rd_set_ne _ (by omega)];exact h3 j hj
  · rw [show i+1+k=i+k+1 by omega,rd_set_eq _ (by simp;omega)];exact b4
  · rw [rd_set_ne _ (by omega),rd_set_ne _ (by omega)];exact h5 j (by omega)
  · rw [show k+(i+1)+1=i+k+1+1 by omega,val_set_take (by simp;omega),val_set_take (by omega),val_take_succ hi,hx]
    rw [show k+i+1=i+k+1 by omega,val_take_succ (by omega),hy] at h6
    have e:v1.toNat+18446744073709551616*v2.toNat=y.toNat+x.toNat*2 ^ s:=by
      have p:((x.toNat*2 ^ s:Nat):Int)=x*2 ^ s:=by rw [Int.natCast_mul,Int.toNat_of_nonneg hx0];norm_cast
      omega
    have t:=congrArg (18446744073709551616 ^ (i+k)*·) e
    simp only [Nat.mul_add] at t
    have q1:18446744073709551616 ^ (i+k)*(x.toNat*2 ^ s)=18446744073709551616 ^ k*(18446744073709551616 ^ i*x.toNat*2 ^ s):=by
      rw [Nat.pow_add];ac_rfl
    have q2:18446744073709551616 ^ (i+k+1)*v2.toNat=18446744073709551616 ^ (i+k)*(18446744073709551616*v2.toNat):=by rw [Nat.pow_succ,Nat.mul_assoc]
    rw [Nat.add_mul,Nat.mul_add,← q1,q2]
    omega
theorem LeftInv.done {a cs:List Int} {k s n:Nat} (h:LeftInv a k s a.length cs) (hn:n=64*k+s):Dig cs∧val cs=val a*2 ^ n:=by
  obtain ⟨h1,h2,h3,h4,h5,h6⟩:=h
  rw [List.take_of_length_le (by omega),List.take_length] at h6
  refine ⟨h2,?_⟩
  rw [h6,hn,Nat.pow_add,Nat.pow_mul]
  show 18446744073709551616 ^ k*(val a*2 ^ s)=val a*(18446744073709551616 ^ k*2 ^ s)
  ac_rfl
section
set_option maxRecDepth 10000
set_option maxHeartbeats 1000000
theorem left_calls (a:List Int) (n:Nat) (A:Option Addr) (c:Nat) (w:World) (hda:Dig a) (hr:Rd w a A c) (hla:a.length≤1000) (hn:n≤6400) :
    Calls Try.prog 102 #[.slice A a.length c,.int .i64 n] w (RetRd (limbs (val a*2 ^ n)) w):=by
  have HR:=Aside0.mk hr
  have DA:=Aside0.mk hda
  clear hr hda
  obtain ⟨k,hk⟩:∃ k,n/64=k:=⟨_,rfl⟩
  obtain ⟨s,hs⟩:∃ s,n%64=s:=⟨_,rfl⟩
  by_cases h0:a.length=0
  · have hb:((a.length:Int) == 0)=true:=by simp [h0]
    have e:Aside0 (limbs (val a*2 ^ n)=[]):=⟨by rw [List.length_eq_zero_iff.1 h0];simp [val,limbs_zero]⟩
    go_enter Try.func102,Try.ntmps102
    go_wp2
    go_ret
    exact ⟨none,0,by rw [e.out];rfl,by rw [e.out];exact Rd.nil _,Below.refl _ _⟩
  · have hb:((a.length:Int) == 0)=false:=beq_eq_false_iff_ne.2 (by omega)
    have hki:(n:Int)/64=(k:Int):=by omega
    have hsi:(n:Int)%64=(s:Int):=by omega
    have hk100:k≤100:=by omega
    have hs64:s<64:=by omega
    have HN:Aside0 (n=64*k+s):=⟨by omega⟩
    clear hk hs hn
    have hmk:=fun w=>mk_run (a.length+k+1) (by omega) ((a.length:Int)+(k:Int)+1) (by omega) w
    go_enter Try.func102,Try.ntmps102
    go_wp2_with fail
    go_loopw [20] (fun v20 wr=>∃ (i:Nat) (cs:List Int),i≤a.length∧v20 = .int .i64 i∧Aside0 (LeftInv a k s i cs)∧Aside0 (Blk wr w.heap.size cs)∧Aside0 (Below w.heap.size w wr)) (fun v20 _=>a.length-(intOf v20).toNat)
    case atStart=>exact ⟨0,_,by omega,rfl,⟨LeftInv.start _ _ _⟩,⟨Blk.new w _⟩,⟨below_alloc (Below.refl _ _) _⟩⟩
    case round =>
      obtain ⟨i,cs,hi,rfl,hI,hblk,hB⟩:=hrel
      have hcl:=hI.out.1
      clear hmk
      by_cases hil:i<a.length
      · obtain ⟨ad,rfl,hcell⟩:=Kd.at_int (HR.out.below hB.out).2 (i:Int) (by omega) (by omega)
        simp only [Int.toNat_natCast] at hcell
        have hx:=Aside0.mk (DA.out.rd (i:=(i:Int)) (by omega) (by omega))
        have hfz:=hblk.out.frozen (i+k)
        have hcw:wr.cell? ⟨w.heap.size,i+k,none⟩=some (.int .u64 (rd cs ((i+k:Nat):Int))):=hblk.out.cell (by omega)
        have hfz':=hblk.out.frozen (i+k+1)
        have hcw':wr.cell? ⟨w.heap.size,i+k+1,none⟩=some (.int .u64 (rd cs ((i+k+1:Nat):Int))):=hblk.out.cell (by omega)
        generalize hxx:rd a i=x at *
        have hxx:=Aside0.mk hxx
        generalize hyy:rd cs ((i+k:Nat):Int)=y at *
        have hyy:=Aside0.mk hyy
        generalize hzz:rd cs ((i+k+1:Nat):Int)=z at *
        have hv:=Aside0.mk (left_parts hs64 hx.out.1 hx.out.2 (hyy.out ▸ (hI.out.2.1.rd (i:=((i+k:Nat):Int)) (by omega) (by omega)).1) (hyy.out ▸ hI.out.2.2.2.1))
        obtain ⟨v1,ev1⟩:∃ v1,Go.bits .or .u64 y (IntKind.u64.wrap (x*2 ^ s))=v1:=⟨_,rfl⟩
        obtain ⟨v2,ev2⟩:∃ v2,x/2 ^ (64-s)=v2:=⟨_,rfl⟩
        rw [ev1,ev2] at hv
        have fin:=Aside0.mk (hI.out.step hil hxx.out hyy.out hx.out.1 hv.out)
        go_wp2_with fail
        go_region
        go_wp2
        go_roundw
        case rel=>exact ⟨i+1,_,by omega,by go_num,fin,⟨((hblk.out.put (by omega) v1).drew).put (by simp;omega) v2⟩,⟨below_set (below_drew1 (below_set hB.out (Nat.le_refl _))) (Nat.le_refl _)⟩⟩
        case measure=>simp [intOf];omega
      · obtain rfl:i=a.length:=by omega
        have hfin:=Aside0.mk (hI.out.done HN.out)
        have hrd:=Aside0.mk (hblk.out.all (c:=a.length+k+1) (by omega) (by omega))
        go_wp2_with fail
        have h:=trim_calls cs (some ⟨w.heap.size,0,none⟩) (a.length+k+1) _ hfin.out.1 hrd.out
        rw [hcl] at h
        refine h.mono ?_
        rintro e w2 ⟨A2,c2,rfl,hr2,hB2⟩
        go_wp2
        go_ret
        exact ⟨A2,c2,by rw [hfin.out.2];rfl,by rw [← hfin.out.2];exact hr2,hB.out.trans (hB2.mono hB.out.size)⟩
end
end Go.Proofs.Ytonelbidndjhdaa.Limbs
set_option linter.unusedVariables false
namespace Go.Proofs.Ytonelbidndjhdaa.Limbs
open RowKit YtonelbidndjhdaaW.PrintWords YtonelbidndjhdaaW.PrintLast YtonelbidndjhdaaW.PrintMore YtonelbidndjhdaaW.Aid YtonelbidndjhdaaW.Big Ytonelbidndjhdaa.BitsWalk
theorem Rd.drop {w:World} {l:List Int} {ad:Addr} {c k:Nat} (h:Rd w l (some ad) c) (hk:k≤l.length):Rd w (l.drop k) (some (ad.add k)) (c-k):=by
  have hl:(l.drop k).length=l.length-k:=by simp
  refine ⟨by have:=h.1;omega,?_⟩
  refine ⟨rfl,by have:=h.2.2.1;omega,fun hpos=>⟨_,rfl,fun j p hj=>?_⟩⟩
  obtain ⟨ad',hA,hc⟩:=h.2.2.2 (by omega)
  cases hA
  rw [List.getElem?_drop] at hj
  obtain ⟨cs,h1,h2,h3⟩:=hc (k+j) p hj
  refine ⟨cs,h1,h2,fun i u hu=>?_⟩
  rw [← h3 i u hu]
  have e:(ad.add k).add (j*(Kd.int .u64).sz+i)=ad.add ((k+j)*(Kd.int .u64).sz+i):=by
    show (ad.add k).add (j*1+i)=ad.add ((k+j)*1+i)
    rw [Addr.add_add]
    congr 1
    omega
  rw [e]
theorem drop_val {b:List Int} {i:Nat} (h:i<b.length):val (b.drop i)=(rd b i).toNat+18446744073709551616*val (b.drop (i+1)):=by
  rw [List.drop_eq_getElem_cons h,← rd_nat h]
  rfl
def rdig (s:Nat) (x R:Nat):Nat:=x/2 ^ s+2 ^ (64-s)*(R%2 ^ s)
theorem down_val {s x R:Nat} (hs:s<64) (hx:x<18446744073709551616):(x+18446744073709551616*R)/2 ^ s=rdig s x R+18446744073709551616*(R/2 ^ s)∧rdig s x R<18446744073709551616:=by
  have hS:0<2 ^ s:=Nat.pow_pos (by omega)
  have hST:2 ^ s*2 ^ (64-s)=18446744073709551616:=by rw [← Nat.pow_add,show s+(64-s)=64 by omega]
  have e1:(x+18446744073709551616*R)/2 ^ s=x/2 ^ s+2 ^ (64-s)*R:=by
    rw [← hST,Nat.mul_assoc,Nat.add_mul_div_left _ _ hS]
  have e2:2 ^ (64-s)*R=18446744073709551616*(R/2 ^ s)+2 ^ (64-s)*(R%2 ^ s):=by
    have h:=Nat.div_add_mod R (2 ^ s)
    have h':=congrArg (2 ^ (64-s)*·) h
    simp only [Nat.mul_add] at h'
    rw [← h',← Nat.mul_assoc,Nat.mul_comm (2 ^ (64-s)) (2 ^ s),hST]
  have e3:x/2 ^ s<2 ^ (64-s):=by
    rw [Nat.div_lt_iff_lt_mul hS,Nat.mul_comm,hST];exact hx
  have e4:2 ^ (64-s)*(R%2 ^ s)+2 ^ (64-s)≤18446744073709551616:=by
    have:=Nat.mul_le_mul_left (2 ^ (64-s)) (show R%2 ^ s+1≤2 ^ s from Nat.mod_lt _ hS)
    rw [Nat.mul_add,Nat.mul_one,Nat.mul_comm (2 ^ (64-s)) (2 ^ s),hST] at this
    exact this
  unfold rdig
  generalize 2 ^ (64-s)*(R%2 ^ s)=t at *
  exact ⟨by omega,by omega⟩
def RightInv (b:List Int) (s i:Nat) (cs:List Int):Prop :=
  cs.length=b.length∧Dig cs∧(∀ j:Nat,i≤j→rd cs j=rd b j)∧val (cs.take i)+18446744073709551616 ^ i*(val (b.drop i)/2 ^ s)=val b/2 ^ s
theorem RightInv.start {b:List Int} {s:Nat} (h:Dig b):RightInv b s 0 b:=⟨rfl,h,fun _ _=>rfl,by simp [val]⟩
theorem RightInv.step {b cs:List Int} {s i:Nat} {v:Int} (h:RightInv b s i cs) (hi:i<b.length) (hs:s<64) (hx0:0≤rd b i) (hx1:rd b i<18446744073709551616) (hv:v=(rdig s (rd b i).toNat (val (b.drop (i+1))):Nat)):RightInv b s (i+1) (cs.set i v):=by
  obtain ⟨h1,h2,h3,h4⟩:=h
  obtain ⟨e1,e2⟩:=down_val (s:=s) (x:=(rd b i).toNat) (R:=val (b.drop (i+1))) hs (by omega)
  refine ⟨by simpa using h1,h2.set _ (by omega) (by omega),fun j hj=>?_,?_⟩
  · rw [rd_set_ne _ (by omega)];exact h3 j (by omega)
  · rw [drop_val hi,e1,Nat.mul_add] at h4
    rw [val_set_take (by omega),Nat.pow_succ,Nat.mul_assoc,hv,Int.toNat_natCast]
    omega
theorem RightInv.done {b cs:List Int} {s:Nat} (h:RightInv b s b.length cs):Dig cs∧val cs=val b/2 ^ s:=by
  obtain ⟨h1,h2,h3,h4⟩:=h
  rw [List.take_of_length_le (by omega),List.drop_length] at h4
  exact ⟨h2,by rw [← h4];simp [val]⟩
theorem digit_of {s:Nat} (hs:s<64) {x y:Int} {R:Nat} (hx0:0≤x) (hx1:x<18446744073709551616) (hy0:0≤y):Go.bits .or .u64 (x/2 ^ s) (IntKind.u64.wrap (y*2 ^ (64-s)))=(rdig s x.toNat (y.toNat+18446744073709551616*R):Nat):=by
  have hS:(0:Int)<2 ^ s:=Int.pow_pos (by omega)
  have hT:(0:Int)<2 ^ (64-s):=Int.pow_pos (by omega)
  have hST:(2:Int) ^ s*2 ^ (64-s)=18446744073709551616:=by rw [← Int.pow_add,show s+(64-s)=64 by omega];rfl
  have hSN:2 ^ s*2 ^ (64-s)=18446744073709551616:=by rw [← Nat.pow_add,show s+(64-s)=64 by omega]
  have hmod:y*2 ^ (64-s)%18446744073709551616=y%2 ^ s*2 ^ (64-s):=by
    rw [← hST,Int.mul_comm y,Int.mul_comm (2 ^ s),Int.mul_emod_mul_of_pos _ _ hT,Int.mul_comm]
  have e1:(y.toNat+18446744073709551616*R)%2 ^ s=y.toNat%2 ^ s:=by
    rw [← hSN,Nat.mul_assoc,Nat.add_mul_mod_self_left]
  have hm0:=Int.emod_nonneg y (b:=2 ^ s) (by omega)
  have hm1:=Int.emod_lt_of_pos y hS
  have hq0:0≤x/2 ^ s:=Int.ediv_nonneg hx0 (by omega)
  have hq1:x/2 ^ s<2 ^ (64-s):=Int.ediv_lt_of_lt_mul hS (by rw [Int.mul_comm,hST];exact hx1)
  have ecast:((rdig s x.toNat (y.toNat+18446744073709551616*R):Nat):Int)=x/2 ^ s+2 ^ (64-s)*(y%2 ^ s):=by
    unfold rdig
    rw [e1,Int.natCast_add,Int.natCast_mul,Int.natCast_ediv,Int.natCast_emod,Int.toNat_of_nonneg hx0,Int.toNat_of_nonneg hy0]
    norm_cast
  rw [ecast,u64_wrap,hmod]
  by_cases h0:s=0
  · subst h0
    have:y%2 ^ 0=0:=by rw [Int.pow_zero];omega
    rw [this]
    simp only [Int.zero_mul,Int.mul_zero,Int.add_zero]
    rw [Int.pow_zero,Int.ediv_one]
    have:=Go.Proofs.Ytonelbidndjhdaa.Long.or_shift 0 (by omega) (a:=x) (b:=0) hx0 (by rw [Int.pow_zero,Int.mul_one];exact hx1) (by omega) (by decide)
    rw [Int.pow_zero,Int.mul_one] at this
    rw [this];omega
  · have hml:y%2 ^ s*2 ^ (64-s)<18446744073709551616:=by
      have:=Int.mul_lt_mul_of_pos_right hm1 hT
      rw [hST] at this
      exact this
    rw [bits_comm_or,Go.Proofs.Ytonelbidndjhdaa.Long.or_shift (64-s) (by omega) hm0 hml hq0 hq1,Int.mul_comm (2 ^ (64-s))]
    omega
theorem digit_last {s x:Nat}:((rdig s x 0:Nat):Int)=(x:Int)/2 ^ s:=by
  unfold rdig
  simp
section
set_option maxRecDepth 100000
set_option maxHeartbeats 1000000
theorem right_calls (a:List Int) (n:Nat) (A:Option Addr) (c:Nat) (w:World) (hda:Dig a) (hr:Rd w a A c) (hla:a.length≤1000) (hn:n≤6400) :
    Calls Try.prog 123 #[.slice A a.length c,.int .i64 n] w (RetRd (limbs (val a/2 ^ n)) w):=by
  have HR:=Aside0.mk hr
  have DA:=Aside0.mk hda
  obtain ⟨k,hk⟩:∃ k,n/64=k:=⟨_,rfl⟩
  obtain ⟨s,hs⟩:∃ s,n%64=s:=⟨_,rfl⟩
  have hki:(n:Int)/64=(k:Int):=by omega
  have hsi:(n:Int)%64=(s:Int):=by omega
  have hs64:s<64:=by omega
  have HN:Aside0 (n=64*k+s):=⟨by omega⟩
  have hv:=val_lt hda
  clear hr hda hk hs
  by_cases h0:a.length≤k
  · have hb:decide (a.length≤k)=true:=decide_eq_true h0
    have hb2:decide ((a.length:Int)≤(k:Int))=true:=decide_eq_true (by omega)
    have e:Aside0 (limbs (val a/2 ^ n)=[]):=⟨by
      rw [Nat.div_eq_of_lt,limbs_zero]
      refine Nat.lt_of_lt_of_le hv ?_
      have h1:18446744073709551616 ^ a.length≤18446744073709551616 ^ k:=Nat.pow_le_pow_right (by omega) h0
      have h2:18446744073709551616 ^ k≤2 ^ n:=by
        show (2 ^ 64) ^ k≤2 ^ n
        rw [← Nat.pow_mul]
        exact Nat.pow_le_pow_right (by omega) (by have:=HN.out;omega)
      omega⟩
    clear hv
    go_enter Try.func123,Try.ntmps123
    go_wp2
    go_ret
    exact ⟨none,0,by rw [e.out];rfl,by rw [e.out];exact Rd.nil _,Below.refl _ _⟩
  · have hb:decide (a.length≤k)=false:=decide_eq_false h0
    have hb2:decide ((a.length:Int)≤(k:Int))=false:=decide_eq_false (by omega)
    have e:Aside0 (val a/2 ^ n=val (a.drop k)/2 ^ s):=⟨by
      have h1:=val_append (a.take k) (a.drop k)
      rw [List.take_append_drop,List.length_take,Nat.min_eq_left (by omega)] at h1
      have h2:=val_lt (DA.out.take k)
      rw [List.length_take,Nat.min_eq_left (by omega)] at h2
      rw [HN.out,Nat.pow_add,← Nat.div_div_eq_div_mul,Nat.pow_mul]
      show val a/18446744073709551616 ^ k/2 ^ s=_
      rw [h1,Nat.add_mul_div_left _ _ (Nat.pow_pos (by omega)),Nat.div_eq_of_lt h2,Nat.zero_add]⟩
    rw [e.out]
    obtain ⟨ad,rfl⟩:∃ ad,A=some ad:=by
      obtain ⟨ad,h,_⟩:=HR.out.2.2.2 (by omega)
      exact ⟨ad,h⟩
    have HD:=Aside0.mk (Rd.drop HR.out (k:=k) (by omega))
    have hlen:(a.drop k).length=a.length-k:=by simp
    have HC:=Aside0.mk (clone_calls (a.drop k) (some (ad.add k)) (c-k) w HD.out (by omega))
    rw [hlen] at HC
    have hac:a.length≤c:=HR.out.1
    have Db:=Aside0.mk (DA.out.drop k)
    clear hv e
    generalize a.drop k=b at *
    have hkl:k≤a.length:=by omega
    have hkl':(k:Int)≤(a.length:Int):=by omega
    have HL:=Aside0.mk hlen
    clear hlen
    go_enter Try.func123,Try.ntmps123
    go_wp2_with fail
    refine HC.out.mono ?_
    rintro e w1 ⟨hB1,⟨hnil,rfl⟩|⟨g,cp,rfl,hg,hcp,hm,hblk1⟩⟩
    · exact absurd (show b.length=0 by rw [hnil];rfl) (by have:=HL.out;omega)
    have HB1:=Aside0.mk hB1
    have hg:=Aside0.mk hg
    have hcp:=Aside0.mk hcp
    have hblk1:=Aside0.mk hblk1
    have hm:=Aside0.mk hm
    have hbl:b.length≤1000:=by have:=HL.out;omega
    clear hB1 HC h0 hb hb2 hkl hkl'
    go_wp2_with fail
    go_loopw [19] (fun v19 wr=>∃ (i:Nat) (cs:List Int),i≤b.length∧v19 = .int .i64 i∧Aside0 (RightInv b s i cs)∧Aside0 (Blk wr g cs)∧Aside0 (Below w.heap.size w wr)) (fun v19 _=>b.length-(intOf v19).toNat)
    case atStart=>exact ⟨0,_,by omega,rfl,⟨RightInv.start Db.out⟩,hblk1,HB1⟩
    case round =>
      obtain ⟨i,cs,hi,rfl,hI,hblk,hB⟩:=hrel
      have hcl:=hI.out.1
      by_cases hil:i<b.length
      · have hx:=Aside0.mk (Db.out.rd (i:=(i:Int)) (by omega) (by omega))
        have hfz:=hblk.out.frozen i
        have hcw:wr.cell? ⟨g,i,none⟩=some (.int .u64 (rd b i)):=by rw [← hI.out.2.2.1 i (Nat.le_refl _)];exact hblk.out.cell (by omega)
        by_cases hin:i+1<b.length
        · have hin1:decide (i+1<b.length)=true:=decide_eq_true hin
          have hin2:decide ((i:Int)+1<(b.length:Int))=true:=decide_eq_true (by omega)
          have hcw':wr.cell? ⟨g,i+1,none⟩=some (.int .u64 (rd b ((i+1:Nat):Int))):=by rw [← hI.out.2.2.1 (i+1) (by omega)];exact hblk.out.cell (by omega)
          have hy:=Aside0.mk (Db.out.rd (i:=((i+1:Nat):Int)) (by omega) (by omega))
          have hci:Aside0 (rd cs ((i+1:Nat):Int)=rd b ((i+1:Nat):Int)):=⟨hI.out.2.2.1 (i+1) (by omega)⟩
          have hdv:=Aside0.mk (digit_of (s:=s) hs64 (x:=rd b i) (y:=rd b ((i+1:Nat):Int)) (R:=val (b.drop (i+1+1))) hx.out.1 hx.out.2 hy.out.1)
          have st:=Aside0.mk (fun v=>hI.out.step (v:=v) hil hs64 hx.out.1 hx.out.2)
          rw [← drop_val hin] at hdv
          generalize rd b i=x at *
          generalize rd b ((i+1:Nat):Int)=y at *
          obtain ⟨v,ev⟩:∃ v,Go.bits .or .u64 (x/2 ^ s) (IntKind.u64.wrap (y*2 ^ (64-s)))=v:=⟨_,rfl⟩
          rw [ev] at hdv
          have fin:=Aside0.mk (st.out v hdv.out)
          clear hdv st
          go_wp2_with fail
          have hblk2:=Aside0.mk (hblk.out.put (i:=i) (by omega) (x/2 ^ s))
          have hB2:=Aside0.mk (below_set hB.out hg.out:Below w.heap.size w (wr.setCell ⟨g,i,none⟩ (.int .u64 (x/2 ^ s))))
          generalize wr.setCell ⟨g,i,none⟩ (.int .u64 (x/2 ^ s))=wq at *
          have hfz2:=hblk2.out.frozen i
          have hcw2:wq.cell? ⟨g,i,none⟩=some (.int .u64 (x/2 ^ s)):=(hblk2.out.cell (i:=i) (by simp;omega)).trans (by rw [rd_set_eq _ (by omega)])
          have hcw2':wq.cell? ⟨g,i+1,none⟩=some (.int .u64 y):=(hblk2.out.cell (i:=i+1) (by simp;omega)).trans (by rw [rd_set_ne _ (by omega),hci.out])
          clear hcw hcw' hfz
          go_region
          go_wp2
          go_roundw
          case rel=>exact ⟨i+1,_,by omega,by go_num,fin,⟨by have h:=(hblk2.out.put (i:=i) (by simp;omega) v).drew;rw [List.set_set] at h;exact h⟩,⟨below_drew1 (below_set hB2.out hg.out)⟩⟩
          case measure=>simp [intOf];omega
        · have hin1:decide (i+1<b.length)=false:=decide_eq_false hin
          have hin2:decide ((i:Int)+1<(b.length:Int))=false:=decide_eq_false (by omega)
          have hdv:Aside0 (rd b i/2 ^ s=(rdig s (rd b i).toNat (val (b.drop (i+1))):Nat)):=⟨by rw [List.drop_of_length_le (by omega),show val []=0 from rfl,digit_last,Int.toNat_of_nonneg hx.out.1]⟩
          have fin:=Aside0.mk (hI.out.step hil hs64 hx.out.1 hx.out.2 hdv.out)
          generalize rd b i=x at *
          clear hdv
          go_wp2
          go_roundw
          case rel=>exact ⟨i+1,_,by omega,by go_num,fin,⟨hblk.out.put (i:=i) (by omega) _⟩,⟨below_set hB.out hg.out⟩⟩
          case measure=>simp [intOf];omega
      · obtain rfl:i=b.length:=by omega
        have hfin:=Aside0.mk (hI.out.done)
        have hrd:=Aside0.mk (hblk.out.all (c:=cp) (by have:=hcp.out;omega) (by have:=hm.out;omega))
        go_wp2_with fail
        have h:=trim_calls cs (some ⟨g,0,none⟩) cp _ hfin.out.1 hrd.out
        rw [hcl] at h
        refine h.mono ?_
        rintro e w2 ⟨A2,c2,rfl,hr2,hB2⟩
        go_wp2
        go_ret
        exact ⟨A2,c2,by rw [hfin.out.2];rfl,by rw [← hfin.out.2];exact hr2,hB.out.trans (hB2.mono hB.out.size)⟩
end
end Go.Proofs.Ytonelbidndjhdaa.Limbs
set_option linter.unusedVariables false
namespace Go.Proofs.Ytonelbidndjhdaa.Limbs
open RowKit YtonelbidndjhdaaW.PrintWords YtonelbidndjhdaaW.PrintLast YtonelbidndjhdaaW.PrintMore YtonelbidndjhdaaW.Aid YtonelbidndjhdaaW.Big Ytonelbidndjhdaa.BitsWalk
def DivInv (a:List Int) (d:Nat) (j:Nat) (r:Int) (cs:List Int):Prop :=
  cs.length=a.length∧Dig cs∧0≤r∧r<d∧val (a.drop j)=d*val (cs.drop j)+r.toNat
theorem DivInv.start (a:List Int) {d:Nat} (hd:0<d):DivInv a d a.length 0 (List.replicate a.length 0) :=
  ⟨by simp,Dig.zeros _,by omega,by omega,by simp [val]⟩
theorem set_drop_self {l:List Int} {i:Nat} {v:Int} (h:i<l.length):(l.set i v).drop i=v::l.drop (i+1):=by
  rw [List.drop_eq_getElem_cons (by simpa using h)]
  congr 1
  · simp
  · rw [List.drop_set_of_lt (by omega)]
theorem DivInv.step {a cs:List Int} {d i:Nat} {r:Int} (h:DivInv a d (i+1) r cs) (hi:i<a.length) (hda:Dig a) :
    0≤(r*18446744073709551616+rd a i)/(d:Int)∧(r*18446744073709551616+rd a i)/(d:Int)<18446744073709551616∧0≤(r*18446744073709551616+rd a i)%(d:Int)∧(r*18446744073709551616+rd a i)%(d:Int)<d ∧
    DivInv a d i ((r*18446744073709551616+rd a i)%(d:Int)) (cs.set i ((r*18446744073709551616+rd a i)/(d:Int))):=by
  obtain ⟨h1,h2,h3,h4,h5⟩:=h
  obtain ⟨x0,x1⟩:=hda.rd (i:=(i:Int)) (by omega) (by omega)
  have hd:(0:Int)<d:=by omega
  have e:=Int.mul_ediv_add_emod (r*18446744073709551616+rd a i) (d:Int)
  have e0:0≤(r*18446744073709551616+rd a i)/(d:Int):=Int.ediv_nonneg (by omega) (by omega)
  have e1:(r*18446744073709551616+rd a i)/(d:Int)<18446744073709551616:=by
    refine Int.ediv_lt_of_lt_mul hd ?_
    have:=Int.mul_le_mul_of_nonneg_right (show r+1≤(d:Int) by omega) (show (0:Int)≤18446744073709551616 by omega)
    rw [Int.mul_comm 18446744073709551616]
    omega
  have e2:=Int.emod_nonneg (r*18446744073709551616+rd a i) (b:=(d:Int)) (by omega)
  have e3:=Int.emod_lt_of_pos (r*18446744073709551616+rd a i) hd
  refine ⟨e0,e1,e2,e3,by simpa using h1,h2.set _ e0 e1,e2,e3,?_⟩
  rw [drop_val hi,set_drop_self (by omega),h5]
  simp only [val]
  generalize (r*18446744073709551616+rd a i)/(d:Int)=q at *
  generalize (r*18446744073709551616+rd a i)%(d:Int)=m at *
  have hq:((d*q.toNat:Nat):Int)=(d:Int)*q:=by rw [Int.natCast_mul,Int.toNat_of_nonneg e0]
  rw [Nat.mul_add,Nat.mul_add,Nat.mul_left_comm d]
  generalize val (cs.drop (i+1))=V at *
  generalize d*V=p at *
  generalize d*q.toNat=p' at *
  generalize (d:Int)*q=p'' at *
  omega
theorem DivInv.done {a cs:List Int} {d:Nat} {r:Int} (h:DivInv a d 0 r cs):Dig cs∧val cs=val a/d∧r=((val a%d:Nat):Int):=by
  obtain ⟨h1,h2,h3,h4,h5⟩:=h
  simp only [List.drop_zero] at h5
  refine ⟨h2,?_,?_⟩
  · rw [h5,Nat.mul_add_div (by omega),Nat.div_eq_of_lt (by omega)];omega
  · rw [h5,Nat.mul_add_mod,Nat.mod_eq_of_lt (by omega)];omega
def DivWRet (q r:Nat) (w:World) (e:Ending) (w':World):Prop:=∃ A c,e = .returned (.tuple #[.slice A (limbs q).length c,.int .u64 r])∧Rd w' (limbs q) A c∧Below w.heap.size w w'
section
set_option maxRecDepth 100000
set_option maxHeartbeats 1000000
theorem below_drewN1 {B n:Nat} {w w1:World} (h:Below B w w1):Below B w (w1.drewN n):=⟨h.os,h.tape,h.output,h.size,h.block⟩
theorem Blk.drewN {w:World} {g n:Nat} {l:List Int} (h:Blk w g l):Blk (w.drewN n) g l:=h
theorem divWord_calls (a:List Int) (d:Nat) (A:Option Addr) (c:Nat) (w:World) (hda:Dig a) (hr:Rd w a A c) (hla:a.length≤1000) (hd0:0<d) (hd1:d<18446744073709551616) :
    Calls Try.prog 119 #[.slice A a.length c,.int .u64 d] w (DivWRet (val a/d) (val a%d) w):=by
  have HR:=Aside0.mk hr
  have DA:=Aside0.mk hda
  have HD:=Aside0.mk hd0
  have HD1:=Aside0.mk hd1
  have hmk:=fun w=>mk_run a.length (by omega) (a.length:Int) rfl w
  clear hr hda hd1 hd0
  go_enter Try.func119,Try.ntmps119
  go_wp2_with fail
  go_loopw [7,8] (fun v7 v8 wr=>∃ (j:Nat) (r:Int) (cs:List Int),j≤a.length∧v8 = .int .i64 ((j:Int)-1)∧v7 = .int .u64 r∧Aside0 (DivInv a d j r cs)∧Aside0 (Blk wr w.heap.size cs)∧Aside0 (Below w.heap.size w wr)) (fun _ v8 _=>(intOf v8+1).toNat)
  case atStart=>exact ⟨a.length,0,_,Nat.le_refl _,by go_num,rfl,⟨DivInv.start a HD.out⟩,⟨Blk.new w _⟩,⟨below_alloc (Below.refl _ _) _⟩⟩
  case round =>
    obtain ⟨j,r,cs,hj,rfl,rfl,hI,hblk,hB⟩:=hrel
    have hcl:=hI.out.1
    clear hmk
    cases j with
    | succ i =>
      have hb:decide ((0:Int)≤((i+1:Nat):Int)-1)=true:=decide_eq_true (by omega)
      have ei:((i+1:Nat):Int)-1=(i:Int):=by omega
      rw [ei]
      have hil:i<a.length:=by omega
      obtain ⟨ad,rfl,hcell⟩:=Kd.at_int (HR.out.below hB.out).2 (i:Int) (by omega) (by omega)
      simp only [Int.toNat_natCast] at hcell
      have hx:=Aside0.mk (DA.out.rd (i:=(i:Int)) (by omega) (by omega))
      have st:=Aside0.mk (hI.out.step hil DA.out)
      generalize rd a i=x at *
      have DV:=Aside0.mk (Go.Proofs.Ytonelbidndjhdaa.Long.div64_calls r x d wr hI.out.2.2.1 hI.out.2.2.2.1 hx.out.1 hx.out.2 (by have:=HD1.out;omega))
      clear hb ei
      go_wp2_with fail
      refine DV.out.mono ?_
      rintro e w1 ⟨rfl,nd,rfl⟩
      have hfz:=hblk.out.frozen i
      have hcw:wr.cell? ⟨w.heap.size,i,none⟩=some (.int .u64 (rd cs i)):=hblk.out.cell (by omega)
      go_wp2
      go_roundw
      case rel=>exact ⟨i,_,_,by omega,by go_num,rfl,⟨st.out.2.2.2.2⟩,⟨(hblk.out.drewN).put (by omega) _⟩,⟨below_set (below_drewN1 hB.out) (Nat.le_refl _)⟩⟩
      case measure=>simp [intOf]<;>omega
    | zero =>
      have hb:decide ((0:Int)≤((0:Nat):Int)-1)=false:=decide_eq_false (by omega)
      have hfin:=Aside0.mk (hI.out.done)
      have hrd:=Aside0.mk (hblk.out.all (c:=a.length) (by omega) (by omega))
      go_wp2_with fail
      have h:=trim_calls cs (some ⟨w.heap.size,0,none⟩) a.length _ hfin.out.1 hrd.out
      rw [hcl] at h
      refine h.mono ?_
      rintro e w2 ⟨A2,c2,rfl,hr2,hB2⟩
      go_wp2
      go_ret2
      exact ⟨A2,c2,by rw [hfin.out.2.1,hfin.out.2.2];rfl,by rw [← hfin.out.2.1];exact hr2,hB.out.trans (hB2.mono hB.out.size)⟩
theorem limbs_word {n:Nat} (h0:n≠0) (h1:n<18446744073709551616):limbs n=[(n:Int)]:=by
  rw [limbs_pos h0,Nat.mod_eq_of_lt h1,Nat.div_eq_of_lt h1,limbs_zero]
theorem word_calls (n:Nat) (w:World) (h:n<18446744073709551616):Calls Try.prog 115 #[.int .u64 n] w (RetRd (limbs n) w):=by
  by_cases h0:n=0
  · subst h0
    have e:Aside0 (limbs 0=[]):=⟨limbs_zero⟩
    go_enter Try.func115,Try.ntmps115
    go_wp2
    go_ret
    exact ⟨none,0,by rw [e.out];rfl,by rw [e.out];exact Rd.nil _,Below.refl _ _⟩
  · have hb:((n:Int) == 0)=false:=beq_eq_false_iff_ne.2 (by omega)
    have e:Aside0 (limbs n=[(n:Int)]):=⟨limbs_word h0 h⟩
    go_enter Try.func115,Try.ntmps115
    go_wp2
    go_ret
    exact ⟨some ⟨w.heap.size,0,none⟩,1,by rw [e.out];rfl,by rw [e.out];exact (Blk.new w [(n:Int)]).all (by simp) (by simp),below_alloc (Below.refl _ _) _⟩
def DivRet (q r:Nat) (w:World) (e:Ending) (w':World):Prop:=∃ A c A' c',e = .returned (.tuple #[.slice A (limbs q).length c,.slice A' (limbs r).length c'])∧Rd w' (limbs q) A c∧Rd w' (limbs r) A' c'∧Below w.heap.size w w'
theorem CloneRet.rd {l:List Int} {w:World} {e:Ending} {w':World} (h:CloneRet l w e w'):RetRd l w e w':=by
  obtain ⟨hB,⟨hnil,rfl⟩|⟨g,cp,rfl,hg,hcp,hm,hblk⟩⟩:=h
  · subst hnil;exact ⟨none,0,rfl,Rd.nil _,hB⟩
  · exact ⟨_,_,rfl,hblk.all hcp hm,hB⟩
theorem div_calls_word (a b:Nat) (A A':Option Addr) (c c':Nat) (w:World) (hr:Rd w (limbs a) A c) (hr':Rd w (limbs b) A' c') (hla:(limbs a).length≤1000) (hb0:0<b) (hb1:b<18446744073709551616) :
    Calls Try.prog 99 #[.slice A (limbs a).length c,.slice A' (limbs b).length c'] w (DivRet (a/b) (a%b) w):=by
  have HR:=Aside0.mk hr
  have HR':=Aside0.mk hr'
  have HB:=Aside0.mk (And.intro hb0 hb1)
  have CM:=Aside0.mk (cmp_calls a b A A' c c' w hr hr')
  clear hr hr' hb0 hb1
  by_cases hlt:a<b
  · have e1:Aside0 (a/b=0∧a%b=a):=⟨Nat.div_eq_of_lt hlt,Nat.mod_eq_of_lt hlt⟩
    have e2:cmpR a b = -1:=if_pos hlt
    have hl0:Aside0 (limbs 0=[]):=⟨limbs_zero⟩
    rw [e2] at CM
    rw [e1.out.1,e1.out.2]
    have CL:=Aside0.mk (fun n=>clone_calls (limbs a) A c (w.drewN n) (HR.out.below (below_drewN1 (Below.refl _ _))) (by omega))
    clear e2 hlt
    go_enter Try.func99,Try.ntmps99
    go_wp2_with fail
    refine CM.out.mono ?_
    rintro e w1 ⟨rfl,nd,rfl⟩
    go_wp2_with fail
    refine (CL.out nd).mono ?_
    rintro e w1 hcl
    obtain ⟨A2,c2,rfl,hr2,hB2⟩:=hcl.rd
    go_wp2
    go_ret2
    exact ⟨none,0,A2,c2,by rw [hl0.out];rfl,by rw [hl0.out];exact Rd.nil _,hr2,(below_drewN1 (Below.refl w.heap.size w)).trans hB2⟩
  · have e2:cmpR a b=(if b<a then 1 else 0):=if_neg hlt
    obtain ⟨k,hk,hk0⟩:∃ k:Int,cmpR a b=k∧0≤k:=⟨_,rfl,by rw [e2];split<;>omega⟩
    have hkb:decide (k<0)=false:=decide_eq_false (by omega)
    have hlb:=limbs_word (n:=b) (by have:=HB.out;omega) HB.out.2
    have hl1:Aside0 ((limbs b).length=1):=⟨by rw [hlb];rfl⟩
    rw [hk] at CM
    rw [hl1.out] at CM
    rw [hl1.out]
    have DW:=Aside0.mk (fun n=>divWord_calls (limbs a) b A c (w.drewN n) (limbs_dig a) (HR.out.below (below_drewN1 (Below.refl _ _))) hla HB.out.1 HB.out.2)
    rw [val_limbs] at DW
    obtain ⟨ad,rfl,hcell⟩:=Kd.at_int HR'.out.2 (0:Int) (by omega) (by rw [hl1.out];omega)
    have hc0:rd (limbs b) 0=(b:Int):=by rw [hlb];rfl
    rw [hc0] at hcell
    have hcell0:w.cell? ad=some (.int .u64 (b:Int)):=hcell
    clear hcell
    have hone:decide ((1:Int)=1)=true:=rfl
    have MB:=Aside0.mk (Nat.lt_trans (Nat.mod_lt a HB.out.1) HB.out.2)
    clear e2 hlt hk hk0 hc0 hlb
    go_enter Try.func99,Try.ntmps99
    go_wp2_with fail
    refine CM.out.mono ?_
    rintro e w1 ⟨rfl,nd,rfl⟩
    go_wp2_with fail
    refine (DW.out nd).mono ?_
    rintro e w1 ⟨A2,c2,rfl,hr2,hB2⟩
    go_wp2_with fail
    refine (word_calls (a%b) w1 MB.out).mono ?_
    rintro e w2 ⟨A3,c3,rfl,hr3,hB3⟩
    have hB3:=Aside0.mk hB3
    have hB2:=Aside0.mk hB2
    go_wp2
    go_ret2
    exact ⟨A2,c2,A3,c3,rfl,hr2.below hB3.out,hr3,((below_drewN1 (Below.refl w.heap.size w)).trans hB2.out).trans (hB3.out.mono hB2.out.size)⟩
end
end Go.Proofs.Ytonelbidndjhdaa.Limbs
end
section
set_option linter.unusedVariables false
namespace Go.Proofs.Ytonelbidndjhdaa.Limbs
open RowKit YtonelbidndjhdaaW.PrintWords YtonelbidndjhdaaW.PrintLast YtonelbidndjhdaaW.PrintMore YtonelbidndjhdaaW.Aid YtonelbidndjhdaaW.Big Ytonelbidndjhdaa.BitsWalk
def MulInv (a b:List Int) (i:Nat) (cs:List Int):Prop :=
  cs.length=a.length+b.length∧Dig cs∧(∀ j:Nat,i+b.length≤j→rd cs j=0)∧val (cs.take (i+b.length))=val (a.take i)*val b
def RowInv (b cs0:List Int) (i:Nat) (x:Int) (k:Nat) (cy:Int) (cs:List Int):Prop :=
  cs.length=cs0.length∧Dig cs∧0≤cy∧cy<18446744073709551616∧(∀ j:Nat,i+k≤j→rd cs j=rd cs0 j) ∧
    val (cs.take (i+k))+18446744073709551616 ^ (i+k)*cy.toNat=val (cs0.take (i+k))+18446744073709551616 ^ i*(x.toNat*val (b.take k))
theorem MulInv.start (a b:List Int):MulInv a b 0 (List.replicate (a.length+b.length) 0):=by
  refine ⟨by simp,Dig.zeros _,fun j _=>rd_zeros,?_⟩
  rw [List.take_replicate,val_zeros]
  simp [val]
theorem RowInv.start {a b cs:List Int} {i:Nat} (h:MulInv a b i cs) (x:Int):RowInv b cs i x 0 0 cs:=by
  refine ⟨rfl,h.2.1,by omega,by omega,fun _ _=>rfl,?_⟩
  simp [val]
theorem row_limb {x y z cy:Int} (hx0:0≤x) (hx1:x<18446744073709551616) (hy0:0≤y) (hy1:y<18446744073709551616) (hz0:0≤z) (hz1:z<18446744073709551616) (hc0:0≤cy) (hc1:cy<18446744073709551616) :
    ∃ hi lo s1 o1 s2 o2:Int,x*y/18446744073709551616=hi∧x*y%18446744073709551616=lo∧0≤lo∧(lo+cy+0)%18446744073709551616=s1∧(lo+cy+0)/18446744073709551616=o1∧0≤s1∧(z+s1+0)%18446744073709551616=s2∧(z+s1+0)/18446744073709551616=o2 ∧
      IntKind.u64.wrap (hi+o1)=hi+o1∧IntKind.u64.wrap (hi+o1+o2)=hi+o1+o2∧0≤s2∧s2<18446744073709551616∧0≤hi+o1+o2∧hi+o1+o2<18446744073709551616∧s2+18446744073709551616*(hi+o1+o2)=z+x*y+cy:=by
  have h1:x*y≤18446744073709551615*18446744073709551615:=Int.mul_le_mul (by omega) (by omega) hy0 (by omega)
  have h0:0≤x*y:=Int.mul_nonneg hx0 hy0
  refine ⟨_,_,_,_,_,_,rfl,rfl,?_,rfl,rfl,?_,rfl,rfl,?_,?_,?_,?_,?_,?_,?_⟩<;>(generalize x*y=p at *)<;>(try rw [u64_wrap])<;>omega
theorem RowInv.step {b cs0 cs:List Int} {i k:Nat} {x cy y z s cy':Int} (h:RowInv b cs0 i x k cy cs) (hk:k<b.length) (hl:i+k<cs0.length) (hx0:0≤x) (hy:rd b k=y) (hy0:0≤y) (hz:rd cs0 ((i+k:Nat):Int)=z) (hz0:0≤z) (hs0:0≤s) (hs1:s<18446744073709551616) (hc0:0≤cy') (hc1:cy'<18446744073709551616)
    (e:s+18446744073709551616*cy'=z+x*y+cy):RowInv b cs0 i x (k+1) cy' (cs.set (i+k) s):=by
  obtain ⟨h1,h2,h3,h4,h5,h6⟩:=h
  refine ⟨by simpa using h1,h2.set _ hs0 hs1,hc0,hc1,fun j hj=>?_,?_⟩
  · rw [rd_set_ne _ (by omega)];exact h5 j (by omega)
  · rw [show i+(k+1)=i+k+1 by omega,val_set_take (by omega),val_take_succ hk,val_take_succ hl,hy,hz]
    have e':s.toNat+18446744073709551616*cy'.toNat=z.toNat+x.toNat*y.toNat+cy.toNat:=by
      have hp:((x.toNat*y.toNat:Nat):Int)=x*y:=by rw [Int.natCast_mul,Int.toNat_of_nonneg hx0,Int.toNat_of_nonneg hy0]
      omega
    have t:=congrArg (18446744073709551616 ^ (i+k)*·) e'
    simp only [Nat.mul_add] at t
    have q1:18446744073709551616 ^ (i+k+1)*cy'.toNat=18446744073709551616 ^ (i+k)*(18446744073709551616*cy'.toNat):=by rw [Nat.pow_succ,Nat.mul_assoc]
    have q2:18446744073709551616 ^ i*(x.toNat*(18446744073709551616 ^ k*y.toNat))=18446744073709551616 ^ (i+k)*(x.toNat*y.toNat):=by
      rw [Nat.pow_add];ac_rfl
    rw [Nat.mul_add x.toNat,Nat.mul_add,q1,q2]
    omega
theorem MulInv.step {a b cs0 cs:List Int} {i:Nat} {x cy:Int} (h:MulInv a b i cs0) (hi:i<a.length) (hx:rd a i=x) (hr:RowInv b cs0 i x b.length cy cs):MulInv a b (i+1) (cs.set (i+b.length) cy):=by
  obtain ⟨h1,h2,h3,h4⟩:=h
  obtain ⟨r1,r2,r3,r4,r5,r6⟩:=hr
  refine ⟨by rw [List.length_set];omega,r2.set _ r3 r4,fun j hj=>?_,?_⟩
  · rw [rd_set_ne _ (by omega),r5 j (by omega)];exact h3 j (by omega)
  · rw [show i+1+b.length=i+b.length+1 by omega,val_set_take (by omega),r6,h4,val_take_succ hi,hx,List.take_length,Nat.add_mul]
    ac_rfl
theorem MulInv.done {a b cs:List Int} (h:MulInv a b a.length cs):Dig cs∧val cs=val a*val b:=by
  obtain ⟨h1,h2,h3,h4⟩:=h
  rw [List.take_of_length_le (by omega),List.take_length] at h4
  exact ⟨h2,h4⟩
section
set_option maxRecDepth 100000
set_option maxHeartbeats 1000000
theorem schoolbook_calls (a b:List Int) (A A':Option Addr) (c c':Nat) (w:World) (hda:Dig a) (hdb:Dig b) (hr:Rd w a A c) (hr':Rd w b A' c') (hla:a.length≤1000) (hlb:b.length≤1000) :
    Calls Try.prog 142 #[.slice A a.length c,.slice A' b.length c'] w (RetRd (limbs (val a*val b)) w):=by
  have HR:=Aside0.mk hr
  have HR':=Aside0.mk hr'
  have DA:=Aside0.mk hda
  have DB:=Aside0.mk hdb
  have hmk:=fun w=>mk_run (a.length+b.length) (by omega) ((a.length:Int)+(b.length:Int)) (by omega) w
  clear hr hr' hda hdb
  go_enter Try.func142,Try.ntmps142
  go_wp2_with fail
  go_loopw [23] (fun v23 wr=>∃ (i:Nat) (cs:List Int),i≤a.length∧v23 = .int .i64 i∧Aside0 (MulInv a b i cs)∧Aside0 (Blk wr w.heap.size cs)∧Aside0 (Below w.heap.size w wr)) (fun v23 _=>a.length-(intOf v23).toNat)
  case atStart=>exact ⟨0,_,by omega,rfl,⟨MulInv.start a b⟩,⟨Blk.new w _⟩,⟨below_alloc (Below.refl _ _) _⟩⟩
  case round =>
    obtain ⟨i,cs0,hi,rfl,hI,hblk0,hB0⟩:=hrel
    have hcl0:=hI.out.1
    clear hmk
    by_cases hil:i<a.length
    · obtain ⟨ad,rfl,hcell⟩:=Kd.at_int (HR.out.below hB0.out).2 (i:Int) (by omega) (by omega)
      simp only [Int.toNat_natCast] at hcell
      have hx:=Aside0.mk (DA.out.rd (i:=(i:Int)) (by omega) (by omega))
      generalize hxx:rd a i=x at *
      have hxx:=Aside0.mk hxx
      have hrl:i+b.length+1-i=b.length+1:=by omega
      go_wp2_with fail
      simp only [hrl]
      go_loopw [9,43] (fun v9 v43 wr2=>∃ (k:Nat) (cy:Int) (cs:List Int),k≤b.length∧v43 = .int .i64 k∧v9 = .int .u64 cy∧Aside0 (RowInv b cs0 i x k cy cs)∧Aside0 (Blk wr2 w.heap.size cs)∧Aside0 (Below w.heap.size w wr2)) (fun _ v43 _=>b.length-(intOf v43).toNat)
      case atStart=>exact ⟨0,0,cs0,by omega,rfl,rfl,⟨RowInv.start hI.out x⟩,hblk0,hB0⟩
      case round =>
        obtain ⟨k,cy,cs,hk,rfl,rfl,hJ,hblk,hB⟩:=hrel
        have hcl:=hJ.out.1
        by_cases hkl:k<b.length
        · obtain ⟨ad',rfl,hcell'⟩:=Kd.at_int (HR'.out.below hB.out).2 (k:Int) (by omega) (by omega)
          simp only [Int.toNat_natCast] at hcell'
          have hy:=Aside0.mk (DB.out.rd (i:=(k:Int)) (by omega) (by omega))
          have hzz:Aside0 (rd cs ((i+k:Nat):Int)=rd cs0 ((i+k:Nat):Int)):=⟨hJ.out.2.2.2.2.1 (i+k) (Nat.le_refl _)⟩
          have hcw:wr.cell? ⟨w.heap.size,i+k,none⟩=some (.int .u64 (rd cs0 ((i+k:Nat):Int))):=by rw [← hzz.out];exact hblk.out.cell (by omega)
          have hfz:=hblk.out.frozen (i+k)
          have hz:=Aside0.mk (hI.out.2.1.rd (i:=((i+k:Nat):Int)) (by omega) (by omega))
          generalize hyy:rd b k=y at *
          generalize hz2:rd cs0 ((i+k:Nat):Int)=z at *
          obtain ⟨mh,lo,s1,o1,s2,o2,e1,e2,e3,e4,e5,e6,e7,e8,e9,e10,e11,e12,e13,e14,e15⟩:=row_limb hx.out.1 hx.out.2 hy.out.1 hy.out.2 hz.out.1 hz.out.2 hJ.out.2.2.1 hJ.out.2.2.2.1
          have fin:=Aside0.mk (hJ.out.step hkl (by omega) hx.out.1 hyy hy.out.1 hz2 hz.out.1 e11 e12 e13 e14 e15)
          have MU:=mul64_calls x y wr hx.out.1 hx.out.2 hy.out.1 hy.out.2
          rw [e1,e2] at MU
          have AD1:=fun w=>add64_run lo cy 0 e3 hJ.out.2.2.1 (by omega) (by omega) w
          simp only [e4,e5] at AD1
          have AD2:=fun w=>add64_run z s1 0 hz.out.1 e6 (by omega) (by omega) w
          simp only [e7,e8] at AD2
          have hyy:=Aside0.mk hyy
          have hz2:=Aside0.mk hz2
          have MU:=Aside0.mk MU
          clear e1 e2 e3 e4 e5 e6 e7 e8 e11 e12 e13 e14 e15
          go_wp2_with fail
          refine MU.out.mono ?_
          rintro e w1 ⟨rfl,rfl⟩
          go_wp2
          go_roundw
          case rel=>exact ⟨k+1,_,_,by omega,by go_num,rfl,fin,⟨hblk.out.put (by omega) _⟩,⟨below_set hB.out (Nat.le_refl _)⟩⟩
          case measure=>simp [intOf];omega
        · obtain rfl:k=b.length:=by omega
          have fin:=Aside0.mk (hI.out.step hil hxx.out hJ.out)
          have hcw:wr.cell? ⟨w.heap.size,i+b.length,none⟩=some (.int .u64 (rd cs ((i+b.length:Nat):Int))):=hblk.out.cell (by omega)
          have hfz:=hblk.out.frozen (i+b.length)
          go_wp2
          go_roundw
          case rel=>exact ⟨i+1,_,by omega,by go_num,fin,⟨hblk.out.put (by omega) _⟩,⟨below_set hB.out (Nat.le_refl _)⟩⟩
          case measure=>simp [intOf];omega
    · obtain rfl:i=a.length:=by omega
      have hfin:=Aside0.mk (hI.out.done)
      have hrd:=Aside0.mk (hblk0.out.all (c:=a.length+b.length) (by omega) (by omega))
      go_wp2_with fail
      have h:=trim_calls cs0 (some ⟨w.heap.size,0,none⟩) (a.length+b.length) _ hfin.out.1 hrd.out
      rw [hcl0] at h
      refine h.mono ?_
      rintro e w2 ⟨A2,c2,rfl,hr2,hB2⟩
      go_wp2
      go_ret
      exact ⟨A2,c2,by rw [hfin.out.2];rfl,by rw [← hfin.out.2];exact hr2,hB0.out.trans (hB2.mono hB0.out.size)⟩
theorem mul_calls (a b:List Int) (A A':Option Addr) (c c':Nat) (w:World) (hda:Dig a) (hdb:Dig b) (hr:Rd w a A c) (hr':Rd w b A' c') (hla:a.length≤1000) (hlb:b.length<24) :
    Calls Try.prog 124 #[.slice A a.length c,.slice A' b.length c'] w (RetRd (limbs (val a*val b)) w):=by
  have SB:=Aside0.mk (schoolbook_calls a b A A' c c' w hda hdb hr hr' hla (by omega))
  have hm:min (a.length:Int) (b.length:Int)<24:=by omega
  have hmb:decide (min (a.length:Int) (b.length:Int)<24)=true:=decide_eq_true hm
  clear hr hr' hda hdb
  go_enter Try.func124,Try.ntmps124
  go_wp2_with fail
  refine SB.out.mono ?_
  rintro e w2 ⟨A2,c2,rfl,hr2,hB2⟩
  go_wp2
  go_ret
  exact ⟨A2,c2,rfl,hr2,hB2⟩
end
end Go.Proofs.Ytonelbidndjhdaa.Limbs
set_option linter.unusedVariables false
namespace Go.Proofs.Ytonelbidndjhdaa.Whole
open RowKit YtonelbidndjhdaaW.PrintWords YtonelbidndjhdaaW.PrintLast YtonelbidndjhdaaW.PrintMore YtonelbidndjhdaaW.Aid YtonelbidndjhdaaW.Big Ytonelbidndjhdaa.BitsWalk Ytonelbidndjhdaa.Limbs
def iv (x:Int) (A:Option Addr) (c:Nat):Value := .agg #[.bool (sgn x),.slice A (lm x).length c]
def RetI (x:Int) (w:World) (e:Ending) (w':World):Prop:=∃ A c,e = .returned (iv x A c)∧Rd w' (lm x) A c∧Below w.heap.size w w'
def ofS (b:Bool) (m:Nat):Int:=if b then -(m:Int) else m
theorem lm_ofS (b:Bool) (m:Nat):lm (ofS b m)=limbs m:=by
  unfold lm ofS
  cases b<;>simp
theorem sgn_ofS (b:Bool) (m:Nat):sgn (ofS b m)=(b&&decide (0<(limbs m).length)):=by
  have h:decide (0<(limbs m).length)=decide (m≠0):=by
    apply decide_eq_decide.2
    rw [List.length_pos_iff,ne_eq,limbs_ne]
  rw [h]
  unfold sgn ofS
  cases b
  · simp
  · by_cases h0:m=0
    · subst h0;simp
    · simp [h0];omega
theorem blk_below {w w1:World} {g:Nat} {o:Obj} (h:w.heap[g]?=some o) (hb:Below w.heap.size w w1):w1.heap[g]?=some o:=by
  rw [hb.block g (Array.getElem?_eq_some_iff.1 h).1];exact h
theorem row_at {w:World} {g:Nat} {t:TypeId} {old:Array Value} (h:w.heap[g]?=some (.cells old t (0,0))) (cs:Array Value):(w.setRow g cs).heap[g]?=some (.cells cs t (0,0)):=setRow_heap w g old cs t (0,0) h
theorem row_below {w W:World} {g:Nat} (h:Below w.heap.size w W) (hg:w.heap.size≤g) (cs:Array Value):Below w.heap.size w (W.setRow g cs):=by
  refine ⟨h.os,h.tape,h.output,by simpa [World.setRow] using h.size,fun k hk=>?_⟩
  rw [← h.block k hk]
  simp only [World.setRow]
  rw [Array.getElem?_modify]
  rw [if_neg (by omega)]
theorem Rd.setRow {w:World} {l:List Int} {A:Option Addr} {c g:Nat} {old:Array Value} {t:TypeId} (h:Rd w l A c) (hg:w.heap[g]?=some (.cells old t (0,0))) (ho:∀ (j:Nat) (x:Int),old[j]?≠some (.int .u64 x)) (cs:Array Value):Rd (w.setRow g cs) l A c:=by
  refine ⟨h.1,h.2.1,h.2.2.1,fun hpos=>?_⟩
  obtain ⟨ad,hA,hc⟩:=h.2.2.2 hpos
  refine ⟨ad,hA,fun j p hj=>?_⟩
  obtain ⟨cs1,h1,h2,h3⟩:=hc j p hj
  refine ⟨cs1,h1,h2,fun i u hu=>?_⟩
  have h4:=h3 i u hu
  have hu':u = .int .u64 p:=by
    have h5:cs1=[.int .u64 p]:=h2
    subst h5
    cases i with
    | zero=>simpa using hu.symm
    | succ i=>simp at hu
  rw [cell_setRow_other _ _ _ _ ?_]
  · exact h4
  · intro e
    rw [hu'] at h4
    unfold World.cell? at h4
    rw [e,hg] at h4
    simp only at h4
    split at h4
    · cases h4
    · exact ho _ _ h4
theorem noInts (b:Bool) (A:Option Addr) (n c:Nat):∀ (j:Nat) (x:Int),(#[Value.bool b,Value.slice A n c]:Array Value)[j]?≠some (.int .u64 x):=by
  intro j x h
  match j with
  | 0=>simp at h
  | 1=>simp at h
  | j+2=>simp at h
section
set_option maxRecDepth 100000
set_option maxHeartbeats 1000000
theorem Of_calls (b:Bool) (m:Nat) (A:Option Addr) (c:Nat) (w:World) :
    Calls Try.prog 97 #[.bool b,.slice A (limbs m).length c] w fun e w'=>e = .returned (iv (ofS b m) A c)∧Below w.heap.size w w':=by
  unfold iv
  rw [lm_ofS,sgn_ofS]
  generalize (limbs m).length=n
  cases b with
  | false =>
    go_enter Try.func97,Try.ntmps97
    go_wp2
    refine bodyPost_ret (results_cell_row rfl _ _ w.heap.size 84 _ (0,0) _ rfl (blk_new w _) Try.underlying84 rfl (by kernel_rfl)) rfl ?_
    exact ⟨rfl,below_alloc (Below.refl _ _) _⟩
  | true =>
    by_cases hn:0<n
    · have hb:decide (0<n)=true:=decide_eq_true hn
      rw [hb]
      have hb2:decide ((0:Int)<(n:Int))=true:=decide_eq_true (by omega)
      go_enter Try.func97,Try.ntmps97
      go_wp2
      refine bodyPost_ret (results_cell_row rfl _ _ w.heap.size 84 _ (0,0) _ rfl (blk_new w _) Try.underlying84 rfl (by kernel_rfl)) rfl ?_
      exact ⟨rfl,below_alloc (Below.refl _ _) _⟩
    · have hb:decide (0<n)=false:=decide_eq_false hn
      rw [hb]
      have hb2:decide ((0:Int)<(n:Int))=false:=decide_eq_false (by omega)
      go_enter Try.func97,Try.ntmps97
      go_wp2
      refine bodyPost_ret (results_cell_row rfl _ _ w.heap.size 84 _ (0,0) _ rfl (blk_new w _) Try.underlying84 rfl (by kernel_rfl)) rfl ?_
      exact ⟨rfl,below_alloc (Below.refl _ _) _⟩
theorem st_cells {w:World} {g:Nat} {t:TypeId} {x y:Value} (h:w.heap[g]?=some (.cells #[x,y] t (0,0))) :
    w.cell? ⟨g,0,none⟩=some x∧w.cell? ⟨g,1,none⟩=some y∧w.frozen? ⟨g,0,none⟩=false∧w.frozen? ⟨g,1,none⟩=false:=⟨blk_cell h 0,blk_cell h 1,blk_frozen h 0,blk_frozen h 1⟩
theorem st_eq {w:World} {g:Nat} {t:TypeId} {x y u v:Value} (h:w.heap[g]?=some (.cells #[x,y] t (0,0))):(w.setCell ⟨g,0,none⟩ u).setCell ⟨g,1,none⟩ v=w.setRow g #[u,v]:=by
  have h1:=setCell_eq_setRow w g 0 #[x,y] t (0,0) u h
  rw [h1]
  have h2:=setRow_heap w g #[x,y] (#[x,y].setIfInBounds 0 u) t (0,0) h
  rw [setCell_eq_setRow _ g 1 _ t (0,0) v h2,setRow_setRow]
  rfl
theorem int_info {b:Bool} {A:Option Addr} {n c:Nat}:(Try.prog.info? 84).map (·.size)=some (#[Value.bool b,Value.slice A n c]:Array Value).size:=by kernel_rfl
theorem From_calls (n:Int) (w:World) (h0 : -9223372036854775808≤n) (h1:n<9223372036854775808):Calls Try.prog 91 #[.int .i64 n] w (RetI n w):=by
  by_cases hn:n<0
  · have hb:decide (n<0)=true:=decide_eq_true hn
    have ew:IntKind.u64.wrap (-IntKind.u64.wrap n)=(n.natAbs:Int):=by rw [u64_wrap,u64_wrap];omega
    have eo:Aside0 (ofS true n.natAbs=n):=⟨by unfold ofS;simp;omega⟩
    have hm:n.natAbs<18446744073709551616:=by omega
    have WO:=Aside0.mk (fun w=>word_calls n.natAbs w hm)
    clear h0 h1 hm
    go_enter Try.func91,Try.ntmps91
    go_wp2_with fail
    have BK:=Aside0.mk (blk_new w (.cells #[.bool false,.slice none 0 0] 84))
    have BE:=Aside0.mk (below_alloc (Below.refl w.heap.size w) (.cells #[.bool false,.slice none 0 0] 84))
    generalize w.alloc (.cells #[.bool false,.slice none 0 0] 84)=w0 at *
    
    refine (WO.out w0).mono ?_
    rintro e w1 ⟨A,c,rfl,hr1,hB1⟩
    have hr1:=Aside0.mk hr1
    have BK:=Aside0.mk (blk_below BK.out hB1)
    have BE:=Aside0.mk (BE.out.trans (hB1.mono BE.out.size))
    clear hB1
    go_wp2_with fail
    refine (Of_calls true n.natAbs A c w1).mono ?_
    rintro e w2 ⟨rfl,hB2⟩
    have hr2:=Aside0.mk (hr1.out.below hB2)
    have BK:=Aside0.mk (blk_below BK.out hB2)
    have BE:=Aside0.mk (BE.out.trans (hB2.mono BE.out.size))
    clear hB2 hr1
    rw [eo.out]
    unfold iv
    generalize hsg:sgn n=sg
    obtain ⟨hc0,hc1,hf0,hf1⟩:=st_cells BK.out
    go_wp2_with fail
    rw [st_eq BK.out]
    (try simp only [Exit.inBlock,Exit.then])
    refine bodyPost_ret (v := .agg #[.bool sg,.slice A (lm n).length c]) (results_cell_row rfl _ _ w.heap.size 84 #[.bool sg,.slice A (lm n).length c] (0,0) _ rfl (row_at BK.out _) Try.underlying84 rfl int_info) rfl ?_
    exact ⟨A,c,by unfold iv;rw [hsg],Rd.setRow hr2.out BK.out (noInts _ _ _ _) _,row_below BE.out (Nat.le_refl _) _⟩
  · have hb:decide (n<0)=false:=decide_eq_false hn
    obtain ⟨m,rfl⟩:∃ m:Nat,n=(m:Int):=⟨n.toNat,by omega⟩
    have ew:IntKind.u64.wrap (m:Int)=(m:Int):=by rw [u64_wrap];omega
    have eo:Aside0 (ofS false m=(m:Int)):=⟨by unfold ofS;simp⟩
    have hm:m<18446744073709551616:=by omega
    have WO:=Aside0.mk (fun w=>word_calls m w hm)
    clear h0 h1 hm
    go_enter Try.func91,Try.ntmps91
    go_wp2_with fail
    have BK:=Aside0.mk (blk_new w (.cells #[.bool false,.slice none 0 0] 84))
    have BE:=Aside0.mk (below_alloc (Below.refl w.heap.size w) (.cells #[.bool false,.slice none 0 0] 84))
    generalize w.alloc (.cells #[.bool false,.slice none 0 0] 84)=w0 at *
    refine (WO.out w0).mono ?_
    rintro e w1 ⟨A,c,rfl,hr1,hB1⟩
    have hr1:=Aside0.mk hr1
    have BK:=Aside0.mk (blk_below BK.out hB1)
    have BE:=Aside0.mk (BE.out.trans (hB1.mono BE.out.size))
    clear hB1
    go_wp2_with fail
    refine (Of_calls false m A c w1).mono ?_
    rintro e w2 ⟨rfl,hB2⟩
    have hr2:=Aside0.mk (hr1.out.below hB2)
    have BK:=Aside0.mk (blk_below BK.out hB2)
    have BE:=Aside0.mk (BE.out.trans (hB2.mono BE.out.size))
    clear hB2 hr1
    rw [eo.out]
    unfold iv
    generalize hsg:sgn (m:Int)=sg
    obtain ⟨hc0,hc1,hf0,hf1⟩:=st_cells BK.out
    go_wp2_with fail
    rw [st_eq BK.out]
    (try simp only [Exit.inBlock,Exit.then])
    refine bodyPost_ret (v := .agg #[.bool sg,.slice A (lm (m:Int)).length c]) (results_cell_row rfl _ _ w.heap.size 84 #[.bool sg,.slice A (lm (m:Int)).length c] (0,0) _ rfl (row_at BK.out _) Try.underlying84 rfl int_info) rfl ?_
    exact ⟨A,c,by unfold iv;rw [hsg],Rd.setRow hr2.out BK.out (noInts _ _ _ _) _,row_below BE.out (Nat.le_refl _) _⟩
end
end Go.Proofs.Ytonelbidndjhdaa.Whole
end
