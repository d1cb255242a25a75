/- The row of FxLaws, out of its law over numbers and the printed walk: for every argument that reads as data the call returns true and leaves the argument as it was. -/
import Derived.Test.YthokdnheijnmmaaZX30c
import Derived.Test.YthokdnheijnmmaaProg
import Derived.Below
import Derived.Deep.Draws
import Derived.Deep.AppendLies
import Derived.Maps.AppendAt
import Derived.OwnWalk
import Derived.Laws.BytesArg
import Derived.Laws.MakeOwn
import Derived.Laws.OwnMore
import Derived.Deep.OwnRows
import Derived.Tactics
import Derived.Lib.ConvBytes
import Derived.Laws.Slices
import Derived.WalkKit
import Derived.KernelRfl
import Derived.RowKit3
import Derived.Deep.LoopGhost
import Derived.Deep.QuietTactic
import Derived.BigQuiet
import Derived.WideLaws
import Derived.Deep.DeepCutAuto
import Derived.Deep.CutBlock
import Derived.Deep.RegionHeld3
import Derived.Laws.Rows
import Derived.Lib.AppendStr
import Derived.ArgAppend
import Derived.Laws.IdiomCopy
import Derived.OrdersHeld
import Derived.Laws.BitsLemmas
import Derived.RowKit
import Derived.Test.YthokdnheijnmmaaWWords
import Derived.Test.YthokdnheijnmmaaWLast
import Derived.Test.YthokdnheijnmmaaWTab
import Derived.Test.YthokdnheijnmmaaWQPut
import Derived.Test.YthokdnheijnmmaaWApart
import Derived.Test.YthokdnheijnmmaaWArr
import Derived.Test.YthokdnheijnmmaaWZeros
import Derived.Test.YthokdnheijnmmaaWFoot
import Derived.Test.YthokdnheijnmmaaWKept
import Derived.Test.YthokdnheijnmmaaWShare
import Derived.Test.YthokdnheijnmmaaWN
import Derived.Laws.StructEq
import Derived.Test.YthokdnheijnmmaaWRepsOne
import Derived.Test.YthokdnheijnmmaaWGuard
import Derived.Test.YthokdnheijnmmaaWNEv
import Derived.Test.YthokdnheijnmmaaWMore
import Derived.Deep.WholeRow
import Derived.Outline
import Derived.Deep.Slices
import Derived.Deep.Fields
import Derived.SizedLaws
import Derived.ChangeArms
import Derived.Test.YthokdnheijnmmaaRows
import Derived.ProofKit
import Derived.OpenShut
import Derived.ShutString
import Derived.ChangeOld
import Derived.Carry
section
set_option linter.unusedVariables false
namespace Go.Proofs.Ythokdnheijnmmaa.FxWalk
open Go.RowKit Go.Proofs.YthokdnheijnmmaaW.PrintWords Go.Proofs.YthokdnheijnmmaaW.PrintLast Go.Proofs.YthokdnheijnmmaaW.PrintMore Go.Proofs.YthokdnheijnmmaaW.Aid
def wd (a:Int):Bool:=decide (-35184372088832<a)&&decide (a<35184372088832)
theorem wd_iff {a:Int}:wd a=true ↔ -35184372088832<a∧a<35184372088832:=by simp [wd]
def allw:List Int→Bool
  | []=>true
  | x::l=>wd x&&allw l
theorem allw_iff (l:List Int):allw l=true↔∀ x∈l,wd x=true:=by
  induction l with
  | nil=>simp [allw]
  | cons x l ih=>simp [allw,ih]
set_option maxRecDepth 10000 in
set_option maxHeartbeats 400000 in
theorem good_calls (a:Int) (w:World):Calls Try.prog 54 #[.int .i64 a] w fun e w'=>e = .returned (.bool (wd a))∧w=w':=by
  by_cases h1 : -35184372088832<a
  · by_cases h2:a<35184372088832
    · have e:Aside0 (wd a=true):=⟨wd_iff.2 ⟨h1,h2⟩⟩
      rw [e.out]
      go_enter Try.func54,Try.ntmps54
      go_wp2
      go_ret
      exact ⟨rfl,rfl⟩
    · have e:Aside0 (wd a=false):=⟨by rw [← Bool.not_eq_true,wd_iff];omega⟩
      rw [e.out]
      have h2b:decide (a<35184372088832)=false:=decide_eq_false h2
      go_enter Try.func54,Try.ntmps54
      go_wp2
      go_ret
      exact ⟨rfl,rfl⟩
  · have e:Aside0 (wd a=false):=⟨by rw [← Bool.not_eq_true,wd_iff];omega⟩
    rw [e.out]
    have h1b:decide (-35184372088832<a)=false:=decide_eq_false h1
    go_enter Try.func54,Try.ntmps54
    go_wp2
    go_ret
    exact ⟨rfl,rfl⟩
theorem good_yes (a:Int) (w:World) (h:wd a=true):Calls Try.prog 54 #[.int .i64 a] w fun e w'=>e = .returned (.bool true)∧w=w':=by
  have:=good_calls a w
  rwa [h] at this
theorem good_no (a:Int) (w:World) (h:wd a=false):Calls Try.prog 54 #[.int .i64 a] w fun e w'=>e = .returned (.bool false)∧w=w':=by
  have:=good_calls a w
  rwa [h] at this
theorem allw_take {l:List Int} {k:Nat} (h:k<l.length):allw (l.take (k+1))=(allw (l.take k)&&wd (rd l k)):=by
  have hm:∀ (l:List Int) (x:Int),allw (l++[x])=(allw l&&wd x):=by
    intro l x
    induction l with
    | nil=>simp [allw]
    | cons y l ih=>simp [allw,ih,Bool.and_assoc]
  obtain ⟨hj,e⟩:=rd_at (l:=l) (i:=(k:Int)) (by omega) (by omega)
  rw [e,List.take_succ_eq_append_getElem h,hm]
  simp
set_option maxRecDepth 10000 in
set_option maxHeartbeats 400000 in
theorem all_calls (l:List Int) (A:Option Addr) (c:Nat) (w:World) (hr:Kd.C (Kd.int .i64) w A l.length l):Calls Try.prog 44 #[.slice A l.length c] w fun e w'=>e = .returned (.bool (allw l))∧w=w':=by
  have HR:=Aside0.mk hr
  have hlen:l.length≤9223372036854775807:=hr.2.1
  clear hr
  go_enter Try.func44,Try.ntmps44
  go_wp2_with fail
  go_loop [7] (fun v7=>∃ k:Nat,k≤l.length∧v7 = .int .i64 k∧Aside0 (allw (l.take k)=true)) (fun v7=>l.length-(intOf v7).toNat)
  case atStart=>exact ⟨0,by omega,rfl,⟨rfl⟩⟩
  case round =>
    obtain ⟨k,hk,rfl,ha⟩:=hrel
    by_cases hlt:k<l.length
    · obtain ⟨ad,rfl,hcell⟩:=Kd.at_int HR.out (k:Int) (by omega) (by omega)
      simp only [Int.toNat_natCast] at hcell
      have hn:Aside0 (allw (l.take (k+1))=(allw (l.take k)&&wd (rd l k))):=⟨allw_take hlt⟩
      cases hx:wd (rd l k) with
      | true =>
        have Hx:=Aside0.mk hx
        clear hx
        generalize rd l k=x at *
        go_wp2_with fail
        refine (good_yes _ _ Hx.out).mono ?_
        rintro e w1 ⟨rfl,rfl⟩
        go_wp2
        go_round
        case rel=>exact ⟨k+1,by omega,by go_num,⟨by rw [hn.out,ha.out,Hx.out];rfl⟩⟩
        case measure=>simp [intOf];omega
      | false =>
        have Hx:=Aside0.mk hx
        clear hx
        have hall:Aside0 (allw l=false):=⟨by
          rw [← Bool.not_eq_true,allw_iff]
          intro h
          have:=h _ (rd_mem (i:=(k:Int)) (by omega) (by omega))
          rw [Hx.out] at this
          cases this⟩
        generalize rd l k=x at *
        go_wp2_with fail
        refine (good_no _ _ Hx.out).mono ?_
        rintro e w1 ⟨rfl,rfl⟩
        go_wp2
        go_ret
        exact ⟨by rw [hall.out];rfl,rfl⟩
    · obtain rfl:k=l.length:=by omega
      have hall:Aside0 (allw l=true):=⟨by have:=ha.out;rwa [List.take_length] at this⟩
      go_wp2
      go_ret
      exact ⟨by rw [hall.out];rfl,rfl⟩
def wordR (v:Int):Int × Int:=if wd v=true then (v,0) else (0,2)
set_option maxRecDepth 10000 in
set_option maxHeartbeats 400000 in
theorem word_calls (v:Int) (w:World):Calls Try.prog 78 #[.int .i64 v] w fun e w'=>e = .returned (.tuple #[.int .i64 (wordR v).1,.int .i64 (wordR v).2])∧w=w':=by
  cases h:wd v with
  | true =>
    have e1:Aside0 (wordR v=(v,0)):=⟨by unfold wordR;rw [if_pos h]⟩
    rw [e1.out]
    have H:=Aside0.mk h
    clear h
    go_enter Try.func78,Try.ntmps78
    go_wp2_with fail
    refine (good_yes _ _ H.out).mono ?_
    rintro e w1 ⟨rfl,rfl⟩
    go_wp2
    go_ret2
    exact ⟨rfl,rfl⟩
  | false =>
    have e1:Aside0 (wordR v=(0,2)):=⟨by unfold wordR;rw [h];rfl⟩
    rw [e1.out]
    have H:=Aside0.mk h
    clear h
    go_enter Try.func78,Try.ntmps78
    go_wp2_with fail
    refine (good_no _ _ H.out).mono ?_
    rintro e w1 ⟨rfl,rfl⟩
    go_wp2
    go_ret2
    exact ⟨rfl,rfl⟩
def PairPost (F:Int × Int) (w:World) (e:Ending) (w':World):Prop:=e = .returned (.tuple #[.int .i64 F.1,.int .i64 F.2])∧Below w.heap.size w w'
section
set_option maxRecDepth 10000
set_option maxHeartbeats 400000
theorem sum_calls (a b:Int) (w:World) (ha:wd a=true) (hb:wd b=true):Calls Try.prog 45 #[.agg #[.int .i64 a,.int .i64 b]] w (PairPost (wordR (a+b)) w):=by
  rw [wd_iff] at ha hb
  obtain ⟨a1,a2⟩:=ha
  obtain ⟨b1,b2⟩:=hb
  go_enter Try.func45,Try.ntmps45
  go_wp2_with fail
  refine (word_calls _ _).mono ?_
  rintro e w1 ⟨rfl,rfl⟩
  go_wp2
  go_ret2
  exact ⟨rfl,below_alloc (Below.refl _ _) _⟩
theorem less_calls (a b:Int) (w:World) (ha:wd a=true) (hb:wd b=true):Calls Try.prog 46 #[.agg #[.int .i64 a,.int .i64 b]] w (PairPost (wordR (a-b)) w):=by
  rw [wd_iff] at ha hb
  obtain ⟨a1,a2⟩:=ha
  obtain ⟨b1,b2⟩:=hb
  go_enter Try.func46,Try.ntmps46
  go_wp2_with fail
  refine (word_calls _ _).mono ?_
  rintro e w1 ⟨rfl,rfl⟩
  go_wp2
  go_ret2
  exact ⟨rfl,below_alloc (Below.refl _ _) _⟩
theorem pair_row (w:World) (a b:Int) (g:Nat) (hg:w.heap[g]?=some (.cells #[.int .i64 a,.int .i64 b] 2 (0,0))):Kd.C (Kd.int .i64) w (some ⟨g,0,none⟩) [a,b].length [a,b]:=by
  refine ⟨rfl,by simp,fun _=>⟨_,rfl,fun j p hj=>⟨[.int .i64 p],rfl,rfl,fun i u hu=>?_⟩⟩⟩
  have hi:i=0:=by
    cases i with
    | zero=>rfl
    | succ i=>simp at hu
  subst hi
  simp at hu
  subst hu
  match j,hj with
  | 0,hj=>simp at hj;subst hj;exact (blk_cell hg 0).trans rfl
  | 1,hj=>simp at hj;subst hj;exact (blk_cell hg 1).trans rfl
theorem reckon_sum (F:Int × Int) (a b:Int) (w:World) (ha:wd a=true) (hb:wd b=true) (H:∀ w,Calls Try.prog 45 #[.agg #[.int .i64 a,.int .i64 b]] w (PairPost F w)) :
    Calls Try.prog 40 #[.agg #[.int .i64 a,.int .i64 b],.func (.func 45) #[] #[]] w (PairPost F w):=by
  have hall:Aside0 (allw [a,b]=true):=⟨by simp [allw,ha,hb]⟩
  have HH:=Aside0.mk H
  clear H ha hb
  go_enter Try.func40,Try.ntmps40
  go_wp2_with fail
  refine (all_calls [a,b] _ _ _ (pair_row _ a b (w.heap.size+1) (by have:=blk_new (w.alloc (.cells #[.int .i64 a,.int .i64 b] 50)) (.cells #[.int .i64 a,.int .i64 b] 2);simpa using this))).mono ?_
  rintro e w1 ⟨rfl,rfl⟩
  rw [hall.out]
  go_wp2_with fail
  refine (HH.out _).mono ?_
  rintro e w1 ⟨rfl,hB⟩
  have HB:=Aside0.mk hB
  clear hB
  go_wp2
  go_ret2
  exact ⟨rfl,(below_alloc (below_alloc (Below.refl _ _) _) _).trans (HB.out.mono (by simp;omega))⟩
theorem reckon_sum_no (a b:Int) (w:World) (h:(wd a&&wd b)=false) :
    Calls Try.prog 40 #[.agg #[.int .i64 a,.int .i64 b],.func (.func 45) #[] #[]] w (PairPost (0,1) w):=by
  have hall:Aside0 (allw [a,b]=false):=⟨by simp only [allw,Bool.and_true];exact h⟩
  clear h
  go_enter Try.func40,Try.ntmps40
  go_wp2_with fail
  refine (all_calls [a,b] _ _ _ (pair_row _ a b (w.heap.size+1) (by have:=blk_new (w.alloc (.cells #[.int .i64 a,.int .i64 b] 50)) (.cells #[.int .i64 a,.int .i64 b] 2);simpa using this))).mono ?_
  rintro e w1 ⟨rfl,rfl⟩
  rw [hall.out]
  go_wp2
  go_ret2
  exact ⟨rfl,below_alloc (below_alloc (Below.refl _ _) _) _⟩
theorem reckon_less (F:Int × Int) (a b:Int) (w:World) (ha:wd a=true) (hb:wd b=true) (H:∀ w,Calls Try.prog 46 #[.agg #[.int .i64 a,.int .i64 b]] w (PairPost F w)) :
    Calls Try.prog 40 #[.agg #[.int .i64 a,.int .i64 b],.func (.func 46) #[] #[]] w (PairPost F w):=by
  have hall:Aside0 (allw [a,b]=true):=⟨by simp [allw,ha,hb]⟩
  have HH:=Aside0.mk H
  clear H ha hb
  go_enter Try.func40,Try.ntmps40
  go_wp2_with fail
  refine (all_calls [a,b] _ _ _ (pair_row _ a b (w.heap.size+1) (by have:=blk_new (w.alloc (.cells #[.int .i64 a,.int .i64 b] 50)) (.cells #[.int .i64 a,.int .i64 b] 2);simpa using this))).mono ?_
  rintro e w1 ⟨rfl,rfl⟩
  rw [hall.out]
  go_wp2_with fail
  refine (HH.out _).mono ?_
  rintro e w1 ⟨rfl,hB⟩
  have HB:=Aside0.mk hB
  clear hB
  go_wp2
  go_ret2
  exact ⟨rfl,(below_alloc (below_alloc (Below.refl _ _) _) _).trans (HB.out.mono (by simp;omega))⟩
theorem reckon_less_no (a b:Int) (w:World) (h:(wd a&&wd b)=false) :
    Calls Try.prog 40 #[.agg #[.int .i64 a,.int .i64 b],.func (.func 46) #[] #[]] w (PairPost (0,1) w):=by
  have hall:Aside0 (allw [a,b]=false):=⟨by simp only [allw,Bool.and_true];exact h⟩
  clear h
  go_enter Try.func40,Try.ntmps40
  go_wp2_with fail
  refine (all_calls [a,b] _ _ _ (pair_row _ a b (w.heap.size+1) (by have:=blk_new (w.alloc (.cells #[.int .i64 a,.int .i64 b] 50)) (.cells #[.int .i64 a,.int .i64 b] 2);simpa using this))).mono ?_
  rintro e w1 ⟨rfl,rfl⟩
  rw [hall.out]
  go_wp2
  go_ret2
  exact ⟨rfl,below_alloc (below_alloc (Below.refl _ _) _) _⟩
theorem add_yes (a b:Int) (w:World) (ha:wd a=true) (hb:wd b=true):Calls Try.prog 20 #[.int .i64 a,.int .i64 b] w (PairPost (wordR (a+b)) w):=by
  go_enter Try.func20,Try.ntmps20
  go_wp2_with fail
  refine (reckon_sum _ _ _ _ ha hb (fun w=>sum_calls _ _ w ha hb)).mono ?_
  rintro e w1 ⟨rfl,hB⟩
  have HB:=Aside0.mk hB
  clear hB
  go_wp2
  go_ret2
  exact ⟨rfl,HB.out⟩
theorem add_no (a b:Int) (w:World) (h:(wd a&&wd b)=false):Calls Try.prog 20 #[.int .i64 a,.int .i64 b] w (PairPost (0,1) w):=by
  go_enter Try.func20,Try.ntmps20
  go_wp2_with fail
  refine (reckon_sum_no _ _ _ h).mono ?_
  rintro e w1 ⟨rfl,hB⟩
  have HB:=Aside0.mk hB
  clear hB
  go_wp2
  go_ret2
  exact ⟨rfl,HB.out⟩
theorem sub_yes (a b:Int) (w:World) (ha:wd a=true) (hb:wd b=true):Calls Try.prog 21 #[.int .i64 a,.int .i64 b] w (PairPost (wordR (a-b)) w):=by
  go_enter Try.func21,Try.ntmps21
  go_wp2_with fail
  refine (reckon_less _ _ _ _ ha hb (fun w=>less_calls _ _ w ha hb)).mono ?_
  rintro e w1 ⟨rfl,hB⟩
  have HB:=Aside0.mk hB
  clear hB
  go_wp2
  go_ret2
  exact ⟨rfl,HB.out⟩
theorem sub_no (a b:Int) (w:World) (h:(wd a&&wd b)=false):Calls Try.prog 21 #[.int .i64 a,.int .i64 b] w (PairPost (0,1) w):=by
  go_enter Try.func21,Try.ntmps21
  go_wp2_with fail
  refine (reckon_less_no _ _ _ h).mono ?_
  rintro e w1 ⟨rfl,hB⟩
  have HB:=Aside0.mk hB
  clear hB
  go_wp2
  go_ret2
  exact ⟨rfl,HB.out⟩
end
end Go.Proofs.Ythokdnheijnmmaa.FxWalk
end
section
set_option linter.unusedVariables false
set_option linter.unusedSimpArgs false
namespace Go.Proofs.Ythokdnheijnmmaa.Wh
open Go Go.RowKit Go.Proofs.YthokdnheijnmmaaW.PrintWords Go.Proofs.YthokdnheijnmmaaW.PrintMore Go.Proofs.YthokdnheijnmmaaW.Aid Go.Proofs.YthokdnheijnmmaaW.Big Go.Proofs.YthokdnheijnmmaaW.Sx Go.Proofs.Ythokdnheijnmmaa.BitsWalk Go.Proofs.Ythokdnheijnmmaa.Limbs Go.Proofs.Ythokdnheijnmmaa.Whole Go.Proofs.Ythokdnheijnmmaa.FxWalk Go.Proofs
abbrev tNN (z e:Int):TV := .tup [(false,[.v (.int .i64 z)]),(false,[.v (.int .i64 e)])]
theorem nn_eq {z z' b b':Int} (h:(z,b)=(z',b')):(some (CR.tv (tNN z b)):Option CR)=some (CR.tv (tNN z' b')):=by cases h;rfl
def toldR (x:Int):Int × Int:=if wd x=true then (x,0) else (0,2)
theorem told0 {x:Int} (h:(!(smallI x).2)=true):((0:Int),(2:Int))=((toldR x).1,(toldR x).2):=by
  unfold smallI at h
  split at h
  · cases h
  · unfold toldR
    rw [if_neg]
    rw [wd_iff];omega
theorem told1 {x:Int} (h:(!(smallI x).2)=false):((wordR (smallI x).1).1,(wordR (smallI x).1).2)=((toldR x).1,(toldR x).2):=by
  unfold smallI at h ⊢
  split
  · rfl
  · rename_i hc;rw [if_neg hc] at h;cases h
def I64 (n:Int):Prop := -9223372036854775808≤n∧n<9223372036854775808
def ratioR (n d:Int):Int × Int:=if d=0 then (0,3) else toldR (roundI n d)
def overR (a b:Int):Int × Int:=ratioR (a*1073741824) b
def divR (a b:Int):Int × Int:=if (wd a&&wd b)=true then overR a b else (0,1)
theorem ratio0 {n d:Int} (h:(d == 0)=true):((0:Int),(3:Int))=((ratioR n d).1,(ratioR n d).2):=by
  unfold ratioR;rw [if_pos (beq_iff_eq.1 h)]
theorem ratio1 {n d:Int} (h:(d == 0)=false):((toldR (roundI n d)).1,(toldR (roundI n d)).2)=((ratioR n d).1,(ratioR n d).2):=by
  unfold ratioR;rw [if_neg (beq_eq_false_iff_ne.1 h)]
theorem over0 {n d:Int} (h:(d == 0)=true):((0:Int),(3:Int))=((overR n d).1,(overR n d).2):=ratio0 h
theorem over1 {n d:Int} (h:(d == 0)=false):((toldR (roundI (n*2 ^ Int.toNat 30) d)).1,(toldR (roundI (n*2 ^ Int.toNat 30) d)).2)=((overR n d).1,(overR n d).2):=ratio1 (n:=n*1073741824) h
theorem div0 {a b:Int} (h:(!(allw [a,b]))=true):((0:Int),(1:Int))=((divR a b).1,(divR a b).2):=by
  unfold divR
  rw [if_neg]
  intro hc
  simp only [allw,Bool.and_true] at h
  rw [hc] at h;cases h
theorem div1 {a b:Int} (h:(!(allw [a,b]))=false):((overR a b).1,(overR a b).2)=((divR a b).1,(divR a b).2):=by
  unfold divR
  rw [if_pos]
  simpa [allw] using h
theorem all_2 {a b:Int} (h:(!(allw [a,b]))=false):wd a=true∧wd b=true:=by simpa [allw] using h
theorem ne_of {d:Int} (h:(d == 0)=false):d≠0:=beq_eq_false_iff_ne.1 h
theorem len_i64 {n:Int} (h : -9223372036854775808≤n) (h':n<9223372036854775808):Len0 n:=by
  have:=lm_one n (by omega);unfold Len0;omega
theorem len_i64' {n:Int} (h : -19342813113834066795298816≤n) (h':n<19342813113834066795298816):Len0 n:=by
  have : (lm n).length ≤ 2 := limbs_len (by have : n.natAbs ≤ 19342813113834066795298816 := by omega
                                            exact Nat.lt_of_le_of_lt this (by decide))
  unfold Len0;omega
theorem abs_i64 {n:Int} (h : -9223372036854775808≤n) (h':n<9223372036854775808):n.natAbs<18446744073709551616:=by omega
section
set_option maxRecDepth 100000
set_option maxHeartbeats 1000000
def cGood:Con Try.prog:=conN 54 (fun _=>True) (fun v => .tv (tB (wd v))) ⟨_,Try.func54,by kernel_rfl,rfl⟩ (fun n w hl =>
  Ret.val ((good_calls n w).mono fun _ _ ⟨he,hw⟩=>⟨he,by rw [← hw];exact Below.refl _ _⟩))
def cWord:Con Try.prog:=conN 78 (fun _=>True) (fun v => .tv (tNN (wordR v).1 (wordR v).2)) ⟨_,Try.func78,by kernel_rfl,rfl⟩ (fun n w hl =>
  (word_calls n w).mono fun _ _ ⟨he,hw⟩=>⟨_,he,⟨[_,_],rfl,.cons ⟨_,rfl,rfl⟩ (.cons ⟨_,rfl,rfl⟩ .nil)⟩,by rw [← hw];exact Below.refl _ _⟩)
def cTold:Con Try.prog:=con1 47 (fun x=>True) (fun x => .tv (tNN (toldR x).1 (toldR x).2)) ⟨_,Try.func47,by kernel_rfl,rfl⟩ (fun x A c w hl hr=>by
  refine fn_ret (cxOk Try.prog ints_ok [] [cSmall,cWord]) follows Try.func47 rfl 100 _ rfl (by simp) ?_ (args1 hr)
  repeat' first
    | exact trivial
    | (refine And.intro (show regChk _ _ _ _ _=true from by kernel_rfl) (And.intro ?_ ?_))
    | (refine And.intro (fun hb=>?_) (fun hb'=>?_))
    | refine And.intro ?_ ?_
    | intro _
  all_goals first
    | (show (_:Int)=(_:Int);rfl)
    | (show some (CR.tv (tNN _ _))=some (CR.tv (tNN _ _));first|exact nn_eq (told0 (by assumption))|exact nn_eq (told1 (by assumption))))
def intsOf:List A0→Option (List Int)
  | []=>some []
  | .v (.int .i64 n)::r=>match intsOf r with
    | some l=>some (n::l)
    | none=>none
  | _::_=>none
theorem intsOf_get:∀ {cs:List A0} {l:List Int},intsOf cs=some l→cs=l.map fun n=>A0.v (.int .i64 n)
  | [],l,h=>by cases h;rfl
  | c :: r, l, h => by
    unfold intsOf at h
    split at h
    · rename_i e;cases e
    · rename_i n r' e
      cases e
      split at h
      · rename_i l' h';cases h;rw [intsOf_get h'];rfl
      · cases h
    · cases h
theorem row_ints {w:World} {n:Nat} {cs:List A0} {l:List Int} {u:Value} {β:Nat→Nat} {b:Nat} (h:(TV.row n cs).reads β b w u) (hi:intsOf cs=some l) (hn:n=cs.length) (hs:n≤1000):∃ A c,u = .slice A l.length c∧Kd.C (Kd.int .i64) w A l.length l:=by
  obtain ⟨A,c,rfl,hc,hh⟩:=h
  have e:=intsOf_get hi
  have hl:cs.length=l.length:=by rw [e];simp
  refine ⟨A,c,by rw [hn,hl],rfl,by omega,fun h0=>?_⟩
  obtain ⟨ad,rfl,_,hcs⟩:=hh (by omega)
  refine ⟨ad,rfl,fun j p hj=>⟨[.int .i64 p],rfl,rfl,fun i u hu=>?_⟩⟩
  have hi0:i=0:=by
    cases i with
    | zero=>rfl
    | succ i=>simp at hu
  subst hi0
  simp at hu
  subst hu
  obtain ⟨x,hx,hr⟩:=hcs j (.v (.int .i64 p)) (by rw [e,List.getElem?_map,hj];rfl)
  rw [show x=_ from hr] at hx
  rw [show j*(Kd.int .i64).sz+0=j from by show j*1+0=_;omega]
  exact hx
def cAll:Con Try.prog where
  f:=44
  sem := fun xs => match xs with
    | [.row n cs]=>match intsOf cs with
      | some l=>some (n=cs.length∧n≤1000,.tv (tB (allw l)))
      | none=>none
    | _=>none
  ok := by
    intro xs p r' h hp
    refine ⟨⟨_,Try.func44,by kernel_rfl,rfl⟩,fun us w ha=>?_⟩
    split at h
    · rename_i n cs
      split at h
      · rename_i l hi
        cases h
        obtain ⟨u,rfl,h1⟩:=all2_1 ha
        obtain ⟨A,c,rfl,hC⟩:=row_ints h1 hi hp.1 hp.2
        exact Ret.val ((all_calls l A c w hC).mono fun _ _ ⟨he,hw⟩=>⟨he,by rw [← hw];exact Below.refl _ _⟩)
      · cases h
    · cases h
def cOver:Con Try.prog where
  f:=52
  sem:=fun xs=>match xs with
    | [.agg [.v (.int .i64 a),.v (.int .i64 b)]]=>some (wd a=true∧wd b=true,.tv (tNN (overR a b).1 (overR a b).2))
    | _=>none
  ok := by
    intro xs p r' h hp
    refine ⟨⟨_,Try.func52,by kernel_rfl,rfl⟩,fun us w ha=>?_⟩
    split at h
    · rename_i a b
      cases h
      obtain ⟨a1,a2⟩:=wd_iff.1 hp.1
      obtain ⟨b1,b2⟩:=wd_iff.1 hp.2
      have la:Len0 (a*2 ^ Int.toNat 30):=len_i64' (by show -19342813113834066795298816≤a*1073741824;omega) (by show a*1073741824<19342813113834066795298816;omega)
      refine fn_ret (cxOk Try.prog ints_ok [] [cTold,cRound,cFrom,cLeft]) follows Try.func52 rfl 100 _ rfl (by simp) ?_ ha
      repeat' first
        | exact trivial
        | (refine And.intro (show regChk _ _ _ _ _=true from by kernel_rfl) (And.intro ?_ ?_))
        | (refine And.intro (fun hb=>?_) (fun hb'=>?_))
        | refine And.intro ?_ ?_
      all_goals first
        | (show Len0 _;first|exact la|exact len_i64 (by omega) (by omega))
        | (show -9223372036854775808≤(_:Int);omega)
        | (show (_:Int)<9223372036854775808;omega)
        | (show (_:Int)≤_;decide)
        | (show (_:Int)=(_:Int);rfl)
        | (show some (CR.tv (tNN _ _))=some (CR.tv (tNN _ _));first|exact nn_eq (over0 (by assumption))|exact nn_eq (over1 (by assumption)))
        | exact ne_of (by assumption)
        | exact abs_i64 (by omega) (by omega)
    · cases h
def cReckon:Con Try.prog where
  f:=40
  sem:=fun xs=>match xs with
    | [.agg [.v (.int .i64 a),.v (.int .i64 b)],.clo f []]=>if f=52 then some (True,.tv (tNN (divR a b).1 (divR a b).2)) else none
    | _=>none
  ok := by
    intro xs p r' h hp
    refine ⟨⟨_,Try.func40,by kernel_rfl,rfl⟩,fun us w ha=>?_⟩
    split at h
    · rename_i a b f
      split at h
      · rename_i hf
        subst hf
        cases h
        refine fn_ret (cxOk Try.prog ints_ok [] [cAll,cOver]) follows Try.func40 rfl 100 _ rfl (by simp) ?_ ha
        repeat' first
          | exact trivial
          | (refine And.intro (show regChk _ _ _ _ _=true from by kernel_rfl) (And.intro ?_ ?_))
          | (refine And.intro (fun hb=>?_) (fun hb'=>?_))
          | refine And.intro ?_ ?_
        all_goals first
          | (show some (CR.tv (tNN _ _))=some (CR.tv (tNN _ _));first|exact nn_eq (div0 (by assumption))|exact nn_eq (div1 (by assumption)))
          | (show (_:Nat)=(_:Nat);rfl)
          | (show (2:Nat)≤1000;decide)
          | exact (all_2 (by assumption)).1
          | exact (all_2 (by assumption)).2
      · cases h
    · cases h
def cDiv:Con Try.prog:=conNN 24 (fun _ _=>True) (fun a b => .tv (tNN (divR a b).1 (divR a b).2)) ⟨_,Try.func24,by kernel_rfl,rfl⟩ (fun a b w hl=>by
  refine fn_ret (cxOk Try.prog ints_ok [] [cReckon]) follows Try.func24 rfl 100 _ rfl (by simp) ?_ (xs:=[tN .i64 a,tN .i64 b]) (.cons rfl (.cons rfl .nil))
  repeat' first
    | exact trivial
    | (refine And.intro (show regChk _ _ _ _ _=true from by kernel_rfl) (And.intro ?_ ?_))
    | refine And.intro ?_ ?_
  all_goals first
    | (show some (CR.tv (tNN _ _))=some (CR.tv (tNN _ _));rfl))
end
end Go.Proofs.Ythokdnheijnmmaa.Wh
end
section
set_option linter.unusedVariables false
namespace Go.Proofs.Ythokdnheijnmmaa.FxWalk
open Go.RowKit Go.Proofs.YthokdnheijnmmaaW.PrintWords Go.Proofs.YthokdnheijnmmaaW.PrintLast Go.Proofs.YthokdnheijnmmaaW.PrintMore Go.Proofs.YthokdnheijnmmaaW.Aid Go.Proofs.Ythokdnheijnmmaa.BitsWalk
theorem quiet {P:Program} {f:FuncId} {args:Array Value} {w:World} {n:Nat} {v:Value} (h:Calls P f args (w.drewN n) fun e w'=>e = .returned v∧w.drewN n=w') :
    Calls P f args (w.drewN n) fun e w''=>e = .returned v∧∃ m,w''=w.drewN m:=Calls.quiet_of_same (h.mono fun _ _ ⟨a,b⟩=>⟨a,b.symm⟩)
def ab (a:Int):Int:=(a.natAbs:Int)
theorem ab_bd {a:Int} (h:wd a=true):0≤ab a∧ab a<35184372088832:=by
  rw [wd_iff] at h
  unfold ab
  omega
def rnd30 (P:Int):Int:=P/1073741824+(if P%1073741824>536870912∨(P%1073741824=536870912∧P/1073741824%2=1) then 1 else 0)
def signR (neg:Bool) (q:Int):Int × Int:=if q<35184372088832 then (if neg=true then -q else q,0) else (0,2)
def timesR (a b:Int):Int × Int:=signR (!(decide (a<0) == decide (b<0))) (rnd30 (ab a*ab b))
section
set_option maxRecDepth 100000
set_option maxHeartbeats 1000000
theorem abs_calls (a:Int) (w:World) (h:wd a=true):Calls Try.prog 74 #[.int .i64 a] w fun e w'=>e = .returned (.int .u64 (ab a))∧w=w':=by
  rw [wd_iff] at h
  obtain ⟨h1,h2⟩:=h
  by_cases hn:a<0
  · have e:Aside0 (ab a = -a):=⟨by unfold ab;omega⟩
    rw [e.out]
    go_enter Try.func74,Try.ntmps74
    go_wp2
    go_ret
    refine ⟨ret1 ?_,rfl⟩
    simp only [u64_wrap]
    omega
  · have e:Aside0 (ab a=a):=⟨by unfold ab;omega⟩
    rw [e.out]
    go_enter Try.func74,Try.ntmps74
    go_wp2
    go_ret
    refine ⟨ret1 ?_,rfl⟩
    first|rfl|(simp only [u64_wrap];omega)
theorem signed_calls (neg:Bool) (q:Int) (w:World) (h0:0≤q) (h1:q<9223372036854775808):Calls Try.prog 76 #[.bool neg,.int .u64 0,.int .u64 q] w fun e w'=>e = .returned (.tuple #[.int .i64 (signR neg q).1,.int .i64 (signR neg q).2])∧w=w':=by
  by_cases hq:q<35184372088832
  · cases neg with
    | true =>
      have e:Aside0 (signR true q=(-q,0)):=⟨by unfold signR;rw [if_pos hq];rfl⟩
      rw [e.out]
      have hb:decide (35184372088832≤q)=false:=decide_eq_false (by omega)
      clear h1
      go_enter Try.func76,Try.ntmps76
      go_wp2
      go_ret2
      exact ⟨rfl,rfl⟩
    | false =>
      have e:Aside0 (signR false q=(q,0)):=⟨by unfold signR;rw [if_pos hq];rfl⟩
      rw [e.out]
      have hb:decide (35184372088832≤q)=false:=decide_eq_false (by omega)
      clear h1
      go_enter Try.func76,Try.ntmps76
      go_wp2
      go_ret2
      exact ⟨rfl,rfl⟩
  · have e:Aside0 (signR neg q=(0,2)):=⟨by unfold signR;rw [if_neg hq]⟩
    rw [e.out]
    have hb:decide (35184372088832≤q)=true:=decide_eq_true (by omega)
    clear h1 hq
    go_enter Try.func76,Try.ntmps76
    go_wp2
    go_ret2
    exact ⟨rfl,rfl⟩
theorem rnd_parts {P hi lo:Int} (h0:0≤P) (hh:P/18446744073709551616=hi) (hl:P%18446744073709551616=lo):P/1073741824=hi*17179869184+lo/1073741824∧P%1073741824=lo%1073741824:=by omega
theorem times_calls (a b:Int) (w:World) (ha:wd a=true) (hb:wd b=true):Calls Try.prog 41 #[.agg #[.int .i64 a,.int .i64 b]] w (PairPost (timesR a b) w):=by
  have HA:=Aside0.mk ha
  have HB:=Aside0.mk hb
  obtain ⟨A0,A1⟩:=ab_bd ha
  obtain ⟨B0,B1⟩:=ab_bd hb
  have hP0:0≤ab a*ab b:=Int.mul_nonneg A0 B0
  have hP1:ab a*ab b≤35184372088831*35184372088831:=Int.mul_le_mul (by omega) (by omega) B0 (by omega)
  have HR:Aside0 (timesR a b=signR (!(decide (a<0) == decide (b<0))) (rnd30 (ab a*ab b))):=⟨rfl⟩
  generalize timesR a b=R at *
  have A1':ab a<18446744073709551616:=by omega
  have B1':ab b<18446744073709551616:=by omega
  have M:=Aside0.mk (fun n=>mul64_calls (ab a) (ab b) (World.drewN (w.alloc (.cells #[.int .i64 a,.int .i64 b] 50)) n) A0 A1' B0 B1')
  have Z:Aside0 (∃ hi lo:Int,ab a*ab b/18446744073709551616=hi∧ab a*ab b%18446744073709551616=lo∧0≤hi∧hi≤67108864∧0≤lo∧lo<18446744073709551616∧0≤ab a*ab b):=⟨_,_,rfl,rfl,by omega,by omega,by omega,by omega,hP0⟩
  clear ha hb A0 A1 B0 B1 A1' B1' hP0 hP1
  go_enter Try.func41,Try.ntmps41
  go_wp2_with fail
  go_quiet ((first|(go_at_call 74;exact quiet (abs_calls _ _ (by first|exact HA.out|exact HB.out)))|(go_at_call 73;exact quiet (M.out _))))
  obtain ⟨hi,lo,e1,e2,h1,h2,h3,h4,h5⟩:=Z.out
  obtain ⟨r1,r2⟩:=rnd_parts h5 e1 e2
  have E1:Go.bits .and .u64 lo 1073741823=lo%1073741824:=and30 h3 h4
  have E2:Go.bits .or .u64 (hi*17179869184) (lo/1073741824)=hi*17179869184+lo/1073741824:=or34 h1 (by omega) (by omega) (by omega)
  have q0:0≤hi*17179869184+lo/1073741824:=by omega
  have q1:hi*17179869184+lo/1073741824≤1152921504606846976+17179869184:=by omega
  have l0:0≤lo/1073741824:=by omega
  have HQ:Aside0 (R=signR (!(decide (a<0) == decide (b<0))) (hi*17179869184+lo/1073741824+(if lo%1073741824>536870912∨(lo%1073741824=536870912∧(hi*17179869184+lo/1073741824)%2=1) then 1 else 0))):=⟨by rw [HR.out];unfold rnd30;rw [r1,r2]⟩
  rw [e1,e2]
  generalize hq:hi*17179869184+lo/1073741824=qq at *
  generalize hr:lo%1073741824=rst at *
  clear M Z HR r1 r2 e1 e2 h4 h5 HA HB hq hr
  have Q1:=Aside0.mk q1
  clear q1
  have mod:Int.tmod qq 2=qq%2:=tmod_pos q0
  have Hmod:=Aside0.mk mod
  clear mod
  have fin:∀ (q:Int) (w1:World),(w1=(w.alloc (.cells #[.int .i64 a,.int .i64 b] 50)).drewN nq)→0≤q→q≤2305843009213693952→R=signR (!(decide (a<0) == decide (b<0))) q →
      Calls Try.prog 76 #[.bool (!(decide (a<0) == decide (b<0))),.int .u64 0,.int .u64 q] w1 fun e w'=>e = .returned (.tuple #[.int .i64 R.1,.int .i64 R.2])∧w1=w':=by
    intro q w1 _ h0 h1 hR
    have:=signed_calls (!(decide (a<0) == decide (b<0))) q w1 h0 (by omega)
    rwa [← hR] at this
  have Fin:=Aside0.mk fin
  have hz:hi/1073741824=0:=by omega
  clear fin
  by_cases c1:536870912<rst
  · have HQ':Aside0 (R=signR (!(decide (a<0) == decide (b<0))) (qq+1)):=⟨by rw [HQ.out,if_pos (.inl c1)]⟩
    have A1:=fun w=>add64_run qq 1 0 q0 (by omega) (by omega) (by omega) w
    have e1:(qq+1+0)%18446744073709551616=qq+1:=by have:=Q1.out;omega
    have e2:(qq+1+0)/18446744073709551616=0:=by have:=Q1.out;omega
    simp only [e1,e2] at A1
    clear e1 e2 HQ Hmod
    go_wp2_with fail
    refine (Fin.out (qq+1) _ rfl (by omega) (by have:=Q1.out;omega) HQ'.out).mono ?_
    rintro e w1 ⟨rfl,rfl⟩
    go_wp2
    go_ret2
    exact ⟨rfl,pw_below_drewN (below_alloc (Below.refl _ _) _) _⟩
  · by_cases c2:rst=536870912
    · subst c2
      by_cases c3:qq%2=1
      · have HQ':Aside0 (R=signR (!(decide (a<0) == decide (b<0))) (qq+1)):=⟨by rw [HQ.out,if_pos (.inr ⟨rfl,c3⟩)]⟩
        have m1:(Int.tmod qq 2 == 1)=true:=by rw [Hmod.out,c3];rfl
        have m2:(qq%2 == 1)=true:=by rw [c3];rfl
        clear c3
        have A1:=fun w=>add64_run qq 1 0 q0 (by omega) (by omega) (by omega) w
        have e1:(qq+1+0)%18446744073709551616=qq+1:=by have:=Q1.out;omega
        have e2:(qq+1+0)/18446744073709551616=0:=by have:=Q1.out;omega
        simp only [e1,e2] at A1
        clear e1 e2 HQ Hmod
        go_wp2_with fail
        refine (Fin.out (qq+1) _ rfl (by omega) (by have:=Q1.out;omega) HQ'.out).mono ?_
        rintro e w1 ⟨rfl,rfl⟩
        go_wp2
        go_ret2
        exact ⟨rfl,pw_below_drewN (below_alloc (Below.refl _ _) _) _⟩
      · have HQ':Aside0 (R=signR (!(decide (a<0) == decide (b<0))) qq):=⟨by rw [HQ.out,if_neg (by rintro (h|⟨_,h⟩);exact c1 h;exact c3 h),Int.add_zero]⟩
        have m2:(qq%2 == 1)=false:=by simpa using c3
        have m1:(Int.tmod qq 2 == 1)=false:=by rw [Hmod.out,m2]
        clear c3 HQ Hmod
        go_wp2_with fail
        refine (Fin.out qq _ rfl (by omega) (by have:=Q1.out;omega) HQ'.out).mono ?_
        rintro e w1 ⟨rfl,rfl⟩
        go_wp2
        go_ret2
        exact ⟨rfl,pw_below_drewN (below_alloc (Below.refl _ _) _) _⟩
    · have HQ':Aside0 (R=signR (!(decide (a<0) == decide (b<0))) qq):=⟨by rw [HQ.out,if_neg (by rintro (h|⟨h,_⟩);exact c1 h;exact c2 h),Int.add_zero]⟩
      have m1:(rst == 536870912)=false:=by simpa using c2
      clear HQ Hmod c2
      go_wp2_with fail
      refine (Fin.out qq _ rfl (by omega) (by have:=Q1.out;omega) HQ'.out).mono ?_
      rintro e w1 ⟨rfl,rfl⟩
      go_wp2
      go_ret2
      exact ⟨rfl,pw_below_drewN (below_alloc (Below.refl _ _) _) _⟩
theorem reckon_times (F:Int × Int) (a b:Int) (w:World) (ha:wd a=true) (hb:wd b=true) (H:∀ w,Calls Try.prog 41 #[.agg #[.int .i64 a,.int .i64 b]] w (PairPost F w)) :
    Calls Try.prog 40 #[.agg #[.int .i64 a,.int .i64 b],.func (.func 41) #[] #[]] w (PairPost F w):=by
  have hall:Aside0 (allw [a,b]=true):=⟨by simp [allw,ha,hb]⟩
  have HH:=Aside0.mk H
  clear H ha hb
  go_enter Try.func40,Try.ntmps40
  go_wp2_with fail
  refine (all_calls [a,b] _ _ _ (pair_row _ a b (w.heap.size+1) (by have:=blk_new (w.alloc (.cells #[.int .i64 a,.int .i64 b] 50)) (.cells #[.int .i64 a,.int .i64 b] 2);simpa using this))).mono ?_
  rintro e w1 ⟨rfl,rfl⟩
  rw [hall.out]
  go_wp2_with fail
  refine (HH.out _).mono ?_
  rintro e w1 ⟨rfl,hB⟩
  have HB:=Aside0.mk hB
  clear hB
  go_wp2
  go_ret2
  exact ⟨rfl,(below_alloc (below_alloc (Below.refl _ _) _) _).trans (HB.out.mono (by simp;omega))⟩
theorem reckon_times_no (a b:Int) (w:World) (h:(wd a&&wd b)=false) :
    Calls Try.prog 40 #[.agg #[.int .i64 a,.int .i64 b],.func (.func 41) #[] #[]] w (PairPost (0,1) w):=by
  have hall:Aside0 (allw [a,b]=false):=⟨by simp only [allw,Bool.and_true];exact h⟩
  clear h
  go_enter Try.func40,Try.ntmps40
  go_wp2_with fail
  refine (all_calls [a,b] _ _ _ (pair_row _ a b (w.heap.size+1) (by have:=blk_new (w.alloc (.cells #[.int .i64 a,.int .i64 b] 50)) (.cells #[.int .i64 a,.int .i64 b] 2);simpa using this))).mono ?_
  rintro e w1 ⟨rfl,rfl⟩
  rw [hall.out]
  go_wp2
  go_ret2
  exact ⟨rfl,below_alloc (below_alloc (Below.refl _ _) _) _⟩
theorem mul_yes (a b:Int) (w:World) (ha:wd a=true) (hb:wd b=true):Calls Try.prog 13 #[.int .i64 a,.int .i64 b] w (PairPost (timesR a b) w):=by
  go_enter Try.func13,Try.ntmps13
  go_wp2_with fail
  refine (reckon_times _ _ _ _ ha hb (fun w=>times_calls _ _ w ha hb)).mono ?_
  rintro e w1 ⟨rfl,hB⟩
  have HB:=Aside0.mk hB
  clear hB
  go_wp2
  go_ret2
  exact ⟨rfl,HB.out⟩
theorem mul_no (a b:Int) (w:World) (h:(wd a&&wd b)=false):Calls Try.prog 13 #[.int .i64 a,.int .i64 b] w (PairPost (0,1) w):=by
  go_enter Try.func13,Try.ntmps13
  go_wp2_with fail
  refine (reckon_times_no _ _ _ h).mono ?_
  rintro e w1 ⟨rfl,hB⟩
  have HB:=Aside0.mk hB
  clear hB
  go_wp2
  go_ret2
  exact ⟨rfl,HB.out⟩
end
end Go.Proofs.Ythokdnheijnmmaa.FxWalk
end
section
set_option linter.unusedVariables false
set_option linter.unusedSimpArgs false
namespace Go.Proofs.Ythokdnheijnmmaa.Wh
open Go.Proofs.Ythokdnheijnmmaa.FxWalk
def RN (x c r:Int):Prop:=(2*(x-c*r)<c ∧ -c<2*(x-c*r))∨((2*(x-c*r)=c∨2*(x-c*r) = -c)∧r%2=0)
theorem rn_round {x c:Int} (hc:0<c):RN x c (roundP x c):=by
  have e:=Int.emod_add_mul_ediv x c
  have h0:=Int.emod_nonneg x (by omega:c≠0)
  have h1:=Int.emod_lt_of_pos x hc
  unfold RN roundP
  generalize x%c=m at *
  generalize x/c=q at *
  split
  · rename_i h
    rw [Int.mul_add]
    generalize c*q=p at *
    rcases h with h|h<;>omega
  · rename_i h
    generalize c*q=p at *
    omega
theorem rn_mono {x y c r s:Int} (hc:0<c) (hx:RN x c r) (hy:RN y c s) (h:x≤y):r≤s:=by
  by_cases hrs:r≤s
  · exact hrs
  · exfalso
    obtain ⟨d,rfl⟩:∃ d,r=s+1+d:=⟨r-s-1,by omega⟩
    have hd:0≤c*d:=Int.mul_nonneg (by omega) (by omega)
    unfold RN at hx hy
    rw [Int.mul_add,Int.mul_add] at hx
    by_cases h0:d=0
    · subst h0
      generalize c*s=p at *
      omega
    · have hd':c≤c*d:=by
        have:=Int.mul_le_mul_of_nonneg_left (show (1:Int)≤d by omega) (show 0≤c by omega)
        omega
      generalize c*s=p at *
      generalize c*d=t at *
      omega
theorem rn_eq {x c r s:Int} (hc:0<c) (hx:RN x c r) (hy:RN x c s):r=s :=
  Int.le_antisymm (rn_mono hc hx hy (Int.le_refl _)) (rn_mono hc hy hx (Int.le_refl _))
theorem rn_neg {x c r:Int} (h:RN x c r):RN (-x) c (-r):=by
  unfold RN at h ⊢
  rw [Int.mul_neg]
  generalize c*r=p at *
  omega
theorem roundP_neg {x c:Int} (hc:0<c):roundP (-x) c = -roundP x c:=rn_eq hc (rn_round hc) (rn_neg (rn_round hc))
theorem roundP_one_pos {x c:Int} (hc:0<c) (hx:0≤x):0≤roundP x c∧roundP x c≤x:=by
  have h:=rn_round (x:=x) hc
  have z:RN 0 c 0:=by unfold RN;simp only [Int.mul_zero];omega
  refine ⟨rn_mono hc z h hx,?_⟩
  by_cases h1:c=1
  · subst h1
    have:RN x 1 x:=by unfold RN;omega
    exact Int.le_of_eq (rn_eq (by decide) h this)
  · -- c from 2 on: r c lies within c/2 of x
    by_cases hr:roundP x c≤x
    · exact hr
    · exfalso
      generalize roundP x c=r at *
      obtain ⟨d,rfl⟩:∃ d,r=x+1+d:=⟨r-x-1,by omega⟩
      have hd:0≤c*d:=Int.mul_nonneg (by omega) (by omega)
      have hcx:2*x≤c*x:=Int.mul_le_mul_of_nonneg_right (by omega) hx
      unfold RN at h
      rw [Int.mul_add,Int.mul_add] at h
      generalize c*x=p at *
      generalize c*d=t at *
      omega
theorem roundP_abs {x c:Int} (hc:0<c):(0≤x→0≤roundP x c∧roundP x c≤x)∧(x≤0→x≤roundP x c∧roundP x c≤0):=by
  refine ⟨roundP_one_pos hc,fun h=>?_⟩
  have:=roundP_one_pos (x := -x) hc (by omega)
  rw [roundP_neg hc] at this
  omega
theorem roundI_pos {x c:Int} (hc:0<c):roundI x c=roundP x c:=by
  unfold roundI;rw [if_neg (by omega)]
theorem rnd30_eq {P:Int}:rnd30 P=roundP P 1073741824:=by
  unfold rnd30 roundP
  by_cases h:P%1073741824>536870912∨(P%1073741824=536870912∧P/1073741824%2=1)
  · rw [if_pos h,if_pos (by omega)]
  · rw [if_neg h,if_neg (by omega),Int.add_zero]
theorem mul_ab {a b:Int}:ab a*ab b=if (!(decide (a<0) == decide (b<0)))=true then -(a*b) else a*b:=by
  unfold ab
  by_cases ha:a<0<;>by_cases hb:b<0
  · rw [show (a.natAbs:Int) = -a by omega,show (b.natAbs:Int) = -b by omega];simp [ha,hb,Int.neg_mul,Int.mul_neg]
  · rw [show (a.natAbs:Int) = -a by omega,show (b.natAbs:Int)=b by omega];simp [ha,hb,Int.neg_mul,Int.mul_neg]
  · rw [show (a.natAbs:Int)=a by omega,show (b.natAbs:Int) = -b by omega];simp [ha,hb,Int.neg_mul,Int.mul_neg]
  · rw [show (a.natAbs:Int)=a by omega,show (b.natAbs:Int)=b by omega];simp [ha,hb,Int.neg_mul,Int.mul_neg]
theorem timesR_eq {a b:Int}:timesR a b=toldR (roundP (a*b) 1073741824):=by
  unfold timesR
  rw [rnd30_eq]
  have hp:0≤ab a*ab b:=Int.mul_nonneg (by unfold ab;omega) (by unfold ab;omega)
  have e:=mul_ab (a:=a) (b:=b)
  generalize (!(decide (a<0) == decide (b<0)))=n at *
  generalize ab a*ab b=P at *
  have h0:=((roundP_abs (x:=P) (c:=1073741824) (by decide)).1 hp).1
  cases n with
  | true =>
    rw [if_pos rfl] at e
    have e2:a*b = -P:=by omega
    rw [e2,roundP_neg (by decide)]
    generalize roundP P 1073741824=r at *
    unfold signR toldR
    by_cases h:r<35184372088832
    · rw [if_pos h,if_pos rfl,if_pos (wd_iff.2 (by omega))]
    · rw [if_neg h,if_neg (by rw [wd_iff];omega)]
  | false =>
    rw [if_neg (by decide)] at e
    rw [← e]
    generalize roundP P 1073741824=r at *
    unfold signR toldR
    by_cases h:r<35184372088832
    · rw [if_pos h,if_neg (by decide),if_pos (wd_iff.2 (by omega))]
    · rw [if_neg h,if_neg (by rw [wd_iff];omega)]
theorem told_wd {x:Int} (h:wd x=true):toldR x=(x,0):=by unfold toldR;rw [if_pos h]
end Go.Proofs.Ythokdnheijnmmaa.Wh
end
section
set_option linter.unusedVariables false
set_option linter.unusedSimpArgs false
namespace Go.Proofs.Ythokdnheijnmmaa.Wh
open Go Go.RowKit Go.Proofs.YthokdnheijnmmaaW.PrintWords Go.Proofs.YthokdnheijnmmaaW.PrintMore Go.Proofs.YthokdnheijnmmaaW.PrintLast Go.Proofs.YthokdnheijnmmaaW.Aid Go.Proofs.YthokdnheijnmmaaW.Big Go.Proofs.YthokdnheijnmmaaW.Sx Go.Proofs.Ythokdnheijnmmaa.BitsWalk Go.Proofs.Ythokdnheijnmmaa.Limbs Go.Proofs.Ythokdnheijnmmaa.Whole Go.Proofs.Ythokdnheijnmmaa.FxWalk Go.Proofs
def isqN (m:Nat):Nat→Nat
  | 0=>0
  | k+1=>if (k+1)*(k+1)≤m then k+1 else isqN m k
theorem isqN_spec (m:Nat):∀ k,isqN m k*isqN m k≤m∧∀ j,j≤k→j*j≤m→j≤isqN m k
  | 0=>⟨Nat.zero_le _,fun j h _=>by omega⟩
  | k + 1 => by
    unfold isqN
    split
    · rename_i h;exact ⟨h,fun j hj _=>hj⟩
    · rename_i h
      refine ⟨(isqN_spec m k).1,fun j hj hm=>?_⟩
      by_cases e:j=k+1
      · subst e;exact absurd hm h
      · exact (isqN_spec m k).2 j (by omega) hm
def isq (n:Int):Int:=(isqN n.natAbs n.natAbs:Nat)
theorem isq_spec {n:Int} (h:0≤n):0≤isq n∧isq n*isq n≤n∧n<(isq n+1)*(isq n+1):=by
  obtain ⟨m,rfl⟩:∃ m:Nat,n=(m:Int):=⟨n.natAbs,by omega⟩
  obtain ⟨h1,h2⟩:=isqN_spec m m
  unfold isq
  rw [Int.natAbs_natCast]
  generalize isqN m m=r at *
  refine ⟨by omega,by exact_mod_cast h1,?_⟩
  by_cases hc:(r+1)*(r+1)≤m
  · have:=h2 (r+1) (by have:=Nat.le_mul_self (r+1);omega) hc
    omega
  · have:m<(r+1)*(r+1):=by omega
    exact_mod_cast this
theorem sq_lt {a b:Int} (ha:0≤a) (hb:0≤b) (h:a*a<b*b):a<b:=by
  by_cases hc:a<b
  · exact hc
  · exact absurd (Int.mul_le_mul (show b≤a by omega) (show b≤a by omega) hb ha) (by omega)
theorem isq_uniq {n r:Int} (h0:0≤r) (h1:r*r≤n) (h2:n<(r+1)*(r+1)):isq n=r:=by
  obtain ⟨a,b,c⟩:=isq_spec (n:=n) (Int.le_trans (Int.mul_nonneg h0 h0) h1)
  have:=sq_lt (a:=isq n) (b:=r+1) a (by omega) (by omega)
  have:=sq_lt (a:=r) (b:=isq n+1) h0 (by omega) (by omega)
  omega
theorem newton_ge {n x s:Int} (hx:0<x) (h:s*s≤n):s≤(x+n/x)/2:=by
  have e:(2*s-x)*x=s*s-(s-x)*(s-x):=by
    simp only [Int.sub_mul,Int.mul_sub,Int.mul_assoc,Int.mul_comm x s]
    omega
  have h0:0≤(s-x)*(s-x):=by
    rcases Int.le_total 0 (s-x) with h|h
    · exact Int.mul_nonneg h h
    · exact Int.mul_nonneg_of_nonpos_of_nonpos h h
  have:=Int.le_ediv_of_mul_le hx (show (2*s-x)*x≤n by omega)
  omega
theorem newton_le {n x:Int} (hx:0<x) (h:x≤(x+n/x)/2):x*x≤n:=Int.mul_le_of_le_ediv hx (by omega)
theorem bl_lt:∀ (f x:Nat),x<2 ^ f→x<2 ^ Lib.bitLenAux f x
  | 0,x,h=>h
  | f + 1, x, h => by
    unfold Lib.bitLenAux
    split
    · rename_i h0;subst h0;exact Nat.one_pos
    · have:=bl_lt f (x/2) (by rw [Nat.pow_succ] at h;omega)
      rw [Nat.add_comm,Nat.pow_succ]
      omega
theorem bl_le (x:Nat) (h:x<18446744073709551616):Lib.bitLen x≤64:=Lib.bitLen_le x 64 (by omega) h
def lenI (x:Int):Int:=if x.natAbs=0 then 0 else if x.natAbs<18446744073709551616 then (Lib.bitLen x.natAbs:Nat) else 64+(Lib.bitLen (x.natAbs/18446744073709551616):Nat)
theorem len_spec {x:Int} (h:x.natAbs<340282366920938463463374607431768211456):0≤lenI x∧lenI x≤128∧x.natAbs<2 ^ (lenI x).toNat:=by
  unfold lenI
  split
  · rename_i h0;rw [h0];decide
  · split
    · rename_i h1
      have:=bl_le _ h1
      refine ⟨by omega,by omega,?_⟩
      rw [Int.toNat_natCast]
      exact bl_lt 64 _ h1
    · have h2:x.natAbs/18446744073709551616<18446744073709551616:=by omega
      have h3:=bl_le _ h2
      have h4:x.natAbs/18446744073709551616<2 ^ Lib.bitLen (x.natAbs/18446744073709551616):=bl_lt 64 _ h2
      refine ⟨by omega,by omega,?_⟩
      rw [show (64+(Lib.bitLen (x.natAbs/18446744073709551616):Int)).toNat=64+Lib.bitLen (x.natAbs/18446744073709551616) by omega,Nat.pow_add]
      generalize 2 ^ Lib.bitLen (x.natAbs/18446744073709551616)=p at *
      omega
def conU (f:FuncId) (pre:Int→Prop) (r:Int→CR) (hf:FOk Try.prog f) (ok:∀ n w,pre n→Ret Try.prog f #[.int .u64 n] w (r n)):Con Try.prog where
  f:=f
  sem:=fun xs=>match xs with
    | [.sc (.v (.int .u64 n))]=>some (pre n,r n)
    | _=>none
  ok:=by
    intro xs p r' h hp
    refine ⟨hf,fun us w ha=>?_⟩
    split at h
    · rename_i n
      cases h
      obtain ⟨u,rfl,h1⟩:=all2_1 ha
      rw [show _=_ from h1]
      exact ok n w hp
    · cases h
def cLen64:Con Try.prog:=conU 115 (fun n=>0≤n∧n<18446744073709551616) (fun n => .tv (tN .i64 ((Lib.bitLen n.toNat:Nat):Int))) ⟨_,Try.func115,by kernel_rfl,rfl⟩
  (fun n w h=>(Long.len64_calls n w h.1 h.2).mono fun e w' h=>⟨_,h.1,rfl,by rw [← h.2];exact Below.refl _ w⟩)
theorem top_ix {x:Int} (hl:x.natAbs<340282366920938463463374607431768211456) (h:(((lm x).length:Int) == 0)=false):IntKind.i64.wrap (((lm x).length:Int)-1)=((lm x).length:Int)-1∧0<(lm x).length∧(lm x).length≤2:=by
  have h2:(lm x).length≤2:=limbs_len (k:=2) (by simpa using hl)
  have h0:0<(lm x).length:=by have:=len_gt h;omega
  refine ⟨?_,h0,h2⟩
  rw [i64_w,wrap64_id (by omega) (by omega)]
theorem len_fin {x:Int} (hl:x.natAbs<340282366920938463463374607431768211456) (h:(((lm x).length:Int) == 0)=false) :
    IntKind.i64.wrap (IntKind.i64.wrap (64*IntKind.i64.wrap (((lm x).length:Int)-1))+((Lib.bitLen (rd (lm x) (IntKind.i64.wrap (((lm x).length:Int)-1))).toNat:Nat):Int))=lenI x:=by
  rw [(top_ix hl h).1]
  have h0:x.natAbs≠0:=by
    intro e
    have:=(top_ix hl h).2.1
    unfold lm at this;rw [e,limbs_zero] at this;exact absurd this (by decide)
  unfold lenI
  rw [if_neg h0]
  by_cases h1:x.natAbs<18446744073709551616
  · have e:lm x=[(x.natAbs:Int)]:=limbs_word h0 h1
    have:=bl_le _ h1
    rw [if_pos h1,e]
    simp only [i64_w,List.length_singleton]
    rw [show (64*(((1:Nat):Int)-1))=0 from rfl,show ((1:Nat):Int)-1=0 from rfl,show wrap64 0=0 from wrap64_id (by omega) (by omega),show rd [(x.natAbs:Int)] 0=(x.natAbs:Int) from rfl,Int.toNat_natCast,wrap64_id (by omega) (by omega)]
    omega
  · have e:lm x=[((x.natAbs%18446744073709551616:Nat):Int),((x.natAbs/18446744073709551616:Nat):Int)]:=by
      show limbs x.natAbs=_
      rw [limbs_pos h0,limbs_word (by omega) (by omega)]
    have:=bl_le (x.natAbs/18446744073709551616) (by omega)
    rw [if_neg h1,e]
    simp only [i64_w,List.length_cons,List.length_nil]
    rw [show (64*(((0+1+1:Nat):Int)-1))=64 from rfl,show ((0+1+1:Nat):Int)-1=1 from rfl,show wrap64 64=64 from wrap64_id (by omega) (by omega),show rd [((x.natAbs%18446744073709551616:Nat):Int),((x.natAbs/18446744073709551616:Nat):Int)] 1=((x.natAbs/18446744073709551616:Nat):Int) from rfl,Int.toNat_natCast,wrap64_id (by omega) (by omega)]
theorem rd_lm (x i:Int):0≤rd (lm x) i∧rd (lm x) i<18446744073709551616:=by
  by_cases h:i.toNat<(lm x).length
  · have e:rd (lm x) i=(lm x)[i.toNat]:=by unfold rd;simp [List.getD_eq_getElem?_getD,h]
    rw [e]
    exact limbs_dig _ _ (List.getElem_mem h)
  · have e:rd (lm x) i=0:=by unfold rd;simp [List.getD_eq_getElem?_getD,h]
    rw [e];decide
theorem top_ge {x:Int} (hl:x.natAbs<340282366920938463463374607431768211456) (h:(((lm x).length:Int) == 0)=false):0≤IntKind.i64.wrap (((lm x).length:Int)-1)∧IntKind.i64.wrap (((lm x).length:Int)-1)<((lm x).length:Int):=by
  obtain ⟨h1,h2,h3⟩:=top_ix hl h
  omega
theorem len_zero {x:Int} (h:(((lm x).length:Int) == 0)=true):0=lenI x:=by
  have h':=beq_iff_eq.1 h
  have:x=0:=lm_nil'.1 (by omega)
  subst this
  rfl
theorem n_eq {z z':Int} (h:z=z'):(some (CR.tv (tN .i64 z)):Option CR)=some (CR.tv (tN .i64 z')):=by rw [h]
section
set_option maxRecDepth 100000
set_option maxHeartbeats 1000000
def cLen:Con Try.prog:=con1 89 (fun x=>x.natAbs<340282366920938463463374607431768211456) (fun x => .tv (tN .i64 (lenI x))) ⟨_,Try.func89,by kernel_rfl,rfl⟩ (fun x A c w hl hr=>by
  refine fn_ret (cxOk Try.prog ints_ok [] [cLen64]) follows Try.func89 rfl 100 _ rfl (by simp) ?_ (args1 hr)
  repeat' first
    | exact trivial
    | (refine And.intro (show regChk _ _ _ _ _=true from by kernel_rfl) (And.intro ?_ ?_))
    | (refine And.intro (fun hb=>?_) (fun hb'=>?_))
    | refine And.intro ?_ ?_
    | intro _
  all_goals first
    | (show some (CR.tv (tN .i64 _))=some (CR.tv (tN .i64 _));first|exact n_eq (len_fin hl (by assumption))|exact n_eq (len_zero (by assumption)))
    | (show (0:Int)≤rd _ _;exact (rd_lm _ _).1)
    | (show rd _ _<(_:Int);exact (rd_lm _ _).2)
    | (show (0:Int)≤IntKind.i64.wrap _;exact (top_ge hl (by assumption)).1)
    | (show IntKind.i64.wrap _<(_:Int);exact (top_ge hl (by assumption)).2))
def flL (n:Int):LI Int where
  gs:=fun x=>[(1,.ptr 1 0),(2,.ptr 2 0),(3,.ptr 3 0)]
  bs:=fun x=>[(1,58,[.neg n,.mag n]),(2,58,[.neg 0,.mag 0]),(3,58,[.neg x,.mag x])]
  I:=fun x=>isq n≤x∧x≤4611686018427387904
  μ:=fun x=>x.toNat
theorem len_128 {x:Int} (h0:0≤x) (h:x<340282366920938463463374607431768211456):Len0 x:=by
  have:(lm x).length≤2:=limbs_len (k:=2) (by show x.natAbs<340282366920938463463374607431768211456;omega)
  show (lm x).length≤1000
  omega
theorem isq_pos {n:Int} (h0:0≤n) (h:decide (n=0)=false):1≤isq n:=by
  have h':=of_decide_eq_false h
  obtain ⟨a,b,c⟩:=isq_spec h0
  by_cases hz:isq n=0
  · rw [hz] at c;omega
  · omega
theorem fl_v {n v:Int} (h0:0≤n) (h:decide (n=0)=false) (hv:isq n≤v∧v≤4611686018427387904):0<v∧v<18446744073709551616:=by
  have:=isq_pos h0 h
  omega
theorem fl_q {n v:Int} (h0:0≤n) (hn:n<1329227995784915872903807060280344576) (h:decide (n=0)=false) (hv:isq n≤v∧v≤4611686018427387904):0≤n/v∧n/v<1329227995784915872903807060280344576:=by
  have hp:=(fl_v h0 h hv).1
  have:=Int.ediv_nonneg h0 (show 0≤v by omega)
  have:=Int.ediv_le_self v h0
  omega
theorem fl_e (x:Int):x/2 ^ Int.toNat 1=x/2:=rfl
theorem cmpI_ge {x y:Int} (h:decide (cmpI x y≥0)=true):y≤x:=by
  have:=of_decide_eq_true h
  unfold cmpI at this
  split at this
  · omega
  · omega
theorem cmpI_lt {x y:Int} (h:decide (cmpI x y≥0)=false):x<y:=by
  have:=of_decide_eq_false h
  unfold cmpI at this
  split at this
  · assumption
  · split at this<;>omega
theorem fl_done {n v:Int} (h0:0≤n) (h:decide (n=0)=false) (hv:isq n≤v∧v≤4611686018427387904) (hc:decide (cmpI ((v+n/v)/2 ^ Int.toNat 1) v≥0)=true):v=isq n:=by
  have hp:=(fl_v h0 h hv).1
  have h1:=newton_le hp (cmpI_ge (by rw [fl_e] at hc;exact hc))
  obtain ⟨a,b,c⟩:=isq_spec h0
  have:=sq_lt (a:=v) (b:=isq n+1) (by omega) (by omega) (by omega)
  omega
theorem fl_next {n v:Int} (h0:0≤n) (h:decide (n=0)=false) (hv:isq n≤v∧v≤4611686018427387904) (hc:decide (cmpI ((v+n/v)/2 ^ Int.toNat 1) v≥0)=false) :
    ((v+n/v)/2 ^ Int.toNat 1).toNat<v.toNat∧isq n≤(v+n/v)/2 ^ Int.toNat 1∧(v+n/v)/2 ^ Int.toNat 1≤4611686018427387904:=by
  have hp:=(fl_v h0 h hv).1
  rw [fl_e] at hc ⊢
  have h1:=cmpI_lt hc
  have h2:=newton_ge hp (isq_spec h0).2.1
  have:=isq_pos h0 h
  generalize (v+n/v)/2=y at *
  omega
theorem fl_zero {n:Int} (h:decide (n=0)=true):0=isq n:=by
  rw [of_decide_eq_true h];rfl
theorem fl_pw {n:Int} (h0:0≤n) (hn:n<1329227995784915872903807060280344576):0≤IntKind.i64.wrap (IntKind.i64.wrap ((lenI n).tdiv 2)+1)∧IntKind.i64.wrap (IntKind.i64.wrap ((lenI n).tdiv 2)+1)≤61∧isq n≤2 ^ (IntKind.i64.wrap (IntKind.i64.wrap ((lenI n).tdiv 2)+1)).toNat:=by
  have hb:lenI n≤120:=by
    unfold lenI
    split
    · decide
    · split
      · have:=bl_le n.natAbs (by omega);omega
      · have:=Lib.bitLen_le (n.natAbs/18446744073709551616) 56 (by omega) (by show _<72057594037927936;omega);omega
  obtain ⟨a,b,c⟩:=len_spec (x:=n) (by omega)
  have e:(lenI n).tdiv 2=lenI n/2:=Int.tdiv_eq_ediv_of_nonneg a
  rw [i64_w,i64_w,e,wrap64_id (x:=lenI n/2) (by omega) (by omega),wrap64_id (by omega) (by omega)]
  refine ⟨by omega,by omega,?_⟩
  generalize lenI n=L at *
  obtain ⟨r1,r2,r3⟩:=isq_spec h0
  have:isq n<2 ^ (L/2+1).toNat:=by
    refine sq_lt r1 (Int.pow_nonneg (by decide)) (Int.lt_of_le_of_lt r2 ?_)
    rw [← Int.pow_add]
    have h1:(n.natAbs:Int)<2 ^ L.toNat:=by exact_mod_cast c
    have h2:(2:Int) ^ L.toNat≤2 ^ ((L/2+1).toNat+(L/2+1).toNat):=by
      have:=Nat.pow_le_pow_right (show 0<2 by decide) (show L.toNat≤(L/2+1).toNat+(L/2+1).toNat by omega)
      exact_mod_cast this
    omega
  omega
theorem pow_61 {k:Int} (h:k≤61):(2:Int) ^ k.toNat≤4611686018427387904:=by
  have h1:2 ^ k.toNat≤2 ^ 62:=Nat.pow_le_pow_right (show 0<2 by decide) (show k.toNat≤62 by omega)
  have h2:=Int.ofNat_le.2 h1
  rw [Int.natCast_pow] at h2
  exact h2
def cFloor:Con Try.prog:=con1 55 (fun n=>0≤n∧n<1329227995784915872903807060280344576) (fun n => .tv (tI (isq n))) ⟨_,Try.func55,by kernel_rfl,rfl⟩ (fun n A c w hl hr=>by
  obtain ⟨h0,hn⟩:=hl
  refine fnl_ret (flL n) (cxOk Try.prog ints_ok [] [cLen,cDown,cRight,cAdd,cCmp,cZero,cPower]) follows Try.func55 rfl 100 _ rfl (by simp) ?_ (args1 hr)
  repeat' first
    | exact trivial
    | (refine And.intro (show regChk _ _ _ _ _=true from by kernel_rfl) (And.intro ?_ ?_))
    | (refine And.intro (fun hb=>?_) (fun hb'=>?_))
    | refine And.intro ?_ ?_
    | (show ¬ _;show (2:Int)≠0;decide)
    | intro _
  all_goals first
    | (show (_:Int)=(_:Int);rfl)
    | (show wfB _ _=true;rfl)
    | (show Int.natAbs _<(_:Nat);omega)
    | (show (0:Int)≤IntKind.i64.wrap _;exact (fl_pw h0 hn).1)
    | (show IntKind.i64.wrap _≤(6400:Int);exact Int.le_trans (fl_pw h0 hn).2.1 (by decide))
    | (show (∃ v,atL (flL n) v _);exact ⟨_,⟨(fl_pw h0 hn).2.2,pow_61 (fl_pw h0 hn).2.1⟩,⟨rfl,rfl,rfl,trivial⟩,⟨rfl,⟨rfl,rfl,trivial⟩,⟨rfl,⟨rfl,rfl,trivial⟩,⟨rfl,⟨rfl,rfl,trivial⟩,trivial⟩⟩⟩⟩)
    | (show (∃ v',(flL n).μ v'<(flL n).μ _∧atL (flL n) v' _);exact ⟨_,(fl_next h0 (by assumption) (by assumption) (by assumption)).1,(fl_next h0 (by assumption) (by assumption) (by assumption)).2,⟨rfl,rfl,rfl,trivial⟩,⟨rfl,⟨rfl,rfl,trivial⟩,⟨rfl,⟨rfl,rfl,trivial⟩,⟨rfl,⟨rfl,rfl,trivial⟩,trivial⟩⟩⟩⟩)
    | (show Len0 n;exact len_128 h0 (by omega))
    | (show Len0 (_+_);exact len_128 (by have:=fl_v h0 (by assumption) (by assumption);have:=fl_q h0 hn (by assumption) (by assumption);omega) (by have:=fl_v h0 (by assumption) (by assumption);have:=fl_q h0 hn (by assumption) (by assumption);omega))
    | (show Len0 (_/_);exact len_128 (fl_q h0 hn (by assumption) (by assumption)).1 (by have:=fl_q h0 hn (by assumption) (by assumption);omega))
    | (show Len0 _;exact len_128 (by have:=fl_v h0 (by assumption) (by assumption);omega) (by have:=fl_v h0 (by assumption) (by assumption);omega))
    | (show (0:Int)<_;exact (fl_v h0 (by assumption) (by assumption)).1)
    | (show _<(18446744073709551616:Int);exact (fl_v h0 (by assumption) (by assumption)).2)
    | (show (0:Int)≤_+_;have:=fl_v h0 (by assumption) (by assumption);have:=fl_q h0 hn (by assumption) (by assumption);omega)
    | (show (_:Int)≤_;decide)
    | (show some (CR.tv (tI _))=some (CR.tv (tI _));first|exact wh_eq (fl_zero (by assumption))|exact wh_eq (fl_done h0 (by assumption) (by assumption) (by assumption))))
theorem len_mul (x y:Int):(lm (x*y)).length≤(lm x).length+(lm y).length:=by
  refine limbs_len ?_
  rw [Int.natAbs_mul,Nat.pow_add]
  have h1:x.natAbs<18446744073709551616 ^ (lm x).length:=by have:=val_lt (limbs_dig x.natAbs);rw [val_limbs] at this;exact this
  have h2:y.natAbs<18446744073709551616 ^ (lm y).length:=by have:=val_lt (limbs_dig y.natAbs);rw [val_limbs] at this;exact this
  exact Nat.mul_lt_mul'' h1 h2
def nearB (n d x:Int):Bool:=bif decide (cmpI ((x*2 ^ Int.toNat 1+1)*(x*2 ^ Int.toNat 1+1)*d) (n*2 ^ Int.toNat 2)<0) then true else bif cmpI ((x*2 ^ Int.toNat 1+1)*(x*2 ^ Int.toNat 1+1)*d) (n*2 ^ Int.toNat 2) == 0 then !decide (x%2=0) else false
def nearR (n d:Int):Int:=if nearB n d (isq (n/d))=true then isq (n/d)+1 else isq (n/d)
theorem isq_le {n:Int} (h0:0≤n) (hn:n<1329227995784915872903807060280344576):0≤isq n∧isq n<1329227995784915872903807060280344576:=by
  obtain ⟨a,b,c⟩:=isq_spec h0
  refine ⟨a,?_⟩
  by_cases h:isq n=0
  · omega
  · have:=Int.mul_le_mul_of_nonneg_left (show 1≤isq n by omega) a
    omega
theorem div_bd {n d:Int} (h0:0≤n) (hn:n<1329227995784915872903807060280344576) (hd:0<d):0≤n/d∧n/d<1329227995784915872903807060280344576:=by
  have:=Int.ediv_nonneg h0 (show 0≤d by omega)
  have:=Int.ediv_le_self d h0
  omega
theorem len2 {x:Int} (h0:0≤x) (h:x<340282366920938463463374607431768211456):(lm x).length≤2:=limbs_len (k:=2) (by show x.natAbs<340282366920938463463374607431768211456;omega)
theorem near1 {n d:Int} (h:nearB n d (isq (n/d))=true):isq (n/d)+1=nearR n d:=by unfold nearR;rw [if_pos h]
theorem near0 {n d:Int} (h:nearB n d (isq (n/d))=false):isq (n/d)=nearR n d:=by unfold nearR;rw [h];rfl
def cNearest:Con Try.prog:=con2 60 (fun n d=>(0≤n∧n<1329227995784915872903807060280344576)∧0<d∧d<18446744073709551616) (fun n d => .tv (tI (nearR n d))) ⟨_,Try.func60,by kernel_rfl,rfl⟩ (fun n d A A' c c' w hl hr hr'=>by
  obtain ⟨⟨h0,hn⟩,hd,hd'⟩:=hl
  have q:=div_bd h0 hn hd
  have s:=isq_le q.1 q.2
  have l1:Len0 (isq (n/d)):=len_128 s.1 (by omega)
  have l2:Len0 (isq (n/d)*2 ^ Int.toNat 1):=len_128 (by show 0≤_*2;omega) (by show _*2<(_:Int);omega)
  have l4:(lm (isq (n/d)*2 ^ Int.toNat 1+1)).length≤2:=len2 (by show 0≤_*2+1;omega) (by show _*2+1<(_:Int);omega)
  have l3:Len0 (isq (n/d)*2 ^ Int.toNat 1+1):=Nat.le_trans l4 (by decide)
  have l5:Len0 ((isq (n/d)*2 ^ Int.toNat 1+1)*(isq (n/d)*2 ^ Int.toNat 1+1)):=Nat.le_trans (len_mul _ _) (by omega)
  have l6:(lm d).length≤1:=lm_one d (by omega)
  have l7:Len0 n:=len_128 h0 (by omega)
  refine fn_ret (cxOk Try.prog ints_ok [] [cFloor,cDown,cLeft,cOne,cAdd,cMul,cCmp,cEven]) follows Try.func60 rfl 100 _ rfl (by simp) ?_ (args2 hr hr')
  repeat' first
    | exact trivial
    | (refine And.intro (show regChk _ _ _ _ _=true from by kernel_rfl) (And.intro ?_ ?_))
    | (refine And.intro (fun hb=>?_) (fun hb'=>?_))
    | refine And.intro ?_ ?_
    | intro _
  all_goals first
    | (show (_:Int)=(_:Int);rfl)
    | (show Len0 _;first|exact l7|exact l1|exact l2|exact l3|exact l5|exact len_1)
    | (show List.length _<24;first|exact Nat.lt_of_le_of_lt l6 (by decide)|exact Nat.lt_of_le_of_lt l4 (by decide))
    | (show (0:Int)≤(1:Int);decide)
    | (show (0:Int)≤(2:Int);decide)
    | (show (_:Int)≤6400;decide)
    | exact q.1
    | exact q.2
    | exact hd
    | exact hd'
    | (show some (CR.tv (tI _))=some (CR.tv (tI _));first|exact wh_eq (near1 (by assumption))|exact wh_eq (near0 (by assumption)))
    | (show (_:Bool)=(_:Bool);first|assumption|exact beq_iff_eq.2 (by assumption)|exact g2 (by assumption) (by assumption)))
def sqrtR (a:Int):Int × Int:=if wd a=true∧0≤a then toldR (isq a) else (0,1)
def rootR (a:Int):Int × Int:=if wd a=true∧0≤a then toldR (nearR (a*1073741824) 1) else (0,1)
theorem word0 {a:Int} (h:(bif !wd a then true else decide (a<0))=false):wd a=true∧0≤a∧a<35184372088832:=by
  cases hw:wd a with
  | false=>rw [hw] at h;cases h
  | true =>
    rw [hw] at h
    have h1:¬ a<0:=of_decide_eq_false h
    have:=(wd_iff.1 hw).2
    exact ⟨rfl,by omega,this⟩
theorem word1 {a:Int} (h:(bif !wd a then true else decide (a<0))=true):¬ (wd a=true∧0≤a):=by
  rintro ⟨hw,h0⟩
  rw [hw] at h
  have h1:a<0:=of_decide_eq_true h
  omega
theorem sqrt0 {a:Int} (h:(bif !wd a then true else decide (a<0))=false):((toldR (isq a)).1,(toldR (isq a)).2)=((sqrtR a).1,(sqrtR a).2):=by
  unfold sqrtR;rw [if_pos ⟨(word0 h).1,(word0 h).2.1⟩]
theorem sqrt1 {a:Int} (h:(bif !wd a then true else decide (a<0))=true):((0:Int),(1:Int))=((sqrtR a).1,(sqrtR a).2):=by
  unfold sqrtR;rw [if_neg (word1 h)]
theorem root0 {a:Int} (h:(bif !wd a then true else decide (a<0))=false):((toldR (nearR (a*2 ^ Int.toNat 30) 1)).1,(toldR (nearR (a*2 ^ Int.toNat 30) 1)).2)=((rootR a).1,(rootR a).2):=by
  unfold rootR;rw [if_pos ⟨(word0 h).1,(word0 h).2.1⟩];rfl
theorem root1 {a:Int} (h:(bif !wd a then true else decide (a<0))=true):((0:Int),(1:Int))=((rootR a).1,(rootR a).2):=by
  unfold rootR;rw [if_neg (word1 h)]
def cSqrt:Con Try.prog:=conN 30 (fun _=>True) (fun a => .tv (tNN (sqrtR a).1 (sqrtR a).2)) ⟨_,Try.func30,by kernel_rfl,rfl⟩ (fun a w hl=>by
  refine fn_ret (cxOk Try.prog ints_ok [] [cGood,cFrom,cFloor,cTold]) follows Try.func30 rfl 100 _ rfl (by simp) ?_ (xs:=[tN .i64 a]) (.cons rfl .nil)
  repeat' first
    | exact trivial
    | (refine And.intro (show regChk _ _ _ _ _=true from by kernel_rfl) (And.intro ?_ ?_))
    | (refine And.intro (fun hb=>?_) (fun hb'=>?_))
    | refine And.intro ?_ ?_
    | intro _
  all_goals first
    | (show (_:Int)=(_:Int);rfl)
    | (show (_:Bool)=(_:Bool);first|assumption|exact beq_iff_eq.2 (by assumption))
    | (show some (CR.tv (tNN _ _))=some (CR.tv (tNN _ _));first|(have h1:=sqrt0 (a:=a) (by assumption);exact nn_eq h1)|(have h1:=sqrt1 (a:=a) (by assumption);exact nn_eq h1))
    | (show Len0 (_*_);exact len_128 (by have:=word0 (a:=a) (by assumption);show 0≤a*1073741824;omega) (by have:=word0 (a:=a) (by assumption);show a*1073741824<(_:Int);omega))
    | (show Len0 _;exact len_128 (word0 (a:=a) (by assumption)).2.1 (by have:=word0 (a:=a) (by assumption);omega))
    | (show (0:Int)≤a*2 ^ _;have:=word0 (a:=a) (by assumption);show 0≤a*1073741824;omega)
    | (show a*2 ^ _<(_:Int);have:=word0 (a:=a) (by assumption);show a*1073741824<(_:Int);omega)
    | (show (_:Int)≤a;have:=word0 (a:=a) (by assumption);omega)
    | (show a<(_:Int);have:=word0 (a:=a) (by assumption);omega)
    | (show (0:Int)≤(30:Int);decide)
    | (show (30:Int)≤(6400:Int);decide)
    | (show (0:Int)<(1:Int);decide)
    | (show (1:Int)<(18446744073709551616:Int);decide))
def cRoot:Con Try.prog:=conN 33 (fun _=>True) (fun a => .tv (tNN (rootR a).1 (rootR a).2)) ⟨_,Try.func33,by kernel_rfl,rfl⟩ (fun a w hl=>by
  refine fn_ret (cxOk Try.prog ints_ok [] [cGood,cFrom,cLeft,cOne,cNearest,cTold]) follows Try.func33 rfl 100 _ rfl (by simp) ?_ (xs:=[tN .i64 a]) (.cons rfl .nil)
  repeat' first
    | exact trivial
    | (refine And.intro (show regChk _ _ _ _ _=true from by kernel_rfl) (And.intro ?_ ?_))
    | (refine And.intro (fun hb=>?_) (fun hb'=>?_))
    | refine And.intro ?_ ?_
    | intro _
  all_goals first
    | (show (_:Int)=(_:Int);rfl)
    | (show (_:Bool)=(_:Bool);first|assumption|exact beq_iff_eq.2 (by assumption))
    | (show some (CR.tv (tNN _ _))=some (CR.tv (tNN _ _));first|(have h1:=root0 (a:=a) (by assumption);exact nn_eq h1)|(have h1:=root1 (a:=a) (by assumption);exact nn_eq h1))
    | (show Len0 (_*_);exact len_128 (by have:=word0 (a:=a) (by assumption);show 0≤a*1073741824;omega) (by have:=word0 (a:=a) (by assumption);show a*1073741824<(_:Int);omega))
    | (show Len0 _;exact len_128 (word0 (a:=a) (by assumption)).2.1 (by have:=word0 (a:=a) (by assumption);omega))
    | (show (0:Int)≤a*2 ^ _;have:=word0 (a:=a) (by assumption);show 0≤a*1073741824;omega)
    | (show a*2 ^ _<(_:Int);have:=word0 (a:=a) (by assumption);show a*1073741824<(_:Int);omega)
    | (show (_:Int)≤a;have:=word0 (a:=a) (by assumption);omega)
    | (show a<(_:Int);have:=word0 (a:=a) (by assumption);omega)
    | (show (0:Int)≤(30:Int);decide)
    | (show (30:Int)≤(6400:Int);decide)
    | (show (0:Int)<(1:Int);decide)
    | (show (1:Int)<(18446744073709551616:Int);decide))
end
end Go.Proofs.Ythokdnheijnmmaa.Wh
end
section
set_option linter.unusedVariables false
set_option linter.unusedSimpArgs false
namespace Go.Proofs.Ythokdnheijnmmaa.Wh
open Go Go.RowKit Go.Proofs.YthokdnheijnmmaaW.PrintWords Go.Proofs.YthokdnheijnmmaaW.PrintMore Go.Proofs.YthokdnheijnmmaaW.Aid Go.Proofs.YthokdnheijnmmaaW.Big Go.Proofs.YthokdnheijnmmaaW.Sx Go.Proofs.Ythokdnheijnmmaa.BitsWalk Go.Proofs.Ythokdnheijnmmaa.Limbs Go.Proofs.Ythokdnheijnmmaa.Whole Go.Proofs.Ythokdnheijnmmaa.R90 Go.Proofs.Ythokdnheijnmmaa.QN90 Go.Proofs
theorem Ret.conv {f:FuncId} {us:Array Value} {w:World} {r r':CR} (h:Ret Try.prog f us w r) (hc:∀ w' u,r.told w w' u→r'.told w w' u):Ret Try.prog f us w r' :=
  h.mono fun _ _ ⟨u,he,ht,hb⟩=>⟨u,he,hc _ _ ht,hb⟩
theorem told_made {b:Bool} {m z:Int} {w w':World} {u:Value} (h:(CR.tv (.agg [.v (.bool b),.mag m])).told w w' u) (hb:b=sgn z) (hm:lm m=lm z):(CR.tv (tI z)).told w w' u:=by
  obtain ⟨us,rfl,h⟩:=h
  cases h with
  | cons h1 h2 =>
    cases h2 with
    | cons h2 h3 =>
      cases h3
      obtain ⟨A,c,rfl,hr⟩:=h2
      refine ⟨_,rfl,.cons ?_ (.cons ⟨A,c,by rw [hm],by rw [← hm];exact hr⟩ .nil)⟩
      show _=Value.bool (sgn z)
      rw [show _=Value.bool b from h1,hb]
abbrev tMade (b:Bool) (m:Int):CR := .tv (.agg [.v (.bool b),.mag m])
theorem ncmp_ge {x y:Int} (h:decide (cmpN x.natAbs y.natAbs≥0)=true):y.natAbs≤x.natAbs:=by
  have h:=of_decide_eq_true h
  unfold cmpN at h
  split at h
  · omega
  · omega
theorem ncmp_lt {x y:Int} (h:decide (cmpN x.natAbs y.natAbs≥0)=false):x.natAbs≤y.natAbs:=by
  have h:=of_decide_eq_false h
  unfold cmpN at h
  split at h
  · omega
  · split at h<;>omega
theorem sign_p {x:Int} (h:sgn x=false) (h':decide (((lm x).length:Int)>0)=true):1=cmpI x 0:=by
  have h1:=sgn_f h
  have h2:=lm_pos.1 h'
  unfold cmpI;rw [if_neg (by omega),if_pos (by omega)]
theorem sign_z {x:Int} (h:sgn x=false) (h':decide (((lm x).length:Int)>0)=false):0=cmpI x 0:=by
  have h1:=sgn_f h
  have h2:x=0:=by
    by_cases hz:x=0
    · exact hz
    · rw [lm_pos.2 hz] at h';cases h'
  unfold cmpI;rw [if_neg (by omega),if_neg (by omega)]
theorem cmp_sub (x y:Int):cmpI (x-y) 0=cmpI x y:=by
  unfold cmpI
  by_cases h:x<y
  · rw [if_pos (by omega),if_pos h]
  · rw [if_neg (by omega),if_neg h]
    by_cases h2:y<x
    · rw [if_pos (by omega),if_pos h2]
    · rw [if_neg (by omega),if_neg h2]
section
set_option maxRecDepth 100000
set_option maxHeartbeats 1000000
def rMade:Con Try.prog:=conOf 64 (fun b m => .tv (tI (ofS b m))) ⟨_,Try.func64,by kernel_rfl,rfl⟩ (fun b m A c w hr=>by
  refine Ret.conv (r:=tMade (bif b then decide (((lm (m:Int)).length:Int)>0) else false) (m:Int)) ?_ (fun w' u h=>told_made h ?_ (by rw [lm_ofS,lm_nat]))
  · refine fn_ret (cxOk Try.prog intsR_ok [] refK) follows Try.func64 rfl 100 _ rfl (by simp) ?_ (xs:=[tB b,tM m]) (.cons rfl (.cons ⟨A,c,by rw [lm_nat],by rw [lm_nat];exact hr⟩ .nil))
    repeat' first
      | exact trivial
      | (refine And.intro (show regChk _ _ _ _ _=true from by kernel_rfl) (And.intro ?_ ?_))
      | (refine And.intro (fun hb=>?_) (fun hb'=>?_))
      | refine And.intro ?_ ?_
      | intro _
    all_goals first
      | assumption
      | exact beq_iff_eq.2 (by assumption)
      | (show some (CR.tv _)=some (CR.tv _);rfl)
      -- PVC
  · rw [sgn_ofS,lm_nat]
    cases b
    · rfl
    · rw [Bool.true_and,Bool.eq_iff_iff]
      simp only [cond_true,decide_eq_true_eq]
      omega)
def rSize:Con Try.prog:=conN 67 I64 (fun n => .tv (tN .u64 n.natAbs)) ⟨_,Try.func67,by kernel_rfl,rfl⟩ (fun n w hl=>by
  refine fn_ret (cxOk Try.prog intsR_ok [] refK) follows Try.func67 rfl 100 _ rfl (by simp) ?_ (xs:=[tN .i64 n]) (.cons rfl .nil)
  repeat' first
    | exact trivial
    | (refine And.intro (show regChk _ _ _ _ _=true from by kernel_rfl) (And.intro ?_ ?_))
    | (refine And.intro (fun hb=>?_) (fun hb'=>?_))
    | refine And.intro ?_ ?_
    | intro _
  all_goals first
    | (show some (CR.tv (tN _ _))=some (CR.tv (tN _ _));refine tN_eq ?_;rw [u64_wrap];(try rw [u64_wrap]);have:=hl;unfold I64 at this;(first|(have h0:n<0:=of_decide_eq_true (by assumption);omega)|(have h0:¬ n<0:=of_decide_eq_false (by assumption);omega)))
    -- PVC
  )
def rFrom:Con Try.prog:=conN 36 I64 (fun n => .tv (tI n)) ⟨_,Try.func36,by kernel_rfl,rfl⟩ (fun n w hl=>by
  have hl1 : -9223372036854775808≤n∧n<9223372036854775808:=hl
  refine fn_ret (cxOk Try.prog intsR_ok [] [rMade,rSize,cNOf]) follows Try.func36 rfl 100 _ rfl (by simp) ?_ (xs:=[tN .i64 n]) (.cons rfl .nil)
  repeat' first
    | exact trivial
    | (refine And.intro (show regChk _ _ _ _ _=true from by kernel_rfl) (And.intro ?_ ?_))
    | (refine And.intro (fun hb=>?_) (fun hb'=>?_))
    | refine And.intro ?_ ?_
    | intro _
  all_goals first
    | (show (_:Int)=(_:Int);rfl)
    | (show (_:Bool)=(_:Bool);first|assumption|exact beq_iff_eq.2 (by assumption)|exact g2 (by assumption) (by assumption))
    | (with_reducible exact hl1.1)
    | (with_reducible exact hl1.2)
    | (with_reducible exact Int.natCast_nonneg _)
    | (show ((n.natAbs:Nat):Int)<_;have:=hl;unfold I64 at this;omega)
    | (show some (CR.tv (tI _))=some (CR.tv (tI _));(refine wh_eq ?_;show ofS (decide (n<0)) n.natAbs=n;unfold ofS;split<;>simp_all<;>omega))
    -- PVC
  )
def rSign:Con Try.prog:=con1 63 (fun _=>True) (fun x => .tv (tN .i64 (cmpI x 0))) ⟨_,Try.func63,by kernel_rfl,rfl⟩ (fun x A c w hl hr=>by
  refine fn_ret (cxOk Try.prog intsR_ok [] []) follows Try.func63 rfl 100 _ rfl (by simp) ?_ (args1 hr)
  repeat' first
    | exact trivial
    | (refine And.intro (show regChk _ _ _ _ _=true from by kernel_rfl) (And.intro ?_ ?_))
    | (refine And.intro (fun hb=>?_) (fun hb'=>?_))
    | refine And.intro ?_ ?_
    | intro _
  all_goals first
    | (show (_:Int)=(_:Int);rfl)
    | (show (_:Bool)=(_:Bool);first|assumption|exact beq_iff_eq.2 (by assumption)|exact g2 (by assumption) (by assumption))
    | (show some (CR.tv (tN _ _))=some (CR.tv (tN _ _));first|exact tN_eq (cmpI_np (sgn_t (by assumption)) (Int.le_refl 0))|exact tN_eq (sign_p (by assumption) (by assumption))|exact tN_eq (sign_z (by assumption) (by assumption)))
    -- PVC
  )
def rNeg:Con Try.prog:=con1 72 (fun _=>True) (fun x => .tv (tI (-x))) ⟨_,Try.func72,by kernel_rfl,rfl⟩ (fun x A c w hl hr=>by
  refine fn_ret (cxOk Try.prog intsR_ok [] [rMade]) follows Try.func72 rfl 100 _ rfl (by simp) ?_ (args1 hr)
  repeat' first
    | exact trivial
    | (refine And.intro (show regChk _ _ _ _ _=true from by kernel_rfl) (And.intro ?_ ?_))
    | (refine And.intro (fun hb=>?_) (fun hb'=>?_))
    | refine And.intro ?_ ?_
    | intro _
  all_goals first
    | (show (_:Int)=(_:Int);rfl)
    | (show (_:Bool)=(_:Bool);first|assumption|exact beq_iff_eq.2 (by assumption)|exact g2 (by assumption) (by assumption))
    | (show some (CR.tv (tI _))=some (CR.tv (tI _));exact wh_eq (ofS_neg' x))
    -- PVC
  )
def rPlus:Con Try.prog:=con2 37 (fun x y=>BI 20000 x∧BI 20000 y) (fun x y => .tv (tI (x+y))) ⟨_,Try.func37,by kernel_rfl,rfl⟩ (fun x y A A' c c' w hl hr hr'=>by
  refine fn_ret (cxOk Try.prog intsR_ok [] [rMade,cNPlus,cNLess,cNCmp]) follows Try.func37 rfl 100 _ rfl (by simp) ?_ (args2 hr hr')
  repeat' first
    | exact trivial
    | (refine And.intro (show regChk _ _ _ _ _=true from by kernel_rfl) (And.intro ?_ ?_))
    | (refine And.intro (fun hb=>?_) (fun hb'=>?_))
    | refine And.intro ?_ ?_
    | intro _
  all_goals first
    | (show (_:Int)=(_:Int);rfl)
    | (show (_:Bool)=(_:Bool);first|assumption|exact beq_iff_eq.2 (by assumption)|exact g2 (by assumption) (by assumption))
    | exact hl.1
    | exact hl.2
    | (show (_:Nat)≤(_:Nat);first|exact ncmp_ge (by assumption)|exact ncmp_lt (by assumption))
    | (show some (CR.tv (tI _))=some (CR.tv (tI _));(first|exact wh_eq (ofS_add' (by assumption))|exact wh_eq (ofS_sub' (by assumption) (ncmp_ge (by assumption)))|exact wh_eq ((ofS_sub' (x:=y) (y:=x) (by rw [show (sgn y == sgn x)=(sgn x == sgn y) from Bool.beq_comm];assumption) (ncmp_lt (by assumption))).trans (Int.add_comm _ _))))
    -- PVC
  )
def rLess:Con Try.prog:=con2 39 (fun x y=>BI 20000 x∧BI 20000 y) (fun x y => .tv (tI (x-y))) ⟨_,Try.func39,by kernel_rfl,rfl⟩ (fun x y A A' c c' w hl hr hr'=>by
  refine fn_ret (cxOk Try.prog intsR_ok [] [rPlus,rNeg]) follows Try.func39 rfl 100 _ rfl (by simp) ?_ (args2 hr hr')
  repeat' first
    | exact trivial
    | (refine And.intro (show regChk _ _ _ _ _=true from by kernel_rfl) (And.intro ?_ ?_))
    | (refine And.intro (fun hb=>?_) (fun hb'=>?_))
    | refine And.intro ?_ ?_
    | intro _
  all_goals first
    | (show (_:Int)=(_:Int);rfl)
    | (show (_:Bool)=(_:Bool);first|assumption|exact beq_iff_eq.2 (by assumption)|exact g2 (by assumption) (by assumption))
    | exact hl.1
    | (show BI 20000 (-y);exact hl.2.neg)
    | (show some (CR.tv (tI _))=some (CR.tv (tI _));exact wh_eq (by omega))
    -- PVC
  )
def rTimes:Con Try.prog:=con2 35 (fun x y=>BI 20000 x∧BI 20000 y) (fun x y => .tv (tI (x*y))) ⟨_,Try.func35,by kernel_rfl,rfl⟩ (fun x y A A' c c' w hl hr hr'=>by
  refine fn_ret (cxOk Try.prog intsR_ok [] [rMade,cNTimes]) follows Try.func35 rfl 100 _ rfl (by simp) ?_ (args2 hr hr')
  repeat' first
    | exact trivial
    | (refine And.intro (show regChk _ _ _ _ _=true from by kernel_rfl) (And.intro ?_ ?_))
    | (refine And.intro (fun hb=>?_) (fun hb'=>?_))
    | refine And.intro ?_ ?_
    | intro _
  all_goals first
    | (show (_:Int)=(_:Int);rfl)
    | (show (_:Bool)=(_:Bool);first|assumption|exact beq_iff_eq.2 (by assumption)|exact g2 (by assumption) (by assumption))
    | exact hl.1
    | exact hl.2
    | (show some (CR.tv (tI _))=some (CR.tv (tI _));exact wh_eq (ofS_prod' x y))
    -- PVC
  )
def rCmp:Con Try.prog:=con2 34 (fun x y=>BI 20000 x∧BI 20000 y) (fun x y => .tv (tN .i64 (cmpI x y))) ⟨_,Try.func34,by kernel_rfl,rfl⟩ (fun x y A A' c c' w hl hr hr'=>by
  refine fn_ret (cxOk Try.prog intsR_ok [] [rSign,rLess]) follows Try.func34 rfl 100 _ rfl (by simp) ?_ (args2 hr hr')
  repeat' first
    | exact trivial
    | (refine And.intro (show regChk _ _ _ _ _=true from by kernel_rfl) (And.intro ?_ ?_))
    | (refine And.intro (fun hb=>?_) (fun hb'=>?_))
    | refine And.intro ?_ ?_
    | intro _
  all_goals first
    | (show (_:Int)=(_:Int);rfl)
    | (show (_:Bool)=(_:Bool);first|assumption|exact beq_iff_eq.2 (by assumption)|exact g2 (by assumption) (by assumption))
    | exact hl.1
    | exact hl.2
    | (show some (CR.tv (tN _ _))=some (CR.tv (tN _ _));exact tN_eq (cmp_sub x y))
    -- PVC
  )
def rLeft:Con Try.prog:=con1n 38 (fun x n=>BI 20000 x∧0≤n∧n≤6400) (fun x n => .tv (tI (x*2 ^ n.toNat))) ⟨_,Try.func38,by kernel_rfl,rfl⟩ (fun x n A c w hl hr=>by
  have e:=ofS_mul' x (2 ^ n.toNat)
  rw [Int.natCast_pow] at e
  refine fn_ret (cxOk Try.prog intsR_ok [] [rMade,cUp2]) follows Try.func38 rfl 100 _ rfl (by simp) ?_ (args1n hr)
  repeat' first
    | exact trivial
    | (refine And.intro (show regChk _ _ _ _ _=true from by kernel_rfl) (And.intro ?_ ?_))
    | (refine And.intro (fun hb=>?_) (fun hb'=>?_))
    | refine And.intro ?_ ?_
    | intro _
  all_goals first
    | (show (_:Int)=(_:Int);rfl)
    | (show (_:Bool)=(_:Bool);first|assumption|exact beq_iff_eq.2 (by assumption)|exact g2 (by assumption) (by assumption))
    | exact hl.1
    | exact hl.2.1
    | exact hl.2.2
    | (show some (CR.tv (tI _))=some (CR.tv (tI _));exact wh_eq e)
    -- PVC
  )
end
end Go.Proofs.Ythokdnheijnmmaa.Wh
end
section
set_option linter.unusedVariables false
set_option linter.unusedSimpArgs false
namespace Go.Proofs.Ythokdnheijnmmaa.Wh
open Go Go.RowKit Go.Proofs.YthokdnheijnmmaaW.PrintWords Go.Proofs.YthokdnheijnmmaaW.PrintMore Go.Proofs.YthokdnheijnmmaaW.Aid Go.Proofs.YthokdnheijnmmaaW.Big Go.Proofs.YthokdnheijnmmaaW.Sx Go.Proofs.Ythokdnheijnmmaa.BitsWalk Go.Proofs.Ythokdnheijnmmaa.Limbs Go.Proofs.Ythokdnheijnmmaa.Whole Go.Proofs.Ythokdnheijnmmaa.R90 Go.Proofs.Ythokdnheijnmmaa.QN90 Go.Proofs.Ythokdnheijnmmaa.FxWalk Go.Proofs
theorem cmpI_zero {x y:Int}:cmpI x y=0↔x=y:=by
  unfold cmpI
  split
  · constructor<;>intro h<;>omega
  · split
    · constructor<;>intro h<;>omega
    · constructor<;>intro h<;>omega
theorem may_eq (v:Int):(bif decide (v > -35184372088832) then decide (v<35184372088832) else false)=wd v:=by
  rw [Bool.eq_iff_iff,wd_iff]
  by_cases h:v > -35184372088832
  · rw [decide_eq_true h];simp;omega
  · rw [decide_eq_false h];simp;omega
section
set_option maxRecDepth 100000
set_option maxHeartbeats 1000000
def rPow:Con Try.prog where
  f:=93
  sem:=fun xs=>match xs with
    | [.agg [.neg x,.mag x'],.sc (.v (.int .i64 n))]=>some (x'=x∧n=2∧BI 5000 x,.tv (tI (x*x)))
    | _=>none
  ok := by
    intro xs p r' h hp
    refine ⟨⟨_,Try.func93,by kernel_rfl,rfl⟩,fun us w ha=>?_⟩
    split at h
    · rename_i x x' n
      cases h
      obtain ⟨rfl,rfl,hx⟩:=hp
      refine fn_ret (cxOk Try.prog intsR_ok [] [rFrom,rTimes]) follows Try.func93 rfl 100 _ rfl (by simp) ?_ ha
      repeat' first
        | exact trivial
        | (refine And.intro (show regChk _ _ _ _ _=true from by kernel_rfl) (And.intro ?_ ?_))
        | (refine And.intro (fun _=>?_) (fun h=>absurd (show true=false from h) (by decide)))
        | (refine And.intro (fun h=>absurd (show false=true from h) (by decide)) (fun _=>?_))
        | (refine And.intro (fun hb=>?_) (fun hb'=>?_))
        | refine And.intro ?_ ?_
        | intro _
      all_goals first
        | (show (_:Int)=(_:Int);rfl)
        | (show (_:Bool)=(_:Bool);first|assumption|exact beq_iff_eq.2 (by assumption)|exact g2 (by assumption) (by assumption))
        | (show BI 20000 _;first|exact hx.mono (by decide)|exact BI.one.mono (by decide)|exact BI.mul (e:=1) (f:=5000) BI.one hx (by decide))
        | (show (-9223372036854775808:Int)≤1;decide)
        | (show (1:Int)<9223372036854775808;decide)
        | (show some (CR.tv (tI _))=some (CR.tv (tI _));exact wh_eq (by rw [Int.one_mul]))
        -- PVC
    · cases h
def gMay:Con Try.prog where
  f:=14
  sem:=fun xs=>match xs with
    | [.sc (.v (.int .i64 v))]=>some (True,.tv (tB (wd v)))
    | _=>none
  ok := by
    intro xs p r' h hp
    refine ⟨⟨_,Try.func14,by kernel_rfl,rfl⟩,fun us w ha=>?_⟩
    split at h
    · rename_i v
      cases h
      refine fn_ret (cxOk Try.prog intsR_ok [] []) follows Try.func14 rfl 100 _ rfl (by simp) ?_ ha
      repeat' first
        | exact trivial
        | (refine And.intro (show regChk _ _ _ _ _=true from by kernel_rfl) (And.intro ?_ ?_))
        | (refine And.intro (fun _=>?_) (fun h=>absurd (show true=false from h) (by decide)))
        | (refine And.intro (fun h=>absurd (show false=true from h) (by decide)) (fun _=>?_))
        | (refine And.intro (fun hb=>?_) (fun hb'=>?_))
        | refine And.intro ?_ ?_
        | intro _
      all_goals first
        | (show (_:Int)=(_:Int);rfl)
        | (show (_:Bool)=(_:Bool);first|assumption|exact beq_iff_eq.2 (by assumption)|exact g2 (by assumption) (by assumption))
        | (show some (CR.tv (tB _))=some (CR.tv (tB _));exact tB_eq (may_eq v))
        -- PVC
    · cases h
end
end Go.Proofs.Ythokdnheijnmmaa.Wh
end
section
set_option linter.unusedVariables false
set_option linter.unusedSimpArgs false
namespace Go.Proofs.Ythokdnheijnmmaa.Wh
open Go Go.RowKit Go.Proofs.YthokdnheijnmmaaW.PrintWords Go.Proofs.YthokdnheijnmmaaW.PrintMore Go.Proofs.YthokdnheijnmmaaW.Aid Go.Proofs.YthokdnheijnmmaaW.Big Go.Proofs.YthokdnheijnmmaaW.Sx Go.Proofs.Ythokdnheijnmmaa.BitsWalk Go.Proofs.Ythokdnheijnmmaa.Limbs Go.Proofs.Ythokdnheijnmmaa.Whole Go.Proofs.Ythokdnheijnmmaa.FxWalk Go.Proofs
def addR (a b:Int):Int × Int:=if (wd a&&wd b)=true then toldR (a+b) else (0,1)
def subR (a b:Int):Int × Int:=if (wd a&&wd b)=true then toldR (a-b) else (0,1)
def mulR (a b:Int):Int × Int:=if (wd a&&wd b)=true then toldR (roundP (a*b) 1073741824) else (0,1)
theorem word_told (x:Int):wordR x=toldR x:=by unfold wordR toldR;cases wd x<;>rfl
theorem Ret.pair {f:FuncId} {us:Array Value} {w:World} {p:Int × Int} (h:Calls Try.prog f us w fun e w'=>e = .returned (.tuple #[.int .i64 p.1,.int .i64 p.2])∧Below w.heap.size w w'):Ret Try.prog f us w (.tv (tNN p.1 p.2)) :=
  h.mono fun _ _ ⟨he,hb⟩=>⟨_,he,⟨[_,_],rfl,.cons ⟨_,rfl,rfl⟩ (.cons ⟨_,rfl,rfl⟩ .nil)⟩,hb⟩
section
set_option maxRecDepth 100000
set_option maxHeartbeats 1000000
def cFAdd:Con Try.prog:=conNN 20 (fun _ _=>True) (fun a b => .tv (tNN (addR a b).1 (addR a b).2)) ⟨_,Try.func20,by kernel_rfl,rfl⟩ (fun a b w _=>by
  refine Ret.pair ?_
  cases hw:(wd a&&wd b) with
  | true =>
    have h2:=hw
    rw [Bool.and_eq_true] at h2
    have:=add_yes a b w h2.1 h2.2
    rw [word_told] at this
    rw [show addR a b=_ from if_pos hw]
    exact this
  | false =>
    rw [show addR a b=_ from if_neg (by rw [hw];decide)]
    exact add_no a b w hw)
def cFSub:Con Try.prog:=conNN 21 (fun _ _=>True) (fun a b => .tv (tNN (subR a b).1 (subR a b).2)) ⟨_,Try.func21,by kernel_rfl,rfl⟩ (fun a b w _=>by
  refine Ret.pair ?_
  cases hw:(wd a&&wd b) with
  | true =>
    have h2:=hw
    rw [Bool.and_eq_true] at h2
    have:=sub_yes a b w h2.1 h2.2
    rw [word_told] at this
    rw [show subR a b=_ from if_pos hw]
    exact this
  | false =>
    rw [show subR a b=_ from if_neg (by rw [hw];decide)]
    exact sub_no a b w hw)
def cFMul:Con Try.prog:=conNN 13 (fun _ _=>True) (fun a b => .tv (tNN (mulR a b).1 (mulR a b).2)) ⟨_,Try.func13,by kernel_rfl,rfl⟩ (fun a b w _=>by
  refine Ret.pair ?_
  cases hw:(wd a&&wd b) with
  | true =>
    have h2:=hw
    rw [Bool.and_eq_true] at h2
    have:=mul_yes a b w h2.1 h2.2
    rw [timesR_eq] at this
    rw [show mulR a b=_ from if_pos hw]
    exact this
  | false =>
    rw [show mulR a b=_ from if_neg (by rw [hw];decide)]
    exact mul_no a b w hw)
def cNum:Con Try.prog:=conN 19 (fun _=>True) (fun a => .tv (tN .i64 a)) ⟨_,Try.func19,by kernel_rfl,rfl⟩ (fun a w hl=>by
  refine fn_ret (cxOk Try.prog ints_ok [] []) follows Try.func19 rfl 100 _ rfl (by simp) ?_ (xs:=[tN .i64 a]) (.cons rfl .nil)
  repeat' first
    | exact trivial
    | (refine And.intro (show regChk _ _ _ _ _=true from by kernel_rfl) (And.intro ?_ ?_))
    | (refine And.intro (fun _=>?_) (fun h=>absurd (show true=false from h) (by decide)))
    | (refine And.intro (fun h=>absurd (show false=true from h) (by decide)) (fun _=>?_))
    | (refine And.intro (fun hb=>?_) (fun hb'=>?_))
    | refine And.intro ?_ ?_
    | intro _
  all_goals first
    | (show some (CR.tv (tN _ _))=some (CR.tv (tN _ _));rfl)
    -- PVC
  )
end
end Go.Proofs.Ythokdnheijnmmaa.Wh
end
section
set_option linter.unusedVariables false
set_option linter.unusedSimpArgs false
namespace Go.Proofs.Ythokdnheijnmmaa.Wh
open Go Go.RowKit Go.Proofs.YthokdnheijnmmaaW.PrintWords Go.Proofs.YthokdnheijnmmaaW.PrintMore Go.Proofs.YthokdnheijnmmaaW.Aid Go.Proofs.YthokdnheijnmmaaW.Big Go.Proofs.YthokdnheijnmmaaW.Sx Go.Proofs.Ythokdnheijnmmaa.BitsWalk Go.Proofs.Ythokdnheijnmmaa.Limbs Go.Proofs.Ythokdnheijnmmaa.Whole Go.Proofs.Ythokdnheijnmmaa.FxWalk Go.Proofs
abbrev In64 (g:Nat→Int):Prop:=∀ j,-9223372036854775808≤g j∧g j<9223372036854775808
abbrev row6 (a b c d e f:Nat→Int):Nat→List A0:=fun j=>[.v (.int .i64 (a j)),.v (.int .i64 (b j)),.v (.int .i64 (c j)),.v (.int .i64 (d j)),.v (.int .i64 (e j)),.v (.int .i64 (f j))]
def lawL (m n:Nat) (r:Nat→List A0) (q:Nat):LI Int where
  gs:=fun i=>[(0,.rowF n m r),(q,tB false),(q+1,tN .i64 i)]
  bs:=fun i=>[]
  I:=fun i=>0≤i∧i≤(n:Int)
  μ:=fun i=>((n:Int)-i).toNat
theorem wrap1 {i:Int} (h0:0≤i) (h:i≤100000000000000000):IntKind.i64.wrap (i+1)=i+1:=by rw [i64_wrap];exact wrap64_id (by omega) (by omega)
section
set_option maxRecDepth 100000
set_option maxHeartbeats 4000000
def cWakes:Con Try.prog:=con0 17 (.tv (tB true)) ⟨_,Try.func17,by kernel_rfl,rfl⟩ (fun w=>by
  refine fn_ret (cxOk Try.prog ints_ok [] [cFMul,cNum]) follows Try.func17 rfl 100 _ rfl (by simp) ?_ (xs:=[]) .nil
  repeat' first
    | exact trivial
    | (refine And.intro (show regChk _ _ _ _ _=true from by kernel_rfl) (And.intro ?_ ?_))
    | (refine And.intro (fun _=>?_) (fun h=>absurd (show true=false from h) (by decide)))
    | (refine And.intro (fun h=>absurd (show false=true from h) (by decide)) (fun _=>?_))
    | (refine And.intro (fun hb=>?_) (fun hb'=>?_))
    | refine And.intro ?_ ?_
    | intro _
  all_goals first
    | (show (_:Bool)=(_:Bool);first|assumption|exact beq_iff_eq.2 (by assumption))
    | (show some (CR.tv (tB _))=some (CR.tv (tB true));exact tB_eq (by decide +kernel))
    -- PVC
  )
theorem no {c:Bool} (h:c=false) (hb:c=true):False:=by rw [h] at hb;exact absurd hb (by decide)
theorem wrapn {a:Int} (h:wd a=true):IntKind.i64.wrap (0-a) = -a:=by
  have:=wd_iff.1 h
  rw [i64_wrap,Int.zero_sub];exact wrap64_id (by omega) (by omega)
theorem hC1 {v:Int} {n:Nat} (h:(bif decide (v<(n:Int)) then decide (v<30) else false)=true):v<n∧v<30:=by
  by_cases h1:v<(n:Int)
  · rw [decide_eq_true h1] at h;exact ⟨h1,of_decide_eq_true h⟩
  · rw [decide_eq_false h1] at h;exact absurd (show false=true from h) (by decide)
theorem stepL {m n q:Nat} {r:Nat→List A0} {v:Int} (hv:(lawL m n r q).I v) (hC:(bif decide (v<(n:Int)) then decide (v<30) else false)=true):(lawL m n r q).μ (IntKind.i64.wrap (v+1))<(lawL m n r q).μ v∧(lawL m n r q).I (IntKind.i64.wrap (v+1)):=by
  have h1:=hC1 hC
  have h0:0≤v∧v≤(n:Int):=hv
  rw [wrap1 h0.1 (by omega)]
  exact ⟨show ((n:Int)-(v+1)).toNat<((n:Int)-v).toNat by omega,show 0≤v+1∧v+1≤(n:Int) by omega⟩
end
end Go.Proofs.Ythokdnheijnmmaa.Wh
end
section
namespace Go.Proofs.Ythokdnheijnmmaa.QFxE
open Go.RowKit Go.Proofs.YthokdnheijnmmaaW.PrintWords Go.Proofs.YthokdnheijnmmaaW.PrintLast Go.Proofs.YthokdnheijnmmaaW.PrintMore
attribute [local go_sem] max2_int min2_int max_two min_two max_three min_three max_four min_four   -- for this text's walks alone
set_option linter.unusedVariables false
set_option linter.unusedSimpArgs false
structure S24 where
  f0:Int
  f1:Int
  f2:Int
  f3:Int
  f4:Int
  f5:Int
def z24:S24:=⟨(0:Int),(0:Int),(0:Int),(0:Int),(0:Int),(0:Int)⟩
def k24:Kd S24:=Kd.iso (Kd.pair (Kd.int .i64) (Kd.pair (Kd.int .i64) (Kd.pair (Kd.int .i64) (Kd.pair (Kd.int .i64) (Kd.pair (Kd.int .i64) (Kd.int .i64)))))) (fun x:S24=>(x.f0,x.f1,x.f2,x.f3,x.f4,x.f5))
theorem k24_open {w:World} {x:S24} {cs:List Value} (h:k24.K w x cs):cs=[.int .i64 x.f0,.int .i64 x.f1,.int .i64 x.f2,.int .i64 x.f3,.int .i64 x.f4,.int .i64 x.f5]:=by
  obtain ⟨_,_,rfl,rfl,⟨_,_,rfl,rfl,⟨_,_,rfl,rfl,⟨_,_,rfl,rfl,⟨_,_,rfl,rfl,rfl⟩⟩⟩⟩⟩:=h
  exact rfl
end Go.Proofs.Ythokdnheijnmmaa.QFxE
end
section
set_option linter.unusedVariables false
set_option linter.unusedSimpArgs false
namespace Go.Proofs.Ythokdnheijnmmaa.Wh
open Go Go.RowKit Go.Proofs.Ythokdnheijnmmaa.QFxE Go.Proofs.YthokdnheijnmmaaW.PrintWords Go.Proofs.YthokdnheijnmmaaW.PrintMore Go.Proofs.YthokdnheijnmmaaW.Aid Go.Proofs.YthokdnheijnmmaaW.Big Go.Proofs.YthokdnheijnmmaaW.Sx Go.Proofs
def G24 (x:S24):Prop:=(fun n=>(Lit.int .i64 n).wf=true) x.f0∧(fun n=>(Lit.int .i64 n).wf=true) x.f1∧(fun n=>(Lit.int .i64 n).wf=true) x.f2∧(fun n=>(Lit.int .i64 n).wf=true) x.f3∧(fun n=>(Lit.int .i64 n).wf=true) x.f4∧(fun n=>(Lit.int .i64 n).wf=true) x.f5
abbrev at24 (l:List S24) (j:Nat):S24:=l.getD j z24
theorem at24_g {l:List S24} (h:∀ x∈l,G24 x) (j:Nat):G24 (at24 l j):=by
  unfold at24;rw [List.getD_eq_getElem?_getD]
  cases e:l[j]? with
  | none=>exact ⟨rfl,rfl,rfl,rfl,rfl,rfl⟩
  | some x=>exact h x (List.mem_of_getElem? e)
theorem i64w {n:Int} (h:(Lit.int .i64 n).wf=true) : -9223372036854775808≤n∧n<9223372036854775808:=by
  have h1:=wf_i64 h
  omega
abbrev rows24 (l:List S24):Nat→List A0:=row6 (fun j=>(at24 l j).f0) (fun j=>(at24 l j).f1) (fun j=>(at24 l j).f2) (fun j=>(at24 l j).f3) (fun j=>(at24 l j).f4) (fun j=>(at24 l j).f5)
theorem reads24 {w:World} {A:Option Addr} {c:Nat} {l:List S24} (hC:Kd.C k24 w A l.length l) (hle:l.length≤c) {β:Nat→Nat}:TV.reads β w.heap.size w (.rowF l.length 6 (rows24 l)) (.slice A l.length c):=by
  refine ⟨A,c,rfl,hle,fun h0=>?_⟩
  obtain ⟨ad,cs,e,_,hK,hc⟩:=Kd.C_get hC z24 0 (Int.le_refl _) (by omega)
  have hb:ad.block<w.heap.size:=by
    obtain rfl:=k24_open hK
    have:=World.block_lt_of_cell? w _ (hc 0 _ rfl)
    exact this
  refine ⟨ad,e,hb,fun i hi=>?_⟩
  obtain ⟨ad',cs',e',_,hK',hc'⟩:=Kd.C_get hC z24 i (Int.natCast_nonneg _) (by omega)
  obtain rfl:ad'=ad:=by rw [e] at e';exact (Option.some.inj e').symm
  obtain rfl:=k24_open hK'
  intro j q hj
  have key:∀ u,([.int .i64 (l.getD (Int.toNat (i:Int)) z24).f0,.int .i64 (l.getD (Int.toNat (i:Int)) z24).f1,.int .i64 (l.getD (Int.toNat (i:Int)) z24).f2,.int .i64 (l.getD (Int.toNat (i:Int)) z24).f3,.int .i64 (l.getD (Int.toNat (i:Int)) z24).f4,.int .i64 (l.getD (Int.toNat (i:Int)) z24).f5]:List Value)[j]?=some u→q = .v u→∃ x,w.cell? ((ad'.add (i*6)).add j)=some x∧q.reads w x:=by
    intro u hu hq
    subst hq
    refine ⟨u,?_,rfl⟩
    have h1:w.cell? (ad'.add (i*6+j))=some u:=hc' j u hu
    rw [Addr.add_add];exact h1
  match j,hj with
  | 0,hj=>exact key _ rfl (Option.some.inj hj).symm
  | 1,hj=>exact key _ rfl (Option.some.inj hj).symm
  | 2,hj=>exact key _ rfl (Option.some.inj hj).symm
  | 3,hj=>exact key _ rfl (Option.some.inj hj).symm
  | 4,hj=>exact key _ rfl (Option.some.inj hj).symm
  | 5,hj=>exact key _ rfl (Option.some.inj hj).symm
theorem args24 {w:World} {A:Option Addr} {c:Nat} {l:List S24} (hC:Kd.C k24 w A l.length l) (hle:l.length≤c):All2 (TV.reads (fun _=>0) w.heap.size w) [.rowF l.length 6 (rows24 l)] [.slice A l.length c] := .cons (reads24 hC hle) .nil
end Go.Proofs.Ythokdnheijnmmaa.Wh
end
section
set_option linter.unusedVariables false
set_option linter.unusedSimpArgs false
namespace Go.Proofs.Ythokdnheijnmmaa.Wh
open Go Go.RowKit Go.Proofs.YthokdnheijnmmaaW.PrintWords Go.Proofs.YthokdnheijnmmaaW.PrintMore Go.Proofs.YthokdnheijnmmaaW.Aid Go.Proofs.YthokdnheijnmmaaW.Big Go.Proofs.YthokdnheijnmmaaW.Sx Go.Proofs.Ythokdnheijnmmaa.BitsWalk Go.Proofs.Ythokdnheijnmmaa.Limbs Go.Proofs.Ythokdnheijnmmaa.Whole Go.Proofs.Ythokdnheijnmmaa.FxWalk Go.Proofs
abbrev absm (x:Int):Int:=if IntKind.i64.wrap (0-x)>x then IntKind.i64.wrap (0-x) else x
theorem wrap_r (x:Int) : -9223372036854775808≤IntKind.i64.wrap x∧IntKind.i64.wrap x<9223372036854775808:=by
  rw [i64_wrap];unfold wrap64;omega
theorem absm_i64 {x:Int} (h : -9223372036854775808≤x∧x<9223372036854775808) : -9223372036854775808≤absm x∧absm x<9223372036854775808:=by
  unfold absm;split
  · exact wrap_r _
  · exact h
theorem absm_wd {x:Int} (h:wd x=true):wd (absm x)=true∧0≤absm x:=by
  unfold absm;rw [wrapn h]
  have:=wd_iff.1 h
  split
  · exact ⟨wd_iff.2 (by omega),by omega⟩
  · exact ⟨h,by omega⟩
theorem told_i64 (x:Int) : -35184372088832<(toldR x).1∧(toldR x).1<35184372088832:=by
  unfold toldR;split
  · exact wd_iff.1 (by assumption)
  · exact ⟨by decide,by decide⟩
theorem sqrt_i64 (x:Int) : -35184372088832<(sqrtR x).1∧(sqrtR x).1<35184372088832:=by
  unfold sqrtR;split
  · exact told_i64 _
  · exact ⟨by decide,by decide⟩
theorem root_i64 (x:Int) : -35184372088832<(rootR x).1∧(rootR x).1<35184372088832:=by
  unfold rootR;split
  · exact told_i64 _
  · exact ⟨by decide,by decide⟩
theorem roundP_cancel (a:Int) {d:Int} (hd:0<d):roundP (a*d) d=a:=by
  unfold roundP;rw [Int.mul_emod_left,Int.mul_ediv_cancel a (by omega),if_neg (by omega)]
theorem mul_one' {a:Int} (h:wd a=true):mulR a 1073741824=(a,0):=by
  unfold mulR;rw [if_pos (by rw [h];decide),roundP_cancel a (by decide),told_wd h]
theorem div_one' {a:Int} (h:wd a=true):divR a 1073741824=(a,0):=by
  unfold divR overR ratioR;rw [if_pos (by rw [h];decide),if_neg (by decide),roundI_pos (by decide),roundP_cancel a (by decide),told_wd h]
theorem mulR_comm (a b:Int):mulR a b=mulR b a:=by unfold mulR;rw [Bool.and_comm,Int.mul_comm]
theorem add_back {a b:Int} (h:wd a=true) (h2:wd b=true) (he:(addR a b).2=0):subR (addR a b).1 b=(a,0):=by
  have e:addR a b=toldR (a+b):=if_pos (by rw [h,h2];rfl)
  rw [e] at he ⊢
  have hw:wd (a+b)=true:=by
    cases hx:wd (a+b) with
    | true=>rfl
    | false=>unfold toldR at he;rw [if_neg (by rw [hx];decide)] at he;exact absurd he (by decide)
  rw [told_wd hw]
  unfold subR;rw [if_pos (by rw [hw,h2];rfl),Int.add_sub_cancel,told_wd h]
theorem sq_word' {a:Int} (hw:wd a=true) (h0:0≤a):sqrtR a=(isq a,0)∧0≤isq a∧isq a≤8388608∧isq a*isq a≤a∧a<(isq a+1)*(isq a+1):=by
  obtain ⟨h1,h2,h3⟩:=isq_spec h0
  have hb:=(wd_iff.1 hw).2
  have h4:=sq_lt (a:=isq a) (b:=8388609) h1 (by decide) (by omega)
  have e:sqrtR a=toldR (isq a):=by unfold sqrtR;rw [if_pos ⟨hw,h0⟩]
  refine ⟨?_,h1,by omega,h2,h3⟩
  rw [e]
  unfold toldR
  rw [if_pos (wd_iff.2 (by omega))]
theorem nearB_yes {m s:Int} (h:nearB m 1 s=true):(2*s+1)*(2*s+1)≤4*m:=by
  have e1:(s*2 ^ Int.toNat 1+1)*(s*2 ^ Int.toNat 1+1)*1=(2*s+1)*(2*s+1):=by
    rw [Int.mul_one,show s*2 ^ Int.toNat 1=2*s from (Int.mul_comm s 2)]
  have e2:m*2 ^ Int.toNat 2=4*m:=Int.mul_comm m 4
  unfold nearB at h;rw [e1,e2] at h
  generalize (2*s+1)*(2*s+1)=y at h ⊢
  by_cases hc:cmpI y (4*m)<0
  · unfold cmpI at hc;split at hc<;>omega
  · rw [decide_eq_false hc] at h
    by_cases hz:cmpI y (4*m)=0
    · have:=cmpI_zero.1 hz;omega
    · rw [beq_eq_false_iff_ne.2 hz] at h;exact absurd (show false=true from h) (by decide)
theorem nearB_no {m s:Int} (h:nearB m 1 s=false):4*m≤(2*s+1)*(2*s+1):=by
  have e1:(s*2 ^ Int.toNat 1+1)*(s*2 ^ Int.toNat 1+1)*1=(2*s+1)*(2*s+1):=by
    rw [Int.mul_one,show s*2 ^ Int.toNat 1=2*s from (Int.mul_comm s 2)]
  have e2:m*2 ^ Int.toNat 2=4*m:=Int.mul_comm m 4
  unfold nearB at h;rw [e1,e2] at h
  generalize (2*s+1)*(2*s+1)=y at h ⊢
  by_cases hc:cmpI y (4*m)<0
  · rw [decide_eq_true hc] at h;exact absurd (show true=false from h) (by decide)
  · unfold cmpI at hc;split at hc<;>omega
theorem near_word {m:Int} (h0:0≤m) (h1:m<37778931862957161709568):0≤nearR m 1∧nearR m 1≤274877906944∧4*m≤(2*nearR m 1+1)*(2*nearR m 1+1)∧(0<nearR m 1→(2*nearR m 1-1)*(2*nearR m 1-1)≤4*m):=by
  obtain ⟨a1,a2,a3⟩:=isq_spec h0
  have a4:=sq_lt (a:=isq m) (b:=274877906944) a1 (by decide) (by omega)
  have ed:m/1=m:=Int.ediv_one m
  have q1:(2*isq m+1)*(2*isq m+1)=4*(isq m*isq m)+4*isq m+1:=by
    have q0:2*isq m*(2*isq m)=4*(isq m*isq m):=by rw [Int.mul_assoc,← Int.mul_assoc (isq m) 2,Int.mul_comm (isq m) 2,Int.mul_assoc 2,← Int.mul_assoc 2 2];rfl
    simp only [Int.add_mul,Int.mul_add,Int.mul_one,Int.one_mul]
    omega
  have q2:(isq m+1)*(isq m+1)=isq m*isq m+2*isq m+1:=by simp only [Int.add_mul,Int.mul_add,Int.mul_one,Int.one_mul];omega
  unfold nearR;rw [ed]
  cases hb:nearB m 1 (isq m) with
  | true =>
    have:=nearB_yes hb
    rw [if_pos rfl]
    have e3:2*(isq m+1)+1=(2*isq m+1)+2:=by omega
    have e4:2*(isq m+1)-1=2*isq m+1:=by omega
    rw [e3,e4]
    have q3:(2*isq m+1+2)*(2*isq m+1+2)=(2*isq m+1)*(2*isq m+1)+4*(2*isq m+1)+4:=by
      generalize 2*isq m+1=t
      simp only [Int.add_mul,Int.mul_add];omega
    rw [q3]
    generalize isq m*isq m=y at *
    refine ⟨by omega,by omega,by omega,fun _=>by omega⟩
  | false =>
    have:=nearB_no hb
    rw [if_neg (by decide)]
    have e4:2*isq m-1=(2*isq m+1)-2:=by omega
    rw [e4]
    have q3:(2*isq m+1-2)*(2*isq m+1-2)=(2*isq m+1)*(2*isq m+1)-4*(2*isq m+1)+4:=by
      generalize 2*isq m+1=t
      simp only [Int.sub_mul,Int.mul_sub];omega
    rw [q3]
    generalize isq m*isq m=y at *
    refine ⟨by omega,by omega,by omega,fun _=>by omega⟩
theorem rt_word {a:Int} (hw:wd a=true) (h0:0≤a):(rootR a).2=0∧0≤(rootR a).1∧4*(a*1073741824)≤(2*(rootR a).1+1)*(2*(rootR a).1+1)∧(0<(rootR a).1→(2*(rootR a).1-1)*(2*(rootR a).1-1)≤4*(a*1073741824)):=by
  have hb:=(wd_iff.1 hw).2
  obtain ⟨h1,h2,h3,h4⟩:=near_word (m:=a*1073741824) (by omega) (by omega)
  have e:rootR a=(nearR (a*1073741824) 1,0):=by
    unfold rootR;rw [if_pos ⟨hw,h0⟩,told_wd (wd_iff.2 (by omega))]
  rw [e]
  exact ⟨rfl,h1,h3,h4⟩
end Go.Proofs.Ythokdnheijnmmaa.Wh
end
section
set_option linter.unusedVariables false
set_option linter.unusedSimpArgs false
namespace Go.Proofs.Ythokdnheijnmmaa.Wh
open Go Go.RowKit Go.Proofs.YthokdnheijnmmaaW.PrintWords Go.Proofs.YthokdnheijnmmaaW.PrintMore Go.Proofs.YthokdnheijnmmaaW.Aid Go.Proofs.YthokdnheijnmmaaW.Big Go.Proofs.YthokdnheijnmmaaW.Sx Go.Proofs.Ythokdnheijnmmaa.BitsWalk Go.Proofs.Ythokdnheijnmmaa.Limbs Go.Proofs.Ythokdnheijnmmaa.Whole Go.Proofs.Ythokdnheijnmmaa.FxWalk Go.Proofs
theorem gg2 {a b:Bool} (h:(a == false)=true) (h':b=true):((a == false)&&(b == true))=true:=by rw [h,h'];rfl
theorem wab {A B:Int} (h:(bif !wd A then true else !wd B)=false):wd A=true∧wd B=true:=by
  cases ha:wd A with
  | false=>rw [ha] at h;exact absurd (show true=false from h) (by decide)
  | true=>cases hb:wd B with
    | false=>rw [ha,hb] at h;exact absurd (show true=false from h) (by decide)
    | true=>exact ⟨rfl,rfl⟩
theorem e_l1 {A B:Int} (h:(bif !wd A then true else !wd B)=false):(bif bif bif bif bif (mulR A 1073741824).2 != 0 then true else (divR A 1073741824).2 != 0 then true else (mulR A 1073741824).1 != A then true else (divR A 1073741824).1 != A then true else (mulR A B).2 != (mulR B A).2 then true else (mulR A B).1 != (mulR B A).1)=false:=by
  rw [mul_one' (wab h).1,div_one' (wab h).1,mulR_comm B A];simp
theorem e_l2 {A B:Int} (h:(bif !wd A then true else !wd B)=false) (hD:((addR A B).2 == 0)=true):(bif (subR (addR A B).1 B).2 != 0 then true else (subR (addR A B).1 B).1 != A)=false:=by
  rw [add_back (wab h).1 (wab h).2 (beq_iff_eq.1 hD)];simp
theorem cmp_gtn {x y:Int} (h:x≤y):decide (cmpI x y>0)=false:=decide_eq_false (by unfold cmpI;split<;>(try split)<;>omega)
theorem cmp_len {x y:Int} (h:y<x):decide (cmpI x y≤0)=false:=decide_eq_false (by unfold cmpI;split<;>(try split)<;>omega)
theorem cmp_ltn {x y:Int} (h:y≤x):decide (cmpI x y<0)=false:=decide_eq_false (by unfold cmpI;split<;>(try split)<;>omega)
theorem e_l3 {A B:Int} (h:(bif !wd A then true else !wd B)=false):(bif bif bif (sqrtR (absm A)).2 != 0 then true else decide ((sqrtR (absm A)).1<0) then true else decide (cmpI ((sqrtR (absm A)).1*(sqrtR (absm A)).1) (absm A)>0) then true else decide (cmpI (IntKind.i64.wrap ((sqrtR (absm A)).1+1)*IntKind.i64.wrap ((sqrtR (absm A)).1+1)) (absm A)≤0))=false:=by
  obtain ⟨hw,h0⟩:=absm_wd (wab h).1
  obtain ⟨e,h1,h2,h3,h4⟩:=sq_word' hw h0
  rw [e]
  show (bif bif bif (0:Int) != 0 then true else decide (isq (absm A)<0) then true else decide (cmpI (isq (absm A)*isq (absm A)) (absm A)>0) then true else decide (cmpI (IntKind.i64.wrap (isq (absm A)+1)*IntKind.i64.wrap (isq (absm A)+1)) (absm A)≤0))=false
  rw [wrap1 h1 (by omega),cmp_gtn h3,cmp_len h4,decide_eq_false (by omega)];rfl
theorem e_l4 {A B:Int} (h:(bif !wd A then true else !wd B)=false):(bif bif (rootR (absm A)).2 != 0 then true else decide (cmpI (((rootR (absm A)).1*2 ^ Int.toNat 1+1)*((rootR (absm A)).1*2 ^ Int.toNat 1+1)) (absm A*2 ^ Int.toNat 32)<0) then true else bif decide ((rootR (absm A)).1>0) then decide (cmpI (((rootR (absm A)).1*2 ^ Int.toNat 1-1)*((rootR (absm A)).1*2 ^ Int.toNat 1-1)) (absm A*2 ^ Int.toNat 32)>0) else false)=false:=by
  obtain ⟨hw,h0⟩:=absm_wd (wab h).1
  obtain ⟨e,h1,h2,h3⟩:=rt_word hw h0
  have e1:(rootR (absm A)).1*2 ^ Int.toNat 1=2*(rootR (absm A)).1:=Int.mul_comm _ 2
  have e2:absm A*2 ^ Int.toNat 32=4*(absm A*1073741824):=by
    have:(2:Int) ^ Int.toNat 32=4294967296:=by decide
    rw [this];omega
  rw [e,e1,e2,cmp_ltn h2]
  by_cases hp:(rootR (absm A)).1>0
  · rw [decide_eq_true hp,cmp_gtn (h3 hp)];rfl
  · rw [decide_eq_false hp];rfl
theorem b_abs {A:Int} (h : -9223372036854775808≤A∧A<9223372036854775808):BI 64 (absm A):=BI.i64 (absm_i64 h)
theorem b_sq (A:Int):BI 64 (sqrtR A).1:=BI.i64 (by have:=sqrt_i64 A;omega)
theorem b_rt (A:Int):BI 64 (rootR A).1:=BI.i64 (by have:=root_i64 A;omega)
theorem b_wr (A:Int):BI 64 (IntKind.i64.wrap A):=BI.i64 (wrap_r A)
theorem b_r1 (A:Int):BI 65 ((rootR A).1*2 ^ Int.toNat 1):=BI.shl 1 (b_rt A) (by decide)
theorem b_o (e:Nat) (he:1≤e):BI e 1:=BI.mono BI.one he
theorem b_up (A:Int):BI 66 ((rootR A).1*2 ^ Int.toNat 1+1):=BI.add (b_r1 A) (b_o 65 (by decide)) (by decide)
theorem b_lo (A:Int):BI 66 ((rootR A).1*2 ^ Int.toNat 1-1):=BI.sub (b_r1 A) (b_o 65 (by decide)) (by decide)
section
set_option maxRecDepth 100000
set_option maxHeartbeats 4000000
attribute [local irreducible] BI sqrtR rootR isq nearR toldR IntKind.wrap mulR divR addR subR
theorem laws_law (n:Nat) (a b c d e f:Nat→Int) (ha:In64 a) (hB0:In64 b) {us:List Value} {w:World} (hargs:All2 (TV.reads (fun _=>0) w.heap.size w) [.rowF n 6 (row6 a b c d e f)] us):Ret Try.prog 12 us.toArray w (.tv (tB true)):=by
  refine fnl_ret (lawL 6 n (row6 a b c d e f) 2) (cxOk Try.prog intsR_ok [] [gMay,cFAdd,cFSub,cFMul,cDiv,cSqrt,cRoot,rFrom,rPlus,rLess,rTimes,rCmp,rLeft,cNum,cWakes]) follows Try.func12 rfl 300 _ rfl (by simp) ?_ hargs
  repeat' first
    | exact trivial
    | (refine And.intro (show regChk _ _ _ _ _=true from by kernel_rfl) (And.intro ?_ ?_))
    | (refine And.intro (fun _=>?_) (fun h=>absurd (show true=false from h) (by decide)))
    | (refine And.intro (fun h=>absurd (show false=true from h) (by decide)) (fun _=>?_))
    | (have:=hF;refine And.intro (fun hb=>?_) (fun hb=>?_))
    | (have:=hE;refine And.intro (fun hF=>?_) (fun hF=>?_))
    | (have:=hD;refine And.intro (fun hE=>?_) (fun hE=>?_))
    | (have:=hB;refine And.intro (fun hD=>?_) (fun hD=>?_))
    | (have:=hA;refine And.intro (fun hB=>?_) (fun hB=>?_))
    | (have:=hC;refine And.intro (fun hA=>?_) (fun hA=>?_))
    | refine And.intro (fun hC=>?_) (fun hC=>?_)
    | refine And.intro ?_ ?_
    | (intro v hv)
    | intro _
  all_goals first
    | (show wfB _ _=true;rfl)
    | (show (_:Bool)=true;assumption)
    | (show (_:Bool)=true;exact beq_iff_eq.2 (by assumption))
    | (show (0:Int)≤v;exact hv.1)
    | (show v<(n:Int);exact (hC1 hC).1)
    | (show (-9223372036854775808:Int)≤a v.toNat;with_reducible exact (ha _).1)
    | (show a v.toNat<(9223372036854775808:Int);with_reducible exact (ha _).2)
    | (show (-9223372036854775808:Int)≤b v.toNat;with_reducible exact (hB0 _).1)
    | (show b v.toNat<(9223372036854775808:Int);with_reducible exact (hB0 _).2)
    | (exact ⟨0,⟨Int.le_refl _,Int.natCast_nonneg _⟩,⟨rfl,rfl,rfl,trivial⟩,trivial⟩)
    | (exact ⟨IntKind.i64.wrap (v+1),(stepL hv hC).1,(stepL hv hC).2,⟨rfl,rfl,rfl,trivial⟩,trivial⟩)
    | (show some (CR.tv (tB true))=some (CR.tv (tB true));rfl)
    | (show (_:Int)=(_:Int);rfl)
    | (exact gg2 (by assumption) hF)
    | (exact gg2 (by assumption) hb)
    | (show (-9223372036854775808:Int)≤absm (a v.toNat);with_reducible exact (absm_i64 (ha _)).1)
    | (show absm (a v.toNat)<(9223372036854775808:Int);with_reducible exact (absm_i64 (ha _)).2)
    | (show (-9223372036854775808:Int)≤(sqrtR (absm (a v.toNat))).1;exact Int.le_trans (by decide) (Int.le_of_lt (sqrt_i64 _).1))
    | (show (sqrtR (absm (a v.toNat))).1<(9223372036854775808:Int);exact Int.lt_trans (sqrt_i64 _).2 (by decide))
    | (show (-9223372036854775808:Int)≤(rootR (absm (a v.toNat))).1;exact Int.le_trans (by decide) (Int.le_of_lt (root_i64 _).1))
    | (show (rootR (absm (a v.toNat))).1<(9223372036854775808:Int);exact Int.lt_trans (root_i64 _).2 (by decide))
    | (show (-9223372036854775808:Int)≤IntKind.i64.wrap _;exact (wrap_r _).1)
    | (show IntKind.i64.wrap _<(9223372036854775808:Int);exact (wrap_r _).2)
    | (show (-9223372036854775808:Int)≤1;decide)
    | (show (1:Int)<9223372036854775808;decide)
    | (show (0:Int)≤1;decide)
    | (show (0:Int)≤32;decide)
    | (show (1:Int)≤6400;decide)
    | (show (32:Int)≤6400;decide)
    | (show BI 20000 1;exact b_o _ (by decide))
    | (show BI 20000 (absm (a v.toNat));exact BI.mono (b_abs (ha _)) (by decide))
    | (show BI 20000 (absm (a v.toNat)*2 ^ Int.toNat 32);exact BI.shl 32 (b_abs (ha _)) (by decide))
    | (show BI 20000 (sqrtR (absm (a v.toNat))).1;exact BI.mono (b_sq _) (by decide))
    | (show BI 20000 (rootR (absm (a v.toNat))).1;exact BI.mono (b_rt _) (by decide))
    | (show BI 20000 (IntKind.i64.wrap _);exact BI.mono (b_wr _) (by decide))
    | (show BI 20000 ((sqrtR (absm (a v.toNat))).1*(sqrtR (absm (a v.toNat))).1);exact BI.mul (b_sq _) (b_sq _) (by decide))
    | (show BI 20000 (IntKind.i64.wrap _*IntKind.i64.wrap _);exact BI.mul (b_wr _) (b_wr _) (by decide))
    | (show BI 20000 ((rootR (absm (a v.toNat))).1*2 ^ Int.toNat 1);exact BI.mono (b_r1 _) (by decide))
    | (show BI 20000 ((rootR (absm (a v.toNat))).1*2 ^ Int.toNat 1+1);exact BI.mono (b_up _) (by decide))
    | (show BI 20000 ((rootR (absm (a v.toNat))).1*2 ^ Int.toNat 1-1);exact BI.mono (b_lo _) (by decide))
    | (show BI 20000 (((rootR (absm (a v.toNat))).1*2 ^ Int.toNat 1+1)*((rootR (absm (a v.toNat))).1*2 ^ Int.toNat 1+1));exact BI.mul (b_up _) (b_up _) (by decide))
    | (show BI 20000 (((rootR (absm (a v.toNat))).1*2 ^ Int.toNat 1-1)*((rootR (absm (a v.toNat))).1*2 ^ Int.toNat 1-1));exact BI.mul (b_lo _) (b_lo _) (by decide))
    | (show some (CR.tv (tB false))=some (CR.tv (tB true));exfalso;first
        | exact no (e_l4 (A:=a v.toNat) (B:=b v.toNat) hA) hb
        | exact no (e_l3 (A:=a v.toNat) (B:=b v.toNat) hA) hF
        | exact no (e_l4 (A:=a v.toNat) (B:=b v.toNat) hA) hF
        | exact no (e_l2 (A:=a v.toNat) (B:=b v.toNat) hA hD) hE
        | exact no (e_l3 (A:=a v.toNat) (B:=b v.toNat) hA) hE
        | exact no (e_l1 (A:=a v.toNat) (B:=b v.toNat) hA) hB)
    -- PVC
end
end Go.Proofs.Ythokdnheijnmmaa.Wh
end
section
set_option linter.unusedVariables false
namespace Go.Proofs.Ythokdnheijnmmaa.Wh
open Go Go.RowKit Go.Proofs.Ythokdnheijnmmaa.QFxE Go.Proofs.YthokdnheijnmmaaW.PrintWords Go.Proofs.YthokdnheijnmmaaW.PrintMore Go.Proofs.YthokdnheijnmmaaW.Aid Go.Proofs.YthokdnheijnmmaaW.Big Go.Proofs.YthokdnheijnmmaaW.Sx Go.Proofs
theorem laws24 {w:World} {A:Option Addr} {c:Nat} {l:List S24} (hC:Kd.C k24 w A l.length l) (hle:l.length≤c) (hg:∀ x∈l,G24 x):Ret Try.prog 12 #[.slice A l.length c] w (.tv (tB true)) :=
  laws_law l.length _ _ _ _ _ _ (fun j=>i64w (at24_g hg j).1) (fun j=>i64w (at24_g hg j).2.1) (args24 hC hle)
end Go.Proofs.Ythokdnheijnmmaa.Wh
end
section
namespace Go.Proofs.YthokdnheijnmmaaW.Opens
open Go.RowKit Go.Proofs.YthokdnheijnmmaaW.PrintWords Go.Deep
variable {P:Program}
def Opens (P:Program) (t:TypeId) {α:Type} (d:Kd α) (G:α→Prop):Prop :=
  P.cellsOf t=d.sz∧∀ {H:Type} (enc:TypeId × Value→H) (w:World) (base:Nat) (spare:Nat→Bool) (held:Bool) (fuel:Nat) (cs:List Value) (x:DataW H × List MemPlace),
    DataW.trod enc P w base spare held fuel t cs=some x→(∀ n∈x.1.weights P t,n≤reachBytes)→∃ a,d.K w a cs∧G a
theorem opens_int {t:TypeId} {k:IntKind} (hu:P.underlying t=some (.int k)) (hc:P.cellsOf t=1):Opens P t (Kd.int k) (fun n=>(Lit.int k n).wf=true):=by
  refine ⟨hc,fun enc w base spare held fuel cs x h _=>?_⟩
  obtain ⟨n,rfl,_,hw⟩:=DataW.trod_int hu h
  exact ⟨n,rfl,hw⟩
theorem opens_bool {t:TypeId} (hu:P.underlying t=some .bool) (hc:P.cellsOf t=1):Opens P t Kd.bool (fun _=>True):=by
  refine ⟨hc,fun enc w base spare held fuel cs x h _=>?_⟩
  obtain ⟨n,rfl,_⟩:=DataW.trod_bool hu h
  exact ⟨n,rfl,trivial⟩
theorem opens_string {t:TypeId} (hu:P.underlying t=some .string) (hc:P.cellsOf t=1):Opens P t Kd.string (fun s=>s.size≤140737488351232):=by
  refine ⟨hc,fun enc w base spare held fuel cs x h hw=>?_⟩
  obtain ⟨s,rfl,rfl,_⟩:=DataW.trod_string hu h
  have z:=hw s.data.toList.length (by simp [DataW.weights])
  exact ⟨s,rfl,by simpa [reachBytes] using z⟩
theorem list_of {α:Type} {Q:Nat→α→Prop}:∀ n:Nat,(∀ i,i<n→∃ a,Q i a)→∃ xs:List α,xs.length=n∧∀ j p,xs[j]?=some p→Q j p
  | 0,_=>⟨[],rfl,fun j p h=>by simp at h⟩
  | n + 1, h => by
    obtain ⟨xs,hl,hx⟩:=list_of n (fun i hi=>h i (by omega))
    obtain ⟨a,ha⟩:=h n (by omega)
    refine ⟨xs++[a],by simp [hl],fun j p hj=>?_⟩
    by_cases hjl:j<xs.length
    · rw [List.getElem?_append_left hjl] at hj
      exact hx j p hj
    · have hj2:j<(xs++[a]).length:=(List.getElem?_eq_some_iff.1 hj).1
      have:j=n:=by simp at hj2;omega
      subst this
      rw [List.getElem?_append_right (by omega)] at hj
      simp [hl] at hj
      subst hj
      exact ha
theorem weights_mem_all {H:Type} {e:TypeId}:∀ {l:List (DataW H)} {d:DataW H},d∈l→∀ n∈d.weights P e,n∈DataW.weightsAll P e l
  | [],_,h,_,_=>by simp at h
  | y::l,d,h,n,hn=>by
    rw [DataW.weightsAll]
    rcases List.mem_cons.1 h with rfl|h
    · exact List.mem_append_left _ hn
    · exact List.mem_append_right _ (weights_mem_all h n hn)
theorem opens_slice {t e:TypeId} {α:Type} {d:Kd α} {G:α→Prop} (hu:P.underlying t=some (.slice e)) (hc:P.cellsOf t=1) {B:Nat} (hB:P.bytesOf e=B) (he:Opens P e d G) :
    Opens P t (Kd.slice e d) (fun xs=>xs.length*B≤140737488351232∧∀ x∈xs,G x):=by
  obtain ⟨hsz,he⟩:=he
  refine ⟨hc,fun enc w base spare held fuel cs x h hw=>?_⟩
  rcases open_slice hu h with ⟨rfl,_⟩|⟨a,len,cap,m,n,D,Pl,rfl,_,hl,hm,hmm,rfl,hi⟩
  · exact ⟨[],⟨none,0,rfl,Nat.le_refl _,rfl,by simp,fun h=>absurd h (by simp)⟩,by simp,fun _ h=>by simp at h⟩
  · have hlm:len≤m:=by rw [hmm];split<;>omega
    have hw2:∀ i,i<len→∀ q∈(D i).weights P e,q≤reachBytes:=fun i hil q hq=>by
      refine hw q ?_
      rw [DataW.weights,hu]
      refine List.mem_cons_of_mem _ (List.mem_append_left _ (weights_mem_all (d:=D i) ?_ q hq))
      exact List.mem_map.2 ⟨i,List.mem_range.2 hil,rfl⟩
    obtain ⟨xs,hxl,hx⟩:=list_of (Q:=fun i p=>(∃ c,c.length=d.sz∧d.K w p c∧∀ j u,c[j]?=some u→w.cell? (a.add (i*d.sz+j))=some u)∧G p) len (fun i hil=>by
      obtain ⟨cs',h1,h2⟩:=hi i (by omega)
      obtain ⟨p,hk,hg⟩:=he enc w base spare held n cs' _ h2 (hw2 i hil)
      obtain ⟨_,hcl,hat⟩:=World.cells?_some h1
      refine ⟨p,⟨cs',d.K_len hk,hk,fun j u hj=>?_⟩,hg⟩
      have hjl:j<cs'.length:=(List.getElem?_eq_some_iff.1 hj).1
      have h3:=hat j (by omega)
      rw [hj,hsz,Go.Deep.add_add] at h3
      exact h3)
    subst hxl
    refine ⟨xs,⟨some a,cap,rfl,hl,rfl,by unfold maxLen at hm;omega,fun _=>⟨a,rfl,fun j p hj=>(hx j p hj).1⟩⟩,?_,fun x hx'=>?_⟩
    · have z:=hw ((((List.range xs.length).map D).length+((List.range (m-xs.length)).map fun j=>D (xs.length+j)).length)*P.bytesOf e) (by rw [DataW.weights,hu];exact List.mem_cons_self)
      simp only [List.length_map,List.length_range,hB,reachBytes] at z
      exact Nat.le_trans (Nat.mul_le_mul_right _ (Nat.le_add_right _ _)) z
    · obtain ⟨j,hj⟩:=List.getElem?_of_mem hx'
      exact (hx j x hj).2
def OpensF (P:Program) (o:Nat) (fs:List (TypeId × Nat)) {α:Type} (d:Kd α) (G:α→Prop):Prop :=
  ∀ {H:Type} (enc:TypeId × Value→H) (w:World) (base:Nat) (spare:Nat→Bool) (held:Bool) (n:Nat) (cs:List Value) (ys:List (DataW H × List MemPlace)),cs.length=o+d.sz→ys.length=fs.length →
    (∀ (i:Nat) (f:TypeId × Nat),fs[i]?=some f→DataW.trod enc P w base spare held n f.1 ((cs.drop f.2).take (P.cellsOf f.1))=ys[i]?) →
    (∀ q∈DataW.weightsEach P (fs.map (·.1)) (ys.map (·.1)),q≤reachBytes)→∃ a,d.K w a (cs.drop o)∧G a
theorem opensF_one {t:TypeId} {o:Nat} {α:Type} {d:Kd α} {G:α→Prop} (h:Opens P t d G):OpensF P o [(t,o)] d G:=by
  obtain ⟨hsz,he⟩:=h
  intro H enc w base spare held n cs ys hl hyl hg hw
  match ys,hyl with
  | [y],_ =>
    have h1:=hg 0 (t,o) rfl
    simp only at h1
    rw [hsz,List.take_of_length_le (by simp;omega)] at h1
    exact he enc w base spare held n _ y h1 (fun q hq=>hw q (by simpa [DataW.weightsEach] using hq))
theorem opensF_cons {t:TypeId} {fs:List (TypeId × Nat)} {o o':Nat} {α β:Type} {d:Kd α} {d':Kd β} {G:α→Prop} {G':β→Prop} (h:Opens P t d G) (ho':o+d.sz=o') (h':OpensF P o' fs d' G') :
    OpensF P o ((t,o)::fs) (Kd.pair d d') (fun x=>G x.1∧G' x.2):=by
  obtain ⟨hsz,he⟩:=h
  intro H enc w base spare held n cs ys hl hyl hg hw
  match ys,hyl with
  | y :: ys, hyl =>
    have h1:=hg 0 (t,o) rfl
    simp only at h1
    rw [hsz] at h1
    obtain ⟨a,ka,ga⟩:=he enc w base spare held n _ y h1 (fun q hq=>hw q (by simp only [List.map_cons,DataW.weightsEach];exact List.mem_append_left _ hq))
    have hl':cs.length=o'+d'.sz:=by
      have:(Kd.pair d d').sz=d.sz+d'.sz:=rfl
      omega
    obtain ⟨b,kb,gb⟩:=h' enc w base spare held n cs ys hl' (by simpa using hyl) (fun i f' hf=>hg (i+1) f' (by simpa using hf)) (fun q hq=>hw q (by simp only [List.map_cons,DataW.weightsEach];exact List.mem_append_right _ hq))
    refine ⟨(a,b),⟨(cs.drop o).take d.sz,cs.drop o',?_,ka,kb⟩,ga,gb⟩
    rw [← ho',← List.drop_drop,List.take_append_drop]
theorem opens_struct {t:TypeId} {fs:Array Field} {α β:Type} {d:Kd α} {G:α→Prop} (hu:P.underlying t=some (.struct fs)) (hc:P.cellsOf t=d.sz) {l:List (TypeId × Nat)} (hl:fs.toList.map (fun f=>(f.type,f.offset))=l) (h:OpensF P 0 l d G) (f:β→α) (g:α→β) (hfg:∀ x,f (g x)=x) :
    Opens P t (Kd.iso d f) (fun x=>G (f x)):=by
  refine ⟨hc,fun enc w base spare held fuel cs x hx hw=>?_⟩
  obtain ⟨ys,n,_,rfl,hcl,hyl,hg⟩:=DataW.trod_struct hu hx
  have hg':∀ (i:Nat) (f:TypeId × Nat),l[i]?=some f→DataW.trod enc P w base spare held n f.1 ((cs.drop f.2).take (P.cellsOf f.1))=ys[i]?:=by
    intro i f hf
    rw [← hl,List.getElem?_map] at hf
    obtain ⟨f0,hf0,rfl⟩:=Option.map_eq_some_iff.1 hf
    exact hg i f0 (by simpa using hf0)
  obtain ⟨a,ka,ga⟩:=h enc w base spare held n cs ys (by omega) (by rw [hyl,← hl];simp) hg' (fun q hq=>hw q (by rw [← hl,List.map_map] at hq;simp only [DataW.weights,hu];exact hq))
  exact ⟨g a,by show d.K w (f (g a)) cs;rw [hfg];exact ka,by show G (f (g a));rw [hfg];exact ga⟩
theorem opens_arg {H:Type} {enc:TypeId × Value→H} {W:World} {base:Nat} {spare:Nat→Bool} {held:Bool} {t:TypeId} {v:Value} {x:DataW H} {ps:List MemPlace} {ts:List TypeId} {ds:List (DataW H)} {j:Nat} {α:Type} {d:Kd α} {G:α→Prop}
    (ho:Opens P t d G) (hsz:(DataW.weightsEach P ts ds).all (·≤reachBytes)=true) (ht:ts[j]?=some t) (hd:ds[j]?=some x) (h:DataW.Trod enc P W base spare held t v x ps):∃ a,d.K W a v.cells.toList∧G a:=by
  obtain ⟨fuel,hf⟩:=h
  refine ho.2 enc W base spare held fuel _ (x,ps) hf (fun n hn=>?_)
  simpa using List.all_eq_true.1 hsz n (DataW.weights_mem_each ht hd n hn)
end Go.Proofs.YthokdnheijnmmaaW.Opens
end
section
namespace Go.Proofs.Ythokdnheijnmmaa.fxLaws
open Go.ChangeShapes Go.WideShapes Go.ChangeAt Go.RowKit Go.Proofs.YthokdnheijnmmaaW.Opens Go.Proofs.YthokdnheijnmmaaW.PrintWords Go.Proofs.Ythokdnheijnmmaa.QFxE Go.Proofs.Ythokdnheijnmmaa.Wh
set_option linter.unusedVariables false
theorem own:ownKnob Try.prog.godebug=none:=by kernel_rfl
theorem laidOut:laidOutB Try.prog=true:=by kernel_rfl
theorem opens24:Opens Try.prog 24 k24 G24 :=
  opens_struct (l:=[(2,0),(2,1),(2,2),(2,3),(2,4),(2,5)]) Try.underlying24 (by kernel_rfl) rfl (opensF_cons (o:=0) (o':=1) (opens_int Try.underlying2 (by kernel_rfl)) rfl (opensF_cons (o:=1) (o':=2) (opens_int Try.underlying2 (by kernel_rfl)) rfl (opensF_cons (o:=2) (o':=3) (opens_int Try.underlying2 (by kernel_rfl)) rfl (opensF_cons (o:=3) (o':=4) (opens_int Try.underlying2 (by kernel_rfl)) rfl (opensF_cons (o:=4) (o':=5) (opens_int Try.underlying2 (by kernel_rfl)) rfl (opensF_one (o:=5) (opens_int Try.underlying2 (by kernel_rfl)))))))) (fun x:S24=>(x.f0,x.f1,x.f2,x.f3,x.f4,x.f5)) (fun p=>⟨p.1,p.2.1,p.2.2.1,p.2.2.2.1,p.2.2.2.2.1,p.2.2.2.2.2⟩) (fun _=>rfl)
set_option maxRecDepth 100000 in
theorem lifted (os:Os) (started:os.Started) (H:Type) (enc:TypeId × Value→H) :
    ReturnsInHanded {} Try.checked os 12 .any (Rows.fxLawsSpec.pre6 enc Try.prog Try.f12 Rows.fxLawsRow.domain false) (Rows.fxLawsSpec.post enc Try.prog Try.f12 false true false false):=by
  refine returnsInHanded_of_change_sized (C:=Try.checked) own started (by kernel_rfl) Try.func12
    (ChangeSpec.witness6 (enc:=enc) (C:=Try.checked) false ⟨#[],#[.slice none 0 0],[]⟩ 8 (by kernel_rfl) (by kernel_rfl) (by kernel_rfl) (by kernel_rfl)) ?_
  intro W base args ds gs before hval0 hW hcnd hsz0 _
  have hsz:(DataW.weightsEach Try.prog (Try.f12.params.toList++Rows.fxLawsSpec.plain.varTypes Try.prog) (ds++gs)).all (·≤reachBytes)=true:=hsz0
  have hval:∀ (j:Nat) t v,Try.f12.params[j]?=some t→args[j]?=some v→Value.okWide Try.prog W .any base t v:=hval0
  have hW':=hW
  obtain ⟨p,q,hA0,hV,rfl,hfz,hnd⟩:=hW
  have hA:DataW.TrodAll enc Try.prog W 0 (fun _=>true) true Try.f12.params.toList args.toList ds p:=hA0
  rw [Try.params12] at hA hval hsz
  obtain ⟨v0,vs0,d0,ds0,p0,q0,hargs,rfl,rfl,h0,r0⟩:=trodAll_cons hA
  obtain ⟨rfl,rfl,rfl⟩:=trodAll_nil r0
  obtain rfl:args=#[v0]:=by cases args;simp_all
  obtain ⟨rfl,rfl⟩:=trodVars_none hV
  have k0:=h0
  have lt0:∀ x∈p0,x.block<W.heap.size:=by obtain ⟨m,hm⟩:=k0;exact DataW.trod_lt m _ _ _ hm
  have hv0:=hval 0 22 v0 rfl rfl
  obtain ⟨x0,hk0,hg0⟩:=opens_arg (opens_slice (B:=48) Try.underlying22 (by kernel_rfl) (by kernel_rfl) opens24) hsz (j:=0) (t:=22) rfl rfl h0
  obtain ⟨a0,len0,cap0,rfl⟩:=okWide_slice Try.underlying22 hv0
  obtain ⟨A1,c1,hcs,hle,hC⟩:=hk0
  have hcs:[Value.slice a0 len0 cap0]=[.slice A1 x0.length c1]:=hcs
  simp only [List.cons.injEq,Value.slice.injEq,and_true] at hcs
  obtain ⟨rfl,rfl,rfl⟩:=hcs
  clear hA0 hval0 hsz0 hsz
  refine Calls.mono (laws24 hC hle hg0.2) fun e W' hpost=>?_
  obtain ⟨u,rfl,hu,bel⟩:=hpost
  obtain rfl:u = .bool true:=hu
  exact ⟨_,rfl,_,_,_,[],_,[],hW',trodAll_mk1 (shut_bool Try.underlying4 _),(trodAll_cons_mk (Below.trod laidOut (by kernel_rfl) (of_decide_eq_true (by kernel_rfl)) k0 bel lt0) trodAll_mk0),rfl,bel.frame _,fun h=>by cases h⟩
theorem over:Rows.fxLawsRow.holds Try.pinned (OpenSpec.ofChange Rows.fxLawsSpec) :=
  OpenClaim.holds_of_wide 12 Try.f12 rfl rfl rfl rfl rfl rfl rfl ⟨rfl,rfl,rfl,rfl,rfl⟩ rfl rfl rfl rfl rfl (by kernel_rfl) Try.func12 (by kernel_rfl)
    (of_decide_eq_true (by kernel_rfl)) (by unfold Func.isWrapper;first|(rw [if_pos (by decide +kernel)];kernel_rfl)|(rw [if_neg (by decide +kernel)];exact ⟨rfl,rfl⟩))
    (fun os started H enc _=>lifted os started H enc)
theorem proved:Rows.FxLawsSaid:=over
end Go.Proofs.Ythokdnheijnmmaa.fxLaws
namespace Go.Proofs.Ythokdnheijnmmaa
theorem fxLaws_holds:Rows.FxLawsSaid:=fxLaws.proved
end Go.Proofs.Ythokdnheijnmmaa
end
