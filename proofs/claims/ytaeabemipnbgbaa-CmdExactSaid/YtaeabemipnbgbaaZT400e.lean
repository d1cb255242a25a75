/- The row of CmdExact, out of its law over numbers and the printed walk: for every argument that reads as data the call returns true and leaves the argument as it was. -/
import Derived.Test.YtaeabemipnbgbaaZT400d
import Derived.Test.YtaeabemipnbgbaaProg
import Derived.Below
import Derived.Deep.Draws
import Derived.Deep.AppendLies
import Derived.Maps.AppendAt
import Derived.OwnWalk
import Derived.Laws.BytesArg
import Derived.Laws.MakeOwn
import Derived.Laws.OwnMore
import Derived.Deep.OwnRows
import Derived.Tactics
import Derived.Lib.ConvBytes
import Derived.Laws.Slices
import Derived.WalkKit
import Derived.KernelRfl
import Derived.RowKit3
import Derived.Deep.LoopGhost
import Derived.Deep.QuietTactic
import Derived.BigQuiet
import Derived.WideLaws
import Derived.Deep.DeepCutAuto
import Derived.Deep.CutBlock
import Derived.Deep.RegionHeld3
import Derived.Laws.Rows
import Derived.Lib.AppendStr
import Derived.ArgAppend
import Derived.Laws.IdiomCopy
import Derived.OrdersHeld
import Derived.Laws.BitsLemmas
import Derived.RowKit
import Derived.Deep.Slices
import Derived.Deep.Fields
import Derived.SizedLaws
import Derived.ChangeArms
import Derived.Test.YtaeabemipnbgbaaRows
import Derived.ProofKit
import Derived.OpenShut
import Derived.ShutString
import Derived.ChangeOld
import Derived.Carry
section
set_option linter.unusedVariables false
set_option linter.unusedSimpArgs false
namespace Go.Proofs.Ytaeabemipnbgbaa.PCm
open Go RowKit Ytaeabemipnbgbaa.QCm YtaeabemipnbgbaaW.PrintWords YtaeabemipnbgbaaW.PrintMore YtaeabemipnbgbaaW.Aid YtaeabemipnbgbaaW.Big YtaeabemipnbgbaaW.Sx
theorem follows:Try.prog.follows .mixedOrders=true:=by kernel_rfl
theorem ints_ok:intsOk Try.prog []:=rfl
abbrev i64 (n:Int):A0 := .v (.int .i64 n)
abbrev tB (b:Bool):TV := .sc (.v (.bool b))
abbrev tI (n:Int):TV := .sc (.v (.int .i64 n))
abbrev nilA:A0 := .v (.slice none 0 0)
theorem reads_sl {N:Nat} {w:World} {l:List Int} {u:Value} (h:(A0.sl .u8 l).reads N w u):∃ A c,u = .slice A l.length c∧l.length≤c∧Kd.C (Kd.int .u8) w A l.length l:=by
  obtain ⟨_,A,c,e,h1,h2⟩:=h
  exact ⟨A,c,e,h1,h2⟩
def byteL:A0→Option (List Int)
  | .sl .u8 l=>some l
  | .v (.slice none 0 0)=>some []
  | _=>none
theorem byteL_reads {N:Nat} {w:World} {c:A0} {l:List Int} {u:Value} (hc:byteL c=some l) (h:c.reads N w u):∃ A c,u = .slice A l.length c∧l.length≤c∧Kd.C (Kd.int .u8) w A l.length l:=by
  unfold byteL at hc
  split at hc
  · cases hc;exact reads_sl h
  · cases hc
    rw [show u=_ from h]
    exact ⟨none,0,rfl,Nat.le_refl _,Kd.C_nil _ _⟩
  · cases hc
theorem fs_told {w':World} {N:Nat} {v:Value} {l:List Int} (h:Kd.R (Kd.int .u8) 5 w' N (fun _=>True) v l):(A0.fs 5 .u8 l).reads N w' v:=⟨rfl,rfl,h⟩
theorem drawn_below {w w':World} (h:Drawn0 w w'):Below w.heap.size w w':=by
  obtain ⟨n,rfl⟩:=h
  exact ⟨rfl,rfl,rfl,Nat.le_refl _,fun _ _=>rfl⟩
structure BytesL (l:List Int):Prop where
  b:Bytes l
  n:l.length≤100000
theorem all2_8 {R:A0→Value→Prop} {a b c d e f g h:A0} {us:List Value} (k:All2 R [a,b,c,d,e,f,g,h] us):∃ a' b' c' d' e' f' g' h',us=[a',b',c',d',e',f',g',h']∧R a a'∧R b b'∧R c c'∧R d d'∧R e e'∧R f f'∧R g g'∧R h h':=by
  cases k with|cons k1 k=>cases k with|cons k2 k=>cases k with|cons k3 k=>cases k with|cons k4 k=>cases k with|cons k5 k=>cases k with|cons k6 k=>cases k with|cons k7 k=>cases k with|cons k8 k=>cases k;exact ⟨_,_,_,_,_,_,_,_,rfl,k1,k2,k3,k4,k5,k6,k7,k8⟩
def cNum:Con Try.prog where
  f:=20
  sem:=fun xs=>match xs with
    | [.sc (.v (.int .i64 n))]=>some (True,.tv (tI n))
    | _=>none
  ok:=by
    intro xs p r h hp
    refine ⟨⟨_,Try.func20,by kernel_rfl,rfl⟩,fun us w ha=>?_⟩
    split at h
    · rename_i n
      cases h
      obtain ⟨u,rfl,hu⟩:=all2_1 ha
      rw [show u=_ from hu]
      exact Ret.val ((gimballaw25_num.calls n n w rfl).mono fun e w' h=>⟨h.1,drawn_below h.2⟩)
    · cases h
def cEqB:Con Try.prog where
  f:=21
  sem := fun xs => match xs with
    | [.sc a,.sc b]=>match byteL a,byteL b with
      | some l,some m=>some (l.length≤1000000,.tv (tB (decide (l=m))))
      | _,_=>none
    | _=>none
  ok := by
    intro xs p r h hp
    refine ⟨⟨_,Try.func21,by kernel_rfl,rfl⟩,fun us w ha=>?_⟩
    split at h
    · rename_i a b
      split at h
      · rename_i l m hl hm
        cases h
        obtain ⟨u,v,rfl,hu,hv⟩:=all2_2 ha
        obtain ⟨A,c,rfl,h1,h2⟩:=byteL_reads hl hu
        obtain ⟨A',c',rfl,h3,h4⟩:=byteL_reads hm hv
        obtain ⟨k,hk⟩:=Ev.rounds (eqB_ev (a:=l) (b:=m) hp)
        exact Ret.val ((gimbalref0_EqBytes.calls k A c l A' c' m _ w h2 h1 h4 h3 hk).mono fun e w' h=>⟨h.1,drawn_below h.2⟩)
      · cases h
    · cases h
def cCopy:Con Try.prog where
  f:=26
  sem := fun xs => match xs with
    | [.sc a]=>match byteL a with
      | some l=>some (l.length≤1000000,.tv (.sc (.fs 5 .u8 l)))
      | _=>none
    | _=>none
  ok := by
    intro xs p r h hp
    refine ⟨⟨_,Try.func26,by kernel_rfl,rfl⟩,fun us w ha=>?_⟩
    split at h
    · rename_i a
      split at h
      · rename_i l hl
        cases h
        obtain ⟨u,rfl,hu⟩:=all2_1 ha
        obtain ⟨A,c,rfl,h1,h2⟩:=byteL_reads hl hu
        obtain ⟨k,hk⟩:=Ev.rounds (copy_ev (l:=l) hp)
        exact (gimbalref0_CopyBytes.calls k A c l _ w h2 h1 hk).mono fun e w' ⟨v,he,hR,hB⟩=>⟨v,he,fs_told hR,hB⟩
      · cases h
    · cases h
def cClone:Con Try.prog where
  f:=74
  sem := fun xs => match xs with
    | [.sc a]=>match byteL a with
      | some l=>some (l.length≤1000000,.tv (.sc (.fs 5 .u8 l)))
      | _=>none
    | _=>none
  ok := by
    intro xs p r h hp
    refine ⟨⟨_,Try.func74,by kernel_rfl,rfl⟩,fun us w ha=>?_⟩
    split at h
    · rename_i a
      split at h
      · rename_i l hl
        cases h
        obtain ⟨u,rfl,hu⟩:=all2_1 ha
        obtain ⟨A,c,rfl,h1,h2⟩:=byteL_reads hl hu
        exact (CloneB.bytes_calls l A c w h2 h1 (by have:l.length≤1000000:=hp;omega)).mono fun e w' ⟨v,he,hR,hB⟩=>⟨v,he,fs_told hR,hB⟩
      · cases h
    · cases h
def cGood:Con Try.prog where
  f:=71
  sem := fun xs => match xs with
    | [.agg [.v (.int .i64 kd),.v (.int .i64 c),.v (.int .i64 s),.v (.int .i64 p),.v (.int .i64 t),.v (.int .i64 key),va,.v (.int .i64 cl)]]=>match byteL va with
      | some l=>some (True,.tv (tB (mayC kd c s p t key l cl)))
      | _=>none
    | _=>none
  ok := by
    intro xs q r h hp
    refine ⟨⟨_,Try.func71,by kernel_rfl,rfl⟩,fun us w ha=>?_⟩
    split at h
    · rename_i kd c s p t key va cl
      split at h
      · rename_i l hl
        cases h
        obtain ⟨u,rfl,us',rfl,hu⟩:=all2_1 ha
        obtain ⟨a1,a2,a3,a4,a5,a6,a7,a8,rfl,h1,h2,h3,h4,h5,h6,h7,h8⟩:=all2_8 hu
        obtain ⟨A,cc,rfl,g1,g2⟩:=byteL_reads hl h7
        rw [show a1=_ from h1,show a2=_ from h2,show a3=_ from h3,show a4=_ from h4,show a5=_ from h5,show a6=_ from h6,show a8=_ from h8]
        obtain ⟨k,hk⟩:=Ev.rounds (good_ev kd c s p t key l cl)
        exact Ret.val (cmd_good.calls k kd c s p t key A cc l cl _ w g2 g1 hk)
      · cases h
    · cases h
def cClientR:Con Try.prog where
  f:=67
  sem:=fun xs=>match xs with
    | [.sc (.v (.int .i64 n))]=>some (True,.tv (tB (decide (0≤n∧n≤7))))
    | _=>none
  ok:=by
    intro xs p r h hp
    refine ⟨⟨_,Try.func67,by kernel_rfl,rfl⟩,fun us w ha=>?_⟩
    split at h
    · rename_i n
      cases h
      obtain ⟨un,rfl,hn⟩:=all2_1 ha
      rw [show un=_ from hn]
      exact Ret.val ((gimbalref25_Client.calls n _ w (clientR_f n)).mono fun e w' h=>⟨h.1,by first|exact drawn_below h.2|exact h.2⟩)
    · cases h
def cSensorR:Con Try.prog where
  f:=69
  sem:=fun xs=>match xs with
    | [.sc (.v (.int .i64 n))]=>some (True,.tv (tB (decide (1≤n∧n≤15))))
    | _=>none
  ok:=by
    intro xs p r h hp
    refine ⟨⟨_,Try.func69,by kernel_rfl,rfl⟩,fun us w ha=>?_⟩
    split at h
    · rename_i n
      cases h
      obtain ⟨un,rfl,hn⟩:=all2_1 ha
      rw [show un=_ from hn]
      exact Ret.val ((gimbalref25_Sensor.calls n _ w (sensorR_f n)).mono fun e w' h=>⟨h.1,by first|exact drawn_below h.2|exact h.2⟩)
    · cases h
def cInR:Con Try.prog where
  f:=70
  sem:=fun xs=>match xs with
    | [.sc (.v (.int .i64 n)),.sc (.v (.int .i64 lo)),.sc (.v (.int .i64 hi))]=>some (True,.tv (tB (decide (lo≤n∧n≤hi))))
    | _=>none
  ok:=by
    intro xs p r h hp
    refine ⟨⟨_,Try.func70,by kernel_rfl,rfl⟩,fun us w ha=>?_⟩
    split at h
    · rename_i n lo hi
      cases h
      obtain ⟨un,ulo,uhi,rfl,hn,hlo,hhi⟩:=all2_3 ha
      rw [show un=_ from hn,show ulo=_ from hlo,show uhi=_ from hhi]
      exact Ret.val ((gimbalref25_in.calls n lo hi _ w (in_f n lo hi)).mono fun e w' h=>⟨h.1,by first|exact drawn_below h.2|exact h.2⟩)
    · cases h
def cSubR:Con Try.prog where
  f:=68
  sem:=fun xs=>match xs with
    | [.agg [.v (.int .i64 c),.v (.int .i64 s),.v (.int .i64 p),.v (.int .i64 t)]]=>some (True,.tv (tB (decide ((0≤c∧c≤7)∧(1≤s∧s≤15)∧(1≤p∧p≤1000)∧(0≤t∧t≤60000)))))
    | _=>none
  ok:=by
    intro xs q r h hp
    refine ⟨⟨_,Try.func68,by kernel_rfl,rfl⟩,fun us w ha=>?_⟩
    split at h
    · rename_i c s p t
      cases h
      obtain ⟨u,rfl,us',rfl,hu⟩:=all2_1 ha
      cases hu with|cons k1 hu=>cases hu with|cons k2 hu=>cases hu with|cons k3 hu=>cases hu with|cons k4 hu =>
      cases hu
      rename_i a1 a2 a3 a4
      rw [show a1=_ from k1,show a2=_ from k2,show a3=_ from k3,show a4=_ from k4]
      exact Ret.val ((gimbalref25_MaySub.calls c s p t _ w (subR_f c s p t)).mono fun e w' h=>⟨h.1,by first|exact drawn_below h.2|exact h.2⟩)
    · cases h
def cEnc:Con Try.prog where
  f:=19
  sem := fun xs => match xs with
    | [.agg [.v (.int .i64 kd),.v (.int .i64 c),.v (.int .i64 s),.v (.int .i64 p),.v (.int .i64 t),.v (.int .i64 key),va,.v (.int .i64 cl)]]=>match byteL va with
      | some l=>some (BytesL l,.tv (.tup [(false,[.fs 5 .u8 (encCR kd c s p t key l cl).1]),(false,[i64 (encCR kd c s p t key l cl).2])]))
      | _=>none
    | _=>none
  ok := by
    intro xs q r h hp
    refine ⟨⟨_,Try.func19,by kernel_rfl,rfl⟩,fun us w ha=>?_⟩
    split at h
    · rename_i kd c s p t key va cl
      split at h
      · rename_i l hl
        cases h
        obtain ⟨u,rfl,us',rfl,hu⟩:=all2_1 ha
        obtain ⟨a1,a2,a3,a4,a5,a6,a7,a8,rfl,h1,h2,h3,h4,h5,h6,h7,h8⟩:=all2_8 hu
        obtain ⟨A,cc,rfl,g1,g2⟩:=byteL_reads hl h7
        rw [show a1=_ from h1,show a2=_ from h2,show a3=_ from h3,show a4=_ from h4,show a5=_ from h5,show a6=_ from h6,show a8=_ from h8]
        obtain ⟨k,hk⟩:=Ev.rounds (enc_ev kd c s p t key l cl hp.2)
        exact (cmd_Encode.calls k kd c s p t key A cc l cl _ _ w g2 g1 hk).mono fun e w' ⟨v,he,hR,hB⟩=>⟨_,he,⟨[_,_],rfl,.cons ⟨_,rfl,fs_told hR⟩ (.cons ⟨_,rfl,rfl⟩ .nil)⟩,hB⟩
      · cases h
    · cases h
def cEncR:Con Try.prog where
  f:=17
  sem := fun xs => match xs with
    | [.agg [.v (.int .i64 kd),.v (.int .i64 c),.v (.int .i64 s),.v (.int .i64 p),.v (.int .i64 t),.v (.int .i64 key),va,.v (.int .i64 cl)]]=>match byteL va with
      | some l=>some (l.length≤100000,.tv (.sc (.fs 5 .u8 (encB kd c s p t key l cl))))
      | _=>none
    | _=>none
  ok := by
    intro xs q r h hp
    refine ⟨⟨_,Try.func17,by kernel_rfl,rfl⟩,fun us w ha=>?_⟩
    split at h
    · rename_i kd c s p t key va cl
      split at h
      · rename_i l hl
        cases h
        obtain ⟨u,rfl,us',rfl,hu⟩:=all2_1 ha
        obtain ⟨a1,a2,a3,a4,a5,a6,a7,a8,rfl,h1,h2,h3,h4,h5,h6,h7,h8⟩:=all2_8 hu
        obtain ⟨A,cc,rfl,g1,g2⟩:=byteL_reads hl h7
        rw [show a1=_ from h1,show a2=_ from h2,show a3=_ from h3,show a4=_ from h4,show a5=_ from h5,show a6=_ from h6,show a8=_ from h8]
        exact (gimbalref25_Encode.calls kd c s p t key A cc l cl _ w g2 g1 (encR_f kd c s p t key l cl hp)).mono fun e w' ⟨v,he,hR,hB⟩=>⟨v,he,fs_told hR,hB⟩
      · cases h
    · cases h
def cCopyC:Con Try.prog where
  f:=18
  sem := fun xs => match xs with
    | [.agg [.v (.int .i64 kd),.v (.int .i64 c),.v (.int .i64 s),.v (.int .i64 p),.v (.int .i64 t),.v (.int .i64 key),va,.v (.int .i64 cl)]]=>match byteL va with
      | some l=>some (l.length≤1000000,.tv (.agg [i64 kd,i64 c,i64 s,i64 p,i64 t,i64 key,.fs 5 .u8 l,i64 cl]))
      | _=>none
    | _=>none
  ok := by
    intro xs q r h hp
    refine ⟨⟨_,Try.func18,by kernel_rfl,rfl⟩,fun us w ha=>?_⟩
    split at h
    · rename_i kd c s p t key va cl
      split at h
      · rename_i l hl
        cases h
        obtain ⟨u,rfl,us',rfl,hu⟩:=all2_1 ha
        obtain ⟨a1,a2,a3,a4,a5,a6,a7,a8,rfl,h1,h2,h3,h4,h5,h6,h7,h8⟩:=all2_8 hu
        obtain ⟨A,cc,rfl,g1,g2⟩:=byteL_reads hl h7
        rw [show a1=_ from h1,show a2=_ from h2,show a3=_ from h3,show a4=_ from h4,show a5=_ from h5,show a6=_ from h6,show a8=_ from h8]
        obtain ⟨k,hk⟩:=Ev.rounds (copyC_ev kd c s p t key l cl hp)
        exact (gimbalref0_CopyCommand.calls k kd c s p t key A cc l cl _ _ _ _ _ _ _ _ w g2 g1 hk).mono fun e w' ⟨v,he,hR,hB⟩=>⟨_,he,⟨[_,_,_,_,_,_,_,_],rfl,.cons rfl (.cons rfl (.cons rfl (.cons rfl (.cons rfl (.cons rfl (.cons (fs_told hR) (.cons rfl .nil)))))))⟩,hB⟩
      · cases h
    · cases h
def cEqC:Con Try.prog where
  f:=22
  sem := fun xs => match xs with
    | [.agg [.v (.int .i64 kd),.v (.int .i64 c),.v (.int .i64 s),.v (.int .i64 p),.v (.int .i64 t),.v (.int .i64 key),va,.v (.int .i64 cl)],.agg [.v (.int .i64 kd'),.v (.int .i64 c'),.v (.int .i64 s'),.v (.int .i64 p'),.v (.int .i64 t'),.v (.int .i64 key'),va',.v (.int .i64 cl')]]=>match byteL va,byteL va' with
      | some l,some m=>some (l.length≤1000000,.tv (tB (eqC kd c s p t key l cl kd' c' s' p' t' key' m cl')))
      | _,_=>none
    | _=>none
  ok := by
    intro xs q r h hp
    refine ⟨⟨_,Try.func22,by kernel_rfl,rfl⟩,fun us w ha=>?_⟩
    split at h
    · rename_i kd c s p t key va cl kd' c' s' p' t' key' va' cl'
      split at h
      · rename_i l m hl hm
        cases h
        obtain ⟨u,v,rfl,⟨us1,rfl,hu⟩,us2,rfl,hv⟩:=all2_2 ha
        obtain ⟨a1,a2,a3,a4,a5,a6,a7,a8,rfl,h1,h2,h3,h4,h5,h6,h7,h8⟩:=all2_8 hu
        obtain ⟨b1,b2,b3,b4,b5,b6,b7,b8,rfl,k1,k2,k3,k4,k5,k6,k7,k8⟩:=all2_8 hv
        obtain ⟨A,cc,rfl,g1,g2⟩:=byteL_reads hl h7
        obtain ⟨A',cc',rfl,g3,g4⟩:=byteL_reads hm k7
        rw [show a1=_ from h1,show a2=_ from h2,show a3=_ from h3,show a4=_ from h4,show a5=_ from h5,show a6=_ from h6,show a8=_ from h8,show b1=_ from k1,show b2=_ from k2,show b3=_ from k3,show b4=_ from k4,show b5=_ from k5,show b6=_ from k6,show b8=_ from k8]
        obtain ⟨k,hk⟩:=Ev.rounds (eqC_ev kd c s p t key l cl kd' c' s' p' t' key' m cl' hp)
        exact Ret.val (gimbalref0_EqCommand.calls k kd c s p t key A cc l cl kd' c' s' p' t' key' A' cc' m cl' _ w g2 g1 g4 g3 hk)
      · cases h
    · cases h
def kBytes:KillC Try.prog where
  f:=24
  e:=5
  k := .u8
  pre:=fun l=>l.length≤1000000
  fok:=⟨_,Try.func24,by kernel_rfl,rfl⟩
  ok:=by
    intro l u w N hl hR
    obtain ⟨k,hk⟩:=Ev.rounds (bytes_ev hl)
    have hR0:Kd.R (Kd.int .u8) 5 w ({ w with heap:=#[] }:World).heap.size (fun k=>u.ownBlock=some k) u l:=by
      have h0:=Kd.R_lower hR (Nat.zero_le N)
      exact ⟨fun k hk=>hk,h0.2⟩
    refine (gimballaw0_Bytes.calls k _ u l { w with heap:=#[] } w ⟨rfl,rfl,rfl,Nat.zero_le _,fun k hk=>by simp at hk⟩ hR0 hk).mono ?_
    rintro en w' ⟨rfl,hB,hK⟩
    exact ⟨_,rfl,⟨hB.os,hB.tape,hB.output,hK.1,fun k hk=>absurd hk (Nat.not_lt_zero _)⟩,fun b hb hne=>hK.2 b hb (fun h=>hne h)⟩
def num (s:List Int):Int:=s.foldl (fun x b=>x*256+b) 0
theorem num_snoc (s:List Int) (b:Int):num (s++[b])=num s*256+b:=by simp [num]
theorem num_bd:∀ (n:Nat) (s:List Int),Bytes s→s.length=n→0≤num s∧num s<256 ^ n:=by
  intro n
  induction n with
  | zero=>intro s hb hs;rw [List.length_eq_zero_iff.1 hs];exact ⟨Int.le_refl _,by decide⟩
  | succ n ih =>
    intro s hb hs
    have e:s=s.take n++[s[n]]:=by rw [← List.take_succ_eq_append_getElem,List.take_of_length_le (by omega)]
    have h1:=ih (s.take n) (hb.take n) (by rw [List.length_take];omega)
    have h2:=hb s[n] (List.getElem_mem _)
    rw [e,num_snoc,Int.pow_succ]
    omega
theorem num8 {s:List Int} (hb:Bytes s) (hs:s.length≤7):0≤num s∧num s<72057594037927936:=by
  obtain ⟨h1,h2⟩:=num_bd _ s hb rfl
  refine ⟨h1,?_⟩
  have hc:s.length=0∨s.length=1∨s.length=2∨s.length=3∨s.length=4∨s.length=5∨s.length=6∨s.length=7:=by omega
  rcases hc with h|h|h|h|h|h|h|h<;>(rw [h] at h2;simp at h2;omega)
theorem wraps_u64 (n:Int) (h₀:0≤n) (h₁:n<2 ^ 64):IntKind.u64.wrap n=n:=by rw [IntKind.wrap_u64];omega
theorem tkl_ev {s:List Int} (hb:Bytes s) (hs:s.length≤8):∀ (m:Nat) (i:Nat),s.length-i=m→i≤s.length→∃ k,Cmd.tkl k (num (s.take i)) s i=some (num s):=by
  intro m
  induction m with
  | zero =>
    intro i hm hi
    refine ⟨1,?_⟩
    simp only [Cmd.tkl]
    rw [if_neg (by omega),List.take_of_length_le (by omega)]
  | succ m ih =>
    intro i hm hi
    obtain ⟨k,hk⟩:=ih (i+1) (by omega) (by omega)
    have hil:i<s.length:=by omega
    have e1:rd s (i:Int)=s[i]:=by obtain ⟨h1,h2⟩:=rd_at (l:=s) (i:=(i:Int)) (by omega) (by omega);simpa using h2
    have hx:=hb.rd (i:=(i:Int)) (by omega) (by omega)
    have hn:=num8 (s:=s.take i) (hb.take i) (by rw [List.length_take];omega)
    refine ⟨k+1,?_⟩
    simp only [Cmd.tkl]
    rw [if_pos (by omega),if_pos (by omega),wrap64_id (by omega) (by omega)]
    have e2:Go.bits .or .u64 (IntKind.u64.wrap (num (s.take i)*256)) (IntKind.u64.wrap (rd s (i:Int)))=num (s.take (i+1)):=by
      rw [List.take_succ_eq_append_getElem hil,num_snoc,← e1,wraps_u64 _ (by omega) (by omega),wraps_u64 _ hx.1 (by omega)]
      exact bits_join .u64 64 (by decide) wraps_u64 8 (num (s.take i)*256) (rd s (i:Int)) (by omega) (by omega) (by omega) hx.1 (by omega) (by omega)
    rw [e2]
    exact hk
abbrev tkOk (n:Int) (l:List Int) (ok:Bool):Bool:=ok&&decide (n≤(l.length:Int))
def tkL (n:Int) (l:List Int) (ok:Bool):List Int:=bif tkOk n l ok then l.drop n.toNat else l
def tkV (n:Int) (l:List Int) (ok:Bool):Int:=bif tkOk n l ok then num (l.take n.toNat) else 0
theorem rdk_over {w w1:World} {k:IntKind} {l:List Int} {A:Option Addr} {c g:Nat} (h:RdK w k l A c) (hk:unsg k=true) (hold:∀ j,j<w.heap.size→j≠g→w1.heap[j]?=w.heap[j]?) {arr:Array Value} {t:TypeId} (ha:w.heap[g]?=some (.cells arr t (0,0))) (hok:∀ x∈arr,okCell x=true):RdK w1 k l A c:=by
  refine ⟨h.1,h.2.1,h.2.2.1,fun hn=>?_⟩
  obtain ⟨ad,e,hc⟩:=h.2.2.2 hn
  refine ⟨ad,e,fun j p hj=>?_⟩
  obtain ⟨cs,h1,h2,h3⟩:=hc j p hj
  refine ⟨cs,h1,h2,fun i u hu=>?_⟩
  have h4:=h3 i u hu
  have hb:=World.block_lt_of_cell? w _ h4
  by_cases hg:(ad.add (j*(Kd.int k).sz+i)).block=g
  · exfalso
    have e2:cs=[.int k p]:=h2
    have e3:u = .int k p:=by
      rw [e2] at hu
      cases i with
      | zero=>simpa using hu.symm
      | succ i=>simp at hu
    rw [e3] at h4
    unfold World.cell? at h4
    rw [hg,ha] at h4
    dsimp only at h4
    split at h4
    · cases h4
    · have:=hok _ (Array.mem_of_getElem? h4)
      simp [okCell,hk] at this
  · rw [World.cell?_of_block (w:=w) (hold _ hb hg)]
    exact h4
def cTake : ConW Try.prog where
  f:=73
  k:=2
  sem:=fun cs xs=>match cs,xs with
    | [.sl .u8 l,.v (.bool ok)],[.sc (.v (.int .i64 n))]=>some (BytesL l∧0≤n∧n≤7,[.sl .u8 (tkL n l ok),.v (.bool (tkOk n l ok))],tI (tkV n l ok))
    | _,_=>none
  ok := by
    intro cs xs p new r h hp
    refine ⟨⟨_,Try.func73,by kernel_rfl,rfl⟩,fun us w g arr ty hb hok hcs ha=>?_⟩
    split at h
    · rename_i l ok n
      cases h
      obtain ⟨u,rfl,hu⟩:=all2_1 ha
      rw [show u=_ from hu]
      obtain ⟨x0,hx0,hr0⟩:=hcs 0 _ rfl
      obtain ⟨x1,hx1,hr1⟩:=hcs 1 _ rfl
      rw [show x1=_ from hr1] at hx1
      obtain ⟨_,A,c,rfl,hR⟩:=hr0
      have l0:=(Array.getElem?_eq_some_iff.1 hx0).1
      have l1:=(Array.getElem?_eq_some_iff.1 hx1).1
      cases hq:tkOk n l ok with
      | true =>
        simp only [tkOk,Bool.and_eq_true,decide_eq_true_eq] at hq
        obtain ⟨rfl,hn⟩:=hq
        have hs:(l.take n.toNat).length≤7:=by rw [List.length_take];omega
        obtain ⟨k,hk⟩:=tkl_ev (hp.1.b.take n.toNat) (by omega) _ 0 rfl (Nat.zero_le _)
        have hnb:=num8 (hp.1.b.take n.toNat) hs
        refine (Cmd.tki_yes k l n _ A c g arr ty w hb hx0 hx1 hR.2 hR.1 hp.2.1 hn hk).mono ?_
        rintro e w' ⟨rfl,A',c',m,m',hc',hC',rfl⟩
        have hset:=blk_set (w:=w.drewN m) hb 0 (Value.slice A' (l.drop n.toNat).length c')
        have hold:∀ j,j<w.heap.size→j≠g→(((w.drewN m).setCell ⟨g,0,none⟩ (Value.slice A' (l.drop n.toNat).length c')).drewN m').heap[j]?=w.heap[j]?:=fun j hj hne=>Below.heap_setCell (w.drewN m) ⟨g,0,none⟩ _ j hne
        have hR':=rdk_over hR rfl hold hb hok
        refine ⟨_,rfl,?_,⟨⟨rfl,rfl,rfl,?_,fun j hj=>absurd hj (Nat.not_lt_zero _)⟩,hold⟩,_,hset,by simp,?_,?_,?_⟩
        · show Value.int .i64 _=Value.int .i64 _
          rw [show tkV n l true=num (l.take n.toNat) by unfold tkV tkOk;simp [hn]]
          rw [show IntKind.i64.wrap (num (l.take n.toNat))=num (l.take n.toNat) by rw [IntKind.wrap_i64];exact (by unfold wrap64;rfl:_=wrap64 _).trans (wrap64_id (by omega) (by omega))]
        · show w.heap.size≤((w.drewN m).setCell _ _).heap.size
          simp [World.setCell,World.drewN]
        · intro x hx
          rcases Array.mem_or_eq_of_mem_setIfInBounds hx with hx|rfl
          · exact hok x hx
          · rfl
        · intro i q hi
          match i,hi with
          | 0,hi =>
            cases hi
            refine ⟨.slice A' (l.drop n.toNat).length c',by simp [l0],?_⟩
            rw [show tkL n l true=l.drop n.toNat by unfold tkL tkOk;simp [hn]]
            exact ⟨rfl,A',c',rfl,hc',hC' _ hR'.2⟩
          | 1,hi =>
            cases hi
            exact ⟨.bool true,by rw [Array.getElem?_setIfInBounds_ne (by omega)];exact hx1,by show Value.bool true=Value.bool _;simp [tkOk,hn]⟩
        · intro i hi
          rw [Array.getElem?_setIfInBounds_ne (by simp at hi;omega)]
      | false =>
        have hno:ok=false∨(l.length:Int)<n:=by
          simp only [tkOk,Bool.and_eq_false_iff,decide_eq_false_iff_not] at hq
          rcases hq with h|h
          · exact .inl h
          · exact .inr (by omega)
        refine (Cmd.tki_no l n ok A c g arr ty w hb hx0 hx1 hno).mono ?_
        rintro e w' ⟨rfl,rfl⟩
        have hset:=blk_set hb 1 (Value.bool false)
        have hold:∀ j,j<w.heap.size→j≠g→(w.setCell ⟨g,1,none⟩ (Value.bool false)).heap[j]?=w.heap[j]?:=fun j hj hne=>Below.heap_setCell w ⟨g,1,none⟩ _ j hne
        have hR':=rdk_over hR rfl hold hb hok
        refine ⟨_,rfl,?_,⟨⟨rfl,rfl,rfl,?_,fun j hj=>absurd hj (Nat.not_lt_zero _)⟩,hold⟩,_,hset,by simp,?_,?_,?_⟩
        · show Value.int .i64 0=Value.int .i64 _
          rw [show tkV n l ok=0 by unfold tkV;rw [hq];rfl]
        · show w.heap.size≤(w.setCell _ _).heap.size
          simp [World.setCell]
        · intro x hx
          rcases Array.mem_or_eq_of_mem_setIfInBounds hx with hx|rfl
          · exact hok x hx
          · rfl
        · intro i q hi
          match i,hi with
          | 0,hi =>
            cases hi
            refine ⟨.slice A l.length c,by rw [Array.getElem?_setIfInBounds_ne (by omega)];exact hx0,?_⟩
            rw [show tkL n l ok=l by unfold tkL;rw [hq];rfl]
            exact ⟨rfl,A,c,rfl,hR'⟩
          | 1,hi =>
            cases hi
            exact ⟨.bool false,by simp [l1],rfl⟩
        · intro i hi
          rw [Array.getElem?_setIfInBounds_ne (by simp at hi;omega)]
    · cases h
set_option maxHeartbeats 8000000 in
set_option maxRecDepth 100000 in
theorem done_w (m:Nat) (ok:Bool) (A:Option Addr) (c g:Nat) (arr:Array Value) (ty:TypeId) (w:World) (hb:w.heap[g]?=some (.cells arr ty (0,0))) (h0:arr[0]?=some (.slice A m c)) (h1:arr[1]?=some (.bool ok)) :
    Calls Try.prog 75 #[.pointer (some ⟨g,0,none⟩)] w fun e w'=>e = .returned (.bool (bif ok then ((m:Int) == 0) else false))∧w'=w:=by
  have c0:w.cell? ⟨g,0,none⟩=some (.slice A m c):=(blk_cell hb 0).trans h0
  have c1:w.cell? ⟨g,1,none⟩=some (.bool ok):=(blk_cell hb 1).trans h1
  clear hb h0 h1
  cases ok with
  | true =>
    go_enter Try.func75,Try.ntmps75
    go_wp2
    go_ret
    exact ⟨rfl,rfl⟩
  | false =>
    go_enter Try.func75,Try.ntmps75
    go_wp2
    go_ret
    exact ⟨rfl,rfl⟩
def cDone:ConW Try.prog where
  f:=75
  k:=2
  sem := fun cs xs => match cs, xs with
    | [a,.v (.bool ok)],[]=>match byteL a with
      | some l=>some (True,[a,.v (.bool ok)],tB (bif ok then ((l.length:Int) == 0) else false))
      | none=>none
    | _,_=>none
  ok := by
    intro cs xs p new r h hp
    refine ⟨⟨_,Try.func75,by kernel_rfl,rfl⟩,fun us w g arr ty hb hok hcs ha=>?_⟩
    split at h
    · rename_i a ok
      split at h
      · rename_i l hl
        cases h
        cases ha
        obtain ⟨x0,hx0,hr0⟩:=hcs 0 _ rfl
        obtain ⟨x1,hx1,hr1⟩:=hcs 1 _ rfl
        have e1:x1=_:=hr1
        obtain ⟨A,c,e0,h1,h2⟩:=byteL_reads hl hr0
        rw [e1] at hx1
        have hx0':=hx0
        rw [e0] at hx0
        refine (done_w l.length ok A c g arr ty w hb hx0 hx1).mono ?_
        rintro e w' ⟨rfl,rfl⟩
        refine ⟨_,rfl,rfl,⟨⟨rfl,rfl,rfl,Nat.le_refl _,fun j hj=>rfl⟩,fun j hj hne=>rfl⟩,arr,hb,rfl,hok,?_,fun i hi=>rfl⟩
        intro i q hi
        match i,hi with
        | 0,hi=>cases hi;exact ⟨x0,hx0',hr0⟩
        | 1,hi=>cases hi;exact ⟨_,hx1,rfl⟩
      · cases h
    · cases h
end Go.Proofs.Ytaeabemipnbgbaa.PCm
end
section
set_option linter.unusedVariables false
set_option linter.unusedSimpArgs false
namespace Go.Proofs.Ytaeabemipnbgbaa.PCm
open Go RowKit Ytaeabemipnbgbaa.QCm YtaeabemipnbgbaaW.PrintWords YtaeabemipnbgbaaW.PrintMore YtaeabemipnbgbaaW.Aid YtaeabemipnbgbaaW.Big YtaeabemipnbgbaaW.Sx Go.Proofs
theorem cond_tf {a b:Bool}:(bif a then true else b)=false↔a=false∧b=false:=by cases a<;>simp
theorem cond_tt {a b:Bool}:(bif a then true else b)=true↔a=true∨b=true:=by cases a<;>simp
theorem bq {b:Bool} (h:b=false):(b == false)=true:=by simp [h]
theorem bt {b:Bool} (h:b=true):(b == true)=true:=by rw [h];rfl
theorem an {a b:Bool} (h:a=true) (h':b=true):(a&&b)=true:=by rw [h,h'];rfl
section
set_option maxRecDepth 100000
set_option maxHeartbeats 8000000
theorem may_sl {kd c s p t key cl:Int} {l:List Int} (hp:l.length≤1000000) {us:List Value} {w:World} (ha:All2 (TV.reads (fun _=>0) w.heap.size w) [.agg [i64 kd,i64 c,i64 s,i64 p,i64 t,i64 key,.sl .u8 l,i64 cl]] us):Ret Try.prog 16 us.toArray w (.tv (tB (mayC kd c s p t key l cl))):=by
      refine fn_ret (cxOk Try.prog ints_ok [] [cClientR,cSubR,cSensorR,cInR,cEqC]) follows Try.func16 rfl 100 _ rfl (by simp) ?_ ha
      repeat' first
        | exact trivial
        | (refine And.intro (show regChk _ _ _ _ _=true from by kernel_rfl) (And.intro ?_ ?_))
        | (refine And.intro (fun _=>?_) (fun h=>absurd (show true=false from h) (by decide)))
        | (refine And.intro (fun h=>absurd (show false=true from h) (by decide)) (fun _=>?_))
        | (refine And.intro (fun hb=>?_) (fun hb'=>?_))
        | refine And.intro ?_ ?_
        | intro _
      all_goals first
        | (show some (CR.tv (tB _))=some (CR.tv (tB _));refine congrArg (fun b=>some (CR.tv (tB b))) ?_;clear ha;(try unfold eqC);rw [Bool.eq_iff_iff];simp only [decide_eq_true_eq,nil_iff,List.length_nil,Bool.not_eq_true',Bool.not_eq_false',beq_iff_eq,decide_eq_false_iff_not,beq_eq_false_iff_ne,ne_eq,cond_tf,cond_tt,bne_eq_false_iff_eq,bne_iff_ne,Bool.false_eq_true,false_iff,true_and,and_true] at *;(try unfold MayC);(try simp only [List.length_nil]);omega)
        | (show List.length _≤1000000;first|exact hp|exact Nat.zero_le _)
        | (show (_:Bool)=(_:Bool);first|assumption|exact gB (by assumption)|exact bq (by assumption)|exact bt (by assumption)|(exact an (by first|assumption|exact bq (by assumption)|exact bt (by assumption)) (by first|assumption|exact bq (by assumption)|exact bt (by assumption)))|rfl)
        | (show True;trivial)
        -- PVC
theorem nil_sl {N:Nat} {w:World} {u:Value} (h:(nilA).reads N w u):(A0.sl .u8 []).reads N w u:=by
  rw [show u=_ from h]
  exact ⟨rfl,none,0,rfl,Nat.le_refl _,Kd.C_nil _ _⟩
theorem nil_args {β:Nat→Nat} {N:Nat} {w:World} {us:List Value} {a b c d e f h:A0} (k:All2 (TV.reads β N w) [.agg [a,b,c,d,e,f,nilA,h]] us):All2 (TV.reads β N w) [.agg [a,b,c,d,e,f,.sl .u8 [],h]] us:=by
  obtain ⟨u,rfl,us',rfl,hu⟩:=all2_1 k
  obtain ⟨a1,a2,a3,a4,a5,a6,a7,a8,rfl,h1,h2,h3,h4,h5,h6,h7,h8⟩:=all2_8 hu
  exact .cons ⟨_,rfl,.cons h1 (.cons h2 (.cons h3 (.cons h4 (.cons h5 (.cons h6 (.cons (nil_sl h7) (.cons h8 .nil)))))))⟩ .nil
theorem byteL_inv {a:A0} {l:List Int} (h:byteL a=some l):a = .sl .u8 l∨(a=nilA∧l=[]):=by
  unfold byteL at h
  split at h
  · cases h;exact .inl rfl
  · cases h;exact .inr ⟨rfl,rfl⟩
  · cases h
def cMay:Con Try.prog where
  f:=16
  sem := fun xs => match xs with
    | [.agg [.v (.int .i64 kd),.v (.int .i64 c),.v (.int .i64 s),.v (.int .i64 p),.v (.int .i64 t),.v (.int .i64 key),va,.v (.int .i64 cl)]]=>match byteL va with
      | some l=>some (l.length≤1000000,.tv (tB (mayC kd c s p t key l cl)))
      | _=>none
    | _=>none
  ok := by
    intro xs q r h hp
    refine ⟨⟨_,Try.func16,by kernel_rfl,rfl⟩,fun us w ha=>?_⟩
    split at h
    · rename_i kd c s p t key va cl
      split at h
      · rename_i l hl
        cases h
        rcases byteL_inv hl with rfl|⟨rfl,rfl⟩
        · exact may_sl hp ha
        · exact may_sl hp (nil_args ha)
      · cases h
    · cases h
end
end Go.Proofs.Ytaeabemipnbgbaa.PCm
end
section
set_option linter.unusedVariables false
set_option linter.unusedSimpArgs false
namespace Go.Proofs.Ytaeabemipnbgbaa.PCm
open Go RowKit Ytaeabemipnbgbaa.QCm YtaeabemipnbgbaaW.PrintWords YtaeabemipnbgbaaW.PrintMore YtaeabemipnbgbaaW.Aid YtaeabemipnbgbaaW.Big YtaeabemipnbgbaaW.Sx Go.Proofs
section
set_option maxRecDepth 100000
set_option maxHeartbeats 8000000
abbrev o1 (b:List Int):Bool:=tkOk 1 b true
abbrev v1 (b:List Int):Int:=tkV 1 b true
abbrev b1 (b:List Int):List Int:=tkL 1 b true
abbrev o2 (b:List Int):Bool:=tkOk 1 (b1 b) (o1 b)
abbrev v2 (b:List Int):Int:=tkV 1 (b1 b) (o1 b)
abbrev b2 (b:List Int):List Int:=tkL 1 (b1 b) (o1 b)
abbrev o3 (b:List Int):Bool:=tkOk 2 (b2 b) (o2 b)
abbrev v3 (b:List Int):Int:=tkV 2 (b2 b) (o2 b)
abbrev b3 (b:List Int):List Int:=tkL 2 (b2 b) (o2 b)
abbrev o4 (b:List Int):Bool:=tkOk 4 (b3 b) (o3 b)
abbrev v4 (b:List Int):Int:=tkV 4 (b3 b) (o3 b)
abbrev b4 (b:List Int):List Int:=tkL 4 (b3 b) (o3 b)
abbrev dn (l:List Int) (o:Bool):Bool:=bif o then ((l.length:Int) == 0) else false
abbrev tst (d g:Bool):Bool:=bif !d then true else !g
theorem tkL_b {l:List Int} (h:BytesL l) (n:Int) (o:Bool):BytesL (tkL n l o):=by
  unfold tkL
  cases tkOk n l o with
  | true=>exact ⟨h.b.drop _,by have:=h.n;simp only [cond_true,List.length_drop];omega⟩
  | false=>exact h
theorem bb1 {l:List Int} (h:BytesL l):BytesL (b1 l):=tkL_b h _ _
theorem bb2 {l:List Int} (h:BytesL l):BytesL (b2 l):=tkL_b (bb1 h) _ _
theorem bb3 {l:List Int} (h:BytesL l):BytesL (b3 l):=tkL_b (bb2 h) _ _
theorem no {b:Bool} (h:b=false) (h':b=true):False:=by rw [h] at h';cases h'
theorem nt {b:Bool} (h:(!b)=false):b=true:=by cases b with
  | true=>rfl
  | false=>cases h
abbrev rZ:CR := .tv (.tup [(true,[i64 0,i64 0,i64 0,i64 0,i64 0,i64 0,nilA,i64 0]),(false,[i64 1])])
abbrev ts1 (b:List Int):Bool:=tst (dn (b4 b) (o4 b)) (mayC 1 (v1 b) (v2 b) (v3 b) (v4 b) (0) ([]) (v1 b))
theorem dec1_ok {b:List Int} (hp:BytesL b) (hz:ts1 b=false) {us:List Value} {w:World} (ha:All2 (TV.reads (fun _=>0) w.heap.size w) [.sc (.v (.int .i64 1)),.sc (.sl .u8 b)] us):Ret Try.prog 23 us.toArray w (.tv (.tup [(true,[i64 1,i64 (v1 b),i64 (v2 b),i64 (v3 b),i64 (v4 b),i64 (0),nilA,i64 (v1 b)]),(false,[i64 0])])):=by
      refine fn_ret (cxOkW Try.prog ints_ok [] [cGood,cClone] [cTake,cDone]) follows Try.func23 rfl 100 _ rfl (by simp) ?_ ha
      repeat' first
        | exact trivial
        | (refine And.intro (show regChk _ _ _ _ _=true from by kernel_rfl) (And.intro ?_ ?_))
        | (refine And.intro (fun _=>?_) (fun h=>absurd (show true=false from h) (by decide)))
        | (refine And.intro (fun h=>absurd (show false=true from h) (by decide)) (fun _=>?_))
        | (refine And.intro (fun hb=>?_) (fun hb'=>?_))
        | refine And.intro ?_ ?_
        | intro _
      all_goals first
        | (show some (CR.tv _)=some (CR.tv _);first|rfl|(exfalso;exact no hz (by assumption)))
        | (show BytesL _;first|exact hp|exact bb1 hp|exact bb2 hp|exact bb3 hp)
        | (show (0:Int)≤_;decide)
        | (show (_:Int)≤7;decide)
        | exact Nat.le_trans (bb2 hp).n (by decide)
        | (show True;trivial)
        | (show (_:Bool)=(_:Bool);first|assumption|exact gB (by assumption)|exact bq (by assumption)|exact bt (by assumption)|(exact an (by first|assumption|exact bq (by assumption)|exact bt (by assumption)) (by first|assumption|exact bq (by assumption)|exact bt (by assumption)))|rfl)
        -- PVC
theorem dec1_no {b:List Int} (hp:BytesL b) (hz:ts1 b=true) {us:List Value} {w:World} (ha:All2 (TV.reads (fun _=>0) w.heap.size w) [.sc (.v (.int .i64 1)),.sc (.sl .u8 b)] us):Ret Try.prog 23 us.toArray w (rZ):=by
      refine fn_ret (cxOkW Try.prog ints_ok [] [cGood,cClone] [cTake,cDone]) follows Try.func23 rfl 100 _ rfl (by simp) ?_ ha
      repeat' first
        | exact trivial
        | (refine And.intro (show regChk _ _ _ _ _=true from by kernel_rfl) (And.intro ?_ ?_))
        | (refine And.intro (fun _=>?_) (fun h=>absurd (show true=false from h) (by decide)))
        | (refine And.intro (fun h=>absurd (show false=true from h) (by decide)) (fun _=>?_))
        | (refine And.intro (fun hb=>?_) (fun hb'=>?_))
        | refine And.intro ?_ ?_
        | intro _
      all_goals first
        | (show some (CR.tv _)=some (CR.tv _);first|rfl|(exfalso;exact no (by assumption) hz))
        | (show BytesL _;first|exact hp|exact bb1 hp|exact bb2 hp|exact bb3 hp)
        | (show (0:Int)≤_;decide)
        | (show (_:Int)≤7;decide)
        | exact Nat.le_trans (bb2 hp).n (by decide)
        | (show True;trivial)
        | (show (_:Bool)=(_:Bool);first|assumption|exact gB (by assumption)|exact bq (by assumption)|exact bt (by assumption)|(exact an (by first|assumption|exact bq (by assumption)|exact bt (by assumption)) (by first|assumption|exact bq (by assumption)|exact bt (by assumption)))|rfl)
        -- PVC
abbrev ts2 (b:List Int):Bool:=tst (dn (b2 b) (o2 b)) (mayC 2 (v1 b) (v2 b) (0) (0) (0) ([]) (v1 b))
theorem dec2_ok {b:List Int} (hp:BytesL b) (hz:ts2 b=false) {us:List Value} {w:World} (ha:All2 (TV.reads (fun _=>0) w.heap.size w) [.sc (.v (.int .i64 2)),.sc (.sl .u8 b)] us):Ret Try.prog 23 us.toArray w (.tv (.tup [(true,[i64 2,i64 (v1 b),i64 (v2 b),i64 (0),i64 (0),i64 (0),nilA,i64 (v1 b)]),(false,[i64 0])])):=by
      refine fn_ret (cxOkW Try.prog ints_ok [] [cGood,cClone] [cTake,cDone]) follows Try.func23 rfl 100 _ rfl (by simp) ?_ ha
      repeat' first
        | exact trivial
        | (refine And.intro (show regChk _ _ _ _ _=true from by kernel_rfl) (And.intro ?_ ?_))
        | (refine And.intro (fun _=>?_) (fun h=>absurd (show true=false from h) (by decide)))
        | (refine And.intro (fun h=>absurd (show false=true from h) (by decide)) (fun _=>?_))
        | (refine And.intro (fun hb=>?_) (fun hb'=>?_))
        | refine And.intro ?_ ?_
        | intro _
      all_goals first
        | (show some (CR.tv _)=some (CR.tv _);first|rfl|(exfalso;exact no hz (by assumption)))
        | (show BytesL _;first|exact hp|exact bb1 hp|exact bb2 hp|exact bb3 hp)
        | (show (0:Int)≤_;decide)
        | (show (_:Int)≤7;decide)
        | exact Nat.le_trans (bb2 hp).n (by decide)
        | (show True;trivial)
        | (show (_:Bool)=(_:Bool);first|assumption|exact gB (by assumption)|exact bq (by assumption)|exact bt (by assumption)|(exact an (by first|assumption|exact bq (by assumption)|exact bt (by assumption)) (by first|assumption|exact bq (by assumption)|exact bt (by assumption)))|rfl)
        -- PVC
theorem dec2_no {b:List Int} (hp:BytesL b) (hz:ts2 b=true) {us:List Value} {w:World} (ha:All2 (TV.reads (fun _=>0) w.heap.size w) [.sc (.v (.int .i64 2)),.sc (.sl .u8 b)] us):Ret Try.prog 23 us.toArray w (rZ):=by
      refine fn_ret (cxOkW Try.prog ints_ok [] [cGood,cClone] [cTake,cDone]) follows Try.func23 rfl 100 _ rfl (by simp) ?_ ha
      repeat' first
        | exact trivial
        | (refine And.intro (show regChk _ _ _ _ _=true from by kernel_rfl) (And.intro ?_ ?_))
        | (refine And.intro (fun _=>?_) (fun h=>absurd (show true=false from h) (by decide)))
        | (refine And.intro (fun h=>absurd (show false=true from h) (by decide)) (fun _=>?_))
        | (refine And.intro (fun hb=>?_) (fun hb'=>?_))
        | refine And.intro ?_ ?_
        | intro _
      all_goals first
        | (show some (CR.tv _)=some (CR.tv _);first|rfl|(exfalso;exact no (by assumption) hz))
        | (show BytesL _;first|exact hp|exact bb1 hp|exact bb2 hp|exact bb3 hp)
        | (show (0:Int)≤_;decide)
        | (show (_:Int)≤7;decide)
        | exact Nat.le_trans (bb2 hp).n (by decide)
        | (show True;trivial)
        | (show (_:Bool)=(_:Bool);first|assumption|exact gB (by assumption)|exact bq (by assumption)|exact bt (by assumption)|(exact an (by first|assumption|exact bq (by assumption)|exact bt (by assumption)) (by first|assumption|exact bq (by assumption)|exact bt (by assumption)))|rfl)
        -- PVC
abbrev ts4 (b:List Int):Bool:=tst (dn ([]) (o2 b)) (mayC 4 (0) (0) (0) (0) (v2 b) (b2 b) (v1 b))
theorem dec4_ok {b:List Int} (hp:BytesL b) (hz:ts4 b=false) {us:List Value} {w:World} (ha:All2 (TV.reads (fun _=>0) w.heap.size w) [.sc (.v (.int .i64 4)),.sc (.sl .u8 b)] us):Ret Try.prog 23 us.toArray w (.tv (.tup [(true,[i64 4,i64 (0),i64 (0),i64 (0),i64 (0),i64 (v2 b),.fs 5 .u8 (b2 b),i64 (v1 b)]),(false,[i64 0])])):=by
      refine fn_ret (cxOkW Try.prog ints_ok [] [cGood,cClone] [cTake,cDone]) follows Try.func23 rfl 100 _ rfl (by simp) ?_ ha
      repeat' first
        | exact trivial
        | (refine And.intro (show regChk _ _ _ _ _=true from by kernel_rfl) (And.intro ?_ ?_))
        | (refine And.intro (fun _=>?_) (fun h=>absurd (show true=false from h) (by decide)))
        | (refine And.intro (fun h=>absurd (show false=true from h) (by decide)) (fun _=>?_))
        | (refine And.intro (fun hb=>?_) (fun hb'=>?_))
        | refine And.intro ?_ ?_
        | intro _
      all_goals first
        | (show some (CR.tv _)=some (CR.tv _);first|rfl|(exfalso;exact no hz (by assumption)))
        | (show BytesL _;first|exact hp|exact bb1 hp|exact bb2 hp|exact bb3 hp)
        | (show (0:Int)≤_;decide)
        | (show (_:Int)≤7;decide)
        | exact Nat.le_trans (bb2 hp).n (by decide)
        | (show True;trivial)
        | (show (_:Bool)=(_:Bool);first|assumption|exact gB (by assumption)|exact bq (by assumption)|exact bt (by assumption)|(exact an (by first|assumption|exact bq (by assumption)|exact bt (by assumption)) (by first|assumption|exact bq (by assumption)|exact bt (by assumption)))|rfl)
        -- PVC
theorem dec4_no {b:List Int} (hp:BytesL b) (hz:ts4 b=true) {us:List Value} {w:World} (ha:All2 (TV.reads (fun _=>0) w.heap.size w) [.sc (.v (.int .i64 4)),.sc (.sl .u8 b)] us):Ret Try.prog 23 us.toArray w (rZ):=by
      refine fn_ret (cxOkW Try.prog ints_ok [] [cGood,cClone] [cTake,cDone]) follows Try.func23 rfl 100 _ rfl (by simp) ?_ ha
      repeat' first
        | exact trivial
        | (refine And.intro (show regChk _ _ _ _ _=true from by kernel_rfl) (And.intro ?_ ?_))
        | (refine And.intro (fun _=>?_) (fun h=>absurd (show true=false from h) (by decide)))
        | (refine And.intro (fun h=>absurd (show false=true from h) (by decide)) (fun _=>?_))
        | (refine And.intro (fun hb=>?_) (fun hb'=>?_))
        | refine And.intro ?_ ?_
        | intro _
      all_goals first
        | (show some (CR.tv _)=some (CR.tv _);first|rfl|(exfalso;exact no (by assumption) hz))
        | (show BytesL _;first|exact hp|exact bb1 hp|exact bb2 hp|exact bb3 hp)
        | (show (0:Int)≤_;decide)
        | (show (_:Int)≤7;decide)
        | exact Nat.le_trans (bb2 hp).n (by decide)
        | (show True;trivial)
        | (show (_:Bool)=(_:Bool);first|assumption|exact gB (by assumption)|exact bq (by assumption)|exact bt (by assumption)|(exact an (by first|assumption|exact bq (by assumption)|exact bt (by assumption)) (by first|assumption|exact bq (by assumption)|exact bt (by assumption)))|rfl)
        -- PVC
abbrev ts5 (b:List Int):Bool:=tst (dn (b2 b) (o2 b)) (mayC 5 (0) (0) (0) (0) (v2 b) ([]) (v1 b))
theorem dec5_ok {b:List Int} (hp:BytesL b) (hz:ts5 b=false) {us:List Value} {w:World} (ha:All2 (TV.reads (fun _=>0) w.heap.size w) [.sc (.v (.int .i64 5)),.sc (.sl .u8 b)] us):Ret Try.prog 23 us.toArray w (.tv (.tup [(true,[i64 5,i64 (0),i64 (0),i64 (0),i64 (0),i64 (v2 b),nilA,i64 (v1 b)]),(false,[i64 0])])):=by
      refine fn_ret (cxOkW Try.prog ints_ok [] [cGood,cClone] [cTake,cDone]) follows Try.func23 rfl 100 _ rfl (by simp) ?_ ha
      repeat' first
        | exact trivial
        | (refine And.intro (show regChk _ _ _ _ _=true from by kernel_rfl) (And.intro ?_ ?_))
        | (refine And.intro (fun _=>?_) (fun h=>absurd (show true=false from h) (by decide)))
        | (refine And.intro (fun h=>absurd (show false=true from h) (by decide)) (fun _=>?_))
        | (refine And.intro (fun hb=>?_) (fun hb'=>?_))
        | refine And.intro ?_ ?_
        | intro _
      all_goals first
        | (show some (CR.tv _)=some (CR.tv _);first|rfl|(exfalso;exact no hz (by assumption)))
        | (show BytesL _;first|exact hp|exact bb1 hp|exact bb2 hp|exact bb3 hp)
        | (show (0:Int)≤_;decide)
        | (show (_:Int)≤7;decide)
        | exact Nat.le_trans (bb2 hp).n (by decide)
        | (show True;trivial)
        | (show (_:Bool)=(_:Bool);first|assumption|exact gB (by assumption)|exact bq (by assumption)|exact bt (by assumption)|(exact an (by first|assumption|exact bq (by assumption)|exact bt (by assumption)) (by first|assumption|exact bq (by assumption)|exact bt (by assumption)))|rfl)
        -- PVC
theorem dec5_no {b:List Int} (hp:BytesL b) (hz:ts5 b=true) {us:List Value} {w:World} (ha:All2 (TV.reads (fun _=>0) w.heap.size w) [.sc (.v (.int .i64 5)),.sc (.sl .u8 b)] us):Ret Try.prog 23 us.toArray w (rZ):=by
      refine fn_ret (cxOkW Try.prog ints_ok [] [cGood,cClone] [cTake,cDone]) follows Try.func23 rfl 100 _ rfl (by simp) ?_ ha
      repeat' first
        | exact trivial
        | (refine And.intro (show regChk _ _ _ _ _=true from by kernel_rfl) (And.intro ?_ ?_))
        | (refine And.intro (fun _=>?_) (fun h=>absurd (show true=false from h) (by decide)))
        | (refine And.intro (fun h=>absurd (show false=true from h) (by decide)) (fun _=>?_))
        | (refine And.intro (fun hb=>?_) (fun hb'=>?_))
        | refine And.intro ?_ ?_
        | intro _
      all_goals first
        | (show some (CR.tv _)=some (CR.tv _);first|rfl|(exfalso;exact no (by assumption) hz))
        | (show BytesL _;first|exact hp|exact bb1 hp|exact bb2 hp|exact bb3 hp)
        | (show (0:Int)≤_;decide)
        | (show (_:Int)≤7;decide)
        | exact Nat.le_trans (bb2 hp).n (by decide)
        | (show True;trivial)
        | (show (_:Bool)=(_:Bool);first|assumption|exact gB (by assumption)|exact bq (by assumption)|exact bt (by assumption)|(exact an (by first|assumption|exact bq (by assumption)|exact bt (by assumption)) (by first|assumption|exact bq (by assumption)|exact bt (by assumption)))|rfl)
        -- PVC
abbrev tso (kd:Int) (b:List Int):Bool:=tst (dn (b1 b) (o1 b)) (mayC kd (0) (0) (0) (0) (0) ([]) (v1 b))
theorem deco_ok {kd:Int} (h1:(kd == 1)=false) (h2:(kd == 2)=false) (h4:(kd == 4)=false) (h5:(kd == 5)=false) {b:List Int} (hp:BytesL b) (hz:tso kd b=false) {us:List Value} {w:World} (ha:All2 (TV.reads (fun _=>0) w.heap.size w) [.sc (.v (.int .i64 kd)),.sc (.sl .u8 b)] us):Ret Try.prog 23 us.toArray w (.tv (.tup [(true,[i64 kd,i64 (0),i64 (0),i64 (0),i64 (0),i64 (0),nilA,i64 (v1 b)]),(false,[i64 0])])):=by
      refine fn_ret (cxOkW Try.prog ints_ok [] [cGood,cClone] [cTake,cDone]) follows Try.func23 rfl 100 _ rfl (by simp) ?_ ha
      repeat' first
        | exact trivial
        | (refine And.intro (show regChk _ _ _ _ _=true from by kernel_rfl) (And.intro ?_ ?_))
        | (refine And.intro (fun _=>?_) (fun h=>absurd (show true=false from h) (by decide)))
        | (refine And.intro (fun h=>absurd (show false=true from h) (by decide)) (fun _=>?_))
        | (refine And.intro (fun hb=>?_) (fun hb'=>?_))
        | refine And.intro ?_ ?_
        | intro _
      all_goals first
        | (exfalso;first|exact no h1 (by assumption)|exact no h2 (by assumption)|exact no h4 (by assumption)|exact no h5 (by assumption))
        | (show some (CR.tv _)=some (CR.tv _);first|rfl|(exfalso;exact no hz (by assumption)))
        | (show BytesL _;first|exact hp|exact bb1 hp|exact bb2 hp|exact bb3 hp)
        | (show (0:Int)≤_;decide)
        | (show (_:Int)≤7;decide)
        | exact Nat.le_trans (bb2 hp).n (by decide)
        | (show True;trivial)
        | (show (_:Bool)=(_:Bool);first|assumption|exact gB (by assumption)|exact bq (by assumption)|exact bt (by assumption)|(exact an (by first|assumption|exact bq (by assumption)|exact bt (by assumption)) (by first|assumption|exact bq (by assumption)|exact bt (by assumption)))|rfl)
        -- PVC
theorem deco_no {kd:Int} (h1:(kd == 1)=false) (h2:(kd == 2)=false) (h4:(kd == 4)=false) (h5:(kd == 5)=false) {b:List Int} (hp:BytesL b) (hz:tso kd b=true) {us:List Value} {w:World} (ha:All2 (TV.reads (fun _=>0) w.heap.size w) [.sc (.v (.int .i64 kd)),.sc (.sl .u8 b)] us):Ret Try.prog 23 us.toArray w (rZ):=by
      refine fn_ret (cxOkW Try.prog ints_ok [] [cGood,cClone] [cTake,cDone]) follows Try.func23 rfl 100 _ rfl (by simp) ?_ ha
      repeat' first
        | exact trivial
        | (refine And.intro (show regChk _ _ _ _ _=true from by kernel_rfl) (And.intro ?_ ?_))
        | (refine And.intro (fun _=>?_) (fun h=>absurd (show true=false from h) (by decide)))
        | (refine And.intro (fun h=>absurd (show false=true from h) (by decide)) (fun _=>?_))
        | (refine And.intro (fun hb=>?_) (fun hb'=>?_))
        | refine And.intro ?_ ?_
        | intro _
      all_goals first
        | (exfalso;first|exact no h1 (by assumption)|exact no h2 (by assumption)|exact no h4 (by assumption)|exact no h5 (by assumption))
        | (show some (CR.tv _)=some (CR.tv _);first|rfl|(exfalso;exact no (by assumption) hz))
        | (show BytesL _;first|exact hp|exact bb1 hp|exact bb2 hp|exact bb3 hp)
        | (show (0:Int)≤_;decide)
        | (show (_:Int)≤7;decide)
        | exact Nat.le_trans (bb2 hp).n (by decide)
        | (show True;trivial)
        | (show (_:Bool)=(_:Bool);first|assumption|exact gB (by assumption)|exact bq (by assumption)|exact bt (by assumption)|(exact an (by first|assumption|exact bq (by assumption)|exact bt (by assumption)) (by first|assumption|exact bq (by assumption)|exact bt (by assumption)))|rfl)
        -- PVC
end
end Go.Proofs.Ytaeabemipnbgbaa.PCm
end
section
set_option linter.unusedVariables false
set_option linter.unusedSimpArgs false
namespace Go.Proofs.Ytaeabemipnbgbaa.PCm
open Go RowKit Ytaeabemipnbgbaa.QCm YtaeabemipnbgbaaW.PrintWords YtaeabemipnbgbaaW.PrintMore YtaeabemipnbgbaaW.Aid YtaeabemipnbgbaaW.Big YtaeabemipnbgbaaW.Sx Go.Proofs
def cmdOf (kd:Int) (b:List Int):Int × Int × Int × Int × Int × List Int × Int :=
  if kd=1 then (rd b 0,rd b 1,rd b 2*256+rd b 3,((rd b 4*256+rd b 5)*256+rd b 6)*256+rd b 7,0,[],rd b 0)
  else if kd=2 then (rd b 0,rd b 1,0,0,0,[],rd b 0)
  else if kd=4 then (0,0,0,0,rd b 1,b.drop 2,rd b 0)
  else if kd=5 then (0,0,0,0,rd b 1,[],rd b 0)
  else (0,0,0,0,0,[],rd b 0)
def lenOk (kd:Int) (b:List Int):Prop:=(kd=1∧b.length=8)∨((kd=2∨kd=5)∧b.length=2)∨(kd=4∧2≤b.length)∨((kd=3∨kd=6)∧b.length=1)
instance (kd:Int) (b:List Int):Decidable (lenOk kd b):=by unfold lenOk;exact inferInstance
def MayD (kd:Int) (b:List Int):Prop:=lenOk kd b∧MayC kd (cmdOf kd b).1 (cmdOf kd b).2.1 (cmdOf kd b).2.2.1 (cmdOf kd b).2.2.2.1 (cmdOf kd b).2.2.2.2.1 (cmdOf kd b).2.2.2.2.2.1 (cmdOf kd b).2.2.2.2.2.2
instance (kd:Int) (b:List Int):Decidable (MayD kd b):=by unfold MayD;exact inferInstance
theorem n1 {l:List Int} (h:1≤l.length):num (l.take 1)=rd l 0:=by
  match l,h with
  | x::r,_=>simp [num,rd]
theorem n2 {l:List Int} (h:2≤l.length):num (l.take 2)=rd l 0*256+rd l 1:=by
  match l,h with
  | x::y::r,_=>simp [num,rd]
theorem n4 {l:List Int} (h:4≤l.length):num (l.take 4)=((rd l 0*256+rd l 1)*256+rd l 2)*256+rd l 3:=by
  match l,h with
  | x::y::z::u::r,_=>simp [num,rd]
theorem rd_drop (l:List Int) (k:Nat) (i:Nat):rd (l.drop k) (i:Int)=rd l ((k+i:Nat):Int):=by
  unfold rd
  rw [List.getD_eq_getElem?_getD,List.getD_eq_getElem?_getD,List.getElem?_drop,Int.toNat_natCast,Int.toNat_natCast]
theorem tk_t {n:Int} {l:List Int} (h0:0≤n) (h:n≤(l.length:Int)):tkOk n l true=true∧tkL n l true=l.drop n.toNat∧tkV n l true=num (l.take n.toNat):=by
  have e:tkOk n l true=true:=by simp [tkOk,h]
  unfold tkL tkV
  rw [e]
  exact ⟨rfl,rfl,rfl⟩
theorem tk_len {n:Int} {l:List Int} {o:Bool} (h:tkOk n l o=true):o=true∧n≤(l.length:Int):=by
  simp only [tkOk,Bool.and_eq_true,decide_eq_true_eq] at h
  exact h
theorem d1 {b:List Int} (h:1≤b.length):o1 b=true∧b1 b=b.drop 1∧v1 b=rd b 0:=by
  obtain ⟨e1,e2,e3⟩:=tk_t (n:=1) (l:=b) (by decide) (by omega)
  exact ⟨e1,e2,e3.trans (n1 h)⟩
theorem d2 {b:List Int} (h:2≤b.length):o2 b=true∧b2 b=b.drop 2∧v2 b=rd b 1:=by
  obtain ⟨h1,h2,_⟩:=d1 (b:=b) (by omega)
  unfold o2 b2 v2
  rw [h1,h2]
  obtain ⟨e1,e2,e3⟩:=tk_t (n:=1) (l:=b.drop 1) (by decide) (by simp only [List.length_drop];omega)
  refine ⟨e1,e2.trans (by rw [List.drop_drop];rfl),e3.trans ((n1 (by simp only [List.length_drop];omega)).trans (rd_drop b 1 0))⟩
theorem d3 {b:List Int} (h:4≤b.length):o3 b=true∧b3 b=b.drop 4∧v3 b=rd b 2*256+rd b 3:=by
  obtain ⟨h1,h2,_⟩:=d2 (b:=b) (by omega)
  unfold o3 b3 v3
  rw [h1,h2]
  obtain ⟨e1,e2,e3⟩:=tk_t (n:=2) (l:=b.drop 2) (by decide) (by simp only [List.length_drop];omega)
  refine ⟨e1,e2.trans (by rw [List.drop_drop];rfl),e3.trans ((n2 (by simp only [List.length_drop];omega)).trans (by rw [show (0:Int)=((0:Nat):Int) from rfl,show (1:Int)=((1:Nat):Int) from rfl,rd_drop,rd_drop];rfl))⟩
theorem d4 {b:List Int} (h:8≤b.length):o4 b=true∧b4 b=b.drop 8∧v4 b=((rd b 4*256+rd b 5)*256+rd b 6)*256+rd b 7:=by
  obtain ⟨h1,h2,_⟩:=d3 (b:=b) (by omega)
  unfold o4 b4 v4
  rw [h1,h2]
  obtain ⟨e1,e2,e3⟩:=tk_t (n:=4) (l:=b.drop 4) (by decide) (by simp only [List.length_drop];omega)
  refine ⟨e1,e2.trans (by rw [List.drop_drop];rfl),e3.trans ((n4 (by simp only [List.length_drop];omega)).trans (by rw [show (0:Int)=((0:Nat):Int) from rfl,show (1:Int)=((1:Nat):Int) from rfl,show (2:Int)=((2:Nat):Int) from rfl,show (3:Int)=((3:Nat):Int) from rfl,rd_drop,rd_drop,rd_drop,rd_drop];rfl))⟩
theorem o1_l {b:List Int} (h:o1 b=true):1≤b.length:=by have:=(tk_len h).2;omega
theorem o2_l {b:List Int} (h:o2 b=true):2≤b.length:=by
  obtain ⟨h1,h2⟩:=tk_len h
  have h3:=o1_l h1
  rw [(d1 h3).2.1,List.length_drop] at h2
  omega
theorem o3_l {b:List Int} (h:o3 b=true):4≤b.length:=by
  obtain ⟨h1,h2⟩:=tk_len h
  have h3:=o2_l h1
  rw [(d2 h3).2.1,List.length_drop] at h2
  omega
theorem o4_l {b:List Int} (h:o4 b=true):8≤b.length:=by
  obtain ⟨h1,h2⟩:=tk_len h
  have h3:=o3_l h1
  rw [(d3 h3).2.1,List.length_drop] at h2
  omega
theorem dn_t {l:List Int} {o:Bool} (h:dn l o=true):o=true∧l.length=0:=by
  unfold dn at h
  cases o with
  | true=>simp at h;exact ⟨rfl,by simpa using h⟩
  | false=>cases h
theorem ts_f {d g:Bool} (h:tst d g=false):d=true∧g=true:=by
  cases d<;>cases g<;>first|exact ⟨rfl,rfl⟩|cases h
theorem dn_1 {b:List Int}:dn (b4 b) (o4 b)=true↔b.length=8:=by
  constructor
  · intro h
    obtain ⟨h1,h2⟩:=dn_t h
    have h3:=o4_l h1
    rw [(d4 h3).2.1,List.length_drop] at h2;omega
  · intro h
    obtain ⟨e1,e2,_⟩:=d4 (b:=b) (by omega)
    unfold dn;rw [e1,e2];simp;omega
theorem dn_2 {b:List Int}:dn (b2 b) (o2 b)=true↔b.length=2:=by
  constructor
  · intro h
    obtain ⟨h1,h2⟩:=dn_t h
    have h3:=o2_l h1
    rw [(d2 h3).2.1,List.length_drop] at h2;omega
  · intro h
    obtain ⟨e1,e2,_⟩:=d2 (b:=b) (by omega)
    unfold dn;rw [e1,e2];simp;omega
theorem dn_4 {b:List Int}:dn [] (o2 b)=true↔2≤b.length:=by
  constructor
  · intro h;exact o2_l (dn_t h).1
  · intro h
    unfold dn;rw [(d2 h).1];rfl
theorem dn_o {b:List Int}:dn (b1 b) (o1 b)=true↔b.length=1:=by
  constructor
  · intro h
    obtain ⟨h1,h2⟩:=dn_t h
    have h3:=o1_l h1
    rw [(d1 h3).2.1,List.length_drop] at h2;omega
  · intro h
    obtain ⟨e1,e2,_⟩:=d1 (b:=b) (by omega)
    unfold dn;rw [e1,e2];simp;omega
theorem c1 {b:List Int} (h:b.length=8):cmdOf 1 b=(v1 b,v2 b,v3 b,v4 b,0,[],v1 b):=by
  rw [(d1 (b:=b) (by omega)).2.2,(d2 (b:=b) (by omega)).2.2,(d3 (b:=b) (by omega)).2.2,(d4 (b:=b) (by omega)).2.2];rfl
theorem c2 {b:List Int} (h:b.length=2):cmdOf 2 b=(v1 b,v2 b,0,0,0,[],v1 b):=by
  rw [(d1 (b:=b) (by omega)).2.2,(d2 (b:=b) (by omega)).2.2];rfl
theorem c4 {b:List Int} (h:2≤b.length):cmdOf 4 b=(0,0,0,0,v2 b,b2 b,v1 b):=by
  rw [(d1 (b:=b) (by omega)).2.2,(d2 (b:=b) (by omega)).2.2,(d2 h).2.1];rfl
theorem c5 {b:List Int} (h:b.length=2):cmdOf 5 b=(0,0,0,0,v2 b,[],v1 b):=by
  rw [(d1 (b:=b) (by omega)).2.2,(d2 (b:=b) (by omega)).2.2];rfl
theorem co {kd:Int} {b:List Int} (k1:kd≠1) (k2:kd≠2) (k4:kd≠4) (k5:kd≠5) (h:b.length=1):cmdOf kd b=(0,0,0,0,0,[],v1 b):=by
  rw [(d1 (b:=b) (by omega)).2.2];unfold cmdOf;rw [if_neg k1,if_neg k2,if_neg k4,if_neg k5]
theorem may_kd {kd c s p t key cl:Int} {l:List Int} (h:MayC kd c s p t key l cl):1≤kd∧kd≤6:=by unfold MayC at h;omega
theorem ts1_iff {b:List Int}:ts1 b=false↔MayD 1 b:=by
  constructor
  · intro h
    obtain ⟨h1,h2⟩:=ts_f h
    have hl:=dn_1.1 h1
    refine ⟨.inl ⟨rfl,hl⟩,?_⟩
    rw [c1 hl];exact of_decide_eq_true h2
  · rintro ⟨h1,h2⟩
    have hl:b.length=8:=by unfold lenOk at h1;omega
    rw [c1 hl] at h2
    show tst _ _=false
    rw [dn_1.2 hl,show mayC 1 (v1 b) (v2 b) (v3 b) (v4 b) 0 [] (v1 b)=true from decide_eq_true h2];rfl
theorem ts2_iff {b:List Int}:ts2 b=false↔MayD 2 b:=by
  constructor
  · intro h
    obtain ⟨h1,h2⟩:=ts_f h
    have hl:=dn_2.1 h1
    refine ⟨.inr (.inl ⟨.inl rfl,hl⟩),?_⟩
    rw [c2 hl];exact of_decide_eq_true h2
  · rintro ⟨h1,h2⟩
    have hl:b.length=2:=by unfold lenOk at h1;omega
    rw [c2 hl] at h2
    show tst _ _=false
    rw [dn_2.2 hl,show mayC 2 (v1 b) (v2 b) 0 0 0 [] (v1 b)=true from decide_eq_true h2];rfl
theorem ts4_iff {b:List Int}:ts4 b=false↔MayD 4 b:=by
  constructor
  · intro h
    obtain ⟨h1,h2⟩:=ts_f h
    have hl:=dn_4.1 h1
    refine ⟨.inr (.inr (.inl ⟨rfl,hl⟩)),?_⟩
    rw [c4 hl];exact of_decide_eq_true h2
  · rintro ⟨h1,h2⟩
    have hl:2≤b.length:=by unfold lenOk at h1;omega
    rw [c4 hl] at h2
    show tst _ _=false
    rw [dn_4.2 hl,show mayC 4 0 0 0 0 (v2 b) (b2 b) (v1 b)=true from decide_eq_true h2];rfl
theorem ts5_iff {b:List Int}:ts5 b=false↔MayD 5 b:=by
  constructor
  · intro h
    obtain ⟨h1,h2⟩:=ts_f h
    have hl:=dn_2.1 h1
    refine ⟨.inr (.inl ⟨.inr rfl,hl⟩),?_⟩
    rw [c5 hl];exact of_decide_eq_true h2
  · rintro ⟨h1,h2⟩
    have hl:b.length=2:=by unfold lenOk at h1;omega
    rw [c5 hl] at h2
    show tst _ _=false
    rw [dn_2.2 hl,show mayC 5 0 0 0 0 (v2 b) [] (v1 b)=true from decide_eq_true h2];rfl
theorem tso_iff {kd:Int} {b:List Int} (k1:kd≠1) (k2:kd≠2) (k4:kd≠4) (k5:kd≠5):tso kd b=false↔MayD kd b:=by
  constructor
  · intro h
    obtain ⟨h1,h2⟩:=ts_f h
    have hl:=dn_o.1 h1
    have h3:=of_decide_eq_true h2
    have hk:=may_kd h3
    refine ⟨.inr (.inr (.inr ⟨by omega,hl⟩)),?_⟩
    rw [co k1 k2 k4 k5 hl];exact h3
  · rintro ⟨h1,h2⟩
    have hl:b.length=1:=by unfold lenOk at h1;omega
    rw [co k1 k2 k4 k5 hl] at h2
    show tst _ _=false
    rw [dn_o.2 hl,show mayC kd 0 0 0 0 0 [] (v1 b)=true from decide_eq_true h2];rfl
def decC (kd:Int) (b:List Int):(Int × Int × Int × Int × Int × Int × List Int × Int) × Int:=if MayD kd b then ((kd,cmdOf kd b),0) else ((0,0,0,0,0,0,[],0),1)
abbrev cellsD (x:Int × Int × Int × Int × Int × Int × List Int × Int):List A0:=[i64 x.1,i64 x.2.1,i64 x.2.2.1,i64 x.2.2.2.1,i64 x.2.2.2.2.1,i64 x.2.2.2.2.2.1,.fs 5 .u8 x.2.2.2.2.2.2.1,i64 x.2.2.2.2.2.2.2]
abbrev rC (x:(Int × Int × Int × Int × Int × Int × List Int × Int) × Int):CR := .tv (.tup [(true,cellsD x.1),(false,[i64 x.2])])
theorem fsnil {N:Nat} {w:World} {u:Value} (h:(nilA).reads N w u):(A0.fs 5 .u8 []).reads N w u:=by
  rw [show u=_ from h]
  exact fs_told (Kd.R_nil _ _ _ _ _)
theorem nil_ret {f:FuncId} {us:Array Value} {w:World} {a b c d e g h y:A0} (k:Ret Try.prog f us w (.tv (.tup [(true,[a,b,c,d,e,g,nilA,h]),(false,[y])]))):Ret Try.prog f us w (.tv (.tup [(true,[a,b,c,d,e,g,.fs 5 .u8 [],h]),(false,[y])])):=by
  refine k.mono ?_
  rintro en w' ⟨u,he,⟨us1,rfl,h1⟩,hB⟩
  refine ⟨_,he,⟨us1,rfl,?_⟩,hB⟩
  cases h1 with
  | cons h1 h2 =>
    obtain ⟨us2,rfl,h3⟩:=h1
    obtain ⟨a1,a2,a3,a4,a5,a6,a7,a8,rfl,k1,k2,k3,k4,k5,k6,k7,k8⟩:=all2_8 h3
    exact .cons ⟨_,rfl,.cons k1 (.cons k2 (.cons k3 (.cons k4 (.cons k5 (.cons k6 (.cons (fsnil k7) (.cons k8 .nil)))))))⟩ h2
theorem decC_t {kd:Int} {b:List Int} {x:Int × Int × Int × Int × Int × List Int × Int} (h:MayD kd b) (e:cmdOf kd b=x):decC kd b=((kd,x),0):=by unfold decC;rw [if_pos h,e]
theorem decC_f {kd:Int} {b:List Int} (h:¬ MayD kd b):decC kd b=((0,0,0,0,0,0,[],0),1):=by unfold decC;rw [if_neg h]
def cDec:Con Try.prog where
  f:=23
  sem:=fun xs=>match xs with
    | [.sc (.v (.int .i64 kd)),.sc (.sl .u8 b)]=>some (BytesL b,rC (decC kd b))
    | _=>none
  ok := by
    intro xs q r h hp
    refine ⟨⟨_,Try.func23,by kernel_rfl,rfl⟩,fun us w ha=>?_⟩
    split at h
    · rename_i kd b
      cases h
      by_cases k1:kd=1
      · subst k1
        cases hz:ts1 b with
        | false=>have hm:=ts1_iff.1 hz;rw [decC_t hm (c1 (by have:=hm.1;unfold lenOk at this;omega))];exact nil_ret (dec1_ok hp hz ha)
        | true=>rw [decC_f (fun hm=>no (ts1_iff.2 hm) hz)];exact nil_ret (dec1_no hp hz ha)
      by_cases k2:kd=2
      · subst k2
        cases hz:ts2 b with
        | false=>have hm:=ts2_iff.1 hz;rw [decC_t hm (c2 (by have:=hm.1;unfold lenOk at this;omega))];exact nil_ret (dec2_ok hp hz ha)
        | true=>rw [decC_f (fun hm=>no (ts2_iff.2 hm) hz)];exact nil_ret (dec2_no hp hz ha)
      by_cases k4:kd=4
      · subst k4
        cases hz:ts4 b with
        | false=>have hm:=ts4_iff.1 hz;rw [decC_t hm (c4 (by have:=hm.1;unfold lenOk at this;omega))];exact dec4_ok hp hz ha
        | true=>rw [decC_f (fun hm=>no (ts4_iff.2 hm) hz)];exact nil_ret (dec4_no hp hz ha)
      by_cases k5:kd=5
      · subst k5
        cases hz:ts5 b with
        | false=>have hm:=ts5_iff.1 hz;rw [decC_t hm (c5 (by have:=hm.1;unfold lenOk at this;omega))];exact nil_ret (dec5_ok hp hz ha)
        | true=>rw [decC_f (fun hm=>no (ts5_iff.2 hm) hz)];exact nil_ret (dec5_no hp hz ha)
      cases hz:tso kd b with
      | false=>have hm:=(tso_iff k1 k2 k4 k5).1 hz;rw [decC_t hm (co k1 k2 k4 k5 (by have:=hm.1;unfold lenOk at this;omega))];exact nil_ret (deco_ok (by simpa using k1) (by simpa using k2) (by simpa using k4) (by simpa using k5) hp hz ha)
      | true=>rw [decC_f (fun hm=>no ((tso_iff k1 k2 k4 k5).2 hm) hz)];exact nil_ret (deco_no (by simpa using k1) (by simpa using k2) (by simpa using k4) (by simpa using k5) hp hz ha)
    · cases h
end Go.Proofs.Ytaeabemipnbgbaa.PCm
end
section
set_option linter.unusedVariables false
set_option linter.unusedSimpArgs false
namespace Go.Proofs.Ytaeabemipnbgbaa.PCm
open Go RowKit Ytaeabemipnbgbaa.QCm YtaeabemipnbgbaaW.PrintWords YtaeabemipnbgbaaW.PrintMore YtaeabemipnbgbaaW.Aid YtaeabemipnbgbaaW.Big YtaeabemipnbgbaaW.Sx Go.Proofs
theorem number_ev {s:List Int} (hb:Bytes s) (hs:s.length≤7):∀ (m:Nat) (i:Nat),s.length-i=m→i≤s.length→Ev (fun k=>gimbalref25_number.l0 k s (num (s.take i)) i) (num s):=by
  intro m
  induction m with
  | zero =>
    intro i hm hi
    refine Ev.shift (Ev.pure fun k=>?_)
    simp only [gimbalref25_number.l0]
    rw [if_neg (by omega),List.take_of_length_le (by omega)]
  | succ m ih =>
    intro i hm hi
    have hil:i<s.length:=by omega
    have e1:rd s (i:Int)=s[i]:=by obtain ⟨h1,h2⟩:=rd_at (l:=s) (i:=(i:Int)) (by omega) (by omega);simpa using h2
    have hx:=hb.rd (i:=(i:Int)) (by omega) (by omega)
    have hq:(s.take i).length≤6:=by rw [List.length_take];omega
    have hn:0≤num (s.take i)∧num (s.take i)<281474976710656:=by
      obtain ⟨h1,h2⟩:=num_bd _ (s.take i) (hb.take i) rfl
      refine ⟨h1,?_⟩
      have hc:(s.take i).length=0∨(s.take i).length=1∨(s.take i).length=2∨(s.take i).length=3∨(s.take i).length=4∨(s.take i).length=5∨(s.take i).length=6:=by omega
      rcases hc with h|h|h|h|h|h|h<;>(rw [h] at h2;simp at h2;omega)
    refine Ev.shift ?_
    simp only [gimbalref25_number.l0]
    have e2:Go.bits .or .i64 (wrap64 (num (s.take i)*256)) (wrap64 (rd s (i:Int)))=num (s.take (i+1)):=by
      rw [List.take_succ_eq_append_getElem hil,num_snoc,← e1,wrap64_id (by omega) (by omega),wrap64_id (by omega) (by omega)]
      exact bits_join .i64 63 (by decide) (fun n h0 h1=>by rw [Cmd.i64w];exact wrap64_id (by omega) (by omega)) 8 (num (s.take i)*256) (rd s (i:Int)) (by omega) (by omega) (by omega) hx.1 (by omega) (by omega)
    refine Ev.congr (fun k=>?_) (ih (i+1) (by omega) (by omega))
    rw [if_pos (by omega),if_pos (by omega),e2,wrap64_id (by omega) (by omega)]
    rfl
def cNumb:Con Try.prog where
  f:=76
  sem:=fun xs=>match xs with
    | [.sc (.sl .u8 l)]=>some (BytesL l∧l.length≤7,.tv (tI (num l)))
    | _=>none
  ok:=by
    intro xs p r h hp
    refine ⟨⟨_,Try.func76,by kernel_rfl,rfl⟩,fun us w ha=>?_⟩
    split at h
    · rename_i l
      cases h
      obtain ⟨u,rfl,hu⟩:=all2_1 ha
      obtain ⟨A,c,rfl,h1,h2⟩:=byteL_reads (c := .sl .u8 l) rfl hu
      have h0:=number_ev hp.1.1 hp.2 _ 0 rfl (Nat.zero_le _)
      obtain ⟨k,hk⟩:=Ev.rounds h0
      exact Ret.val ((gimbalref25_number.calls k A c l _ w h2 h1 hk).mono fun e w' h=>⟨h.1,drawn_below h.2⟩)
    · cases h
section
set_option maxRecDepth 100000
set_option maxHeartbeats 8000000
abbrev rD (kd:Int) (b:List Int):CR := .tv (.tup [(true,cellsD (decC kd b).1),(false,[.v (.bool (decide (MayD kd b)))])])
theorem rdB {b:List Int} (hp:BytesL b) (i:Int):0≤rd b i∧rd b i≤255:=by
  unfold rd
  rw [List.getD_eq_getElem?_getD]
  cases e:b[i.toNat]? with
  | none=>exact ⟨Int.le_refl _,by decide⟩
  | some x=>exact hp.1 x (List.mem_of_getElem? e)
theorem w0 {b:List Int} (hp:BytesL b) (i:Int):IntKind.i64.wrap (rd b i)=rd b i:=by
  have:=rdB hp i
  rw [Cmd.i64w];exact wrap64_id (by omega) (by omega)
theorem n24 {b:List Int} (h:b.length=8):num (List.drop (Int.toNat 2) (List.take (Int.toNat 4) b))=rd b 2*256+rd b 3:=by
  match b,h with
  | [x0,x1,x2,x3,x4,x5,x6,x7],_=>simp [num,rd]
theorem n48 {b:List Int} (h:b.length=8):num (List.drop (Int.toNat 4) (List.take (Int.toNat 8) b))=((rd b 4*256+rd b 5)*256+rd b 6)*256+rd b 7:=by
  match b,h with
  | [x0,x1,x2,x3,x4,x5,x6,x7],_=>simp [num,rd]
theorem bl {b:List Int} (hp:BytesL b) (i j:Int):BytesL (List.drop i.toNat (List.take j.toNat b)):=⟨(hp.1.take _).drop _,by have:=hp.2;rw [List.length_drop,List.length_take];omega⟩
theorem bd {b:List Int} (hp:BytesL b) (i:Int):BytesL (List.drop i.toNat b):=⟨hp.1.drop _,by have:=hp.2;rw [List.length_drop];omega⟩
theorem l47 (b:List Int) (i:Int) (j:Int) (h:j≤i+7) (h0:0≤i):(List.drop i.toNat (List.take j.toNat b)).length≤7:=by rw [List.length_drop,List.length_take];omega
theorem lq {b:List Int} {k:Int} (h:((b.length:Int) == k)=true):(b.length:Int)=k:=eq_of_beq h
theorem ix {b:List Int} {k i:Int} (h:((b.length:Int) == k)=true) (hi:i<k):i<(b.length:Int):=by rw [lq h];exact hi
theorem ixl {b:List Int} {k i:Int} (h:((b.length:Int) == k)=true) (hi:i≤k):i≤(b.length:Int):=by rw [lq h];exact hi
theorem ix1 {b:List Int} (h:decide ((b.length:Int)<1)=false):0<(b.length:Int):=by have:=of_decide_eq_false h;omega
theorem ml {kd:Int} {b:List Int} (hz:MayD kd b) (h:decide ((b.length:Int)<1)=true):False:=by
  have:=of_decide_eq_true h
  have:=hz.1
  unfold lenOk at this;omega
theorem mn {kd k:Int} {b:List Int} (hz:MayD kd b) (h:((b.length:Int) == k)=false) (h1:kd=1→k=8) (h2:kd=2∨kd=5→k=2) (h3:kd≠4) (h4:kd=3∨kd=6→k=1):False:=by
  have h':(b.length:Int)≠k:=fun e=>by rw [e] at h;simp at h
  have:=hz.1
  unfold lenOk at this;omega
theorem cbn {len k:Int} {x:Bool} (h:(len == k)=false) (h':(bif k != len then true else x)=false):False:=by
  have h1:(k != len)=true:=by
    have:len≠k:=fun e=>by rw [e] at h;simp at h
    exact bne_iff_ne.2 (fun e=>this e.symm)
  rw [h1] at h';cases h'
theorem t1_iff {b:List Int} (hp:BytesL b) (h:((b.length:Int) == 8)=true):(bif (8:Int) != (b.length:Int) then true else !mayC 1 (IntKind.i64.wrap (rd b 0)) (IntKind.i64.wrap (rd b 1)) (num (List.drop (Int.toNat 2) (List.take (Int.toNat 4) b))) (num (List.drop (Int.toNat 4) (List.take (Int.toNat 8) b))) 0 [] (IntKind.i64.wrap (rd b 0)))=false↔MayD 1 b:=by
  have hl:b.length=8:=by have:=lq h;omega
  rw [show ((8:Int) != (b.length:Int))=false by simp;omega,cond_false,w0 hp,w0 hp,n24 hl,n48 hl]
  constructor
  · intro h;exact ⟨.inl ⟨rfl,hl⟩,of_decide_eq_true (nt h)⟩
  · rintro ⟨_,hm⟩
    show (!mayC 1 (rd b 0) (rd b 1) (rd b 2*256+rd b 3) (((rd b 4*256+rd b 5)*256+rd b 6)*256+rd b 7) 0 [] (rd b 0))=false
    rw [show mayC 1 (rd b 0) (rd b 1) (rd b 2*256+rd b 3) (((rd b 4*256+rd b 5)*256+rd b 6)*256+rd b 7) 0 [] (rd b 0)=true from decide_eq_true hm];rfl
theorem e1 {b:List Int} (hp:BytesL b) (h:((b.length:Int) == 8)=true):some (CR.tv (.tup [(true,[i64 (1),i64 (IntKind.i64.wrap (rd b 0)),i64 (IntKind.i64.wrap (rd b 1)),i64 (num (List.drop (Int.toNat 2) (List.take (Int.toNat 4) b))),i64 (num (List.drop (Int.toNat 4) (List.take (Int.toNat 8) b))),i64 0,nilA,i64 (IntKind.i64.wrap (rd b 0))]),(false,[.v (.bool true)])]))=some (CR.tv (.tup [(true,[i64 (1),i64 (rd b 0),i64 (rd b 1),i64 (rd b 2*256+rd b 3),i64 (((rd b 4*256+rd b 5)*256+rd b 6)*256+rd b 7),i64 0,nilA,i64 (rd b 0)]),(false,[.v (.bool true)])])):=by
  have hl:b.length=8:=by have:=lq h;omega
  rw [w0 hp,w0 hp,n24 hl,n48 hl]
theorem dr1_ok {b:List Int} (hp:BytesL b) (hz:MayD 1 b) {us:List Value} {w:World} (ha:All2 (TV.reads (fun _=>0) w.heap.size w) [.sc (.v (.int .i64 1)),.sc (.sl .u8 b)] us):Ret Try.prog 25 us.toArray w (.tv (.tup [(true,[i64 (1),i64 (rd b 0),i64 (rd b 1),i64 (rd b 2*256+rd b 3),i64 (((rd b 4*256+rd b 5)*256+rd b 6)*256+rd b 7),i64 0,nilA,i64 (rd b 0)]),(false,[.v (.bool true)])])):=by
      refine fn_ret (cxOk Try.prog ints_ok [] [cMay,cNumb,cCopy]) follows Try.func25 rfl 100 _ rfl (by simp) ?_ ha
      repeat' first
        | exact trivial
        | (refine And.intro (show regChk _ _ _ _ _=true from by kernel_rfl) (And.intro ?_ ?_))
        | (refine And.intro (fun _=>?_) (fun h=>absurd (show true=false from h) (by decide)))
        | (refine And.intro (fun h=>absurd (show false=true from h) (by decide)) (fun _=>?_))
        | (refine And.intro (fun hb=>?_) (fun hb'=>?_))
        | refine And.intro ?_ ?_
        | intro _
      all_goals first
        | (show some (CR.tv _)=some (CR.tv _);first|exact e1 hp (by assumption)|(exfalso;exact ml hz (by assumption))|(exfalso;exact no ((t1_iff hp (by assumption)).2 hz) (by assumption))|(exfalso;exact mn hz (by assumption) (by decide) (by decide) (by decide) (by decide)))
        | (show BytesL _;first|exact hp|exact bl hp _ _)
        | (show (0:Int)≤_;decide)
        | (show (_:Int)<((List.length _:Nat):Int);first|exact ix (by assumption) (by decide)|exact ix1 (by assumption))
        | (show (_:Int)≤((List.length _:Nat):Int);exact ixl (by assumption) (by decide))
        | exact l47 _ _ _ (by decide) (by decide)
        | (show (_:Int)≤(_:Int);decide)
        | exact Nat.zero_le _
        | (show True;trivial)
        | (show (_:Bool)=(_:Bool);first|assumption|exact gB (by assumption)|exact bq (by assumption)|exact bt (by assumption)|(exact an (by first|assumption|exact bq (by assumption)|exact bt (by assumption)) (by first|assumption|exact bq (by assumption)|exact bt (by assumption)))|rfl)
        -- PVC
theorem dr1_no {b:List Int} (hp:BytesL b) (hz:¬ MayD 1 b) {us:List Value} {w:World} (ha:All2 (TV.reads (fun _=>0) w.heap.size w) [.sc (.v (.int .i64 1)),.sc (.sl .u8 b)] us):Ret Try.prog 25 us.toArray w (.tv (.tup [(true,[i64 0,i64 0,i64 0,i64 0,i64 0,i64 0,nilA,i64 0]),(false,[.v (.bool false)])])):=by
      refine fn_ret (cxOk Try.prog ints_ok [] [cMay,cNumb,cCopy]) follows Try.func25 rfl 100 _ rfl (by simp) ?_ ha
      repeat' first
        | exact trivial
        | (refine And.intro (show regChk _ _ _ _ _=true from by kernel_rfl) (And.intro ?_ ?_))
        | (refine And.intro (fun _=>?_) (fun h=>absurd (show true=false from h) (by decide)))
        | (refine And.intro (fun h=>absurd (show false=true from h) (by decide)) (fun _=>?_))
        | (refine And.intro (fun hb=>?_) (fun hb'=>?_))
        | refine And.intro ?_ ?_
        | intro _
      all_goals first
        | (show some (CR.tv _)=some (CR.tv _);first|rfl|(exfalso;exact hz ((t1_iff hp (by assumption)).1 (by assumption)))|(exfalso;exact cbn (by assumption) (by assumption)))
        | (show BytesL _;first|exact hp|exact bl hp _ _)
        | (show (0:Int)≤_;decide)
        | (show (_:Int)<((List.length _:Nat):Int);first|exact ix (by assumption) (by decide)|exact ix1 (by assumption))
        | (show (_:Int)≤((List.length _:Nat):Int);exact ixl (by assumption) (by decide))
        | exact l47 _ _ _ (by decide) (by decide)
        | (show (_:Int)≤(_:Int);decide)
        | exact Nat.zero_le _
        | (show True;trivial)
        | (show (_:Bool)=(_:Bool);first|assumption|exact gB (by assumption)|exact bq (by assumption)|exact bt (by assumption)|(exact an (by first|assumption|exact bq (by assumption)|exact bt (by assumption)) (by first|assumption|exact bq (by assumption)|exact bt (by assumption)))|rfl)
        -- PVC
theorem t2_iff {b:List Int} (hp:BytesL b) (h:((b.length:Int) == 2)=true):(bif (2:Int) != (b.length:Int) then true else !mayC 2 (IntKind.i64.wrap (rd b 0)) (IntKind.i64.wrap (rd b 1)) 0 0 0 [] (IntKind.i64.wrap (rd b 0)))=false↔MayD 2 b:=by
  have hl:b.length=2:=by have:=lq h;omega
  rw [show ((2:Int) != (b.length:Int))=false by simp;omega,cond_false,w0 hp,w0 hp]
  constructor
  · intro h;exact ⟨.inr (.inl ⟨.inl rfl,hl⟩),of_decide_eq_true (nt h)⟩
  · rintro ⟨_,hm⟩
    show (!mayC 2 (rd b 0) (rd b 1) 0 0 0 [] (rd b 0))=false
    rw [show mayC 2 (rd b 0) (rd b 1) 0 0 0 [] (rd b 0)=true from decide_eq_true hm];rfl
theorem e2 {b:List Int} (hp:BytesL b) (h:((b.length:Int) == 2)=true):some (CR.tv (.tup [(true,[i64 (2),i64 (IntKind.i64.wrap (rd b 0)),i64 (IntKind.i64.wrap (rd b 1)),i64 0,i64 0,i64 0,nilA,i64 (IntKind.i64.wrap (rd b 0))]),(false,[.v (.bool true)])]))=some (CR.tv (.tup [(true,[i64 (2),i64 (rd b 0),i64 (rd b 1),i64 0,i64 0,i64 0,nilA,i64 (rd b 0)]),(false,[.v (.bool true)])])):=by
  have hl:b.length=2:=by have:=lq h;omega
  rw [w0 hp,w0 hp]
theorem dr2_ok {b:List Int} (hp:BytesL b) (hz:MayD 2 b) {us:List Value} {w:World} (ha:All2 (TV.reads (fun _=>0) w.heap.size w) [.sc (.v (.int .i64 2)),.sc (.sl .u8 b)] us):Ret Try.prog 25 us.toArray w (.tv (.tup [(true,[i64 (2),i64 (rd b 0),i64 (rd b 1),i64 0,i64 0,i64 0,nilA,i64 (rd b 0)]),(false,[.v (.bool true)])])):=by
      refine fn_ret (cxOk Try.prog ints_ok [] [cMay,cNumb,cCopy]) follows Try.func25 rfl 100 _ rfl (by simp) ?_ ha
      repeat' first
        | exact trivial
        | (refine And.intro (show regChk _ _ _ _ _=true from by kernel_rfl) (And.intro ?_ ?_))
        | (refine And.intro (fun _=>?_) (fun h=>absurd (show true=false from h) (by decide)))
        | (refine And.intro (fun h=>absurd (show false=true from h) (by decide)) (fun _=>?_))
        | (refine And.intro (fun hb=>?_) (fun hb'=>?_))
        | refine And.intro ?_ ?_
        | intro _
      all_goals first
        | (show some (CR.tv _)=some (CR.tv _);first|exact e2 hp (by assumption)|(exfalso;exact ml hz (by assumption))|(exfalso;exact no ((t2_iff hp (by assumption)).2 hz) (by assumption))|(exfalso;exact mn hz (by assumption) (by decide) (by decide) (by decide) (by decide)))
        | (show BytesL _;first|exact hp|exact bl hp _ _)
        | (show (0:Int)≤_;decide)
        | (show (_:Int)<((List.length _:Nat):Int);first|exact ix (by assumption) (by decide)|exact ix1 (by assumption))
        | (show (_:Int)≤((List.length _:Nat):Int);exact ixl (by assumption) (by decide))
        | exact l47 _ _ _ (by decide) (by decide)
        | (show (_:Int)≤(_:Int);decide)
        | exact Nat.zero_le _
        | (show True;trivial)
        | (show (_:Bool)=(_:Bool);first|assumption|exact gB (by assumption)|exact bq (by assumption)|exact bt (by assumption)|(exact an (by first|assumption|exact bq (by assumption)|exact bt (by assumption)) (by first|assumption|exact bq (by assumption)|exact bt (by assumption)))|rfl)
        -- PVC
theorem dr2_no {b:List Int} (hp:BytesL b) (hz:¬ MayD 2 b) {us:List Value} {w:World} (ha:All2 (TV.reads (fun _=>0) w.heap.size w) [.sc (.v (.int .i64 2)),.sc (.sl .u8 b)] us):Ret Try.prog 25 us.toArray w (.tv (.tup [(true,[i64 0,i64 0,i64 0,i64 0,i64 0,i64 0,nilA,i64 0]),(false,[.v (.bool false)])])):=by
      refine fn_ret (cxOk Try.prog ints_ok [] [cMay,cNumb,cCopy]) follows Try.func25 rfl 100 _ rfl (by simp) ?_ ha
      repeat' first
        | exact trivial
        | (refine And.intro (show regChk _ _ _ _ _=true from by kernel_rfl) (And.intro ?_ ?_))
        | (refine And.intro (fun _=>?_) (fun h=>absurd (show true=false from h) (by decide)))
        | (refine And.intro (fun h=>absurd (show false=true from h) (by decide)) (fun _=>?_))
        | (refine And.intro (fun hb=>?_) (fun hb'=>?_))
        | refine And.intro ?_ ?_
        | intro _
      all_goals first
        | (show some (CR.tv _)=some (CR.tv _);first|rfl|(exfalso;exact hz ((t2_iff hp (by assumption)).1 (by assumption)))|(exfalso;exact cbn (by assumption) (by assumption)))
        | (show BytesL _;first|exact hp|exact bl hp _ _)
        | (show (0:Int)≤_;decide)
        | (show (_:Int)<((List.length _:Nat):Int);first|exact ix (by assumption) (by decide)|exact ix1 (by assumption))
        | (show (_:Int)≤((List.length _:Nat):Int);exact ixl (by assumption) (by decide))
        | exact l47 _ _ _ (by decide) (by decide)
        | (show (_:Int)≤(_:Int);decide)
        | exact Nat.zero_le _
        | (show True;trivial)
        | (show (_:Bool)=(_:Bool);first|assumption|exact gB (by assumption)|exact bq (by assumption)|exact bt (by assumption)|(exact an (by first|assumption|exact bq (by assumption)|exact bt (by assumption)) (by first|assumption|exact bq (by assumption)|exact bt (by assumption)))|rfl)
        -- PVC
theorem t5_iff {b:List Int} (hp:BytesL b) (h:((b.length:Int) == 2)=true):(bif (2:Int) != (b.length:Int) then true else !mayC 5 0 0 0 0 (IntKind.i64.wrap (rd b 1)) [] (IntKind.i64.wrap (rd b 0)))=false↔MayD 5 b:=by
  have hl:b.length=2:=by have:=lq h;omega
  rw [show ((2:Int) != (b.length:Int))=false by simp;omega,cond_false,w0 hp,w0 hp]
  constructor
  · intro h;exact ⟨.inr (.inl ⟨.inr rfl,hl⟩),of_decide_eq_true (nt h)⟩
  · rintro ⟨_,hm⟩
    show (!mayC 5 0 0 0 0 (rd b 1) [] (rd b 0))=false
    rw [show mayC 5 0 0 0 0 (rd b 1) [] (rd b 0)=true from decide_eq_true hm];rfl
theorem e5 {b:List Int} (hp:BytesL b) (h:((b.length:Int) == 2)=true):some (CR.tv (.tup [(true,[i64 (5),i64 0,i64 0,i64 0,i64 0,i64 (IntKind.i64.wrap (rd b 1)),nilA,i64 (IntKind.i64.wrap (rd b 0))]),(false,[.v (.bool true)])]))=some (CR.tv (.tup [(true,[i64 (5),i64 0,i64 0,i64 0,i64 0,i64 (rd b 1),nilA,i64 (rd b 0)]),(false,[.v (.bool true)])])):=by
  have hl:b.length=2:=by have:=lq h;omega
  rw [w0 hp,w0 hp]
theorem dr5_ok {b:List Int} (hp:BytesL b) (hz:MayD 5 b) {us:List Value} {w:World} (ha:All2 (TV.reads (fun _=>0) w.heap.size w) [.sc (.v (.int .i64 5)),.sc (.sl .u8 b)] us):Ret Try.prog 25 us.toArray w (.tv (.tup [(true,[i64 (5),i64 0,i64 0,i64 0,i64 0,i64 (rd b 1),nilA,i64 (rd b 0)]),(false,[.v (.bool true)])])):=by
      refine fn_ret (cxOk Try.prog ints_ok [] [cMay,cNumb,cCopy]) follows Try.func25 rfl 100 _ rfl (by simp) ?_ ha
      repeat' first
        | exact trivial
        | (refine And.intro (show regChk _ _ _ _ _=true from by kernel_rfl) (And.intro ?_ ?_))
        | (refine And.intro (fun _=>?_) (fun h=>absurd (show true=false from h) (by decide)))
        | (refine And.intro (fun h=>absurd (show false=true from h) (by decide)) (fun _=>?_))
        | (refine And.intro (fun hb=>?_) (fun hb'=>?_))
        | refine And.intro ?_ ?_
        | intro _
      all_goals first
        | (show some (CR.tv _)=some (CR.tv _);first|exact e5 hp (by assumption)|(exfalso;exact ml hz (by assumption))|(exfalso;exact no ((t5_iff hp (by assumption)).2 hz) (by assumption))|(exfalso;exact mn hz (by assumption) (by decide) (by decide) (by decide) (by decide)))
        | (show BytesL _;first|exact hp|exact bl hp _ _)
        | (show (0:Int)≤_;decide)
        | (show (_:Int)<((List.length _:Nat):Int);first|exact ix (by assumption) (by decide)|exact ix1 (by assumption))
        | (show (_:Int)≤((List.length _:Nat):Int);exact ixl (by assumption) (by decide))
        | exact l47 _ _ _ (by decide) (by decide)
        | (show (_:Int)≤(_:Int);decide)
        | exact Nat.zero_le _
        | (show True;trivial)
        | (show (_:Bool)=(_:Bool);first|assumption|exact gB (by assumption)|exact bq (by assumption)|exact bt (by assumption)|(exact an (by first|assumption|exact bq (by assumption)|exact bt (by assumption)) (by first|assumption|exact bq (by assumption)|exact bt (by assumption)))|rfl)
        -- PVC
theorem dr5_no {b:List Int} (hp:BytesL b) (hz:¬ MayD 5 b) {us:List Value} {w:World} (ha:All2 (TV.reads (fun _=>0) w.heap.size w) [.sc (.v (.int .i64 5)),.sc (.sl .u8 b)] us):Ret Try.prog 25 us.toArray w (.tv (.tup [(true,[i64 0,i64 0,i64 0,i64 0,i64 0,i64 0,nilA,i64 0]),(false,[.v (.bool false)])])):=by
      refine fn_ret (cxOk Try.prog ints_ok [] [cMay,cNumb,cCopy]) follows Try.func25 rfl 100 _ rfl (by simp) ?_ ha
      repeat' first
        | exact trivial
        | (refine And.intro (show regChk _ _ _ _ _=true from by kernel_rfl) (And.intro ?_ ?_))
        | (refine And.intro (fun _=>?_) (fun h=>absurd (show true=false from h) (by decide)))
        | (refine And.intro (fun h=>absurd (show false=true from h) (by decide)) (fun _=>?_))
        | (refine And.intro (fun hb=>?_) (fun hb'=>?_))
        | refine And.intro ?_ ?_
        | intro _
      all_goals first
        | (show some (CR.tv _)=some (CR.tv _);first|rfl|(exfalso;exact hz ((t5_iff hp (by assumption)).1 (by assumption)))|(exfalso;exact cbn (by assumption) (by assumption)))
        | (show BytesL _;first|exact hp|exact bl hp _ _)
        | (show (0:Int)≤_;decide)
        | (show (_:Int)<((List.length _:Nat):Int);first|exact ix (by assumption) (by decide)|exact ix1 (by assumption))
        | (show (_:Int)≤((List.length _:Nat):Int);exact ixl (by assumption) (by decide))
        | exact l47 _ _ _ (by decide) (by decide)
        | (show (_:Int)≤(_:Int);decide)
        | exact Nat.zero_le _
        | (show True;trivial)
        | (show (_:Bool)=(_:Bool);first|assumption|exact gB (by assumption)|exact bq (by assumption)|exact bt (by assumption)|(exact an (by first|assumption|exact bq (by assumption)|exact bt (by assumption)) (by first|assumption|exact bq (by assumption)|exact bt (by assumption)))|rfl)
        -- PVC
theorem t4_iff {b:List Int} (hp:BytesL b) (h:decide ((b.length:Int)≥2)=true):(bif (b.length:Int) != (b.length:Int) then true else !mayC 4 0 0 0 0 (IntKind.i64.wrap (rd b 1)) (List.drop (Int.toNat 2) b) (IntKind.i64.wrap (rd b 0)))=false↔MayD 4 b:=by
  have hl:2≤b.length:=by have:=of_decide_eq_true h;omega
  rw [show ((b.length:Int) != (b.length:Int))=false by simp,cond_false,w0 hp,w0 hp]
  constructor
  · intro h;exact ⟨.inr (.inr (.inl ⟨rfl,hl⟩)),of_decide_eq_true (nt h)⟩
  · rintro ⟨_,hm⟩
    show (!mayC 4 0 0 0 0 (rd b 1) (b.drop 2) (rd b 0))=false
    rw [show mayC 4 0 0 0 0 (rd b 1) (b.drop 2) (rd b 0)=true from decide_eq_true hm];rfl
theorem e4 {b:List Int} (hp:BytesL b):some (CR.tv (.tup [(true,[i64 4,i64 0,i64 0,i64 0,i64 0,i64 (IntKind.i64.wrap (rd b 1)),.fs 5 .u8 (List.drop (Int.toNat 2) b),i64 (IntKind.i64.wrap (rd b 0))]),(false,[.v (.bool true)])]))=some (CR.tv (.tup [(true,[i64 4,i64 0,i64 0,i64 0,i64 0,i64 (rd b 1),.fs 5 .u8 (b.drop 2),i64 (rd b 0)]),(false,[.v (.bool true)])])):=by
  rw [w0 hp,w0 hp];rfl
theorem m4 {b:List Int} (hz:MayD 4 b) (h:decide ((b.length:Int)≥2)=false):False:=by
  have:=of_decide_eq_false h
  have:=hz.1
  unfold lenOk at this;omega
theorem ixg {b:List Int} {i:Int} (h:decide ((b.length:Int)≥2)=true) (hi:i<2):i<(b.length:Int):=by have:=of_decide_eq_true h;omega
theorem ixgl {b:List Int} {i:Int} (h:decide ((b.length:Int)≥2)=true) (hi:i≤2):i≤(b.length:Int):=by have:=of_decide_eq_true h;omega
theorem kq {kd:Int} (h:(kd == 3)=true):kd=3∨kd=6 := .inl (eq_of_beq h)
theorem kq' {kd:Int} (h:(kd == 6)=true):kd=3∨kd=6 := .inr (eq_of_beq h)
theorem co_ {kd:Int} (b:List Int) (h:kd=3∨kd=6):cmdOf kd b=(0,0,0,0,0,[],rd b 0):=by rcases h with rfl|rfl<;>rfl
theorem to_iff {kd:Int} {b:List Int} (hp:BytesL b) (h:kd=3∨kd=6):(bif (1:Int) != (b.length:Int) then true else !mayC kd 0 0 0 0 0 [] (IntKind.i64.wrap (rd b 0)))=false↔MayD kd b:=by
  rw [w0 hp]
  constructor
  · intro h'
    cases hl:((b.length:Int) == 1) with
    | false=>exact (cbn hl h').elim
    | true =>
      have hl2:b.length=1:=by have:=lq hl;omega
      rw [show ((1:Int) != (b.length:Int))=false by simp;omega,cond_false] at h'
      exact ⟨.inr (.inr (.inr ⟨h,hl2⟩)),by rw [co_ b h];exact of_decide_eq_true (nt h')⟩
  · rintro ⟨h1,hm⟩
    have hl:b.length=1:=by unfold lenOk at h1;omega
    rw [show ((1:Int) != (b.length:Int))=false by simp;omega,cond_false]
    rw [co_ b h] at hm
    rw [show mayC kd 0 0 0 0 0 [] (rd b 0)=true from decide_eq_true hm];rfl
theorem eo {kd:Int} {b:List Int} (hp:BytesL b):some (CR.tv (.tup [(true,[i64 kd,i64 0,i64 0,i64 0,i64 0,i64 0,nilA,i64 (IntKind.i64.wrap (rd b 0))]),(false,[.v (.bool true)])]))=some (CR.tv (.tup [(true,[i64 kd,i64 0,i64 0,i64 0,i64 0,i64 0,nilA,i64 (rd b 0)]),(false,[.v (.bool true)])])):=by rw [w0 hp]
theorem mo {kd:Int} {b:List Int} (hz:MayD kd b) (k1:(kd == 1)=false) (k2:(kd == 2)=false) (k4:(kd == 4)=false) (k5:(kd == 5)=false) (k3:(kd == 3)=false) (k6:(kd == 6)=false):False:=by
  have:=hz.1
  simp only [beq_eq_false_iff_ne,ne_eq] at *
  unfold lenOk at this;omega
theorem dr4_ok {b:List Int} (hp:BytesL b) (hz:MayD 4 b) {us:List Value} {w:World} (ha:All2 (TV.reads (fun _=>0) w.heap.size w) [.sc (.v (.int .i64 4)),.sc (.sl .u8 b)] us):Ret Try.prog 25 us.toArray w (.tv (.tup [(true,[i64 4,i64 0,i64 0,i64 0,i64 0,i64 (rd b 1),.fs 5 .u8 (b.drop 2),i64 (rd b 0)]),(false,[.v (.bool true)])])):=by
      refine fn_ret (cxOk Try.prog ints_ok [] [cMay,cNumb,cCopy]) follows Try.func25 rfl 100 _ rfl (by simp) ?_ ha
      repeat' first
        | exact trivial
        | (refine And.intro (show regChk _ _ _ _ _=true from by kernel_rfl) (And.intro ?_ ?_))
        | (refine And.intro (fun _=>?_) (fun h=>absurd (show true=false from h) (by decide)))
        | (refine And.intro (fun h=>absurd (show false=true from h) (by decide)) (fun _=>?_))
        | (refine And.intro (fun hb=>?_) (fun hb'=>?_))
        | refine And.intro ?_ ?_
        | intro _
      all_goals first
        | (show some (CR.tv _)=some (CR.tv _);first|exact e4 hp|(exfalso;exact ml hz (by assumption))|(exfalso;exact no ((t4_iff hp (by assumption)).2 hz) (by assumption))|(exfalso;exact m4 hz (by assumption)))
        | (show BytesL _;first|exact hp|exact bd hp _)
        | (show (0:Int)≤_;decide)
        | (show (_:Int)<((List.length _:Nat):Int);first|exact ixg (by assumption) (by decide)|exact ix1 (by assumption))
        | (show (_:Int)≤((List.length _:Nat):Int);exact ixgl (by assumption) (by decide))
        | exact Nat.le_trans (bd hp _).2 (by decide)
        | exact Nat.zero_le _
        | (show True;trivial)
        | (show (_:Bool)=(_:Bool);first|assumption|exact gB (by assumption)|exact bq (by assumption)|exact bt (by assumption)|(exact an (by first|assumption|exact bq (by assumption)|exact bt (by assumption)) (by first|assumption|exact bq (by assumption)|exact bt (by assumption)))|rfl)
        -- PVC
theorem dr4_no {b:List Int} (hp:BytesL b) (hz:¬ MayD 4 b) {us:List Value} {w:World} (ha:All2 (TV.reads (fun _=>0) w.heap.size w) [.sc (.v (.int .i64 4)),.sc (.sl .u8 b)] us):Ret Try.prog 25 us.toArray w (.tv (.tup [(true,[i64 0,i64 0,i64 0,i64 0,i64 0,i64 0,nilA,i64 0]),(false,[.v (.bool false)])])):=by
      refine fn_ret (cxOk Try.prog ints_ok [] [cMay,cNumb,cCopy]) follows Try.func25 rfl 100 _ rfl (by simp) ?_ ha
      repeat' first
        | exact trivial
        | (refine And.intro (show regChk _ _ _ _ _=true from by kernel_rfl) (And.intro ?_ ?_))
        | (refine And.intro (fun _=>?_) (fun h=>absurd (show true=false from h) (by decide)))
        | (refine And.intro (fun h=>absurd (show false=true from h) (by decide)) (fun _=>?_))
        | (refine And.intro (fun hb=>?_) (fun hb'=>?_))
        | refine And.intro ?_ ?_
        | intro _
      all_goals first
        | (show some (CR.tv _)=some (CR.tv _);first|rfl|(exfalso;exact hz ((t4_iff hp (by assumption)).1 (by assumption))))
        | (show BytesL _;first|exact hp|exact bd hp _)
        | (show (0:Int)≤_;decide)
        | (show (_:Int)<((List.length _:Nat):Int);first|exact ixg (by assumption) (by decide)|exact ix1 (by assumption))
        | (show (_:Int)≤((List.length _:Nat):Int);exact ixgl (by assumption) (by decide))
        | exact Nat.le_trans (bd hp _).2 (by decide)
        | exact Nat.zero_le _
        | (show True;trivial)
        | (show (_:Bool)=(_:Bool);first|assumption|exact gB (by assumption)|exact bq (by assumption)|exact bt (by assumption)|(exact an (by first|assumption|exact bq (by assumption)|exact bt (by assumption)) (by first|assumption|exact bq (by assumption)|exact bt (by assumption)))|rfl)
        -- PVC
theorem dro_ok {kd:Int} {b:List Int} (k1:(kd == 1)=false) (k2:(kd == 2)=false) (k4:(kd == 4)=false) (k5:(kd == 5)=false) (hp:BytesL b) (hz:MayD kd b) {us:List Value} {w:World} (ha:All2 (TV.reads (fun _=>0) w.heap.size w) [.sc (.v (.int .i64 kd)),.sc (.sl .u8 b)] us):Ret Try.prog 25 us.toArray w (.tv (.tup [(true,[i64 kd,i64 0,i64 0,i64 0,i64 0,i64 0,nilA,i64 (rd b 0)]),(false,[.v (.bool true)])])):=by
      refine fn_ret (cxOk Try.prog ints_ok [] [cMay,cNumb,cCopy]) follows Try.func25 rfl 100 _ rfl (by simp) ?_ ha
      repeat' first
        | exact trivial
        | (refine And.intro (fun h=>(no k1 h).elim) (fun _=>?_))
        | (refine And.intro (fun h=>(no k2 h).elim) (fun _=>?_))
        | (refine And.intro (fun h=>(no k4 h).elim) (fun _=>?_))
        | (refine And.intro (fun h=>(no k5 h).elim) (fun _=>?_))
        | (refine And.intro (show regChk _ _ _ _ _=true from by kernel_rfl) (And.intro ?_ ?_))
        | (refine And.intro (fun _=>?_) (fun h=>absurd (show true=false from h) (by decide)))
        | (refine And.intro (fun h=>absurd (show false=true from h) (by decide)) (fun _=>?_))
        | (refine And.intro (fun hb=>?_) (fun hb'=>?_))
        | refine And.intro ?_ ?_
        | intro _
      all_goals first
        | (show some (CR.tv _)=some (CR.tv _);first|exact eo hp|(exfalso;exact ml hz (by assumption))|(exfalso;exact no ((to_iff hp (kq (by assumption))).2 hz) (by assumption))|(exfalso;exact no ((to_iff hp (kq' (by assumption))).2 hz) (by assumption))|(exfalso;exact mo hz k1 k2 k4 k5 (by assumption) (by assumption))|(exfalso;exact no (b:=kd == 3) (by assumption) (by assumption)))
        | (show BytesL _;first|exact hp|exact bd hp _)
        | (show (0:Int)≤_;decide)
        | (show (_:Int)<((List.length _:Nat):Int);first|exact ixg (by assumption) (by decide)|exact ix1 (by assumption))
        | (show (_:Int)≤((List.length _:Nat):Int);exact ixgl (by assumption) (by decide))
        | exact Nat.le_trans (bd hp _).2 (by decide)
        | exact Nat.zero_le _
        | (show True;trivial)
        | (show (_:Bool)=(_:Bool);first|assumption|exact gB (by assumption)|exact bq (by assumption)|exact bt (by assumption)|(exact an (by first|assumption|exact bq (by assumption)|exact bt (by assumption)) (by first|assumption|exact bq (by assumption)|exact bt (by assumption)))|rfl)
        -- PVC
theorem dro_no {kd:Int} {b:List Int} (k1:(kd == 1)=false) (k2:(kd == 2)=false) (k4:(kd == 4)=false) (k5:(kd == 5)=false) (hp:BytesL b) (hz:¬ MayD kd b) {us:List Value} {w:World} (ha:All2 (TV.reads (fun _=>0) w.heap.size w) [.sc (.v (.int .i64 kd)),.sc (.sl .u8 b)] us):Ret Try.prog 25 us.toArray w (.tv (.tup [(true,[i64 0,i64 0,i64 0,i64 0,i64 0,i64 0,nilA,i64 0]),(false,[.v (.bool false)])])):=by
      refine fn_ret (cxOk Try.prog ints_ok [] [cMay,cNumb,cCopy]) follows Try.func25 rfl 100 _ rfl (by simp) ?_ ha
      repeat' first
        | exact trivial
        | (refine And.intro (fun h=>(no k1 h).elim) (fun _=>?_))
        | (refine And.intro (fun h=>(no k2 h).elim) (fun _=>?_))
        | (refine And.intro (fun h=>(no k4 h).elim) (fun _=>?_))
        | (refine And.intro (fun h=>(no k5 h).elim) (fun _=>?_))
        | (refine And.intro (show regChk _ _ _ _ _=true from by kernel_rfl) (And.intro ?_ ?_))
        | (refine And.intro (fun _=>?_) (fun h=>absurd (show true=false from h) (by decide)))
        | (refine And.intro (fun h=>absurd (show false=true from h) (by decide)) (fun _=>?_))
        | (refine And.intro (fun hb=>?_) (fun hb'=>?_))
        | refine And.intro ?_ ?_
        | intro _
      all_goals first
        | (show some (CR.tv _)=some (CR.tv _);first|rfl|(exfalso;exact hz ((to_iff hp (kq (by assumption))).1 (by assumption)))|(exfalso;exact hz ((to_iff hp (kq' (by assumption))).1 (by assumption))))
        | (show BytesL _;first|exact hp|exact bd hp _)
        | (show (0:Int)≤_;decide)
        | (show (_:Int)<((List.length _:Nat):Int);first|exact ixg (by assumption) (by decide)|exact ix1 (by assumption))
        | (show (_:Int)≤((List.length _:Nat):Int);exact ixgl (by assumption) (by decide))
        | exact Nat.le_trans (bd hp _).2 (by decide)
        | exact Nat.zero_le _
        | (show True;trivial)
        | (show (_:Bool)=(_:Bool);first|assumption|exact gB (by assumption)|exact bq (by assumption)|exact bt (by assumption)|(exact an (by first|assumption|exact bq (by assumption)|exact bt (by assumption)) (by first|assumption|exact bq (by assumption)|exact bt (by assumption)))|rfl)
        -- PVC
theorem rD_t {kd:Int} {b:List Int} {x:Int × Int × Int × Int × Int × List Int × Int} (h:MayD kd b) (e:cmdOf kd b=x):rD kd b = .tv (.tup [(true,cellsD (kd,x)),(false,[.v (.bool true)])]):=by unfold rD;rw [decC_t h e,decide_eq_true h]
theorem rD_f {kd:Int} {b:List Int} (h:¬ MayD kd b):rD kd b = .tv (.tup [(true,cellsD (0,0,0,0,0,0,[],0)),(false,[.v (.bool false)])]):=by unfold rD;rw [decC_f h,decide_eq_false h]
def cDecR:Con Try.prog where
  f:=25
  sem:=fun xs=>match xs with
    | [.sc (.v (.int .i64 kd)),.sc (.sl .u8 b)]=>some (BytesL b,rD kd b)
    | _=>none
  ok := by
    intro xs q r h hp
    refine ⟨⟨_,Try.func25,by kernel_rfl,rfl⟩,fun us w ha=>?_⟩
    split at h
    · rename_i kd b
      cases h
      have ef:∀ {x:Int},kd≠x→(kd == x)=false:=fun h=>by simpa using h
      by_cases k1:kd=1
      · subst k1
        by_cases hz:MayD 1 b
        · rw [rD_t hz rfl];exact nil_ret (dr1_ok hp hz ha)
        · rw [rD_f hz];exact nil_ret (dr1_no hp hz ha)
      by_cases k2:kd=2
      · subst k2
        by_cases hz:MayD 2 b
        · rw [rD_t hz rfl];exact nil_ret (dr2_ok hp hz ha)
        · rw [rD_f hz];exact nil_ret (dr2_no hp hz ha)
      by_cases k4:kd=4
      · subst k4
        by_cases hz:MayD 4 b
        · rw [rD_t hz rfl];exact dr4_ok hp hz ha
        · rw [rD_f hz];exact nil_ret (dr4_no hp hz ha)
      by_cases k5:kd=5
      · subst k5
        by_cases hz:MayD 5 b
        · rw [rD_t hz rfl];exact nil_ret (dr5_ok hp hz ha)
        · rw [rD_f hz];exact nil_ret (dr5_no hp hz ha)
      by_cases hz:MayD kd b
      · have hk:kd=3∨kd=6:=by have:=hz.1;unfold lenOk at this;omega
        rw [rD_t hz (co_ b hk)];exact nil_ret (dro_ok (ef k1) (ef k2) (ef k4) (ef k5) hp hz ha)
      · rw [rD_f hz];exact nil_ret (dro_no (ef k1) (ef k2) (ef k4) (ef k5) hp hz ha)
    · cases h
def cHeavy:Con Try.prog where
  f:=15
  sem:=fun xs=>match xs with
    | [.agg [.v (.int .i64 a1),.v (.int .i64 a2),.v (.int .i64 a3),.v (.int .i64 a4),.v (.int .i64 a5),.v (.int .i64 a6),.sl .u8 l,.v (.int .i64 a7),.v (.int .i64 a8),.sl .u8 m,.v (.int .i64 a9),.v (.int .i64 a10),.ls n]]=>some (True,.tv (tB (bif bif decide ((m.length:Int)>1000) then true else decide ((l.length:Int)>1000) then true else decide ((n:Int)>50))))
    | _=>none
  ok := by
    intro xs p r' h hp
    refine ⟨⟨_,Try.func15,by kernel_rfl,rfl⟩,fun us w ha=>?_⟩
    split at h
    · rename_i a1 a2 a3 a4 a5 a6 l a7 a8 m a9 a10 n
      cases h
      refine fn_ret (cxOk Try.prog ints_ok [] []) follows Try.func15 rfl 100 _ rfl (by simp) ?_ ha
      repeat' first
        | exact trivial
        | (refine And.intro (show regChk _ _ _ _ _=true from by kernel_rfl) (And.intro ?_ ?_))
        | (refine And.intro (fun _=>?_) (fun h=>absurd (show true=false from h) (by decide)))
        | (refine And.intro (fun h=>absurd (show false=true from h) (by decide)) (fun _=>?_))
        | (refine And.intro (fun hb=>?_) (fun hb'=>?_))
        | refine And.intro ?_ ?_
        | intro _
      all_goals first
        | (show some (CR.tv (tB _))=some (CR.tv (tB _));rfl)
        | (show (_:Bool)=(_:Bool);first|assumption|exact beq_iff_eq.2 (by assumption)|(exact and_tt (by first|assumption|exact beq_iff_eq.2 (by assumption)) (by first|assumption|exact beq_iff_eq.2 (by assumption))))
        | (show (_:Nat)=(_:Nat);rfl)
        | (show (_:Nat)≤1000;decide)
        | (show (_:Int)=(_:Int);rfl)
        | (show (_:Int)≤_;decide)
        | (show (_:Int)<_;decide)
        -- PVC
    · cases h
theorem wk_f:gimballaw25_wakes.f 20=some true:=by kernel_rfl
def cWakes:Con Try.prog where
  f:=27
  sem:=fun xs=>match xs with
    | []=>some (True,.tv (tB true))
    | _=>none
  ok:=by
    intro xs q r h hp
    refine ⟨⟨_,Try.func27,by kernel_rfl,rfl⟩,fun us w ha=>?_⟩
    split at h
    · cases h
      cases ha
      exact Ret.val ((gimballaw25_wakes.calls 20 true w wk_f).mono fun e w' h=>⟨h.1,h.2⟩)
    · cases h
end
end Go.Proofs.Ytaeabemipnbgbaa.PCm
end
section
set_option linter.unusedVariables false
set_option linter.unusedSimpArgs false
namespace Go.Proofs.Ytaeabemipnbgbaa.PCm
open Go RowKit Ytaeabemipnbgbaa.QCm YtaeabemipnbgbaaW.PrintWords YtaeabemipnbgbaaW.PrintMore YtaeabemipnbgbaaW.Aid YtaeabemipnbgbaaW.Big YtaeabemipnbgbaaW.Sx Go.Proofs
theorem nf {b:Bool} (h:(!b)=true):b=false:=by cases b with
  | false=>rfl
  | true=>cases h
theorem spec_condT {P:Program} {n base:Nat} {w0:World} {c:Operand} {x y:Code} {kn:St→Prop} {ke:Nat→St→Prop} {kr:St→Prop} {s:St} (hb:boolOf (getv s.g c)=some true) (h:SpecC P n base w0 x kn ke kr s):SpecC P n base w0 (.cond c x y) kn ke kr s :=
  fun a w Q hS hn he hr=>wp_cond (boolOf_eq hS hb) (h a w Q hS hn he hr)
theorem eqC_self (kd c s p t key:Int) (val:List Int) (cl:Int):eqC kd c s p t key val cl kd c s p t key val cl=true:=by unfold eqC;simp
theorem encCR_t {kd c s p t key:Int} {val:List Int} {cl:Int} (h:mayC kd c s p t key val cl=true):encCR kd c s p t key val cl=(encB kd c s p t key val cl,0):=by unfold encCR;rw [if_pos (of_decide_eq_true h)]
theorem encCR_f {kd c s p t key:Int} {val:List Int} {cl:Int} (h:mayC kd c s p t key val cl=false):encCR kd c s p t key val cl=([],1):=by unfold encCR;rw [if_neg (of_decide_eq_false h)]
theorem dec_enc {kd c s p t key:Int} {val:List Int} {cl:Int} (h:mayC kd c s p t key val cl=true):decC kd (encB kd c s p t key val cl)=((kd,c,s,p,t,key,val,cl),0):=by
  have h:=of_decide_eq_true h
  have key':lenOk kd (encB kd c s p t key val cl)∧cmdOf kd (encB kd c s p t key val cl)=(c,s,p,t,key,val,cl):=by
    obtain ⟨hcl,h⟩:=h
    rcases h with ⟨rfl,h1,h2,h3,rfl,rfl,h4⟩|⟨rfl,h1,rfl,rfl,rfl,rfl,h4⟩|⟨h1|h1,⟨rfl,rfl,rfl,rfl⟩,rfl,h4⟩|⟨rfl,⟨rfl,rfl,rfl,rfl⟩,h1,h4⟩|⟨rfl,⟨rfl,rfl,rfl,rfl⟩,h1,h4⟩
    · obtain rfl:=List.length_eq_zero_iff.1 h4
      refine ⟨.inl ⟨rfl,rfl⟩,?_⟩
      show (c%256,s%256,p/256%256*256+p%256,((t/16777216%256*256+t/65536%256)*256+t/256%256)*256+t%256,(0:Int),([]:List Int),c%256)=_
      rw [show c%256=c by omega,show s%256=s by omega,show p/256%256*256+p%256=p by omega,show ((t/16777216%256*256+t/65536%256)*256+t/256%256)*256+t%256=t by omega]
    · obtain rfl:=List.length_eq_zero_iff.1 h4
      refine ⟨.inr (.inl ⟨.inl rfl,rfl⟩),?_⟩
      show (c%256,s%256,(0:Int),(0:Int),(0:Int),([]:List Int),c%256)=_
      rw [show c%256=c by omega,show s%256=s by omega]
    · subst h1
      obtain rfl:=List.length_eq_zero_iff.1 h4
      refine ⟨.inr (.inr (.inr ⟨.inl rfl,rfl⟩)),?_⟩
      show ((0:Int),(0:Int),(0:Int),(0:Int),(0:Int),([]:List Int),cl%256)=_
      rw [show cl%256=cl by omega]
    · subst h1
      obtain rfl:=List.length_eq_zero_iff.1 h4
      refine ⟨.inr (.inr (.inr ⟨.inr rfl,rfl⟩)),?_⟩
      show ((0:Int),(0:Int),(0:Int),(0:Int),(0:Int),([]:List Int),cl%256)=_
      rw [show cl%256=cl by omega]
    · refine ⟨.inr (.inr (.inl ⟨rfl,by show 2≤(cl%256::key%256::val).length;simp⟩)),?_⟩
      show ((0:Int),(0:Int),(0:Int),(0:Int),key%256,val,cl%256)=_
      rw [show cl%256=cl by omega,show key%256=key by omega]
    · obtain rfl:=List.length_eq_zero_iff.1 h4
      refine ⟨.inr (.inl ⟨.inr rfl,rfl⟩),?_⟩
      show ((0:Int),(0:Int),(0:Int),(0:Int),key%256,([]:List Int),cl%256)=_
      rw [show cl%256=cl by omega,show key%256=key by omega]
  exact decC_t ⟨key'.1,by rw [key'.2];exact h⟩ key'.2
theorem enc_dec {kd:Int} {b:List Int} (hb:Bytes b) (h:MayD kd b):encB kd (cmdOf kd b).1 (cmdOf kd b).2.1 (cmdOf kd b).2.2.1 (cmdOf kd b).2.2.2.1 (cmdOf kd b).2.2.2.2.1 (cmdOf kd b).2.2.2.2.2.1 (cmdOf kd b).2.2.2.2.2.2=b:=by
  obtain ⟨hl,hm⟩:=h
  rcases hl with ⟨rfl,hl⟩|⟨h1|h1,hl⟩|⟨rfl,hl⟩|⟨h1|h1,hl⟩
  · match b,hl with
    | [x0,x1,x2,x3,x4,x5,x6,x7],_ =>
      have h0:=hb x0 (by simp);have h1:=hb x1 (by simp);have h2:=hb x2 (by simp);have h3:=hb x3 (by simp);have h4:=hb x4 (by simp);have h5:=hb x5 (by simp);have h6:=hb x6 (by simp);have h7:=hb x7 (by simp)
      show [x0%256,x1%256,(x2*256+x3)/256%256,(x2*256+x3)%256,(((x4*256+x5)*256+x6)*256+x7)/16777216%256,(((x4*256+x5)*256+x6)*256+x7)/65536%256,(((x4*256+x5)*256+x6)*256+x7)/256%256,(((x4*256+x5)*256+x6)*256+x7)%256]=_
      simp only [List.cons.injEq,and_true]
      omega
  · subst h1
    match b,hl with
    | [x0,x1],_ =>
      have h0:=hb x0 (by simp);have h1:=hb x1 (by simp)
      show [x0%256,x1%256]=_
      simp only [List.cons.injEq,and_true]
      omega
  · subst h1
    match b,hl with
    | [x0,x1],_ =>
      have h0:=hb x0 (by simp);have h1:=hb x1 (by simp)
      show [x0%256,x1%256]=_
      simp only [List.cons.injEq,and_true]
      omega
  · match b,hl with
    | x0::x1::r,_ =>
      have h0:=hb x0 (by simp);have h1:=hb x1 (by simp)
      show x0%256::x1%256::r=_
      simp only [List.cons.injEq,and_true]
      omega
  · subst h1
    match b,hl with
    | [x0],_ =>
      have h0:=hb x0 (by simp)
      show [x0%256]=_
      simp only [List.cons.injEq,and_true]
      omega
  · subst h1
    match b,hl with
    | [x0],_ =>
      have h0:=hb x0 (by simp)
      show [x0%256]=_
      simp only [List.cons.injEq,and_true]
      omega
theorem encR_dec {kd:Int} {b:List Int} (hb:Bytes b) (h:MayD kd b):encCR (decC kd b).1.1 (decC kd b).1.2.1 (decC kd b).1.2.2.1 (decC kd b).1.2.2.2.1 (decC kd b).1.2.2.2.2.1 (decC kd b).1.2.2.2.2.2.1 (decC kd b).1.2.2.2.2.2.2.1 (decC kd b).1.2.2.2.2.2.2.2=(b,0):=by
  rw [decC_t h rfl]
  unfold encCR
  rw [if_pos h.2]
  exact congrArg (fun x=>(x,(0:Int))) (enc_dec hb h)
theorem encB_b {kd c s p t key:Int} {val:List Int} {cl:Int} (hl:BytesL val) (hn:val.length≤1000):BytesL (encB kd c s p t key val cl):=by
  have m:∀ x:Int,0≤x%256∧x%256≤255:=fun x=>by omega
  constructor
  · intro x hx
    unfold encB at hx
    rw [List.mem_append] at hx
    rcases hx with hx|hx
    · simp at hx;rw [hx];exact m _
    · repeat' split at hx
      · simp at hx;rcases hx with rfl|rfl|rfl|rfl|rfl|rfl|rfl<;>exact m _
      · simp at hx;rw [hx];exact m _
      · simp at hx;rcases hx with rfl|hx
        · exact m _
        · exact hl.1 x hx
      · simp at hx;rw [hx];exact m _
      · simp at hx
  · unfold encB
    rw [List.length_append]
    repeat' split
    all_goals simp<;>omega
theorem encCR_b {kd c s p t key:Int} {val:List Int} {cl:Int} (hl:BytesL val) (hn:val.length≤1000):BytesL (encCR kd c s p t key val cl).1:=by
  unfold encCR;split
  · exact encB_b (c:=c) hl hn
  · exact ⟨fun x h=>absurd h List.not_mem_nil,Nat.zero_le _⟩
theorem decC_b {kd:Int} {b:List Int} (hb:BytesL b):BytesL (decC kd b).1.2.2.2.2.2.2.1:=by
  have hn:BytesL []:=⟨fun x h=>absurd h List.not_mem_nil,Nat.zero_le _⟩
  by_cases h:MayD kd b
  · rw [decC_t h rfl]
    show BytesL (cmdOf kd b).2.2.2.2.2.1
    unfold cmdOf
    repeat' split
    all_goals first|exact hn|exact ⟨hb.1.drop _,by have:=hb.2;rw [List.length_drop];omega⟩
  · rw [decC_f h];exact hn
theorem decC_n {kd:Int} {b:List Int}:(decC kd b).1.2.2.2.2.2.2.1.length≤b.length:=by
  by_cases h:MayD kd b
  · rw [decC_t h rfl]
    show (cmdOf kd b).2.2.2.2.2.1.length≤_
    unfold cmdOf
    repeat' split
    all_goals first|exact Nat.zero_le _|exact Nat.le_trans (by rw [List.length_drop];omega) (Nat.le_refl b.length)
  · rw [decC_f h];exact Nat.zero_le _
theorem ts_y {kd c s p t key:Int} {val:List Int} {cl:Int} (h:mayC kd c s p t key val cl=true):(bif bif (encCR kd c s p t key val cl).2 != 0 then true else !decide ((encCR kd c s p t key val cl).1=encB kd c s p t key val cl) then true else !eqC kd c s p t key val cl kd c s p t key val cl)=false:=by
  rw [encCR_t h,eqC_self];simp
theorem ts_n {kd c s p t key:Int} {val:List Int} {cl:Int} (h:mayC kd c s p t key val cl=false):(bif bif (encCR kd c s p t key val cl).2 != 1 then true else !decide ((encCR kd c s p t key val cl).1=[]) then true else !eqC kd c s p t key val cl kd c s p t key val cl)=false:=by
  rw [encCR_f h,eqC_self];simp
theorem ts8 {kd c s p t key:Int} {val:List Int} {cl:Int} (h:mayC kd c s p t key val cl=true):(bif (decC kd (encCR kd c s p t key val cl).1).2 != 0 then true else !eqC (decC kd (encCR kd c s p t key val cl).1).1.1 (decC kd (encCR kd c s p t key val cl).1).1.2.1 (decC kd (encCR kd c s p t key val cl).1).1.2.2.1 (decC kd (encCR kd c s p t key val cl).1).1.2.2.2.1 (decC kd (encCR kd c s p t key val cl).1).1.2.2.2.2.1 (decC kd (encCR kd c s p t key val cl).1).1.2.2.2.2.2.1 (decC kd (encCR kd c s p t key val cl).1).1.2.2.2.2.2.2.1 (decC kd (encCR kd c s p t key val cl).1).1.2.2.2.2.2.2.2 kd c s p t key val cl)=false:=by
  rw [encCR_t h,dec_enc h,eqC_self];rfl
theorem ts24 {kd:Int} {b:List Int} {x:Bool} (hx:x=true):(bif bif ((decC kd b).2 == 0) != decide (MayD kd b) then true else bif !decide (MayD kd b) then (decC kd b).2 != 1 else false then true else !x)=false:=by
  subst hx
  by_cases h:MayD kd b
  · rw [decC_t h rfl,decide_eq_true h];rfl
  · rw [decC_f h,decide_eq_false h];rfl
theorem ts28 {kd:Int} {b:List Int} (hb:Bytes b) (h:decide (MayD kd b)=true):(bif (encCR (decC kd b).1.1 (decC kd b).1.2.1 (decC kd b).1.2.2.1 (decC kd b).1.2.2.2.1 (decC kd b).1.2.2.2.2.1 (decC kd b).1.2.2.2.2.2.1 (decC kd b).1.2.2.2.2.2.2.1 (decC kd b).1.2.2.2.2.2.2.2).2 != 0 then true else !decide ((encCR (decC kd b).1.1 (decC kd b).1.2.1 (decC kd b).1.2.2.1 (decC kd b).1.2.2.2.1 (decC kd b).1.2.2.2.2.1 (decC kd b).1.2.2.2.2.2.1 (decC kd b).1.2.2.2.2.2.2.1 (decC kd b).1.2.2.2.2.2.2.2).1=b))=false:=by
  rw [encR_dec hb (of_decide_eq_true h)];simp
theorem heavy_f {l m:List Int} {n:Nat} (h:(bif bif decide ((m.length:Int)>1000) then true else decide ((l.length:Int)>1000) then true else decide ((n:Int)>50))=false):l.length≤1000∧m.length≤1000:=by
  by_cases h1:(m.length:Int)>1000
  · rw [decide_eq_true h1] at h;cases h
  · by_cases h2:(l.length:Int)>1000
    · rw [decide_eq_false h1,decide_eq_true h2] at h;cases h
    · omega
section
set_option maxRecDepth 100000
set_option maxHeartbeats 8000000
theorem z15 (n:Nat) (row:Nat→List A0) (hrow:∀ j,(row j).all A0.safe=true) (v kd x1 x2 x3 x4 ky cl k2 pc pl:Int) (ne:Nat) (l m:List Int) (hl:BytesL l) (hl2:l.length≤1000) (hm:BytesL m) (hm2:m.length≤1000) {c:Code} (hc:bodyAt Try.f3 [true,false,true,true,true,true,false,true,true,true,true,true,true,true,true,true,true,true,true,true,true,true,true]=some c) (base:Nat) (w0:World) (ke:Nat→St→Prop):SpecC Try.prog Try.f3.ntmps base w0 c (fun s=>leG s [(0,.rowF n 13 row),(3,tI v)]∧leB s []) ke (fun s=>resCR (cxOf Try.prog [] [] [cHeavy,cMay,cEncR,cCopyC,cEnc,cNum,cEqB,cEqC,cDec,cDecR,cCopy,cWakes]) Try.f3.results.toList s=some (.tv (tB true))) (stB [(0,.rowF n 13 row),(3,tI v),(4,.ptr 4 0),(14,.sc (.os .u8 m))] [(4,32,[i64 kd,i64 x1,i64 x2,i64 x3,i64 x4,i64 ky,.os .u8 l,i64 cl,i64 k2,.os .u8 m,i64 pc,i64 pl,.ls ne])]):=by
  refine spec_of hc rfl ?_
  refine spec_vcd (cxOk Try.prog ints_ok [] [cHeavy,cMay,cEncR,cCopyC,cEnc,cNum,cEqB,cEqC,cDec,cDecR,cCopy,cWakes]) follows [] 60 ?_
  repeat' first
    | exact trivial
    | (refine And.intro (show regChk _ _ _ _ _=true from by kernel_rfl) (And.intro ?_ ?_))
    | (refine And.intro (fun _=>?_) (fun h=>absurd (show true=false from h) (by decide)))
    | (refine And.intro (fun h=>absurd (show false=true from h) (by decide)) (fun _=>?_))
    | (refine And.intro (fun hb=>?_) (fun hb'=>?_))
    | refine And.intro ?_ ?_
    | intro _
  all_goals first
    | (show some (CR.tv (tB false))=some (CR.tv (tB true));exfalso;exact no (by simp) hb)
    | (show BytesL _;first|exact hl|exact hm|exact encCR_b hl hl2|exact decC_b hm)
    | (show List.length _≤1000000;first|exact Nat.le_trans (encCR_b hl hl2).2 (by decide)|exact Nat.le_trans (decC_b hm).2 (by decide)|exact Nat.le_trans (decC_b (encCR_b hl hl2)).2 (by decide)|exact Nat.le_trans (encCR_b (decC_b hm) (Nat.le_trans decC_n hm2)).2 (by decide)|exact Nat.le_trans hl.2 (by decide)|exact Nat.le_trans hm.2 (by decide)|exact Nat.zero_le _)
    | (show List.length _≤100000;first|exact hl.2|exact hm.2)
    | (show (_:Option TV)=_;rfl)
    | (show (_:Option A0)=_;rfl)
    | (show (_:Option TypeId)=_;rfl)
    | (show True;trivial)
    | (show (_:Bool)=(_:Bool);first|assumption|exact gB (by assumption)|exact bq (by assumption)|exact bt (by assumption)|(exact an (by first|assumption|exact bq (by assumption)) (by first|assumption|exact bt (by assumption)))|rfl)
    | (show _=_;rfl)
    -- PVC
theorem z14 (n:Nat) (row:Nat→List A0) (hrow:∀ j,(row j).all A0.safe=true) (v kd x1 x2 x3 x4 ky cl k2 pc pl:Int) (ne:Nat) (l m:List Int) (hl:BytesL l) (hl2:l.length≤1000) (hm:BytesL m) (hm2:m.length≤1000) {c:Code} (hc:bodyAt Try.f3 [true,false,true,true,true,true,false,true,true,true,true,true,true,true,true,true,true,true,true,true,true,true]=some c) (base:Nat) (w0:World) (ke:Nat→St→Prop):SpecC Try.prog Try.f3.ntmps base w0 c (fun s=>leG s [(0,.rowF n 13 row),(3,tI v)]∧leB s []) ke (fun s=>resCR (cxOf Try.prog [] [] [cHeavy,cMay,cEncR,cCopyC,cEnc,cNum,cEqB,cEqC,cDec,cDecR,cCopy,cWakes]) Try.f3.results.toList s=some (.tv (tB true))) (stB [(0,.rowF n 13 row),(3,tI v),(4,.ptr 4 0),(14,.sc (.os .u8 m)),(15,.ptr 15 0)] [(4,32,[i64 kd,i64 x1,i64 x2,i64 x3,i64 x4,i64 ky,.os .u8 l,i64 cl,i64 k2,.os .u8 m,i64 pc,i64 pl,.ls ne]),(15,27,cellsD (decC k2 m).1)]):=by
  refine spec_of hc rfl ?_
  refine spec_seq (kx:=fun s=>leG s [(0,.rowF n 13 row),(3,tI v),(4,.ptr 4 0),(14,.sc (.os .u8 m))]∧leB s [(4,32,[i64 kd,i64 x1,i64 x2,i64 x3,i64 x4,i64 ky,.os .u8 l,i64 cl,i64 k2,.os .u8 m,i64 pc,i64 pl,.ls ne])]) ?_ (fun s' hk=>spec_le hk.1 hk.2 rfl (z15 n row hrow v kd x1 x2 x3 x4 ky cl k2 pc pl ne l m hl hl2 hm hm2 rfl base w0 ke))
  refine spec_killK (cxOk Try.prog ints_ok [] [cHeavy,cMay,cEncR,cCopyC,cEnc,cNum,cEqB,cEqC,cDec,cDecR,cCopy,cWakes]) kBytes 2 _ rfl rfl _ _ _ rfl rfl rfl (by kernel_rfl) _ _ rfl ?_ _ rfl ?_ [(0,.rowF n 13 row),(3,tI v),(4,.ptr 4 0),(14,.sc (.os .u8 m))] [(4,32,[i64 kd,i64 x1,i64 x2,i64 x3,i64 x4,i64 ky,.os .u8 l,i64 cl,i64 k2,.os .u8 m,i64 pc,i64 pl,.ls ne])] ?_ ?_ rfl ?_ ?_ rfl ?_
  · exact ⟨trivial,trivial,trivial⟩
  · exact Nat.le_trans (decC_b hm).2 (by decide)
  · exact ⟨rfl,rfl,rfl,rfl,trivial⟩
  · exact ⟨rfl,⟨rfl,rfl,rfl,rfl,rfl,rfl,rfl,rfl,rfl,rfl,rfl,rfl,rfl,trivial⟩,trivial⟩
  · intro p hp
    simp only [List.mem_cons,List.not_mem_nil,or_false] at hp
    rcases hp with rfl|rfl|rfl|rfl
    · exact hrow
    all_goals first|rfl|trivial
  · intro p hp
    simp only [List.mem_cons,List.not_mem_nil,or_false] at hp
    rcases hp with rfl<;>rfl
  · exact ⟨⟨rfl,rfl,rfl,rfl,trivial⟩,⟨rfl,⟨rfl,rfl,rfl,rfl,rfl,rfl,rfl,rfl,rfl,rfl,rfl,rfl,rfl,trivial⟩,trivial⟩⟩
theorem z13 (n:Nat) (row:Nat→List A0) (hrow:∀ j,(row j).all A0.safe=true) (v kd x1 x2 x3 x4 ky cl k2 pc pl:Int) (ne:Nat) (l m:List Int) (hl:BytesL l) (hl2:l.length≤1000) (hm:BytesL m) (hm2:m.length≤1000) {c:Code} (hc:bodyAt Try.f3 [true,false,true,true,true,true,false,true,true,true,true,true,true,true,true,true,true,true,true,true,true]=some c) (base:Nat) (w0:World) (ke:Nat→St→Prop):SpecC Try.prog Try.f3.ntmps base w0 c (fun s=>leG s [(0,.rowF n 13 row),(3,tI v)]∧leB s []) ke (fun s=>resCR (cxOf Try.prog [] [] [cHeavy,cMay,cEncR,cCopyC,cEnc,cNum,cEqB,cEqC,cDec,cDecR,cCopy,cWakes]) Try.f3.results.toList s=some (.tv (tB true))) (stB [(0,.rowF n 13 row),(3,tI v),(4,.ptr 4 0),(13,tB (decide (MayD k2 m))),(14,.sc (.os .u8 m)),(15,.ptr 15 0)] [(4,32,[i64 kd,i64 x1,i64 x2,i64 x3,i64 x4,i64 ky,.os .u8 l,i64 cl,i64 k2,.os .u8 m,i64 pc,i64 pl,.ls ne]),(15,27,cellsD (decC k2 m).1)]):=by
  refine spec_of hc rfl ?_
  refine spec_vch (kx:=fun s=>leG s [(0,.rowF n 13 row),(3,tI v),(4,.ptr 4 0),(14,.sc (.os .u8 m)),(15,.ptr 15 0)]∧leB s [(4,32,[i64 kd,i64 x1,i64 x2,i64 x3,i64 x4,i64 ky,.os .u8 l,i64 cl,i64 k2,.os .u8 m,i64 pc,i64 pl,.ls ne]),(15,27,cellsD (decC k2 m).1)]) (cxOk Try.prog ints_ok [] [cHeavy,cMay,cEncR,cCopyC,cEnc,cNum,cEqB,cEqC,cDec,cDecR,cCopy,cWakes]) follows [] 60 1 _ _ ?_ (fun s' hk=>?_)
  · skip
    repeat' first
      | exact trivial
      | (refine And.intro (show regChk _ _ _ _ _=true from by kernel_rfl) (And.intro ?_ ?_))
      | (refine And.intro (fun _=>?_) (fun h=>absurd (show true=false from h) (by decide)))
      | (refine And.intro (fun h=>absurd (show false=true from h) (by decide)) (fun _=>?_))
      | (refine And.intro (fun hb=>?_) (fun hb'=>?_))
      | refine And.intro ?_ ?_
      | intro _
    all_goals first
      | (show some (CR.tv (tB false))=some (CR.tv (tB true));exfalso;first|exact no (ts28 hm.1 (by assumption)) (by assumption))
      | (show BytesL _;first|exact hl|exact hm|exact encCR_b hl hl2|exact decC_b hm)
      | (show List.length _≤1000000;first|exact Nat.le_trans (encCR_b hl hl2).2 (by decide)|exact Nat.le_trans (decC_b hm).2 (by decide)|exact Nat.le_trans (decC_b (encCR_b hl hl2)).2 (by decide)|exact Nat.le_trans (encCR_b (decC_b hm) (Nat.le_trans decC_n hm2)).2 (by decide)|exact Nat.le_trans hl.2 (by decide)|exact Nat.le_trans hm.2 (by decide)|exact Nat.zero_le _)
      | (show List.length _≤100000;first|exact hl.2|exact hm.2)
      | (show (_:Option TV)=_;rfl)
      | (show (_:Option A0)=_;rfl)
      | (show (_:Option TypeId)=_;rfl)
      | (show True;trivial)
      | (show (_:Bool)=(_:Bool);first|assumption|exact gB (by assumption)|exact bq (by assumption)|exact bt (by assumption)|(exact an (by first|assumption|exact bq (by assumption)) (by first|assumption|exact bt (by assumption)))|rfl)
      | (show _=_;rfl)
      -- PVC
  · exact spec_le hk.1 hk.2 rfl (z14 n row hrow v kd x1 x2 x3 x4 ky cl k2 pc pl ne l m hl hl2 hm hm2 rfl base w0 ke)
theorem z11 (n:Nat) (row:Nat→List A0) (hrow:∀ j,(row j).all A0.safe=true) (v kd x1 x2 x3 x4 ky cl k2 pc pl:Int) (ne:Nat) (l m:List Int) (hl:BytesL l) (hl2:l.length≤1000) (hm:BytesL m) (hm2:m.length≤1000) {c:Code} (hc:bodyAt Try.f3 [true,false,true,true,true,true,false,true,true,true,true,true,true,true,true,true,true,true,true]=some c) (base:Nat) (w0:World) (ke:Nat→St→Prop):SpecC Try.prog Try.f3.ntmps base w0 c (fun s=>leG s [(0,.rowF n 13 row),(3,tI v)]∧leB s []) ke (fun s=>resCR (cxOf Try.prog [] [] [cHeavy,cMay,cEncR,cCopyC,cEnc,cNum,cEqB,cEqC,cDec,cDecR,cCopy,cWakes]) Try.f3.results.toList s=some (.tv (tB true))) (stB [(0,.rowF n 13 row),(3,tI v),(4,.ptr 4 0),(12,.ptr 12 0),(13,tB (decide (MayD k2 m))),(14,.sc (.os .u8 m))] [(4,32,[i64 kd,i64 x1,i64 x2,i64 x3,i64 x4,i64 ky,.os .u8 l,i64 cl,i64 k2,.os .u8 m,i64 pc,i64 pl,.ls ne]),(12,27,[i64 (decC k2 m).1.1,i64 (decC k2 m).1.2.1,i64 (decC k2 m).1.2.2.1,i64 (decC k2 m).1.2.2.2.1,i64 (decC k2 m).1.2.2.2.2.1,i64 (decC k2 m).1.2.2.2.2.2.1,.os .u8 (decC k2 m).1.2.2.2.2.2.2.1,i64 (decC k2 m).1.2.2.2.2.2.2.2])]):=by
  refine spec_of hc rfl ?_
  refine spec_vch (kx:=fun s=>leG s [(0,.rowF n 13 row),(3,tI v),(4,.ptr 4 0),(13,tB (decide (MayD k2 m))),(14,.sc (.os .u8 m)),(15,.ptr 15 0)]∧leB s [(4,32,[i64 kd,i64 x1,i64 x2,i64 x3,i64 x4,i64 ky,.os .u8 l,i64 cl,i64 k2,.os .u8 m,i64 pc,i64 pl,.ls ne]),(15,27,cellsD (decC k2 m).1)]) (cxOk Try.prog ints_ok [] [cHeavy,cMay,cEncR,cCopyC,cEnc,cNum,cEqB,cEqC,cDec,cDecR,cCopy,cWakes]) follows [] 60 2 _ _ ?_ (fun s' hk=>?_)
  · skip
    repeat' first
      | exact trivial
      | (refine And.intro (show regChk _ _ _ _ _=true from by kernel_rfl) (And.intro ?_ ?_))
      | (refine And.intro (fun _=>?_) (fun h=>absurd (show true=false from h) (by decide)))
      | (refine And.intro (fun h=>absurd (show false=true from h) (by decide)) (fun _=>?_))
      | (refine And.intro (fun hb=>?_) (fun hb'=>?_))
      | refine And.intro ?_ ?_
      | intro _
    all_goals first
      | (show some (CR.tv (tB false))=some (CR.tv (tB true));exfalso;exact no (ts24 (eqC_self _ _ _ _ _ _ _ _)) hb)
      | (show BytesL _;first|exact hl|exact hm|exact encCR_b hl hl2|exact decC_b hm)
      | (show List.length _≤1000000;first|exact Nat.le_trans (encCR_b hl hl2).2 (by decide)|exact Nat.le_trans (decC_b hm).2 (by decide)|exact Nat.le_trans (decC_b (encCR_b hl hl2)).2 (by decide)|exact Nat.le_trans (encCR_b (decC_b hm) (Nat.le_trans decC_n hm2)).2 (by decide)|exact Nat.le_trans hl.2 (by decide)|exact Nat.le_trans hm.2 (by decide)|exact Nat.zero_le _)
      | (show List.length _≤100000;first|exact hl.2|exact hm.2)
      | (show (_:Option TV)=_;rfl)
      | (show (_:Option A0)=_;rfl)
      | (show (_:Option TypeId)=_;rfl)
      | (show True;trivial)
      | (show (_:Bool)=(_:Bool);first|assumption|exact gB (by assumption)|exact bq (by assumption)|exact bt (by assumption)|(exact an (by first|assumption|exact bq (by assumption)) (by first|assumption|exact bt (by assumption)))|rfl)
      | (show _=_;rfl)
      -- PVC
  · exact spec_le hk.1 hk.2 rfl (z13 n row hrow v kd x1 x2 x3 x4 ky cl k2 pc pl ne l m hl hl2 hm hm2 rfl base w0 ke)
theorem z9 (n:Nat) (row:Nat→List A0) (hrow:∀ j,(row j).all A0.safe=true) (v kd x1 x2 x3 x4 ky cl k2 pc pl:Int) (ne:Nat) (l m:List Int) (hl:BytesL l) (hl2:l.length≤1000) (hm:BytesL m) (hm2:m.length≤1000) {c:Code} (hc:bodyAt Try.f3 [true,false,true,true,true,true,false,true,true,true,true,true,true,true,true,true,true]=some c) (base:Nat) (w0:World) (ke:Nat→St→Prop):SpecC Try.prog Try.f3.ntmps base w0 c (fun s=>leG s [(0,.rowF n 13 row),(3,tI v)]∧leB s []) ke (fun s=>resCR (cxOf Try.prog [] [] [cHeavy,cMay,cEncR,cCopyC,cEnc,cNum,cEqB,cEqC,cDec,cDecR,cCopy,cWakes]) Try.f3.results.toList s=some (.tv (tB true))) (stB [(0,.rowF n 13 row),(3,tI v),(4,.ptr 4 0)] [(4,32,[i64 kd,i64 x1,i64 x2,i64 x3,i64 x4,i64 ky,.os .u8 l,i64 cl,i64 k2,.os .u8 m,i64 pc,i64 pl,.ls ne])]):=by
  refine spec_of hc rfl ?_
  refine spec_vch (kx:=fun s=>leG s [(0,.rowF n 13 row),(3,tI v),(4,.ptr 4 0),(12,.ptr 12 0),(13,tB (decide (MayD k2 m))),(14,.sc (.fs 5 .u8 m))]∧leB s [(4,32,[i64 kd,i64 x1,i64 x2,i64 x3,i64 x4,i64 ky,.os .u8 l,i64 cl,i64 k2,.os .u8 m,i64 pc,i64 pl,.ls ne]),(12,27,[i64 (decC k2 m).1.1,i64 (decC k2 m).1.2.1,i64 (decC k2 m).1.2.2.1,i64 (decC k2 m).1.2.2.2.1,i64 (decC k2 m).1.2.2.2.2.1,i64 (decC k2 m).1.2.2.2.2.2.1,.fs 5 .u8 (decC k2 m).1.2.2.2.2.2.2.1,i64 (decC k2 m).1.2.2.2.2.2.2.2])]) (cxOk Try.prog ints_ok [] [cHeavy,cMay,cEncR,cCopyC,cEnc,cNum,cEqB,cEqC,cDec,cDecR,cCopy,cWakes]) follows [] 60 2 _ _ ?_ (fun s' hk=>?_)
  · skip
    repeat' first
      | exact trivial
      | (refine And.intro (show regChk _ _ _ _ _=true from by kernel_rfl) (And.intro ?_ ?_))
      | (refine And.intro (fun _=>?_) (fun h=>absurd (show true=false from h) (by decide)))
      | (refine And.intro (fun h=>absurd (show false=true from h) (by decide)) (fun _=>?_))
      | (refine And.intro (fun hb=>?_) (fun hb'=>?_))
      | refine And.intro ?_ ?_
      | intro _
    all_goals first
      | (show BytesL _;first|exact hl|exact hm|exact encCR_b hl hl2|exact decC_b hm)
      | (show List.length _≤1000000;first|exact Nat.le_trans (encCR_b hl hl2).2 (by decide)|exact Nat.le_trans (decC_b hm).2 (by decide)|exact Nat.le_trans (decC_b (encCR_b hl hl2)).2 (by decide)|exact Nat.le_trans (encCR_b (decC_b hm) (Nat.le_trans decC_n hm2)).2 (by decide)|exact Nat.le_trans hl.2 (by decide)|exact Nat.le_trans hm.2 (by decide)|exact Nat.zero_le _)
      | (show List.length _≤100000;first|exact hl.2|exact hm.2)
      | (show (_:Option TV)=_;rfl)
      | (show (_:Option A0)=_;rfl)
      | (show (_:Option TypeId)=_;rfl)
      | (show True;trivial)
      | (show (_:Bool)=(_:Bool);first|assumption|exact gB (by assumption)|exact bq (by assumption)|exact bt (by assumption)|(exact an (by first|assumption|exact bq (by assumption)) (by first|assumption|exact bt (by assumption)))|rfl)
      | (show _=_;rfl)
      -- PVC
  · exact spec_le hk.1 hk.2 rfl (spec_era rfl rfl (z11 n row hrow v kd x1 x2 x3 x4 ky cl k2 pc pl ne l m hl hl2 hm hm2 rfl base w0 ke))
theorem z8t (n:Nat) (row:Nat→List A0) (hrow:∀ j,(row j).all A0.safe=true) (v kd x1 x2 x3 x4 ky cl k2 pc pl:Int) (ne:Nat) (l m:List Int) (hl:BytesL l) (hl2:l.length≤1000) (hm:BytesL m) (hm2:m.length≤1000) (hmay:mayC kd x1 x2 x3 x4 ky l cl=true) {c:Code} (hc:bodyAt Try.f3 [true,false,true,true,true,true,false,true,true,true,true,true,true,true,true,true]=some c) (base:Nat) (w0:World) (ke:Nat→St→Prop):SpecC Try.prog Try.f3.ntmps base w0 c (fun s=>leG s [(0,.rowF n 13 row),(3,tI v)]∧leB s []) ke (fun s=>resCR (cxOf Try.prog [] [] [cHeavy,cMay,cEncR,cCopyC,cEnc,cNum,cEqB,cEqC,cDec,cDecR,cCopy,cWakes]) Try.f3.results.toList s=some (.tv (tB true))) (stB [(0,.rowF n 13 row),(3,tI v),(4,.ptr 4 0),(7,.ptr 7 0),(5,tI 0),(8,.sc (.fs 5 .u8 (encCR kd x1 x2 x3 x4 ky l cl).1))] [(4,32,[i64 kd,i64 x1,i64 x2,i64 x3,i64 x4,i64 ky,.os .u8 l,i64 cl,i64 k2,.os .u8 m,i64 pc,i64 pl,.ls ne]),(7,27,[i64 kd,i64 x1,i64 x2,i64 x3,i64 x4,i64 ky,.os .u8 l,i64 cl])]):=by
  refine spec_of hc rfl ?_
  refine spec_seq (kx:=fun s=>leG s [(0,.rowF n 13 row),(3,tI v),(4,.ptr 4 0)]∧leB s [(4,32,[i64 kd,i64 x1,i64 x2,i64 x3,i64 x4,i64 ky,.os .u8 l,i64 cl,i64 k2,.os .u8 m,i64 pc,i64 pl,.ls ne])]) ?_ (fun s' hk=>spec_le hk.1 hk.2 rfl (z9 n row hrow v kd x1 x2 x3 x4 ky cl k2 pc pl ne l m hl hl2 hm hm2 rfl base w0 ke))
  refine spec_seq (kx:=fun s=>leG s [(68,tB true),(0,.rowF n 13 row),(3,tI v),(4,.ptr 4 0),(7,.ptr 7 0),(8,.sc (.fs 5 .u8 (encCR kd x1 x2 x3 x4 ky l cl).1))]∧leB s [(4,32,[i64 kd,i64 x1,i64 x2,i64 x3,i64 x4,i64 ky,.os .u8 l,i64 cl,i64 k2,.os .u8 m,i64 pc,i64 pl,.ls ne]),(7,27,[i64 kd,i64 x1,i64 x2,i64 x3,i64 x4,i64 ky,.os .u8 l,i64 cl])]) ?_ (fun s' hk=>spec_le hk.1 hk.2 rfl (spec_condT rfl ?_))
  · refine spec_vcd (cxOk Try.prog ints_ok [] [cHeavy,cMay,cEncR,cCopyC,cEnc,cNum,cEqB,cEqC,cDec,cDecR,cCopy,cWakes]) follows [] 60 ?_
    repeat' first
      | exact trivial
      | (refine And.intro (show regChk _ _ _ _ _=true from by kernel_rfl) (And.intro ?_ ?_))
      | (refine And.intro (fun _=>?_) (fun h=>absurd (show true=false from h) (by decide)))
      | (refine And.intro (fun h=>absurd (show false=true from h) (by decide)) (fun _=>?_))
      | (refine And.intro (fun hb=>?_) (fun hb'=>?_))
      | refine And.intro ?_ ?_
      | intro _
    all_goals first
      | (show BytesL _;first|exact hl|exact hm|exact encCR_b hl hl2|exact decC_b hm)
      | (show List.length _≤1000000;first|exact Nat.le_trans (encCR_b hl hl2).2 (by decide)|exact Nat.le_trans (decC_b hm).2 (by decide)|exact Nat.le_trans (decC_b (encCR_b hl hl2)).2 (by decide)|exact Nat.le_trans (encCR_b (decC_b hm) (Nat.le_trans decC_n hm2)).2 (by decide)|exact Nat.le_trans hl.2 (by decide)|exact Nat.le_trans hm.2 (by decide)|exact Nat.zero_le _)
      | (show List.length _≤100000;first|exact hl.2|exact hm.2)
      | (show (_:Option TV)=_;rfl)
      | (show (_:Option A0)=_;rfl)
      | (show (_:Option TypeId)=_;rfl)
      | (show True;trivial)
      | (show (_:Bool)=(_:Bool);first|assumption|exact gB (by assumption)|exact bq (by assumption)|exact bt (by assumption)|(exact an (by first|assumption|exact bq (by assumption)) (by first|assumption|exact bt (by assumption)))|rfl)
      | (show _=_;rfl)
      -- PVC
  · refine spec_vch (kx:=fun s=>leG s [(0,.rowF n 13 row),(3,tI v),(4,.ptr 4 0),(7,.ptr 7 0),(8,.sc (.fs 5 .u8 (encCR kd x1 x2 x3 x4 ky l cl).1))]∧leB s [(4,32,[i64 kd,i64 x1,i64 x2,i64 x3,i64 x4,i64 ky,.os .u8 l,i64 cl,i64 k2,.os .u8 m,i64 pc,i64 pl,.ls ne]),(7,27,[i64 kd,i64 x1,i64 x2,i64 x3,i64 x4,i64 ky,.os .u8 l,i64 cl])]) (cxOk Try.prog ints_ok [] [cHeavy,cMay,cEncR,cCopyC,cEnc,cNum,cEqB,cEqC,cDec,cDecR,cCopy,cWakes]) follows [] 60 2 _ _ ?_ (fun s' hk=>spec_le hk.1 hk.2 rfl ?_)
    · skip
      repeat' first
        | exact trivial
        | (refine And.intro (show regChk _ _ _ _ _=true from by kernel_rfl) (And.intro ?_ ?_))
        | (refine And.intro (fun _=>?_) (fun h=>absurd (show true=false from h) (by decide)))
        | (refine And.intro (fun h=>absurd (show false=true from h) (by decide)) (fun _=>?_))
        | (refine And.intro (fun hb=>?_) (fun hb'=>?_))
        | refine And.intro ?_ ?_
        | intro _
      all_goals first
        | (show some (CR.tv (tB false))=some (CR.tv (tB true));exfalso;exact no (ts8 hmay) hb)
        | (show BytesL _;first|exact hl|exact hm|exact encCR_b hl hl2|exact decC_b hm)
        | (show List.length _≤1000000;first|exact Nat.le_trans (encCR_b hl hl2).2 (by decide)|exact Nat.le_trans (decC_b hm).2 (by decide)|exact Nat.le_trans (decC_b (encCR_b hl hl2)).2 (by decide)|exact Nat.le_trans (encCR_b (decC_b hm) (Nat.le_trans decC_n hm2)).2 (by decide)|exact Nat.le_trans hl.2 (by decide)|exact Nat.le_trans hm.2 (by decide)|exact Nat.zero_le _)
        | (show List.length _≤100000;first|exact hl.2|exact hm.2)
        | (show (_:Option TV)=_;rfl)
        | (show (_:Option A0)=_;rfl)
        | (show (_:Option TypeId)=_;rfl)
        | (show True;trivial)
        | (show (_:Bool)=(_:Bool);first|assumption|exact gB (by assumption)|exact bq (by assumption)|exact bt (by assumption)|(exact an (by first|assumption|exact bq (by assumption)) (by first|assumption|exact bt (by assumption)))|rfl)
        | (show _=_;rfl)
        -- PVC
    · skip
      refine spec_killK (cxOk Try.prog ints_ok [] [cHeavy,cMay,cEncR,cCopyC,cEnc,cNum,cEqB,cEqC,cDec,cDecR,cCopy,cWakes]) kBytes 1 _ rfl rfl _ _ _ rfl rfl rfl (by kernel_rfl) _ _ rfl ?_ _ rfl ?_ [(0,.rowF n 13 row),(3,tI v),(4,.ptr 4 0)] [(4,32,[i64 kd,i64 x1,i64 x2,i64 x3,i64 x4,i64 ky,.os .u8 l,i64 cl,i64 k2,.os .u8 m,i64 pc,i64 pl,.ls ne])] ?_ ?_ rfl ?_ ?_ rfl ?_
      · exact ⟨trivial,trivial⟩
      · exact Nat.le_trans (encCR_b hl hl2).2 (by decide)
      · exact ⟨rfl,rfl,rfl,trivial⟩
      · exact ⟨rfl,⟨rfl,rfl,rfl,rfl,rfl,rfl,rfl,rfl,rfl,rfl,rfl,rfl,rfl,trivial⟩,trivial⟩
      · intro p hp
        simp only [List.mem_cons,List.not_mem_nil,or_false] at hp
        rcases hp with rfl|rfl|rfl
        · exact hrow
        all_goals first|rfl|trivial
      · intro p hp
        simp only [List.mem_cons,List.not_mem_nil,or_false] at hp
        rcases hp with rfl<;>rfl
      · exact ⟨⟨rfl,rfl,rfl,trivial⟩,⟨rfl,⟨rfl,rfl,rfl,rfl,rfl,rfl,rfl,rfl,rfl,rfl,rfl,rfl,rfl,trivial⟩,trivial⟩⟩
theorem z8f (n:Nat) (row:Nat→List A0) (hrow:∀ j,(row j).all A0.safe=true) (v kd x1 x2 x3 x4 ky cl k2 pc pl:Int) (ne:Nat) (l m:List Int) (hl:BytesL l) (hl2:l.length≤1000) (hm:BytesL m) (hm2:m.length≤1000) {c:Code} (hc:bodyAt Try.f3 [true,false,true,true,true,true,false,true,true,true,true,true,true,true,true,true]=some c) (base:Nat) (w0:World) (ke:Nat→St→Prop):SpecC Try.prog Try.f3.ntmps base w0 c (fun s=>leG s [(0,.rowF n 13 row),(3,tI v)]∧leB s []) ke (fun s=>resCR (cxOf Try.prog [] [] [cHeavy,cMay,cEncR,cCopyC,cEnc,cNum,cEqB,cEqC,cDec,cDecR,cCopy,cWakes]) Try.f3.results.toList s=some (.tv (tB true))) (stB [(0,.rowF n 13 row),(3,tI v),(4,.ptr 4 0),(7,.ptr 7 0),(5,tI 1),(8,.sc (.fs 5 .u8 (encCR kd x1 x2 x3 x4 ky l cl).1))] [(4,32,[i64 kd,i64 x1,i64 x2,i64 x3,i64 x4,i64 ky,.os .u8 l,i64 cl,i64 k2,.os .u8 m,i64 pc,i64 pl,.ls ne]),(7,27,[i64 kd,i64 x1,i64 x2,i64 x3,i64 x4,i64 ky,.os .u8 l,i64 cl])]):=by
  refine spec_of hc rfl ?_
  refine spec_vch (kx:=fun s=>leG s [(0,.rowF n 13 row),(3,tI v),(4,.ptr 4 0)]∧leB s [(4,32,[i64 kd,i64 x1,i64 x2,i64 x3,i64 x4,i64 ky,.os .u8 l,i64 cl,i64 k2,.os .u8 m,i64 pc,i64 pl,.ls ne])]) (cxOk Try.prog ints_ok [] [cHeavy,cMay,cEncR,cCopyC,cEnc,cNum,cEqB,cEqC,cDec,cDecR,cCopy,cWakes]) follows [] 60 1 _ _ ?_ (fun s' hk=>?_)
  · skip
    repeat' first
      | exact trivial
      | (refine And.intro (show regChk _ _ _ _ _=true from by kernel_rfl) (And.intro ?_ ?_))
      | (refine And.intro (fun _=>?_) (fun h=>absurd (show true=false from h) (by decide)))
      | (refine And.intro (fun h=>absurd (show false=true from h) (by decide)) (fun _=>?_))
      | (refine And.intro (fun hb=>?_) (fun hb'=>?_))
      | refine And.intro ?_ ?_
      | intro _
    all_goals first
      | (show BytesL _;first|exact hl|exact hm|exact encCR_b hl hl2|exact decC_b hm)
      | (show List.length _≤1000000;first|exact Nat.le_trans (encCR_b hl hl2).2 (by decide)|exact Nat.le_trans (decC_b hm).2 (by decide)|exact Nat.le_trans (decC_b (encCR_b hl hl2)).2 (by decide)|exact Nat.le_trans (encCR_b (decC_b hm) (Nat.le_trans decC_n hm2)).2 (by decide)|exact Nat.le_trans hl.2 (by decide)|exact Nat.le_trans hm.2 (by decide)|exact Nat.zero_le _)
      | (show List.length _≤100000;first|exact hl.2|exact hm.2)
      | (show (_:Option TV)=_;rfl)
      | (show (_:Option A0)=_;rfl)
      | (show (_:Option TypeId)=_;rfl)
      | (show True;trivial)
      | (show (_:Bool)=(_:Bool);first|assumption|exact gB (by assumption)|exact bq (by assumption)|exact bt (by assumption)|(exact an (by first|assumption|exact bq (by assumption)) (by first|assumption|exact bt (by assumption)))|rfl)
      | (show _=_;rfl)
      -- PVC
  · exact spec_le hk.1 hk.2 rfl (z9 n row hrow v kd x1 x2 x3 x4 ky cl k2 pc pl ne l m hl hl2 hm hm2 rfl base w0 ke)
theorem z6t (n:Nat) (row:Nat→List A0) (hrow:∀ j,(row j).all A0.safe=true) (v kd x1 x2 x3 x4 ky cl k2 pc pl:Int) (ne:Nat) (l m:List Int) (hl:BytesL l) (hl2:l.length≤1000) (hm:BytesL m) (hm2:m.length≤1000) (hmay:mayC kd x1 x2 x3 x4 ky l cl=true) {c:Code} (hc:bodyAt Try.f3 [true,false,true,true,true,true,false,true,true,true,true,true,true,true]=some c) (base:Nat) (w0:World) (ke:Nat→St→Prop):SpecC Try.prog Try.f3.ntmps base w0 c (fun s=>leG s [(0,.rowF n 13 row),(3,tI v)]∧leB s []) ke (fun s=>resCR (cxOf Try.prog [] [] [cHeavy,cMay,cEncR,cCopyC,cEnc,cNum,cEqB,cEqC,cDec,cDecR,cCopy,cWakes]) Try.f3.results.toList s=some (.tv (tB true))) (stB [(0,.rowF n 13 row),(3,tI v),(4,.ptr 4 0),(7,.ptr 7 0),(5,tI 0),(6,.sc (.os .u8 (encB kd x1 x2 x3 x4 ky l cl)))] [(4,32,[i64 kd,i64 x1,i64 x2,i64 x3,i64 x4,i64 ky,.os .u8 l,i64 cl,i64 k2,.os .u8 m,i64 pc,i64 pl,.ls ne]),(7,27,[i64 kd,i64 x1,i64 x2,i64 x3,i64 x4,i64 ky,.os .u8 l,i64 cl])]):=by
  refine spec_of hc rfl ?_
  refine spec_vch (kx:=fun s=>leG s [(0,.rowF n 13 row),(3,tI v),(4,.ptr 4 0),(7,.ptr 7 0),(5,tI 0),(8,.sc (.fs 5 .u8 (encCR kd x1 x2 x3 x4 ky l cl).1))]∧leB s [(4,32,[i64 kd,i64 x1,i64 x2,i64 x3,i64 x4,i64 ky,.os .u8 l,i64 cl,i64 k2,.os .u8 m,i64 pc,i64 pl,.ls ne]),(7,27,[i64 kd,i64 x1,i64 x2,i64 x3,i64 x4,i64 ky,.os .u8 l,i64 cl])]) (cxOk Try.prog ints_ok [] [cHeavy,cMay,cEncR,cCopyC,cEnc,cNum,cEqB,cEqC,cDec,cDecR,cCopy,cWakes]) follows [] 60 2 _ _ ?_ (fun s' hk=>?_)
  · skip
    repeat' first
      | exact trivial
      | (refine And.intro (show regChk _ _ _ _ _=true from by kernel_rfl) (And.intro ?_ ?_))
      | (refine And.intro (fun _=>?_) (fun h=>absurd (show true=false from h) (by decide)))
      | (refine And.intro (fun h=>absurd (show false=true from h) (by decide)) (fun _=>?_))
      | (refine And.intro (fun hb=>?_) (fun hb'=>?_))
      | refine And.intro ?_ ?_
      | intro _
    all_goals first
      | (show some (CR.tv (tB false))=some (CR.tv (tB true));exfalso;exact no (ts_y hmay) hb)
      | (show BytesL _;first|exact hl|exact hm|exact encCR_b hl hl2|exact decC_b hm)
      | (show List.length _≤1000000;first|exact Nat.le_trans (encCR_b hl hl2).2 (by decide)|exact Nat.le_trans (decC_b hm).2 (by decide)|exact Nat.le_trans (decC_b (encCR_b hl hl2)).2 (by decide)|exact Nat.le_trans (encCR_b (decC_b hm) (Nat.le_trans decC_n hm2)).2 (by decide)|exact Nat.le_trans hl.2 (by decide)|exact Nat.le_trans hm.2 (by decide)|exact Nat.zero_le _)
      | (show List.length _≤100000;first|exact hl.2|exact hm.2)
      | (show (_:Option TV)=_;rfl)
      | (show (_:Option A0)=_;rfl)
      | (show (_:Option TypeId)=_;rfl)
      | (show True;trivial)
      | (show (_:Bool)=(_:Bool);first|assumption|exact gB (by assumption)|exact bq (by assumption)|exact bt (by assumption)|(exact an (by first|assumption|exact bq (by assumption)) (by first|assumption|exact bt (by assumption)))|rfl)
      | (show _=_;rfl)
      -- PVC
  · exact spec_le hk.1 hk.2 rfl (z8t n row hrow v kd x1 x2 x3 x4 ky cl k2 pc pl ne l m hl hl2 hm hm2 hmay rfl base w0 ke)
theorem z6f (n:Nat) (row:Nat→List A0) (hrow:∀ j,(row j).all A0.safe=true) (v kd x1 x2 x3 x4 ky cl k2 pc pl:Int) (ne:Nat) (l m:List Int) (hl:BytesL l) (hl2:l.length≤1000) (hm:BytesL m) (hm2:m.length≤1000) (hmay:mayC kd x1 x2 x3 x4 ky l cl=false) {c:Code} (hc:bodyAt Try.f3 [true,false,true,true,true,true,false,true,true,true,true,true,true,true]=some c) (base:Nat) (w0:World) (ke:Nat→St→Prop):SpecC Try.prog Try.f3.ntmps base w0 c (fun s=>leG s [(0,.rowF n 13 row),(3,tI v)]∧leB s []) ke (fun s=>resCR (cxOf Try.prog [] [] [cHeavy,cMay,cEncR,cCopyC,cEnc,cNum,cEqB,cEqC,cDec,cDecR,cCopy,cWakes]) Try.f3.results.toList s=some (.tv (tB true))) (stB [(0,.rowF n 13 row),(3,tI v),(4,.ptr 4 0),(7,.ptr 7 0),(5,tI 1),(6,.sc (nilA))] [(4,32,[i64 kd,i64 x1,i64 x2,i64 x3,i64 x4,i64 ky,.os .u8 l,i64 cl,i64 k2,.os .u8 m,i64 pc,i64 pl,.ls ne]),(7,27,[i64 kd,i64 x1,i64 x2,i64 x3,i64 x4,i64 ky,.os .u8 l,i64 cl])]):=by
  refine spec_of hc rfl ?_
  refine spec_vch (kx:=fun s=>leG s [(0,.rowF n 13 row),(3,tI v),(4,.ptr 4 0),(7,.ptr 7 0),(5,tI 1),(8,.sc (.fs 5 .u8 (encCR kd x1 x2 x3 x4 ky l cl).1))]∧leB s [(4,32,[i64 kd,i64 x1,i64 x2,i64 x3,i64 x4,i64 ky,.os .u8 l,i64 cl,i64 k2,.os .u8 m,i64 pc,i64 pl,.ls ne]),(7,27,[i64 kd,i64 x1,i64 x2,i64 x3,i64 x4,i64 ky,.os .u8 l,i64 cl])]) (cxOk Try.prog ints_ok [] [cHeavy,cMay,cEncR,cCopyC,cEnc,cNum,cEqB,cEqC,cDec,cDecR,cCopy,cWakes]) follows [] 60 2 _ _ ?_ (fun s' hk=>?_)
  · skip
    repeat' first
      | exact trivial
      | (refine And.intro (show regChk _ _ _ _ _=true from by kernel_rfl) (And.intro ?_ ?_))
      | (refine And.intro (fun _=>?_) (fun h=>absurd (show true=false from h) (by decide)))
      | (refine And.intro (fun h=>absurd (show false=true from h) (by decide)) (fun _=>?_))
      | (refine And.intro (fun hb=>?_) (fun hb'=>?_))
      | refine And.intro ?_ ?_
      | intro _
    all_goals first
      | (show some (CR.tv (tB false))=some (CR.tv (tB true));exfalso;exact no (ts_n hmay) hb)
      | (show BytesL _;first|exact hl|exact hm|exact encCR_b hl hl2|exact decC_b hm)
      | (show List.length _≤1000000;first|exact Nat.le_trans (encCR_b hl hl2).2 (by decide)|exact Nat.le_trans (decC_b hm).2 (by decide)|exact Nat.le_trans (decC_b (encCR_b hl hl2)).2 (by decide)|exact Nat.le_trans (encCR_b (decC_b hm) (Nat.le_trans decC_n hm2)).2 (by decide)|exact Nat.le_trans hl.2 (by decide)|exact Nat.le_trans hm.2 (by decide)|exact Nat.zero_le _)
      | (show List.length _≤100000;first|exact hl.2|exact hm.2)
      | (show (_:Option TV)=_;rfl)
      | (show (_:Option A0)=_;rfl)
      | (show (_:Option TypeId)=_;rfl)
      | (show True;trivial)
      | (show (_:Bool)=(_:Bool);first|assumption|exact gB (by assumption)|exact bq (by assumption)|exact bt (by assumption)|(exact an (by first|assumption|exact bq (by assumption)) (by first|assumption|exact bt (by assumption)))|rfl)
      | (show _=_;rfl)
      -- PVC
  · exact spec_le hk.1 hk.2 rfl (z8f n row hrow v kd x1 x2 x3 x4 ky cl k2 pc pl ne l m hl hl2 hm hm2 rfl base w0 ke)
theorem z2 (n:Nat) (row:Nat→List A0) (hrow:∀ j,(row j).all A0.safe=true) (v kd x1 x2 x3 x4 ky cl k2 pc pl:Int) (ne:Nat) (l m:List Int) (hl:BytesL l) (hl2:l.length≤1000) (hm:BytesL m) (hm2:m.length≤1000) {c:Code} (hc:bodyAt Try.f3 [true,false,true,true,true,true,false,true,true,true]=some c) (base:Nat) (w0:World) (ke:Nat→St→Prop):SpecC Try.prog Try.f3.ntmps base w0 c (fun s=>leG s [(0,.rowF n 13 row),(3,tI v)]∧leB s []) ke (fun s=>resCR (cxOf Try.prog [] [] [cHeavy,cMay,cEncR,cCopyC,cEnc,cNum,cEqB,cEqC,cDec,cDecR,cCopy,cWakes]) Try.f3.results.toList s=some (.tv (tB true))) (stB [(0,.rowF n 13 row),(3,tI v),(4,.ptr 4 0)] [(4,32,[i64 kd,i64 x1,i64 x2,i64 x3,i64 x4,i64 ky,.os .u8 l,i64 cl,i64 k2,.os .u8 m,i64 pc,i64 pl,.ls ne])]):=by
  refine spec_of hc rfl ?_
  refine spec_vch (kx:=fun s=>(mayC kd x1 x2 x3 x4 ky l cl=true∧leG s [(0,.rowF n 13 row),(3,tI v),(4,.ptr 4 0),(7,.ptr 7 0),(5,tI 0),(6,.sc (.fs 5 .u8 (encB kd x1 x2 x3 x4 ky l cl)))]∧leB s [(4,32,[i64 kd,i64 x1,i64 x2,i64 x3,i64 x4,i64 ky,.os .u8 l,i64 cl,i64 k2,.os .u8 m,i64 pc,i64 pl,.ls ne]),(7,27,[i64 kd,i64 x1,i64 x2,i64 x3,i64 x4,i64 ky,.fs 5 .u8 l,i64 cl])])∨(mayC kd x1 x2 x3 x4 ky l cl=false∧leG s [(0,.rowF n 13 row),(3,tI v),(4,.ptr 4 0),(7,.ptr 7 0),(5,tI 1),(6,.sc nilA)]∧leB s [(4,32,[i64 kd,i64 x1,i64 x2,i64 x3,i64 x4,i64 ky,.os .u8 l,i64 cl,i64 k2,.os .u8 m,i64 pc,i64 pl,.ls ne]),(7,27,[i64 kd,i64 x1,i64 x2,i64 x3,i64 x4,i64 ky,.fs 5 .u8 l,i64 cl])])) (cxOk Try.prog ints_ok [] [cHeavy,cMay,cEncR,cCopyC,cEnc,cNum,cEqB,cEqC,cDec,cDecR,cCopy,cWakes]) follows [] 60 4 _ _ ?_ (fun s' hk=>?_)
  · skip
    repeat' first
      | exact trivial
      | (refine And.intro (show regChk _ _ _ _ _=true from by kernel_rfl) (And.intro ?_ ?_))
      | (refine And.intro (fun _=>?_) (fun h=>absurd (show true=false from h) (by decide)))
      | (refine And.intro (fun h=>absurd (show false=true from h) (by decide)) (fun _=>?_))
      | (refine And.intro (fun hb=>?_) (fun hb'=>?_))
      | refine And.intro ?_ ?_
      | intro _
    all_goals first
      | (show (_∧_)∨(_∧_);first|exact .inl ⟨nt (by assumption),⟨rfl,rfl,rfl,rfl,rfl,rfl,trivial⟩,⟨rfl,⟨rfl,rfl,rfl,rfl,rfl,rfl,rfl,rfl,rfl,rfl,rfl,rfl,rfl,trivial⟩,rfl,⟨rfl,rfl,rfl,rfl,rfl,rfl,rfl,rfl,trivial⟩,trivial⟩⟩|exact .inr ⟨nf (by assumption),⟨rfl,rfl,rfl,rfl,rfl,rfl,trivial⟩,⟨rfl,⟨rfl,rfl,rfl,rfl,rfl,rfl,rfl,rfl,rfl,rfl,rfl,rfl,rfl,trivial⟩,rfl,⟨rfl,rfl,rfl,rfl,rfl,rfl,rfl,rfl,trivial⟩,trivial⟩⟩)
      | (show mayC _ _ _ _ _ _ _ _=true;exact nt (by assumption))
      | (show BytesL _;first|exact hl|exact hm|exact encCR_b hl hl2|exact decC_b hm)
      | (show List.length _≤1000000;first|exact Nat.le_trans (encCR_b hl hl2).2 (by decide)|exact Nat.le_trans (decC_b hm).2 (by decide)|exact Nat.le_trans (decC_b (encCR_b hl hl2)).2 (by decide)|exact Nat.le_trans (encCR_b (decC_b hm) (Nat.le_trans decC_n hm2)).2 (by decide)|exact Nat.le_trans hl.2 (by decide)|exact Nat.le_trans hm.2 (by decide)|exact Nat.zero_le _)
      | (show List.length _≤100000;first|exact hl.2|exact hm.2)
      | (show (_:Option TV)=_;rfl)
      | (show (_:Option A0)=_;rfl)
      | (show (_:Option TypeId)=_;rfl)
      | (show True;trivial)
      | (show (_:Bool)=(_:Bool);first|assumption|exact gB (by assumption)|exact bq (by assumption)|exact bt (by assumption)|(exact an (by first|assumption|exact bq (by assumption)) (by first|assumption|exact bt (by assumption)))|rfl)
      | (show _=_;rfl)
      -- PVC
  · rcases hk with ⟨hmay,hg,hb⟩|⟨hmay,hg,hb⟩
    · exact spec_le hg hb rfl (spec_era rfl rfl (z6t n row hrow v kd x1 x2 x3 x4 ky cl k2 pc pl ne l m hl hl2 hm hm2 hmay rfl base w0 ke))
    · exact spec_le hg hb rfl (spec_era rfl rfl (z6f n row hrow v kd x1 x2 x3 x4 ky cl k2 pc pl ne l m hl hl2 hm hm2 hmay rfl base w0 ke))
end
end Go.Proofs.Ytaeabemipnbgbaa.PCm
end
section
set_option linter.unusedVariables false
set_option linter.unusedSimpArgs false
namespace Go.Proofs.Ytaeabemipnbgbaa.PCm
open Go RowKit Ytaeabemipnbgbaa.QCm YtaeabemipnbgbaaW.PrintWords YtaeabemipnbgbaaW.PrintMore YtaeabemipnbgbaaW.Aid YtaeabemipnbgbaaW.Big YtaeabemipnbgbaaW.Sx Go.Proofs
section
set_option maxRecDepth 100000
set_option maxHeartbeats 8000000
structure AskD where
  kd:Int
  x1:Int
  x2:Int
  x3:Int
  x4:Int
  ky:Int
  l:List Int
  cl:Int
  k2:Int
  m:List Int
  pc:Int
  pl:Int
  ne:Nat
abbrev rowC (d:Nat→AskD):Nat→List A0:=fun j=>[i64 (d j).kd,i64 (d j).x1,i64 (d j).x2,i64 (d j).x3,i64 (d j).x4,i64 (d j).ky,.os .u8 (d j).l,i64 (d j).cl,i64 (d j).k2,.os .u8 (d j).m,i64 (d j).pc,i64 (d j).pl,.ls (d j).ne]
def LC (n:Nat) (row:Nat→List A0):LI Int where
  gs:=fun v=>[(0,.rowF n 13 row),(3,tI v)]
  bs:=fun _=>[]
  I:=fun v=>0≤v∧v≤(n:Int)
  μ:=fun v=>((n:Int)-v).toNat
abbrev tC (n:Nat) (v:Int):Bool:=bif decide (v<(n:Int)) then decide (v<15) else false
theorem tC_t {n:Nat} {v:Int} (h:tC n v=true):v<(n:Int)∧v<15:=by
  unfold tC at h
  by_cases h1:v<(n:Int)
  · rw [decide_eq_true h1] at h;exact ⟨h1,of_decide_eq_true h⟩
  · rw [decide_eq_false h1] at h;cases h
theorem stepC {n:Nat} {v:Int} (hv:0≤v∧v≤(n:Int)) (h:tC n v=true) {row:Nat→List A0}:(LC n row).μ (IntKind.i64.wrap (v+1))<(LC n row).μ v∧(LC n row).I (IntKind.i64.wrap (v+1)):=by
  obtain ⟨h1,h2⟩:=tC_t h
  have e:IntKind.i64.wrap (v+1)=v+1:=by rw [Cmd.i64w];exact wrap64_id (by omega) (by omega)
  rw [e]
  exact ⟨by show ((n:Int)-(v+1)).toNat<((n:Int)-v).toNat;omega,⟨by omega,by omega⟩⟩
theorem bytesL_of {l:List Int} (h:Bytes l) (hl:l.length≤1000):BytesL l:=⟨h,by omega⟩
theorem rnd (n:Nat) (d:Nat→AskD) (hb:∀ j,Bytes (d j).l∧Bytes (d j).m) (v:Int) (hv:0≤v∧v≤(n:Int)) {c:Code} (hc:bodyAt Try.f3 [true,false,true,true,true]=some c) (base:Nat) (w0:World):SpecC Try.prog Try.f3.ntmps base w0 c (fun s'=>∃ v',(LC n (rowC d)).μ v'<(LC n (rowC d)).μ v∧atL (LC n (rowC d)) v' s') (fun id s=>id=0) (fun s=>resCR (cxOf Try.prog [] [] [cHeavy,cMay,cEncR,cCopyC,cEnc,cNum,cEqB,cEqC,cDec,cDecR,cCopy,cWakes]) Try.f3.results.toList s=some (.tv (tB true))) (stB [(0,.rowF n 13 (rowC d)),(3,tI v)] []):=by
  refine spec_of hc rfl ?_
  refine spec_seq (kx:=fun s=>tC n v=true∧leG s [(0,.rowF n 13 (rowC d)),(3,tI v)]∧leB s []) ?_ (fun s' hk=>spec_le hk.2.1 hk.2.2 rfl ?_)
  · refine spec_vcd (cxOk Try.prog ints_ok [] [cHeavy,cMay,cEncR,cCopyC,cEnc,cNum,cEqB,cEqC,cDec,cDecR,cCopy,cWakes]) follows [] 60 ?_
    repeat' first
      | exact trivial
      | (refine And.intro (show regChk _ _ _ _ _=true from by kernel_rfl) (And.intro ?_ ?_))
      | (refine And.intro (fun _=>?_) (fun h=>absurd (show true=false from h) (by decide)))
      | (refine And.intro (fun h=>absurd (show false=true from h) (by decide)) (fun _=>?_))
      | (refine And.intro (fun hb=>?_) (fun hb'=>?_))
      | refine And.intro ?_ ?_
      | intro _
    all_goals first
      | (show (_:Nat)=0;rfl)
      | exact hb
      | (show BytesL _;first|exact hl|exact hm|exact encCR_b hl hl2|exact decC_b hm)
      | (show List.length _≤1000000;first|exact Nat.le_trans (encCR_b hl hl2).2 (by decide)|exact Nat.le_trans (decC_b hm).2 (by decide)|exact Nat.le_trans (decC_b (encCR_b hl hl2)).2 (by decide)|exact Nat.le_trans (encCR_b (decC_b hm) (Nat.le_trans decC_n hm2)).2 (by decide)|exact Nat.le_trans hl.2 (by decide)|exact Nat.le_trans hm.2 (by decide)|exact Nat.zero_le _)
      | (show List.length _≤100000;first|exact hl.2|exact hm.2)
      | (show (_:Option TV)=_;rfl)
      | (show (_:Option A0)=_;rfl)
      | (show (_:Option TypeId)=_;rfl)
      | (show True;trivial)
      | (show (_:Bool)=(_:Bool);first|assumption|exact gB (by assumption)|exact bq (by assumption)|exact bt (by assumption)|(exact an (by first|assumption|exact bq (by assumption)) (by first|assumption|exact bt (by assumption)))|rfl)
      | (show _=_;rfl)
      -- PVC
  · have hC:=hk.1
    obtain ⟨hC1,hC2⟩:=tC_t hC
    refine spec_seq (kx:=fun s=>leG s [(0,.rowF n 13 (rowC d)),(3,tI v)]∧leB s []) ?_ (fun s' hk=>spec_le hk.1 hk.2 rfl ?_)
    · refine spec_block ?_
      refine spec_vch (kx:=fun s=>(bif bif decide (((d v.toNat).m.length:Int)>1000) then true else decide (((d v.toNat).l.length:Int)>1000) then true else decide (((d v.toNat).ne:Int)>50))=false∧leG s [(0,.rowF n 13 (rowC d)),(3,tI v),(4,.ptr 4 0)]∧leB s [(4,32,[i64 (d v.toNat).kd,i64 (d v.toNat).x1,i64 (d v.toNat).x2,i64 (d v.toNat).x3,i64 (d v.toNat).x4,i64 (d v.toNat).ky,.os .u8 (d v.toNat).l,i64 (d v.toNat).cl,i64 (d v.toNat).k2,.os .u8 (d v.toNat).m,i64 (d v.toNat).pc,i64 (d v.toNat).pl,.ls (d v.toNat).ne])]) (cxOk Try.prog ints_ok [] [cHeavy,cMay,cEncR,cCopyC,cEnc,cNum,cEqB,cEqC,cDec,cDecR,cCopy,cWakes]) follows [] 60 2 _ _ ?_ (fun s' hk=>?_)
      · skip
        repeat' first
          | exact trivial
          | (refine And.intro (show regChk _ _ _ _ _=true from by kernel_rfl) (And.intro ?_ ?_))
          | (refine And.intro (fun _=>?_) (fun h=>absurd (show true=false from h) (by decide)))
          | (refine And.intro (fun h=>absurd (show false=true from h) (by decide)) (fun _=>?_))
          | (refine And.intro (fun hb=>?_) (fun hb'=>?_))
          | refine And.intro ?_ ?_
          | intro _
        all_goals first
          | (show (0:Int)≤v;exact hv.1)
          | (show v<(n:Int);exact hC1)
          | (show some (CR.tv (tB true))=some (CR.tv (tB true));rfl)
          | (show (_:Option TV)=_;rfl)
          | (show (_:Option A0)=_;rfl)
          | (show (_:Option TypeId)=_;rfl)
          | (show True;trivial)
          | (show (_:Bool)=(_:Bool);first|assumption|exact gB (by assumption)|exact bq (by assumption)|exact bt (by assumption)|(exact an (by first|assumption|exact bq (by assumption)) (by first|assumption|exact bt (by assumption)))|rfl)
          | (show _=_;rfl)
          -- PVC
      · obtain ⟨hl,hm⟩:=heavy_f hk.1
        exact spec_le hk.2.1 hk.2.2 rfl (z2 n (rowC d) (fun _=>rfl) v _ _ _ _ _ _ _ _ _ _ _ _ _ (bytesL_of (hb _).1 hl) hl (bytesL_of (hb _).2 hm) hm rfl base w0 _)
    · refine spec_vcd (cxOk Try.prog ints_ok [] [cHeavy,cMay,cEncR,cCopyC,cEnc,cNum,cEqB,cEqC,cDec,cDecR,cCopy,cWakes]) follows [] 60 ?_
      repeat' first
        | exact trivial
        | (refine And.intro (show regChk _ _ _ _ _=true from by kernel_rfl) (And.intro ?_ ?_))
        | (refine And.intro (fun _=>?_) (fun h=>absurd (show true=false from h) (by decide)))
        | (refine And.intro (fun h=>absurd (show false=true from h) (by decide)) (fun _=>?_))
        | (refine And.intro (fun hb=>?_) (fun hb'=>?_))
        | refine And.intro ?_ ?_
        | intro _
      all_goals first
        | (show ∃ v',_;exact ⟨IntKind.i64.wrap (v+1),(stepC hv hC).1,(stepC hv hC).2,⟨rfl,rfl,trivial⟩,trivial⟩)
        | (show (_:Option TV)=_;rfl)
        | (show (_:Option A0)=_;rfl)
        | (show (_:Option TypeId)=_;rfl)
        | (show True;trivial)
        | (show (_:Bool)=(_:Bool);first|assumption|exact gB (by assumption)|exact bq (by assumption)|exact bt (by assumption)|(exact an (by first|assumption|exact bq (by assumption)) (by first|assumption|exact bt (by assumption)))|rfl)
        | (show _=_;rfl)
        -- PVC
theorem cmdExact_law (n:Nat) (d:Nat→AskD) (hb:∀ j,Bytes (d j).l∧Bytes (d j).m) {us:List Value} {w:World} (hargs:All2 (TV.reads (fun _=>0) w.heap.size w) [.rowF n 13 (rowC d)] us):Ret Try.prog 3 us.toArray w (.tv (tB true)):=by
  refine fns_ret (cxOk Try.prog ints_ok [] [cHeavy,cMay,cEncR,cCopyC,cEnc,cNum,cEqB,cEqC,cDec,cDecR,cCopy,cWakes]) Try.func3 rfl _ rfl (by simp) ?_ hargs
  refine spec_vch (kx:=fun s=>leG s [(0,.rowF n 13 (rowC d))]∧leB s []) (cxOk Try.prog ints_ok [] [cHeavy,cMay,cEncR,cCopyC,cEnc,cNum,cEqB,cEqC,cDec,cDecR,cCopy,cWakes]) follows [] 60 1 _ _ ?_ (fun s' hk=>spec_le hk.1 hk.2 rfl ?_)
  · skip
    repeat' first
      | exact trivial
      | (refine And.intro (show regChk _ _ _ _ _=true from by kernel_rfl) (And.intro ?_ ?_))
      | (refine And.intro (fun _=>?_) (fun h=>absurd (show true=false from h) (by decide)))
      | (refine And.intro (fun h=>absurd (show false=true from h) (by decide)) (fun _=>?_))
      | (refine And.intro (fun hb=>?_) (fun hb'=>?_))
      | refine And.intro ?_ ?_
      | intro _
    all_goals first
      | (show (_:Option TV)=_;rfl)
      | (show (_:Option A0)=_;rfl)
      | (show (_:Option TypeId)=_;rfl)
      | (show True;trivial)
      | (show (_:Bool)=(_:Bool);first|assumption|exact gB (by assumption)|exact bq (by assumption)|exact bt (by assumption)|(exact an (by first|assumption|exact bq (by assumption)) (by first|assumption|exact bt (by assumption)))|rfl)
      | (show _=_;rfl)
      -- PVC
  · refine spec_seq (kx:=fun s=>leG s []∧leB s []) ?_ (fun s' hk=>spec_le hk.1 hk.2 rfl ?_)
    · refine spec_vch (kx:=fun s=>atL (LC n (rowC d)) 0 s) (cxOk Try.prog ints_ok [] [cHeavy,cMay,cEncR,cCopyC,cEnc,cNum,cEqB,cEqC,cDec,cDecR,cCopy,cWakes]) follows [] 60 1 _ _ ?_ (fun s' hk=>?_)
      · skip
        repeat' first
          | exact trivial
          | (refine And.intro (show regChk _ _ _ _ _=true from by kernel_rfl) (And.intro ?_ ?_))
          | (refine And.intro (fun _=>?_) (fun h=>absurd (show true=false from h) (by decide)))
          | (refine And.intro (fun h=>absurd (show false=true from h) (by decide)) (fun _=>?_))
          | (refine And.intro (fun hb=>?_) (fun hb'=>?_))
          | refine And.intro ?_ ?_
          | intro _
        all_goals first
          | (show atL _ _ _;exact ⟨⟨Int.le_refl _,Int.natCast_nonneg _⟩,⟨rfl,rfl,trivial⟩,trivial⟩)
          | exact Int.le_refl _
          | exact Int.natCast_nonneg _
          | (show (_:Option TV)=_;rfl)
          | (show (_:Option A0)=_;rfl)
          | (show (_:Option TypeId)=_;rfl)
          | (show True;trivial)
          | (show (_:Bool)=(_:Bool);first|assumption|exact gB (by assumption)|exact bq (by assumption)|exact bt (by assumption)|(exact an (by first|assumption|exact bq (by assumption)) (by first|assumption|exact bt (by assumption)))|rfl)
          | (show _=_;rfl)
          -- PVC
      · refine spec_block (spec_loopI (LC n (rowC d)) ⟨0,hk⟩ (fun v hv=>⟨rfl,spec_mono (rnd n d hb v hv rfl _ _) (fun s h=>h) (fun id s h=>?_) (fun s h=>h)⟩))
        subst h
        exact ⟨trivial,trivial⟩
    · refine spec_vcd (cxOk Try.prog ints_ok [] [cHeavy,cMay,cEncR,cCopyC,cEnc,cNum,cEqB,cEqC,cDec,cDecR,cCopy,cWakes]) follows [] 60 ?_
      repeat' first
        | exact trivial
        | (refine And.intro (show regChk _ _ _ _ _=true from by kernel_rfl) (And.intro ?_ ?_))
        | (refine And.intro (fun _=>?_) (fun h=>absurd (show true=false from h) (by decide)))
        | (refine And.intro (fun h=>absurd (show false=true from h) (by decide)) (fun _=>?_))
        | (refine And.intro (fun hb=>?_) (fun hb'=>?_))
        | refine And.intro ?_ ?_
        | intro _
      all_goals first
        | (show some (CR.tv (tB true))=some (CR.tv (tB true));rfl)
        | (show (_:Option TV)=_;rfl)
        | (show (_:Option A0)=_;rfl)
        | (show (_:Option TypeId)=_;rfl)
        | (show True;trivial)
        | (show (_:Bool)=(_:Bool);first|assumption|exact gB (by assumption)|exact bq (by assumption)|exact bt (by assumption)|(exact an (by first|assumption|exact bq (by assumption)) (by first|assumption|exact bt (by assumption)))|rfl)
        | (show _=_;rfl)
        -- PVC
end
end Go.Proofs.Ytaeabemipnbgbaa.PCm
end
section
namespace Go.Proofs.Ytaeabemipnbgbaa.QCmO
open RowKit YtaeabemipnbgbaaW.PrintWords YtaeabemipnbgbaaW.PrintLast YtaeabemipnbgbaaW.PrintMore
attribute [local go_sem] max2_int min2_int max_two min_two max_three min_three max_four min_four   -- for this text's walks alone
set_option linter.unusedVariables false
set_option linter.unusedSimpArgs false
def errW:Option Int→Value
  | none => .nilIface
  | some c => .iface 0 (.int .i64 c)
theorem errW_none:errW none = .nilIface:=rfl
theorem errW_some (c:Int):errW (some c) = .iface 0 (.int .i64 c):=rfl
theorem info5:(Try.prog.info? 5).map (fun i=>(i.zero,i.size,i.bytes))=some (some (.int .u8 0),1,1):=by kernel_rfl
structure S125 where
  f0:Int
  f1:Int
  f2:Int
  f3:Int
def k125:Kd S125:=Kd.iso (Kd.pair (Kd.int .i64) (Kd.pair (Kd.int .i64) (Kd.pair (Kd.int .i64) (Kd.int .i64)))) (fun x:S125=>(x.f0,x.f1,x.f2,x.f3))
structure S127 where
  f0:Int
  f1:Int
  f2:S125
def k127:Kd S127:=Kd.iso (Kd.pair (Kd.int .i64) (Kd.pair (Kd.int .i64) k125)) (fun x:S127=>(x.f0,x.f1,x.f2))
structure S24 where
  f0:Int
  f1:Int
  f2:Int
  f3:Int
def z24:S24:=⟨(0:Int),(0:Int),(0:Int),(0:Int)⟩
def k24:Kd S24:=Kd.iso (Kd.pair (Kd.int .i64) (Kd.pair (Kd.int .i64) (Kd.pair (Kd.int .i64) (Kd.int .i64)))) (fun x:S24=>(x.f0,x.f1,x.f2,x.f3))
theorem k24_open {w:World} {x:S24} {cs:List Value} (h:k24.K w x cs):cs=[.int .i64 x.f0,.int .i64 x.f1,.int .i64 x.f2,.int .i64 x.f3]:=by
  obtain ⟨_,_,rfl,rfl,⟨_,_,rfl,rfl,⟨_,_,rfl,rfl,rfl⟩⟩⟩:=h
  exact rfl
structure S27 where
  f0:Int
  f1:S24
  f2:Int
  f3:(List Int)
  f4:Int
def z27:S27:=⟨(0:Int),z24,(0:Int),([]:List Int),(0:Int)⟩
def k27:Kd S27:=Kd.iso (Kd.pair (Kd.int .i64) (Kd.pair k24 (Kd.pair (Kd.int .i64) (Kd.pair (Kd.slice 5 (Kd.int .u8)) (Kd.int .i64))))) (fun x:S27=>(x.f0,x.f1,x.f2,x.f3,x.f4))
theorem k27_open {w:World} {x:S27} {cs:List Value} (h:k27.K w x cs):∃ A6 c6,cs=[.int .i64 x.f0,.int .i64 x.f1.f0,.int .i64 x.f1.f1,.int .i64 x.f1.f2,.int .i64 x.f1.f3,.int .i64 x.f2,.slice A6 x.f3.length c6,.int .i64 x.f4]∧x.f3.length≤c6∧(Kd.int .u8).C w A6 x.f3.length x.f3:=by
  obtain ⟨_,_,rfl,rfl,⟨_,_,rfl,s1,⟨_,_,rfl,rfl,⟨_,_,rfl,⟨A6,c6,rfl,l6,g6⟩,rfl⟩⟩⟩⟩:=h
  obtain rfl:=k24_open s1
  exact ⟨A6,c6,rfl,l6,g6⟩
structure S30 where
  f0:Int
  f1:Int
  f2:(List S127)
def z30:S30:=⟨(0:Int),(0:Int),([]:List S127)⟩
def k30:Kd S30:=Kd.iso (Kd.pair (Kd.int .i64) (Kd.pair (Kd.int .i64) (Kd.slice 127 k127))) (fun x:S30=>(x.f0,x.f1,x.f2))
theorem k30_open {w:World} {x:S30} {cs:List Value} (h:k30.K w x cs):∃ A2 c2,cs=[.int .i64 x.f0,.int .i64 x.f1,.slice A2 x.f2.length c2]∧x.f2.length≤c2∧k127.C w A2 x.f2.length x.f2:=by
  obtain ⟨_,_,rfl,rfl,⟨_,_,rfl,rfl,⟨A2,c2,rfl,l2,g2⟩⟩⟩:=h
  exact ⟨A2,c2,rfl,l2,g2⟩
structure S32 where
  f0:S27
  f1:Int
  f2:(List Int)
  f3:S30
def z32:S32:=⟨z27,(0:Int),([]:List Int),z30⟩
def k32:Kd S32:=Kd.iso (Kd.pair k27 (Kd.pair (Kd.int .i64) (Kd.pair (Kd.slice 5 (Kd.int .u8)) k30))) (fun x:S32=>(x.f0,x.f1,x.f2,x.f3))
theorem k32_open {w:World} {x:S32} {cs:List Value} (h:k32.K w x cs):∃ A6 c6 A9 c9 A12 c12,cs=[.int .i64 x.f0.f0,.int .i64 x.f0.f1.f0,.int .i64 x.f0.f1.f1,.int .i64 x.f0.f1.f2,.int .i64 x.f0.f1.f3,.int .i64 x.f0.f2,.slice A6 x.f0.f3.length c6,.int .i64 x.f0.f4,.int .i64 x.f1,.slice A9 x.f2.length c9,.int .i64 x.f3.f0,.int .i64 x.f3.f1,.slice A12 x.f3.f2.length c12]∧x.f0.f3.length≤c6∧(Kd.int .u8).C w A6 x.f0.f3.length x.f0.f3∧x.f2.length≤c9∧(Kd.int .u8).C w A9 x.f2.length x.f2∧x.f3.f2.length≤c12∧k127.C w A12 x.f3.f2.length x.f3.f2:=by
  obtain ⟨_,_,rfl,s0,⟨_,_,rfl,rfl,⟨_,_,rfl,⟨A9,c9,rfl,l9,g9⟩,s10⟩⟩⟩:=h
  obtain ⟨A6,c6,rfl,l6,g6⟩:=k27_open s0
  obtain ⟨A12,c12,rfl,l12,g12⟩:=k30_open s10
  exact ⟨A6,c6,A9,c9,A12,c12,rfl,l6,g6,l9,g9,l12,g12⟩
end Go.Proofs.Ytaeabemipnbgbaa.QCmO
end
section
set_option linter.unusedVariables false
set_option linter.unusedSimpArgs false
namespace Go.Proofs.Ytaeabemipnbgbaa.PCm
open Go RowKit Ytaeabemipnbgbaa.QCmO YtaeabemipnbgbaaW.PrintWords YtaeabemipnbgbaaW.PrintMore YtaeabemipnbgbaaW.Aid YtaeabemipnbgbaaW.Big YtaeabemipnbgbaaW.Sx Go.Proofs
def G125 (x:S125):Prop:=(fun n=>(Lit.int .i64 n).wf=true) x.f0∧(fun n=>(Lit.int .i64 n).wf=true) x.f1∧(fun n=>(Lit.int .i64 n).wf=true) x.f2∧(fun n=>(Lit.int .i64 n).wf=true) x.f3
def G127 (x:S127):Prop:=(fun n=>(Lit.int .i64 n).wf=true) x.f0∧(fun n=>(Lit.int .i64 n).wf=true) x.f1∧G125 x.f2
def G24 (x:S24):Prop:=(fun n=>(Lit.int .i64 n).wf=true) x.f0∧(fun n=>(Lit.int .i64 n).wf=true) x.f1∧(fun n=>(Lit.int .i64 n).wf=true) x.f2∧(fun n=>(Lit.int .i64 n).wf=true) x.f3
def G27 (x:S27):Prop:=(fun n=>(Lit.int .i64 n).wf=true) x.f0∧G24 x.f1∧(fun n=>(Lit.int .i64 n).wf=true) x.f2∧(fun xs=>xs.length*1≤140737488351232∧∀ x∈xs,(fun n=>(Lit.int .u8 n).wf=true) x) x.f3∧(fun n=>(Lit.int .i64 n).wf=true) x.f4
def G30 (x:S30):Prop:=(fun n=>(Lit.int .i64 n).wf=true) x.f0∧(fun n=>(Lit.int .i64 n).wf=true) x.f1∧(fun xs=>xs.length*48≤140737488351232∧∀ x∈xs,G127 x) x.f2
def G32 (x:S32):Prop:=G27 x.f0∧(fun n=>(Lit.int .i64 n).wf=true) x.f1∧(fun xs=>xs.length*1≤140737488351232∧∀ x∈xs,(fun n=>(Lit.int .u8 n).wf=true) x) x.f2∧G30 x.f3
abbrev at32 (l:List S32) (j:Nat):S32:=l.getD j z32
theorem at32_b {l:List S32} (h:∀ x∈l,G32 x) (j:Nat):Bytes (at32 l j).f0.f3∧Bytes (at32 l j).f2:=by
  unfold at32;rw [List.getD_eq_getElem?_getD]
  cases e:l[j]? with
  | none=>exact ⟨fun x hx=>absurd hx List.not_mem_nil,fun x hx=>absurd hx List.not_mem_nil⟩
  | some x =>
    have hg:=h x (List.mem_of_getElem? e)
    exact ⟨bytes_wf hg.1.2.2.2.1.2,bytes_wf hg.2.2.1.2⟩
abbrev askD (l:List S32):Nat→AskD:=fun j=>⟨(at32 l j).f0.f0,(at32 l j).f0.f1.f0,(at32 l j).f0.f1.f1,(at32 l j).f0.f1.f2,(at32 l j).f0.f1.f3,(at32 l j).f0.f2,(at32 l j).f0.f3,(at32 l j).f0.f4,(at32 l j).f1,(at32 l j).f2,(at32 l j).f3.f0,(at32 l j).f3.f1,(at32 l j).f3.f2.length⟩
theorem os_reads {N:Nat} {w:World} {k:IntKind} {l:List Int} {A:Option Addr} {c:Nat} (hk:unsg k=true) (h1:l.length≤c) (h2:Kd.C (Kd.int k) w A l.length l) (hN:w.heap.size≤N):(A0.os k l).reads N w (.slice A l.length c) :=
  ⟨hk,A,c,rfl,⟨h1,h2⟩,fun hl ad e=>Nat.lt_of_lt_of_le (rdk_lt ⟨h1,h2⟩ hl ad e) hN⟩
theorem reads32 {w:World} {A:Option Addr} {c:Nat} {l:List S32} (hC:Kd.C k32 w A l.length l) (hle:l.length≤c) {β:Nat→Nat}:TV.reads β w.heap.size w (.rowF l.length 13 (rowC (askD l))) (.slice A l.length c):=by
  refine ⟨A,c,rfl,hle,fun h0=>?_⟩
  obtain ⟨ad,cs,e,_,hK,hc⟩:=Kd.C_get hC z32 0 (Int.le_refl _) (by omega)
  have hb:ad.block<w.heap.size:=by
    obtain ⟨_,_,_,_,_,_,rfl,_⟩:=k32_open hK
    exact World.block_lt_of_cell? w _ (hc 0 _ rfl)
  refine ⟨ad,e,hb,fun i hi=>?_⟩
  obtain ⟨ad',cs',e',_,hK',hc'⟩:=Kd.C_get hC z32 i (Int.natCast_nonneg _) (by omega)
  obtain rfl:ad'=ad:=by rw [e] at e';exact (Option.some.inj e').symm
  obtain ⟨A6,c6,A9,c9,A12,c12,rfl,l6,g6,l9,g9,_,_⟩:=k32_open hK'
  intro j q hj
  have key:∀ u,([.int .i64 (at32 l i).f0.f0,.int .i64 (at32 l i).f0.f1.f0,.int .i64 (at32 l i).f0.f1.f1,.int .i64 (at32 l i).f0.f1.f2,.int .i64 (at32 l i).f0.f1.f3,.int .i64 (at32 l i).f0.f2,.slice A6 (at32 l i).f0.f3.length c6,.int .i64 (at32 l i).f0.f4,.int .i64 (at32 l i).f1,.slice A9 (at32 l i).f2.length c9,.int .i64 (at32 l i).f3.f0,.int .i64 (at32 l i).f3.f1,.slice A12 (at32 l i).f3.f2.length c12]:List Value)[j]?=some u→(∀ N,w.heap.size≤N→q.reads N w u)→∃ x,w.cell? ((ad'.add (i*13)).add j)=some x∧∀ N,w.heap.size≤N→q.reads N w x:=by
    intro u hu hq
    refine ⟨u,?_,hq⟩
    have h1:w.cell? (ad'.add (i*13+j))=some u:=hc' j u hu
    rw [Addr.add_add];exact h1
  match j,hj with
  | 0,hj=>obtain rfl:=(Option.some.inj hj).symm;exact key _ rfl (fun _ _=>rfl)
  | 1,hj=>obtain rfl:=(Option.some.inj hj).symm;exact key _ rfl (fun _ _=>rfl)
  | 2,hj=>obtain rfl:=(Option.some.inj hj).symm;exact key _ rfl (fun _ _=>rfl)
  | 3,hj=>obtain rfl:=(Option.some.inj hj).symm;exact key _ rfl (fun _ _=>rfl)
  | 4,hj=>obtain rfl:=(Option.some.inj hj).symm;exact key _ rfl (fun _ _=>rfl)
  | 5,hj=>obtain rfl:=(Option.some.inj hj).symm;exact key _ rfl (fun _ _=>rfl)
  | 6,hj=>obtain rfl:=(Option.some.inj hj).symm;exact key _ rfl (fun N hN=>os_reads rfl l6 g6 hN)
  | 7,hj=>obtain rfl:=(Option.some.inj hj).symm;exact key _ rfl (fun _ _=>rfl)
  | 8,hj=>obtain rfl:=(Option.some.inj hj).symm;exact key _ rfl (fun _ _=>rfl)
  | 9,hj=>obtain rfl:=(Option.some.inj hj).symm;exact key _ rfl (fun N hN=>os_reads rfl l9 g9 hN)
  | 10,hj=>obtain rfl:=(Option.some.inj hj).symm;exact key _ rfl (fun _ _=>rfl)
  | 11,hj=>obtain rfl:=(Option.some.inj hj).symm;exact key _ rfl (fun _ _=>rfl)
  | 12,hj=>obtain rfl:=(Option.some.inj hj).symm;exact key _ rfl (fun _ _=>⟨_,_,rfl⟩)
theorem cmdExact32 {w:World} {A:Option Addr} {c:Nat} {l:List S32} (hC:Kd.C k32 w A l.length l) (hle:l.length≤c) (hg:∀ x∈l,G32 x):Ret Try.prog 3 #[.slice A l.length c] w (.tv (tB true)) :=
  cmdExact_law l.length (askD l) (fun j=>at32_b hg j) (.cons (reads32 hC hle) .nil)
end Go.Proofs.Ytaeabemipnbgbaa.PCm
end
section
namespace Go.Proofs.YtaeabemipnbgbaaW.Opens
open RowKit YtaeabemipnbgbaaW.PrintWords Go.Deep
variable {P:Program}
def Opens (P:Program) (t:TypeId) {α:Type} (d:Kd α) (G:α→Prop):Prop :=
  P.cellsOf t=d.sz∧∀ {H:Type} (enc:TypeId × Value→H) (w:World) (base:Nat) (spare:Nat→Bool) (held:Bool) (fuel:Nat) (cs:List Value) (x:DataW H × List MemPlace),
    DataW.trod enc P w base spare held fuel t cs=some x→(∀ n∈x.1.weights P t,n≤reachBytes)→∃ a,d.K w a cs∧G a
theorem opens_int {t:TypeId} {k:IntKind} (hu:P.underlying t=some (.int k)) (hc:P.cellsOf t=1):Opens P t (Kd.int k) (fun n=>(Lit.int k n).wf=true):=by
  refine ⟨hc,fun enc w base spare held fuel cs x h _=>?_⟩
  obtain ⟨n,rfl,_,hw⟩:=DataW.trod_int hu h
  exact ⟨n,rfl,hw⟩
theorem opens_bool {t:TypeId} (hu:P.underlying t=some .bool) (hc:P.cellsOf t=1):Opens P t Kd.bool (fun _=>True):=by
  refine ⟨hc,fun enc w base spare held fuel cs x h _=>?_⟩
  obtain ⟨n,rfl,_⟩:=DataW.trod_bool hu h
  exact ⟨n,rfl,trivial⟩
theorem opens_string {t:TypeId} (hu:P.underlying t=some .string) (hc:P.cellsOf t=1):Opens P t Kd.string (fun s=>s.size≤140737488351232):=by
  refine ⟨hc,fun enc w base spare held fuel cs x h hw=>?_⟩
  obtain ⟨s,rfl,rfl,_⟩:=DataW.trod_string hu h
  have z:=hw s.data.toList.length (by simp [DataW.weights])
  exact ⟨s,rfl,by simpa [reachBytes] using z⟩
theorem list_of {α:Type} {Q:Nat→α→Prop}:∀ n:Nat,(∀ i,i<n→∃ a,Q i a)→∃ xs:List α,xs.length=n∧∀ j p,xs[j]?=some p→Q j p
  | 0,_=>⟨[],rfl,fun j p h=>by simp at h⟩
  | n + 1, h => by
    obtain ⟨xs,hl,hx⟩:=list_of n (fun i hi=>h i (by omega))
    obtain ⟨a,ha⟩:=h n (by omega)
    refine ⟨xs++[a],by simp [hl],fun j p hj=>?_⟩
    by_cases hjl:j<xs.length
    · rw [List.getElem?_append_left hjl] at hj
      exact hx j p hj
    · have hj2:j<(xs++[a]).length:=(List.getElem?_eq_some_iff.1 hj).1
      have:j=n:=by simp at hj2;omega
      subst this
      rw [List.getElem?_append_right (by omega)] at hj
      simp [hl] at hj
      subst hj
      exact ha
theorem weights_mem_all {H:Type} {e:TypeId}:∀ {l:List (DataW H)} {d:DataW H},d∈l→∀ n∈d.weights P e,n∈DataW.weightsAll P e l
  | [],_,h,_,_=>by simp at h
  | y::l,d,h,n,hn=>by
    rw [DataW.weightsAll]
    rcases List.mem_cons.1 h with rfl|h
    · exact List.mem_append_left _ hn
    · exact List.mem_append_right _ (weights_mem_all h n hn)
theorem opens_slice {t e:TypeId} {α:Type} {d:Kd α} {G:α→Prop} (hu:P.underlying t=some (.slice e)) (hc:P.cellsOf t=1) {B:Nat} (hB:P.bytesOf e=B) (he:Opens P e d G) :
    Opens P t (Kd.slice e d) (fun xs=>xs.length*B≤140737488351232∧∀ x∈xs,G x):=by
  obtain ⟨hsz,he⟩:=he
  refine ⟨hc,fun enc w base spare held fuel cs x h hw=>?_⟩
  rcases open_slice hu h with ⟨rfl,_⟩|⟨a,len,cap,m,n,D,Pl,rfl,_,hl,hm,hmm,rfl,hi⟩
  · exact ⟨[],⟨none,0,rfl,Nat.le_refl _,rfl,by simp,fun h=>absurd h (by simp)⟩,by simp,fun _ h=>by simp at h⟩
  · have hlm:len≤m:=by rw [hmm];split<;>omega
    have hw2:∀ i,i<len→∀ q∈(D i).weights P e,q≤reachBytes:=fun i hil q hq=>by
      refine hw q ?_
      rw [DataW.weights,hu]
      refine List.mem_cons_of_mem _ (List.mem_append_left _ (weights_mem_all (d:=D i) ?_ q hq))
      exact List.mem_map.2 ⟨i,List.mem_range.2 hil,rfl⟩
    obtain ⟨xs,hxl,hx⟩:=list_of (Q:=fun i p=>(∃ c,c.length=d.sz∧d.K w p c∧∀ j u,c[j]?=some u→w.cell? (a.add (i*d.sz+j))=some u)∧G p) len (fun i hil=>by
      obtain ⟨cs',h1,h2⟩:=hi i (by omega)
      obtain ⟨p,hk,hg⟩:=he enc w base spare held n cs' _ h2 (hw2 i hil)
      obtain ⟨_,hcl,hat⟩:=World.cells?_some h1
      refine ⟨p,⟨cs',d.K_len hk,hk,fun j u hj=>?_⟩,hg⟩
      have hjl:j<cs'.length:=(List.getElem?_eq_some_iff.1 hj).1
      have h3:=hat j (by omega)
      rw [hj,hsz,Go.Deep.add_add] at h3
      exact h3)
    subst hxl
    refine ⟨xs,⟨some a,cap,rfl,hl,rfl,by unfold maxLen at hm;omega,fun _=>⟨a,rfl,fun j p hj=>(hx j p hj).1⟩⟩,?_,fun x hx'=>?_⟩
    · have z:=hw ((((List.range xs.length).map D).length+((List.range (m-xs.length)).map fun j=>D (xs.length+j)).length)*P.bytesOf e) (by rw [DataW.weights,hu];exact List.mem_cons_self)
      simp only [List.length_map,List.length_range,hB,reachBytes] at z
      exact Nat.le_trans (Nat.mul_le_mul_right _ (Nat.le_add_right _ _)) z
    · obtain ⟨j,hj⟩:=List.getElem?_of_mem hx'
      exact (hx j x hj).2
def OpensF (P:Program) (o:Nat) (fs:List (TypeId × Nat)) {α:Type} (d:Kd α) (G:α→Prop):Prop :=
  ∀ {H:Type} (enc:TypeId × Value→H) (w:World) (base:Nat) (spare:Nat→Bool) (held:Bool) (n:Nat) (cs:List Value) (ys:List (DataW H × List MemPlace)),cs.length=o+d.sz→ys.length=fs.length →
    (∀ (i:Nat) (f:TypeId × Nat),fs[i]?=some f→DataW.trod enc P w base spare held n f.1 ((cs.drop f.2).take (P.cellsOf f.1))=ys[i]?) →
    (∀ q∈DataW.weightsEach P (fs.map (·.1)) (ys.map (·.1)),q≤reachBytes)→∃ a,d.K w a (cs.drop o)∧G a
theorem opensF_one {t:TypeId} {o:Nat} {α:Type} {d:Kd α} {G:α→Prop} (h:Opens P t d G):OpensF P o [(t,o)] d G:=by
  obtain ⟨hsz,he⟩:=h
  intro H enc w base spare held n cs ys hl hyl hg hw
  match ys,hyl with
  | [y],_ =>
    have h1:=hg 0 (t,o) rfl
    simp only at h1
    rw [hsz,List.take_of_length_le (by simp;omega)] at h1
    exact he enc w base spare held n _ y h1 (fun q hq=>hw q (by simpa [DataW.weightsEach] using hq))
theorem opensF_cons {t:TypeId} {fs:List (TypeId × Nat)} {o o':Nat} {α β:Type} {d:Kd α} {d':Kd β} {G:α→Prop} {G':β→Prop} (h:Opens P t d G) (ho':o+d.sz=o') (h':OpensF P o' fs d' G') :
    OpensF P o ((t,o)::fs) (Kd.pair d d') (fun x=>G x.1∧G' x.2):=by
  obtain ⟨hsz,he⟩:=h
  intro H enc w base spare held n cs ys hl hyl hg hw
  match ys,hyl with
  | y :: ys, hyl =>
    have h1:=hg 0 (t,o) rfl
    simp only at h1
    rw [hsz] at h1
    obtain ⟨a,ka,ga⟩:=he enc w base spare held n _ y h1 (fun q hq=>hw q (by simp only [List.map_cons,DataW.weightsEach];exact List.mem_append_left _ hq))
    have hl':cs.length=o'+d'.sz:=by
      have:(Kd.pair d d').sz=d.sz+d'.sz:=rfl
      omega
    obtain ⟨b,kb,gb⟩:=h' enc w base spare held n cs ys hl' (by simpa using hyl) (fun i f' hf=>hg (i+1) f' (by simpa using hf)) (fun q hq=>hw q (by simp only [List.map_cons,DataW.weightsEach];exact List.mem_append_right _ hq))
    refine ⟨(a,b),⟨(cs.drop o).take d.sz,cs.drop o',?_,ka,kb⟩,ga,gb⟩
    rw [← ho',← List.drop_drop,List.take_append_drop]
theorem opens_struct {t:TypeId} {fs:Array Field} {α β:Type} {d:Kd α} {G:α→Prop} (hu:P.underlying t=some (.struct fs)) (hc:P.cellsOf t=d.sz) {l:List (TypeId × Nat)} (hl:fs.toList.map (fun f=>(f.type,f.offset))=l) (h:OpensF P 0 l d G) (f:β→α) (g:α→β) (hfg:∀ x,f (g x)=x) :
    Opens P t (Kd.iso d f) (fun x=>G (f x)):=by
  refine ⟨hc,fun enc w base spare held fuel cs x hx hw=>?_⟩
  obtain ⟨ys,n,_,rfl,hcl,hyl,hg⟩:=DataW.trod_struct hu hx
  have hg':∀ (i:Nat) (f:TypeId × Nat),l[i]?=some f→DataW.trod enc P w base spare held n f.1 ((cs.drop f.2).take (P.cellsOf f.1))=ys[i]?:=by
    intro i f hf
    rw [← hl,List.getElem?_map] at hf
    obtain ⟨f0,hf0,rfl⟩:=Option.map_eq_some_iff.1 hf
    exact hg i f0 (by simpa using hf0)
  obtain ⟨a,ka,ga⟩:=h enc w base spare held n cs ys (by omega) (by rw [hyl,← hl];simp) hg' (fun q hq=>hw q (by rw [← hl,List.map_map] at hq;simp only [DataW.weights,hu];exact hq))
  exact ⟨g a,by show d.K w (f (g a)) cs;rw [hfg];exact ka,by show G (f (g a));rw [hfg];exact ga⟩
theorem opens_arg {H:Type} {enc:TypeId × Value→H} {W:World} {base:Nat} {spare:Nat→Bool} {held:Bool} {t:TypeId} {v:Value} {x:DataW H} {ps:List MemPlace} {ts:List TypeId} {ds:List (DataW H)} {j:Nat} {α:Type} {d:Kd α} {G:α→Prop}
    (ho:Opens P t d G) (hsz:(DataW.weightsEach P ts ds).all (·≤reachBytes)=true) (ht:ts[j]?=some t) (hd:ds[j]?=some x) (h:DataW.Trod enc P W base spare held t v x ps):∃ a,d.K W a v.cells.toList∧G a:=by
  obtain ⟨fuel,hf⟩:=h
  refine ho.2 enc W base spare held fuel _ (x,ps) hf (fun n hn=>?_)
  simpa using List.all_eq_true.1 hsz n (DataW.weights_mem_each ht hd n hn)
end Go.Proofs.YtaeabemipnbgbaaW.Opens
end
section
namespace Go.Proofs.Ytaeabemipnbgbaa.cmdExact
open Go.ChangeShapes Go.WideShapes Go.ChangeAt RowKit YtaeabemipnbgbaaW.Opens YtaeabemipnbgbaaW.PrintWords Ytaeabemipnbgbaa.QCmO Ytaeabemipnbgbaa.PCm
set_option linter.unusedVariables false
theorem own:ownKnob Try.prog.godebug=none:=by kernel_rfl
theorem laidOut:laidOutB Try.prog=true:=by kernel_rfl
theorem wEach_all {H:Type} {P:Program} {e:TypeId}:∀ (ts:List TypeId) (ds:List (DataW H)),(∀ t∈ts,t=e)→ts.length=ds.length→DataW.weightsEach P ts ds=DataW.weightsAll P e ds
  | [],[],_,_=>by simp [DataW.weightsEach,DataW.weightsAll]
  | t::ts,d::ds,h,hl=>by
    rw [DataW.weightsEach,DataW.weightsAll,wEach_all ts ds (fun t ht=>h t (List.mem_cons_of_mem _ ht)) (by simpa using hl),h t List.mem_cons_self]
theorem opens_array {P:Program} {t e:TypeId} {m:Nat} {α β:Type} {d:Kd α} {G:α→Prop} (hu:P.underlying t=some (.array m e)) (hc:P.cellsOf t=d.sz) {l:List (TypeId × Nat)} (hl:(List.range m).map (fun i=>(e,i*P.cellsOf e))=l) (h:OpensF P 0 l d G) (f:β→α) (g:α→β) (hfg:∀ x,f (g x)=x) :
    Opens P t (Kd.iso d f) (fun x=>G (f x)):=by
  refine ⟨hc,fun enc w base spare held fuel cs x hx hw=>?_⟩
  obtain ⟨ys,n,_,rfl,hcl,hyl,hg⟩:=DataW.trod_array hu hx
  have hg':∀ (i:Nat) (f:TypeId × Nat),l[i]?=some f→DataW.trod enc P w base spare held n f.1 ((cs.drop f.2).take (P.cellsOf f.1))=ys[i]?:=by
    intro i f hf
    rw [← hl,List.getElem?_map] at hf
    obtain ⟨i0,hi0,rfl⟩:=Option.map_eq_some_iff.1 hf
    obtain ⟨hi,rfl⟩:=List.getElem?_eq_some_iff.1 hi0
    rw [List.getElem_range]
    exact hg i (by simpa using hi)
  obtain ⟨a,ka,ga⟩:=h enc w base spare held n cs ys (by omega) (by rw [hyl,← hl];simp) hg' (fun q hq=>hw q (by
    rw [wEach_all (e:=e) _ _ (fun t ht=>by rw [← hl,List.map_map] at ht;obtain ⟨_,_,rfl⟩:=List.mem_map.1 ht;rfl) (by rw [List.length_map,List.length_map,hyl,← hl];simp)] at hq
    simp only [DataW.weights,hu];exact hq))
  exact ⟨g a,by show d.K w (f (g a)) cs;rw [hfg];exact ka,by show G (f (g a));rw [hfg];exact ga⟩
theorem opens125:Opens Try.prog 125 k125 G125 :=
  opens_array (l:=[(2,0),(2,1),(2,2),(2,3)]) Try.underlying125 (by kernel_rfl) (by kernel_rfl) (opensF_cons (o:=0) (o':=1) (opens_int Try.underlying2 (by kernel_rfl)) rfl (opensF_cons (o:=1) (o':=2) (opens_int Try.underlying2 (by kernel_rfl)) rfl (opensF_cons (o:=2) (o':=3) (opens_int Try.underlying2 (by kernel_rfl)) rfl (opensF_one (o:=3) (opens_int Try.underlying2 (by kernel_rfl)))))) (fun x:S125=>(x.f0,x.f1,x.f2,x.f3)) (fun p=>⟨p.1,p.2.1,p.2.2.1,p.2.2.2⟩) (fun _=>rfl)
theorem opens127:Opens Try.prog 127 k127 G127 :=
  opens_struct (l:=[(3,0),(2,1),(125,2)]) Try.underlying127 (by kernel_rfl) rfl (opensF_cons (o:=0) (o':=1) (opens_int Try.underlying3 (by kernel_rfl)) rfl (opensF_cons (o:=1) (o':=2) (opens_int Try.underlying2 (by kernel_rfl)) rfl (opensF_one (o:=2) opens125))) (fun x:S127=>(x.f0,x.f1,x.f2)) (fun p=>⟨p.1,p.2.1,p.2.2⟩) (fun _=>rfl)
theorem opens24:Opens Try.prog 24 k24 G24 :=
  opens_struct (l:=[(3,0),(3,1),(3,2),(3,3)]) Try.underlying24 (by kernel_rfl) rfl (opensF_cons (o:=0) (o':=1) (opens_int Try.underlying3 (by kernel_rfl)) rfl (opensF_cons (o:=1) (o':=2) (opens_int Try.underlying3 (by kernel_rfl)) rfl (opensF_cons (o:=2) (o':=3) (opens_int Try.underlying3 (by kernel_rfl)) rfl (opensF_one (o:=3) (opens_int Try.underlying3 (by kernel_rfl)))))) (fun x:S24=>(x.f0,x.f1,x.f2,x.f3)) (fun p=>⟨p.1,p.2.1,p.2.2.1,p.2.2.2⟩) (fun _=>rfl)
theorem opens27:Opens Try.prog 27 k27 G27 :=
  opens_struct (l:=[(3,0),(24,1),(3,5),(25,6),(3,7)]) Try.underlying27 (by kernel_rfl) rfl (opensF_cons (o:=0) (o':=1) (opens_int Try.underlying3 (by kernel_rfl)) rfl (opensF_cons (o:=1) (o':=5) opens24 rfl (opensF_cons (o:=5) (o':=6) (opens_int Try.underlying3 (by kernel_rfl)) rfl (opensF_cons (o:=6) (o':=7) (opens_slice (B:=1) Try.underlying25 (by kernel_rfl) (by kernel_rfl) (opens_int Try.underlying5 (by kernel_rfl))) rfl (opensF_one (o:=7) (opens_int Try.underlying3 (by kernel_rfl))))))) (fun x:S27=>(x.f0,x.f1,x.f2,x.f3,x.f4)) (fun p=>⟨p.1,p.2.1,p.2.2.1,p.2.2.2.1,p.2.2.2.2⟩) (fun _=>rfl)
theorem opens30:Opens Try.prog 30 k30 G30 :=
  opens_struct (l:=[(3,0),(2,1),(28,2)]) Try.underlying30 (by kernel_rfl) rfl (opensF_cons (o:=0) (o':=1) (opens_int Try.underlying3 (by kernel_rfl)) rfl (opensF_cons (o:=1) (o':=2) (opens_int Try.underlying2 (by kernel_rfl)) rfl (opensF_one (o:=2) (opens_slice (B:=48) Try.underlying28 (by kernel_rfl) (by kernel_rfl) opens127)))) (fun x:S30=>(x.f0,x.f1,x.f2)) (fun p=>⟨p.1,p.2.1,p.2.2⟩) (fun _=>rfl)
theorem opens32:Opens Try.prog 32 k32 G32 :=
  opens_struct (l:=[(27,0),(3,8),(25,9),(30,10)]) Try.underlying32 (by kernel_rfl) rfl (opensF_cons (o:=0) (o':=8) opens27 rfl (opensF_cons (o:=8) (o':=9) (opens_int Try.underlying3 (by kernel_rfl)) rfl (opensF_cons (o:=9) (o':=10) (opens_slice (B:=1) Try.underlying25 (by kernel_rfl) (by kernel_rfl) (opens_int Try.underlying5 (by kernel_rfl))) rfl (opensF_one (o:=10) opens30)))) (fun x:S32=>(x.f0,x.f1,x.f2,x.f3)) (fun p=>⟨p.1,p.2.1,p.2.2.1,p.2.2.2⟩) (fun _=>rfl)
set_option maxRecDepth 100000 in
theorem lifted (os:Os) (started:os.Started) (H:Type) (enc:TypeId × Value→H) :
    ReturnsInHanded {} Try.checked os 3 .any (Rows.cmdExactSpec.pre6 enc Try.prog Try.f3 Rows.cmdExactRow.domain false) (Rows.cmdExactSpec.post enc Try.prog Try.f3 false true false false):=by
  refine returnsInHanded_of_change_sized (C:=Try.checked) own started (by kernel_rfl) Try.func3
    (ChangeSpec.witness6 (enc:=enc) (C:=Try.checked) false ⟨#[],#[.slice none 0 0],[]⟩ 8 (by kernel_rfl) (by kernel_rfl) (by kernel_rfl) (by kernel_rfl)) ?_
  intro W base args ds gs before hval0 hW hcnd hsz0 _
  have hsz:(DataW.weightsEach Try.prog (Try.f3.params.toList++Rows.cmdExactSpec.plain.varTypes Try.prog) (ds++gs)).all (·≤reachBytes)=true:=hsz0
  have hval:∀ (j:Nat) t v,Try.f3.params[j]?=some t→args[j]?=some v→Value.okWide Try.prog W .any base t v:=hval0
  have hW':=hW
  obtain ⟨p,q,hA0,hV,rfl,hfz,hnd⟩:=hW
  have hA:DataW.TrodAll enc Try.prog W 0 (fun _=>true) true Try.f3.params.toList args.toList ds p:=hA0
  rw [Try.params3] at hA hval hsz
  obtain ⟨v0,vs0,d0,ds0,p0,q0,hargs,rfl,rfl,h0,r0⟩:=trodAll_cons hA
  obtain ⟨rfl,rfl,rfl⟩:=trodAll_nil r0
  obtain rfl:args=#[v0]:=by cases args;simp_all
  obtain ⟨rfl,rfl⟩:=trodVars_none hV
  have k0:=h0
  have lt0:∀ x∈p0,x.block<W.heap.size:=by obtain ⟨m,hm⟩:=k0;exact DataW.trod_lt m _ _ _ hm
  have hv0:=hval 0 22 v0 rfl rfl
  obtain ⟨x0,hk0,hg0⟩:=opens_arg (opens_slice (B:=152) Try.underlying22 (by kernel_rfl) (by kernel_rfl) opens32) hsz (j:=0) (t:=22) rfl rfl h0
  obtain ⟨a0,len0,cap0,rfl⟩:=okWide_slice Try.underlying22 hv0
  obtain ⟨A1,c1,hcs,hle,hC⟩:=hk0
  have hcs:[Value.slice a0 len0 cap0]=[.slice A1 x0.length c1]:=hcs
  simp only [List.cons.injEq,Value.slice.injEq,and_true] at hcs
  obtain ⟨rfl,rfl,rfl⟩:=hcs
  clear hA0 hval0 hsz0 hsz
  refine Calls.mono (cmdExact32 hC hle hg0.2) fun e W' hpost=>?_
  obtain ⟨u,rfl,hu,bel⟩:=hpost
  obtain rfl:u = .bool true:=hu
  exact ⟨_,rfl,_,_,_,[],_,[],hW',trodAll_mk1 (shut_bool Try.underlying4 _),(trodAll_cons_mk (Below.trod laidOut (by kernel_rfl) (of_decide_eq_true (by kernel_rfl)) k0 bel lt0) trodAll_mk0),rfl,bel.frame _,fun h=>by cases h⟩
theorem over:Rows.cmdExactRow.holds Try.pinned (OpenSpec.ofChange Rows.cmdExactSpec) :=
  OpenClaim.holds_of_wide 3 Try.f3 rfl rfl rfl rfl rfl rfl rfl ⟨rfl,rfl,rfl,rfl,rfl⟩ rfl rfl rfl rfl rfl (by kernel_rfl) Try.func3 (by kernel_rfl)
    (of_decide_eq_true (by kernel_rfl)) (by unfold Func.isWrapper;first|(rw [if_pos (by decide +kernel)];kernel_rfl)|(rw [if_neg (by decide +kernel)];exact ⟨rfl,rfl⟩))
    (fun os started H enc _=>lifted os started H enc)
theorem proved:Rows.CmdExactSaid:=over
end Go.Proofs.Ytaeabemipnbgbaa.cmdExact
namespace Go.Proofs.Ytaeabemipnbgbaa
theorem cmdExact_holds:Rows.CmdExactSaid:=cmdExact.proved
end Go.Proofs.Ytaeabemipnbgbaa
end
