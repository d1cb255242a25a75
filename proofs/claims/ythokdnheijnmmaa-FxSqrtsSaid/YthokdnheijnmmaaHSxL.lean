/- The reckoner's loops with an invariant: what is kept from round to round is told by a state of the caller's, and a measure falls. -/
import Derived.Test.YthokdnheijnmmaaHSx
set_option linter.unusedVariables false
set_option linter.unusedSimpArgs false
namespace Go.Proofs.YthokdnheijnmmaaW.Sx
open Go Go.RowKit Go.Proofs.YthokdnheijnmmaaW.PrintWords Go.Proofs.YthokdnheijnmmaaW.PrintMore Go.Proofs.YthokdnheijnmmaaW.Aid Go.Proofs.YthokdnheijnmmaaW.Big
def lookG : List (Nat × TV) → Nat → Option TV
  | [], _ => none
  | (t, x) :: r, k => if k = t then some x else lookG r k
def lookB : List (Nat × TypeId × List A0) → Nat → Option (TypeId × List A0)
  | [], _ => none
  | (b, q) :: r, k => if k = b then some q else lookB r k
def stB (gs : List (Nat × TV)) (bs : List (Nat × TypeId × List A0)) : St :=
  { g := fun t => lookG gs t, m := fun b i => (lookB bs b).bind fun q => q.2[i]?, T := fun b => (lookB bs b).map fun q => q.1 }
def leG (s : St) : List (Nat × TV) → Prop
  | [] => True
  | (t, x) :: r => s.g t = some x ∧ leG s r
def leM (s : St) (b : Nat) : Nat → List A0 → Prop
  | _, [] => True
  | i, c :: r => s.m b i = some c ∧ leM s b (i + 1) r
def leB (s : St) : List (Nat × TypeId × List A0) → Prop
  | [] => True
  | (b, q) :: r => s.T b = some q.1 ∧ leM s b 0 q.2 ∧ leB s r
def wfB (gs : List (Nat × TV)) (bs : List (Nat × TypeId × List A0)) : Bool := gs.all fun p => p.2.refs.all fun b => (lookB bs b).isSome
theorem leG_at {s : St} : ∀ {gs : List (Nat × TV)} {t : Nat} {x : TV}, leG s gs → lookG gs t = some x → s.g t = some x
  | (t', y) :: r, t, x, h, e => by
    unfold lookG at e
    split at e
    · rename_i he; cases e; rw [he]; exact h.1
    · exact leG_at h.2 e
theorem lookG_mem : ∀ {gs : List (Nat × TV)} {t : Nat} {x : TV}, lookG gs t = some x → ∃ p ∈ gs, p.2 = x
  | (t', y) :: r, t, x, e => by
    unfold lookG at e
    split at e
    · cases e; exact ⟨_, List.mem_cons_self, rfl⟩
    · obtain ⟨p, hp, hx⟩ := lookG_mem e; exact ⟨p, List.mem_cons_of_mem _ hp, hx⟩
theorem leM_at {s : St} {b : Nat} : ∀ {cs : List A0} {i j : Nat} {c : A0}, leM s b i cs → cs[j]? = some c → s.m b (i + j) = some c
  | c' :: r, i, 0, c, h, e => by cases e; exact h.1
  | c' :: r, i, j + 1, c, h, e => by
    have := leM_at (j := j) h.2 (by simpa using e)
    rw [show i + (j + 1) = i + 1 + j by omega]; exact this
theorem leB_at {s : St} : ∀ {bs : List (Nat × TypeId × List A0)} {b : Nat} {q : TypeId × List A0}, leB s bs → lookB bs b = some q → s.T b = some q.1 ∧ ∀ j c, q.2[j]? = some c → s.m b j = some c
  | (b', q') :: r, b, q, h, e => by
    unfold lookB at e
    split at e
    · rename_i he
      cases e
      rw [he]
      exact ⟨h.1, fun j c hc => by have := leM_at h.2.1 hc; rwa [Nat.zero_add] at this⟩
    · exact leB_at h.2.2 e
section
variable {P : Program} {X : Cx} {base : Nat} {w0 : World} {n : Nat} {s s' : St} {a : Act} {w : World} {Q : Exit → Act → World → Prop}
theorem sat_le {β : Nat → Nat} {gs : List (Nat × TV)} {bs : List (Nat × TypeId × List A0)} (h : Sat base w0 n β s a w) (hg : leG s gs) (hb : leB s bs) (hw : wfB gs bs = true) : Sat base w0 n β (stB gs bs) a w := by
  have hT : ∀ b ty, (stB gs bs).T b = some ty → s.T b = some ty := by
    intro b ty e
    obtain ⟨q, hq, rfl⟩ := Option.map_eq_some_iff.1 e
    exact (leB_at hb hq).1
  have hT' : ∀ b, (stB gs bs).T b ≠ none → s.T b ≠ none := by
    intro b e
    obtain ⟨ty, hty⟩ := Option.ne_none_iff_exists'.1 e
    rw [hT b ty hty]; simp
  exact { h with
    tm := fun t x e => h.tm t x (leG_at hg e)
    box := fun b ty e => by
      obtain ⟨h1, arr, h2, h3, h4⟩ := h.box b ty (hT b ty e)
      refine ⟨h1, arr, h2, h3, fun off c hc => h4 off c ?_⟩
      obtain ⟨q, hq, hqc⟩ := Option.bind_eq_some_iff.1 hc
      exact (leB_at hb hq).2 off c hqc
    has := fun b off e hn => by
      apply e
      have : lookB bs b = none := Option.map_eq_none_iff.1 hn
      show (lookB bs b).bind _ = none
      rw [this]; rfl
    inj := fun b b' h1 h2 => h.inj b b' (hT' b h1) (hT' b' h2)
    refs := fun t x e b hb' hn => by
      have h1 : lookG gs t = some x := e
      have hmem := lookG_mem h1
      obtain ⟨p, hp, rfl⟩ := hmem
      have := List.all_eq_true.1 (List.all_eq_true.1 hw p hp) b hb'
      rw [show lookB bs b = none from Option.map_eq_none_iff.1 hn] at this
      cases this }
/-- What a loop keeps. -/
structure LI (α : Type) where
  gs : α → List (Nat × TV)
  bs : α → List (Nat × TypeId × List A0)
  I : α → Prop
  μ : α → Nat
def atL {α : Type} (L : LI α) (v : α) (s : St) : Prop := L.I v ∧ leG s (L.gs v) ∧ leB s (L.bs v)
def lpI {α : Type} (X : Cx) (n : Nat) (L : LI α) (f : Nat) (c : Code) (ke : Nat → St → Prop) (kr : St → Prop) (s : St) : Prop :=
  (∃ v, atL L v s) ∧ ∀ v, L.I v → wfB (L.gs v) (L.bs v) = true ∧ vc X n f c (fun s' => ∃ v', L.μ v' < L.μ v ∧ atL L v' s') ke kr (stB (L.gs v) (L.bs v))
theorem lp_sound {α : Type} (ok : CxOk2 P X) (hmo : P.follows .mixedOrders = true) (L : LI α) (f : Nat) (c : Code) (ke : Nat → St → Prop) (kr : St → Prop) (h : lpI X n L f c ke kr s) (hS : SatE base w0 n s a w)
    (he : ∀ id s a w, ke id s → SatE base w0 n s a w → Q (.exit id) a w) (hr : ∀ s a w, kr s → SatE base w0 n s a w → Q .ret a w) : (Code.loop c).wp P Q a w := by
  obtain ⟨⟨v, hv⟩, hI⟩ := h
  have key : ∀ m v s a w, L.μ v < m → atL L v s → SatE base w0 n s a w → Code.rounds P c Q m a w := by
    intro m
    induction m with
    | zero => intro v s a w h; exact absurd h (Nat.not_lt_zero _)
    | succ m ih =>
      intro v s a w hm hv hS
      obtain ⟨β, hS⟩ := hS
      have hw := (hI v hv.1).1
      have hS' : SatE base w0 n (stB (L.gs v) (L.bs v)) a w := ⟨β, sat_le hS hv.2.1 hv.2.2 hw⟩
      exact vc_sound ok hmo f c _ _ _ _ _ _ _ (hI v hv.1).2 hS' (fun s a w hk hS => by obtain ⟨v', h1, h2⟩ := hk; exact ih v' s a w (by omega) h2 hS) (fun id s a w hk hS => he id s a w hk hS) (fun s a w hk hS => hr s a w hk hS)
  exact wp_loop_rounds (L.μ v + 1) (key _ v s a w (by omega) hv hS)
def vcl {α : Type} (X : Cx) (n : Nat) (L : LI α) : Nat → Code → (St → Prop) → (Nat → St → Prop) → (St → Prop) → St → Prop
  | 0, _, _, _, _, _ => False
  | f + 1, .skip, kn, _, _, s => kn s
  | f + 1, .seq x y, kn, ke, kr, s => vcl X n L f x (vcl X n L f y kn ke kr) ke kr s
  | f + 1, .region _ ops draw, kn, _, _, s => match effs X ops.toList ops.toList s with
    | some (es, s') => regChk X n ops.toList draw es = true ∧ pres es ∧ kn s'
    | none => False
  | f + 1, .cond c x y, kn, ke, kr, s => match boolOf (getv s.g c) with
    | some b => (b = true → vcl X n L f x kn ke kr s) ∧ (b = false → vcl X n L f y kn ke kr s)
    | none => False
  | f + 1, .block id c, kn, ke, kr, s => vcl X n L f c kn (fun id' s => if id' = id then kn s else ke id' s) kr s
  | f + 1, .loop c, _, ke, kr, s => lpI X n L f c ke kr s
  | f + 1, .exit id, _, ke, _, s => ke id s
  | f + 1, .ret, _, _, kr, s => kr s
  | _ + 1, _, _, _, _, _ => False
theorem vcl_sound {α : Type} (ok : CxOk2 P X) (hmo : P.follows .mixedOrders = true) (L : LI α) : ∀ (f : Nat) (c : Code) (kn : St → Prop) (ke : Nat → St → Prop) (kr : St → Prop) (s : St) (a : Act) (w : World) (Q : Exit → Act → World → Prop), vcl X n L f c kn ke kr s → SatE base w0 n s a w →
    (∀ s a w, kn s → SatE base w0 n s a w → Q .normal a w) → (∀ id s a w, ke id s → SatE base w0 n s a w → Q (.exit id) a w) → (∀ s a w, kr s → SatE base w0 n s a w → Q .ret a w) → c.wp P Q a w := by
  intro f
  induction f with
  | zero => intro c kn ke kr s a w Q h; cases h
  | succ f ih =>
    intro c kn ke kr s a w Q h hS hn he hr
    cases c with
    | skip => exact wp_skip (hn s a w h hS)
    | seq x y =>
      refine wp_seq (ih x _ ke kr s a w _ h hS (fun s a w hk hS => ih y kn ke kr s a w Q hk hS hn he hr) (fun id s a w hk hS => he id s a w hk hS) (fun s a w hk hS => hr s a w hk hS))
    | region id ops draw =>
      simp only [vcl] at h
      split at h
      · rename_i es s' heff
        exact region_sound ok hmo heff h.1 h.2.1 hS (fun a w hS' => hn s' a w h.2.2 hS')
      · cases h
    | cond c x y =>
      simp only [vcl] at h
      split at h
      · rename_i b hb
        refine wp_cond (boolOf_eq hS hb) ?_
        cases b with
        | true => exact ih x kn ke kr s a w Q (h.1 rfl) hS hn he hr
        | false => exact ih y kn ke kr s a w Q (h.2 rfl) hS hn he hr
      · cases h
    | block id c =>
      refine wp_block (ih c kn _ kr s a w _ h hS (fun s a w hk hS => hn s a w hk hS) (fun id' s a w hk hS => ?_) (fun s a w hk hS => hr s a w hk hS))
      show if id' = id then Q .normal a w else Q (.exit id') a w
      split
      · rename_i e; rw [if_pos e] at hk; exact hn s a w hk hS
      · rename_i e; rw [if_neg e] at hk; exact he id' s a w hk hS
    | loop c => exact lp_sound ok hmo L f c ke kr h hS he hr
    | exit id => exact wp_exit (he id s a w h hS)
    | ret => exact wp_ret (hr s a w h hS)
    | rangeFunc _ _ _ _ => cases h
    | scope _ => cases h
    | label _ => cases h
    | goto _ => cases h
    | refuse _ => cases h
theorem fnl_ret {α : Type} (L : LI α) (ok : CxOk2 P X) (hmo : P.follows .mixedOrders = true) {fid : FuncId} {fn : Func} {c : Code} (hf : P.funcs[fid]? = some fn) (hb : fn.body = some c) {xs : List TV} {us : List Value} {w : World} (f : Nat) (r : CR)
    (hr : xs.all (fun x => x.refs.isEmpty) = true) (hn : xs.length ≤ fn.ntmps) (h : vcl X fn.ntmps L f c (fun s => resCR X fn.results.toList s = some r) (fun _ _ => False) (fun s => resCR X fn.results.toList s = some r) (st0 xs))
    (hargs : All2 (TV.reads (fun _ => 0) w.heap.size w) xs us) : Ret P fid us.toArray w r := by
  refine calls_of_wp hf hb ?_
  have hS := sat0 hargs hr (n := fn.ntmps) (by rw [← All2.length hargs]; exact hn)
  have fin : ∀ (s : St) (a : Act) (w' : World), resCR X fn.results.toList s = some r → SatE w.heap.size w fn.ntmps s a w' → a.defers = [] ∧ ∃ v, (results fn a.tmps).run P w' = .ok v w' ∧ ∃ u, Ending.returned v = .returned u ∧ r.told w w' u ∧ Below w.heap.size w w' := by
    rintro s a w' hr1 ⟨β, hS⟩
    obtain ⟨u, h1, h2⟩ := res_run ok.toCxOk hS hr1
    exact ⟨hS.defers, u, h1, u, rfl, h2, hS.below⟩
  exact vcl_sound ok hmo L f c _ _ _ _ _ _ _ h hS (fun s a w' hk hS => fin s a w' hk hS) (fun id s a w' hk => hk.elim) (fun s a w' hk hS => fin s a w' hk hS)
end
end Go.Proofs.YthokdnheijnmmaaW.Sx
