/- What reads as data of a type reads as a value of the kind that goes with the type: whole numbers, bools, strings, slices, structs. For rows whose argument is a slice of structs. -/
import Derived.Test.YthokdnheijnmmaaWWords
import Derived.Deep.Slices
import Derived.Deep.Fields
import Derived.SizedLaws
import Derived.ChangeArms
namespace Go.Proofs.YthokdnheijnmmaaW.Opens
open Go.RowKit Go.Proofs.YthokdnheijnmmaaW.PrintWords Go.Deep
variable {P : Program}

/-- What reads as type t reads as the kind d, and what is read meets G. -/
def Opens (P : Program) (t : TypeId) {α : Type} (d : Kd α) (G : α → Prop) : Prop :=
  P.cellsOf t = d.sz ∧ ∀ {H : Type} (enc : TypeId × Value → H) (w : World) (base : Nat) (spare : Nat → Bool) (held : Bool) (fuel : Nat) (cs : List Value) (x : DataW H × List MemPlace),
    DataW.trod enc P w base spare held fuel t cs = some x → (∀ n ∈ x.1.weights P t, n ≤ reachBytes) → ∃ a, d.K w a cs ∧ G a

theorem opens_int {t : TypeId} {k : IntKind} (hu : P.underlying t = some (.int k)) (hc : P.cellsOf t = 1) : Opens P t (Kd.int k) (fun n => (Lit.int k n).wf = true) := by
  refine ⟨hc, fun enc w base spare held fuel cs x h _ => ?_⟩
  obtain ⟨n, rfl, _, hw⟩ := DataW.trod_int hu h
  exact ⟨n, rfl, hw⟩

theorem opens_bool {t : TypeId} (hu : P.underlying t = some .bool) (hc : P.cellsOf t = 1) : Opens P t Kd.bool (fun _ => True) := by
  refine ⟨hc, fun enc w base spare held fuel cs x h _ => ?_⟩
  obtain ⟨n, rfl, _⟩ := DataW.trod_bool hu h
  exact ⟨n, rfl, trivial⟩

theorem opens_string {t : TypeId} (hu : P.underlying t = some .string) (hc : P.cellsOf t = 1) : Opens P t Kd.string (fun s => s.size ≤ 140737488351232) := by
  refine ⟨hc, fun enc w base spare held fuel cs x h hw => ?_⟩
  obtain ⟨s, rfl, rfl, _⟩ := DataW.trod_string hu h
  have z := hw s.data.toList.length (by simp [DataW.weights])
  exact ⟨s, rfl, by simpa [reachBytes] using z⟩

theorem list_of {α : Type} {Q : Nat → α → Prop} : ∀ n : Nat, (∀ i, i < n → ∃ a, Q i a) → ∃ xs : List α, xs.length = n ∧ ∀ j p, xs[j]? = some p → Q j p
  | 0, _ => ⟨[], rfl, fun j p h => by simp at h⟩
  | n + 1, h => by
    obtain ⟨xs, hl, hx⟩ := list_of n (fun i hi => h i (by omega))
    obtain ⟨a, ha⟩ := h n (by omega)
    refine ⟨xs ++ [a], by simp [hl], fun j p hj => ?_⟩
    by_cases hjl : j < xs.length
    · rw [List.getElem?_append_left hjl] at hj
      exact hx j p hj
    · have hj2 : j < (xs ++ [a]).length := (List.getElem?_eq_some_iff.1 hj).1
      have : j = n := by simp at hj2; omega
      subst this
      rw [List.getElem?_append_right (by omega)] at hj
      simp [hl] at hj
      subst hj
      exact ha

theorem weights_mem_all {H : Type} {e : TypeId} : ∀ {l : List (DataW H)} {d : DataW H}, d ∈ l → ∀ n ∈ d.weights P e, n ∈ DataW.weightsAll P e l
  | [], _, h, _, _ => by simp at h
  | y :: l, d, h, n, hn => by
    rw [DataW.weightsAll]
    rcases List.mem_cons.1 h with rfl | h
    · exact List.mem_append_left _ hn
    · exact List.mem_append_right _ (weights_mem_all h n hn)

theorem opens_slice {t e : TypeId} {α : Type} {d : Kd α} {G : α → Prop} (hu : P.underlying t = some (.slice e)) (hc : P.cellsOf t = 1) {B : Nat} (hB : P.bytesOf e = B) (he : Opens P e d G) :
    Opens P t (Kd.slice e d) (fun xs => xs.length * B ≤ 140737488351232 ∧ ∀ x ∈ xs, G x) := by
  obtain ⟨hsz, he⟩ := he
  refine ⟨hc, fun enc w base spare held fuel cs x h hw => ?_⟩
  rcases open_slice hu h with ⟨rfl, _⟩ | ⟨a, len, cap, m, n, D, Pl, rfl, _, hl, hm, hmm, rfl, hi⟩
  · exact ⟨[], ⟨none, 0, rfl, Nat.le_refl _, rfl, by simp, fun h => absurd h (by simp)⟩, by simp, fun _ h => by simp at h⟩
  · have hlm : len ≤ m := by rw [hmm]; split <;> omega
    have hw2 : ∀ i, i < len → ∀ q ∈ (D i).weights P e, q ≤ reachBytes := fun i hil q hq => by
      refine hw q ?_
      rw [DataW.weights, hu]
      refine List.mem_cons_of_mem _ (List.mem_append_left _ (weights_mem_all (d := D i) ?_ q hq))
      exact List.mem_map.2 ⟨i, List.mem_range.2 hil, rfl⟩
    obtain ⟨xs, hxl, hx⟩ := list_of (Q := fun i p => (∃ c, c.length = d.sz ∧ d.K w p c ∧ ∀ j u, c[j]? = some u → w.cell? (a.add (i * d.sz + j)) = some u) ∧ G p) len (fun i hil => by
      obtain ⟨cs', h1, h2⟩ := hi i (by omega)
      obtain ⟨p, hk, hg⟩ := he enc w base spare held n cs' _ h2 (hw2 i hil)
      obtain ⟨_, hcl, hat⟩ := World.cells?_some h1
      refine ⟨p, ⟨cs', d.K_len hk, hk, fun j u hj => ?_⟩, hg⟩
      have hjl : j < cs'.length := (List.getElem?_eq_some_iff.1 hj).1
      have h3 := hat j (by omega)
      rw [hj, hsz, Go.Deep.add_add] at h3
      exact h3)
    subst hxl
    refine ⟨xs, ⟨some a, cap, rfl, hl, rfl, by unfold maxLen at hm; omega, fun _ => ⟨a, rfl, fun j p hj => (hx j p hj).1⟩⟩, ?_, fun x hx' => ?_⟩
    · have z := hw ((((List.range xs.length).map D).length + ((List.range (m - xs.length)).map fun j => D (xs.length + j)).length) * P.bytesOf e) (by rw [DataW.weights, hu]; exact List.mem_cons_self)
      simp only [List.length_map, List.length_range, hB, reachBytes] at z
      exact Nat.le_trans (Nat.mul_le_mul_right _ (Nat.le_add_right _ _)) z
    · obtain ⟨j, hj⟩ := List.getElem?_of_mem hx'
      exact (hx j x hj).2

/-- Fields in line, from the cell o on. -/
def OpensF (P : Program) (o : Nat) (fs : List (TypeId × Nat)) {α : Type} (d : Kd α) (G : α → Prop) : Prop :=
  ∀ {H : Type} (enc : TypeId × Value → H) (w : World) (base : Nat) (spare : Nat → Bool) (held : Bool) (n : Nat) (cs : List Value) (ys : List (DataW H × List MemPlace)), cs.length = o + d.sz → ys.length = fs.length →
    (∀ (i : Nat) (f : TypeId × Nat), fs[i]? = some f → DataW.trod enc P w base spare held n f.1 ((cs.drop f.2).take (P.cellsOf f.1)) = ys[i]?) →
    (∀ q ∈ DataW.weightsEach P (fs.map (·.1)) (ys.map (·.1)), q ≤ reachBytes) → ∃ a, d.K w a (cs.drop o) ∧ G a

theorem opensF_one {t : TypeId} {o : Nat} {α : Type} {d : Kd α} {G : α → Prop} (h : Opens P t d G) : OpensF P o [(t, o)] d G := by
  obtain ⟨hsz, he⟩ := h
  intro H enc w base spare held n cs ys hl hyl hg hw
  match ys, hyl with
  | [y], _ =>
    have h1 := hg 0 (t, o) rfl
    simp only at h1
    rw [hsz, List.take_of_length_le (by simp; omega)] at h1
    exact he enc w base spare held n _ y h1 (fun q hq => hw q (by simpa [DataW.weightsEach] using hq))

theorem opensF_cons {t : TypeId} {fs : List (TypeId × Nat)} {o o' : Nat} {α β : Type} {d : Kd α} {d' : Kd β} {G : α → Prop} {G' : β → Prop} (h : Opens P t d G) (ho' : o + d.sz = o') (h' : OpensF P o' fs d' G') :
    OpensF P o ((t, o) :: fs) (Kd.pair d d') (fun x => G x.1 ∧ G' x.2) := by
  obtain ⟨hsz, he⟩ := h
  intro H enc w base spare held n cs ys hl hyl hg hw
  match ys, hyl with
  | y :: ys, hyl =>
    have h1 := hg 0 (t, o) rfl
    simp only at h1
    rw [hsz] at h1
    obtain ⟨a, ka, ga⟩ := he enc w base spare held n _ y h1 (fun q hq => hw q (by simp only [List.map_cons, DataW.weightsEach]; exact List.mem_append_left _ hq))
    have hl' : cs.length = o' + d'.sz := by
      have : (Kd.pair d d').sz = d.sz + d'.sz := rfl
      omega
    obtain ⟨b, kb, gb⟩ := h' enc w base spare held n cs ys hl' (by simpa using hyl) (fun i f' hf => hg (i + 1) f' (by simpa using hf)) (fun q hq => hw q (by simp only [List.map_cons, DataW.weightsEach]; exact List.mem_append_right _ hq))
    refine ⟨(a, b), ⟨(cs.drop o).take d.sz, cs.drop o', ?_, ka, kb⟩, ga, gb⟩
    rw [← ho', ← List.drop_drop, List.take_append_drop]

theorem opens_struct {t : TypeId} {fs : Array Field} {α β : Type} {d : Kd α} {G : α → Prop} (hu : P.underlying t = some (.struct fs)) (hc : P.cellsOf t = d.sz) {l : List (TypeId × Nat)} (hl : fs.toList.map (fun f => (f.type, f.offset)) = l) (h : OpensF P 0 l d G) (f : β → α) (g : α → β) (hfg : ∀ x, f (g x) = x) :
    Opens P t (Kd.iso d f) (fun x => G (f x)) := by
  refine ⟨hc, fun enc w base spare held fuel cs x hx hw => ?_⟩
  obtain ⟨ys, n, _, rfl, hcl, hyl, hg⟩ := DataW.trod_struct hu hx
  have hg' : ∀ (i : Nat) (f : TypeId × Nat), l[i]? = some f → DataW.trod enc P w base spare held n f.1 ((cs.drop f.2).take (P.cellsOf f.1)) = ys[i]? := by
    intro i f hf
    rw [← hl, List.getElem?_map] at hf
    obtain ⟨f0, hf0, rfl⟩ := Option.map_eq_some_iff.1 hf
    exact hg i f0 (by simpa using hf0)
  obtain ⟨a, ka, ga⟩ := h enc w base spare held n cs ys (by omega) (by rw [hyl, ← hl]; simp) hg' (fun q hq => hw q (by rw [← hl, List.map_map] at hq; simp only [DataW.weights, hu]; exact hq))
  exact ⟨g a, by show d.K w (f (g a)) cs; rw [hfg]; exact ka, by show G (f (g a)); rw [hfg]; exact ga⟩

/-- The row's one argument, by its reading. -/
theorem opens_arg {H : Type} {enc : TypeId × Value → H} {W : World} {base : Nat} {spare : Nat → Bool} {held : Bool} {t : TypeId} {v : Value} {x : DataW H} {ps : List MemPlace} {ts : List TypeId} {ds : List (DataW H)} {j : Nat} {α : Type} {d : Kd α} {G : α → Prop}
    (ho : Opens P t d G) (hsz : (DataW.weightsEach P ts ds).all (· ≤ reachBytes) = true) (ht : ts[j]? = some t) (hd : ds[j]? = some x) (h : DataW.Trod enc P W base spare held t v x ps) : ∃ a, d.K W a v.cells.toList ∧ G a := by
  obtain ⟨fuel, hf⟩ := h
  refine ho.2 enc W base spare held fuel _ (x, ps) hf (fun n hn => ?_)
  simpa using List.all_eq_true.1 hsz n (DataW.weights_mem_each ht hd n hn)
end Go.Proofs.YthokdnheijnmmaaW.Opens
