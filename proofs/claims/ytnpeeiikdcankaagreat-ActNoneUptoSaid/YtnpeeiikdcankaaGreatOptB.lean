/- Opening a row's arguments, kind by kind: what is read of any kind's cells, its bulk, its range. -/
import Derived.Test.YtnpeeiikdcankaaGreatRows
import Derived.Test.YtnpeeiikdcankaaGreatQB3
import Derived.Deep.Slices
import Derived.Deep.Fields
import Derived.ChangeSame
import Derived.ChangeArms
namespace Go.Proofs.YtnpeeiikdcankaaGreat.Opn
open Go Go.RowKit Go.ChangeShapes Go.WideShapes Go.Deep Go.Proofs Go.Proofs.YtnpeeiikdcankaaGreat Go.Proofs.YtnpeeiikdcankaaGreatW.PrintWords
set_option linter.unusedVariables false
set_option linter.unusedSimpArgs false
section
variable {H : Type} {enc : TypeId × Value → H} {P : Program} {W : World} {base : Nat} {spare : Nat → Bool} {held : Bool}

def Opn (enc : TypeId × Value → H) (P : Program) (W : World) (base : Nat) (spare : Nat → Bool) (held : Bool) {α : Type} (e : TypeId) (d : Kd α) (β : α → Nat) (ok : α → Prop) : Prop :=
  ∀ (fuel : Nat) (cs : List Value) (x : DataW H × List MemPlace), DataW.trod enc P W base spare held fuel e cs = some x → ∃ a, d.K W a cs ∧ β a ≤ Rows.uptoBulk x.1 ∧ ok a
theorem str {e : TypeId} (he : P.underlying e = some .string) : Opn enc P W base spare held e Kd.string (fun s => s.size + 1) (fun _ => True) := fun fuel cs x h => by
  obtain ⟨s, rfl, rfl, hs⟩ := DataW.trod_string he h
  refine ⟨s, rfl, ?_, trivial⟩
  show s.size + 1 ≤ s.data.toList.length + 1
  rw [Array.length_toList]
  exact Nat.le_refl _
theorem int {e : TypeId} {k : IntKind} (he : P.underlying e = some (.int k)) : Opn enc P W base spare held e (Kd.int k) (fun _ => 1) (fun n => (Lit.int k n).wf = true) := fun fuel cs x h => by
  obtain ⟨s, rfl, rfl, hs⟩ := DataW.trod_int he h
  exact ⟨s, rfl, by simp [Rows.uptoBulk], hs⟩
theorem bool {e : TypeId} (he : P.underlying e = some .bool) : Opn enc P W base spare held e Kd.bool (fun _ => 1) (fun _ => True) := fun fuel cs x h => by
  obtain ⟨s, rfl, rfl⟩ := DataW.trod_bool he h
  exact ⟨s, rfl, by simp [Rows.uptoBulk], trivial⟩
theorem iso {α γ : Type} {e : TypeId} {d : Kd α} {β : α → Nat} {ok : α → Prop} (h : Opn enc P W base spare held e d β ok) (f : γ → α) (g : α → γ) (hg : ∀ a, f (g a) = a) :
    Opn enc P W base spare held e (Kd.iso d f) (fun c => β (f c)) (fun c => ok (f c)) := fun fuel cs x hx => by
  obtain ⟨a, h1, h2, h3⟩ := h fuel cs x hx
  refine ⟨g a, ?_, ?_, ?_⟩
  · show d.K W (f (g a)) cs; rw [hg]; exact h1
  · show β (f (g a)) ≤ _; rw [hg]; exact h2
  · show ok (f (g a)); rw [hg]; exact h3

def tot (P : Program) (fs : List Field) : Nat := (fs.map fun f => P.cellsOf f.type).sum
def OpnF (enc : TypeId × Value → H) (P : Program) (W : World) (base : Nat) (spare : Nat → Bool) (held : Bool) {α : Type} (fs : List Field) (off : Nat) (d : Kd α) (β : α → Nat) (ok : α → Prop) : Prop :=
  ∀ (n : Nat) (cs : List Value) (xs : List (DataW H × List MemPlace)), xs.length = fs.length → cs.length = off + tot P fs →
    (∀ (j : Nat) (f : Field), fs[j]? = some f → DataW.trod enc P W base spare held n f.type ((cs.drop f.offset).take (P.cellsOf f.type)) = xs[j]?) →
    ∃ a, d.K W a (cs.drop off) ∧ β a ≤ Rows.uptoBulkAll (xs.map (·.1)) ∧ ok a
theorem last {α : Type} {f : Field} {off : Nat} {d : Kd α} {β : α → Nat} {ok : α → Prop} (ho : f.offset = off) (h : Opn enc P W base spare held f.type d β ok) : OpnF enc P W base spare held [f] off d β ok := by
  intro n cs xs hl hc hx
  match xs, hl with
  | [x], _ =>
    have h0 := hx 0 f rfl
    rw [ho] at h0
    have e : (cs.drop off).take (P.cellsOf f.type) = cs.drop off := by
      apply List.take_of_length_le
      rw [List.length_drop, hc]
      simp [tot]
    rw [e] at h0
    obtain ⟨a, h1, h2, h3⟩ := h n _ x h0
    exact ⟨a, h1, by simp [Rows.uptoBulkAll]; omega, h3⟩
theorem cons {α γ : Type} {f : Field} {fs : List Field} {off : Nat} {d : Kd α} {d' : Kd γ} {β : α → Nat} {β' : γ → Nat} {ok : α → Prop} {ok' : γ → Prop} (ho : f.offset = off) (h : Opn enc P W base spare held f.type d β ok)
    (hr : OpnF enc P W base spare held fs (off + P.cellsOf f.type) d' β' ok') : OpnF enc P W base spare held (f :: fs) off (Kd.pair d d') (fun p => β p.1 + β' p.2) (fun p => ok p.1 ∧ ok' p.2) := by
  intro n cs xs hl hc hx
  match xs, hl with
  | x :: xs, hl =>
    have h0 := hx 0 f rfl
    rw [ho] at h0
    obtain ⟨a, h1, h2, h3⟩ := h n _ x h0
    obtain ⟨b, g1, g2, g3⟩ := hr n cs xs (by simpa using hl) (by rw [hc]; simp [tot]; omega) (fun j q hq => by have := hx (j + 1) q (by simpa using hq); simpa using this)
    refine ⟨(a, b), ⟨_, _, ?_, h1, g1⟩, by simp [Rows.uptoBulkAll]; omega, h3, g3⟩
    rw [← List.drop_drop]
    exact (List.take_append_drop _ _).symm
theorem struct {α : Type} {e : TypeId} {fs : Array Field} {d : Kd α} {β : α → Nat} {ok : α → Prop} (he : P.underlying e = some (.struct fs)) (hC : P.cellsOf e = tot P fs.toList) (h : OpnF enc P W base spare held fs.toList 0 d β ok) :
    Opn enc P W base spare held e d (fun a => β a + 1) ok := fun fuel cs x hx => by
  obtain ⟨xs, n, _, rfl, hlen, hxl, hat⟩ := DataW.trod_struct he hx
  obtain ⟨a, h1, h2, h3⟩ := h n cs xs (by simpa using hxl) (by rw [hlen, hC]; omega) (fun j f hf => hat j f (by simpa using hf))
  exact ⟨a, by simpa using h1, by simp only [Rows.uptoBulk]; omega, h3⟩

theorem bulk_append (l r : List (DataW H)) : Rows.uptoBulkAll (l ++ r) = Rows.uptoBulkAll l + Rows.uptoBulkAll r := by
  induction l with
  | nil => simp [Rows.uptoBulkAll]
  | cons x l ih => simp only [List.cons_append, Rows.uptoBulkAll, ih]; omega
theorem pick {α : Type} {Q : Nat → α → Prop} : ∀ (n : Nat), (∀ i, i < n → ∃ a, Q i a) → ∃ l : List α, l.length = n ∧ ∀ i a, l[i]? = some a → Q i a
  | 0, _ => ⟨[], rfl, fun i a h => by simp at h⟩
  | n + 1, h => by
    obtain ⟨l, hl, hq⟩ := pick n (fun i hi => h i (by omega))
    obtain ⟨a, ha⟩ := h n (by omega)
    refine ⟨l ++ [a], by simp [hl], fun i b hb => ?_⟩
    rcases Nat.lt_or_ge i l.length with hi | hi
    · rw [List.getElem?_append_left hi] at hb; exact hq i b hb
    · rw [List.getElem?_append_right hi] at hb
      have : i = n := by
        have := (List.getElem?_eq_some_iff.1 hb).1
        simp at this
        omega
      subst this
      have : a = b := by simpa [hl] using hb
      rw [← this]; exact ha
theorem sum_range {α : Type} (D : Nat → DataW H) (β : α → Nat) : ∀ (l : List α), (∀ i a, l[i]? = some a → β a ≤ Rows.uptoBulk (D i)) → (l.map β).sum ≤ Rows.uptoBulkAll ((List.range l.length).map D) := by
  intro l
  rw [← List.reverse_reverse l]
  generalize l.reverse = l
  induction l with
  | nil => intro _; simp [Rows.uptoBulkAll]
  | cons a l ih =>
    rw [List.reverse_cons]
    generalize l.reverse = l at ih
    intro h
    rw [List.length_append, List.length_singleton, List.range_succ, List.map_append, List.map_append, bulk_append, List.sum_append]
    have h1 := ih (fun i b hb => h i b (by rw [List.getElem?_append_left (List.getElem?_eq_some_iff.1 hb).1]; exact hb))
    have h2 := h l.length a (by simp)
    simp [Rows.uptoBulkAll]
    omega
theorem slice {α : Type} {t e : TypeId} {d : Kd α} {β : α → Nat} {ok : α → Prop} (ht : P.underlying t = some (.slice e)) (hz : P.cellsOf e = d.sz) (h : Opn enc P W base spare held e d β ok) :
    Opn enc P W base spare held t (Kd.slice e d) (fun l => (l.map β).sum + 1) (fun l => ∀ a ∈ l, ok a) := fun fuel cs x hx => by
  rcases open_slice ht hx with ⟨rfl, rfl⟩ | ⟨a, len, cap, m, n, D, Pl, rfl, hb, hl, hm, hmm, rfl, hi⟩
  · exact ⟨[], ⟨none, 0, rfl, Nat.le_refl _, ⟨rfl, by simp, fun h => absurd h (by simp)⟩⟩, by simp [Rows.uptoBulk], fun a ha => by cases ha⟩
  · have hlm : len ≤ m := by rw [hmm]; split <;> omega
    have hp : ∀ i, i < len → ∃ q : α, (∃ cs', cs'.length = d.sz ∧ d.K W q cs' ∧ ∀ j u, cs'[j]? = some u → W.cell? (a.add (i * d.sz + j)) = some u) ∧ β q ≤ Rows.uptoBulk (D i) ∧ ok q := fun i hlt => by
      obtain ⟨cs', hc, htr⟩ := hi i (by omega)
      obtain ⟨q, k1, k2, k3⟩ := h n cs' _ htr
      obtain ⟨_, hcl, hat⟩ := World.cells?_some hc
      refine ⟨q, ⟨cs', by rw [hcl, hz], k1, fun j u hu => ?_⟩, k2, k3⟩
      have hj : j < cs'.length := (List.getElem?_eq_some_iff.1 hu).1
      have := hat j (by omega)
      rw [← hz, ← Deep.add_add, this, hu]
    obtain ⟨l, hll, hq⟩ := pick len hp
    refine ⟨l, ⟨some a, cap, by rw [hll], by omega, ⟨rfl, by unfold maxLen at hm; omega, fun _ => ⟨a, rfl, fun j p hj => ?_⟩⟩⟩, ?_, fun q hqm => ?_⟩
    · obtain ⟨⟨cs', c1, c2, c3⟩, _, _⟩ := hq j p hj
      exact ⟨cs', c1, c2, c3⟩
    · have := sum_range D β l (fun i q hi => (hq i q hi).2.1)
      rw [hll] at this
      simp only [Rows.uptoBulk]
      omega
    · obtain ⟨i, hi, e⟩ := List.getElem_of_mem hqm
      exact (hq i q (by rw [List.getElem?_eq_getElem hi, e])).2.2
end
end Go.Proofs.YtnpeeiikdcankaaGreat.Opn
