/- What a reading of an argument tells of its value, kind by kind (over any program): the value's cells are of the print's kind, its numbers and sizes within bounds. No condition. -/
import Derived.Test.YtghgloepameloaaWWords
import Derived.ProofKit
import Derived.OpenShut
import Derived.Deep.Slices
import Derived.SizedLaws
namespace Go.Proofs.Ytghgloepameloaa.Sees
open Go.ChangeShapes Go.WideShapes Go.RowKit Go.Proofs.YtghgloepameloaaW.PrintWords
set_option linter.unusedVariables false

def Sees (P : Program) (t : TypeId) {α : Type} (d : Kd α) (ok : α → Prop) : Prop :=
  ∀ {H : Type} {enc : TypeId × Value → H} {w : World} {base : Nat} {spare : Nat → Bool} {held : Bool} {fuel : Nat} {cs : List Value} {x : DataW H × List MemPlace},
    DataW.trod enc P w base spare held fuel t cs = some x → (∀ n ∈ x.1.weights P t, n ≤ reachBytes) → ∃ y : α, d.K w y cs ∧ ok y

theorem sees_int {P : Program} {t : TypeId} {k : IntKind} (ht : P.underlying t = some (.int k)) : Sees P t (Kd.int k) (fun n => (Lit.int k n).wf = true) := by
  intro H enc w base spare held fuel cs x h _
  obtain ⟨n, rfl, _, hw⟩ := DataW.trod_int ht h
  exact ⟨n, rfl, hw⟩
theorem sees_bool {P : Program} {t : TypeId} (ht : P.underlying t = some .bool) : Sees P t Kd.bool (fun _ => True) := by
  intro H enc w base spare held fuel cs x h _
  obtain ⟨b, rfl, _⟩ := DataW.trod_bool ht h
  exact ⟨b, rfl, trivial⟩
theorem sees_string {P : Program} {t : TypeId} (ht : P.underlying t = some .string) : Sees P t Kd.string (fun s => s.size ≤ 140737488351232) := by
  intro H enc w base spare held fuel cs x h hz
  obtain ⟨s, rfl, rfl, _⟩ := DataW.trod_string ht h
  have := hz s.data.toList.length (by simp [DataW.weights])
  exact ⟨s, rfl, by rw [Array.length_toList] at this; exact this⟩
theorem weights_all {H : Type} {P : Program} {e : TypeId} {l : List (DataW H)} {d : DataW H} (hd : d ∈ l) {n : Nat} (hn : n ∈ d.weights P e) : n ∈ DataW.weightsAll P e l := by
  induction l with
  | nil => cases hd
  | cons a r ih =>
    simp only [DataW.weightsAll, List.mem_append]
    rcases List.mem_cons.1 hd with rfl | h
    · exact .inl hn
    · exact .inr (ih h)
theorem choose_list {α : Type} {n : Nat} {p : Nat → α → Prop} (h : ∀ i, i < n → ∃ y, p i y) : ∃ l : List α, l.length = n ∧ ∀ i y, l[i]? = some y → p i y := by
  induction n with
  | zero => exact ⟨[], rfl, fun i y hy => by simp at hy⟩
  | succ n ih =>
    obtain ⟨l, hl, hp⟩ := ih (fun i hi => h i (by omega))
    obtain ⟨y, hy⟩ := h n (by omega)
    refine ⟨l ++ [y], by simp [hl], fun i z hz => ?_⟩
    rcases Nat.lt_or_ge i l.length with hi | hi
    · exact hp i z (by rwa [List.getElem?_append_left hi] at hz)
    · rw [List.getElem?_append_right hi] at hz
      obtain ⟨h0, hz⟩ := List.getElem?_eq_some_iff.1 hz
      have : i = n := by simp at h0; omega
      subst this
      simp at hz
      exact hz ▸ hy
theorem sees_slice {P : Program} {t e : TypeId} {α : Type} {d : Kd α} {ok : α → Prop} {B : Nat} (ht : P.underlying t = some (.slice e)) (hc : P.cellsOf e = d.sz) (hB : P.bytesOf e = B) (he : Sees P e d ok) :
    Sees P t (Kd.slice e d) (fun l => l.length ≤ 9223372036854775807 ∧ l.length * B ≤ 140737488351232 ∧ ∀ x ∈ l, ok x) := by
  intro H enc w base spare held fuel cs x h hz
  rcases Go.Deep.open_slice ht h with ⟨rfl, rfl⟩ | ⟨a, len, cap, m, n, D, Pl, rfl, hb, hl, hm, hmm, rfl, hx⟩
  · refine ⟨[], ⟨none, 0, rfl, Nat.le_refl _, rfl, by simp, fun h => absurd h (by simp)⟩, by simp, by simp, fun x hx => by cases hx⟩
  · have hlm : len ≤ m := by rw [hmm]; split <;> omega
    have hm' : cap ≤ 9223372036854775807 := by unfold maxLen at hm; exact hm
    obtain ⟨l, hll, hp⟩ := choose_list (n := len) (p := fun i y => ok y ∧ ∃ c, d.K w y c ∧ ∀ j u, c[j]? = some u → w.cell? (a.add (i * d.sz + j)) = some u) (fun i hi => by
      obtain ⟨cs', h1, h2⟩ := hx i (by omega)
      obtain ⟨y, hy, hoy⟩ := he h2 (fun q hq => hz q (by
        simp only [DataW.weights, ht, List.mem_cons, List.mem_append]
        exact .inr (.inl (weights_all (List.mem_map.2 ⟨i, List.mem_range.2 hi, rfl⟩) hq))))
      refine ⟨y, hoy, cs', hy, fun j u hj => ?_⟩
      obtain ⟨_, h3, h4⟩ := World.cells?_some h1
      have hj' : j < P.cellsOf e := by
        obtain ⟨hj', _⟩ := List.getElem?_eq_some_iff.1 hj
        omega
      have := h4 j hj'
      rw [hj, Go.Deep.add_add, hc] at this
      exact this)
    refine ⟨l, ⟨some a, cap, by rw [hll], by omega, by rw [hll], by omega, fun hn => ⟨a, rfl, fun j p hj => ?_⟩⟩, by omega, ?_, fun x hx => ?_⟩
    · obtain ⟨_, c, hK, hcell⟩ := hp j p hj
      exact ⟨c, d.K_len hK, hK, hcell⟩
    · have hq := hz ((((List.range len).map D).length + ((List.range (m - len)).map fun j => D (len + j)).length) * P.bytesOf e) (by
        simp [DataW.weights, ht])
      simp only [List.length_map, List.length_range, hB] at hq
      rw [hll]
      exact Nat.le_trans (Nat.mul_le_mul_right _ (Nat.le_add_right _ _)) hq
    · obtain ⟨i, hi⟩ := List.getElem?_of_mem hx
      exact (hp i x hi).1

/-- Fields in line, from a place on. -/
def SeesAll (P : Program) (fs : List Field) (off : Nat) {α : Type} (d : Kd α) (ok : α → Prop) : Prop :=
  ∀ {H : Type} {enc : TypeId × Value → H} {w : World} {base : Nat} {spare : Nat → Bool} {held : Bool} {n : Nat} {cs : List Value} {xs : List (DataW H × List MemPlace)},
    (∀ (i : Nat) (f : Field), fs[i]? = some f → DataW.trod enc P w base spare held n f.type ((cs.drop f.offset).take (P.cellsOf f.type)) = xs[i]?) → xs.length = fs.length →
    (∀ q ∈ DataW.weightsEach P (fs.map (·.type)) (xs.map (·.1)), q ≤ reachBytes) → ∃ y : α, d.K w y ((cs.drop off).take d.sz) ∧ ok y
theorem sees_last {P : Program} {f : Field} {off : Nat} {α : Type} {d : Kd α} {ok : α → Prop} (ho : f.offset = off) (hc : P.cellsOf f.type = d.sz) (h : Sees P f.type d ok) : SeesAll P [f] off d ok := by
  intro H enc w base spare held n cs xs hx hl hz
  match xs, hl with
  | [x0], _ =>
    have h0 := hx 0 f rfl
    rw [ho, hc] at h0
    exact h h0 (fun q hq => hz q (by simp [DataW.weightsEach]; exact hq))
theorem sees_more {P : Program} {f : Field} {fs : List Field} {off : Nat} {α β : Type} {d : Kd α} {d2 : Kd β} {ok : α → Prop} {ok2 : β → Prop} (ho : f.offset = off) (hc : P.cellsOf f.type = d.sz) (h : Sees P f.type d ok) (h2 : SeesAll P fs (off + d.sz) d2 ok2) :
    SeesAll P (f :: fs) off (Kd.pair d d2) (fun y => ok y.1 ∧ ok2 y.2) := by
  intro H enc w base spare held n cs xs hx hl hz
  match xs, hl with
  | x0 :: xr, hl =>
    have h0 := hx 0 f rfl
    rw [ho, hc] at h0
    obtain ⟨y, hy, oy⟩ := h h0 (fun q hq => hz q (by simp only [List.map_cons, DataW.weightsEach, List.mem_append]; exact .inl hq))
    obtain ⟨y2, hy2, oy2⟩ := h2 (fun i g hg => hx (i + 1) g hg) (by simpa using hl) (fun q hq => hz q (by simp only [List.map_cons, DataW.weightsEach, List.mem_append]; exact .inr hq))
    refine ⟨(y, y2), ⟨_, _, ?_, hy, hy2⟩, oy, oy2⟩
    show (cs.drop off).take (d.sz + d2.sz) = _
    rw [List.take_add, List.drop_drop]
theorem sees_struct {P : Program} {t : TypeId} {fs : Array Field} {α β : Type} {d : Kd α} {ok : α → Prop} (f : β → α) (g : α → β) (hfg : ∀ y, f (g y) = y) (ht : P.underlying t = some (.struct fs)) (hc : P.cellsOf t = d.sz) (h : SeesAll P fs.toList 0 d ok) :
    Sees P t (Kd.iso d f) (fun y => ok (f y)) := by
  intro H enc w base spare held fuel cs x hx hz
  obtain ⟨xs, n, _, rfl, hl, hlen, hf⟩ := DataW.trod_struct ht hx
  obtain ⟨y, hy, oy⟩ := h (fun i f hi => hf i f (by simpa using hi)) (by simpa using hlen) (fun q hq => hz q (by simp only [DataW.weights, ht]; exact hq))
  rw [List.drop_zero, List.take_of_length_le (by omega)] at hy
  exact ⟨g y, by show d.K w (f (g y)) cs; rw [hfg]; exact hy, by show ok (f (g y)); rw [hfg]; exact oy⟩
theorem sees_weaken {P : Program} {t : TypeId} {α : Type} {d : Kd α} {ok ok' : α → Prop} (h : Sees P t d ok) (hk : ∀ y, ok y → ok' y) : Sees P t d ok' := by
  intro H enc w base spare held fuel cs x hx hz
  obtain ⟨y, hy, oy⟩ := h hx hz
  exact ⟨y, hy, hk y oy⟩

/-- One argument of a law: its value, and what is known of it. -/
theorem see_arg {H : Type} {enc : TypeId × Value → H} {P : Program} {W : World} {base : Nat} {spare : Nat → Bool} {held : Bool} {ts : List TypeId} {ds : List (DataW H)} {j : Nat} {t : TypeId} {α : Type} {d : Kd α} {ok : α → Prop} {v : Value} {dd : DataW H} {ps : List MemPlace}
    (hs : Sees P t d ok) (hsz : (DataW.weightsEach P ts ds).all (· ≤ reachBytes) = true) (ht : ts[j]? = some t) (hd : ds[j]? = some dd) (h : DataW.Trod enc P W base spare held t v dd ps) : ∃ y : α, d.K W y v.cells.toList ∧ ok y := by
  obtain ⟨fuel, hf⟩ := h
  exact hs hf (fun n hn => by
    have := List.all_eq_true.1 hsz _ (DataW.weights_mem_each ht hd n hn)
    simpa using this)
/-- A slice that came in. -/
theorem see_slice {w : World} {e : Nat} {α : Type} {d : Kd α} {y : List α} {v : Value} {A : Option Addr} {n c : Nat} (hv : v = .slice A n c) (h : (Kd.slice e d).K w y v.cells.toList) : n = y.length ∧ y.length ≤ c ∧ d.C w A y.length y := by
  subst hv
  obtain ⟨A', c', he, hl, hr⟩ := h
  simp [Value.cells] at he
  obtain ⟨rfl, rfl, rfl⟩ := he
  exact ⟨rfl, hl, hr⟩
end Go.Proofs.Ytghgloepameloaa.Sees
