/- Proved: for every text of at most 140737488351232 bytes, wire.IsName and the document's IsName answer the same. -/
import Derived.Test.YtklbkonehcjmjaaPWireNamesx2
namespace Go.Proofs.Ytklbkonehcjmjaa.Pure
open Go.RowKit Go.Proofs.Ytklbkonehcjmjaa.PWireNames Go.Proofs.YtklbkonehcjmjaaW.PrintWords Go.Proofs.YtklbkonehcjmjaaW.PrintLast
set_option linter.unusedSimpArgs false

/-- May the sign c stand at the place i of a name? -/
def sign (i c : Int) : Bool :=
  (decide (97 ≤ c) && decide (c ≤ 122)) || (decide (65 ≤ c) && decide (c ≤ 90)) || (decide (0 < i) && ((decide (48 ≤ c) && decide (c ≤ 57)) || decide (c = 95)))
/-- The last d signs of s may stand there. -/
def tail (s : ByteArray) : Nat → Bool
  | 0 => true
  | d + 1 => sign ((s.size : Int) - (d + 1)) (bt s ((s.size : Int) - (d + 1))) && tail s d

theorem next_of {i : Int} {n : Nat} (h0 : 0 ≤ i) (h : i < (n : Int)) (hn : n ≤ 140737488351232) : wrap64 (i + 1) = i + 1 := by
  unfold wrap64
  omega

theorem wire_tells (s : ByteArray) (hn : s.size ≤ 140737488351232) (d : Nat) : ∀ (k : Nat) (i : Int), 0 ≤ i → i ≤ s.size → (s.size : Int) - i = d → 3 * d < k →
    wire_IsName.l0 k s (s.size : Int) i = some (tail s d) := by
  induction d with
  | zero =>
    intro k i h0 h1 hd hk
    obtain ⟨k, rfl⟩ : ∃ m, k = m + 1 := ⟨k - 1, by omega⟩
    simp only [wire_IsName.l0]; rw [if_neg (by omega)]; rfl
  | succ d ih =>
    intro k i h0 h1 hd hk
    obtain ⟨k, rfl⟩ : ∃ m, k = m + 3 := ⟨k - 3, by omega⟩
    have hlt : i < (s.size : Int) := by omega
    have hi : (s.size : Int) - (d + 1) = i := by omega
    have h := ih k (i + 1) (by omega) (by omega) (by omega) (by omega)
    simp only [wire_IsName.l0, wire_IsName.j2, wire_IsName.j3, tail, hi]
    rw [if_pos hlt, if_pos h0, if_pos hlt, next_of h0 hlt hn]
    have h' : wire_IsName.l0 k s (s.size : Int) (i + 1) = some (tail s d) := h
    rw [h']
    generalize bt s i = c
    generalize tail s d = t
    by_cases a1 : 97 ≤ c <;> by_cases a2 : c ≤ 122 <;> by_cases a3 : 65 ≤ c <;> by_cases a4 : c ≤ 90 <;> by_cases a5 : 0 < i <;> by_cases a6 : 48 ≤ c <;> by_cases a7 : c ≤ 57 <;> by_cases a8 : c = 95 <;> (try omega) <;> simp [sign, a1, a2, a3, a4, a5, a6, a7, a8]

theorem ref_tells (s : ByteArray) (hn : s.size ≤ 140737488351232) (d : Nat) : ∀ (k : Nat) (i : Int), 0 ≤ i → i ≤ s.size → (s.size : Int) - i = d → d < k →
    provisoref01_IsName.l0 k s i = some (tail s d) := by
  induction d with
  | zero =>
    intro k i h0 h1 hd hk
    obtain ⟨k, rfl⟩ : ∃ m, k = m + 1 := ⟨k - 1, by omega⟩
    simp only [provisoref01_IsName.l0]; rw [if_neg (by omega)]; rfl
  | succ d ih =>
    intro k i h0 h1 hd hk
    obtain ⟨k, rfl⟩ : ∃ m, k = m + 1 := ⟨k - 1, by omega⟩
    have hlt : i < (s.size : Int) := by omega
    have hi : (s.size : Int) - (d + 1) = i := by omega
    have h := ih k (i + 1) (by omega) (by omega) (by omega) (by omega)
    simp only [provisoref01_IsName.l0, tail, hi]
    rw [if_pos hlt, if_pos h0, next_of h0 hlt hn, h]
    generalize bt s i = c
    generalize tail s d = t
    by_cases a1 : 97 ≤ c <;> by_cases a2 : c ≤ 122 <;> by_cases a3 : 65 ≤ c <;> by_cases a4 : c ≤ 90 <;> by_cases a5 : i = 0 <;> by_cases a6 : c < 48 <;> by_cases a7 : 57 < c <;> by_cases a8 : c = 95 <;> (try omega) <;> simp [sign, a1, a2, a3, a4, a5, a6, a7, a8] <;> omega

theorem WireNames : provisolaw01_WireNames.Pure := by
  intro s hn
  have h1 := wire_tells s hn s.size (3 * s.size + 1) 0 (by omega) (by omega) (by omega) (by omega)
  have h2 := ref_tells s hn s.size (3 * s.size + 1) 0 (by omega) (by omega) (by omega) (by omega)
  refine ⟨3 * s.size + 2, ?_⟩
  unfold provisolaw01_WireNames.f wire_IsName.f provisoref01_IsName.f
  simp only [wire_IsName.j0, provisoref01_IsName.j0, h1, h2]
  by_cases a1 : (s.size : Int) < 1
  · have a2 : (s.size : Int) = 0 := by omega
    simp [a1, a2]
  · have a2 : ¬ (s.size : Int) = 0 := by omega
    rw [if_neg a1, if_neg a2]
    by_cases a3 : (s.size : Int) > 24 <;> simp [a3]

end Go.Proofs.Ytklbkonehcjmjaa.Pure
