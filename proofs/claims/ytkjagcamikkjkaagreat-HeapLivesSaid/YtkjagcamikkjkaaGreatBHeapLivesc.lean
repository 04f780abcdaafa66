/- Proved: the law HeapLives holds for every input that the row lets in. No condition of ours. -/
import Derived.Test.YtkjagcamikkjkaaGreatBHeapLivesb
import Derived.Test.YtkjagcamikkjkaaGreatProg
import Derived.WalkSpells
import Derived.ChangeKeysEq
import Derived.Deep.MidRow
section
namespace Go.Proofs.YtkjagcamikkjkaaGreat.P
open Go.RowKit Go.Proofs.YtkjagcamikkjkaaGreatW.PrintWords Go.Proofs.YtkjagcamikkjkaaGreatW.PrintLast Go.Proofs.YtkjagcamikkjkaaGreatW.PrintMore
attribute [local go_sem] max2_int min2_int max_two min_two max_three min_three max_four min_four   -- for this text's walks alone
set_option linter.unusedVariables false
set_option linter.unusedSimpArgs false



def errW : Option Int → Value
  | none => .nilIface
  | some c => .iface 28 (.int .i64 c)
theorem errW_none : errW none = .nilIface := rfl
theorem errW_some (c : Int) : errW (some c) = .iface 28 (.int .i64 c) := rfl

theorem info3 : (Tryz.prog.info? 3).map (fun i => (i.zero, i.size, i.bytes)) = some (some (.int .i64 0), 1, 8) := by kernel_rfl
theorem info9 : (Tryz.prog.info? 9).map (fun i => (i.zero, i.size, i.bytes)) = some (some (.string ⟨#[]⟩), 1, 16) := by kernel_rfl
theorem info38 : (Tryz.prog.info? 38).map (fun i => (i.zero, i.size, i.bytes)) = some (some (.agg #[(.string ⟨#[]⟩), (.int .i64 0), (.slice none 0 0)]), 3, 48) := by kernel_rfl
theorem info41 : (Tryz.prog.info? 41).map (fun i => (i.zero, i.size, i.bytes)) = some (some (.agg #[(.string ⟨#[]⟩), (.int .u8 0)]), 2, 24) := by kernel_rfl
structure S41 where
  f0 : ByteArray
  f1 : Int
def z41 : S41 := ⟨(⟨#[]⟩ : ByteArray), (0 : Int)⟩
def k41 : Kd S41 := Kd.iso (Kd.pair Kd.string (Kd.int .u8)) (fun x : S41 => (x.f0, x.f1))
theorem k41_open {w : World} {x : S41} {cs : List Value} (h : k41.K w x cs) : cs = [.string x.f0, .int .u8 x.f1] := by
  obtain ⟨_, _, rfl, rfl, rfl⟩ := h
  exact rfl
theorem k41_openM {w : World} {base : Nat} {ok : Nat → Prop} {x : S41} {cs : List Value} (h : k41.M w base ok x cs) : cs = [.string x.f0, .int .u8 x.f1] := by
  obtain ⟨_, _, rfl, rfl, rfl⟩ := h
  exact rfl
theorem k41_mkM (w : World) (base : Nat) (ok : Nat → Prop) (x : S41)  : k41.M w base ok x [.string x.f0, .int .u8 x.f1] := ⟨[.string x.f0], [.int .u8 x.f1], rfl, rfl, rfl⟩
def rd_T41 (xs : List S41) (i : Int) : S41 := xs.getD i.toNat z41
theorem at_T41 {w : World} {A : Option Addr} {n : Nat} {xs : List S41} (h : Kd.C k41 w A n xs) (i : Int) (h0 : 0 ≤ i) (h1 : i < n) : ∃ ad , A = some ad ∧ w.cell? (ad.add (i.toNat * 2)) = some (.string (rd_T41 xs i).f0) ∧ w.cell? ⟨(ad.add (i.toNat * 2)).block, (ad.add (i.toNat * 2)).off + 1, none⟩ = some (.int .u8 (rd_T41 xs i).f1) := by
  obtain ⟨ad, c, e, _, hK, hc0⟩ := Kd.C_get h z41 i h0 h1
  have hc : ∀ j u, c[j]? = some u → w.cell? (ad.add (i.toNat * 2 + j)) = some u := hc0
  obtain rfl := k41_open hK
  exact ⟨ad, e, hc 0 _ rfl, by rw [← add_field _ _ 1 (by omega)]; exact hc 1 _ rfl⟩

structure S38 where
  f0 : ByteArray
  f1 : Int
  f2 : (List S41)
def z38 : S38 := ⟨(⟨#[]⟩ : ByteArray), (0 : Int), ([] : List S41)⟩
def k38 : Kd S38 := Kd.iso (Kd.pair Kd.string (Kd.pair (Kd.int .i64) (Kd.slice 41 k41))) (fun x : S38 => (x.f0, x.f1, x.f2))
theorem k38_open {w : World} {x : S38} {cs : List Value} (h : k38.K w x cs) : ∃ A2 c2, cs = [.string x.f0, .int .i64 x.f1, .slice A2 x.f2.length c2] ∧ x.f2.length ≤ c2 ∧ k41.C w A2 x.f2.length x.f2 := by
  obtain ⟨_, _, rfl, rfl, ⟨_, _, rfl, rfl, ⟨A2, c2, rfl, l2, g2⟩⟩⟩ := h
  exact ⟨A2, c2, rfl, l2, g2⟩
theorem k38_openM {w : World} {base : Nat} {ok : Nat → Prop} {x : S38} {cs : List Value} (h : k38.M w base ok x cs) : ∃ v2, cs = [.string x.f0, .int .i64 x.f1, v2] ∧ k41.R 41 w base ok v2 x.f2 := by
  obtain ⟨_, _, rfl, rfl, ⟨_, _, rfl, rfl, ⟨v2, rfl, g2⟩⟩⟩ := h
  exact ⟨v2, rfl, g2⟩
theorem k38_mkM (w : World) (base : Nat) (ok : Nat → Prop) (x : S38) {v2 : Value} (g2 : k41.R 41 w base ok v2 x.f2) : k38.M w base ok x [.string x.f0, .int .i64 x.f1, v2] := ⟨[.string x.f0], [.int .i64 x.f1, v2], rfl, rfl, ⟨[.int .i64 x.f1], [v2], rfl, rfl, ⟨v2, rfl, g2⟩⟩⟩
def rd_T38 (xs : List S38) (i : Int) : S38 := xs.getD i.toNat z38
theorem at_T38 {w : World} {A : Option Addr} {n : Nat} {xs : List S38} (h : Kd.C k38 w A n xs) (i : Int) (h0 : 0 ≤ i) (h1 : i < n) : ∃ ad A2 c2, A = some ad ∧ w.cell? (ad.add (i.toNat * 3)) = some (.string (rd_T38 xs i).f0) ∧ w.cell? ⟨(ad.add (i.toNat * 3)).block, (ad.add (i.toNat * 3)).off + 1, none⟩ = some (.int .i64 (rd_T38 xs i).f1) ∧ w.cell? ⟨(ad.add (i.toNat * 3)).block, (ad.add (i.toNat * 3)).off + 2, none⟩ = some (.slice A2 (rd_T38 xs i).f2.length c2) ∧ (rd_T38 xs i).f2.length ≤ c2 ∧ k41.C w A2 (rd_T38 xs i).f2.length (rd_T38 xs i).f2 := by
  obtain ⟨ad, c, e, _, hK, hc0⟩ := Kd.C_get h z38 i h0 h1
  have hc : ∀ j u, c[j]? = some u → w.cell? (ad.add (i.toNat * 3 + j)) = some u := hc0
  obtain ⟨A2, c2, rfl, l2, g2⟩ := k38_open hK
  exact ⟨ad, A2, c2, e, hc 0 _ rfl, by rw [← add_field _ _ 1 (by omega)]; exact hc 1 _ rfl, by rw [← add_field _ _ 2 (by omega)]; exact hc 2 _ rfl, l2, g2⟩

structure S44 where
  f0 : Int
  f1 : Int
  f2 : Int
  f3 : Int
  f4 : (List Int)
def z44 : S44 := ⟨(0 : Int), (0 : Int), (0 : Int), (0 : Int), ([] : List Int)⟩
def k44 : Kd S44 := Kd.iso (Kd.pair (Kd.int .i64) (Kd.pair (Kd.int .i64) (Kd.pair (Kd.int .i64) (Kd.pair (Kd.int .i64) (Kd.slice 3 (Kd.int .i64)))))) (fun x : S44 => (x.f0, x.f1, x.f2, x.f3, x.f4))
theorem k44_open {w : World} {x : S44} {cs : List Value} (h : k44.K w x cs) : ∃ A4 c4, cs = [.int .i64 x.f0, .int .i64 x.f1, .int .i64 x.f2, .int .i64 x.f3, .slice A4 x.f4.length c4] ∧ x.f4.length ≤ c4 ∧ (Kd.int .i64).C w A4 x.f4.length x.f4 := by
  obtain ⟨_, _, rfl, rfl, ⟨_, _, rfl, rfl, ⟨_, _, rfl, rfl, ⟨_, _, rfl, rfl, ⟨A4, c4, rfl, l4, g4⟩⟩⟩⟩⟩ := h
  exact ⟨A4, c4, rfl, l4, g4⟩
def rd_T44 (xs : List S44) (i : Int) : S44 := xs.getD i.toNat z44
theorem at_T44 {w : World} {A : Option Addr} {n : Nat} {xs : List S44} (h : Kd.C k44 w A n xs) (i : Int) (h0 : 0 ≤ i) (h1 : i < n) : ∃ ad A4 c4, A = some ad ∧ w.cell? (ad.add (i.toNat * 5)) = some (.int .i64 (rd_T44 xs i).f0) ∧ w.cell? ⟨(ad.add (i.toNat * 5)).block, (ad.add (i.toNat * 5)).off + 1, none⟩ = some (.int .i64 (rd_T44 xs i).f1) ∧ w.cell? ⟨(ad.add (i.toNat * 5)).block, (ad.add (i.toNat * 5)).off + 2, none⟩ = some (.int .i64 (rd_T44 xs i).f2) ∧ w.cell? ⟨(ad.add (i.toNat * 5)).block, (ad.add (i.toNat * 5)).off + 3, none⟩ = some (.int .i64 (rd_T44 xs i).f3) ∧ w.cell? ⟨(ad.add (i.toNat * 5)).block, (ad.add (i.toNat * 5)).off + 4, none⟩ = some (.slice A4 (rd_T44 xs i).f4.length c4) ∧ (rd_T44 xs i).f4.length ≤ c4 ∧ (Kd.int .i64).C w A4 (rd_T44 xs i).f4.length (rd_T44 xs i).f4 := by
  obtain ⟨ad, c, e, _, hK, hc0⟩ := Kd.C_get h z44 i h0 h1
  have hc : ∀ j u, c[j]? = some u → w.cell? (ad.add (i.toNat * 5 + j)) = some u := hc0
  obtain ⟨A4, c4, rfl, l4, g4⟩ := k44_open hK
  exact ⟨ad, A4, c4, e, hc 0 _ rfl, by rw [← add_field _ _ 1 (by omega)]; exact hc 1 _ rfl, by rw [← add_field _ _ 2 (by omega)]; exact hc 2 _ rfl, by rw [← add_field _ _ 3 (by omega)]; exact hc 3 _ rfl, by rw [← add_field _ _ 4 (by omega)]; exact hc 4 _ rfl, l4, g4⟩

end Go.Proofs.YtkjagcamikkjkaaGreat.P

end

section
namespace Go.Proofs.YtkjagcamikkjkaaGreat.P
open Go.RowKit Go.Proofs.YtkjagcamikkjkaaGreatW.PrintWords Go.Proofs.YtkjagcamikkjkaaGreat.Sees

def Ok41 (x : S41) : Prop := (fun s : ByteArray => s.size ≤ 140737488351232) x.f0 ∧ (fun n : Int => (Lit.int .u8 n).wf = true) x.f1
theorem sees41 : Sees Tryz.prog 41 k41 Ok41 := sees_struct (fun x : S41 => (x.f0, x.f1)) (fun y => ⟨y.1, y.2⟩) (fun _ => rfl) Tryz.underlying41 (by kernel_rfl) (sees_more rfl (by kernel_rfl) (sees_string Tryz.underlying9) (sees_last rfl (by kernel_rfl) (sees_int Tryz.underlying39)))
def Ok38 (x : S38) : Prop := (fun s : ByteArray => s.size ≤ 140737488351232) x.f0 ∧ (fun n : Int => (Lit.int .i64 n).wf = true) x.f1 ∧ (fun l : List (S41) => l.length ≤ 9223372036854775807 ∧ l.length * 24 ≤ 140737488351232 ∧ ∀ x ∈ l, Ok41 x) x.f2
theorem sees38 : Sees Tryz.prog 38 k38 Ok38 := sees_struct (fun x : S38 => (x.f0, x.f1, x.f2)) (fun y => ⟨y.1, y.2.1, y.2.2⟩) (fun _ => rfl) Tryz.underlying38 (by kernel_rfl) (sees_more rfl (by kernel_rfl) (sees_string Tryz.underlying9) (sees_more rfl (by kernel_rfl) (sees_int Tryz.underlying3) (sees_last rfl (by kernel_rfl) (sees_slice (B := 24) Tryz.underlying36 (by kernel_rfl) (by kernel_rfl) sees41))))
def Ok44 (x : S44) : Prop := (fun n : Int => (Lit.int .i64 n).wf = true) x.f0 ∧ (fun n : Int => (Lit.int .i64 n).wf = true) x.f1 ∧ (fun n : Int => (Lit.int .i64 n).wf = true) x.f2 ∧ (fun n : Int => (Lit.int .i64 n).wf = true) x.f3 ∧ (fun l : List (Int) => l.length ≤ 9223372036854775807 ∧ l.length * 8 ≤ 140737488351232 ∧ ∀ x ∈ l, (fun n : Int => (Lit.int .i64 n).wf = true) x) x.f4
theorem sees44 : Sees Tryz.prog 44 k44 Ok44 := sees_struct (fun x : S44 => (x.f0, x.f1, x.f2, x.f3, x.f4)) (fun y => ⟨y.1, y.2.1, y.2.2.1, y.2.2.2.1, y.2.2.2.2⟩) (fun _ => rfl) Tryz.underlying44 (by kernel_rfl) (sees_more rfl (by kernel_rfl) (sees_int Tryz.underlying3) (sees_more rfl (by kernel_rfl) (sees_int Tryz.underlying3) (sees_more rfl (by kernel_rfl) (sees_int Tryz.underlying3) (sees_more rfl (by kernel_rfl) (sees_int Tryz.underlying3) (sees_last rfl (by kernel_rfl) (sees_slice (B := 8) Tryz.underlying42 (by kernel_rfl) (by kernel_rfl) (sees_int Tryz.underlying3)))))))
end Go.Proofs.YtkjagcamikkjkaaGreat.P

end

section
namespace Go.Proofs.YtkjagcamikkjkaaGreat.P
open Go.RowKit Go.Proofs.YtkjagcamikkjkaaGreatW.PrintWords Go.Proofs.YtkjagcamikkjkaaGreatW.PrintLast Go.Proofs.YtkjagcamikkjkaaGreatW.PrintMore
attribute [local go_sem] max2_int min2_int max_two min_two max_three min_three max_four min_four   -- for this text's walks alone
set_option linter.unusedVariables false
set_option linter.unusedSimpArgs false

def api_Field.f (l0 : List S41) : Option (List S41) := if l0.length < 5864062014805 then some l0 else none
set_option maxHeartbeats 800000 in
set_option maxRecDepth 100000 in
theorem api_Field.calls (A0 : Option Addr) (c0 : Nat) (l0 : List S41) (r : List S41) (w : World) (hr0 : Kd.C k41 w A0 l0.length l0) (hc0 : l0.length ≤ c0) (h : api_Field.f l0 = some r) :
    Calls Tryz.prog 10 #[.slice A0 l0.length c0] w fun e w' => ∃ v0_ : Value, e = .returned v0_ ∧ Kd.R k41 41 w' w.heap.size (fun _ => True) v0_ r ∧ Below w.heap.size w w' := by
  obtain ⟨hlim, rfl⟩ : l0.length < 5864062014805 ∧ r = l0 := by
    unfold api_Field.f at h
    split at h
    · rename_i h9
      exact ⟨h9, (Option.some.inj h).symm⟩
    · cases h
  have hnil := Lib.run_eql_slice_nil (P := Tryz.prog) (h := Tryz.underlying36)
  have HR := Aside0.mk hr0
  have HL := Aside0.mk hlim
  cases A0 with
  | none =>
    have e0 : r = [] := by
      rcases Nat.eq_zero_or_pos r.length with h0 | h0
      · exact List.length_eq_zero_iff.1 h0
      · obtain ⟨ad, e, _⟩ := hr0.2.2 h0
        cases e
    have E0 := Aside0.mk e0
    clear h hr0 hlim e0
    go_enter Tryz.func10, Tryz.ntmps10
    go_wp2
    go_ret
    refine ⟨_, rfl, ?_, Below.refl _ _⟩
    rw [E0.out]
    exact Kd.R_nil _ _ _ _ _
  | some ad =>
    clear h hr0 hlim
    go_enter Tryz.func10, Tryz.ntmps10
    go_wp2_with (first | ((with_reducible refine gate_dst (N := 5) rfl ?_); refine Kd.R_lit k41 _ 41 ?hg (N := 5) ?hd (xs := ([] : List S41)) (inner := []) (ok := fun _ => True) (okp := fun _ => True) ?hr ?hp (fun _ hk => hk) trivial (Below.refl _ _) (Nat.le_refl _) (by simp) ?_; (case hd => rfl); (case hg => rfl); (case hr => first | (go_simp; done) | (go_simp; rfl)); (case hp => exact (Reps.none _ _)); intro v1 w1 ho1 hb1 _ _; have n1 := Aside0.mk ho1; have n2 := Aside0.mk hb1; clear ho1 hb1; obtain ⟨A1, c1, e1⟩ := Kd.R_slice n1.out; subst e1) | ((with_reducible refine gate_builtin (b := .append) (xs := #[.tmp 5, .tmp 6]) rfl ?_); at_builtin; refine Kd.R_append_rows k41 (w0 := w) w.heap.size rfl (.tmp 5) (.tmp 6) 36 41 (.agg #[(.string ⟨#[]⟩), (.int .u8 0)]) 24 rfl Tryz.underlying36 info41 rfl (by decide) (by omega) (.slice A1 (([] : List S41)).length c1) ([] : List S41) r _ _ _ (fun _ => True) (fun _ => False) rfl rfl ?aO ?aR (fun _ _ h => h) (fun _ h => h.elim) ?aF ?aB ?aS ?aL ?_; (case aR => exact Kd.C_below HR.out n2.out); (case aB => exact n2.out); (case aF => exact (fun _ _ => trivial)); (case aO => exact n1.out); (case aS => exact n2.out.size); (case aL => have h9 := HL.out; simp only [List.length_nil]; omega); intro v2 w2 ho2 hb2 _ _; have n3 := Aside0.mk ho2; have n4 := Aside0.mk hb2; clear ho2 hb2))
    go_ret
    exact ⟨_, rfl, n3.out, n4.out⟩

def provisoplain_Classes.l0 : Nat → List (S38) → List (S38) → Int → Int → Option ((List (S38)))
  | 0, _, _, _, _ => none
  | k + 1, x3, x6, x7, x8 => if x8 < x7 then (if 0 ≤ x8 then (if x8 < (x6.length : Int) then ((api_Field.f ((rd_T38 x6 x8).f2)).bind fun t103 => (if x3.length < 2932031007402 then (provisoplain_Classes.l0 k (x3 ++ [(⟨(rd_T38 x6 x8).f0, (rd_T38 x6 x8).f1, t103⟩ : S38)]) x6 x7 (wrap64 (x8 + 1))) else (none))) else (none)) else (none)) else (some x3)
def provisoplain_Classes.f (k : Nat) (l0 : List (S38)) : Option ((List (S38))) := provisoplain_Classes.l0 k ([] : List (S38)) l0 (l0.length : Int) 0
set_option maxHeartbeats 8000000 in
set_option maxRecDepth 100000 in
theorem provisoplain_Classes.calls (k : Nat) (A0 : Option Addr) (c0 : Nat) (l0 : List (S38)) (r : List (S38)) (w : World) (hr0 : Kd.C k38 w A0 l0.length l0) (hc0 : l0.length ≤ c0) (h : provisoplain_Classes.f k l0 = some r) :
    Calls Tryz.prog 4 #[.slice A0 l0.length c0] w fun e w' => ∃ v0_ : Value, e = .returned (v0_) ∧ Kd.S k38 38 w' w.heap.size (fun _ => True) v0_ r ∧ Below w.heap.size w w' := by
  have hu38 := Tryz.underlying38
  have HR0 := Aside0.mk hr0
  have HC0 := Aside0.mk hc0
  clear hr0 hc0
  have HB := Aside0.mk (Below.refl w.heap.size w)
  have H : (provisoplain_Classes.l0 k ([] : List (S38)) l0 (l0.length : Int) 0) = some r := h
  clear h
  have H' := Aside0.mk H
  clear H
  go_enter Tryz.func4, Tryz.ntmps4
  go_wp2
  go_loopg [3, 8] k (fun kq v3 v8 w' => ∃ (x3_1 : List (S38)) (x8_1 : Int), v8 = .int .i64 x8_1 ∧ Aside0 (provisoplain_Classes.l0 kq x3_1 l0 (l0.length : Int) x8_1 = some r) ∧ Aside0 (kq ≤ k) ∧ Aside0 (Kd.S k38 38 w' w.heap.size (fun _ => True) v3 x3_1) ∧ Aside0 (Below w.heap.size w w'))
  case atStart => exact ⟨(([] : List (S38))), (0), (by first | rfl | (simp; done) | (simp [*]; done)), H', ⟨Nat.le_refl _⟩, ⟨by first | exact Kd.S_nil _ _ _ _ _ | exact Kd.N_nil _ _ _ _ _ | exact Kd.V_nil _ _ _ _ _ | exact Kd.Q_nil _ _ _ _ _ | exact Kd.R_nil _ _ _ _ _⟩, ⟨by repeat (first | (with_reducible first | exact HB.out | apply below_alloc | apply pw_below_drewN | apply below_drew1) | exact HB.out)⟩⟩
  case round =>
    clear H'
    obtain ⟨x3_1, x8_1, rfl, HA, HK1, HO_3, HB⟩ := hrel
    cases gk with
    | zero => exact absurd HA.out (by simp [provisoplain_Classes.l0])
    | succ k1 =>
      have H := HA.out
      clear HA
      simp only [provisoplain_Classes.l0] at H
      by_cases c2 : x8_1 < (l0.length : Int)
      · rw [if_pos c2] at H
        have c2b0 : decide (x8_1 < (l0.length : Int)) = true := decide_eq_true c2
        clear c2
        by_cases c3 : 0 ≤ x8_1
        · rw [if_pos c3] at H
          have c3b0 : decide (0 ≤ x8_1) = true := decide_eq_true c3
          clear c3
          by_cases c4 : x8_1 < (l0.length : Int)
          · rw [if_pos c4] at H
            have c4b0 : decide (x8_1 < (l0.length : Int)) = true := decide_eq_true c4
            clear c4
            replace H := Option.bind_eq_some_iff.mp H
            obtain ⟨t103, A50, H⟩ := H
            replace H : (if x3_1.length < 2932031007402 then (provisoplain_Classes.l0 k1 (x3_1 ++ [(⟨(rd_T38 l0 x8_1).f0, (rd_T38 l0 x8_1).f1, t103⟩ : S38)]) l0 (l0.length : Int) (wrap64 (x8_1 + 1))) else (none)) = some r := H
            have A5 := Aside0.mk A50
            clear A50
            by_cases c6 : x3_1.length < 2932031007402
            · rw [if_pos c6] at H
              have LMc6 := Aside0.mk c6
              clear c6
              obtain ⟨y106, hy106⟩ : ∃ y_ : List (S38), y_ = (x3_1 ++ [(⟨(rd_T38 l0 x8_1).f0, (rd_T38 l0 x8_1).f1, t103⟩ : S38)]) := ⟨_, rfl⟩
              replace H : (provisoplain_Classes.l0 k1 y106 l0 (l0.length : Int) (wrap64 (x8_1 + 1))) = some r := by first | (rw [hy106]; with_reducible exact H) | (have H2_ := (Option.bind_some _ _).symm.trans H; rw [hy106]; with_reducible exact H2_) | (have H2_ := (Option.bind_some _ _).symm.trans H; with_reducible exact H2_) | with_reducible exact H | (rw [hy106]; exact H) | exact H
              have Ny106 := Aside0.mk hy106
              clear hy106
              have H' := Aside0.mk H
              clear H
              have p101 : 0 ≤ (x8_1 : Int) := of_decide_eq_true (by first | (with_reducible assumption) | assumption)
              have q101 : x8_1 < (l0.length : Int) := of_decide_eq_true (by first | (with_reducible assumption) | assumption)
              obtain ⟨ad101, A101_2, c101_2, e101, hx101_0, hx101_1, hx101_2, hl101_2, hi101_2⟩ := at_T38 HR0.out x8_1 p101 q101
              cases e101
              replace hx101_0 := (HB.out.cell (World.block_lt_of_cell? w _ hx101_0)).trans hx101_0
              replace hx101_1 := (HB.out.cell (World.block_lt_of_cell? w _ hx101_1)).trans hx101_1
              replace hx101_2 := (HB.out.cell (World.block_lt_of_cell? w _ hx101_2)).trans hx101_2
              have HR101_2 := Aside0.mk hi101_2
              have HC101_2 := Aside0.mk hl101_2
              clear hi101_2 hl101_2
              replace p101 := eq_true p101
              replace q101 := eq_true q101
              go_wp2_with (first | ((with_reducible refine gate_dst (N := 5) rfl ?_); refine box_event ?hg (N := 5) ?hd (cs := #[.string (⟨#[]⟩ : ByteArray), .int .i64 0, .slice none 0 0]) (t := 38) ?hr ?_; (case hd => rfl); (case hg => rfl); (case hr => first | (go_simp; done) | (go_simp; rfl)); intro gb102 hg w7 hbox hb; have n0_ := Aside0.mk (Kd.S_below (Kd.S_elderB (by (with_reducible repeat (first | apply Kd.S_alloc | apply Kd.S_drewN | apply Kd.S_drew)); exact HO_3.out) gb102 (Nat.le_of_eq hg.symm)) hb); have n1_ := Aside0.mk (below_step (by repeat (first | (with_reducible first | exact HB.out | apply below_alloc | apply pw_below_drewN | apply below_drew1) | exact HB.out)) hb); have n2_ := Aside0.mk (hbox); have n3_ := Aside0.mk ((by rw [hg]; exact (below_size (by repeat (first | (with_reducible first | exact HB.out | apply below_alloc | apply pw_below_drewN | apply below_drew1) | exact HB.out))) : w.heap.size ≤ gb102)); have n4_ := Aside0.mk ((by rw [hg]; exact (below_size (by repeat (first | (with_reducible first | exact HB.out | apply below_alloc | apply pw_below_drewN | apply below_drew1) | exact HB.out))) : w.heap.size ≤ gb102)); clear HO_3; clear HB; have HO_3 := n0_; have HB := n1_; have BK102 := n2_; have GW102 := n3_; have GE102 := n4_; clear n0_ n1_ n2_ n3_ n4_; clear hb hbox hg; have hcz8_0 : w7.cell? ⟨gb102, 0, none⟩ = some (.string (⟨#[]⟩ : ByteArray)) := (blk_cell BK102.out 0).trans rfl; have hcz8_1 : w7.cell? ⟨gb102, 1, none⟩ = some (.int .i64 0) := (blk_cell BK102.out 1).trans rfl; have hcz8_2 : w7.cell? ⟨gb102, 2, none⟩ = some (.slice none 0 0) := (blk_cell BK102.out 2).trans rfl; have hfz8_0 := blk_frozen BK102.out 0; have hfz8_1 := blk_frozen BK102.out 1; have hfz8_2 := blk_frozen BK102.out 2) | ((with_reducible refine gate_callee (f := 10) rfl ?_); refine goesL_ (some 14) rfl rfl Tryz.func10 (by kernel_rfl) rfl #[.slice A101_2 ((rd_T38 l0 x8_1).f2).length c101_2] rfl (by (try simp only [List.map_toArray, List.map_cons, List.map_nil]); first | done | rfl | (simp only [List.length_drop, List.length_take]; rfl)) ?_; (with_reducible refine (api_Field.calls _ _ ((rd_T38 l0 x8_1).f2) t103 _ ?side1 ?side2 A5.out).mono ?_); (case side1 => exact Kd.C_below HR101_2.out (by repeat (first | (with_reducible first | exact HB.out | apply below_alloc | apply pw_below_drewN | apply below_drew1 | refine below_set ?_ GE102.out) | exact HB.out))); (case side2 => exact HC101_2.out); rintro e w9 ⟨v104, rfl, ho0, hb⟩; refine ⟨_, rfl, ?_⟩; have n0_ := Aside0.mk (Kd.S_elder' (by (with_reducible repeat (first | apply Kd.S_alloc | apply Kd.S_drewN | apply Kd.S_drew)); exact (Kd.S_mono (Kd.S_far (p := ⟨gb102, 2, none⟩) (Kd.S_far (p := ⟨gb102, 1, none⟩) (Kd.S_far (p := ⟨gb102, 0, none⟩) (Kd.S_mono HO_3.out (fun k_ hk => (⟨hk, hk.2⟩ : _ ∧ k_ ≠ gb102))) (fun _ hk => hk.2) (.string ((rd_T38 l0 x8_1).f0))) (fun _ hk => hk.2) (.int .i64 ((rd_T38 l0 x8_1).f1))) (fun _ hk => hk.2) (.slice A101_2 ((rd_T38 l0 x8_1).f2).length c101_2)) (fun _ h_ => h_.1))) (Kd.R_base ho0) hb); have n1_ := Aside0.mk (Kd.R_lower ho0 (below_size (by repeat (first | (with_reducible first | exact HB.out | apply below_alloc | apply pw_below_drewN | apply below_drew1 | refine below_set ?_ GE102.out) | exact HB.out)))); have n2_ := Aside0.mk (blk_below (g := gb102) (o := .cells #[.string ((rd_T38 l0 x8_1).f0), .int .i64 ((rd_T38 l0 x8_1).f1), .slice A101_2 ((rd_T38 l0 x8_1).f2).length c101_2] 38 (0, 0)) (by (with_reducible repeat (first | refine blk_drewN ?_ _ | refine blk_drew ?_ | refine blk_alloc ?_ _)); refine blk_put (cs := #[.string ((rd_T38 l0 x8_1).f0), .int .i64 ((rd_T38 l0 x8_1).f1), .slice none 0 0]) ?_ 2 _ rfl; (with_reducible repeat (first | refine blk_drewN ?_ _ | refine blk_drew ?_ | refine blk_alloc ?_ _)); refine blk_put (cs := #[.string ((rd_T38 l0 x8_1).f0), .int .i64 0, .slice none 0 0]) ?_ 1 _ rfl; (with_reducible repeat (first | refine blk_drewN ?_ _ | refine blk_drew ?_ | refine blk_alloc ?_ _)); refine blk_put (cs := #[.string (⟨#[]⟩ : ByteArray), .int .i64 0, .slice none 0 0]) ?_ 0 _ rfl; (with_reducible repeat (first | refine blk_drewN ?_ _ | refine blk_drew ?_ | refine blk_alloc ?_ _)); exact BK102.out) hb); have n3_ := Aside0.mk (below_step (by repeat (first | (with_reducible first | exact HB.out | apply below_alloc | apply pw_below_drewN | apply below_drew1 | refine below_set ?_ GE102.out) | exact HB.out)) hb); clear HO_3; clear BK102; clear HB; have HO_3 := n0_; have HO105 := n1_; have BK102 := n2_; have HB := n3_; clear n0_ n1_ n2_ n3_; (try clear hb); (try clear hb2); (try clear hk); (try clear hi); (try clear ho0); obtain ⟨Ao10, co10, eo10⟩ := Kd.R_slice HO105.out; subst eo10; have hcz11_0 : w9.cell? ⟨gb102, 0, none⟩ = some (.string ((rd_T38 l0 x8_1).f0)) := (blk_cell BK102.out 0).trans rfl; have hcz11_1 : w9.cell? ⟨gb102, 1, none⟩ = some (.int .i64 ((rd_T38 l0 x8_1).f1)) := (blk_cell BK102.out 1).trans rfl; have hcz11_2 : w9.cell? ⟨gb102, 2, none⟩ = some (.slice A101_2 ((rd_T38 l0 x8_1).f2).length c101_2) := (blk_cell BK102.out 2).trans rfl; have hfz11_0 := blk_frozen BK102.out 0; have hfz11_1 := blk_frozen BK102.out 1; have hfz11_2 := blk_frozen BK102.out 2) | ((with_reducible refine gate_store (t := 36) (p := 15) rfl ?_); refine store_event (t := 36) (p := 15) (v := ?vo_w12) (w1 := (w9.setCell ⟨gb102, 2, none⟩ (.slice Ao10 t103.length co10))) ?hg ?ho ?hn ?hr ?_; (case ho => rfl); (case hg => rfl); (case hn => rfl); (case hr => first | (go_simp; done) | (go_simp; rfl)); intro w12 hw; have n0_ : Aside0 (Kd.S k38 38 w12 w.heap.size (fun k_ => some k_ ≠ (.slice Ao10 t103.length co10 : Value).ownBlock ∧ k_ ≠ gb102) u3 x3_1) := ⟨(by rw [hw]; exact (by (with_reducible repeat (first | apply Kd.S_alloc | apply Kd.S_drewN | apply Kd.S_drew)); exact Kd.S_mono (Kd.S_far (p := ⟨gb102, 2, none⟩) (Kd.S_mono HO_3.out (fun k_ hk => (⟨hk, hk.1.2⟩ : _ ∧ k_ ≠ gb102))) (fun _ hk => hk.2) (.slice Ao10 t103.length co10)) (fun _ hk => ⟨hk.1.2, hk.1.1.2⟩)))⟩; have n1_ : Aside0 (Kd.R k41 41 w12 w.heap.size (fun _ => True) (.slice Ao10 t103.length co10) t103) := ⟨(by rw [hw]; exact (by (with_reducible repeat (first | apply Kd.R_alloc | apply Kd.R_drewN | apply Kd.R_drew)); exact Kd.R_mono (Kd.R_far (p := ⟨gb102, 2, none⟩) (Kd.R_types HO105.out BK102.out (by decide)) (fun _ hk => hk.2) (.slice Ao10 t103.length co10)) (fun _ hk => trivial)))⟩; have n2_ : Aside0 (w12.heap[gb102]? = some (.cells #[.string ((rd_T38 l0 x8_1).f0), .int .i64 ((rd_T38 l0 x8_1).f1), .slice Ao10 t103.length co10] 38 (0, 0))) := ⟨(by rw [hw]; exact (by (with_reducible repeat (first | refine blk_drewN ?_ _ | refine blk_drew ?_ | refine blk_alloc ?_ _)); refine blk_put (cs := #[.string ((rd_T38 l0 x8_1).f0), .int .i64 ((rd_T38 l0 x8_1).f1), .slice A101_2 ((rd_T38 l0 x8_1).f2).length c101_2]) ?_ 2 _ rfl; (with_reducible repeat (first | refine blk_drewN ?_ _ | refine blk_drew ?_ | refine blk_alloc ?_ _)); exact BK102.out))⟩; have n3_ : Aside0 (Below w.heap.size w w12) := ⟨(by rw [hw]; exact (by repeat (first | (with_reducible first | exact HB.out | apply below_alloc | apply pw_below_drewN | apply below_drew1 | refine below_set ?_ GE102.out) | exact HB.out)))⟩; clear hw; clear HO_3; clear HO105; clear BK102; clear HB; have HO_3 := n0_; have HO105 := n1_; have BK102 := n2_; have HB := n3_; clear n0_ n1_ n2_ n3_; have hcz13_0 : w12.cell? ⟨gb102, 0, none⟩ = some (.string ((rd_T38 l0 x8_1).f0)) := (blk_cell BK102.out 0).trans rfl; have hcz13_1 : w12.cell? ⟨gb102, 1, none⟩ = some (.int .i64 ((rd_T38 l0 x8_1).f1)) := (blk_cell BK102.out 1).trans rfl; have hcz13_2 : w12.cell? ⟨gb102, 2, none⟩ = some (.slice Ao10 t103.length co10) := (blk_cell BK102.out 2).trans rfl; have hfz13_0 := blk_frozen BK102.out 0; have hfz13_1 := blk_frozen BK102.out 1; have hfz13_2 := blk_frozen BK102.out 2) | ((with_reducible refine gate_builtin (b := .append) (xs := #[.tmp 16, .tmp 18]) rfl ?_); at_builtin; refine Kd.S_append k38 (w0 := w) w.heap.size rfl (.tmp 16) (.tmp 18) 22 38 (.agg #[(.string ⟨#[]⟩), (.int .i64 0), (.slice none 0 0)]) 48 rfl Tryz.underlying22 info38 rfl (by decide) (by omega) u3 x3_1 (⟨(rd_T38 l0 x8_1).f0, (rd_T38 l0 x8_1).f1, t103⟩ : S38) [.string ((rd_T38 l0 x8_1).f0), .int .i64 ((rd_T38 l0 x8_1).f1), .slice Ao10 t103.length co10] (fun k_ => k_ ≠ gb102) (fun k_ => some k_ = (.slice Ao10 t103.length co10 : Value).ownBlock) rfl rfl ?aP (fun k_ hk_ => ((Kd.R_mono (ok' := fun k_ => ((fun k_ => k_ ≠ gb102)) k_ ∧ some k_ ≠ (u3 : Value).ownBlock) (Kd.R_types (Kd.R_apart' (HO105.out) (Kd.S_typed HO_3.out) (by decide)) BK102.out (by decide)) (fun k_ hk => ⟨hk.2, hk.1.2⟩))).1 k_ hk_.symm) ?aF ?aO ?aB ?aS ?aL ?_; (case aP => exact k38_mkM _ _ _ (⟨(rd_T38 l0 x8_1).f0, (rd_T38 l0 x8_1).f1, t103⟩ : S38) (Kd.R_mono (Kd.R_tight rfl (Kd.R_mono (ok' := fun k_ => ((fun k_ => k_ ≠ gb102)) k_ ∧ some k_ ≠ (u3 : Value).ownBlock) (Kd.R_types (Kd.R_apart' (HO105.out) (Kd.S_typed HO_3.out) (by decide)) BK102.out (by decide)) (fun k_ hk => ⟨hk.2, hk.1.2⟩))) (fun _ h_ => h_))); (case aB => exact (by repeat (first | (with_reducible first | exact HB.out | apply below_alloc | apply pw_below_drewN | apply below_drew1 | refine below_set ?_ GE102.out) | exact HB.out))); (case aF => exact (fun k_ hk => Kd.freshB (g := gb102) (o := .cells #[.string ((rd_T38 l0 x8_1).f0), .int .i64 ((rd_T38 l0 x8_1).f1), .slice Ao10 t103.length co10] 38 (0, 0)) (by (with_reducible repeat (first | refine blk_drewN ?_ _ | refine blk_drew ?_ | refine blk_alloc ?_ _)); exact BK102.out) k_ hk)); (case aO => exact (by (with_reducible repeat (first | apply Kd.S_alloc | apply Kd.S_drewN | apply Kd.S_drew)); exact Kd.S_mono HO_3.out (fun k_ hk => ⟨hk.2, fun e_ => hk.1 e_⟩))); (case aS => exact (below_size (by repeat (first | (with_reducible first | exact HB.out | apply below_alloc | apply pw_below_drewN | apply below_drew1 | refine below_set ?_ GE102.out) | exact HB.out)))); (case aL => have := LMc6.out; omega); intro v107 w14 ho hb hg hat; rw [← Ny106.out] at ho; have n0_ := Aside0.mk (blk_grown (g := gb102) (o := .cells #[.string ((rd_T38 l0 x8_1).f0), .int .i64 ((rd_T38 l0 x8_1).f1), .slice Ao10 t103.length co10] 38 (0, 0)) (by (with_reducible repeat (first | refine blk_drewN ?_ _ | refine blk_drew ?_ | refine blk_alloc ?_ _)); exact BK102.out) hg (Kd.S_away HO_3.out (fun _ hk => hk.2))); have n1_ := Aside0.mk (hb); have n2_ := Aside0.mk (ho); clear BK102; clear HB; clear HO_3; clear HO105; have BK102 := n0_; have HB := n1_; have HO108 := n2_; clear n0_ n1_ n2_; clear ho hb hg hat))
              go_roundg k1
              case measure => have := HK1.out; omega
              case rel => exact ⟨(y106), (wrap64 (x8_1 + 1)), (by first | rfl | (simp; done) | (simp [*]; done)), H', ⟨by have := HK1.out; omega⟩, ⟨by (with_reducible repeat (first | apply Kd.S_alloc | apply Kd.S_drewN | apply Kd.S_drew)); exact Kd.S_mono HO108.out (fun _ hk => trivial)⟩, ⟨by repeat (first | (with_reducible first | exact HB.out | apply below_alloc | apply pw_below_drewN | apply below_drew1 | refine below_set ?_ GE102.out) | exact HB.out)⟩⟩
            · rw [if_neg c6] at H
              exact absurd H (by simp)
          · rw [if_neg c4] at H
            exact absurd H (by simp)
        · rw [if_neg c3] at H
          exact absurd H (by simp)
      · rw [if_neg c2] at H
        have c2b0 : decide (x8_1 < (l0.length : Int)) = false := decide_eq_false c2
        clear c2
        obtain rfl := Option.some.inj H
        go_wp2
        go_ret
        exact ⟨_, by first | rfl | (simp [errW_none, errW_some] <;> rfl) | (simp [*, errW_none, errW_some] <;> rfl), by (with_reducible repeat (first | apply Kd.S_alloc | apply Kd.S_drewN | apply Kd.S_drew)); exact HO_3.out, by repeat (first | (with_reducible first | exact HB.out | apply below_alloc | apply pw_below_drewN | apply below_drew1) | exact HB.out)⟩

mutual
def wire_IsName.j0 : Nat → ByteArray → Bool → Option (Bool)
  | 0, _, _ => none
  | k + 1, x0, x12 => if x12 = true then (some false) else (wire_IsName.l0 k x0 (x0.size : Int) 0)
def wire_IsName.l0 : Nat → ByteArray → Int → Int → Option (Bool)
  | 0, _, _, _ => none
  | k + 1, x0, x14, x15 => if x15 < x14 then (if 0 ≤ x15 then (if x15 < (x0.size : Int) then (if (bt x0 x15) ≥ 97 then (wire_IsName.j2 k x0 x15 (bt x0 x15) x14 x15 (decide ((bt x0 x15) ≤ 122))) else (wire_IsName.j2 k x0 x15 (bt x0 x15) x14 x15 false)) else (none)) else (none)) else (some true)
def wire_IsName.j2 : Nat → ByteArray → Int → Int → Int → Int → Bool → Option (Bool)
  | 0, _, _, _, _, _, _ => none
  | k + 1, x0, x3, x4, x14, x15, x21 => if x21 = true then (wire_IsName.j3 k x0 x3 x4 x14 x15 x21) else (if x4 ≥ 65 then (wire_IsName.j3 k x0 x3 x4 x14 x15 (decide (x4 ≤ 90))) else (wire_IsName.j3 k x0 x3 x4 x14 x15 false))
def wire_IsName.j3 : Nat → ByteArray → Int → Int → Int → Int → Bool → Option (Bool)
  | 0, _, _, _, _, _, _ => none
  | k + 1, x0, x3, x4, x14, x15, x21 => if x21 = true then (wire_IsName.l0 k x0 x14 (wrap64 (x15 + 1))) else (if x3 > 0 then (if x4 ≥ 48 then (if x4 ≤ 57 then (wire_IsName.l0 k x0 x14 (wrap64 (x15 + 1))) else (if x4 = 95 then (wire_IsName.l0 k x0 x14 (wrap64 (x15 + 1))) else (some false))) else (if x4 = 95 then (wire_IsName.l0 k x0 x14 (wrap64 (x15 + 1))) else (some false))) else (some false))
end
def wire_IsName.f (k : Nat) (a0 : ByteArray) : Option (Bool) := if (a0.size : Int) = 0 then (wire_IsName.j0 k a0 true) else (wire_IsName.j0 k a0 (decide ((a0.size : Int) > 24)))
theorem wire_IsName.mono_l : ∀ k, (∀ y0 y1, LeO (wire_IsName.j0 k y0 y1) (wire_IsName.j0 (k + 1) y0 y1)) ∧ (∀ y0 y1 y2, LeO (wire_IsName.l0 k y0 y1 y2) (wire_IsName.l0 (k + 1) y0 y1 y2)) ∧ (∀ y0 y1 y2 y3 y4 y5, LeO (wire_IsName.j2 k y0 y1 y2 y3 y4 y5) (wire_IsName.j2 (k + 1) y0 y1 y2 y3 y4 y5)) ∧ (∀ y0 y1 y2 y3 y4 y5, LeO (wire_IsName.j3 k y0 y1 y2 y3 y4 y5) (wire_IsName.j3 (k + 1) y0 y1 y2 y3 y4 y5))
  | 0 => ⟨fun _ _ r h => by simp [wire_IsName.j0] at h, fun _ _ _ r h => by simp [wire_IsName.l0] at h, fun _ _ _ _ _ _ r h => by simp [wire_IsName.j2] at h, fun _ _ _ _ _ _ r h => by simp [wire_IsName.j3] at h⟩
  | k + 1 => by
    obtain ⟨ih0, ih1, ih2, ih3⟩ := wire_IsName.mono_l k
    refine ⟨?_, ?_, ?_, ?_⟩
    · intro y0 y1
      unfold wire_IsName.j0
      repeat' first
      | (with_reducible exact ih0 _ _)
      | (with_reducible exact ih1 _ _ _)
      | (with_reducible exact ih2 _ _ _ _ _ _)
      | (with_reducible exact ih3 _ _ _ _ _ _)
      | (with_reducible exact LeO.refl _)
      | (with_reducible exact LeO.none _)
      | (with_reducible refine LeO.ite ?_ ?_)
      | (with_reducible refine LeO.bind ?_ (fun _ => ?_))
      | exact ih0 _ _
      | exact ih1 _ _ _
      | exact ih2 _ _ _ _ _ _
      | exact ih3 _ _ _ _ _ _
      | exact LeO.none _
      | refine LeO.ite ?_ ?_
      | refine LeO.bind ?_ (fun _ => ?_)
    · intro y0 y1 y2
      unfold wire_IsName.l0
      repeat' first
      | (with_reducible exact ih0 _ _)
      | (with_reducible exact ih1 _ _ _)
      | (with_reducible exact ih2 _ _ _ _ _ _)
      | (with_reducible exact ih3 _ _ _ _ _ _)
      | (with_reducible exact LeO.refl _)
      | (with_reducible exact LeO.none _)
      | (with_reducible refine LeO.ite ?_ ?_)
      | (with_reducible refine LeO.bind ?_ (fun _ => ?_))
      | exact ih0 _ _
      | exact ih1 _ _ _
      | exact ih2 _ _ _ _ _ _
      | exact ih3 _ _ _ _ _ _
      | exact LeO.none _
      | refine LeO.ite ?_ ?_
      | refine LeO.bind ?_ (fun _ => ?_)
    · intro y0 y1 y2 y3 y4 y5
      unfold wire_IsName.j2
      repeat' first
      | (with_reducible exact ih0 _ _)
      | (with_reducible exact ih1 _ _ _)
      | (with_reducible exact ih2 _ _ _ _ _ _)
      | (with_reducible exact ih3 _ _ _ _ _ _)
      | (with_reducible exact LeO.refl _)
      | (with_reducible exact LeO.none _)
      | (with_reducible refine LeO.ite ?_ ?_)
      | (with_reducible refine LeO.bind ?_ (fun _ => ?_))
      | exact ih0 _ _
      | exact ih1 _ _ _
      | exact ih2 _ _ _ _ _ _
      | exact ih3 _ _ _ _ _ _
      | exact LeO.none _
      | refine LeO.ite ?_ ?_
      | refine LeO.bind ?_ (fun _ => ?_)
    · intro y0 y1 y2 y3 y4 y5
      unfold wire_IsName.j3
      repeat' first
      | (with_reducible exact ih0 _ _)
      | (with_reducible exact ih1 _ _ _)
      | (with_reducible exact ih2 _ _ _ _ _ _)
      | (with_reducible exact ih3 _ _ _ _ _ _)
      | (with_reducible exact LeO.refl _)
      | (with_reducible exact LeO.none _)
      | (with_reducible refine LeO.ite ?_ ?_)
      | (with_reducible refine LeO.bind ?_ (fun _ => ?_))
      | exact ih0 _ _
      | exact ih1 _ _ _
      | exact ih2 _ _ _ _ _ _
      | exact ih3 _ _ _ _ _ _
      | exact LeO.none _
      | refine LeO.ite ?_ ?_
      | refine LeO.bind ?_ (fun _ => ?_)
theorem wire_IsName.mono : ∀ a0 k, LeO (wire_IsName.f k a0) (wire_IsName.f (k + 1) a0) := by
  intro a0 k
  obtain ⟨ih0, ih1, ih2, ih3⟩ := wire_IsName.mono_l k
  unfold wire_IsName.f
  repeat' first
      | (with_reducible exact ih0 _ _)
      | (with_reducible exact ih1 _ _ _)
      | (with_reducible exact ih2 _ _ _ _ _ _)
      | (with_reducible exact ih3 _ _ _ _ _ _)
      | (with_reducible exact LeO.refl _)
      | (with_reducible exact LeO.none _)
      | (with_reducible refine LeO.ite ?_ ?_)
      | (with_reducible refine LeO.bind ?_ (fun _ => ?_))
      | exact ih0 _ _
      | exact ih1 _ _ _
      | exact ih2 _ _ _ _ _ _
      | exact ih3 _ _ _ _ _ _
      | exact LeO.none _
      | refine LeO.ite ?_ ?_
      | refine LeO.bind ?_ (fun _ => ?_)
set_option maxHeartbeats 8000000 in
set_option maxRecDepth 100000 in
theorem wire_IsName.calls (k : Nat) (a0 : ByteArray) (r : Bool) (w : World) (h : wire_IsName.f k a0 = some r) :
    Calls Tryz.prog 35 #[.string a0] w fun e w' => e = .returned (.bool r) ∧ Drawn0 w w' := by
  have H : (if (a0.size : Int) = 0 then (wire_IsName.j0 k a0 true) else (wire_IsName.j0 k a0 (decide ((a0.size : Int) > 24)))) = some r := h
  clear h
  have HC2 := Aside0.mk H
  clear H
  go_enter Tryz.func35, Tryz.ntmps35
  go_upto_region 1 with (fail)
  go_cut [12] (fun v12 wc => ∃ (kq : Nat) (x12_1 : Bool), v12 = .bool x12_1 ∧ Aside0 (wire_IsName.j0 kq a0 x12_1 = some r) ∧ Aside0 (kq ≤ k) ∧ Drawn0 w wc)
  case first =>
    have H := HC2.out
    clear HC2
    by_cases c3 : (a0.size : Int) = 0
    · rw [if_pos c3] at H
      have c3b0 : ((a0.size : Int) == 0) = true := beq_iff_eq.mpr c3
      have c3b1 : ((a0.size : Int) != 0) = false := bne_eq_false_iff_eq.mpr c3
      clear c3
      (first | rw [c3b0] | (simp only [i64_w, i32_w]; rw [c3b0]) | skip)
      have H' := Aside0.mk H
      clear H
      go_wp2
      go_meet
      case rel => exact ⟨_, (true), (by first | rfl | (simp; done) | (simp [*]; done)), H', ⟨by first | omega | exact Nat.le_refl _⟩, by repeat (first | exact Drawn0.refl _ | apply Drawn0.step)⟩
    · rw [if_neg c3] at H
      have c3b0 : ((a0.size : Int) == 0) = false := beq_eq_false_iff_ne.mpr c3
      have c3b1 : ((a0.size : Int) != 0) = true := bne_iff_ne.mpr c3
      (first | rw [c3b0] | (simp only [i64_w, i32_w]; rw [c3b0]) | skip)
      have H' := Aside0.mk H
      clear H
      go_wp2
      go_meet
      case rel => exact ⟨_, (decide ((a0.size : Int) > 24)), (by first | rfl | (simp; done) | (simp [*]; done)), H', ⟨by first | omega | exact Nat.le_refl _⟩, by repeat (first | exact Drawn0.refl _ | apply Drawn0.step)⟩
  case rest =>
    clear HC2
    try clear p2
    try clear c3
    try clear c3b0
    try clear c3b1
    obtain ⟨kq, x12_1, rfl, HA, HJ1, ⟨mc1, rfl⟩⟩ := hcut
    cases kq with
    | zero => exact absurd HA.out (by simp [wire_IsName.j0])
    | succ kj1 =>
      have H := HA.out
      clear HA
      simp only [wire_IsName.j0] at H
      by_cases c4 : x12_1 = true
      · subst c4
        have H1 : (some false) = some r := by rw [if_pos rfl] at H; exact H
        clear H
        have H := H1
        clear H1
        obtain rfl := Option.some.inj H
        go_wp2
        go_ret
        exact ⟨by first | rfl | (simp; done) | (simp [*]; done), by repeat (first | exact Drawn0.refl _ | apply Drawn0.step)⟩
      · replace c4 := Bool.eq_false_iff.mpr c4
        subst c4
        have H1 : (wire_IsName.l0 kj1 a0 (a0.size : Int) 0) = some r := by rw [if_neg (show ¬ (false = true) by decide)] at H; exact H
        clear H
        have H := H1
        clear H1
        have H' := Aside0.mk H
        clear H
        go_wp2
        go_loopg [15] kj1 (fun kq v15 w' => ∃ (x15_2 : Int), v15 = .int .i64 x15_2 ∧ Aside0 (wire_IsName.l0 kq a0 (a0.size : Int) x15_2 = some r) ∧ Aside0 (kq ≤ kj1) ∧ Drawn0 w w')
        case atStart => exact ⟨(0), (by first | rfl | (simp; done) | (simp [*]; done)), H', ⟨Nat.le_refl _⟩, by repeat (first | exact Drawn0.refl _ | apply Drawn0.step)⟩
        case round =>
          clear H'
          try clear c1
          try clear p2
          try clear c3
          try clear c3b0
          try clear c3b1
          try clear c4
          try clear p2
          obtain ⟨x15_2, rfl, HA, HK2, ⟨m2, rfl⟩⟩ := hrel
          cases gk with
          | zero => exact absurd HA.out (by simp [wire_IsName.l0])
          | succ k2 =>
            have H := HA.out
            clear HA
            simp only [wire_IsName.l0] at H
            by_cases c5 : x15_2 < (a0.size : Int)
            · rw [if_pos c5] at H
              have c5b0 : decide (x15_2 < (a0.size : Int)) = true := decide_eq_true c5
              clear c5
              by_cases c6 : 0 ≤ x15_2
              · rw [if_pos c6] at H
                have c6b0 : decide (0 ≤ x15_2) = true := decide_eq_true c6
                clear c6
                by_cases c7 : x15_2 < (a0.size : Int)
                · rw [if_pos c7] at H
                  have c7b0 : decide (x15_2 < (a0.size : Int)) = true := decide_eq_true c7
                  clear c7
                  have HC9 := Aside0.mk H
                  clear H
                  have p8 : 0 ≤ (x15_2 : Int) := of_decide_eq_true (by first | (with_reducible assumption) | assumption)
                  have q8 : x15_2 < (a0.size : Int) := of_decide_eq_true (by first | (with_reducible assumption) | assumption)
                  have hx8 := bt_at a0 x15_2
                  replace p8 := eq_true p8
                  replace q8 := eq_true q8
                  go_upto_region 8 with (fail)
                  go_cut [21] (fun v21 wc => ∃ (kq : Nat) (x21_8 : Bool), v21 = .bool x21_8 ∧ Aside0 (wire_IsName.j2 kq a0 x15_2 (bt a0 x15_2) (a0.size : Int) x15_2 x21_8 = some r) ∧ Aside0 (kq ≤ k2) ∧ Drawn0 w wc)
                  case first =>
                    have H := HC9.out
                    clear HC9
                    by_cases c10 : (bt a0 x15_2) ≥ 97
                    · rw [if_pos c10] at H
                      have c10b0 : decide (97 ≤ (bt a0 x15_2)) = true := decide_eq_true c10
                      clear c10
                      (first | rw [c10b0] | (simp only [i64_w, i32_w]; rw [c10b0]) | skip)
                      have H' := Aside0.mk H
                      clear H
                      go_wp2
                      go_meet
                      case rel => exact ⟨_, (decide ((bt a0 x15_2) ≤ 122)), (by first | rfl | (simp; done) | (simp [*]; done)), H', ⟨by have := HJ1.out; have := HK2.out; first | omega | exact Nat.le_refl _⟩, by repeat (first | exact Drawn0.refl _ | apply Drawn0.step)⟩
                    · rw [if_neg c10] at H
                      have c10b0 : decide (97 ≤ (bt a0 x15_2)) = false := decide_eq_false c10
                      clear c10
                      (first | rw [c10b0] | (simp only [i64_w, i32_w]; rw [c10b0]) | skip)
                      have H' := Aside0.mk H
                      clear H
                      go_wp2
                      go_meet
                      case rel => exact ⟨_, (false), (by first | rfl | (simp; done) | (simp [*]; done)), H', ⟨by have := HJ1.out; have := HK2.out; first | omega | exact Nat.le_refl _⟩, by repeat (first | exact Drawn0.refl _ | apply Drawn0.step)⟩
                  case rest =>
                    clear HC9
                    try clear c1
                    try clear p2
                    try clear c3
                    try clear c3b0
                    try clear c3b1
                    try clear c4
                    try clear c5
                    try clear c5b0
                    try clear c6
                    try clear c6b0
                    try clear c7
                    try clear c7b0
                    try clear p8
                    try clear q8
                    try clear hx8
                    try clear c10
                    try clear c10b0
                    try clear p2
                    try clear p8
                    try clear q8
                    obtain ⟨kq, x21_8, rfl, HA, HJ8, ⟨mc8, rfl⟩⟩ := hcut
                    cases kq with
                    | zero => exact absurd HA.out (by simp [wire_IsName.j2])
                    | succ kj8 =>
                      have H := HA.out
                      clear HA
                      simp only [wire_IsName.j2] at H
                      have HC11 := Aside0.mk H
                      clear H
                      go_upto_if 21 with (fail)
                      go_cut [21] (fun v21 wc => ∃ (kq : Nat) (x21_10 : Bool), v21 = .bool x21_10 ∧ Aside0 (wire_IsName.j3 kq a0 x15_2 (bt a0 x15_2) (a0.size : Int) x15_2 x21_10 = some r) ∧ Aside0 (kq ≤ kj8) ∧ Drawn0 w wc)
                      case first =>
                        have H := HC11.out
                        clear HC11
                        by_cases c12 : x21_8 = true
                        · subst c12
                          have H1 : (wire_IsName.j3 kj8 a0 x15_2 (bt a0 x15_2) (a0.size : Int) x15_2 true) = some r := by rw [if_pos rfl] at H; exact H
                          clear H
                          have H := H1
                          clear H1
                          have H' := Aside0.mk H
                          clear H
                          go_wp2
                          go_meet
                          case rel => exact ⟨_, (true), (by first | rfl | (simp; done) | (simp [*]; done)), H', ⟨by have := HJ1.out; have := HK2.out; have := HJ8.out; first | omega | exact Nat.le_refl _⟩, by repeat (first | exact Drawn0.refl _ | apply Drawn0.step)⟩
                        · replace c12 := Bool.eq_false_iff.mpr c12
                          subst c12
                          have H1 : (if (bt a0 x15_2) ≥ 65 then (wire_IsName.j3 kj8 a0 x15_2 (bt a0 x15_2) (a0.size : Int) x15_2 (decide ((bt a0 x15_2) ≤ 90))) else (wire_IsName.j3 kj8 a0 x15_2 (bt a0 x15_2) (a0.size : Int) x15_2 false)) = some r := by rw [if_neg (show ¬ (false = true) by decide)] at H; exact H
                          clear H
                          have H := H1
                          clear H1
                          by_cases c13 : (bt a0 x15_2) ≥ 65
                          · rw [if_pos c13] at H
                            have c13b0 : decide (65 ≤ (bt a0 x15_2)) = true := decide_eq_true c13
                            clear c13
                            (first | rw [c13b0] | (simp only [i64_w, i32_w]; rw [c13b0]) | skip)
                            have H' := Aside0.mk H
                            clear H
                            go_wp2
                            go_meet
                            case rel => exact ⟨_, (decide ((bt a0 x15_2) ≤ 90)), (by first | rfl | (simp; done) | (simp [*]; done)), H', ⟨by have := HJ1.out; have := HK2.out; have := HJ8.out; first | omega | exact Nat.le_refl _⟩, by repeat (first | exact Drawn0.refl _ | apply Drawn0.step)⟩
                          · rw [if_neg c13] at H
                            have c13b0 : decide (65 ≤ (bt a0 x15_2)) = false := decide_eq_false c13
                            clear c13
                            (first | rw [c13b0] | (simp only [i64_w, i32_w]; rw [c13b0]) | skip)
                            have H' := Aside0.mk H
                            clear H
                            go_wp2
                            go_meet
                            case rel => exact ⟨_, (false), (by first | rfl | (simp; done) | (simp [*]; done)), H', ⟨by have := HJ1.out; have := HK2.out; have := HJ8.out; first | omega | exact Nat.le_refl _⟩, by repeat (first | exact Drawn0.refl _ | apply Drawn0.step)⟩
                      case rest =>
                        clear HC11
                        try clear c1
                        try clear p2
                        try clear c3
                        try clear c3b0
                        try clear c3b1
                        try clear c4
                        try clear c5
                        try clear c5b0
                        try clear c6
                        try clear c6b0
                        try clear c7
                        try clear c7b0
                        try clear c8
                        try clear p8
                        try clear q8
                        try clear hx8
                        try clear c10
                        try clear c10b0
                        try clear c12
                        try clear c13
                        try clear c13b0
                        try clear p2
                        try clear p8
                        try clear q8
                        obtain ⟨kq, x21_10, rfl, HA, HJ10, ⟨mc10, rfl⟩⟩ := hcut
                        cases kq with
                        | zero => exact absurd HA.out (by simp [wire_IsName.j3])
                        | succ kj10 =>
                          have H := HA.out
                          clear HA
                          simp only [wire_IsName.j3] at H
                          by_cases c14 : x21_10 = true
                          · subst c14
                            have H1 : (wire_IsName.l0 kj10 a0 (a0.size : Int) (wrap64 (x15_2 + 1))) = some r := by rw [if_pos rfl] at H; exact H
                            clear H
                            have H := H1
                            clear H1
                            have H' := Aside0.mk H
                            clear H
                            go_wp2
                            go_roundg kj10
                            case measure => have := HJ1.out; have := HK2.out; have := HJ8.out; have := HJ10.out; omega
                            case rel => exact ⟨(wrap64 (x15_2 + 1)), (by first | rfl | (simp; done) | (simp [*]; done)), H', ⟨by have := HJ1.out; have := HK2.out; have := HJ8.out; have := HJ10.out; omega⟩, by repeat (first | exact Drawn0.refl _ | apply Drawn0.step)⟩
                          · replace c14 := Bool.eq_false_iff.mpr c14
                            subst c14
                            have H1 : (if x15_2 > 0 then (if (bt a0 x15_2) ≥ 48 then (if (bt a0 x15_2) ≤ 57 then (wire_IsName.l0 kj10 a0 (a0.size : Int) (wrap64 (x15_2 + 1))) else (if (bt a0 x15_2) = 95 then (wire_IsName.l0 kj10 a0 (a0.size : Int) (wrap64 (x15_2 + 1))) else (some false))) else (if (bt a0 x15_2) = 95 then (wire_IsName.l0 kj10 a0 (a0.size : Int) (wrap64 (x15_2 + 1))) else (some false))) else (some false)) = some r := by rw [if_neg (show ¬ (false = true) by decide)] at H; exact H
                            clear H
                            have H := H1
                            clear H1
                            by_cases c15 : x15_2 > 0
                            · rw [if_pos c15] at H
                              have c15b0 : decide (0 < x15_2) = true := decide_eq_true c15
                              clear c15
                              by_cases c16 : (bt a0 x15_2) ≥ 48
                              · rw [if_pos c16] at H
                                have c16b0 : decide (48 ≤ (bt a0 x15_2)) = true := decide_eq_true c16
                                clear c16
                                by_cases c17 : (bt a0 x15_2) ≤ 57
                                · rw [if_pos c17] at H
                                  have c17b0 : decide ((bt a0 x15_2) ≤ 57) = true := decide_eq_true c17
                                  clear c17
                                  have H' := Aside0.mk H
                                  clear H
                                  go_wp2
                                  go_roundg kj10
                                  case measure => have := HJ1.out; have := HK2.out; have := HJ8.out; have := HJ10.out; omega
                                  case rel => exact ⟨(wrap64 (x15_2 + 1)), (by first | rfl | (simp; done) | (simp [*]; done)), H', ⟨by have := HJ1.out; have := HK2.out; have := HJ8.out; have := HJ10.out; omega⟩, by repeat (first | exact Drawn0.refl _ | apply Drawn0.step)⟩
                                · rw [if_neg c17] at H
                                  have c17b0 : decide ((bt a0 x15_2) ≤ 57) = false := decide_eq_false c17
                                  clear c17
                                  by_cases c18 : (bt a0 x15_2) = 95
                                  · rw [if_pos c18] at H
                                    have c18b0 : ((bt a0 x15_2) == 95) = true := beq_iff_eq.mpr c18
                                    have c18b1 : ((bt a0 x15_2) != 95) = false := bne_eq_false_iff_eq.mpr c18
                                    clear c18
                                    have H' := Aside0.mk H
                                    clear H
                                    go_wp2
                                    go_roundg kj10
                                    case measure => have := HJ1.out; have := HK2.out; have := HJ8.out; have := HJ10.out; omega
                                    case rel => exact ⟨(wrap64 (x15_2 + 1)), (by first | rfl | (simp; done) | (simp [*]; done)), H', ⟨by have := HJ1.out; have := HK2.out; have := HJ8.out; have := HJ10.out; omega⟩, by repeat (first | exact Drawn0.refl _ | apply Drawn0.step)⟩
                                  · rw [if_neg c18] at H
                                    have c18b0 : ((bt a0 x15_2) == 95) = false := beq_eq_false_iff_ne.mpr c18
                                    have c18b1 : ((bt a0 x15_2) != 95) = true := bne_iff_ne.mpr c18
                                    obtain rfl := Option.some.inj H
                                    go_wp2
                                    go_ret
                                    exact ⟨by first | rfl | (simp; done) | (simp [*]; done), by repeat (first | exact Drawn0.refl _ | apply Drawn0.step)⟩
                              · rw [if_neg c16] at H
                                have c16b0 : decide (48 ≤ (bt a0 x15_2)) = false := decide_eq_false c16
                                clear c16
                                by_cases c19 : (bt a0 x15_2) = 95
                                · rw [if_pos c19] at H
                                  have c19b0 : ((bt a0 x15_2) == 95) = true := beq_iff_eq.mpr c19
                                  have c19b1 : ((bt a0 x15_2) != 95) = false := bne_eq_false_iff_eq.mpr c19
                                  clear c19
                                  have H' := Aside0.mk H
                                  clear H
                                  go_wp2
                                  go_roundg kj10
                                  case measure => have := HJ1.out; have := HK2.out; have := HJ8.out; have := HJ10.out; omega
                                  case rel => exact ⟨(wrap64 (x15_2 + 1)), (by first | rfl | (simp; done) | (simp [*]; done)), H', ⟨by have := HJ1.out; have := HK2.out; have := HJ8.out; have := HJ10.out; omega⟩, by repeat (first | exact Drawn0.refl _ | apply Drawn0.step)⟩
                                · rw [if_neg c19] at H
                                  have c19b0 : ((bt a0 x15_2) == 95) = false := beq_eq_false_iff_ne.mpr c19
                                  have c19b1 : ((bt a0 x15_2) != 95) = true := bne_iff_ne.mpr c19
                                  obtain rfl := Option.some.inj H
                                  go_wp2
                                  go_ret
                                  exact ⟨by first | rfl | (simp; done) | (simp [*]; done), by repeat (first | exact Drawn0.refl _ | apply Drawn0.step)⟩
                            · rw [if_neg c15] at H
                              have c15b0 : decide (0 < x15_2) = false := decide_eq_false c15
                              clear c15
                              obtain rfl := Option.some.inj H
                              go_wp2
                              go_ret
                              exact ⟨by first | rfl | (simp; done) | (simp [*]; done), by repeat (first | exact Drawn0.refl _ | apply Drawn0.step)⟩
                · rw [if_neg c7] at H
                  exact absurd H (by simp)
              · rw [if_neg c6] at H
                exact absurd H (by simp)
            · rw [if_neg c5] at H
              have c5b0 : decide (x15_2 < (a0.size : Int)) = false := decide_eq_false c5
              clear c5
              obtain rfl := Option.some.inj H
              go_wp2
              go_ret
              exact ⟨by first | rfl | (simp; done) | (simp [*]; done), by repeat (first | exact Drawn0.refl _ | apply Drawn0.step)⟩

def slices_Index_string_string.l0 : Nat → List ByteArray → ByteArray → Int → Int → Option (Int)
  | 0, _, _, _, _ => none
  | k + 1, x0, x1, x7, x8 => if x8 < x7 then (if 0 ≤ x8 then (if x8 < (x0.length : Int) then (if x1.toList = (rdOf ByteArray.empty x0 x8).toList then (some x8) else (slices_Index_string_string.l0 k x0 x1 x7 (wrap64 (x8 + 1)))) else (none)) else (none)) else (some (-1))
def slices_Index_string_string.f (k : Nat) (l0 : List ByteArray) (a1 : ByteArray) : Option (Int) := slices_Index_string_string.l0 k l0 a1 (l0.length : Int) 0
set_option maxHeartbeats 8000000 in
set_option maxRecDepth 100000 in
theorem slices_Index_string_string.calls (k : Nat) (A0 : Option Addr) (c0 : Nat) (l0 : List ByteArray) (a1 : ByteArray) (r : Int) (w : World) (hr0 : Kd.C Kd.string w A0 l0.length l0) (hc0 : l0.length ≤ c0) (h : slices_Index_string_string.f k l0 a1 = some r) :
    Calls Tryz.prog 56 #[.slice A0 l0.length c0, .string a1] w fun e w' => e = .returned (.int .i64 r) ∧ Drawn0 w w' := by
  have HR0 := Aside0.mk hr0
  have HC0 := Aside0.mk hc0
  clear hr0 hc0
  have H : (slices_Index_string_string.l0 k l0 a1 (l0.length : Int) 0) = some r := h
  clear h
  have H' := Aside0.mk H
  clear H
  go_enter Tryz.func56, Tryz.ntmps56
  go_wp2
  go_loopg [8] k (fun kq v8 w' => ∃ (x8_1 : Int), v8 = .int .i64 x8_1 ∧ Aside0 (slices_Index_string_string.l0 kq l0 a1 (l0.length : Int) x8_1 = some r) ∧ Aside0 (kq ≤ k) ∧ Drawn0 w w')
  case atStart => exact ⟨(0), (by first | rfl | (simp; done) | (simp [*]; done)), H', ⟨Nat.le_refl _⟩, by repeat (first | exact Drawn0.refl _ | apply Drawn0.step)⟩
  case round =>
    clear H'
    try clear p2
    obtain ⟨x8_1, rfl, HA, HK1, ⟨m1, rfl⟩⟩ := hrel
    cases gk with
    | zero => exact absurd HA.out (by simp [slices_Index_string_string.l0])
    | succ k1 =>
      have H := HA.out
      clear HA
      simp only [slices_Index_string_string.l0] at H
      by_cases c3 : x8_1 < (l0.length : Int)
      · rw [if_pos c3] at H
        have c3b0 : decide (x8_1 < (l0.length : Int)) = true := decide_eq_true c3
        clear c3
        by_cases c4 : 0 ≤ x8_1
        · rw [if_pos c4] at H
          have c4b0 : decide (0 ≤ x8_1) = true := decide_eq_true c4
          clear c4
          by_cases c5 : x8_1 < (l0.length : Int)
          · rw [if_pos c5] at H
            have c5b0 : decide (x8_1 < (l0.length : Int)) = true := decide_eq_true c5
            clear c5
            by_cases c6 : a1.toList = (rdOf ByteArray.empty l0 x8_1).toList
            · rw [if_pos c6] at H
              have c6b0 : (a1.toList == (rdOf ByteArray.empty l0 x8_1).toList) = true := beq_iff_eq.mpr c6
              have c6b1 : (a1.toList != (rdOf ByteArray.empty l0 x8_1).toList) = false := bne_eq_false_iff_eq.mpr c6
              clear c6
              obtain rfl := Option.some.inj H
              have p109 : 0 ≤ (x8_1 : Int) := of_decide_eq_true (by first | (with_reducible assumption) | assumption)
              have q109 : x8_1 < (l0.length : Int) := of_decide_eq_true (by first | (with_reducible assumption) | assumption)
              obtain ⟨ad109, e109, hx109_0⟩ := Kd.at_string HR0.out x8_1 p109 q109
              cases e109
              replace p109 := eq_true p109
              replace q109 := eq_true q109
              go_wp2
              go_ret
              exact ⟨by first | rfl | (simp; done) | (simp [*]; done), by repeat (first | exact Drawn0.refl _ | apply Drawn0.step)⟩
            · rw [if_neg c6] at H
              have c6b0 : (a1.toList == (rdOf ByteArray.empty l0 x8_1).toList) = false := beq_eq_false_iff_ne.mpr c6
              have c6b1 : (a1.toList != (rdOf ByteArray.empty l0 x8_1).toList) = true := bne_iff_ne.mpr c6
              have H' := Aside0.mk H
              clear H
              have p109 : 0 ≤ (x8_1 : Int) := of_decide_eq_true (by first | (with_reducible assumption) | assumption)
              have q109 : x8_1 < (l0.length : Int) := of_decide_eq_true (by first | (with_reducible assumption) | assumption)
              obtain ⟨ad109, e109, hx109_0⟩ := Kd.at_string HR0.out x8_1 p109 q109
              cases e109
              replace p109 := eq_true p109
              replace q109 := eq_true q109
              go_wp2
              go_roundg k1
              case measure => have := HK1.out; omega
              case rel => exact ⟨(wrap64 (x8_1 + 1)), (by first | rfl | (simp; done) | (simp [*]; done)), H', ⟨by have := HK1.out; omega⟩, by repeat (first | exact Drawn0.refl _ | apply Drawn0.step)⟩
          · rw [if_neg c5] at H
            exact absurd H (by simp)
        · rw [if_neg c4] at H
          exact absurd H (by simp)
      · rw [if_neg c3] at H
        have c3b0 : decide (x8_1 < (l0.length : Int)) = false := decide_eq_false c3
        clear c3
        obtain rfl := Option.some.inj H
        go_wp2
        go_ret
        exact ⟨by first | rfl | (simp; done) | (simp [*]; done), by repeat (first | exact Drawn0.refl _ | apply Drawn0.step)⟩

def slices_Contains_string_string.f (k : Nat) (l0 : List ByteArray) (a1 : ByteArray) : Option (Bool) := (slices_Index_string_string.f k l0 a1).bind fun t110 => (some (decide (t110 ≥ 0)))
set_option maxHeartbeats 8000000 in
set_option maxRecDepth 100000 in
theorem slices_Contains_string_string.calls (k : Nat) (A0 : Option Addr) (c0 : Nat) (l0 : List ByteArray) (a1 : ByteArray) (r : Bool) (w : World) (hr0 : Kd.C Kd.string w A0 l0.length l0) (hc0 : l0.length ≤ c0) (h : slices_Contains_string_string.f k l0 a1 = some r) :
    Calls Tryz.prog 36 #[.slice A0 l0.length c0, .string a1] w fun e w' => e = .returned (.bool r) ∧ Drawn0 w w' := by
  have HR0 := Aside0.mk hr0
  have HC0 := Aside0.mk hc0
  clear hr0 hc0
  have H : ((slices_Index_string_string.f k l0 a1).bind fun t110 => (some (decide (t110 ≥ 0)))) = some r := h
  clear h
  replace H := Option.bind_eq_some_iff.mp H
  obtain ⟨t110, A30, H⟩ := H
  replace H : (some (decide (t110 ≥ 0))) = some r := H
  have A3 := Aside0.mk A30
  clear A30
  obtain rfl := Option.some.inj H
  go_enter Tryz.func36, Tryz.ntmps36
  go_wp2_with (first | ((with_reducible refine gate_callee (f := 56) rfl ?_); refine goesL_ (some 7) rfl rfl Tryz.func56 (by kernel_rfl) rfl #[.slice A0 l0.length c0, .string a1] rfl (by (try simp only [List.map_toArray, List.map_cons, List.map_nil]); first | done | rfl | (simp only [List.length_drop, List.length_take]; rfl)) ?_; (with_reducible refine (slices_Index_string_string.calls k _ _ l0 a1 t110 _ ?side1 ?side2 A3.out).mono ?_); (case side1 => repeat (first | exact HR0.out | (with_reducible refine Kd.C_alloc ?_ _) | (with_reducible refine Kd.C_drewN ?_ _) | (with_reducible refine Kd.C_drew ?_))); (case side2 => exact HC0.out); rintro e w' ⟨rfl, ⟨nd, rfl⟩⟩; refine ⟨_, rfl, ?_⟩))
  go_ret
  exact ⟨by first | rfl | (simp; done) | (simp [*]; done), by repeat (first | exact Drawn0.refl _ | apply Drawn0.step)⟩

def types_words.f  : Option (List ByteArray) := some (([(⟨#[116, 111, 112]⟩ : ByteArray), (⟨#[105, 110, 116]⟩ : ByteArray), (⟨#[98, 111, 111, 108]⟩ : ByteArray), (⟨#[110, 117, 108, 108]⟩ : ByteArray), (⟨#[105, 110, 116, 115]⟩ : ByteArray), (⟨#[97, 110, 121]⟩ : ByteArray)] : List ByteArray))
set_option maxHeartbeats 8000000 in
set_option maxRecDepth 100000 in
theorem types_words.calls  (r : List ByteArray) (w : World) (h : types_words.f  = some r) :
    Calls Tryz.prog 37 #[] w fun e w' => ∃ v0_ : Value, e = .returned (v0_) ∧ Kd.R Kd.string 9 w' w.heap.size (fun _ => True) v0_ r ∧ Below w.heap.size w w' := by
  have HB := Aside0.mk (Below.refl w.heap.size w)
  have H : (some (([(⟨#[116, 111, 112]⟩ : ByteArray), (⟨#[105, 110, 116]⟩ : ByteArray), (⟨#[98, 111, 111, 108]⟩ : ByteArray), (⟨#[110, 117, 108, 108]⟩ : ByteArray), (⟨#[105, 110, 116, 115]⟩ : ByteArray), (⟨#[97, 110, 121]⟩ : ByteArray)] : List ByteArray))) = some r := h
  clear h
  obtain ⟨y111, hy111⟩ : ∃ y_ : List ByteArray, y_ = (([(⟨#[116, 111, 112]⟩ : ByteArray), (⟨#[105, 110, 116]⟩ : ByteArray), (⟨#[98, 111, 111, 108]⟩ : ByteArray), (⟨#[110, 117, 108, 108]⟩ : ByteArray), (⟨#[105, 110, 116, 115]⟩ : ByteArray), (⟨#[97, 110, 121]⟩ : ByteArray)] : List ByteArray)) := ⟨_, rfl⟩
  replace H : (some y111) = some r := by first | (rw [hy111]; with_reducible exact H) | (have H2_ := (Option.bind_some _ _).symm.trans H; rw [hy111]; with_reducible exact H2_) | (have H2_ := (Option.bind_some _ _).symm.trans H; with_reducible exact H2_) | with_reducible exact H | (rw [hy111]; exact H) | exact H
  have Ny111 := Aside0.mk hy111
  clear hy111
  obtain rfl := Option.some.inj H
  go_enter Tryz.func37, Tryz.ntmps37
  go_wp2_with (first | ((with_reducible refine gate_dst (N := 1) rfl ?_); refine Kd.R_lit Kd.string _ 9 ?hg (N := 1) ?hd (xs := ([(⟨#[116, 111, 112]⟩ : ByteArray), (⟨#[105, 110, 116]⟩ : ByteArray), (⟨#[98, 111, 111, 108]⟩ : ByteArray), (⟨#[110, 117, 108, 108]⟩ : ByteArray), (⟨#[105, 110, 116, 115]⟩ : ByteArray), (⟨#[97, 110, 121]⟩ : ByteArray)] : List ByteArray)) (inner := [.string (⟨#[116, 111, 112]⟩ : ByteArray), .string (⟨#[105, 110, 116]⟩ : ByteArray), .string (⟨#[98, 111, 111, 108]⟩ : ByteArray), .string (⟨#[110, 117, 108, 108]⟩ : ByteArray), .string (⟨#[105, 110, 116, 115]⟩ : ByteArray), .string (⟨#[97, 110, 121]⟩ : ByteArray)]) (ok := fun _ => True) (okp := fun _ => True) ?hr ?hp (fun _ hk => hk) trivial (Below.refl _ _) (Nat.le_refl _) (by simp) ?_; (case hd => rfl); (case hg => rfl); (case hr => first | (go_simp; done) | (go_simp; rfl)); (case hp => exact (Reps.one (show Kd.M Kd.string _ _ _ (⟨#[116, 111, 112]⟩ : ByteArray) [.string (⟨#[116, 111, 112]⟩ : ByteArray)] from rfl) (Reps.one (show Kd.M Kd.string _ _ _ (⟨#[105, 110, 116]⟩ : ByteArray) [.string (⟨#[105, 110, 116]⟩ : ByteArray)] from rfl) (Reps.one (show Kd.M Kd.string _ _ _ (⟨#[98, 111, 111, 108]⟩ : ByteArray) [.string (⟨#[98, 111, 111, 108]⟩ : ByteArray)] from rfl) (Reps.one (show Kd.M Kd.string _ _ _ (⟨#[110, 117, 108, 108]⟩ : ByteArray) [.string (⟨#[110, 117, 108, 108]⟩ : ByteArray)] from rfl) (Reps.one (show Kd.M Kd.string _ _ _ (⟨#[105, 110, 116, 115]⟩ : ByteArray) [.string (⟨#[105, 110, 116, 115]⟩ : ByteArray)] from rfl) (Reps.one (show Kd.M Kd.string _ _ _ (⟨#[97, 110, 121]⟩ : ByteArray) [.string (⟨#[97, 110, 121]⟩ : ByteArray)] from rfl) (Reps.none _ _)))))))); intro v112 w1 ho2 hb hg_ hnew_; clear hg_ hnew_; (first | rw [← Ny111.out] at ho2 | (simp only [Int.reduceToNat] at ho2; rw [← Ny111.out] at ho2)); have n0_ := Aside0.mk (Kd.R_lower ho2 (below_size (by repeat (first | (with_reducible first | exact HB.out | apply below_alloc | apply pw_below_drewN | apply below_drew1) | exact HB.out)))); have n1_ := Aside0.mk (below_step (by repeat (first | (with_reducible first | exact HB.out | apply below_alloc | apply pw_below_drewN | apply below_drew1) | exact HB.out)) hb); clear HB; have HO113 := n0_; have HB := n1_; clear n0_ n1_; clear hb ho2))
  go_ret
  exact ⟨_, by first | rfl | (simp [errW_none, errW_some] <;> rfl) | (simp [*, errW_none, errW_some] <;> rfl), by (with_reducible repeat (first | apply Kd.R_alloc | apply Kd.R_drewN | apply Kd.R_drew)); exact HO113.out, by repeat (first | (with_reducible first | exact HB.out | apply below_alloc | apply pw_below_drewN | apply below_drew1) | exact HB.out)⟩

def firstFrom (p : S38 → Bool) (l : List S38) : Nat → Nat → Int
  | 0, _ => -1
  | d + 1, i => if p (rd_T38 l i) = true then (i : Int) else firstFrom p l d (i + 1)
set_option maxHeartbeats 1600000 in
set_option maxRecDepth 100000 in
theorem index_class (fid : Nat) (caps : Array Value) (A0 : Option Addr) (c0 : Nat) (l : List S38) (W0 : World) (hr : Kd.C k38 W0 A0 l.length l) (Inv : World → Prop) (p : S38 → Bool)
    (hB : ∀ W, Inv W → Below W0.heap.size W0 W)
    (hstep : ∀ (x : S38) (A2 : Option Addr) (c2 : Nat) (W : World), Inv W → Calls Tryz.prog fid (#[.agg #[.string x.f0, .int .i64 x.f1, .slice A2 x.f2.length c2]] ++ caps) W fun e W' => e = .returned (.bool (p x)) ∧ Inv W')
    (hcf : ∀ (vs : Array Value) (w : World), Sem.run Tryz.prog (callFunc fid vs) w = .ok (.enter fid vs) w)
    (W : World) (h0 : Inv W) :
    Calls Tryz.prog 57 #[.slice A0 l.length c0, .func (.func fid) #[] caps] W fun e W' => e = .returned (.int .i64 (firstFrom p l l.length 0)) ∧ Inv W' := by
  have HI := Aside0.mk h0
  have HS := Aside0.mk hstep
  have HB := Aside0.mk hB
  have HR := Aside0.mk hr
  have hlen : l.length ≤ 9223372036854775807 := hr.2.1
  clear h0 hstep hB hr
  go_enter Tryz.func57, Tryz.ntmps57
  go_wp2
  go_loopw [8] (fun v8 wr => ∃ i : Nat, v8 = .int .i64 (i : Int) ∧ i ≤ l.length ∧ Aside0 (firstFrom p l l.length 0 = firstFrom p l (l.length - i) i) ∧ Aside0 (Inv wr)) (fun v8 _ => ((l.length : Int) - intOf v8).toNat)
  case atStart => exact ⟨0, rfl, Nat.zero_le _, ⟨rfl⟩, HI⟩
  case round =>
    obtain ⟨i, rfl, hi, HF, HI⟩ := hrel
    by_cases c1 : i < l.length
    · have c1b : decide ((i : Int) < (l.length : Int)) = true := decide_eq_true (by omega)
      obtain ⟨ad, A2, c2, e1, hx0, hx1, hx2, _, _⟩ := at_T38 HR.out (i : Int) (by omega) (by omega)
      cases e1
      have hb := HB.out _ HI.out
      replace hx0 := (hb.cell (World.block_lt_of_cell? W0 _ hx0)).trans hx0
      replace hx1 := (hb.cell (World.block_lt_of_cell? W0 _ hx1)).trans hx1
      replace hx2 := (hb.cell (World.block_lt_of_cell? W0 _ hx2)).trans hx2
      simp only [Int.toNat_natCast] at hx0 hx1 hx2
      have p5 : (0 ≤ (i : Int)) = True := eq_true (by omega)
      have p6 : ((i : Int) < (l.length : Int)) = True := eq_true (by omega)
      have HN : Aside0 (firstFrom p l (l.length - i) i = if p (rd_T38 l i) = true then (i : Int) else firstFrom p l (l.length - (i + 1)) (i + 1)) := ⟨by
        obtain ⟨d, hd⟩ : ∃ d, l.length - i = d + 1 := ⟨l.length - i - 1, by omega⟩
        rw [hd, show l.length - (i + 1) = d by omega]
        rfl⟩
      clear hb
      go_wp2_with fail
      refine (HS.out (rd_T38 l i) A2 c2 _ HI.out).mono ?_
      rintro e w2 ⟨rfl, hI⟩
      clear HI
      have HI := Aside0.mk hI
      clear hI hx0 hx1 hx2
      by_cases hp : p (rd_T38 l i) = true
      · rw [hp]
        have HP := Aside0.mk hp
        clear hp
        go_wp2
        go_ret
        exact ⟨by rw [HF.out, HN.out, if_pos HP.out]; rfl, HI.out⟩
      · have HP := Aside0.mk hp
        rw [Bool.eq_false_iff.mpr hp]
        clear hp
        go_wp2
        go_roundw
        case rel => exact ⟨i + 1, rfl, by omega, ⟨by rw [HF.out, HN.out, if_neg HP.out]⟩, HI⟩
        case measure => simp [intOf]; omega
    · have c1b : decide ((i : Int) < (l.length : Int)) = false := decide_eq_false (by omega)
      have HZ : Aside0 (l.length - i = 0) := ⟨by omega⟩
      go_wp2
      go_ret
      exact ⟨by rw [HF.out, HZ.out]; rfl, HI.out⟩
theorem first_any (p : S38 → Bool) (l : List S38) : ∀ (d i : Nat), i + d = l.length → (decide (0 ≤ firstFrom p l d i)) = (l.drop i).any p
  | 0, i, h => by
    rw [List.drop_of_length_le (by omega)]
    rfl
  | d + 1, i, h => by
    have hi : i < l.length := by omega
    have hr : rd_T38 l (i : Int) = l[i] := by simp [rd_T38, List.getD_eq_getElem?_getD, hi]
    rw [List.drop_eq_getElem_cons hi, List.any_cons, ← hr, ← first_any p l d (i + 1) (by omega)]
    show decide (0 ≤ (if p (rd_T38 l (i : Int)) = true then (i : Int) else firstFrom p l d (i + 1))) = _
    by_cases e : p (rd_T38 l i) = true
    · rw [if_pos e, e]
      simp
    · rw [if_neg e, Bool.eq_false_iff.mpr e]
      simp

set_option maxHeartbeats 800000 in
set_option maxRecDepth 100000 in
theorem contains_class (fid : Nat) (caps : Array Value) (A0 : Option Addr) (c0 : Nat) (l : List S38) (W0 : World) (hr : Kd.C k38 W0 A0 l.length l) (Inv : World → Prop) (p : S38 → Bool)
    (hB : ∀ W, Inv W → Below W0.heap.size W0 W)
    (hstep : ∀ (x : S38) (A2 : Option Addr) (c2 : Nat) (W : World), Inv W → Calls Tryz.prog fid (#[.agg #[.string x.f0, .int .i64 x.f1, .slice A2 x.f2.length c2]] ++ caps) W fun e W' => e = .returned (.bool (p x)) ∧ Inv W')
    (hcf : ∀ (vs : Array Value) (w : World), Sem.run Tryz.prog (callFunc fid vs) w = .ok (.enter fid vs) w)
    (W : World) (h0 : Inv W) :
    Calls Tryz.prog 38 #[.slice A0 l.length c0, .func (.func fid) #[] caps] W fun e W' => e = .returned (.bool (l.any p)) ∧ Inv W' := by
  have HC := Aside0.mk (index_class fid caps A0 c0 l W0 hr Inv p hB hstep hcf W h0)
  have HA := Aside0.mk (first_any p l l.length 0 (by omega))
  clear hr hB hstep hcf h0
  go_enter Tryz.func38, Tryz.ntmps38
  go_wp2_with fail
  refine HC.out.mono ?_
  rintro e w2 ⟨rfl, hI⟩
  have HI := Aside0.mk hI
  have ha := HA.out
  rw [List.drop_zero] at ha
  clear hI HC HA
  generalize firstFrom p l l.length 0 = n at ha ⊢
  generalize hb : l.any p = b at ha ⊢
  have HB := Aside0.mk hb
  clear hb
  go_wp2
  go_ret
  exact ⟨by rw [HB.out]; rfl, HI.out⟩

end Go.Proofs.YtkjagcamikkjkaaGreat.P

end

section
namespace Go.Proofs.YtkjagcamikkjkaaGreat.P
open Go.RowKit Go.Proofs.YtkjagcamikkjkaaGreatW.PrintWords Go.Proofs.YtkjagcamikkjkaaGreatW.PrintLast Go.Proofs.YtkjagcamikkjkaaGreatW.PrintMore
attribute [local go_sem] max2_int min2_int max_two min_two max_three min_three max_four min_four   -- for this text's walks alone
set_option linter.unusedVariables false
set_option linter.unusedSimpArgs false

def climbF (l : List S38) : Nat → Int → List Int
  | 0, _ => []
  | f + 1, c => if 0 ≤ c ∧ c < (l.length : Int) then c :: (if (rd_T38 l c).f1 ≥ c then [] else climbF l f (rd_T38 l c).f1) else []
def climbL (l : List S38) (c : Int) : List Int := climbF l (c.toNat + 1) c
theorem climbF_le (l : List S38) : ∀ (f g : Nat) (c : Int), c.toNat < f → f ≤ g → climbF l g c = climbF l f c
  | 0, _, _, h, _ => by omega
  | f + 1, 0, _, _, h => by omega
  | f + 1, g + 1, c, h, hg => by
    simp only [climbF]
    split
    · split
      · rfl
      · rename_i h1 h2
        by_cases h3 : 0 ≤ (rd_T38 l c).f1
        · rw [climbF_le l f g _ (by omega) (by omega)]
        · have e : ∀ k, climbF l k (rd_T38 l c).f1 = [] := by
            intro k
            cases k with
            | zero => rfl
            | succ k => simp only [climbF]; rw [if_neg (by omega)]
          rw [e, e]
    · rfl
theorem climbL_in (l : List S38) (c : Int) (h0 : 0 ≤ c) (h1 : c < (l.length : Int)) (h2 : (rd_T38 l c).f1 < c) : climbL l c = c :: climbL l (rd_T38 l c).f1 := by
  unfold climbL
  rw [climbF, if_pos ⟨h0, h1⟩, if_neg (by omega)]
  by_cases h3 : 0 ≤ (rd_T38 l c).f1
  · rw [climbF_le l _ c.toNat _ (Nat.lt_succ_self _) (by omega)]
  · have e : ∀ k, climbF l k (rd_T38 l c).f1 = [] := by
      intro k
      cases k with
      | zero => rfl
      | succ k => simp only [climbF]; rw [if_neg (by omega)]
    rw [e, e]
theorem climbL_last (l : List S38) (c : Int) (h0 : 0 ≤ c) (h1 : c < (l.length : Int)) (h2 : ¬ (rd_T38 l c).f1 < c) : climbL l c = [c] := by
  unfold climbL
  rw [climbF, if_pos ⟨h0, h1⟩, if_pos (by omega)]
theorem climbL_out (l : List S38) (c : Int) (h : ¬ (0 ≤ c ∧ c < (l.length : Int))) : climbL l c = [] := by
  unfold climbL
  rw [climbF, if_neg h]

set_option maxHeartbeats 800000 in
set_option maxRecDepth 100000 in
theorem climb_any (fid : Nat) (caps : Array Value) (A0 : Option Addr) (c0 : Nat) (l : List S38) (W0 : World) (hr : Kd.C k38 W0 A0 l.length l) (Inv : List Int → World → Prop) (Fin : World → Prop)
    (hB : ∀ xs W, Inv xs W → Below W0.heap.size W0 W) (hnil : ∀ W, Inv [] W → Fin W)
    (hstep : ∀ x xs W, Inv (x :: xs) W → Calls Tryz.prog fid (#[.int .i64 x] ++ caps) W fun e W' => (e = .returned (.bool true) ∧ Inv xs W') ∨ (e = .returned (.bool false) ∧ Fin W'))
    (hcf : ∀ (vs : Array Value) (w : World), Sem.run Tryz.prog (callFunc fid vs) w = .ok (.enter fid vs) w)
    (x0 : Int) (W : World) (h0 : Inv (climbL l x0) W) :
    Calls Tryz.prog 58 #[.slice A0 l.length c0, .int .i64 x0, .func (.func fid) #[] caps] W fun e W' => e = .returned (.tuple #[]) ∧ Fin W' := by
  have H0 := Aside0.mk h0
  have HN := Aside0.mk hnil
  have HS := Aside0.mk hstep
  have HB := Aside0.mk hB
  have HR := Aside0.mk hr
  clear h0 hnil hstep hB hr
  go_enter Tryz.func58, Tryz.ntmps58
  go_wp2
  go_loopw [1] (fun v wr => ∃ y : Int, v = .int .i64 y ∧ Aside0 (Inv (climbL l y) wr)) (fun v _ => (intOf v + 1).toNat)
  case atStart => exact ⟨x0, rfl, H0⟩
  case round =>
    obtain ⟨y, rfl, HI⟩ := hrel
    by_cases c1 : 0 ≤ y
    · have c1b : decide (0 ≤ y) = true := decide_eq_true c1
      by_cases c2 : y < (l.length : Int)
      · have c2b : decide (y < (l.length : Int)) = true := decide_eq_true c2
        obtain ⟨ad, A2, c3, e0, _, hx1, _, _, _⟩ := at_T38 HR.out y c1 c2
        subst e0
        have HX := Aside0.mk hx1
        clear hx1
        by_cases c3 : (rd_T38 l y).f1 < y
        · have HI2 := HI.out
          rw [climbL_in l y c1 c2 c3] at HI2
          have HC := Aside0.mk (HS.out _ _ _ HI2)
          have c3b : decide (y ≤ (rd_T38 l y).f1) = false := decide_eq_false (by omega)
          clear HI2
          go_wp2_with fail
          refine HC.out.mono ?_
          rintro e w1 (⟨rfl, h1⟩ | ⟨rfl, h1⟩)
          · have hB1 := HB.out _ _ h1
            have H1 := Aside0.mk h1
            have hx := (hB1.cell (World.block_lt_of_cell? W0 _ HX.out)).trans HX.out
            clear hB1 h1
            go_wp2
            go_roundw
            case rel => exact ⟨_, rfl, H1⟩
            case measure => simp [intOf]; omega
          · have H1 := Aside0.mk h1
            clear h1
            go_wp2
            go_end0
            exact ⟨rfl, H1.out⟩
        · have HI2 := HI.out
          rw [climbL_last l y c1 c2 c3] at HI2
          have HC := Aside0.mk (HS.out _ _ _ HI2)
          have c3b : decide (y ≤ (rd_T38 l y).f1) = true := decide_eq_true (by omega)
          clear HI2
          go_wp2_with fail
          refine HC.out.mono ?_
          rintro e w1 (⟨rfl, h1⟩ | ⟨rfl, h1⟩)
          · have hB1 := HB.out _ _ h1
            have H1 := Aside0.mk (HN.out _ h1)
            have hx := (hB1.cell (World.block_lt_of_cell? W0 _ HX.out)).trans HX.out
            clear hB1 h1
            go_wp2
            (try simp only [Exit.inBlock, Exit.then])
            refine bodyPost_ret (results_none rfl _ _ _) rfl ?_
            exact ⟨rfl, H1.out⟩
          · have H1 := Aside0.mk h1
            clear h1
            go_wp2
            go_end0
            exact ⟨rfl, H1.out⟩
      · have c2b : decide (y < (l.length : Int)) = false := decide_eq_false c2
        have HI2 := HI.out
        rw [climbL_out l y (by omega)] at HI2
        have H1 := Aside0.mk (HN.out _ HI2)
        clear HI2
        go_wp2
        go_end0
        exact ⟨rfl, H1.out⟩
    · have c1b : decide (0 ≤ y) = false := decide_eq_false c1
      have HI2 := HI.out
      rw [climbL_out l y (by omega)] at HI2
      have H1 := Aside0.mk (HN.out _ HI2)
      clear HI2
      go_wp2
      go_end0
      exact ⟨rfl, H1.out⟩
theorem callFunc_run {f : Nat} {fn : Func} (hf : Tryz.prog.funcs[f]? = some fn) (hname : (fn.name == "runtime.NumGoroutine") = false) (hb : fn.body.isSome = true) (vs : Array Value) (w : World) : Sem.run Tryz.prog (callFunc f vs) w = .ok (.enter f vs) w := enters_ hf hname hb vs w

theorem climbF_length (l : List S38) : ∀ (f : Nat) (c : Int), (climbF l f c).length ≤ f
  | 0, _ => Nat.le_refl _
  | f + 1, c => by
    simp only [climbF]
    split
    · split
      · simp
      · simpa using climbF_length l f _
    · simp
theorem climbL_length (l : List S38) (c : Int) : (climbL l c).length ≤ l.length := by
  by_cases h : 0 ≤ c ∧ c < (l.length : Int)
  · exact Nat.le_trans (climbF_length l _ c) (by omega)
  · rw [climbL_out l c h]; simp
theorem climbL_mem (l : List S38) (c : Int) : ∀ x ∈ climbL l c, 0 ≤ x ∧ x < (l.length : Int) := by
  have h : ∀ (f : Nat) (c : Int), ∀ x ∈ climbF l f c, 0 ≤ x ∧ x < (l.length : Int) := by
    intro f
    induction f with
    | zero => intro c x hx; cases hx
    | succ f ih =>
      intro c x hx
      simp only [climbF] at hx
      split at hx
      · rename_i h1
        rcases List.mem_cons.1 hx with rfl | h2
        · exact h1
        · split at h2
          · cases h2
          · exact ih _ x h2
      · cases hx
  exact h _ c

def types_class.f (l0 : List (S38)) (a1 : Int) : Option (Int) := if a1 < 16 then (some (-1)) else (if ((a1 - 16) % 256) ≥ (l0.length : Int) then (some (-1)) else (some ((a1 - 16) % 256)))
set_option maxHeartbeats 8000000 in
set_option maxRecDepth 100000 in
theorem types_class.calls (A0 : Option Addr) (c0 : Nat) (l0 : List (S38)) (a1 : Int) (r : Int) (w : World) (hr0 : Kd.C k38 w A0 l0.length l0) (hc0 : l0.length ≤ c0) (h : types_class.f l0 a1 = some r) :
    Calls Tryz.prog 75 #[.slice A0 l0.length c0, .int .u8 a1] w fun e w' => e = .returned (.int .i64 r) ∧ Drawn0 w w' := by
  have HR0 := Aside0.mk hr0
  have HC0 := Aside0.mk hc0
  clear hr0 hc0
  have H : (if a1 < 16 then (some (-1)) else (if ((a1 - 16) % 256) ≥ (l0.length : Int) then (some (-1)) else (some ((a1 - 16) % 256)))) = some r := h
  clear h
  by_cases c3 : a1 < 16
  · rw [if_pos c3] at H
    have c3b0 : decide (a1 < 16) = true := decide_eq_true c3
    clear c3
    obtain rfl := Option.some.inj H
    go_enter Tryz.func75, Tryz.ntmps75
    go_wp2
    go_ret
    exact ⟨by first | rfl | (simp; done) | (simp [*]; done), by repeat (first | exact Drawn0.refl _ | apply Drawn0.step)⟩
  · rw [if_neg c3] at H
    have c3b0 : decide (a1 < 16) = false := decide_eq_false c3
    clear c3
    by_cases c4 : ((a1 - 16) % 256) ≥ (l0.length : Int)
    · rw [if_pos c4] at H
      have c4b0 : decide ((l0.length : Int) ≤ ((a1 - 16) % 256)) = true := decide_eq_true c4
      clear c4
      obtain rfl := Option.some.inj H
      go_enter Tryz.func75, Tryz.ntmps75
      go_wp2
      go_ret
      exact ⟨by first | rfl | (simp; done) | (simp [*]; done), by repeat (first | exact Drawn0.refl _ | apply Drawn0.step)⟩
    · rw [if_neg c4] at H
      have c4b0 : decide ((l0.length : Int) ≤ ((a1 - 16) % 256)) = false := decide_eq_false c4
      clear c4
      obtain rfl := Option.some.inj H
      go_enter Tryz.func75, Tryz.ntmps75
      go_wp2
      go_ret
      exact ⟨by first | rfl | (simp; done) | (simp [*]; done), by repeat (first | exact Drawn0.refl _ | apply Drawn0.step)⟩

def types_stored.f (l0 : List (S38)) (a1 : Int) : Option (Bool) := if a1 = 1 then (some true) else (if a1 = 2 then (some true) else (if a1 = 4 then (some true) else (if a1 = 5 then (some true) else ((types_class.f l0 a1).bind fun t114 => (some (decide (t114 ≥ 0)))))))
set_option maxHeartbeats 8000000 in
set_option maxRecDepth 100000 in
theorem types_stored.calls (A0 : Option Addr) (c0 : Nat) (l0 : List (S38)) (a1 : Int) (r : Bool) (w : World) (hr0 : Kd.C k38 w A0 l0.length l0) (hc0 : l0.length ≤ c0) (h : types_stored.f l0 a1 = some r) :
    Calls Tryz.prog 60 #[.slice A0 l0.length c0, .int .u8 a1] w fun e w' => e = .returned (.bool r) ∧ Drawn0 w w' := by
  have HR0 := Aside0.mk hr0
  have HC0 := Aside0.mk hc0
  clear hr0 hc0
  have H : (if a1 = 1 then (some true) else (if a1 = 2 then (some true) else (if a1 = 4 then (some true) else (if a1 = 5 then (some true) else ((types_class.f l0 a1).bind fun t114 => (some (decide (t114 ≥ 0)))))))) = some r := h
  clear h
  by_cases c3 : a1 = 1
  · rw [if_pos c3] at H
    have c3b0 : (a1 == 1) = true := beq_iff_eq.mpr c3
    have c3b1 : (a1 != 1) = false := bne_eq_false_iff_eq.mpr c3
    clear c3
    obtain rfl := Option.some.inj H
    go_enter Tryz.func60, Tryz.ntmps60
    go_wp2
    go_ret
    exact ⟨by first | rfl | (simp; done) | (simp [*]; done), by repeat (first | exact Drawn0.refl _ | apply Drawn0.step)⟩
  · rw [if_neg c3] at H
    have c3b0 : (a1 == 1) = false := beq_eq_false_iff_ne.mpr c3
    have c3b1 : (a1 != 1) = true := bne_iff_ne.mpr c3
    by_cases c4 : a1 = 2
    · rw [if_pos c4] at H
      have c4b0 : (a1 == 2) = true := beq_iff_eq.mpr c4
      have c4b1 : (a1 != 2) = false := bne_eq_false_iff_eq.mpr c4
      clear c4
      obtain rfl := Option.some.inj H
      go_enter Tryz.func60, Tryz.ntmps60
      go_wp2
      go_ret
      exact ⟨by first | rfl | (simp; done) | (simp [*]; done), by repeat (first | exact Drawn0.refl _ | apply Drawn0.step)⟩
    · rw [if_neg c4] at H
      have c4b0 : (a1 == 2) = false := beq_eq_false_iff_ne.mpr c4
      have c4b1 : (a1 != 2) = true := bne_iff_ne.mpr c4
      by_cases c5 : a1 = 4
      · rw [if_pos c5] at H
        have c5b0 : (a1 == 4) = true := beq_iff_eq.mpr c5
        have c5b1 : (a1 != 4) = false := bne_eq_false_iff_eq.mpr c5
        clear c5
        obtain rfl := Option.some.inj H
        go_enter Tryz.func60, Tryz.ntmps60
        go_wp2
        go_ret
        exact ⟨by first | rfl | (simp; done) | (simp [*]; done), by repeat (first | exact Drawn0.refl _ | apply Drawn0.step)⟩
      · rw [if_neg c5] at H
        have c5b0 : (a1 == 4) = false := beq_eq_false_iff_ne.mpr c5
        have c5b1 : (a1 != 4) = true := bne_iff_ne.mpr c5
        by_cases c6 : a1 = 5
        · rw [if_pos c6] at H
          have c6b0 : (a1 == 5) = true := beq_iff_eq.mpr c6
          have c6b1 : (a1 != 5) = false := bne_eq_false_iff_eq.mpr c6
          clear c6
          obtain rfl := Option.some.inj H
          go_enter Tryz.func60, Tryz.ntmps60
          go_wp2
          go_ret
          exact ⟨by first | rfl | (simp; done) | (simp [*]; done), by repeat (first | exact Drawn0.refl _ | apply Drawn0.step)⟩
        · rw [if_neg c6] at H
          have c6b0 : (a1 == 5) = false := beq_eq_false_iff_ne.mpr c6
          have c6b1 : (a1 != 5) = true := bne_iff_ne.mpr c6
          replace H := Option.bind_eq_some_iff.mp H
          obtain ⟨t114, A70, H⟩ := H
          replace H : (some (decide (t114 ≥ 0))) = some r := H
          have A7 := Aside0.mk A70
          clear A70
          obtain rfl := Option.some.inj H
          go_enter Tryz.func60, Tryz.ntmps60
          go_wp2_with (first | (go_at_call 75; (with_reducible refine (types_class.calls _ _ l0 a1 t114 _ ?side1 ?side2 A7.out).mono ?_); (case side1 => repeat (first | exact HR0.out | (with_reducible refine Kd.C_alloc ?_ _) | (with_reducible refine Kd.C_drewN ?_ _) | (with_reducible refine Kd.C_drew ?_))); (case side2 => exact HC0.out); rintro e w' ⟨rfl, ⟨nd, rfl⟩⟩))
          go_ret
          exact ⟨by first | rfl | (simp; done) | (simp [*]; done), by repeat (first | exact Drawn0.refl _ | apply Drawn0.step)⟩

def namesOf (fs : List S41) : List ByteArray := fs.map (·.f0)
theorem names_next (fs : List S41) (i : Nat) (h : i < fs.length) : namesOf (fs.take (i + 1)) = namesOf (fs.take i) ++ [(rd_T41 fs i).f0] := by
  unfold namesOf
  rw [List.take_succ_eq_append_getElem h, List.map_append]
  simp [rd_T41, List.getD_eq_getElem?_getD, h]
theorem names_len (fs : List S41) (i : Nat) (h : i ≤ fs.length) : (namesOf (fs.take i)).length = i := by
  unfold namesOf
  rw [List.length_map, List.length_take]
  omega
set_option maxHeartbeats 1600000 in
set_option maxRecDepth 100000 in
theorem types_fields_step (w : World) (A0 : Option Addr) (c0 : Nat) (l : List S38) (hr : Kd.C k38 w A0 l.length l) (g0 g1 : Nat) (hg0 : w.heap.size ≤ g0) (hg1 : w.heap.size ≤ g1) (hne : g0 ≠ g1) (up : Int) (h0 : 0 ≤ up) (h1 : up < (l.length : Int)) (ys : List ByteArray) (v : Value) (W : World) (hB : Below w.heap.size w W)
    (hL : W.heap[g0]? = some (.cells #[.slice A0 l.length c0] 22 (0, 0))) (hM : W.heap[g1]? = some (.cells #[v] 72 (0, 0))) (hv : Kd.R Kd.string 9 W w.heap.size (fun _ => True) v ys) (hl : ys.length + (rd_T38 l up).f2.length < 8796093022208) :
    Calls Tryz.prog 59 #[.int .i64 up, .pointer (some ⟨g0, 0, none⟩), .pointer (some ⟨g1, 0, none⟩)] W fun e W' => e = .returned (.bool true) ∧ Below w.heap.size w W' ∧ W'.heap[g0]? = some (.cells #[.slice A0 l.length c0] 22 (0, 0)) ∧ ∃ v1 : Value, W'.heap[g1]? = some (.cells #[v1] 72 (0, 0)) ∧ Kd.R Kd.string 9 W' w.heap.size (fun _ => True) v1 (ys ++ namesOf (rd_T38 l up).f2) := by
  have hcL := blk_cell hL 0
  obtain ⟨ad2, A2, c2, e1, _, _, hx2, hl2, hi2⟩ := at_T38 hr up h0 h1
  cases e1
  replace hx2 := (hB.cell (World.block_lt_of_cell? w _ hx2)).trans hx2
  obtain ⟨fs, hfs⟩ : ∃ fs, fs = (rd_T38 l up).f2 := ⟨_, rfl⟩
  rw [← hfs] at hx2 hl2 hi2 hl ⊢
  have hlen : fs.length ≤ 9223372036854775807 := hi2.2.1
  have HL := Aside0.mk hL
  have HM := Aside0.mk hM
  have HV := Aside0.mk hv
  have HLIM := Aside0.mk hl
  have HF := Aside0.mk hi2
  have HB := Aside0.mk hB
  have HG0 := Aside0.mk hg0
  have HG1 := Aside0.mk hg1
  have p3 := eq_true h0
  have p4 := eq_true h1
  clear hL hM hv hl hi2 hB hg0 hg1 hfs h0 h1 hr
  go_enter Tryz.func59, Tryz.ntmps59
  go_wp2
  go_loopw [13] (fun v13 wr => ∃ i : Nat, v13 = .int .i64 (i : Int) ∧ i ≤ fs.length ∧ Aside0 (Below w.heap.size w wr) ∧ Aside0 (wr.heap[g0]? = some (.cells #[.slice (some ad2) l.length c0] 22 (0, 0))) ∧ ∃ v1 : Value, Aside0 (wr.heap[g1]? = some (.cells #[v1] 72 (0, 0))) ∧ Aside0 (Kd.R Kd.string 9 wr w.heap.size (fun _ => True) v1 (ys ++ namesOf (fs.take i)))) (fun v13 _ => ((fs.length : Int) - intOf v13).toNat)
  case atStart => exact ⟨0, rfl, Nat.zero_le _, HB, HL, v, HM, ⟨by simpa [namesOf] using HV.out⟩⟩
  case round =>
    obtain ⟨i, rfl, hi, HB, HL, v1, HM, HV⟩ := hrel
    by_cases c1 : (i : Int) < (fs.length : Int)
    · have c1b : decide ((i : Int) < (fs.length : Int)) = true := decide_eq_true c1
      have hi2 : i < fs.length := by omega
      obtain ⟨ad3, e3, hx0, hx1⟩ := at_T41 HF.out (i : Int) (by omega) c1
      cases e3
      replace hx0 := (HB.out.cell (World.block_lt_of_cell? w _ hx0)).trans hx0
      replace hx1 := (HB.out.cell (World.block_lt_of_cell? w _ hx1)).trans hx1
      simp only [Int.toNat_natCast] at hx0 hx1
      have p5 : (0 ≤ (i : Int)) = True := eq_true (by omega)
      have p6 := eq_true c1
      have HX := Aside0.mk (names_next fs i hi2)
      have HN := Aside0.mk (names_len fs i hi)
      go_upto_region 4 with (first | ((with_reducible refine gate_dst (N := 6) rfl ?_); refine box_event ?hg (N := 6) ?hd (cs := #[.string (⟨#[]⟩ : ByteArray), .int .u8 0]) (t := 41) ?hr ?_; (case hd => rfl); (case hg => rfl); (case hr => first | (go_simp; done) | (go_simp; rfl)); intro gb hg w5 hbox hb; have n1 := Aside0.mk hbox; have n2 := Aside0.mk hb; have n3 := Aside0.mk hg; have hcz0 := blk_cell hbox 0; have hcz1 := blk_cell hbox 1; have hfz0 := blk_frozen hbox 0; have hfz1 := blk_frozen hbox 1; clear hbox hb hg))
      have hlt0 := blk_lt HL.out
      have hlt1 := blk_lt HM.out
      have hgb := n3.out
      have hs := HB.out.size
      have m1 := Aside0.mk (blk_far (blk_far (blk_below HL.out n2.out) (p := ⟨gb, 0, none⟩) (by simp; omega) (.string (rd_T41 fs i).f0)) (p := ⟨gb, 1, none⟩) (by simp; omega) (.int .u8 (rd_T41 fs i).f1))
      have m2 := Aside0.mk (blk_far (blk_far (blk_below HM.out n2.out) (p := ⟨gb, 0, none⟩) (by simp; omega) (.string (rd_T41 fs i).f0)) (p := ⟨gb, 1, none⟩) (by simp; omega) (.int .u8 (rd_T41 fs i).f1))
      have m3 := Aside0.mk (((below_step HB.out n2.out).setCell (p := ⟨gb, 0, none⟩) (by simp; omega) (.string (rd_T41 fs i).f0)).setCell (p := ⟨gb, 1, none⟩) (by simp; omega) (.int .u8 (rd_T41 fs i).f1))
      have m4 := Aside0.mk (Kd.R_mono (Kd.R_far (p := ⟨gb, 1, none⟩) (Kd.R_far (p := ⟨gb, 0, none⟩) (Kd.R_below (Kd.R_elderB HV.out gb (Nat.le_of_eq n3.out.symm)) n2.out) (fun _ hk => hk.2) (.string (rd_T41 fs i).f0)) (fun _ hk => hk.2) (.int .u8 (rd_T41 fs i).f1)) (fun _ _ => trivial : ∀ k, _ → True))
      have m5 := Aside0.mk (blk_set (blk_set n1.out 0 (.string (rd_T41 fs i).f0)) 1 (.int .u8 (rd_T41 fs i).f1))
      generalize (w5.setCell ⟨gb, 0, none⟩ (.string (rd_T41 fs i).f0)).setCell ⟨gb, 1, none⟩ (.int .u8 (rd_T41 fs i).f1) = w6 at m1 m2 m3 m4 m5 ⊢
      clear n1 n2 n3 hcz0 hcz1 hfz0 hfz1 HL HM HB HV hlt0 hlt1 hgb hs
      have hzl : (ys ++ namesOf (fs.take i)).length = ys.length + i := by rw [List.length_append, HN.out]
      have HZL := Aside0.mk hzl
      clear hzl
      obtain ⟨zs, hzs⟩ : ∃ zs, zs = ys ++ namesOf (fs.take i) := ⟨_, rfl⟩
      rw [← hzs] at m4 HZL
      have HZ := Aside0.mk hzs
      clear hzs
      obtain ⟨Av, cv, e2⟩ := Kd.R_slice m4.out
      subst e2
      have hcb := blk_cell m5.out 0
      have hcm := blk_cell m2.out 0
      go_wp2_with (first | ((with_reducible refine gate_builtin (b := .append) (xs := #[.tmp 17, .tmp 20]) rfl ?_); at_builtin; refine Kd.R_append Kd.string (w0 := w) w.heap.size rfl (.tmp 17) (.tmp 20) 72 9 (.string ⟨#[]⟩) 16 rfl Tryz.underlying72 info9 rfl (by decide) (by omega) (.slice Av zs.length cv) zs ((rd_T41 fs i).f0) [.string ((rd_T41 fs i).f0)] (fun _ => True) (fun _ => False) rfl rfl ?aP (fun _ hk => hk.elim) ?aF ?aO ?aB ?aS ?aL ?_; (case aP => exact rfl); (case aB => exact m3.out); (case aF => exact (fun _ _ => trivial)); (case aO => exact m4.out); (case aS => exact m3.out.size); (case aL => have := HLIM.out; have h8 := HZL.out; omega); intro v1 w1 ho hb hg hat; obtain ⟨Aw, cw, e7⟩ := Kd.R_slice ho; subst e7; rw [List.length_append, List.length_singleton] at ho; have hI1 := blk_grown m2.out hg (Kd.R_ne m4.out m2.out (by decide)); have hI0 := blk_grown m1.out hg (Kd.R_ne m4.out m1.out (by decide)); have hc1 := blk_cell hI1 0; have hf1 := blk_frozen hI1 0; have HI1 := Aside0.mk hI1; have HI0 := Aside0.mk hI0; have HO := Aside0.mk ho; have HB := Aside0.mk hb; clear hI1 hI0 ho hb hg hat))
      go_roundw
      case rel => exact ⟨i + 1, rfl, by omega, ⟨HB.out.setCell HG1.out _⟩, ⟨blk_far HI0.out (by simpa using hne) _⟩, _, ⟨blk_set HI1.out 0 _⟩, ⟨by rw [HX.out, ← List.append_assoc, ← HZ.out]; exact Kd.R_set HO.out HI1.out (by decide) _ _⟩⟩
      case measure => simp [intOf]; omega
    · have c1b : decide ((i : Int) < (fs.length : Int)) = false := decide_eq_false c1
      have e9 : fs.take i = fs := List.take_of_length_le (by omega)
      rw [e9] at HV
      go_wp2
      go_ret
      exact ⟨rfl, HB.out, HL.out, v1, HM.out, HV.out⟩

def metOf (l : List S38) (line : List Int) : List ByteArray := line.flatMap fun u => namesOf (rd_T38 l u).f2
def types_fields.l0 : Nat → List S38 → List S41 → Nat → List ByteArray → Option Int
  | 0, _, _, _, _ => none
  | k + 1, l, fs, i, met => if i < fs.length then ((wire_IsName.f k (rd_T41 fs i).f0).bind fun a => if a = true then ((slices_Contains_string_string.f k met (rd_T41 fs i).f0).bind fun b => if b = true then some 20 else ((types_stored.f l (rd_T41 fs i).f1).bind fun c => if c = true then (if met.length < 8796093022208 then types_fields.l0 k l fs (i + 1) (met ++ [(rd_T41 fs i).f0]) else none) else some 22)) else some 6) else some (if (met.length : Int) > 32 then 4 else 0)
def types_fields.f (k : Nat) (l : List S38) (c : Int) : Option Int :=
  if 0 ≤ c ∧ c < (l.length : Int) ∧ (metOf l (climbL l (rd_T38 l c).f1)).length < 8796093022208 then types_fields.l0 k l (rd_T38 l c).f2 0 (metOf l (climbL l (rd_T38 l c).f1)) else none
structure FieldsMet (w : World) (A0 : Option Addr) (c0 : Nat) (l : List S38) (r : List ByteArray) (xs : List Int) (W : World) : Prop where
  below : Below w.heap.size w W
  lies : W.heap[w.heap.size]? = some (.cells #[.slice A0 l.length c0] 22 (0, 0))
  met : ∃ (v : Value) (ys : List ByteArray), W.heap[w.heap.size + 1]? = some (.cells #[v] 72 (0, 0)) ∧ Kd.R Kd.string 9 W w.heap.size (fun _ => True) v ys ∧ ys ++ metOf l xs = r
theorem FieldsMet.drew {w : World} {A0 : Option Addr} {c0 : Nat} {l : List S38} {r : List ByteArray} {xs : List Int} {W : World} (h : FieldsMet w A0 c0 l r xs W) : FieldsMet w A0 c0 l r xs W.drew :=
  ⟨below_drew1 h.below, blk_drew h.lies, by obtain ⟨v, ys, h1, h2, h3⟩ := h.met; exact ⟨v, ys, blk_drew h1, Kd.R_drew h2, h3⟩⟩
theorem FieldsMet.drewN {w : World} {A0 : Option Addr} {c0 : Nat} {l : List S38} {r : List ByteArray} {xs : List Int} {W : World} (h : FieldsMet w A0 c0 l r xs W) (m : Nat) : FieldsMet w A0 c0 l r xs (W.drewN m) :=
  ⟨pw_below_drewN h.below m, blk_drewN h.lies m, by obtain ⟨v, ys, h1, h2, h3⟩ := h.met; exact ⟨v, ys, blk_drewN h1 m, Kd.R_drewN h2 m, h3⟩⟩
theorem FieldsMet.both {w : World} {A0 : Option Addr} {c0 : Nat} {l : List S38} {r : List ByteArray} {W : World} {p : Addr} {u : Value} (hp : w.cell? p = some u) (h : ∃ xs, FieldsMet w A0 c0 l r xs W) : W.cell? ⟨w.heap.size, 0, none⟩ = some (.slice A0 l.length c0) ∧ W.cell? p = some u ∧ ∃ xs, FieldsMet w A0 c0 l r xs W := by
  obtain ⟨xs, h⟩ := h
  exact ⟨blk_cell h.lies 0, (h.below.cell (World.block_lt_of_cell? w _ hp)).trans hp, xs, h⟩
structure FieldsAt (w : World) (A0 : Option Addr) (c0 : Nat) (l : List S38) (v : Value) (zs : List ByteArray) (W : World) : Prop where
  below : Below w.heap.size w W
  lies : W.heap[w.heap.size]? = some (.cells #[.slice A0 l.length c0] 22 (0, 0))
  met : W.heap[w.heap.size + 1]? = some (.cells #[v] 72 (0, 0))
  row : Kd.R Kd.string 9 W w.heap.size (fun _ => True) v zs
theorem FieldsAt.drewN {w : World} {A0 : Option Addr} {c0 : Nat} {l : List S38} {v : Value} {zs : List ByteArray} {W : World} (h : FieldsAt w A0 c0 l v zs W) (m : Nat) : FieldsAt w A0 c0 l v zs (W.drewN m) :=
  ⟨pw_below_drewN h.below m, blk_drewN h.lies m, blk_drewN h.met m, Kd.R_drewN h.row m⟩
theorem FieldsAt.box {w : World} {A0 : Option Addr} {c0 : Nat} {l : List S38} {v : Value} {zs : List ByteArray} {W W5 : World} (h : FieldsAt w A0 c0 l v zs W) {gb : Nat} (hg : gb = W.heap.size) (hb : Below W.heap.size W W5) (s t : Value) : FieldsAt w A0 c0 l v zs ((W5.setCell ⟨gb, 0, none⟩ s).setCell ⟨gb, 1, none⟩ t) := by
  have hlt0 := blk_lt h.lies
  have hlt1 := blk_lt h.met
  have hs := h.below.size
  exact ⟨((below_step h.below hb).setCell (p := ⟨gb, 0, none⟩) (by simp; omega) s).setCell (p := ⟨gb, 1, none⟩) (by simp; omega) t,
    blk_far (blk_far (blk_below h.lies hb) (p := ⟨gb, 0, none⟩) (by simp; omega) s) (p := ⟨gb, 1, none⟩) (by simp; omega) t,
    blk_far (blk_far (blk_below h.met hb) (p := ⟨gb, 0, none⟩) (by simp; omega) s) (p := ⟨gb, 1, none⟩) (by simp; omega) t,
    Kd.R_mono (Kd.R_far (p := ⟨gb, 1, none⟩) (Kd.R_far (p := ⟨gb, 0, none⟩) (Kd.R_below (Kd.R_elderB h.row gb (Nat.le_of_eq hg.symm)) hb) (fun _ hk => hk.2) s) (fun _ hk => hk.2) t) (fun _ _ => trivial : ∀ k, _ → True)⟩
set_option maxHeartbeats 3200000 in
set_option maxRecDepth 100000 in
theorem types_fields.calls (k : Nat) (A0 : Option Addr) (c0 : Nat) (l0 : List S38) (a1 : Int) (r : Int) (w : World) (hr0 : Kd.C k38 w A0 l0.length l0) (hc0 : l0.length ≤ c0) (h : types_fields.f k l0 a1 = some r) :
    Calls Tryz.prog 40 #[.slice A0 l0.length c0, .int .i64 a1] w fun e w' => e = .returned (.int .i64 r) ∧ Below w.heap.size w w' := by
  have hmf : ∀ (fn : Fn) (first cap : Array Value) (w : World), (Instr.makeFunc fn first cap).run Tryz.prog w = .ok (.func fn first cap) w := fun _ _ _ _ => rfl
  obtain ⟨h0, h1, hlim, hres⟩ : 0 ≤ a1 ∧ a1 < (l0.length : Int) ∧ (metOf l0 (climbL l0 (rd_T38 l0 a1).f1)).length < 8796093022208 ∧ types_fields.l0 k l0 (rd_T38 l0 a1).f2 0 (metOf l0 (climbL l0 (rd_T38 l0 a1).f1)) = some r := by
    unfold types_fields.f at h
    split at h
    · rename_i h9
      exact ⟨h9.1, h9.2.1, h9.2.2, h⟩
    · cases h
  have HR := Aside0.mk hr0
  have HC := Aside0.mk hc0
  have HRES := Aside0.mk hres
  have HLIM := Aside0.mk hlim
  obtain ⟨ad2, A2, c2, e1, _, hy2, hx2, hl2, hi2⟩ := at_T38 hr0 a1 h0 h1
  cases e1
  have HY := Aside0.mk hy2
  have HX := Aside0.mk hx2
  have HF := Aside0.mk hi2
  have HFC := Aside0.mk hl2
  have p1 := eq_true h0
  have p2 := eq_true h1
  clear hr0 hc0 h hlim hres hy2 hx2 hl2 hi2
  go_enter Tryz.func40, Tryz.ntmps40
  go_wp2_with fail
  obtain ⟨line, hline⟩ : ∃ line, line = climbL l0 (rd_T38 l0 a1).f1 := ⟨_, rfl⟩
  have hM0 : FieldsMet w (some ad2) c0 l0 (metOf l0 line) line ((w.alloc (.cells #[.slice (some ad2) l0.length c0] 22)).alloc (.cells #[.slice none 0 0] 72)) :=
    ⟨below_alloc (below_alloc (Below.refl _ _) _) _, blk_alloc (blk_new _ _) _, .slice none 0 0, [], by
      have := blk_new (w.alloc (.cells #[.slice (some ad2) l0.length c0] 22)) (.cells #[.slice none 0 0] 72)
      simpa using this, Kd.R_nil _ _ _ _ _, rfl⟩
  rw [← hline] at HLIM HRES
  generalize (w.alloc (.cells #[.slice (some ad2) l0.length c0] 22)).alloc (.cells #[.slice none 0 0] 72) = w2 at hM0 ⊢
  have hcall : ∀ W, FieldsMet w (some ad2) c0 l0 (metOf l0 line) line W → Calls Tryz.prog 58 #[.slice (some ad2) l0.length c0, .int .i64 (rd_T38 l0 a1).f1, .func (.func 59) #[] #[.pointer (some ⟨w.heap.size, 0, none⟩), .pointer (some ⟨w.heap.size + 1, 0, none⟩)]] W fun e W' => e = .returned (.tuple #[]) ∧ FieldsMet w (some ad2) c0 l0 (metOf l0 line) [] W' := fun W hW => by
    have hmem := climbL_mem l0 (rd_T38 l0 a1).f1
    rw [← hline] at hmem
    refine (climb_any 59 _ (some ad2) c0 l0 w HR.out (fun xs W => FieldsMet w (some ad2) c0 l0 (metOf l0 line) xs W ∧ ∀ x ∈ xs, 0 ≤ x ∧ x < (l0.length : Int)) (FieldsMet w (some ad2) c0 l0 (metOf l0 line) []) (fun _ _ h => h.1.below) (fun _ h => h.1) ?_ (callFunc_run Tryz.func59 (by kernel_rfl) (by kernel_rfl)) _ W (by rw [← hline]; exact ⟨hW, hmem⟩))
    rintro x xs W ⟨⟨g1, g2, v, ys, g3, g4, g5⟩, g6⟩
    have hx := g6 x List.mem_cons_self
    have hcons : metOf l0 (x :: xs) = namesOf (rd_T38 l0 x).f2 ++ metOf l0 xs := rfl
    rw [hcons, ← List.append_assoc] at g5
    have hlen := congrArg List.length g5
    rw [List.length_append, List.length_append] at hlen
    have hnl : (namesOf (rd_T38 l0 x).f2).length = (rd_T38 l0 x).f2.length := by unfold namesOf; rw [List.length_map]
    have := HLIM.out
    refine (types_fields_step w (some ad2) c0 l0 HR.out w.heap.size (w.heap.size + 1) (Nat.le_refl _) (Nat.le_succ _) (by omega) x hx.1 hx.2 ys v W g1 g2 g3 g4 (by omega)).mono ?_
    rintro e W' ⟨rfl, k1, k2, v1, k3, k4⟩
    exact .inl ⟨rfl, ⟨k1, k2, v1, _, k3, k4, g5⟩, fun y hy => g6 y (List.mem_cons_of_mem _ hy)⟩
  have HCALL := Aside0.mk hcall
  clear hcall
  have hS1 := blk_cell hM0.lies 0
  have hY2 := (hM0.below.cell (World.block_lt_of_cell? w _ HY.out)).trans HY.out
  go_region_held3 (fun w' => w'.cell? ⟨w.heap.size, 0, none⟩ = some (.slice (some ad2) l0.length c0) ∧ w'.cell? ⟨(ad2.add (a1.toNat * 3)).block, (ad2.add (a1.toNat * 3)).off + 1, none⟩ = some (.int .i64 (rd_T38 l0 a1).f1) ∧ ∃ xs, FieldsMet w (some ad2) c0 l0 (metOf l0 line) xs w')
    (first | (refine FieldsMet.both HY.out ?_; (first | exact ⟨_, hfin⟩ | (refine ⟨line, ?_⟩; (repeat (first | exact hM0 | refine FieldsMet.drew ?_ | refine FieldsMet.drewN ?_ _))))))
    (first | (go_at_call 58; (with_reducible refine (HCALL.out _ ?hr1).mono ?_); (case hr1 => (repeat (first | exact hM0 | refine FieldsMet.drew ?_ | refine FieldsMet.drewN ?_ _))); rintro e w9 ⟨rfl, hfin⟩))
  obtain ⟨g1, g2, v0, zs0, g3, g4, g5⟩ := hfin
  have g6 : zs0 = metOf l0 line := by rw [← g5]; exact (List.append_nil _).symm
  subst g6
  have hAt : FieldsAt w (some ad2) c0 l0 v0 (metOf l0 line) w9 := ⟨g1, g2, g3, g4⟩
  have HAT := Aside0.mk hAt
  have hcL := blk_cell g2 0
  obtain ⟨fs, hfs⟩ : ∃ fs, fs = (rd_T38 l0 a1).f2 := ⟨_, rfl⟩
  rw [← hfs] at HX HF HFC HRES
  have hX2 := (g1.cell (World.block_lt_of_cell? w _ HX.out)).trans HX.out
  have hlen : fs.length ≤ 9223372036854775807 := HF.out.2.1
  clear hfs hline hS1 hY2 g1 g2 g3 g4 g5 hM0 HCALL HLIM hAt
  go_wp2
  go_loopw [22] (fun v22 wr => ∃ (i kq : Nat) (zs : List ByteArray) (v : Value), v22 = .int .i64 (i : Int) ∧ i ≤ fs.length ∧ Aside0 (types_fields.l0 kq l0 fs i zs = some r) ∧ Aside0 (FieldsAt w (some ad2) c0 l0 v zs wr)) (fun v22 _ => ((fs.length : Int) - intOf v22).toNat)
  case atStart => exact ⟨0, k, _, _, rfl, Nat.zero_le _, HRES, HAT⟩
  case round =>
    obtain ⟨i, kq, zs, v, rfl, hi, HH, HAT⟩ := hrel
    cases kq with
    | zero => exact absurd HH.out (by simp [types_fields.l0])
    | succ kq =>
    have H := HH.out
    clear HH
    unfold types_fields.l0 at H
    obtain ⟨Av, cv, e5⟩ := Kd.R_slice HAT.out.row
    subst e5
    by_cases c1 : i < fs.length
    · rw [if_pos c1] at H
      have c1b : decide ((i : Int) < (fs.length : Int)) = true := decide_eq_true (by omega)
      obtain ⟨b1, B1, H⟩ := Option.bind_eq_some_iff.mp H
      have HB1 := Aside0.mk B1
      have HH := Aside0.mk H
      clear B1 H
      obtain ⟨ad3, e3, hx0, hx1⟩ := at_T41 HF.out (i : Int) (by omega) (by omega)
      cases e3
      replace hx0 := (HAT.out.below.cell (World.block_lt_of_cell? w _ hx0)).trans hx0
      replace hx1 := (HAT.out.below.cell (World.block_lt_of_cell? w _ hx1)).trans hx1
      simp only [Int.toNat_natCast] at hx0 hx1
      have p5 : (0 ≤ (i : Int)) = True := eq_true (by omega)
      have p6 : ((i : Int) < (fs.length : Int)) = True := eq_true (by omega)
      go_upto_region 6 with (first | ((with_reducible refine gate_dst (N := 7) rfl ?_); refine box_event ?hg (N := 7) ?hd (cs := #[.string (⟨#[]⟩ : ByteArray), .int .u8 0]) (t := 41) ?hr ?_; (case hd => rfl); (case hg => rfl); (case hr => first | (go_simp; done) | (go_simp; rfl)); intro gb hg w5 hbox hb; have n1 := Aside0.mk hbox; have n2 := Aside0.mk hb; have n3 := Aside0.mk hg; have hcz0 := blk_cell hbox 0; have hcz1 := blk_cell hbox 1; have hfz0 := blk_frozen hbox 0; have hfz1 := blk_frozen hbox 1; clear hbox hb hg))
      have hA := HAT.out.box n3.out n2.out (.string (rd_T41 fs i).f0) (.int .u8 (rd_T41 fs i).f1)
      have m5 := blk_set (blk_set n1.out 0 (.string (rd_T41 fs i).f0)) 1 (.int .u8 (rd_T41 fs i).f1)
      generalize (w5.setCell ⟨gb, 0, none⟩ (.string (rd_T41 fs i).f0)).setCell ⟨gb, 1, none⟩ (.int .u8 (rd_T41 fs i).f1) = w6 at hA m5 ⊢
      clear n1 n2 n3 hcz0 hcz1 hfz0 hfz1 hx0 hx1 HAT
      have HAT := Aside0.mk hA
      have M5 := Aside0.mk m5
      have hcb0 := blk_cell m5 0
      clear hA m5
      go_wp2_with fail
      refine (wire_IsName.calls kq _ b1 _ HB1.out).mono ?_
      rintro e w7 ⟨rfl, m, rfl⟩
      have hA := HAT.out.drewN m
      have m5 := blk_drewN M5.out m
      generalize w6.drewN m = w7 at hA m5 ⊢
      clear HAT M5 hcb0
      have HAT := Aside0.mk hA
      have M5 := Aside0.mk m5
      clear hA m5
      by_cases d1 : b1 = true
      · subst d1
        have H := HH.out
        rw [if_pos rfl] at H
        obtain ⟨b2, B2, H⟩ := Option.bind_eq_some_iff.mp H
        have HB2 := Aside0.mk B2
        clear HH
        have HH := Aside0.mk H
        clear B2 H
        have hcb0 := blk_cell M5.out 0
        have hcm := blk_cell HAT.out.met 0
        go_wp2_with fail
        refine (slices_Contains_string_string.calls kq Av cv zs _ b2 _ (Kd.R_reads' HAT.out.row).2.2 (Kd.R_reads' HAT.out.row).2.1 HB2.out).mono ?_
        rintro e w8 ⟨rfl, m, rfl⟩
        have hA := HAT.out.drewN m
        have m5 := blk_drewN M5.out m
        generalize w7.drewN m = w8 at hA m5 ⊢
        clear HAT M5 hcb0 hcm
        have HAT := Aside0.mk hA
        have M5 := Aside0.mk m5
        clear hA m5
        by_cases d2 : b2 = true
        · subst d2
          have H := HH.out
          rw [if_pos rfl] at H
          obtain rfl := Option.some.inj H
          clear H HH
          go_wp2
          go_ret
          exact ⟨rfl, HAT.out.below⟩
        · replace d2 := Bool.eq_false_iff.mpr d2
          subst d2
          have H := HH.out
          rw [if_neg (by decide)] at H
          obtain ⟨b3, B3, H⟩ := Option.bind_eq_some_iff.mp H
          have HB3 := Aside0.mk B3
          clear HH
          have HH := Aside0.mk H
          clear B3 H
          have hcb1 := blk_cell M5.out 1
          have hcl := blk_cell HAT.out.lies 0
          go_wp2_with fail
          refine (types_stored.calls (some ad2) c0 l0 _ b3 _ (Kd.C_below HR.out HAT.out.below) HC.out HB3.out).mono ?_
          rintro e w9 ⟨rfl, m, rfl⟩
          have hA := HAT.out.drewN m
          have m5 := blk_drewN M5.out m
          generalize w8.drewN m = w9 at hA m5 ⊢
          clear HAT M5 hcb1 hcl
          have HAT := Aside0.mk hA
          have M5 := Aside0.mk m5
          clear hA m5
          by_cases d3 : b3 = true
          · subst d3
            have H := HH.out
            rw [if_pos rfl] at H
            by_cases d4 : zs.length < 8796093022208
            · rw [if_pos d4] at H
              have HLIM := Aside0.mk d4
              clear HH d4
              have HH := Aside0.mk H
              clear H
              have hcb0 := blk_cell M5.out 0
              have hcm := blk_cell HAT.out.met 0
              go_wp2_with (first | ((with_reducible refine gate_builtin (b := .append) (xs := #[.tmp 42, .tmp 45]) rfl ?_); at_builtin; refine Kd.R_append Kd.string (w0 := w) w.heap.size rfl (.tmp 42) (.tmp 45) 72 9 (.string ⟨#[]⟩) 16 rfl Tryz.underlying72 info9 rfl (by decide) (by omega) (.slice Av zs.length cv) zs ((rd_T41 fs i).f0) [.string ((rd_T41 fs i).f0)] (fun _ => True) (fun _ => False) rfl rfl ?aP (fun _ hk => hk.elim) ?aF ?aO ?aB ?aS ?aL ?_; (case aP => exact rfl); (case aB => exact HAT.out.below); (case aF => exact (fun _ _ => trivial)); (case aO => exact HAT.out.row); (case aS => exact HAT.out.below.size); (case aL => have h8 := HLIM.out; omega); intro v1 w1 ho hb hg hat; obtain ⟨Aw, cw, e7⟩ := Kd.R_slice ho; subst e7; rw [List.length_append, List.length_singleton] at ho; have hI1 := blk_grown HAT.out.met hg (Kd.R_ne HAT.out.row HAT.out.met (by decide)); have hI0 := blk_grown HAT.out.lies hg (Kd.R_ne HAT.out.row HAT.out.lies (by decide)); have hc1 := blk_cell hI1 0; have hf1 := blk_frozen hI1 0; have HI1 := Aside0.mk hI1; have HI0 := Aside0.mk hI0; have HO := Aside0.mk ho; have HB := Aside0.mk hb; clear hI1 hI0 ho hb hg hat))
              go_roundw
              case rel => exact ⟨i + 1, kq, _, _, rfl, by omega, HH, ⟨HB.out.setCell (Nat.le_succ _) _, blk_far HI0.out (by simp) _, blk_set HI1.out 0 _, Kd.R_set HO.out HI1.out (by decide) _ _⟩⟩
              case measure => simp [intOf]; omega
            · rw [if_neg d4] at H
              cases H
          · replace d3 := Bool.eq_false_iff.mpr d3
            subst d3
            have H := HH.out
            rw [if_neg (by decide)] at H
            obtain rfl := Option.some.inj H
            clear H HH
            go_wp2
            go_ret
            exact ⟨rfl, HAT.out.below⟩
      · replace d1 := Bool.eq_false_iff.mpr d1
        subst d1
        have H := HH.out
        rw [if_neg (by decide)] at H
        obtain rfl := Option.some.inj H
        clear H HH
        go_wp2
        go_ret
        exact ⟨rfl, HAT.out.below⟩
    · rw [if_neg c1] at H
      have c1b : decide ((i : Int) < (fs.length : Int)) = false := decide_eq_false (by omega)
      have hcm := blk_cell HAT.out.met 0
      by_cases d1 : (zs.length : Int) > 32
      · have d1b : decide ((32 : Int) < (zs.length : Int)) = true := decide_eq_true d1
        have d1c : decide (32 < zs.length) = true := decide_eq_true (by omega)
        rw [if_pos d1] at H
        obtain rfl := Option.some.inj H
        clear d1 H
        go_wp2
        go_ret
        exact ⟨rfl, HAT.out.below⟩
      · have d1b : decide ((32 : Int) < (zs.length : Int)) = false := decide_eq_false d1
        have d1c : decide (32 < zs.length) = false := decide_eq_false (by omega)
        rw [if_neg d1] at H
        obtain rfl := Option.some.inj H
        clear d1 H
        go_wp2
        go_ret
        exact ⟨rfl, HAT.out.below⟩

structure CheckAt (w : World) (gb : Nat) (x : S38) (A2 : Option Addr) (c2 : Nat) (W : World) : Prop where
  below : Below w.heap.size w W
  box : W.heap[gb]? = some (.cells #[.string x.f0, .int .i64 x.f1, .slice A2 x.f2.length c2] 38 (0, 0))
theorem CheckAt.drew {w : World} {gb : Nat} {x : S38} {A2 : Option Addr} {c2 : Nat} {W : World} (h : CheckAt w gb x A2 c2 W) : CheckAt w gb x A2 c2 W.drew := ⟨below_drew1 h.below, blk_drew h.box⟩
theorem CheckAt.drewN {w : World} {gb : Nat} {x : S38} {A2 : Option Addr} {c2 : Nat} {W : World} (h : CheckAt w gb x A2 c2 W) (m : Nat) : CheckAt w gb x A2 c2 (W.drewN m) := ⟨pw_below_drewN h.below m, blk_drewN h.box m⟩
theorem CheckAt.step {w : World} {gb : Nat} {x : S38} {A2 : Option Addr} {c2 : Nat} {W W' : World} (h : CheckAt w gb x A2 c2 W) (hb : Below W.heap.size W W') : CheckAt w gb x A2 c2 W' := ⟨below_step h.below hb, blk_below h.box hb⟩
theorem CheckAt.both {w : World} {gb : Nat} {x : S38} {A2 : Option Addr} {c2 : Nat} {W : World} (h : CheckAt w gb x A2 c2 W) : W.cell? ⟨gb, 0, none⟩ = some (.string x.f0) ∧ CheckAt w gb x A2 c2 W := ⟨blk_cell h.box 0, h⟩
set_option maxHeartbeats 800000 in
set_option maxRecDepth 100000 in
theorem types_Check_step (w : World) (gb : Nat) (y : S38) (A3 : Option Addr) (c3 : Nat) (x : S38) (A2 : Option Addr) (c2 : Nat) (W : World) (h : CheckAt w gb y A3 c3 W) :
    Calls Tryz.prog 39 (#[.agg #[.string x.f0, .int .i64 x.f1, .slice A2 x.f2.length c2]] ++ #[.pointer (some ⟨gb, 0, none⟩)]) W fun e W' => e = .returned (.bool (x.f0.toList == y.f0.toList)) ∧ CheckAt w gb y A3 c3 W' := by
  have HB := Aside0.mk h
  have hlt := blk_lt h.box
  have h2 := blk_alloc h.box (.cells #[.string x.f0, .int .i64 x.f1, .slice A2 x.f2.length c2] 38 (0, 0))
  have hc := blk_cell h2 0
  have H3 := Aside0.mk (CheckAt.mk (below_alloc h.below (.cells #[.string x.f0, .int .i64 x.f1, .slice A2 x.f2.length c2] 38 (0, 0))) h2)
  clear h h2
  show Calls Tryz.prog 39 #[.agg #[.string x.f0, .int .i64 x.f1, .slice A2 x.f2.length c2], .pointer (some ⟨gb, 0, none⟩)] W _
  go_enter Tryz.func39, Tryz.ntmps39
  go_wp2
  go_ret
  exact ⟨rfl, H3.out⟩
def types_Check.l0 : Nat → List S38 → Nat → Option (Int × Int)
  | 0, _, _ => none
  | k + 1, l, i => if i < l.length then ((if i ≥ 32 then some 4 else ((wire_IsName.f k (rd_T38 l i).f0).bind fun a => if a = true then (types_words.f.bind fun ws => (slices_Contains_string_string.f k ws (rd_T38 l i).f0).bind fun b => if b = true then some 6 else (if ((l.take i).any fun x => x.f0.toList == (rd_T38 l i).f0.toList) = true then some 20 else (if (rd_T38 l i).f1 < -1 ∨ (rd_T38 l i).f1 ≥ i then some 21 else types_fields.f k l i))) else some 6)).bind fun e => if e = 0 then types_Check.l0 k l (i + 1) else some ((i : Int), e)) else some (0, 0)
def types_Check.f (k : Nat) (l : List S38) : Option (Int × Int) := types_Check.l0 k l 0
theorem check_exit {K : Act → World → Prop} {Q : Exit → Act → World → Prop} {e : Exit} {a : Act} {W : World} (Pm : World → Prop) (hP : Pm W) (h : ∀ W', Pm W' → Exit.then K Q e a W') : Exit.then K Q e a W := h W hP
set_option maxHeartbeats 6400000 in
set_option maxRecDepth 100000 in
theorem types_Check.calls (k : Nat) (A0 : Option Addr) (c0 : Nat) (l0 : List S38) (r1 : Int) (r2 : Int) (w : World) (hr0 : Kd.C k38 w A0 l0.length l0) (hc0 : l0.length ≤ c0) (h : types_Check.f k l0 = some (r1, r2)) :
    Calls Tryz.prog 11 #[.slice A0 l0.length c0] w fun e w' => e = .returned (.tuple #[.int .i64 r1, .int .i64 r2]) ∧ Below w.heap.size w w' := by
  have hmf : ∀ (fn : Fn) (first cap : Array Value) (w : World), (Instr.makeFunc fn first cap).run Tryz.prog w = .ok (.func fn first cap) w := fun _ _ _ _ => rfl
  have HR := Aside0.mk hr0
  have HC := Aside0.mk hc0
  have hlen : l0.length ≤ 9223372036854775807 := hr0.2.1
  have HRES := Aside0.mk h
  unfold types_Check.f at HRES
  clear hr0 hc0 h
  go_enter Tryz.func11, Tryz.ntmps11
  go_wp2
  go_loopw [9] (fun v9 wr => ∃ (i kq : Nat), v9 = .int .i64 (i : Int) ∧ i ≤ l0.length ∧ Aside0 (types_Check.l0 kq l0 i = some (r1, r2)) ∧ Aside0 (Below w.heap.size w wr)) (fun v9 _ => ((l0.length : Int) - intOf v9).toNat)
  case atStart => exact ⟨0, k, rfl, Nat.zero_le _, HRES, ⟨Below.refl _ _⟩⟩
  case round =>
    obtain ⟨i, kq, rfl, hi, HH, HB⟩ := hrel
    cases kq with
    | zero => exact absurd HH.out (by simp [types_Check.l0])
    | succ kq =>
    have H := HH.out
    clear HH
    unfold types_Check.l0 at H
    by_cases c1 : i < l0.length
    · rw [if_pos c1] at H
      have c1b : decide ((i : Int) < (l0.length : Int)) = true := decide_eq_true (by omega)
      obtain ⟨e0, E0, H⟩ := Option.bind_eq_some_iff.mp H
      have HE := Aside0.mk E0
      have HH := Aside0.mk H
      clear E0 H
      obtain ⟨ad, A2, c2, e1, hx0, hx1, hx2, hl2, hi2⟩ := at_T38 HR.out (i : Int) (by omega) (by omega)
      cases e1
      replace hx0 := (HB.out.cell (World.block_lt_of_cell? w _ hx0)).trans hx0
      replace hx1 := (HB.out.cell (World.block_lt_of_cell? w _ hx1)).trans hx1
      replace hx2 := (HB.out.cell (World.block_lt_of_cell? w _ hx2)).trans hx2
      simp only [Int.toNat_natCast] at hx0 hx1 hx2
      clear hl2 hi2
      have p5 : (0 ≤ (i : Int)) = True := eq_true (by omega)
      have p6 : ((i : Int) < (l0.length : Int)) = True := eq_true (by omega)
      go_upto_region 4 with (first | ((with_reducible refine gate_dst (N := 5) rfl ?_); refine box_event ?hg (N := 5) ?hd (cs := #[.string (⟨#[]⟩ : ByteArray), .int .i64 0, .slice none 0 0]) (t := 38) ?hr ?_; (case hd => rfl); (case hg => rfl); (case hr => first | (go_simp; done) | (go_simp; rfl)); intro gb hg w5 hbox hb; have n1 := Aside0.mk hbox; have n2 := Aside0.mk hb; have n3 := Aside0.mk hg; have hcz0 := blk_cell hbox 0; have hcz1 := blk_cell hbox 1; have hcz2 := blk_cell hbox 2; have hfz0 := blk_frozen hbox 0; have hfz1 := blk_frozen hbox 1; have hfz2 := blk_frozen hbox 2; clear hbox hb hg))
      have hs := HB.out.size
      have hgb := n3.out
      obtain ⟨x, hx⟩ : ∃ x, x = rd_T38 l0 (i : Int) := ⟨_, rfl⟩
      rw [← hx] at HE ⊢
      have hA : CheckAt w gb x A2 c2 (((w5.setCell ⟨gb, 0, none⟩ (.string x.f0)).setCell ⟨gb, 1, none⟩ (.int .i64 x.f1)).setCell ⟨gb, 2, none⟩ (.slice A2 x.f2.length c2)) :=
        ⟨(((below_step HB.out n2.out).setCell (p := ⟨gb, 0, none⟩) (by simp; omega) _).setCell (p := ⟨gb, 1, none⟩) (by simp; omega) _).setCell (p := ⟨gb, 2, none⟩) (by simp; omega) _, blk_set (blk_set (blk_set n1.out 0 (.string x.f0)) 1 (.int .i64 x.f1)) 2 (.slice A2 x.f2.length c2)⟩
      generalize ((w5.setCell ⟨gb, 0, none⟩ (.string x.f0)).setCell ⟨gb, 1, none⟩ (.int .i64 x.f1)).setCell ⟨gb, 2, none⟩ (.slice A2 x.f2.length c2) = w6 at hA ⊢
      have HX := Aside0.mk hx
      clear hx n1 n2 n3 hcz0 hcz1 hcz2 hfz0 hfz1 hfz2 hx0 hx1 hx2 hs hgb
      by_cases q1 : i ≥ 32
      · have q1b : decide ((32 : Int) ≤ (i : Int)) = true := decide_eq_true (by omega)
        have hE := HE.out
        rw [if_pos q1] at hE
        obtain rfl := Option.some.inj hE
        have H := HH.out
        rw [if_neg (by decide)] at H
        obtain ⟨rfl, rfl⟩ := Prod.mk.inj (Option.some.inj H)
        clear hE H HH q1
        have HA := Aside0.mk hA
        clear hA
        go_wp2
        go_ret2
        exact ⟨rfl, HA.out.below⟩
      · have q1b : decide ((32 : Int) ≤ (i : Int)) = false := decide_eq_false (by omega)
        have hE := HE.out
        rw [if_neg q1] at hE
        clear HE q1
        obtain ⟨b1, B1, hE⟩ := Option.bind_eq_some_iff.mp hE
        have HB1 := Aside0.mk B1
        clear B1
        by_cases d1 : b1 = true
        · subst d1
          rw [if_pos rfl] at hE
          obtain ⟨ws, WS, hE⟩ := Option.bind_eq_some_iff.mp hE
          obtain ⟨b2, B2, hE⟩ := Option.bind_eq_some_iff.mp hE
          have HWS := Aside0.mk WS
          have HB2 := Aside0.mk B2
          have HE := Aside0.mk hE
          clear WS B2 hE
          go_upto_region 8 with fail
          have hcb0 := blk_cell hA.box 0
          go_region_held3 (fun w' => w'.cell? ⟨gb, 0, none⟩ = some (.string x.f0) ∧ CheckAt w gb x A2 c2 w')
            (first | (refine CheckAt.both ?_; (repeat (first | exact hW | exact hA | refine CheckAt.drew ?_ | refine CheckAt.drewN ?_ _))))
            (first | (go_at_call 35; (with_reducible refine (wire_IsName.calls kq _ true _ HB1.out).mono ?_); rintro e w9 ⟨rfl, ⟨m, rfl⟩⟩) | (go_at_call 37; (with_reducible refine (types_words.calls ws _ HWS.out).mono ?_); rintro e w9 ⟨v0, rfl, hR, hb⟩; obtain ⟨Aw, cw, rfl⟩ := Kd.R_slice hR; have hW : CheckAt w gb x A2 c2 w9 := CheckAt.step (by (repeat (first | exact hA | refine CheckAt.drew ?_ | refine CheckAt.drewN ?_ _))) hb) | (go_at_call 36; (with_reducible refine (slices_Contains_string_string.calls kq Aw cw ws _ b2 _ ?hr1 (Kd.R_reads' hR).2.1 HB2.out).mono ?_); (case hr1 => (repeat (first | exact (Kd.R_reads' hR).2.2 | refine Kd.C_drew ?_ | refine Kd.C_drewN ?_ _))); rintro e w9 ⟨rfl, ⟨m, rfl⟩⟩))
          all_goals
            refine check_exit (fun W => CheckAt w gb x A2 c2 W) ?_ (fun w7 hA7 => ?_)
          any_goals (repeat (first | exact hW | exact hA | refine CheckAt.drew ?_ | refine CheckAt.drewN ?_ _))
          all_goals
            clear hA
            by_cases d2 : b2 = true
            · subst d2
              have hE := HE.out
              rw [if_pos rfl] at hE
              obtain rfl := Option.some.inj hE
              have H := HH.out
              rw [if_neg (by decide)] at H
              obtain ⟨rfl, rfl⟩ := Prod.mk.inj (Option.some.inj H)
              have HA := Aside0.mk hA7
              clear hE H HH hA7
              go_wp2
              go_ret2
              exact ⟨rfl, HA.out.below⟩
            · replace d2 := Bool.eq_false_iff.mpr d2
              subst d2
              have hE := HE.out
              rw [if_neg (by decide)] at hE
              have HE := Aside0.mk hE
              have HA := Aside0.mk hA7
              clear hE hA7
              have p7 : (i ≤ c0) = True := eq_true (by have := HC.out; omega)
              go_wp2_with fail
              have hl9 : (l0.take i).length = i := by rw [List.length_take]; omega
              have hcall := contains_class 39 #[.pointer (some ⟨gb, 0, none⟩)] (some ad) c0 (l0.take i) w (Kd.C_take HR.out (m := i) (by omega)) (CheckAt w gb x A2 c2) (fun y => y.f0.toList == x.f0.toList) (fun _ h => h.below) (fun y A3 c3 W h => types_Check_step w gb x A2 c2 y A3 c3 W h) (callFunc_run Tryz.func39 (by kernel_rfl) (by kernel_rfl)) w7 HA.out
              rw [hl9] at hcall
              refine hcall.mono ?_
              clear hcall hl9
              rintro e w8 ⟨rfl, hA8⟩
              have hE := HE.out
              clear HA HE
              generalize ((l0.take i).any fun y => y.f0.toList == x.f0.toList) = b3 at hE ⊢
              by_cases d3 : b3 = true
              · subst d3
                rw [if_pos rfl] at hE
                obtain rfl := Option.some.inj hE
                have H := HH.out
                rw [if_neg (by decide)] at H
                obtain ⟨rfl, rfl⟩ := Prod.mk.inj (Option.some.inj H)
                have HA := Aside0.mk hA8
                clear hE H HH hA8
                go_wp2
                go_ret2
                exact ⟨rfl, HA.out.below⟩
              · replace d3 := Bool.eq_false_iff.mpr d3
                subst d3
                rw [if_neg (by decide)] at hE
                have hcb1 := blk_cell hA8.box 1
                by_cases q2 : x.f1 < -1
                · rw [if_pos (.inl q2)] at hE
                  obtain rfl := Option.some.inj hE
                  have H := HH.out
                  rw [if_neg (by decide)] at H
                  obtain ⟨rfl, rfl⟩ := Prod.mk.inj (Option.some.inj H)
                  have q2b : decide (x.f1 < -1) = true := decide_eq_true q2
                  have HA := Aside0.mk hA8
                  clear hE H HH hA8 q2
                  go_wp2
                  go_ret2
                  exact ⟨rfl, HA.out.below⟩
                · have q2b : decide (x.f1 < -1) = false := decide_eq_false q2
                  by_cases q3 : x.f1 ≥ (i : Int)
                  · rw [if_pos (.inr q3)] at hE
                    obtain rfl := Option.some.inj hE
                    have H := HH.out
                    rw [if_neg (by decide)] at H
                    obtain ⟨rfl, rfl⟩ := Prod.mk.inj (Option.some.inj H)
                    have q3b : decide ((i : Int) ≤ x.f1) = true := decide_eq_true q3
                    have HA := Aside0.mk hA8
                    clear hE H HH hA8 q2 q3
                    go_wp2
                    go_ret2
                    exact ⟨rfl, HA.out.below⟩
                  · have q3b : decide ((i : Int) ≤ x.f1) = false := decide_eq_false q3
                    rw [if_neg (fun h => h.elim q2 q3)] at hE
                    have HE := Aside0.mk hE
                    have HA := Aside0.mk hA8
                    clear hE hA8 q2 q3
                    go_wp2_with fail
                    refine (types_fields.calls kq (some ad) c0 l0 (i : Int) e0 _ (Kd.C_below HR.out HA.out.below) HC.out HE.out).mono ?_
                    rintro e w9 ⟨rfl, hb9⟩
                    have HB9 := Aside0.mk (below_step HA.out.below hb9)
                    clear hb9 hcb1
                    by_cases q4 : e0 = 0
                    · subst q4
                      have H := HH.out
                      rw [if_pos rfl] at H
                      have HH := Aside0.mk H
                      clear H
                      go_wp2
                      go_roundw
                      case rel => exact ⟨i + 1, kq, rfl, by omega, HH, HB9⟩
                      case measure => simp [intOf]; omega
                    · have q4b : (e0 != 0) = true := bne_iff_ne.mpr q4
                      have q4c : (e0 == 0) = false := beq_eq_false_iff_ne.mpr q4
                      have H := HH.out
                      rw [if_neg q4] at H
                      obtain ⟨rfl, rfl⟩ := Prod.mk.inj (Option.some.inj H)
                      clear H HH
                      have Q4 := Aside0.mk q4
                      clear q4
                      go_wp2
                      go_ret2
                      exact ⟨rfl, HB9.out⟩
        · replace d1 := Bool.eq_false_iff.mpr d1
          subst d1
          rw [if_neg (by decide)] at hE
          obtain rfl := Option.some.inj hE
          have H := HH.out
          rw [if_neg (by decide)] at H
          obtain ⟨rfl, rfl⟩ := Prod.mk.inj (Option.some.inj H)
          clear hE H HH
          go_upto_region 8 with fail
          have hcb0 := blk_cell hA.box 0
          have HA := Aside0.mk hA
          clear hA
          go_quiet (first | (go_at_call 35; (with_reducible refine (wire_IsName.calls kq _ false _ HB1.out).mono ?_); rintro e w9 ⟨rfl, ⟨m, rfl⟩⟩; exact ⟨rfl, _, World.drewN_drewN _ _ _⟩))
          go_wp2
          go_ret2
          exact ⟨rfl, pw_below_drewN HA.out.below _⟩
    · rw [if_neg c1] at H
      have c1b : decide ((i : Int) < (l0.length : Int)) = false := decide_eq_false (by omega)
      obtain ⟨rfl, rfl⟩ := Prod.mk.inj (Option.some.inj H)
      clear H
      go_wp2
      go_ret2
      exact ⟨rfl, HB.out⟩


end Go.Proofs.YtkjagcamikkjkaaGreat.P

end

section
namespace Go.Proofs.YtkjagcamikkjkaaGreat.P
open Go.RowKit Go.Proofs.YtkjagcamikkjkaaGreatW.PrintWords Go.Proofs.YtkjagcamikkjkaaGreatW.PrintLast Go.Proofs.YtkjagcamikkjkaaGreatW.PrintMore
attribute [local go_sem] max2_int min2_int max_two min_two max_three min_three max_four min_four   -- for this text's walks alone
set_option linter.unusedVariables false
set_option linter.unusedSimpArgs false

def provisoref02_Line.l0 : Nat → List (S38) → Int → List Int → Option (List Int)
  | 0, _, _, _ => none
  | k + 1, x0, x1, x5 => if x1 ≥ 0 then (if x1 < (x0.length : Int) then (if (x5.length : Int) ≤ (x0.length : Int) then (if x5.length < 17592186044416 then (if 0 ≤ x1 then (provisoref02_Line.l0 k x0 ((rd_T38 x0 x1).f1) (x5 ++ [x1])) else (none)) else (none)) else (some x5)) else (some x5)) else (some x5)
def provisoref02_Line.f (k : Nat) (l0 : List (S38)) (a1 : Int) : Option (List Int) := provisoref02_Line.l0 k l0 a1 ([] : List Int)
set_option maxHeartbeats 8000000 in
set_option maxRecDepth 100000 in
theorem provisoref02_Line.calls (k : Nat) (A0 : Option Addr) (c0 : Nat) (l0 : List (S38)) (a1 : Int) (r : List Int) (w : World) (hr0 : Kd.C k38 w A0 l0.length l0) (hc0 : l0.length ≤ c0) (h : provisoref02_Line.f k l0 a1 = some r) :
    Calls Tryz.prog 66 #[.slice A0 l0.length c0, .int .i64 a1] w fun e w' => ∃ v0_ : Value, e = .returned (v0_) ∧ Kd.R (Kd.int .i64) 3 w' w.heap.size (fun _ => True) v0_ r ∧ Below w.heap.size w w' := by
  have HR0 := Aside0.mk hr0
  have HC0 := Aside0.mk hc0
  clear hr0 hc0
  have HB := Aside0.mk (Below.refl w.heap.size w)
  have H : (provisoref02_Line.l0 k l0 a1 ([] : List Int)) = some r := h
  clear h
  have H' := Aside0.mk H
  clear H
  go_enter Tryz.func66, Tryz.ntmps66
  go_wp2
  go_loopg [1, 5] k (fun kq v1 v5 w' => ∃ (x1_1 : Int) (x5_1 : List Int), v1 = .int .i64 x1_1 ∧ Aside0 (provisoref02_Line.l0 kq l0 x1_1 x5_1 = some r) ∧ Aside0 (kq ≤ k) ∧ Aside0 (Kd.R (Kd.int .i64) 3 w' w.heap.size (fun _ => True) v5 x5_1) ∧ Aside0 (Below w.heap.size w w'))
  case atStart => exact ⟨(a1), (([] : List Int)), (by first | rfl | (simp; done) | (simp [*]; done)), H', ⟨Nat.le_refl _⟩, ⟨by first | exact Kd.R_nil _ _ _ _ _ | exact Kd.N_nil _ _ _ _ _ | exact Kd.V_nil _ _ _ _ _ | exact Kd.Q_nil _ _ _ _ _ | exact Kd.S_nil _ _ _ _ _⟩, ⟨by repeat (first | (with_reducible first | exact HB.out | apply below_alloc | apply pw_below_drewN | apply below_drew1) | exact HB.out)⟩⟩
  case round =>
    clear H'
    try clear p2
    obtain ⟨x1_1, x5_1, rfl, HA, HK1, HO_5, HB⟩ := hrel
    cases gk with
    | zero => exact absurd HA.out (by simp [provisoref02_Line.l0])
    | succ k1 =>
      have H := HA.out
      clear HA
      simp only [provisoref02_Line.l0] at H
      by_cases c3 : x1_1 ≥ 0
      · rw [if_pos c3] at H
        have c3b0 : decide (0 ≤ x1_1) = true := decide_eq_true c3
        clear c3
        by_cases c4 : x1_1 < (l0.length : Int)
        · rw [if_pos c4] at H
          have c4b0 : decide (x1_1 < (l0.length : Int)) = true := decide_eq_true c4
          clear c4
          by_cases c5 : (x5_1.length : Int) ≤ (l0.length : Int)
          · rw [if_pos c5] at H
            have c5b0 : decide ((x5_1.length : Int) ≤ (l0.length : Int)) = true := decide_eq_true c5
            have c5b1 : decide (x5_1.length ≤ l0.length) = true := decide_eq_true (Int.ofNat_le.mp c5)
            clear c5
            by_cases c6 : x5_1.length < 17592186044416
            · rw [if_pos c6] at H
              have LMc6 := Aside0.mk c6
              clear c6
              obtain ⟨y115, hy115⟩ : ∃ y_ : List Int, y_ = (x5_1 ++ [x1_1]) := ⟨_, rfl⟩
              replace H : (if 0 ≤ x1_1 then (provisoref02_Line.l0 k1 l0 ((rd_T38 l0 x1_1).f1) y115) else (none)) = some r := by first | (rw [hy115]; with_reducible exact H) | (have H2_ := (Option.bind_some _ _).symm.trans H; rw [hy115]; with_reducible exact H2_) | (have H2_ := (Option.bind_some _ _).symm.trans H; with_reducible exact H2_) | with_reducible exact H | (rw [hy115]; exact H) | exact H
              have Ny115 := Aside0.mk hy115
              clear hy115
              by_cases c7 : 0 ≤ x1_1
              · rw [if_pos c7] at H
                have c7b0 : decide (0 ≤ x1_1) = true := decide_eq_true c7
                clear c7
                have H' := Aside0.mk H
                clear H
                obtain ⟨Ao8, co8, eo8⟩ := Kd.R_slice HO_5.out
                subst eo8
                go_wp2_with (first | ((with_reducible refine gate_builtin (b := .append) (xs := #[.tmp 21, .tmp 23]) rfl ?_); (try (refine gate_guard (by rfl) ?_; dsimp only)); at_builtin; refine Kd.R_append (Kd.int .i64) (w0 := w) w.heap.size rfl (.tmp 21) (.tmp 23) 42 3 (.int .i64 0) 8 rfl Tryz.underlying42 info3 rfl (by decide) (by omega) (.slice Ao8 x5_1.length co8) x5_1 x1_1 [.int .i64 x1_1] (fun _ => True) (fun _ => False) rfl rfl ?aP (fun _ hk => hk.elim) ?aF ?aO ?aB ?aS ?aL ?_; (case aP => exact rfl); (case aB => exact (by repeat (first | (with_reducible first | exact HB.out | apply below_alloc | apply pw_below_drewN | apply below_drew1) | exact HB.out))); (case aF => exact (fun _ _ => trivial)); (case aO => exact (by (with_reducible repeat (first | apply Kd.R_alloc | apply Kd.R_drewN | apply Kd.R_drew)); exact HO_5.out)); (case aS => exact (below_size (by repeat (first | (with_reducible first | exact HB.out | apply below_alloc | apply pw_below_drewN | apply below_drew1) | exact HB.out)))); (case aL => have := LMc6.out; omega); intro v116 w9 ho hb hg hat; rw [← Ny115.out] at ho; have n0_ := Aside0.mk (hb); have n1_ := Aside0.mk (ho); clear HB; clear HO_5; have HB := n0_; have HO117 := n1_; clear n0_ n1_; clear ho hb hg hat; have p118 : 0 ≤ (x1_1 : Int) := of_decide_eq_true (by first | (with_reducible assumption) | assumption); have q118 : x1_1 < (l0.length : Int) := of_decide_eq_true (by first | (with_reducible assumption) | assumption); obtain ⟨ad118, A118_2, c118_2, e118, hx118_0, hx118_1, hx118_2, hl118_2, hi118_2⟩ := at_T38 HR0.out x1_1 p118 q118; cases e118; replace hx118_0 := (HB.out.cell (World.block_lt_of_cell? w _ hx118_0)).trans hx118_0; replace hx118_1 := (HB.out.cell (World.block_lt_of_cell? w _ hx118_1)).trans hx118_1; replace hx118_2 := (HB.out.cell (World.block_lt_of_cell? w _ hx118_2)).trans hx118_2; have HR118_2 := Aside0.mk hi118_2; have HC118_2 := Aside0.mk hl118_2; clear hi118_2 hl118_2; replace p118 := eq_true p118; replace q118 := eq_true q118))
                go_roundg k1
                case measure => have := HK1.out; omega
                case rel => exact ⟨((rd_T38 l0 x1_1).f1), (y115), (by first | rfl | (simp; done) | (simp [*]; done)), H', ⟨by have := HK1.out; omega⟩, ⟨by (with_reducible repeat (first | apply Kd.R_alloc | apply Kd.R_drewN | apply Kd.R_drew)); exact HO117.out⟩, ⟨by repeat (first | (with_reducible first | exact HB.out | apply below_alloc | apply pw_below_drewN | apply below_drew1) | exact HB.out)⟩⟩
              · rw [if_neg c7] at H
                exact absurd H (by simp)
            · rw [if_neg c6] at H
              exact absurd H (by simp)
          · rw [if_neg c5] at H
            have c5b0 : decide ((x5_1.length : Int) ≤ (l0.length : Int)) = false := decide_eq_false c5
            have c5b1 : decide (x5_1.length ≤ l0.length) = false := decide_eq_false (fun h => c5 (Int.ofNat_le.mpr h))
            clear c5
            obtain rfl := Option.some.inj H
            obtain ⟨Ao10, co10, eo10⟩ := Kd.R_slice HO_5.out
            subst eo10
            go_wp2
            go_ret
            exact ⟨_, by first | rfl | (simp [errW_none, errW_some] <;> rfl) | (simp [*, errW_none, errW_some] <;> rfl), by (with_reducible repeat (first | apply Kd.R_alloc | apply Kd.R_drewN | apply Kd.R_drew)); exact HO_5.out, by repeat (first | (with_reducible first | exact HB.out | apply below_alloc | apply pw_below_drewN | apply below_drew1) | exact HB.out)⟩
        · rw [if_neg c4] at H
          have c4b0 : decide (x1_1 < (l0.length : Int)) = false := decide_eq_false c4
          clear c4
          obtain rfl := Option.some.inj H
          go_wp2
          go_ret
          exact ⟨_, by first | rfl | (simp [errW_none, errW_some] <;> rfl) | (simp [*, errW_none, errW_some] <;> rfl), by (with_reducible repeat (first | apply Kd.R_alloc | apply Kd.R_drewN | apply Kd.R_drew)); exact HO_5.out, by repeat (first | (with_reducible first | exact HB.out | apply below_alloc | apply pw_below_drewN | apply below_drew1) | exact HB.out)⟩
      · rw [if_neg c3] at H
        have c3b0 : decide (0 ≤ x1_1) = false := decide_eq_false c3
        clear c3
        obtain rfl := Option.some.inj H
        go_wp2
        go_ret
        exact ⟨_, by first | rfl | (simp [errW_none, errW_some] <;> rfl) | (simp [*, errW_none, errW_some] <;> rfl), by (with_reducible repeat (first | apply Kd.R_alloc | apply Kd.R_drewN | apply Kd.R_drew)); exact HO_5.out, by repeat (first | (with_reducible first | exact HB.out | apply below_alloc | apply pw_below_drewN | apply below_drew1) | exact HB.out)⟩

def provisoref02_Fields.l0 : Nat → List (S38) → List Int → List (S41) → Int → Option ((List (S41)))
  | 0, _, _, _, _ => none
  | k + 1, x0, x5, x6, x7 => if x7 ≥ 0 then (if 0 ≤ x7 then (if x7 < (x5.length : Int) then (if 0 ≤ (rd x5 x7) then (if (rd x5 x7) < (x0.length : Int) then (if x6.length + ((rd_T38 x0 (rd x5 x7)).f2).length < 5864062014805 then (provisoref02_Fields.l0 k x0 x5 (x6 ++ ((rd_T38 x0 (rd x5 x7)).f2)) (wrap64 (x7 - 1))) else (none)) else (none)) else (none)) else (none)) else (none)) else (some x6)
def provisoref02_Fields.f (k : Nat) (l0 : List (S38)) (a1 : Int) : Option ((List (S41))) := (provisoref02_Line.f k l0 a1).bind fun t119 => (provisoref02_Fields.l0 k l0 t119 ([] : List (S41)) (wrap64 ((t119.length : Int) - 1)))
set_option maxHeartbeats 8000000 in
set_option maxRecDepth 100000 in
theorem provisoref02_Fields.calls (k : Nat) (A0 : Option Addr) (c0 : Nat) (l0 : List (S38)) (a1 : Int) (r : List (S41)) (w : World) (hr0 : Kd.C k38 w A0 l0.length l0) (hc0 : l0.length ≤ c0) (h : provisoref02_Fields.f k l0 a1 = some r) :
    Calls Tryz.prog 46 #[.slice A0 l0.length c0, .int .i64 a1] w fun e w' => ∃ v0_ : Value, e = .returned (v0_) ∧ Kd.R k41 41 w' w.heap.size (fun _ => True) v0_ r ∧ Below w.heap.size w w' := by
  have HR0 := Aside0.mk hr0
  have HC0 := Aside0.mk hc0
  clear hr0 hc0
  have HB := Aside0.mk (Below.refl w.heap.size w)
  have H : ((provisoref02_Line.f k l0 a1).bind fun t119 => (provisoref02_Fields.l0 k l0 t119 ([] : List (S41)) (wrap64 ((t119.length : Int) - 1)))) = some r := h
  clear h
  replace H := Option.bind_eq_some_iff.mp H
  obtain ⟨t119, A30, H⟩ := H
  replace H : (provisoref02_Fields.l0 k l0 t119 ([] : List (S41)) (wrap64 ((t119.length : Int) - 1))) = some r := H
  have A3 := Aside0.mk A30
  clear A30
  have H' := Aside0.mk H
  clear H
  go_enter Tryz.func46, Tryz.ntmps46
  go_wp2_with (first | ((with_reducible refine gate_callee (f := 66) rfl ?_); refine goesL_ (some 10) rfl rfl Tryz.func66 (by kernel_rfl) rfl #[.slice A0 l0.length c0, .int .i64 a1] rfl (by (try simp only [List.map_toArray, List.map_cons, List.map_nil]); first | done | rfl | (simp only [List.length_drop, List.length_take]; rfl)) ?_; (with_reducible refine (provisoref02_Line.calls k _ _ l0 a1 t119 _ ?side1 ?side2 A3.out).mono ?_); (case side1 => repeat (first | exact HR0.out | (with_reducible refine Kd.C_alloc ?_ _) | (with_reducible refine Kd.C_drewN ?_ _) | (with_reducible refine Kd.C_drew ?_))); (case side2 => exact HC0.out); rintro e w4 ⟨v120, rfl, ho0, hb⟩; refine ⟨_, rfl, ?_⟩; have n0_ := Aside0.mk (Kd.R_lower ho0 (below_size (by repeat (first | (with_reducible first | exact HB.out | apply below_alloc | apply pw_below_drewN | apply below_drew1) | exact HB.out)))); have n1_ := Aside0.mk (below_step (by repeat (first | (with_reducible first | exact HB.out | apply below_alloc | apply pw_below_drewN | apply below_drew1) | exact HB.out)) hb); clear HB; have HO121 := n0_; have HB := n1_; clear n0_ n1_; (try clear hb); (try clear hb2); (try clear hk); (try clear hi); (try clear ho0); obtain ⟨Ao5, co5, eo5⟩ := Kd.R_slice HO121.out; subst eo5))
  go_loopg [6, 7] k (fun kq v6 v7 w' => ∃ (x6_1 : List (S41)) (x7_1 : Int), v7 = .int .i64 x7_1 ∧ Aside0 (provisoref02_Fields.l0 kq l0 t119 x6_1 x7_1 = some r) ∧ Aside0 (kq ≤ k) ∧ Aside0 (Kd.R (Kd.int .i64) 3 w' w.heap.size (fun _ => True) (.slice Ao5 t119.length co5) t119) ∧ Aside0 (Kd.R k41 41 w' w.heap.size (fun _ => True) v6 x6_1) ∧ Aside0 (Below w.heap.size w w'))
  case atStart => exact ⟨(([] : List (S41))), (wrap64 ((t119.length : Int) - 1)), (by first | rfl | (simp; done) | (simp [*]; done)), H', ⟨Nat.le_refl _⟩, ⟨by (with_reducible repeat (first | apply Kd.R_alloc | apply Kd.R_drewN | apply Kd.R_drew)); exact HO121.out⟩, ⟨by first | exact Kd.R_nil _ _ _ _ _ | exact Kd.N_nil _ _ _ _ _ | exact Kd.V_nil _ _ _ _ _ | exact Kd.Q_nil _ _ _ _ _ | exact Kd.S_nil _ _ _ _ _⟩, ⟨by repeat (first | (with_reducible first | exact HB.out | apply below_alloc | apply pw_below_drewN | apply below_drew1) | exact HB.out)⟩⟩
  case round =>
    clear H'
    try clear p2
    try clear c4
    obtain ⟨x6_1, x7_1, rfl, HA, HK1, HO_5, HO_6, HB⟩ := hrel
    cases gk with
    | zero => exact absurd HA.out (by simp [provisoref02_Fields.l0])
    | succ k1 =>
      have H := HA.out
      clear HA
      simp only [provisoref02_Fields.l0] at H
      by_cases c6 : x7_1 ≥ 0
      · rw [if_pos c6] at H
        have c6b0 : decide (0 ≤ x7_1) = true := decide_eq_true c6
        clear c6
        by_cases c7 : 0 ≤ x7_1
        · rw [if_pos c7] at H
          have c7b0 : decide (0 ≤ x7_1) = true := decide_eq_true c7
          clear c7
          by_cases c8 : x7_1 < (t119.length : Int)
          · rw [if_pos c8] at H
            have c8b0 : decide (x7_1 < (t119.length : Int)) = true := decide_eq_true c8
            clear c8
            by_cases c9 : 0 ≤ (rd t119 x7_1)
            · rw [if_pos c9] at H
              have c9b0 : decide (0 ≤ (rd t119 x7_1)) = true := decide_eq_true c9
              clear c9
              by_cases c10 : (rd t119 x7_1) < (l0.length : Int)
              · rw [if_pos c10] at H
                have c10b0 : decide ((rd t119 x7_1) < (l0.length : Int)) = true := decide_eq_true c10
                clear c10
                by_cases c11 : x6_1.length + ((rd_T38 l0 (rd t119 x7_1)).f2).length < 5864062014805
                · rw [if_pos c11] at H
                  have LMc11 := Aside0.mk c11
                  clear c11
                  obtain ⟨y124, hy124⟩ : ∃ y_ : List (S41), y_ = (x6_1 ++ ((rd_T38 l0 (rd t119 x7_1)).f2)) := ⟨_, rfl⟩
                  replace H : (provisoref02_Fields.l0 k1 l0 t119 y124 (wrap64 (x7_1 - 1))) = some r := by first | (rw [hy124]; with_reducible exact H) | (have H2_ := (Option.bind_some _ _).symm.trans H; rw [hy124]; with_reducible exact H2_) | (have H2_ := (Option.bind_some _ _).symm.trans H; with_reducible exact H2_) | with_reducible exact H | (rw [hy124]; exact H) | exact H
                  have Ny124 := Aside0.mk hy124
                  clear hy124
                  have H' := Aside0.mk H
                  clear H
                  have p122 : 0 ≤ (x7_1 : Int) := of_decide_eq_true (by first | (with_reducible assumption) | assumption)
                  have q122 : x7_1 < (t119.length : Int) := of_decide_eq_true (by first | (with_reducible assumption) | assumption)
                  obtain ⟨ad122, e122, hx122_0⟩ := Kd.at_int (Kd.R_reads' HO_5.out).2.2 x7_1 p122 q122
                  cases e122
                  replace p122 := eq_true p122
                  replace q122 := eq_true q122
                  have p123 : 0 ≤ ((rd t119 x7_1) : Int) := of_decide_eq_true (by first | (with_reducible assumption) | assumption)
                  have q123 : (rd t119 x7_1) < (l0.length : Int) := of_decide_eq_true (by first | (with_reducible assumption) | assumption)
                  obtain ⟨ad123, A123_2, c123_2, e123, hx123_0, hx123_1, hx123_2, hl123_2, hi123_2⟩ := at_T38 HR0.out (rd t119 x7_1) p123 q123
                  cases e123
                  replace hx123_0 := (HB.out.cell (World.block_lt_of_cell? w _ hx123_0)).trans hx123_0
                  replace hx123_1 := (HB.out.cell (World.block_lt_of_cell? w _ hx123_1)).trans hx123_1
                  replace hx123_2 := (HB.out.cell (World.block_lt_of_cell? w _ hx123_2)).trans hx123_2
                  have HR123_2 := Aside0.mk hi123_2
                  have HC123_2 := Aside0.mk hl123_2
                  clear hi123_2 hl123_2
                  replace p123 := eq_true p123
                  replace q123 := eq_true q123
                  go_wp2_with (first | ((with_reducible refine gate_builtin (b := .append) (xs := #[.tmp 18, .tmp 26]) rfl ?_); at_builtin; refine Kd.R_append_rows k41 (w0 := w) w.heap.size rfl (.tmp 18) (.tmp 26) 36 41 (.agg #[(.string ⟨#[]⟩), (.int .u8 0)]) 24 rfl Tryz.underlying36 info41 rfl (by decide) (by omega) u6 x6_1 ((rd_T38 l0 (rd t119 x7_1)).f2) _ _ _ (fun _ => True) (fun _ => False) rfl rfl ?aO ?aR (fun _ _ h => h) (fun _ h => h.elim) ?aF ?aB ?aS ?aL ?_; (case aR => repeat (first | exact (Kd.C_below HR123_2.out HB.out) | (with_reducible refine Kd.C_alloc ?_ _) | (with_reducible refine Kd.C_drewN ?_ _) | (with_reducible refine Kd.C_drew ?_))); (case aB => exact (by repeat (first | (with_reducible first | exact HB.out | apply below_alloc | apply pw_below_drewN | apply below_drew1) | exact HB.out))); (case aF => exact (fun _ _ => trivial)); (case aO => exact (by (with_reducible repeat (first | apply Kd.R_alloc | apply Kd.R_drewN | apply Kd.R_drew)); exact HO_6.out)); (case aS => exact (below_size (by repeat (first | (with_reducible first | exact HB.out | apply below_alloc | apply pw_below_drewN | apply below_drew1) | exact HB.out)))); (case aL => have := LMc11.out; omega); intro v125 w12 ho hb hg hat; rw [← Ny124.out] at ho; have n0_ := Aside0.mk (Kd.R_over' (by (with_reducible repeat (first | apply Kd.R_alloc | apply Kd.R_drewN | apply Kd.R_drew)); exact HO_5.out) (Kd.R_typed (by (with_reducible repeat (first | apply Kd.R_alloc | apply Kd.R_drewN | apply Kd.R_drew)); exact HO_6.out)) (by decide) hg); have n1_ := Aside0.mk (hb); have n2_ := Aside0.mk (ho); clear HO_5; clear HB; clear HO_6; have HO_5 := n0_; have HB := n1_; have HO126 := n2_; clear n0_ n1_ n2_; clear ho hb hg hat))
                  go_roundg k1
                  case measure => have := HK1.out; omega
                  case rel => exact ⟨(y124), (wrap64 (x7_1 - 1)), (by first | rfl | (simp; done) | (simp [*]; done)), H', ⟨by have := HK1.out; omega⟩, ⟨by (with_reducible repeat (first | apply Kd.R_alloc | apply Kd.R_drewN | apply Kd.R_drew)); exact HO_5.out⟩, ⟨by (with_reducible repeat (first | apply Kd.R_alloc | apply Kd.R_drewN | apply Kd.R_drew)); exact HO126.out⟩, ⟨by repeat (first | (with_reducible first | exact HB.out | apply below_alloc | apply pw_below_drewN | apply below_drew1) | exact HB.out)⟩⟩
                · rw [if_neg c11] at H
                  exact absurd H (by simp)
              · rw [if_neg c10] at H
                exact absurd H (by simp)
            · rw [if_neg c9] at H
              exact absurd H (by simp)
          · rw [if_neg c8] at H
            exact absurd H (by simp)
        · rw [if_neg c7] at H
          exact absurd H (by simp)
      · rw [if_neg c6] at H
        have c6b0 : decide (0 ≤ x7_1) = false := decide_eq_false c6
        clear c6
        obtain rfl := Option.some.inj H
        go_wp2
        go_ret
        exact ⟨_, by first | rfl | (simp [errW_none, errW_some] <;> rfl) | (simp [*, errW_none, errW_some] <;> rfl), by (with_reducible repeat (first | apply Kd.R_alloc | apply Kd.R_drewN | apply Kd.R_drew)); exact HO_6.out, by repeat (first | (with_reducible first | exact HB.out | apply below_alloc | apply pw_below_drewN | apply below_drew1) | exact HB.out)⟩

mutual
def provisoref02_IsName.j0 : Nat → ByteArray → Bool → Option (Bool)
  | 0, _, _ => none
  | k + 1, x0, x13 => if x13 = true then (some false) else (provisoref02_IsName.l0 k x0 0)
def provisoref02_IsName.l0 : Nat → ByteArray → Int → Option (Bool)
  | 0, _, _ => none
  | k + 1, x0, x3 => if x3 < (x0.size : Int) then (if 0 ≤ x3 then (if (bt x0 x3) ≥ 97 then (if (bt x0 x3) ≤ 122 then (provisoref02_IsName.l0 k x0 (wrap64 (x3 + 1))) else (if (bt x0 x3) ≥ 65 then (if ((bt x0 x3) ≤ 90) then (provisoref02_IsName.l0 k x0 (wrap64 (x3 + 1))) else (if x3 = 0 then (some false) else (if (bt x0 x3) = 95 then (provisoref02_IsName.l0 k x0 (wrap64 (x3 + 1))) else (if (bt x0 x3) < 48 then (some false) else (if (bt x0 x3) > 57 then (some false) else (provisoref02_IsName.l0 k x0 (wrap64 (x3 + 1)))))))) else (if x3 = 0 then (some false) else (if (bt x0 x3) = 95 then (provisoref02_IsName.l0 k x0 (wrap64 (x3 + 1))) else (if (bt x0 x3) < 48 then (some false) else (if (bt x0 x3) > 57 then (some false) else (provisoref02_IsName.l0 k x0 (wrap64 (x3 + 1))))))))) else (if (bt x0 x3) ≥ 65 then (if ((bt x0 x3) ≤ 90) then (provisoref02_IsName.l0 k x0 (wrap64 (x3 + 1))) else (if x3 = 0 then (some false) else (if (bt x0 x3) = 95 then (provisoref02_IsName.l0 k x0 (wrap64 (x3 + 1))) else (if (bt x0 x3) < 48 then (some false) else (if (bt x0 x3) > 57 then (some false) else (provisoref02_IsName.l0 k x0 (wrap64 (x3 + 1)))))))) else (if x3 = 0 then (some false) else (if (bt x0 x3) = 95 then (provisoref02_IsName.l0 k x0 (wrap64 (x3 + 1))) else (if (bt x0 x3) < 48 then (some false) else (if (bt x0 x3) > 57 then (some false) else (provisoref02_IsName.l0 k x0 (wrap64 (x3 + 1))))))))) else (none)) else (some true)
end
def provisoref02_IsName.f (k : Nat) (a0 : ByteArray) : Option (Bool) := if (a0.size : Int) < 1 then (provisoref02_IsName.j0 k a0 true) else (provisoref02_IsName.j0 k a0 (decide ((a0.size : Int) > 24)))
set_option maxHeartbeats 8000000 in
set_option maxRecDepth 100000 in
theorem provisoref02_IsName.calls (k : Nat) (a0 : ByteArray) (r : Bool) (w : World) (h : provisoref02_IsName.f k a0 = some r) :
    Calls Tryz.prog 61 #[.string a0] w fun e w' => e = .returned (.bool r) ∧ Drawn0 w w' := by
  have H : (if (a0.size : Int) < 1 then (provisoref02_IsName.j0 k a0 true) else (provisoref02_IsName.j0 k a0 (decide ((a0.size : Int) > 24)))) = some r := h
  clear h
  have HC2 := Aside0.mk H
  clear H
  go_enter Tryz.func61, Tryz.ntmps61
  go_upto_region 1 with (fail)
  go_cut [13] (fun v13 wc => ∃ (kq : Nat) (x13_1 : Bool), v13 = .bool x13_1 ∧ Aside0 (provisoref02_IsName.j0 kq a0 x13_1 = some r) ∧ Aside0 (kq ≤ k) ∧ Drawn0 w wc)
  case first =>
    have H := HC2.out
    clear HC2
    by_cases c3 : (a0.size : Int) < 1
    · rw [if_pos c3] at H
      have c3b0 : decide ((a0.size : Int) < 1) = true := decide_eq_true c3
      have c3b1 : decide (a0.size < 1) = true := decide_eq_true (by omega)
      clear c3
      (first | rw [c3b0] | (simp only [i64_w, i32_w]; rw [c3b0]) | skip)
      have H' := Aside0.mk H
      clear H
      go_wp2
      go_meet
      case rel => exact ⟨_, (true), (by first | rfl | (simp; done) | (simp [*]; done)), H', ⟨by first | omega | exact Nat.le_refl _⟩, by repeat (first | exact Drawn0.refl _ | apply Drawn0.step)⟩
    · rw [if_neg c3] at H
      have c3b0 : decide ((a0.size : Int) < 1) = false := decide_eq_false c3
      have c3b1 : decide (a0.size < 1) = false := decide_eq_false (by omega)
      clear c3
      (first | rw [c3b0] | (simp only [i64_w, i32_w]; rw [c3b0]) | skip)
      have H' := Aside0.mk H
      clear H
      go_wp2
      go_meet
      case rel => exact ⟨_, (decide ((a0.size : Int) > 24)), (by first | rfl | (simp; done) | (simp [*]; done)), H', ⟨by first | omega | exact Nat.le_refl _⟩, by repeat (first | exact Drawn0.refl _ | apply Drawn0.step)⟩
  case rest =>
    clear HC2
    try clear p2
    try clear c3
    try clear c3b0
    try clear c3b1
    obtain ⟨kq, x13_1, rfl, HA, HJ1, ⟨mc1, rfl⟩⟩ := hcut
    cases kq with
    | zero => exact absurd HA.out (by simp [provisoref02_IsName.j0])
    | succ kj1 =>
      have H := HA.out
      clear HA
      simp only [provisoref02_IsName.j0] at H
      by_cases c4 : x13_1 = true
      · subst c4
        have H1 : (some false) = some r := by rw [if_pos rfl] at H; exact H
        clear H
        have H := H1
        clear H1
        obtain rfl := Option.some.inj H
        go_wp2
        go_ret
        exact ⟨by first | rfl | (simp; done) | (simp [*]; done), by repeat (first | exact Drawn0.refl _ | apply Drawn0.step)⟩
      · replace c4 := Bool.eq_false_iff.mpr c4
        subst c4
        have H1 : (provisoref02_IsName.l0 kj1 a0 0) = some r := by rw [if_neg (show ¬ (false = true) by decide)] at H; exact H
        clear H
        have H := H1
        clear H1
        have H' := Aside0.mk H
        clear H
        go_wp2
        go_loopg [3] kj1 (fun kq v3 w' => ∃ (x3_2 : Int), v3 = .int .i64 x3_2 ∧ Aside0 (provisoref02_IsName.l0 kq a0 x3_2 = some r) ∧ Aside0 (kq ≤ kj1) ∧ Drawn0 w w')
        case atStart => exact ⟨(0), (by first | rfl | (simp; done) | (simp [*]; done)), H', ⟨Nat.le_refl _⟩, by repeat (first | exact Drawn0.refl _ | apply Drawn0.step)⟩
        case round =>
          clear H'
          try clear c1
          try clear p2
          try clear c3
          try clear c3b0
          try clear c3b1
          try clear c4
          try clear p2
          obtain ⟨x3_2, rfl, HA, HK2, ⟨m2, rfl⟩⟩ := hrel
          cases gk with
          | zero => exact absurd HA.out (by simp [provisoref02_IsName.l0])
          | succ k2 =>
            have H := HA.out
            clear HA
            simp only [provisoref02_IsName.l0] at H
            by_cases c5 : x3_2 < (a0.size : Int)
            · rw [if_pos c5] at H
              have c5b0 : decide (x3_2 < (a0.size : Int)) = true := decide_eq_true c5
              clear c5
              by_cases c6 : 0 ≤ x3_2
              · rw [if_pos c6] at H
                have c6b0 : decide (0 ≤ x3_2) = true := decide_eq_true c6
                clear c6
                by_cases c8 : (bt a0 x3_2) ≥ 97
                · rw [if_pos c8] at H
                  have c8b0 : decide (97 ≤ (bt a0 x3_2)) = true := decide_eq_true c8
                  clear c8
                  by_cases c9 : (bt a0 x3_2) ≤ 122
                  · rw [if_pos c9] at H
                    have c9b0 : decide ((bt a0 x3_2) ≤ 122) = true := decide_eq_true c9
                    clear c9
                    have H' := Aside0.mk H
                    clear H
                    have p7 : 0 ≤ (x3_2 : Int) := of_decide_eq_true (by first | (with_reducible assumption) | assumption)
                    have q7 : x3_2 < (a0.size : Int) := of_decide_eq_true (by first | (with_reducible assumption) | assumption)
                    have hx7 := bt_at a0 x3_2
                    replace p7 := eq_true p7
                    replace q7 := eq_true q7
                    go_wp2
                    go_roundg k2
                    case measure => have := HJ1.out; have := HK2.out; omega
                    case rel => exact ⟨(wrap64 (x3_2 + 1)), (by first | rfl | (simp; done) | (simp [*]; done)), H', ⟨by have := HJ1.out; have := HK2.out; omega⟩, by repeat (first | exact Drawn0.refl _ | apply Drawn0.step)⟩
                  · rw [if_neg c9] at H
                    have c9b0 : decide ((bt a0 x3_2) ≤ 122) = false := decide_eq_false c9
                    clear c9
                    by_cases c10 : (bt a0 x3_2) ≥ 65
                    · rw [if_pos c10] at H
                      have c10b0 : decide (65 ≤ (bt a0 x3_2)) = true := decide_eq_true c10
                      clear c10
                      by_cases c11 : ((bt a0 x3_2) ≤ 90)
                      · rw [if_pos c11] at H
                        have c11b0 : decide ((bt a0 x3_2) ≤ 90) = true := decide_eq_true c11
                        clear c11
                        have H' := Aside0.mk H
                        clear H
                        have p7 : 0 ≤ (x3_2 : Int) := of_decide_eq_true (by first | (with_reducible assumption) | assumption)
                        have q7 : x3_2 < (a0.size : Int) := of_decide_eq_true (by first | (with_reducible assumption) | assumption)
                        have hx7 := bt_at a0 x3_2
                        replace p7 := eq_true p7
                        replace q7 := eq_true q7
                        go_wp2
                        go_roundg k2
                        case measure => have := HJ1.out; have := HK2.out; omega
                        case rel => exact ⟨(wrap64 (x3_2 + 1)), (by first | rfl | (simp; done) | (simp [*]; done)), H', ⟨by have := HJ1.out; have := HK2.out; omega⟩, by repeat (first | exact Drawn0.refl _ | apply Drawn0.step)⟩
                      · rw [if_neg c11] at H
                        have c11b0 : decide ((bt a0 x3_2) ≤ 90) = false := decide_eq_false c11
                        clear c11
                        by_cases c12 : x3_2 = 0
                        · rw [if_pos c12] at H
                          have c12b0 : (x3_2 == 0) = true := beq_iff_eq.mpr c12
                          have c12b1 : (x3_2 != 0) = false := bne_eq_false_iff_eq.mpr c12
                          clear c12
                          obtain rfl := Option.some.inj H
                          have p7 : 0 ≤ (x3_2 : Int) := of_decide_eq_true (by first | (with_reducible assumption) | assumption)
                          have q7 : x3_2 < (a0.size : Int) := of_decide_eq_true (by first | (with_reducible assumption) | assumption)
                          have hx7 := bt_at a0 x3_2
                          replace p7 := eq_true p7
                          replace q7 := eq_true q7
                          go_wp2
                          go_ret
                          exact ⟨by first | rfl | (simp; done) | (simp [*]; done), by repeat (first | exact Drawn0.refl _ | apply Drawn0.step)⟩
                        · rw [if_neg c12] at H
                          have c12b0 : (x3_2 == 0) = false := beq_eq_false_iff_ne.mpr c12
                          have c12b1 : (x3_2 != 0) = true := bne_iff_ne.mpr c12
                          by_cases c13 : (bt a0 x3_2) = 95
                          · rw [if_pos c13] at H
                            have c13b0 : ((bt a0 x3_2) == 95) = true := beq_iff_eq.mpr c13
                            have c13b1 : ((bt a0 x3_2) != 95) = false := bne_eq_false_iff_eq.mpr c13
                            clear c13
                            have H' := Aside0.mk H
                            clear H
                            have p7 : 0 ≤ (x3_2 : Int) := of_decide_eq_true (by first | (with_reducible assumption) | assumption)
                            have q7 : x3_2 < (a0.size : Int) := of_decide_eq_true (by first | (with_reducible assumption) | assumption)
                            have hx7 := bt_at a0 x3_2
                            replace p7 := eq_true p7
                            replace q7 := eq_true q7
                            go_wp2
                            go_roundg k2
                            case measure => have := HJ1.out; have := HK2.out; omega
                            case rel => exact ⟨(wrap64 (x3_2 + 1)), (by first | rfl | (simp; done) | (simp [*]; done)), H', ⟨by have := HJ1.out; have := HK2.out; omega⟩, by repeat (first | exact Drawn0.refl _ | apply Drawn0.step)⟩
                          · rw [if_neg c13] at H
                            have c13b0 : ((bt a0 x3_2) == 95) = false := beq_eq_false_iff_ne.mpr c13
                            have c13b1 : ((bt a0 x3_2) != 95) = true := bne_iff_ne.mpr c13
                            by_cases c14 : (bt a0 x3_2) < 48
                            · rw [if_pos c14] at H
                              have c14b0 : decide ((bt a0 x3_2) < 48) = true := decide_eq_true c14
                              clear c14
                              obtain rfl := Option.some.inj H
                              have p7 : 0 ≤ (x3_2 : Int) := of_decide_eq_true (by first | (with_reducible assumption) | assumption)
                              have q7 : x3_2 < (a0.size : Int) := of_decide_eq_true (by first | (with_reducible assumption) | assumption)
                              have hx7 := bt_at a0 x3_2
                              replace p7 := eq_true p7
                              replace q7 := eq_true q7
                              go_wp2
                              go_ret
                              exact ⟨by first | rfl | (simp; done) | (simp [*]; done), by repeat (first | exact Drawn0.refl _ | apply Drawn0.step)⟩
                            · rw [if_neg c14] at H
                              have c14b0 : decide ((bt a0 x3_2) < 48) = false := decide_eq_false c14
                              clear c14
                              by_cases c15 : (bt a0 x3_2) > 57
                              · rw [if_pos c15] at H
                                have c15b0 : decide (57 < (bt a0 x3_2)) = true := decide_eq_true c15
                                clear c15
                                obtain rfl := Option.some.inj H
                                have p7 : 0 ≤ (x3_2 : Int) := of_decide_eq_true (by first | (with_reducible assumption) | assumption)
                                have q7 : x3_2 < (a0.size : Int) := of_decide_eq_true (by first | (with_reducible assumption) | assumption)
                                have hx7 := bt_at a0 x3_2
                                replace p7 := eq_true p7
                                replace q7 := eq_true q7
                                go_wp2
                                go_ret
                                exact ⟨by first | rfl | (simp; done) | (simp [*]; done), by repeat (first | exact Drawn0.refl _ | apply Drawn0.step)⟩
                              · rw [if_neg c15] at H
                                have c15b0 : decide (57 < (bt a0 x3_2)) = false := decide_eq_false c15
                                clear c15
                                have H' := Aside0.mk H
                                clear H
                                have p7 : 0 ≤ (x3_2 : Int) := of_decide_eq_true (by first | (with_reducible assumption) | assumption)
                                have q7 : x3_2 < (a0.size : Int) := of_decide_eq_true (by first | (with_reducible assumption) | assumption)
                                have hx7 := bt_at a0 x3_2
                                replace p7 := eq_true p7
                                replace q7 := eq_true q7
                                go_wp2
                                go_roundg k2
                                case measure => have := HJ1.out; have := HK2.out; omega
                                case rel => exact ⟨(wrap64 (x3_2 + 1)), (by first | rfl | (simp; done) | (simp [*]; done)), H', ⟨by have := HJ1.out; have := HK2.out; omega⟩, by repeat (first | exact Drawn0.refl _ | apply Drawn0.step)⟩
                    · rw [if_neg c10] at H
                      have c10b0 : decide (65 ≤ (bt a0 x3_2)) = false := decide_eq_false c10
                      clear c10
                      by_cases c16 : x3_2 = 0
                      · rw [if_pos c16] at H
                        have c16b0 : (x3_2 == 0) = true := beq_iff_eq.mpr c16
                        have c16b1 : (x3_2 != 0) = false := bne_eq_false_iff_eq.mpr c16
                        clear c16
                        obtain rfl := Option.some.inj H
                        have p7 : 0 ≤ (x3_2 : Int) := of_decide_eq_true (by first | (with_reducible assumption) | assumption)
                        have q7 : x3_2 < (a0.size : Int) := of_decide_eq_true (by first | (with_reducible assumption) | assumption)
                        have hx7 := bt_at a0 x3_2
                        replace p7 := eq_true p7
                        replace q7 := eq_true q7
                        go_wp2
                        go_ret
                        exact ⟨by first | rfl | (simp; done) | (simp [*]; done), by repeat (first | exact Drawn0.refl _ | apply Drawn0.step)⟩
                      · rw [if_neg c16] at H
                        have c16b0 : (x3_2 == 0) = false := beq_eq_false_iff_ne.mpr c16
                        have c16b1 : (x3_2 != 0) = true := bne_iff_ne.mpr c16
                        by_cases c17 : (bt a0 x3_2) = 95
                        · rw [if_pos c17] at H
                          have c17b0 : ((bt a0 x3_2) == 95) = true := beq_iff_eq.mpr c17
                          have c17b1 : ((bt a0 x3_2) != 95) = false := bne_eq_false_iff_eq.mpr c17
                          clear c17
                          have H' := Aside0.mk H
                          clear H
                          have p7 : 0 ≤ (x3_2 : Int) := of_decide_eq_true (by first | (with_reducible assumption) | assumption)
                          have q7 : x3_2 < (a0.size : Int) := of_decide_eq_true (by first | (with_reducible assumption) | assumption)
                          have hx7 := bt_at a0 x3_2
                          replace p7 := eq_true p7
                          replace q7 := eq_true q7
                          go_wp2
                          go_roundg k2
                          case measure => have := HJ1.out; have := HK2.out; omega
                          case rel => exact ⟨(wrap64 (x3_2 + 1)), (by first | rfl | (simp; done) | (simp [*]; done)), H', ⟨by have := HJ1.out; have := HK2.out; omega⟩, by repeat (first | exact Drawn0.refl _ | apply Drawn0.step)⟩
                        · rw [if_neg c17] at H
                          have c17b0 : ((bt a0 x3_2) == 95) = false := beq_eq_false_iff_ne.mpr c17
                          have c17b1 : ((bt a0 x3_2) != 95) = true := bne_iff_ne.mpr c17
                          by_cases c18 : (bt a0 x3_2) < 48
                          · rw [if_pos c18] at H
                            have c18b0 : decide ((bt a0 x3_2) < 48) = true := decide_eq_true c18
                            clear c18
                            obtain rfl := Option.some.inj H
                            have p7 : 0 ≤ (x3_2 : Int) := of_decide_eq_true (by first | (with_reducible assumption) | assumption)
                            have q7 : x3_2 < (a0.size : Int) := of_decide_eq_true (by first | (with_reducible assumption) | assumption)
                            have hx7 := bt_at a0 x3_2
                            replace p7 := eq_true p7
                            replace q7 := eq_true q7
                            go_wp2
                            go_ret
                            exact ⟨by first | rfl | (simp; done) | (simp [*]; done), by repeat (first | exact Drawn0.refl _ | apply Drawn0.step)⟩
                          · rw [if_neg c18] at H
                            have c18b0 : decide ((bt a0 x3_2) < 48) = false := decide_eq_false c18
                            clear c18
                            by_cases c19 : (bt a0 x3_2) > 57
                            · rw [if_pos c19] at H
                              have c19b0 : decide (57 < (bt a0 x3_2)) = true := decide_eq_true c19
                              clear c19
                              obtain rfl := Option.some.inj H
                              have p7 : 0 ≤ (x3_2 : Int) := of_decide_eq_true (by first | (with_reducible assumption) | assumption)
                              have q7 : x3_2 < (a0.size : Int) := of_decide_eq_true (by first | (with_reducible assumption) | assumption)
                              have hx7 := bt_at a0 x3_2
                              replace p7 := eq_true p7
                              replace q7 := eq_true q7
                              go_wp2
                              go_ret
                              exact ⟨by first | rfl | (simp; done) | (simp [*]; done), by repeat (first | exact Drawn0.refl _ | apply Drawn0.step)⟩
                            · rw [if_neg c19] at H
                              have c19b0 : decide (57 < (bt a0 x3_2)) = false := decide_eq_false c19
                              clear c19
                              have H' := Aside0.mk H
                              clear H
                              have p7 : 0 ≤ (x3_2 : Int) := of_decide_eq_true (by first | (with_reducible assumption) | assumption)
                              have q7 : x3_2 < (a0.size : Int) := of_decide_eq_true (by first | (with_reducible assumption) | assumption)
                              have hx7 := bt_at a0 x3_2
                              replace p7 := eq_true p7
                              replace q7 := eq_true q7
                              go_wp2
                              go_roundg k2
                              case measure => have := HJ1.out; have := HK2.out; omega
                              case rel => exact ⟨(wrap64 (x3_2 + 1)), (by first | rfl | (simp; done) | (simp [*]; done)), H', ⟨by have := HJ1.out; have := HK2.out; omega⟩, by repeat (first | exact Drawn0.refl _ | apply Drawn0.step)⟩
                · rw [if_neg c8] at H
                  have c8b0 : decide (97 ≤ (bt a0 x3_2)) = false := decide_eq_false c8
                  clear c8
                  by_cases c20 : (bt a0 x3_2) ≥ 65
                  · rw [if_pos c20] at H
                    have c20b0 : decide (65 ≤ (bt a0 x3_2)) = true := decide_eq_true c20
                    clear c20
                    by_cases c21 : ((bt a0 x3_2) ≤ 90)
                    · rw [if_pos c21] at H
                      have c21b0 : decide ((bt a0 x3_2) ≤ 90) = true := decide_eq_true c21
                      clear c21
                      have H' := Aside0.mk H
                      clear H
                      have p7 : 0 ≤ (x3_2 : Int) := of_decide_eq_true (by first | (with_reducible assumption) | assumption)
                      have q7 : x3_2 < (a0.size : Int) := of_decide_eq_true (by first | (with_reducible assumption) | assumption)
                      have hx7 := bt_at a0 x3_2
                      replace p7 := eq_true p7
                      replace q7 := eq_true q7
                      go_wp2
                      go_roundg k2
                      case measure => have := HJ1.out; have := HK2.out; omega
                      case rel => exact ⟨(wrap64 (x3_2 + 1)), (by first | rfl | (simp; done) | (simp [*]; done)), H', ⟨by have := HJ1.out; have := HK2.out; omega⟩, by repeat (first | exact Drawn0.refl _ | apply Drawn0.step)⟩
                    · rw [if_neg c21] at H
                      have c21b0 : decide ((bt a0 x3_2) ≤ 90) = false := decide_eq_false c21
                      clear c21
                      by_cases c22 : x3_2 = 0
                      · rw [if_pos c22] at H
                        have c22b0 : (x3_2 == 0) = true := beq_iff_eq.mpr c22
                        have c22b1 : (x3_2 != 0) = false := bne_eq_false_iff_eq.mpr c22
                        clear c22
                        obtain rfl := Option.some.inj H
                        have p7 : 0 ≤ (x3_2 : Int) := of_decide_eq_true (by first | (with_reducible assumption) | assumption)
                        have q7 : x3_2 < (a0.size : Int) := of_decide_eq_true (by first | (with_reducible assumption) | assumption)
                        have hx7 := bt_at a0 x3_2
                        replace p7 := eq_true p7
                        replace q7 := eq_true q7
                        go_wp2
                        go_ret
                        exact ⟨by first | rfl | (simp; done) | (simp [*]; done), by repeat (first | exact Drawn0.refl _ | apply Drawn0.step)⟩
                      · rw [if_neg c22] at H
                        have c22b0 : (x3_2 == 0) = false := beq_eq_false_iff_ne.mpr c22
                        have c22b1 : (x3_2 != 0) = true := bne_iff_ne.mpr c22
                        by_cases c23 : (bt a0 x3_2) = 95
                        · rw [if_pos c23] at H
                          have c23b0 : ((bt a0 x3_2) == 95) = true := beq_iff_eq.mpr c23
                          have c23b1 : ((bt a0 x3_2) != 95) = false := bne_eq_false_iff_eq.mpr c23
                          clear c23
                          have H' := Aside0.mk H
                          clear H
                          have p7 : 0 ≤ (x3_2 : Int) := of_decide_eq_true (by first | (with_reducible assumption) | assumption)
                          have q7 : x3_2 < (a0.size : Int) := of_decide_eq_true (by first | (with_reducible assumption) | assumption)
                          have hx7 := bt_at a0 x3_2
                          replace p7 := eq_true p7
                          replace q7 := eq_true q7
                          go_wp2
                          go_roundg k2
                          case measure => have := HJ1.out; have := HK2.out; omega
                          case rel => exact ⟨(wrap64 (x3_2 + 1)), (by first | rfl | (simp; done) | (simp [*]; done)), H', ⟨by have := HJ1.out; have := HK2.out; omega⟩, by repeat (first | exact Drawn0.refl _ | apply Drawn0.step)⟩
                        · rw [if_neg c23] at H
                          have c23b0 : ((bt a0 x3_2) == 95) = false := beq_eq_false_iff_ne.mpr c23
                          have c23b1 : ((bt a0 x3_2) != 95) = true := bne_iff_ne.mpr c23
                          by_cases c24 : (bt a0 x3_2) < 48
                          · rw [if_pos c24] at H
                            have c24b0 : decide ((bt a0 x3_2) < 48) = true := decide_eq_true c24
                            clear c24
                            obtain rfl := Option.some.inj H
                            have p7 : 0 ≤ (x3_2 : Int) := of_decide_eq_true (by first | (with_reducible assumption) | assumption)
                            have q7 : x3_2 < (a0.size : Int) := of_decide_eq_true (by first | (with_reducible assumption) | assumption)
                            have hx7 := bt_at a0 x3_2
                            replace p7 := eq_true p7
                            replace q7 := eq_true q7
                            go_wp2
                            go_ret
                            exact ⟨by first | rfl | (simp; done) | (simp [*]; done), by repeat (first | exact Drawn0.refl _ | apply Drawn0.step)⟩
                          · rw [if_neg c24] at H
                            have c24b0 : decide ((bt a0 x3_2) < 48) = false := decide_eq_false c24
                            clear c24
                            by_cases c25 : (bt a0 x3_2) > 57
                            · rw [if_pos c25] at H
                              have c25b0 : decide (57 < (bt a0 x3_2)) = true := decide_eq_true c25
                              clear c25
                              obtain rfl := Option.some.inj H
                              have p7 : 0 ≤ (x3_2 : Int) := of_decide_eq_true (by first | (with_reducible assumption) | assumption)
                              have q7 : x3_2 < (a0.size : Int) := of_decide_eq_true (by first | (with_reducible assumption) | assumption)
                              have hx7 := bt_at a0 x3_2
                              replace p7 := eq_true p7
                              replace q7 := eq_true q7
                              go_wp2
                              go_ret
                              exact ⟨by first | rfl | (simp; done) | (simp [*]; done), by repeat (first | exact Drawn0.refl _ | apply Drawn0.step)⟩
                            · rw [if_neg c25] at H
                              have c25b0 : decide (57 < (bt a0 x3_2)) = false := decide_eq_false c25
                              clear c25
                              have H' := Aside0.mk H
                              clear H
                              have p7 : 0 ≤ (x3_2 : Int) := of_decide_eq_true (by first | (with_reducible assumption) | assumption)
                              have q7 : x3_2 < (a0.size : Int) := of_decide_eq_true (by first | (with_reducible assumption) | assumption)
                              have hx7 := bt_at a0 x3_2
                              replace p7 := eq_true p7
                              replace q7 := eq_true q7
                              go_wp2
                              go_roundg k2
                              case measure => have := HJ1.out; have := HK2.out; omega
                              case rel => exact ⟨(wrap64 (x3_2 + 1)), (by first | rfl | (simp; done) | (simp [*]; done)), H', ⟨by have := HJ1.out; have := HK2.out; omega⟩, by repeat (first | exact Drawn0.refl _ | apply Drawn0.step)⟩
                  · rw [if_neg c20] at H
                    have c20b0 : decide (65 ≤ (bt a0 x3_2)) = false := decide_eq_false c20
                    clear c20
                    by_cases c26 : x3_2 = 0
                    · rw [if_pos c26] at H
                      have c26b0 : (x3_2 == 0) = true := beq_iff_eq.mpr c26
                      have c26b1 : (x3_2 != 0) = false := bne_eq_false_iff_eq.mpr c26
                      clear c26
                      obtain rfl := Option.some.inj H
                      have p7 : 0 ≤ (x3_2 : Int) := of_decide_eq_true (by first | (with_reducible assumption) | assumption)
                      have q7 : x3_2 < (a0.size : Int) := of_decide_eq_true (by first | (with_reducible assumption) | assumption)
                      have hx7 := bt_at a0 x3_2
                      replace p7 := eq_true p7
                      replace q7 := eq_true q7
                      go_wp2
                      go_ret
                      exact ⟨by first | rfl | (simp; done) | (simp [*]; done), by repeat (first | exact Drawn0.refl _ | apply Drawn0.step)⟩
                    · rw [if_neg c26] at H
                      have c26b0 : (x3_2 == 0) = false := beq_eq_false_iff_ne.mpr c26
                      have c26b1 : (x3_2 != 0) = true := bne_iff_ne.mpr c26
                      by_cases c27 : (bt a0 x3_2) = 95
                      · rw [if_pos c27] at H
                        have c27b0 : ((bt a0 x3_2) == 95) = true := beq_iff_eq.mpr c27
                        have c27b1 : ((bt a0 x3_2) != 95) = false := bne_eq_false_iff_eq.mpr c27
                        clear c27
                        have H' := Aside0.mk H
                        clear H
                        have p7 : 0 ≤ (x3_2 : Int) := of_decide_eq_true (by first | (with_reducible assumption) | assumption)
                        have q7 : x3_2 < (a0.size : Int) := of_decide_eq_true (by first | (with_reducible assumption) | assumption)
                        have hx7 := bt_at a0 x3_2
                        replace p7 := eq_true p7
                        replace q7 := eq_true q7
                        go_wp2
                        go_roundg k2
                        case measure => have := HJ1.out; have := HK2.out; omega
                        case rel => exact ⟨(wrap64 (x3_2 + 1)), (by first | rfl | (simp; done) | (simp [*]; done)), H', ⟨by have := HJ1.out; have := HK2.out; omega⟩, by repeat (first | exact Drawn0.refl _ | apply Drawn0.step)⟩
                      · rw [if_neg c27] at H
                        have c27b0 : ((bt a0 x3_2) == 95) = false := beq_eq_false_iff_ne.mpr c27
                        have c27b1 : ((bt a0 x3_2) != 95) = true := bne_iff_ne.mpr c27
                        by_cases c28 : (bt a0 x3_2) < 48
                        · rw [if_pos c28] at H
                          have c28b0 : decide ((bt a0 x3_2) < 48) = true := decide_eq_true c28
                          clear c28
                          obtain rfl := Option.some.inj H
                          have p7 : 0 ≤ (x3_2 : Int) := of_decide_eq_true (by first | (with_reducible assumption) | assumption)
                          have q7 : x3_2 < (a0.size : Int) := of_decide_eq_true (by first | (with_reducible assumption) | assumption)
                          have hx7 := bt_at a0 x3_2
                          replace p7 := eq_true p7
                          replace q7 := eq_true q7
                          go_wp2
                          go_ret
                          exact ⟨by first | rfl | (simp; done) | (simp [*]; done), by repeat (first | exact Drawn0.refl _ | apply Drawn0.step)⟩
                        · rw [if_neg c28] at H
                          have c28b0 : decide ((bt a0 x3_2) < 48) = false := decide_eq_false c28
                          clear c28
                          by_cases c29 : (bt a0 x3_2) > 57
                          · rw [if_pos c29] at H
                            have c29b0 : decide (57 < (bt a0 x3_2)) = true := decide_eq_true c29
                            clear c29
                            obtain rfl := Option.some.inj H
                            have p7 : 0 ≤ (x3_2 : Int) := of_decide_eq_true (by first | (with_reducible assumption) | assumption)
                            have q7 : x3_2 < (a0.size : Int) := of_decide_eq_true (by first | (with_reducible assumption) | assumption)
                            have hx7 := bt_at a0 x3_2
                            replace p7 := eq_true p7
                            replace q7 := eq_true q7
                            go_wp2
                            go_ret
                            exact ⟨by first | rfl | (simp; done) | (simp [*]; done), by repeat (first | exact Drawn0.refl _ | apply Drawn0.step)⟩
                          · rw [if_neg c29] at H
                            have c29b0 : decide (57 < (bt a0 x3_2)) = false := decide_eq_false c29
                            clear c29
                            have H' := Aside0.mk H
                            clear H
                            have p7 : 0 ≤ (x3_2 : Int) := of_decide_eq_true (by first | (with_reducible assumption) | assumption)
                            have q7 : x3_2 < (a0.size : Int) := of_decide_eq_true (by first | (with_reducible assumption) | assumption)
                            have hx7 := bt_at a0 x3_2
                            replace p7 := eq_true p7
                            replace q7 := eq_true q7
                            go_wp2
                            go_roundg k2
                            case measure => have := HJ1.out; have := HK2.out; omega
                            case rel => exact ⟨(wrap64 (x3_2 + 1)), (by first | rfl | (simp; done) | (simp [*]; done)), H', ⟨by have := HJ1.out; have := HK2.out; omega⟩, by repeat (first | exact Drawn0.refl _ | apply Drawn0.step)⟩
              · rw [if_neg c6] at H
                exact absurd H (by simp)
            · rw [if_neg c5] at H
              have c5b0 : decide (x3_2 < (a0.size : Int)) = false := decide_eq_false c5
              clear c5
              obtain rfl := Option.some.inj H
              go_wp2
              go_ret
              exact ⟨by first | rfl | (simp; done) | (simp [*]; done), by repeat (first | exact Drawn0.refl _ | apply Drawn0.step)⟩

end Go.Proofs.YtkjagcamikkjkaaGreat.P

end

section
namespace Go.Proofs.YtkjagcamikkjkaaGreat.P
open Go.RowKit Go.Proofs.YtkjagcamikkjkaaGreatW.PrintWords Go.Proofs.YtkjagcamikkjkaaGreatW.PrintLast Go.Proofs.YtkjagcamikkjkaaGreatW.PrintMore
attribute [local go_sem] max2_int min2_int max_two min_two max_three min_three max_four min_four   -- for this text's walks alone
set_option linter.unusedVariables false
set_option linter.unusedSimpArgs false

def provisoref02_word.f (a0 : Int) : Option (ByteArray) := if a0 = 0 then (some (⟨#[116, 111, 112]⟩ : ByteArray)) else (if a0 = 1 then (some (⟨#[105, 110, 116]⟩ : ByteArray)) else (if a0 = 2 then (some (⟨#[98, 111, 111, 108]⟩ : ByteArray)) else (if a0 = 3 then (some (⟨#[110, 117, 108, 108]⟩ : ByteArray)) else (if a0 = 4 then (some (⟨#[105, 110, 116, 115]⟩ : ByteArray)) else (if a0 = 5 then (some (⟨#[97, 110, 121]⟩ : ByteArray)) else (some (⟨#[]⟩ : ByteArray)))))))
set_option maxHeartbeats 8000000 in
set_option maxRecDepth 100000 in
theorem provisoref02_word.calls (a0 : Int) (r : ByteArray) (w : World) (h : provisoref02_word.f a0 = some r) :
    Calls Tryz.prog 76 #[.int .u8 a0] w fun e w' => e = .returned (.string r) ∧ Drawn0 w w' := by
  have H : (if a0 = 0 then (some (⟨#[116, 111, 112]⟩ : ByteArray)) else (if a0 = 1 then (some (⟨#[105, 110, 116]⟩ : ByteArray)) else (if a0 = 2 then (some (⟨#[98, 111, 111, 108]⟩ : ByteArray)) else (if a0 = 3 then (some (⟨#[110, 117, 108, 108]⟩ : ByteArray)) else (if a0 = 4 then (some (⟨#[105, 110, 116, 115]⟩ : ByteArray)) else (if a0 = 5 then (some (⟨#[97, 110, 121]⟩ : ByteArray)) else (some (⟨#[]⟩ : ByteArray)))))))) = some r := h
  clear h
  by_cases c2 : a0 = 0
  · rw [if_pos c2] at H
    have c2b0 : (a0 == 0) = true := beq_iff_eq.mpr c2
    have c2b1 : (a0 != 0) = false := bne_eq_false_iff_eq.mpr c2
    clear c2
    obtain rfl := Option.some.inj H
    go_enter Tryz.func76, Tryz.ntmps76
    go_wp2
    go_ret
    exact ⟨by first | rfl | (simp; done) | (simp [*]; done), by repeat (first | exact Drawn0.refl _ | apply Drawn0.step)⟩
  · rw [if_neg c2] at H
    have c2b0 : (a0 == 0) = false := beq_eq_false_iff_ne.mpr c2
    have c2b1 : (a0 != 0) = true := bne_iff_ne.mpr c2
    by_cases c3 : a0 = 1
    · rw [if_pos c3] at H
      have c3b0 : (a0 == 1) = true := beq_iff_eq.mpr c3
      have c3b1 : (a0 != 1) = false := bne_eq_false_iff_eq.mpr c3
      clear c3
      obtain rfl := Option.some.inj H
      go_enter Tryz.func76, Tryz.ntmps76
      go_wp2
      go_ret
      exact ⟨by first | rfl | (simp; done) | (simp [*]; done), by repeat (first | exact Drawn0.refl _ | apply Drawn0.step)⟩
    · rw [if_neg c3] at H
      have c3b0 : (a0 == 1) = false := beq_eq_false_iff_ne.mpr c3
      have c3b1 : (a0 != 1) = true := bne_iff_ne.mpr c3
      by_cases c4 : a0 = 2
      · rw [if_pos c4] at H
        have c4b0 : (a0 == 2) = true := beq_iff_eq.mpr c4
        have c4b1 : (a0 != 2) = false := bne_eq_false_iff_eq.mpr c4
        clear c4
        obtain rfl := Option.some.inj H
        go_enter Tryz.func76, Tryz.ntmps76
        go_wp2
        go_ret
        exact ⟨by first | rfl | (simp; done) | (simp [*]; done), by repeat (first | exact Drawn0.refl _ | apply Drawn0.step)⟩
      · rw [if_neg c4] at H
        have c4b0 : (a0 == 2) = false := beq_eq_false_iff_ne.mpr c4
        have c4b1 : (a0 != 2) = true := bne_iff_ne.mpr c4
        by_cases c5 : a0 = 3
        · rw [if_pos c5] at H
          have c5b0 : (a0 == 3) = true := beq_iff_eq.mpr c5
          have c5b1 : (a0 != 3) = false := bne_eq_false_iff_eq.mpr c5
          clear c5
          obtain rfl := Option.some.inj H
          go_enter Tryz.func76, Tryz.ntmps76
          go_wp2
          go_ret
          exact ⟨by first | rfl | (simp; done) | (simp [*]; done), by repeat (first | exact Drawn0.refl _ | apply Drawn0.step)⟩
        · rw [if_neg c5] at H
          have c5b0 : (a0 == 3) = false := beq_eq_false_iff_ne.mpr c5
          have c5b1 : (a0 != 3) = true := bne_iff_ne.mpr c5
          by_cases c6 : a0 = 4
          · rw [if_pos c6] at H
            have c6b0 : (a0 == 4) = true := beq_iff_eq.mpr c6
            have c6b1 : (a0 != 4) = false := bne_eq_false_iff_eq.mpr c6
            clear c6
            obtain rfl := Option.some.inj H
            go_enter Tryz.func76, Tryz.ntmps76
            go_wp2
            go_ret
            exact ⟨by first | rfl | (simp; done) | (simp [*]; done), by repeat (first | exact Drawn0.refl _ | apply Drawn0.step)⟩
          · rw [if_neg c6] at H
            have c6b0 : (a0 == 4) = false := beq_eq_false_iff_ne.mpr c6
            have c6b1 : (a0 != 4) = true := bne_iff_ne.mpr c6
            by_cases c7 : a0 = 5
            · rw [if_pos c7] at H
              have c7b0 : (a0 == 5) = true := beq_iff_eq.mpr c7
              have c7b1 : (a0 != 5) = false := bne_eq_false_iff_eq.mpr c7
              clear c7
              obtain rfl := Option.some.inj H
              go_enter Tryz.func76, Tryz.ntmps76
              go_wp2
              go_ret
              exact ⟨by first | rfl | (simp; done) | (simp [*]; done), by repeat (first | exact Drawn0.refl _ | apply Drawn0.step)⟩
            · rw [if_neg c7] at H
              have c7b0 : (a0 == 5) = false := beq_eq_false_iff_ne.mpr c7
              have c7b1 : (a0 != 5) = true := bne_iff_ne.mpr c7
              obtain rfl := Option.some.inj H
              go_enter Tryz.func76, Tryz.ntmps76
              go_wp2
              go_ret
              exact ⟨by first | rfl | (simp; done) | (simp [*]; done), by repeat (first | exact Drawn0.refl _ | apply Drawn0.step)⟩

def provisoref02_isWord.l0 : Nat → ByteArray → Int → Option (Bool)
  | 0, _, _ => none
  | k + 1, x0, x3 => if x3 ≤ 5 then ((provisoref02_word.f x3).bind fun t127 => (if t127.toList = x0.toList then (some true) else (provisoref02_isWord.l0 k x0 ((x3 + 1) % 256)))) else (some false)
def provisoref02_isWord.f (k : Nat) (a0 : ByteArray) : Option (Bool) := provisoref02_isWord.l0 k a0 0
set_option maxHeartbeats 8000000 in
set_option maxRecDepth 100000 in
theorem provisoref02_isWord.calls (k : Nat) (a0 : ByteArray) (r : Bool) (w : World) (h : provisoref02_isWord.f k a0 = some r) :
    Calls Tryz.prog 62 #[.string a0] w fun e w' => e = .returned (.bool r) ∧ Drawn0 w w' := by
  have H : (provisoref02_isWord.l0 k a0 0) = some r := h
  clear h
  have H' := Aside0.mk H
  clear H
  go_enter Tryz.func62, Tryz.ntmps62
  go_wp2
  go_loopg [3] k (fun kq v3 w' => ∃ (x3_1 : Int), v3 = .int .u8 x3_1 ∧ Aside0 (provisoref02_isWord.l0 kq a0 x3_1 = some r) ∧ Aside0 (kq ≤ k) ∧ Drawn0 w w')
  case atStart => exact ⟨(0), (by first | rfl | (simp; done) | (simp [*]; done)), H', ⟨Nat.le_refl _⟩, by repeat (first | exact Drawn0.refl _ | apply Drawn0.step)⟩
  case round =>
    clear H'
    obtain ⟨x3_1, rfl, HA, HK1, ⟨m1, rfl⟩⟩ := hrel
    cases gk with
    | zero => exact absurd HA.out (by simp [provisoref02_isWord.l0])
    | succ k1 =>
      have H := HA.out
      clear HA
      simp only [provisoref02_isWord.l0] at H
      by_cases c2 : x3_1 ≤ 5
      · rw [if_pos c2] at H
        have c2b0 : decide (x3_1 ≤ 5) = true := decide_eq_true c2
        clear c2
        replace H := Option.bind_eq_some_iff.mp H
        obtain ⟨t127, A30, H⟩ := H
        replace H : (if t127.toList = a0.toList then (some true) else (provisoref02_isWord.l0 k1 a0 ((x3_1 + 1) % 256))) = some r := H
        have A3 := Aside0.mk A30
        clear A30
        by_cases c4 : t127.toList = a0.toList
        · rw [if_pos c4] at H
          have c4b0 : (t127.toList == a0.toList) = true := beq_iff_eq.mpr c4
          have c4b1 : (t127.toList != a0.toList) = false := bne_eq_false_iff_eq.mpr c4
          clear c4
          obtain rfl := Option.some.inj H
          go_wp2_with (first | ((with_reducible refine gate_callee (f := 76) rfl ?_); refine goesL_ (some 9) rfl rfl Tryz.func76 (by kernel_rfl) rfl #[.int .u8 x3_1] rfl (by (try simp only [List.map_toArray, List.map_cons, List.map_nil]); first | done | rfl | (simp only [List.length_drop, List.length_take]; rfl)) ?_; (with_reducible refine (provisoref02_word.calls x3_1 t127 _ A3.out).mono ?_); rintro e w' ⟨rfl, ⟨nd, rfl⟩⟩; refine ⟨_, rfl, ?_⟩))
          go_ret
          exact ⟨by first | rfl | (simp; done) | (simp [*]; done), by repeat (first | exact Drawn0.refl _ | apply Drawn0.step)⟩
        · rw [if_neg c4] at H
          have c4b0 : (t127.toList == a0.toList) = false := beq_eq_false_iff_ne.mpr c4
          have c4b1 : (t127.toList != a0.toList) = true := bne_iff_ne.mpr c4
          have H' := Aside0.mk H
          clear H
          go_wp2_with (first | ((with_reducible refine gate_callee (f := 76) rfl ?_); refine goesL_ (some 9) rfl rfl Tryz.func76 (by kernel_rfl) rfl #[.int .u8 x3_1] rfl (by (try simp only [List.map_toArray, List.map_cons, List.map_nil]); first | done | rfl | (simp only [List.length_drop, List.length_take]; rfl)) ?_; (with_reducible refine (provisoref02_word.calls x3_1 t127 _ A3.out).mono ?_); rintro e w' ⟨rfl, ⟨nd, rfl⟩⟩; refine ⟨_, rfl, ?_⟩))
          go_roundg k1
          case measure => have := HK1.out; omega
          case rel => exact ⟨((x3_1 + 1) % 256), (by first | rfl | (simp; done) | (simp [*]; done)), H', ⟨by have := HK1.out; omega⟩, by repeat (first | exact Drawn0.refl _ | apply Drawn0.step)⟩
      · rw [if_neg c2] at H
        have c2b0 : decide (x3_1 ≤ 5) = false := decide_eq_false c2
        clear c2
        obtain rfl := Option.some.inj H
        go_wp2
        go_ret
        exact ⟨by first | rfl | (simp; done) | (simp [*]; done), by repeat (first | exact Drawn0.refl _ | apply Drawn0.step)⟩

def provisoref02_has.l0 : Nat → List (S41) → ByteArray → Int → Option (Bool)
  | 0, _, _, _ => none
  | k + 1, x0, x1, x5 => if x5 < (x0.length : Int) then (if 0 ≤ x5 then (if ((rd_T41 x0 x5).f0).toList = x1.toList then (some true) else (provisoref02_has.l0 k x0 x1 (wrap64 (x5 + 1)))) else (none)) else (some false)
def provisoref02_has.f (k : Nat) (l0 : List (S41)) (a1 : ByteArray) : Option (Bool) := provisoref02_has.l0 k l0 a1 0
set_option maxHeartbeats 8000000 in
set_option maxRecDepth 100000 in
theorem provisoref02_has.calls (k : Nat) (A0 : Option Addr) (c0 : Nat) (l0 : List (S41)) (a1 : ByteArray) (r : Bool) (w : World) (hr0 : Kd.C k41 w A0 l0.length l0) (hc0 : l0.length ≤ c0) (h : provisoref02_has.f k l0 a1 = some r) :
    Calls Tryz.prog 63 #[.slice A0 l0.length c0, .string a1] w fun e w' => e = .returned (.bool r) ∧ Drawn0 w w' := by
  have HR0 := Aside0.mk hr0
  have HC0 := Aside0.mk hc0
  clear hr0 hc0
  have H : (provisoref02_has.l0 k l0 a1 0) = some r := h
  clear h
  have H' := Aside0.mk H
  clear H
  go_enter Tryz.func63, Tryz.ntmps63
  go_wp2
  go_loopg [5] k (fun kq v5 w' => ∃ (x5_1 : Int), v5 = .int .i64 x5_1 ∧ Aside0 (provisoref02_has.l0 kq l0 a1 x5_1 = some r) ∧ Aside0 (kq ≤ k) ∧ Drawn0 w w')
  case atStart => exact ⟨(0), (by first | rfl | (simp; done) | (simp [*]; done)), H', ⟨Nat.le_refl _⟩, by repeat (first | exact Drawn0.refl _ | apply Drawn0.step)⟩
  case round =>
    clear H'
    try clear p2
    obtain ⟨x5_1, rfl, HA, HK1, ⟨m1, rfl⟩⟩ := hrel
    cases gk with
    | zero => exact absurd HA.out (by simp [provisoref02_has.l0])
    | succ k1 =>
      have H := HA.out
      clear HA
      simp only [provisoref02_has.l0] at H
      by_cases c3 : x5_1 < (l0.length : Int)
      · rw [if_pos c3] at H
        have c3b0 : decide (x5_1 < (l0.length : Int)) = true := decide_eq_true c3
        clear c3
        by_cases c4 : 0 ≤ x5_1
        · rw [if_pos c4] at H
          have c4b0 : decide (0 ≤ x5_1) = true := decide_eq_true c4
          clear c4
          by_cases c5 : ((rd_T41 l0 x5_1).f0).toList = a1.toList
          · rw [if_pos c5] at H
            have c5b0 : (((rd_T41 l0 x5_1).f0).toList == a1.toList) = true := beq_iff_eq.mpr c5
            have c5b1 : (((rd_T41 l0 x5_1).f0).toList != a1.toList) = false := bne_eq_false_iff_eq.mpr c5
            clear c5
            obtain rfl := Option.some.inj H
            have p128 : 0 ≤ (x5_1 : Int) := of_decide_eq_true (by first | (with_reducible assumption) | assumption)
            have q128 : x5_1 < (l0.length : Int) := of_decide_eq_true (by first | (with_reducible assumption) | assumption)
            obtain ⟨ad128, e128, hx128_0, hx128_1⟩ := at_T41 HR0.out x5_1 p128 q128
            cases e128
            replace p128 := eq_true p128
            replace q128 := eq_true q128
            go_wp2
            go_ret
            exact ⟨by first | rfl | (simp; done) | (simp [*]; done), by repeat (first | exact Drawn0.refl _ | apply Drawn0.step)⟩
          · rw [if_neg c5] at H
            have c5b0 : (((rd_T41 l0 x5_1).f0).toList == a1.toList) = false := beq_eq_false_iff_ne.mpr c5
            have c5b1 : (((rd_T41 l0 x5_1).f0).toList != a1.toList) = true := bne_iff_ne.mpr c5
            have H' := Aside0.mk H
            clear H
            have p128 : 0 ≤ (x5_1 : Int) := of_decide_eq_true (by first | (with_reducible assumption) | assumption)
            have q128 : x5_1 < (l0.length : Int) := of_decide_eq_true (by first | (with_reducible assumption) | assumption)
            obtain ⟨ad128, e128, hx128_0, hx128_1⟩ := at_T41 HR0.out x5_1 p128 q128
            cases e128
            replace p128 := eq_true p128
            replace q128 := eq_true q128
            go_wp2
            go_roundg k1
            case measure => have := HK1.out; omega
            case rel => exact ⟨(wrap64 (x5_1 + 1)), (by first | rfl | (simp; done) | (simp [*]; done)), H', ⟨by have := HK1.out; omega⟩, by repeat (first | exact Drawn0.refl _ | apply Drawn0.step)⟩
        · rw [if_neg c4] at H
          exact absurd H (by simp)
      · rw [if_neg c3] at H
        have c3b0 : decide (x5_1 < (l0.length : Int)) = false := decide_eq_false c3
        clear c3
        obtain rfl := Option.some.inj H
        go_wp2
        go_ret
        exact ⟨by first | rfl | (simp; done) | (simp [*]; done), by repeat (first | exact Drawn0.refl _ | apply Drawn0.step)⟩

def provisoref02_Valid.f (l0 : List (S38)) (a1 : Int) : Option (Bool) := if a1 ≤ 5 then (some true) else (if a1 ≥ 16 then (some (decide (((a1 - 16) % 256) < (l0.length : Int)))) else (some false))
set_option maxHeartbeats 8000000 in
set_option maxRecDepth 100000 in
theorem provisoref02_Valid.calls (A0 : Option Addr) (c0 : Nat) (l0 : List (S38)) (a1 : Int) (r : Bool) (w : World) (hr0 : Kd.C k38 w A0 l0.length l0) (hc0 : l0.length ≤ c0) (h : provisoref02_Valid.f l0 a1 = some r) :
    Calls Tryz.prog 77 #[.slice A0 l0.length c0, .int .u8 a1] w fun e w' => e = .returned (.bool r) ∧ Drawn0 w w' := by
  have HR0 := Aside0.mk hr0
  have HC0 := Aside0.mk hc0
  clear hr0 hc0
  have H : (if a1 ≤ 5 then (some true) else (if a1 ≥ 16 then (some (decide (((a1 - 16) % 256) < (l0.length : Int)))) else (some false))) = some r := h
  clear h
  by_cases c3 : a1 ≤ 5
  · rw [if_pos c3] at H
    have c3b0 : decide (a1 ≤ 5) = true := decide_eq_true c3
    clear c3
    obtain rfl := Option.some.inj H
    go_enter Tryz.func77, Tryz.ntmps77
    go_wp2
    go_ret
    exact ⟨by first | rfl | (simp; done) | (simp [*]; done), by repeat (first | exact Drawn0.refl _ | apply Drawn0.step)⟩
  · rw [if_neg c3] at H
    have c3b0 : decide (a1 ≤ 5) = false := decide_eq_false c3
    clear c3
    by_cases c4 : a1 ≥ 16
    · rw [if_pos c4] at H
      have c4b0 : decide (16 ≤ a1) = true := decide_eq_true c4
      clear c4
      obtain rfl := Option.some.inj H
      go_enter Tryz.func77, Tryz.ntmps77
      go_wp2
      go_ret
      exact ⟨by first | rfl | (simp; done) | (simp [*]; done), by repeat (first | exact Drawn0.refl _ | apply Drawn0.step)⟩
    · rw [if_neg c4] at H
      have c4b0 : decide (16 ≤ a1) = false := decide_eq_false c4
      clear c4
      obtain rfl := Option.some.inj H
      go_enter Tryz.func77, Tryz.ntmps77
      go_wp2
      go_ret
      exact ⟨by first | rfl | (simp; done) | (simp [*]; done), by repeat (first | exact Drawn0.refl _ | apply Drawn0.step)⟩

def provisoref02_Stored.f (l0 : List (S38)) (a1 : Int) : Option (Bool) := (provisoref02_Valid.f l0 a1).bind fun t129 => (if t129 = true then (if a1 = 0 then (some false) else (some (a1 != 3))) else (some false))
set_option maxHeartbeats 8000000 in
set_option maxRecDepth 100000 in
theorem provisoref02_Stored.calls (A0 : Option Addr) (c0 : Nat) (l0 : List (S38)) (a1 : Int) (r : Bool) (w : World) (hr0 : Kd.C k38 w A0 l0.length l0) (hc0 : l0.length ≤ c0) (h : provisoref02_Stored.f l0 a1 = some r) :
    Calls Tryz.prog 64 #[.slice A0 l0.length c0, .int .u8 a1] w fun e w' => e = .returned (.bool r) ∧ Drawn0 w w' := by
  have HR0 := Aside0.mk hr0
  have HC0 := Aside0.mk hc0
  clear hr0 hc0
  have H : ((provisoref02_Valid.f l0 a1).bind fun t129 => (if t129 = true then (if a1 = 0 then (some false) else (some (a1 != 3))) else (some false))) = some r := h
  clear h
  replace H := Option.bind_eq_some_iff.mp H
  obtain ⟨t129, A30, H⟩ := H
  replace H : (if t129 = true then (if a1 = 0 then (some false) else (some (a1 != 3))) else (some false)) = some r := H
  have A3 := Aside0.mk A30
  clear A30
  by_cases c4 : t129 = true
  · subst c4
    have H1 : (if a1 = 0 then (some false) else (some (a1 != 3))) = some r := by rw [if_pos rfl] at H; exact H
    clear H
    have H := H1
    clear H1
    by_cases c5 : a1 = 0
    · rw [if_pos c5] at H
      have c5b0 : (a1 == 0) = true := beq_iff_eq.mpr c5
      have c5b1 : (a1 != 0) = false := bne_eq_false_iff_eq.mpr c5
      clear c5
      obtain rfl := Option.some.inj H
      go_enter Tryz.func64, Tryz.ntmps64
      go_wp2_with (first | ((with_reducible refine gate_callee (f := 77) rfl ?_); refine goesL_ (some 7) rfl rfl Tryz.func77 (by kernel_rfl) rfl #[.slice A0 l0.length c0, .int .u8 a1] rfl (by (try simp only [List.map_toArray, List.map_cons, List.map_nil]); first | done | rfl | (simp only [List.length_drop, List.length_take]; rfl)) ?_; (with_reducible refine (provisoref02_Valid.calls _ _ l0 a1 true _ ?side1 ?side2 A3.out).mono ?_); (case side1 => repeat (first | exact HR0.out | (with_reducible refine Kd.C_alloc ?_ _) | (with_reducible refine Kd.C_drewN ?_ _) | (with_reducible refine Kd.C_drew ?_))); (case side2 => exact HC0.out); rintro e w' ⟨rfl, ⟨nd, rfl⟩⟩; refine ⟨_, rfl, ?_⟩))
      go_ret
      exact ⟨by first | rfl | (simp; done) | (simp [*]; done), by repeat (first | exact Drawn0.refl _ | apply Drawn0.step)⟩
    · rw [if_neg c5] at H
      have c5b0 : (a1 == 0) = false := beq_eq_false_iff_ne.mpr c5
      have c5b1 : (a1 != 0) = true := bne_iff_ne.mpr c5
      obtain rfl := Option.some.inj H
      go_enter Tryz.func64, Tryz.ntmps64
      go_wp2_with (first | ((with_reducible refine gate_callee (f := 77) rfl ?_); refine goesL_ (some 7) rfl rfl Tryz.func77 (by kernel_rfl) rfl #[.slice A0 l0.length c0, .int .u8 a1] rfl (by (try simp only [List.map_toArray, List.map_cons, List.map_nil]); first | done | rfl | (simp only [List.length_drop, List.length_take]; rfl)) ?_; (with_reducible refine (provisoref02_Valid.calls _ _ l0 a1 true _ ?side1 ?side2 A3.out).mono ?_); (case side1 => repeat (first | exact HR0.out | (with_reducible refine Kd.C_alloc ?_ _) | (with_reducible refine Kd.C_drewN ?_ _) | (with_reducible refine Kd.C_drew ?_))); (case side2 => exact HC0.out); rintro e w' ⟨rfl, ⟨nd, rfl⟩⟩; refine ⟨_, rfl, ?_⟩))
      go_ret
      exact ⟨by first | rfl | (simp; done) | (simp [*]; done), by repeat (first | exact Drawn0.refl _ | apply Drawn0.step)⟩
  · replace c4 := Bool.eq_false_iff.mpr c4
    subst c4
    have H1 : (some false) = some r := by rw [if_neg (show ¬ (false = true) by decide)] at H; exact H
    clear H
    have H := H1
    clear H1
    obtain rfl := Option.some.inj H
    go_enter Tryz.func64, Tryz.ntmps64
    go_wp2_with (first | ((with_reducible refine gate_callee (f := 77) rfl ?_); refine goesL_ (some 7) rfl rfl Tryz.func77 (by kernel_rfl) rfl #[.slice A0 l0.length c0, .int .u8 a1] rfl (by (try simp only [List.map_toArray, List.map_cons, List.map_nil]); first | done | rfl | (simp only [List.length_drop, List.length_take]; rfl)) ?_; (with_reducible refine (provisoref02_Valid.calls _ _ l0 a1 false _ ?side1 ?side2 A3.out).mono ?_); (case side1 => repeat (first | exact HR0.out | (with_reducible refine Kd.C_alloc ?_ _) | (with_reducible refine Kd.C_drewN ?_ _) | (with_reducible refine Kd.C_drew ?_))); (case side2 => exact HC0.out); rintro e w' ⟨rfl, ⟨nd, rfl⟩⟩; refine ⟨_, rfl, ?_⟩))
    go_ret
    exact ⟨by first | rfl | (simp; done) | (simp [*]; done), by repeat (first | exact Drawn0.refl _ | apply Drawn0.step)⟩

end Go.Proofs.YtkjagcamikkjkaaGreat.P

end

section
namespace Go.Proofs.YtkjagcamikkjkaaGreat.P
open Go.RowKit Go.Proofs.YtkjagcamikkjkaaGreatW.PrintWords Go.Proofs.YtkjagcamikkjkaaGreatW.PrintLast Go.Proofs.YtkjagcamikkjkaaGreatW.PrintMore
attribute [local go_sem] max2_int min2_int max_two min_two max_three min_three max_four min_four   -- for this text's walks alone
set_option linter.unusedVariables false
set_option linter.unusedSimpArgs false

mutual
def provisoref02_fault.j0 : Nat → List (S38) → Int → Bool → ByteArray → Int → List (S41) → Option (Int)
  | 0, _, _, _, _, _, _ => none
  | k + 1, x0, x1, x24, x132000, x132001, x132002 => if x24 = true then (some 6) else (provisoref02_fault.l0 k x0 x1 0 x132000 x132001 x132002)
def provisoref02_fault.l0 : Nat → List (S38) → Int → Int → ByteArray → Int → List (S41) → Option (Int)
  | 0, _, _, _, _, _, _ => none
  | k + 1, x0, x1, x6, x132000, x132001, x132002 => if x6 < x1 then (if 0 ≤ x6 then (if x6 < (x0.length : Int) then (if ((rd_T38 x0 x6).f0).toList = x132000.toList then (some 20) else (provisoref02_fault.l0 k x0 x1 (wrap64 (x6 + 1)) x132000 x132001 x132002)) else (none)) else (none)) else (if x132001 < (-1) then (provisoref02_fault.j2 k x0 true x132000 x132001 x132002) else (provisoref02_fault.j2 k x0 (decide (x132001 ≥ x1)) x132000 x132001 x132002))
def provisoref02_fault.j2 : Nat → List (S38) → Bool → ByteArray → Int → List (S41) → Option (Int)
  | 0, _, _, _, _, _ => none
  | k + 1, x0, x46, x132000, x132001, x132002 => if x46 = true then (some 21) else ((provisoref02_Fields.f k x0 x132001).bind fun t135 => (provisoref02_fault.l1 k x0 t135 0 x132000 x132001 x132002))
def provisoref02_fault.l1 : Nat → List (S38) → List (S41) → Int → ByteArray → Int → List (S41) → Option (Int)
  | 0, _, _, _, _, _, _ => none
  | k + 1, x0, x7, x8, x132000, x132001, x132002 => if x8 < (x132002.length : Int) then (if 0 ≤ x8 then ((provisoref02_IsName.f k ((rd_T41 x132002 x8).f0)).bind fun t140 => (if t140 = true then ((provisoref02_has.f k x7 ((rd_T41 x132002 x8).f0)).bind fun t141 => (if t141 = true then (some 20) else (if x8 ≤ (x132002.length : Int) then ((provisoref02_has.f k (x132002.take (x8 : Int).toNat) ((rd_T41 x132002 x8).f0)).bind fun t146 => (if t146 = true then (some 20) else ((provisoref02_Stored.f x0 ((rd_T41 x132002 x8).f1)).bind fun t147 => (if t147 = true then (provisoref02_fault.l1 k x0 x7 (wrap64 (x8 + 1)) x132000 x132001 x132002) else (some 22))))) else (none)))) else (some 6))) else (none)) else (if (x132002.length : Int) > (wrap64 (32 - (x7.length : Int))) then (some 4) else (some 0))
end
def provisoref02_fault.f (k : Nat) (l0 : List (S38)) (a1 : Int) : Option (Int) := if 0 ≤ a1 then (if a1 < (l0.length : Int) then (if a1 ≥ 32 then (some 4) else ((provisoref02_IsName.f k ((rd_T38 l0 a1).f0)).bind fun t132 => (if t132 = true then ((provisoref02_isWord.f k ((rd_T38 l0 a1).f0)).bind fun t133 => (provisoref02_fault.j0 k l0 a1 t133 ((rd_T38 l0 a1).f0) ((rd_T38 l0 a1).f1) ((rd_T38 l0 a1).f2))) else (provisoref02_fault.j0 k l0 a1 true ((rd_T38 l0 a1).f0) ((rd_T38 l0 a1).f1) ((rd_T38 l0 a1).f2))))) else (none)) else (none)
end Go.Proofs.YtkjagcamikkjkaaGreat.P
end

