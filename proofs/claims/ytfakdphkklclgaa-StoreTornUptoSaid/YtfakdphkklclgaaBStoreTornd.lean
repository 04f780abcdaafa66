/- Proved: the law StoreTorn holds for every input that the row lets in. No condition of ours. -/
import Derived.Test.YtfakdphkklclgaaBStoreTornc
import Derived.Maps.RangeWalk
import Derived.Maps.OwnSet
import Derived.Maps.OwnOps
import Derived.Shelf.SlIter.Nil
import Derived.Shelf.SortM.Plain
import Derived.Shelf.SortM.SortNone
import Derived.Ground.GgzProg
import Derived.Ground.SlgmProg
section
namespace Go.Proofs.Ytfakdphkklclgaa.P
open Go.RowKit Go.Proofs.YtfakdphkklclgaaW.PrintWords Go.Proofs.YtfakdphkklclgaaW.PrintLast Go.Proofs.YtfakdphkklclgaaW.PrintMore
attribute [local go_sem] max2_int min2_int max_two min_two max_three min_three max_four min_four
set_option linter.unusedVariables false
set_option linter.unusedSimpArgs false
set_option maxHeartbeats 1600000 in
set_option maxRecDepth 100000 in
theorem Over_calls (A0 : Option Addr) (c0 : Nat) (l0 : List Int) (w : World) (hr0 : Kd.C (Kd.int .u8) w A0 l0.length l0) (hc0 : l0.length ≤ c0) (hlim : l0.length ≤ 281474976710656) :
    Calls Try.prog 53 #[.slice A0 l0.length c0] w fun e w' => ∃ g, e = .returned (.pointer (some ⟨g, 0, none⟩)) ∧ RdAt w.heap.size g l0 0 w' ∧ Below w.heap.size w w' := by
  have HR := Aside0.mk hr0
  have HL := Aside0.mk hlim
  have hlen : l0.length ≤ 9223372036854775807 := hr0.2.1
  clear hr0 hc0 hlim
  go_enter Try.func53, Try.ntmps53
  go_wp2_with (first | ((with_reducible refine gate_dst (N := 6) rfl ?_); refine Kd.R_make (Kd.int .u8) (w0 := w) w.heap.size 5 rfl (N := 6) rfl 23 (.tmp 5) (.tmp 5) rfl (l0.length : Int) rfl rfl Try.underlying23 (.int .u8 0) 1 info5 rfl (by decide) (by decide) 0 (ok := fun _ => True) (okp := fun _ => True) rfl (fun _ h => h) trivial (by omega) ?hl (Below.refl _ _) (Nat.le_refl _) ?_; (case hl => have := HL.out; rw [Int.toNat_natCast]; omega); intro v1 w1 ho hb hg hat; rw [Int.toNat_natCast] at ho; have HB := Aside0.mk hb; obtain ⟨Av, cv, e1⟩ := Kd.R_slice ho; rw [List.length_replicate] at e1; subst e1; obtain ⟨w2, hrun, hR2, hg2⟩ := copy_own (P := Try.prog) (ty := 3) (cA := c0) Try.underlying23 (by kernel_rfl) ho (Kd.C_below HR.out hb) (by simp); have HR2 := Aside0.mk hR2; have HG2 := Aside0.mk (Below.grown hb hg2 hb.size (fun k hk => (Kd.R_base_ ho k hk))); clear ho hb hg hat hR2 hg2))
  have h1 := blk_new w2 (.cells #[.slice Av l0.length cv, .int .i64 0, .bool true] 118)
  have h2 := Kd.R_alloc HR2.out (.cells #[.slice Av l0.length cv, .int .i64 0, .bool true] 118)
  have h3 := below_alloc HG2.out (.cells #[.slice Av l0.length cv, .int .i64 0, .bool true] 118)
  have h4 := HG2.out.size
  go_ret
  exact ⟨w2.heap.size, rfl, ⟨Nat.zero_le _, h4, _, h1, h2⟩, h3⟩
theorem RdAt.drewN {base g : Nat} {bs : List Int} {at_ : Nat} {W : World} (h : RdAt base g bs at_ W) (m : Nat) : RdAt base g bs at_ (W.drewN m) := by
  obtain ⟨h1, h2, v, h3, h4⟩ := h
  exact ⟨h1, h2, v, blk_drewN h3 m, Kd.R_drewN h4 m⟩
theorem RdAt.step {base g : Nat} {bs : List Int} {at_ : Nat} {W W' : World} (h : RdAt base g bs at_ W) (hb : Below W.heap.size W W') : RdAt base g bs at_ W' := by
  obtain ⟨h1, h2, v, h3, h4⟩ := h
  exact ⟨h1, h2, v, blk_below h3 hb, Kd.R_below h4 hb⟩
theorem RdAt.set {base g : Nat} {bs : List Int} {at_ : Nat} {W : World} (h : RdAt base g bs at_ W) (n : Nat) (hn : n ≤ bs.length) : RdAt base g bs n (W.setCell ⟨g, 1, none⟩ (.int .i64 (n : Int))) := by
  obtain ⟨h1, h2, v, h3, h4⟩ := h
  exact ⟨hn, h2, v, blk_set h3 1 _, Kd.R_set h4 h3 (by decide) _ _⟩
theorem RdAt.len {base g : Nat} {bs : List Int} {at_ : Nat} {W : World} (h : RdAt base g bs at_ W) : bs.length ≤ 9223372036854775807 := by
  obtain ⟨_, _, v, _, h4⟩ := h
  obtain ⟨A, c, rfl⟩ := Kd.R_slice h4
  exact (Kd.R_reads' h4).2.2.2.1
set_option maxHeartbeats 800000 in
set_option maxRecDepth 100000 in
theorem ready_rd {base g : Nat} {bs : List Int} {at_ : Nat} {w : World} (h : RdAt base g bs at_ w) : Calls Try.prog 71 #[.pointer (some ⟨g, 0, none⟩)] w fun e w' => e = .returned (.bool true) ∧ Drawn0 w w' := by
  obtain ⟨_, _, v, h3, _⟩ := h
  have hc := blk_cell h3 2
  clear h3
  go_enter Try.func71, Try.ntmps71
  go_wp2
  go_ret
  exact ⟨rfl, 0, rfl⟩
set_option maxHeartbeats 800000 in
set_option maxRecDepth 100000 in
theorem At_rd {base g : Nat} {bs : List Int} {at_ : Nat} {w : World} (h : RdAt base g bs at_ w) : Calls Try.prog 55 #[.pointer (some ⟨g, 0, none⟩)] w fun e w' => e = .returned (.int .i64 (at_ : Int)) ∧ Drawn0 w w' := by
  obtain ⟨v, h3, _⟩ := h.now
  have hc := blk_cell h3 1
  have H := Aside0.mk h
  clear h3 h
  go_enter Try.func55, Try.ntmps55
  go_wp2_with fail
  refine (ready_rd H.out).mono ?_
  rintro e w1 ⟨rfl, m, rfl⟩
  go_wp2
  go_ret
  exact ⟨rfl, m, rfl⟩
set_option maxHeartbeats 800000 in
set_option maxRecDepth 100000 in
theorem Left_rd {base g : Nat} {bs : List Int} {at_ : Nat} {w : World} (h : RdAt base g bs at_ w) : Calls Try.prog 54 #[.pointer (some ⟨g, 0, none⟩)] w fun e w' => e = .returned (.int .i64 ((bs.length : Int) - (at_ : Int))) ∧ Drawn0 w w' := by
  obtain ⟨v, h3, h4⟩ := h.now
  obtain ⟨A, c, rfl⟩ := Kd.R_slice h4
  have hc := blk_cell h3 1
  have hc0 := blk_cell h3 0
  have hlen := h.len
  have hle := h.le
  have H := Aside0.mk h
  clear h3 h h4
  go_enter Try.func54, Try.ntmps54
  go_wp2_with fail
  refine (ready_rd H.out).mono ?_
  rintro e w1 ⟨rfl, m, rfl⟩
  go_wp2
  go_quiet (fail)
  go_wp2
  go_ret
  exact ⟨rfl, _, World.drewN_drewN _ _ _⟩
set_option maxHeartbeats 800000 in
set_option maxRecDepth 100000 in
theorem next_bad {base g : Nat} {bs : List Int} {at_ : Nat} {w : World} (h : RdAt base g bs at_ w) (n : Int) (hn : n < 0 ∨ n > (bs.length : Int) - (at_ : Int)) : Calls Try.prog 80 #[.pointer (some ⟨g, 0, none⟩), .int .i64 n] w fun e w' => e = .returned (.tuple #[.slice none 0 0, .int .i64 (if n < 0 then 1 else 2)]) ∧ Drawn0 w w' := by
  have H := Aside0.mk h
  clear h
  by_cases c1 : n < 0
  · have c1b : decide (n < 0) = true := decide_eq_true c1
    rw [if_pos c1]
    clear hn c1
    go_enter Try.func80, Try.ntmps80
    go_wp2_with fail
    refine (ready_rd H.out).mono ?_
    rintro e w1 ⟨rfl, m, rfl⟩
    go_wp2
    go_ret2
    exact ⟨rfl, m, rfl⟩
  · have c1b : decide (n < 0) = false := decide_eq_false c1
    have c2 : (bs.length : Int) - (at_ : Int) < n := by omega
    have c2b : decide ((bs.length : Int) - (at_ : Int) < n) = true := decide_eq_true c2
    rw [if_neg c1]
    clear hn c1 c2
    go_enter Try.func80, Try.ntmps80
    go_wp2_with fail
    refine (ready_rd H.out).mono ?_
    rintro e w1 ⟨rfl, m, rfl⟩
    go_wp2_with fail
    refine (Left_rd (H.out.drewN m)).mono ?_
    rintro e w2 ⟨rfl, m2, rfl⟩
    go_wp2
    go_ret2
    exact ⟨rfl, _, rfl⟩
set_option maxHeartbeats 1600000 in
set_option maxRecDepth 100000 in
theorem next_good {base g : Nat} {bs : List Int} {at_ : Nat} {w : World} (h : RdAt base g bs at_ w) (n : Nat) (hn : at_ + n ≤ bs.length) : Calls Try.prog 80 #[.pointer (some ⟨g, 0, none⟩), .int .i64 (n : Int)] w fun e w' => ∃ (A : Option Addr) (c m m2 : Nat), e = .returned (.tuple #[.slice A n c, .int .i64 0]) ∧ n ≤ c ∧ w' = ((w.drewN m).setCell ⟨g, 1, none⟩ (.int .i64 ((at_ + n : Nat) : Int))).drewN m2 ∧ Kd.C (Kd.int .u8) w' A n ((bs.take (at_ + n)).drop at_) := by
  have hlen := h.len
  have hle := h.le
  have H := Aside0.mk h
  clear h
  have c1b : decide ((n : Int) < 0) = false := decide_eq_false (by omega)
  have c2b : decide ((bs.length : Int) - (at_ : Int) < (n : Int)) = false := decide_eq_false (by omega)
  go_enter Try.func80, Try.ntmps80
  go_wp2_with fail
  refine (ready_rd H.out).mono ?_
  rintro e w1 ⟨rfl, m, rfl⟩
  go_wp2_with fail
  refine (Left_rd (H.out.drewN m)).mono ?_
  rintro e w2 ⟨rfl, m2, rfl⟩
  have H2 := (H.out.drewN m).drewN m2
  rw [World.drewN_drewN] at H2 ⊢
  generalize hw3 : w.drewN (m + m2) = w3 at H2 ⊢
  obtain ⟨v, h3, h4⟩ := H2.now
  obtain ⟨A, c, rfl⟩ := Kd.R_slice h4
  have hc1 := blk_cell h3 1
  have hf1 := blk_frozen h3 1
  have h5 := blk_set h3 1 (.int .i64 ((at_ + n : Nat) : Int))
  have h6 := H2.set (at_ + n) hn
  have hc := blk_cell h5 0
  have hcc := blk_cell h5 1
  have H6 := Aside0.mk h6
  have HW3 := Aside0.mk hw3
  have hcap : at_ + n ≤ c := by have := (Kd.R_reads' h4).2.1; omega
  have hsl := Kd.C_mid (Kd.R_reads' (show Kd.R (Kd.int .u8) 5 (w3.setCell ⟨g, 1, none⟩ (.int .i64 ((at_ + n : Nat) : Int))) base (fun _ => True) (.slice A bs.length c) bs from Kd.R_set h4 h3 (by decide) _ _)).2.2 (lo := at_) (hi := at_ + n) (c := c) (Nat.le_add_right _ _) hn (Kd.R_reads' h4).2.1
  have HS := Aside0.mk hsl
  have en : ((at_ + n : Nat) : Int) = (at_ : Int) + (n : Int) := Int.natCast_add _ _
  have hgoal : w3.setCell ⟨g, 1, none⟩ (.int .i64 ((at_ + n : Nat) : Int)) = (w.drewN (m + m2)).setCell ⟨g, 1, none⟩ (.int .i64 ((at_ + n : Nat) : Int)) := by rw [HW3.out]
  have HG := Aside0.mk hgoal
  have q1 : decide (at_ ≤ at_ + n) = true := decide_eq_true (Nat.le_add_right _ _)
  have q2 : (at_ + n ≤ c) = True := eq_true hcap
  clear h3 h4 h5 h6 H2 H hw3 hsl hgoal hcap HW3
  rw [en] at HS HG H6 hc hcc
  clear en
  go_upto_region 8 with fail
  generalize w3.setCell ⟨g, 1, none⟩ (.int .i64 ((at_ : Int) + (n : Int))) = w4 at HS HG H6 hc hcc ⊢
  clear hc1 hf1
  have hA : w4.cell? ⟨g, 0, none⟩ = some (.slice A bs.length c) := hc.trans rfl
  have hB : w4.cell? ⟨g, 1, none⟩ = some (.int .i64 ((at_ : Int) + (n : Int))) := hcc.trans rfl
  have hw0 : IntKind.i64.wrap (at_ : Int) = (at_ : Int) := by rw [IntKind.wrap_i64]; omega
  have hw1 : IntKind.i64.wrap ((at_ : Int) + (n : Int)) = (at_ : Int) + (n : Int) := by rw [IntKind.wrap_i64]; omega
  have q3 : ((at_ : Int) + (n : Int)).toNat = at_ + n := by omega
  have q4 : (0 : Int) ≤ (at_ : Int) + (n : Int) := by omega
  have q5 : (at_ : Int) ≤ (at_ : Int) + (n : Int) := by omega
  have q6 : (at_ : Int) + (n : Int) ≤ (c : Int) := by have := of_eq_true q2; omega
  have q7 : (at_ : Int) ≤ (c : Int) := by have := of_eq_true q2; omega
  have q8 : at_ + n - at_ = n := by omega
  clear hc hcc
  go_region_held3 (fun w' => w'.cell? ⟨g, 0, none⟩ = some (.slice A bs.length c) ∧ w'.cell? ⟨g, 1, none⟩ = some (.int .i64 ((at_ : Int) + (n : Int))))
    (first | exact ⟨hA, hB⟩ | (refine ⟨?_, ?_⟩ <;> first | exact hA | exact hB | simpa using hA | simpa using hB))
    (first | fail)
  clear q1 q3 q4 q5 q6 q7 q8 hA hB hw0 hw1 c1b c2b
  have h9 := Kd.C_drewN HS.out 1
  rw [show (Kd.int .u8).sz = 1 from rfl, Nat.mul_one] at h9
  have h8 : ((bs.take (at_ + n)).drop at_).length = n := by rw [List.length_drop, List.length_take]; omega
  rw [h8] at h9
  clear HS h8
  generalize (if c = at_ then A else Option.map (fun x => x.add at_) A) = Ax at h9 ⊢
  have HS := Aside0.mk h9
  clear h9
  go_wp2
  go_ret2
  exact ⟨_, _, m + m2, 1, rfl, by have := of_eq_true q2; omega, by rw [Int.natCast_add, ← HG.out]; rfl, HS.out⟩
theorem u32_or8 (x y : Int) (hx₀ : 0 ≤ x) (hx : x % 256 = 0) (hx₁ : x < 4294967296) (h₀ : 0 ≤ y) (h₁ : y < 256) : bits .or .u32 x y = x + y :=
  bits_join .u32 32 (by decide) (fun n a b => by rw [IntKind.wrap_u32]; omega) 8 x y hx₀ hx hx₁ h₀ h₁ (by omega)
def numOf (bs : List Int) : Int := bs.foldl (fun x c => x * 256 + c) 0
theorem num_bound : ∀ (bs : List Int), (∀ x ∈ bs, 0 ≤ x ∧ x ≤ 255) → ∀ z : Int, 0 ≤ z → 0 ≤ bs.foldl (fun x c => x * 256 + c) z ∧ bs.foldl (fun x c => x * 256 + c) z < (z + 1) * 256 ^ bs.length
  | [], _, z, hz => ⟨hz, by simp; omega⟩
  | x :: bs, h, z, hz => by
    have hx := h x List.mem_cons_self
    obtain ⟨h1, h2⟩ := num_bound bs (fun y hy => h y (List.mem_cons_of_mem _ hy)) (z * 256 + x) (by omega)
    refine ⟨h1, Int.lt_of_lt_of_le h2 ?_⟩
    rw [List.length_cons, Int.pow_succ, ← Int.mul_assoc, Int.mul_right_comm]
    exact Int.mul_le_mul_of_nonneg_right (by omega) (Int.pow_nonneg (by decide))
theorem num_next (seg : List Int) (hb : ∀ x ∈ seg, 0 ≤ x ∧ x ≤ 255) (i : Nat) (hi : i < seg.length) (h4 : seg.length ≤ 4) : bits .or .u32 (numOf (seg.take i) * 256 % 4294967296) (rd seg (i : Int) % 4294967296) = numOf (seg.take (i + 1)) := by
  have hr : rd seg (i : Int) = seg[i] := by simp [rd, List.getD_eq_getElem?_getD, hi]
  have hx := hb _ (List.getElem_mem hi)
  have hz := num_bound (seg.take i) (fun x hx => hb x (List.mem_of_mem_take hx)) 0 (Int.le_refl _)
  rw [List.length_take, Nat.min_eq_left (by omega)] at hz
  have hp : (256 : Int) ^ i ≤ 16777216 := by
    have : i = 0 ∨ i = 1 ∨ i = 2 ∨ i = 3 := by omega
    rcases this with rfl | rfl | rfl | rfl <;> decide
  have e1 : numOf (seg.take (i + 1)) = numOf (seg.take i) * 256 + seg[i] := by
    unfold numOf
    rw [List.take_succ_eq_append_getElem hi, List.foldl_append]
    rfl
  have hz' : 0 ≤ numOf (seg.take i) ∧ numOf (seg.take i) < 16777216 := by
    unfold numOf
    omega
  rw [e1, hr, u32_or8 _ _ (by omega) (by omega) (by omega) (by omega) (by omega)]
  omega
set_option maxHeartbeats 800000 in
set_option maxRecDepth 100000 in
theorem number_bad {base g : Nat} {bs : List Int} {at_ : Nat} {w : World} (h : RdAt base g bs at_ w) (n : Int) (hn : n < 0 ∨ n > (bs.length : Int) - (at_ : Int)) : Calls Try.prog 79 #[.pointer (some ⟨g, 0, none⟩), .int .i64 n] w fun e w' => e = .returned (.tuple #[.int .u32 0, .int .i64 (if n < 0 then 1 else 2)]) ∧ Drawn0 w w' := by
  have HN := Aside0.mk (next_bad h n hn)
  clear h hn
  generalize (if n < 0 then (1 : Int) else 2) = z at HN ⊢
  go_enter Try.func79, Try.ntmps79
  go_wp2_with fail
  refine HN.out.mono ?_
  rintro e w1 ⟨rfl, m, rfl⟩
  go_wp2
  go_loopw [8, 19] (fun v8 v19 wr => v8 = .int .u32 0 ∧ v19 = .int .i64 0 ∧ wr = w.drewN m) (fun _ _ _ => 0)
  case atStart => exact ⟨rfl, rfl, rfl⟩
  obtain ⟨rfl, rfl, rfl⟩ := hrel
  go_wp2
  go_ret2
  exact ⟨rfl, m, rfl⟩
set_option maxHeartbeats 1600000 in
set_option maxRecDepth 100000 in
theorem number_good {base g : Nat} {bs : List Int} {at_ : Nat} {w : World} (h : RdAt base g bs at_ w) (hb : ∀ x ∈ bs, 0 ≤ x ∧ x ≤ 255) (n : Nat) (hn : at_ + n ≤ bs.length) (h4 : n ≤ 4) : Calls Try.prog 79 #[.pointer (some ⟨g, 0, none⟩), .int .i64 (n : Int)] w fun e w' => ∃ m m2 : Nat, e = .returned (.tuple #[.int .u32 (numOf ((bs.take (at_ + n)).drop at_)), .int .i64 0]) ∧ w' = ((w.drewN m).setCell ⟨g, 1, none⟩ (.int .i64 ((at_ + n : Nat) : Int))).drewN m2 := by
  have HN := Aside0.mk (next_good h n hn)
  have hn4 : (n : Int) ≤ 4 := by omega
  obtain ⟨seg, hseg⟩ : ∃ seg, seg = (bs.take (at_ + n)).drop at_ := ⟨_, rfl⟩
  have hsl : seg.length = n := by rw [hseg, List.length_drop, List.length_take]; omega
  have hsb : ∀ x ∈ seg, 0 ≤ x ∧ x ≤ 255 := fun x hx => hb x (by rw [hseg] at hx; exact List.mem_of_mem_take (List.mem_of_mem_drop hx))
  rw [← hseg] at HN ⊢
  have HSB := Aside0.mk hsb
  have HSL := Aside0.mk hsl
  clear h hn hseg hb hsb hsl
  go_enter Try.func79, Try.ntmps79
  go_wp2_with fail
  refine HN.out.mono ?_
  rintro e w1 ⟨A, c, m, m2, rfl, hc, hw, hC⟩
  have HW := Aside0.mk hw
  have HC := Aside0.mk hC
  clear hw hC HN hc
  go_wp2
  go_loopw [8, 19] (fun v8 v19 wr => ∃ i : Nat, v19 = .int .i64 (i : Int) ∧ i ≤ n ∧ v8 = .int .u32 (numOf (seg.take i)) ∧ wr = w1) (fun _ v19 _ => ((n : Int) - intOf v19).toNat)
  case atStart => exact ⟨0, rfl, Nat.zero_le _, rfl, rfl⟩
  case round =>
    obtain ⟨i, rfl, hi, rfl, rfl⟩ := hrel
    by_cases c1 : i < n
    · have c1b : decide ((i : Int) < (n : Int)) = true := decide_eq_true (by omega)
      have hC2 := HC.out
      rw [← HSL.out] at hC2
      obtain ⟨ad, e3, hx⟩ := Kd.at_int hC2 (i : Int) (by omega) (by have := HSL.out; omega)
      subst e3
      have p5 : (0 ≤ (i : Int)) = True := eq_true (by omega)
      have p6 : ((i : Int) < (n : Int)) = True := eq_true (by omega)
      simp only [Int.toNat_natCast] at hx
      generalize hz : numOf (seg.take i) = z
      have HZ := Aside0.mk hz
      clear hC2 hz
      go_wp2
      refine ⟨⟨i + 1, rfl, by omega, by rw [← HZ.out, num_next seg HSB.out i (by have := HSL.out; omega) (by have := HSL.out; omega)], trivial⟩, by simp [intOf]; omega⟩
    · have c1b : decide ((i : Int) < (n : Int)) = false := decide_eq_false (by omega)
      have e9 : seg.take i = seg := List.take_of_length_le (by have := HSL.out; omega)
      rw [e9]
      clear e9
      go_wp2
      go_ret2
      exact ⟨m, m2, rfl, HW.out⟩
set_option maxHeartbeats 800000 in
set_option maxRecDepth 100000 in
theorem Byte_good {base g : Nat} {bs : List Int} {at_ : Nat} {w : World} (h : RdAt base g bs at_ w) (hb : ∀ x ∈ bs, 0 ≤ x ∧ x ≤ 255) (hn : at_ + 1 ≤ bs.length) : Calls Try.prog 72 #[.pointer (some ⟨g, 0, none⟩)] w fun e w' => ∃ m m2 : Nat, e = .returned (.tuple #[.int .i64 (numOf ((bs.take (at_ + 1)).drop at_)), .int .i64 0]) ∧ w' = ((w.drewN m).setCell ⟨g, 1, none⟩ (.int .i64 ((at_ + 1 : Nat) : Int))).drewN m2 := by
  have HN := Aside0.mk (number_good h hb 1 hn (by decide))
  have hz := num_bound ((bs.take (at_ + 1)).drop at_) (fun x hx => hb x (List.mem_of_mem_take (List.mem_of_mem_drop hx))) 0 (Int.le_refl _)
  have hl : ((bs.take (at_ + 1)).drop at_).length = 1 := by rw [List.length_drop, List.length_take]; omega
  rw [hl] at hz
  have hz2 : 0 ≤ numOf ((bs.take (at_ + 1)).drop at_) ∧ numOf ((bs.take (at_ + 1)).drop at_) < 256 := by
    unfold numOf
    exact ⟨hz.1, by have := hz.2; simpa using this⟩
  clear h hb hn hz hl
  generalize numOf ((bs.take (at_ + 1)).drop at_) = z at HN hz2 ⊢
  obtain ⟨hz0, hz1⟩ := hz2
  have hzw : IntKind.i64.wrap z = z := by rw [IntKind.wrap_i64]; omega
  go_enter Try.func72, Try.ntmps72
  go_wp2_with fail
  refine HN.out.mono ?_
  rintro e w1 ⟨m, m2, rfl, rfl⟩
  go_wp2
  go_ret2
  exact ⟨m, m2, rfl, rfl⟩
set_option maxHeartbeats 800000 in
set_option maxRecDepth 100000 in
theorem Word_good {base g : Nat} {bs : List Int} {at_ : Nat} {w : World} (h : RdAt base g bs at_ w) (hb : ∀ x ∈ bs, 0 ≤ x ∧ x ≤ 255) (hn : at_ + 2 ≤ bs.length) : Calls Try.prog 74 #[.pointer (some ⟨g, 0, none⟩)] w fun e w' => ∃ m m2 : Nat, e = .returned (.tuple #[.int .i64 (numOf ((bs.take (at_ + 2)).drop at_)), .int .i64 0]) ∧ w' = ((w.drewN m).setCell ⟨g, 1, none⟩ (.int .i64 ((at_ + 2 : Nat) : Int))).drewN m2 := by
  have HN := Aside0.mk (number_good h hb 2 hn (by decide))
  have hz := num_bound ((bs.take (at_ + 2)).drop at_) (fun x hx => hb x (List.mem_of_mem_take (List.mem_of_mem_drop hx))) 0 (Int.le_refl _)
  have hl : ((bs.take (at_ + 2)).drop at_).length = 2 := by rw [List.length_drop, List.length_take]; omega
  rw [hl] at hz
  have hz2 : 0 ≤ numOf ((bs.take (at_ + 2)).drop at_) ∧ numOf ((bs.take (at_ + 2)).drop at_) < 65536 := by
    unfold numOf
    exact ⟨hz.1, by have := hz.2; simpa using this⟩
  clear h hb hn hz hl
  generalize numOf ((bs.take (at_ + 2)).drop at_) = z at HN hz2 ⊢
  obtain ⟨hz0, hz1⟩ := hz2
  have hzw : IntKind.i64.wrap z = z := by rw [IntKind.wrap_i64]; omega
  go_enter Try.func74, Try.ntmps74
  go_wp2_with fail
  refine HN.out.mono ?_
  rintro e w1 ⟨m, m2, rfl, rfl⟩
  go_wp2
  go_ret2
  exact ⟨m, m2, rfl, rfl⟩
set_option maxHeartbeats 800000 in
set_option maxRecDepth 100000 in
theorem Byte_bad {base g : Nat} {bs : List Int} {at_ : Nat} {w : World} (h : RdAt base g bs at_ w) (hn : bs.length < at_ + 1) : Calls Try.prog 72 #[.pointer (some ⟨g, 0, none⟩)] w fun e w' => e = .returned (.tuple #[.int .i64 0, .int .i64 2]) ∧ Drawn0 w w' := by
  have HN := Aside0.mk (number_bad h 1 (.inr (by omega)))
  clear h hn
  go_enter Try.func72, Try.ntmps72
  go_wp2_with fail
  refine HN.out.mono ?_
  rintro e w1 ⟨rfl, m, rfl⟩
  go_wp2
  go_ret2
  exact ⟨rfl, m, rfl⟩
set_option maxHeartbeats 800000 in
set_option maxRecDepth 100000 in
theorem Word_bad {base g : Nat} {bs : List Int} {at_ : Nat} {w : World} (h : RdAt base g bs at_ w) (hn : bs.length < at_ + 2) : Calls Try.prog 74 #[.pointer (some ⟨g, 0, none⟩)] w fun e w' => e = .returned (.tuple #[.int .i64 0, .int .i64 2]) ∧ Drawn0 w w' := by
  have HN := Aside0.mk (number_bad h 2 (.inr (by omega)))
  clear h hn
  go_enter Try.func74, Try.ntmps74
  go_wp2_with fail
  refine HN.out.mono ?_
  rintro e w1 ⟨rfl, m, rfl⟩
  go_wp2
  go_ret2
  exact ⟨rfl, m, rfl⟩
set_option maxHeartbeats 1600000 in
set_option maxRecDepth 100000 in
theorem Take_bad {base g : Nat} {bs : List Int} {at_ : Nat} {w : World} (h : RdAt base g bs at_ w) (n : Int) (hn : n < 0 ∨ n > (bs.length : Int) - (at_ : Int)) : Calls Try.prog 75 #[.pointer (some ⟨g, 0, none⟩), .int .i64 n] w fun e w' => e = .returned (.tuple #[.slice none 0 0, .int .i64 (if n < 0 then 1 else 2)]) ∧ Drawn0 w w' := by
  have HN := Aside0.mk (next_bad h n hn)
  clear h
  by_cases c1 : n < 0
  · rw [if_pos c1] at HN ⊢
    clear hn c1
    go_enter Try.func75, Try.ntmps75
    go_wp2_with fail
    refine HN.out.mono ?_
    rintro e w1 ⟨rfl, m, rfl⟩
    go_wp2
    go_ret2
    exact ⟨rfl, m, rfl⟩
  · rw [if_neg c1] at HN ⊢
    clear hn c1
    go_enter Try.func75, Try.ntmps75
    go_wp2_with fail
    refine HN.out.mono ?_
    rintro e w1 ⟨rfl, m, rfl⟩
    go_wp2
    go_ret2
    exact ⟨rfl, m, rfl⟩
set_option maxHeartbeats 1600000 in
set_option maxRecDepth 100000 in
theorem Take_good {base g : Nat} {bs : List Int} {at_ : Nat} {w : World} (h : RdAt base g bs at_ w) (n : Nat) (hn : at_ + n ≤ bs.length) (hlim : bs.length ≤ 281474976710656) : Calls Try.prog 75 #[.pointer (some ⟨g, 0, none⟩), .int .i64 (n : Int)] w fun e w' => ∃ (v : Value) (m m2 : Nat) (w1 : World), e = .returned (.tuple #[v, .int .i64 0]) ∧ w1 = ((w.drewN m).setCell ⟨g, 1, none⟩ (.int .i64 ((at_ + n : Nat) : Int))).drewN m2 ∧ Kd.R (Kd.int .u8) 5 w' w1.heap.size (fun _ => True) v ((bs.take (at_ + n)).drop at_) ∧ Below w1.heap.size w1 w' := by
  have HN := Aside0.mk (next_good h n hn)
  have hnl : (n : Int) ≤ 281474976710656 := by omega
  obtain ⟨seg, hseg⟩ : ∃ seg, seg = (bs.take (at_ + n)).drop at_ := ⟨_, rfl⟩
  have hsl : seg.length = n := by rw [hseg, List.length_drop, List.length_take]; omega
  rw [← hseg] at HN ⊢
  have HSL := Aside0.mk hsl
  clear h hn hlim hsl hseg
  go_enter Try.func75, Try.ntmps75
  go_wp2_with fail
  refine HN.out.mono ?_
  rintro e w1 ⟨A, c, m, m2, rfl, hc, hw, hC⟩
  have HW := Aside0.mk hw
  have HC := Aside0.mk hC
  clear hw hC HN hc
  go_wp2_with (first | ((with_reducible refine gate_dst (N := 20) rfl ?_); refine Kd.R_make (Kd.int .u8) (w0 := w1) w1.heap.size 5 rfl (N := 20) rfl 23 (.tmp 19) (.tmp 19) rfl (n : Int) rfl rfl Try.underlying23 (.int .u8 0) 1 info5 rfl (by decide) (by decide) 0 (ok := fun _ => True) (okp := fun _ => True) rfl (fun _ h => h) trivial (by omega) ?hl (Below.refl _ _) (Nat.le_refl _) ?_; (case hl => rw [Int.toNat_natCast]; omega); intro v1 w2 ho hb hg hat; rw [Int.toNat_natCast] at ho; obtain ⟨Av, cv, e1⟩ := Kd.R_slice ho; rw [List.length_replicate] at e1; subst e1; obtain ⟨w3, hrun, hR2, hg2⟩ := copy_own (P := Try.prog) (ty := 3) (cA := c) (A := A) (bs := seg) Try.underlying23 (by kernel_rfl) ho (by rw [HSL.out]; exact Kd.C_below HC.out hb) (by rw [HSL.out]; simp); rw [HSL.out] at hrun; have HR2 := Aside0.mk hR2; have HG2 := Aside0.mk (Below.grown hb hg2 hb.size (fun k hk => (Kd.R_base_ ho k hk))); clear ho hb hg hat hR2 hg2))
  go_ret2
  exact ⟨_, m, m2, w1, rfl, HW.out, HR2.out, HG2.out⟩
def signOf (z : Int) : Int := if z < 2147483648 then z else z - 4294967296
theorem num_one (bs : List Int) (i : Nat) (h : i < bs.length) : numOf ((bs.take (i + 1)).drop i) = rd bs (i : Int) := by
  have hr : rd bs (i : Int) = bs[i] := by simp [rd, List.getD_eq_getElem?_getD, h]
  have e : (bs.take (i + 1)).drop i = [bs[i]] := by
    rw [List.take_succ_eq_append_getElem h, List.drop_append_of_le_length (by rw [List.length_take]; omega), List.drop_of_length_le (by rw [List.length_take]; omega)]
    rfl
  rw [e, hr]
  simp [numOf]
theorem str_of_bytes (s : ByteArray) : strOfNums (bytesOf s) = s := by
  unfold strOfNums bytesOf
  rw [List.map_map]
  have : (List.map ((fun x : Int => UInt8.ofNat x.toNat) ∘ fun b : UInt8 => (b.toNat : Int)) s.data.toList) = s.data.toList := by
    conv => rhs; rw [← List.map_id s.data.toList]
    refine List.map_congr_left fun b _ => ?_
    simp
  rw [this]
structure WtAt (base g : Nat) (ok : Nat → Prop) (bs : List Int) (W : World) : Prop where
  ge : base ≤ g
  le : bs.length ≤ 1048576
  now : ∃ v : Value, W.heap[g]? = some (.cells #[v, .bool true] 125 (0, 0)) ∧ Kd.R (Kd.int .u8) 5 W base ok v bs
theorem WtAt.drewN {base g : Nat} {ok : Nat → Prop} {bs : List Int} {W : World} (h : WtAt base g ok bs W) (m : Nat) : WtAt base g ok bs (W.drewN m) := by
  obtain ⟨h1, h2, v, h3, h4⟩ := h
  exact ⟨h1, h2, v, blk_drewN h3 m, Kd.R_drewN h4 m⟩
theorem WtAt.step {base g : Nat} {ok : Nat → Prop} {bs : List Int} {W W' : World} (h : WtAt base g ok bs W) (hb : Below W.heap.size W W') : WtAt base g ok bs W' := by
  obtain ⟨h1, h2, v, h3, h4⟩ := h
  exact ⟨h1, h2, v, blk_below h3 hb, Kd.R_below h4 hb⟩
theorem WtAt.mono {base g : Nat} {ok ok' : Nat → Prop} {bs : List Int} {W : World} (h : WtAt base g ok bs W) (hk : ∀ k, ok k → ok' k) : WtAt base g ok' bs W := by
  obtain ⟨h1, h2, v, h3, h4⟩ := h
  exact ⟨h1, h2, v, h3, Kd.R_mono h4 hk⟩
set_option maxHeartbeats 800000 in
set_option maxRecDepth 100000 in
theorem New_calls (w : World) : Calls Try.prog 61 #[] w fun e w' => ∃ g, e = .returned (.pointer (some ⟨g, 0, none⟩)) ∧ WtAt w.heap.size g (fun _ => True) [] w' ∧ Below w.heap.size w w' := by
  go_enter Try.func61, Try.ntmps61
  go_wp2
  have h1 := blk_new w (.cells #[.slice none 0 0, .bool true] 125)
  have h3 := below_alloc (Below.refl w.heap.size w) (.cells #[.slice none 0 0, .bool true] 125)
  go_ret
  exact ⟨w.heap.size, rfl, ⟨Nat.le_refl _, Nat.zero_le _, _, h1, Kd.R_nil _ _ _ _ _⟩, h3⟩
set_option maxHeartbeats 800000 in
set_option maxRecDepth 100000 in
theorem ready_wt {base g : Nat} {ok : Nat → Prop} {bs : List Int} {w : World} (h : WtAt base g ok bs w) : Calls Try.prog 66 #[.pointer (some ⟨g, 0, none⟩)] w fun e w' => e = .returned (.bool true) ∧ Drawn0 w w' := by
  obtain ⟨_, _, v, h3, _⟩ := h
  have hc := blk_cell h3 1
  clear h3
  go_enter Try.func66, Try.ntmps66
  go_wp2
  go_ret
  exact ⟨rfl, 0, rfl⟩
set_option maxHeartbeats 1600000 in
set_option maxRecDepth 100000 in
theorem Bytes_wt {base g : Nat} {ok : Nat → Prop} {bs : List Int} {w : World} (h : WtAt base g ok bs w) : Calls Try.prog 64 #[.pointer (some ⟨g, 0, none⟩)] w fun e w' => ∃ v : Value, e = .returned v ∧ Kd.R (Kd.int .u8) 5 w' w.heap.size (fun _ => True) v bs ∧ Below w.heap.size w w' := by
  have hle := h.le
  have H := Aside0.mk h
  clear h
  go_enter Try.func64, Try.ntmps64
  go_wp2_with fail
  refine (ready_wt H.out).mono ?_
  rintro e w1 ⟨rfl, m, hm⟩
  have H1 := H.out.drewN m
  have hb := pw_below_drewN (Below.refl w.heap.size w) m
  rw [← hm] at H1 hb
  clear hm
  obtain ⟨v, h3, h4⟩ := H1.now
  obtain ⟨A, c, rfl⟩ := Kd.R_slice h4
  have hc := blk_cell h3 0
  have HRW := Aside0.mk h4
  have HB := Aside0.mk hb
  have HBK := Aside0.mk h3
  clear h3 h4 H1 H hb
  go_wp2_with (first | ((with_reducible refine gate_dst (N := 12) rfl ?_); refine Kd.R_make (Kd.int .u8) (w0 := w) w.heap.size 5 rfl (N := 12) rfl 23 (.tmp 11) (.tmp 11) rfl (bs.length : Int) rfl rfl Try.underlying23 (.int .u8 0) 1 info5 rfl (by decide) (by decide) 0 (ok := fun _ => True) (okp := fun _ => True) rfl (fun _ h => h) trivial (by omega) ?hl HB.out HB.out.size ?_; (case hl => rw [Int.toNat_natCast]; omega); intro v1 w2 ho hb hg hat; rw [Int.toNat_natCast] at ho; have HB2 := Aside0.mk hb; obtain ⟨Av, cv, e1⟩ := Kd.R_slice ho; rw [List.length_replicate] at e1; subst e1; have hsrc := Kd.R_grown HRW.out hg (fun k _ h => by cases h); obtain ⟨w3, hrun, hR2, hg2⟩ := copy_own (P := Try.prog) (ty := 3) (cA := c) Try.underlying23 (by kernel_rfl) ho (Kd.R_reads' hsrc).2.2 (by simp); have HR2 := Aside0.mk hR2; have HG2 := Aside0.mk (Below.grown hb hg2 hb.size (fun k hk => (Kd.R_base_ ho k hk))); have hc2 := blk_cell (blk_grown HBK.out hg (by simp)) 0; clear ho hb hg hat hR2 hg2 hsrc))
  go_ret
  exact ⟨_, rfl, HR2.out, HG2.out⟩
theorem WtAt.kept {base g : Nat} {ok : Nat → Prop} {bs : List Int} {W W' : World} {S : Nat → Prop} (h : WtAt base g ok bs W) (hk : Kept W W' S) (h1 : ∀ k, ok k → ¬ S k) (h2 : ¬ S g) : WtAt base g ok bs W' := by
  obtain ⟨q1, q2, v, h3, h4⟩ := h
  exact ⟨q1, q2, v, blk_kept h3 hk h2, Kd.R_kept h4 hk h1⟩
theorem WtAt.bound {base g : Nat} {ok : Nat → Prop} {bs : List Int} {W : World} (h : WtAt base g ok bs W) : WtAt base g (fun k => ok k ∧ k < W.heap.size) bs W := by
  obtain ⟨h1, h2, v, h3, h4⟩ := h
  exact ⟨h1, h2, v, h3, Kd.R_mono (Kd.R_bound h4) (fun k hk => ⟨hk.1, hk.2.2.1⟩)⟩
set_option maxHeartbeats 1600000 in
set_option maxRecDepth 100000 in
theorem put_full {base g : Nat} {ok : Nat → Prop} {bs : List Int} {w : World} (h : WtAt base g ok bs w) (A : Option Addr) (m c : Nat) (hm : 1048576 < bs.length + m) : Calls Try.prog 67 #[.pointer (some ⟨g, 0, none⟩), .slice A m c] w fun e w' => e = .returned (.int .i64 7) ∧ Drawn0 w w' := by
  have hle := h.le
  obtain ⟨v, h3, h4⟩ := h.now
  obtain ⟨A1, c1, rfl⟩ := Kd.R_slice h4
  have hc := blk_cell h3 0
  clear h3 h4 h
  have hw1 : wrap64 ((1048576 : Int) - (bs.length : Int)) = (1048576 : Int) - (bs.length : Int) := by unfold wrap64; omega
  have c1b : decide ((1048576 : Int) - (bs.length : Int) < (m : Int)) = true := decide_eq_true (by omega)
  go_enter Try.func67, Try.ntmps67
  go_wp2
  go_ret
  exact ⟨rfl, 0, rfl⟩
set_option maxHeartbeats 1600000 in
set_option maxRecDepth 100000 in
theorem put_good {base g : Nat} {ok : Nat → Prop} {bs more : List Int} {w : World} (h : WtAt base g ok bs w) (A : Option Addr) (c : Nat) (hr : Kd.C (Kd.int .u8) w A more.length more) (hm : bs.length + more.length ≤ 1048576) : Calls Try.prog 67 #[.pointer (some ⟨g, 0, none⟩), .slice A more.length c] w fun e w' => e = .returned (.int .i64 0) ∧ WtAt base g (fun k => ok k ∨ w.heap.size ≤ k) (bs ++ more) w' ∧ Below base w w' ∧ Kept w w' (fun k => ok k ∨ k = g) := by
  have hle := h.le
  have hge := h.ge
  obtain ⟨v, h3, h4⟩ := h.now
  have hlt := blk_lt h3
  obtain ⟨A1, c1, rfl⟩ := Kd.R_slice h4
  have hc := blk_cell h3 0
  have hf := blk_frozen h3 0
  have HBK := Aside0.mk h3
  have HRW := Aside0.mk (Kd.R_mono h4 (fun k hk => (.inl hk : ok k ∨ w.heap.size ≤ k)))
  have HOK := Aside0.mk h4.1
  have HR := Aside0.mk hr
  clear h3 h4 h hr
  have hw1 : wrap64 ((1048576 : Int) - (bs.length : Int)) = (1048576 : Int) - (bs.length : Int) := by unfold wrap64; omega
  have c1b : decide ((1048576 : Int) - (bs.length : Int) < (more.length : Int)) = false := decide_eq_false (by omega)
  go_enter Try.func67, Try.ntmps67
  go_wp2_with (first | ((with_reducible refine gate_builtin (b := .append) (xs := #[.tmp 18, .tmp 19]) rfl ?_); at_builtin; refine Kd.R_append_rows (Kd.int .u8) (w0 := w) base rfl (.tmp 18) (.tmp 19) 23 5 (.int .u8 0) 1 rfl Try.underlying23 info5 rfl (by decide) (by omega) (.slice A1 bs.length c1) bs more A more.length c (fun k => ok k ∨ w.heap.size ≤ k) (fun _ => False) rfl rfl HRW.out HR.out (fun _ _ h => h) (fun _ h => h.elim) (fun k hk => .inr hk) (Below.refl _ _) (by omega) (by omega) ?_; intro v1 w1 ho hb hg hat; obtain ⟨Av, cv, e7⟩ := Kd.R_slice ho; subst e7; rw [List.length_append] at ho; have hI := blk_grown HBK.out hg (Kd.R_ne HRW.out HBK.out (by decide)); have hcI := blk_cell hI 0; have hfI := blk_frozen hI 0; have HI := Aside0.mk hI; have HO := Aside0.mk ho; have HB := Aside0.mk hb; have HG := Aside0.mk hg; clear hI ho hb hg hat))
  go_ret
  exact ⟨rfl, ⟨hge, by rw [List.length_append]; exact hm, _, blk_set HI.out 0 _, Kd.R_set HO.out HI.out (by decide) _ _⟩, HB.out.setCell hge _, (Kept.of_grown HG.out (Kept.refl w _) (fun k hk => .inl (.inl (HOK.out k hk)))).setCell (.inl (.inr rfl)) _⟩
set_option maxHeartbeats 1600000 in
set_option maxRecDepth 100000 in
theorem Put_good {base g : Nat} {ok : Nat → Prop} {bs more : List Int} {w : World} (h : WtAt base g ok bs w) (A : Option Addr) (c : Nat) (hr : Kd.C (Kd.int .u8) w A more.length more) (hm : bs.length + more.length ≤ 1048576) : Calls Try.prog 39 #[.pointer (some ⟨g, 0, none⟩), .slice A more.length c] w fun e w' => e = .returned (.int .i64 0) ∧ WtAt base g (fun k => ok k ∨ w.heap.size ≤ k) (bs ++ more) w' ∧ Below base w w' ∧ Kept w w' (fun k => ok k ∨ k = g) := by
  have H := Aside0.mk h
  have HR := Aside0.mk hr
  have HM := Aside0.mk hm
  clear h hr hm
  go_enter Try.func39, Try.ntmps39
  go_wp2_with fail
  refine (ready_wt H.out).mono ?_
  rintro e w1 ⟨rfl, k, rfl⟩
  go_wp2_with fail
  refine (put_good (H.out.drewN k) A c (Kd.C_drewN HR.out k) HM.out).mono ?_
  rintro e w2 ⟨rfl, h1, h2, h3⟩
  have H1 := Aside0.mk h1
  have H2 := Aside0.mk h2
  have H3 := Aside0.mk h3
  clear h1 h2 h3
  go_wp2
  go_ret
  exact ⟨rfl, H1.out, (pw_below_drewN (Below.refl _ _) k).trans H2.out, H3.out⟩
def byt (n s : Int) : Int := n % 4294967296 / s % 256
theorem C_of_block {W : World} {gb : Nat} {cs : Array Value} {t : TypeId} {xs : List Int} (h : W.heap[gb]? = some (.cells cs t (0, 0))) (hl : xs.length ≤ 9223372036854775807) (hx : ∀ (j : Nat) (p : Int), xs[j]? = some p → cs[j]? = some (.int .u8 p)) : Kd.C (Kd.int .u8) W (some ⟨gb, 0, none⟩) xs.length xs :=
  ⟨rfl, hl, fun _ => ⟨⟨gb, 0, none⟩, rfl, fun j p hj => ⟨[.int .u8 p], rfl, rfl, fun i u hu => by
    cases i with
    | zero =>
      obtain rfl := Option.some.inj hu
      have h2 := (blk_cell h j).trans (hx j p hj)
      rcases Nat.eq_zero_or_pos j with rfl | hj0
      · simpa [Addr.add, show (Kd.int .u8).sz = 1 from rfl] using h2
      · have : ¬ j = 0 := by omega
        simpa [Addr.add, show (Kd.int .u8).sz = 1 from rfl, this] using h2
    | succ i => cases hu⟩⟩⟩
set_option maxHeartbeats 1600000 in
set_option maxRecDepth 100000 in
theorem wnumber_good1 {base g : Nat} {ok : Nat → Prop} {bs : List Int} {w : World} (h : WtAt base g ok bs w) (n lo hi : Int) (h1 : lo ≤ n) (h2 : n ≤ hi) : Calls Try.prog 65 #[.pointer (some ⟨g, 0, none⟩), .int .i64 n, .int .i64 lo, .int .i64 hi, .int .i64 1] w fun e w' => (bs.length + 1 ≤ 1048576 → e = .returned (.int .i64 0) ∧ WtAt base g (fun k => ok k ∨ w.heap.size ≤ k) (bs ++ [byt n 1]) w' ∧ Below base w w' ∧ Kept w w' (fun k => ok k ∨ k = g)) ∧ (1048576 < bs.length + 1 → e = .returned (.int .i64 7) ∧ Below w.heap.size w w') := by
  have H := Aside0.mk h
  have HBS : Aside0 (base ≤ w.heap.size) := ⟨by obtain ⟨v, h8, _⟩ := h.now; have := blk_lt h8; have := h.ge; omega⟩
  clear h
  have c1b : decide (n < lo) = false := decide_eq_false (by omega)
  have c2b : decide (hi < n) = false := decide_eq_false (by omega)
  clear h1 h2
  go_enter Try.func65, Try.ntmps65
  go_wp2_with fail
  refine (ready_wt H.out).mono ?_
  rintro e w1 ⟨rfl, m, hw1⟩
  have H1 := H.out.drewN m
  have hb1 := pw_below_drewN (Below.refl w.heap.size w) m
  rw [← hw1] at H1 hb1
  have h3 := blk_new w1 (.cells #[.int .u8 0, .int .u8 0, .int .u8 0, .int .u8 0] 126)
  have h4 := H1.step (below_alloc (Below.refl w1.heap.size w1) (.cells #[.int .u8 0, .int .u8 0, .int .u8 0, .int .u8 0] 126))
  have h5 := below_alloc hb1 (.cells #[.int .u8 0, .int .u8 0, .int .u8 0, .int .u8 0] 126)
  have HGB : Aside0 (w.heap.size ≤ w1.heap.size) := ⟨hb1.size⟩
  clear hw1 H1 hb1
  go_wp2
  generalize w1.alloc (.cells #[.int .u8 0, .int .u8 0, .int .u8 0, .int .u8 0] 126) = w2 at h3 h4 h5 ⊢
  have H3 := Aside0.mk h3
  have H4 := Aside0.mk h4
  have H5 := Aside0.mk h5
  clear h3 h4 h5 H
  generalize w1.heap.size = gb at H3 HGB ⊢
  go_loopw [27] (fun v27 wr => ((v27 = .int .i64 0 ∧ Aside0 (wr.heap[gb]? = some (.cells #[.int .u8 0, .int .u8 0, .int .u8 0, .int .u8 0] 126 (0, 0)))) ∨ (v27 = .int .i64 1 ∧ Aside0 (wr.heap[gb]? = some (.cells #[.int .u8 (byt n 1), .int .u8 0, .int .u8 0, .int .u8 0] 126 (0, 0))))) ∧ Aside0 (WtAt base g ok bs wr) ∧ Aside0 (Below w.heap.size w wr)) (fun v27 _ => (4 - intOf v27).toNat)
  case atStart => exact ⟨.inl ⟨rfl, H3⟩, H4, H5⟩
  case round =>
    obtain ⟨⟨rfl, H3⟩ | ⟨rfl, H3⟩, H4, H5⟩ := hrel
    · have hc := blk_cell H3.out 0
      have hf := blk_frozen H3.out 0
      have hne : g ≠ gb := by
        obtain ⟨v, h8, _⟩ := H4.out.now
        exact blk_ne h8 H3.out (by decide)
      have HNE := Aside0.mk hne
      clear hne
      go_wp2
      refine ⟨⟨.inr (⟨rfl, ⟨blk_put H3.out 0 _ (by first | (simp [byt]; done) | (simp [byt]; omega))⟩⟩), ⟨?_⟩, ⟨H5.out.setCell HGB.out _⟩⟩, by simp [intOf]⟩
      obtain ⟨q1, q2, v, h8, h9⟩ := H4.out
      exact ⟨q1, q2, v, blk_far h8 (by simpa using HNE.out) _, Kd.R_set h9 H3.out (by decide) _ _⟩
    · have hC : Kd.C (Kd.int .u8) wr (some ⟨gb, 0, none⟩) [byt n 1].length [byt n 1] := C_of_block H3.out (by simp) (fun j p hj => by
        have : j = 0 := by
          have := (List.getElem?_eq_some_iff.1 hj).1
          simp at this
          omega
        rcases this with rfl <;> simpa using hj)
      have HCC := Aside0.mk hC
      clear hC
      go_wp2_with fail
      by_cases d1 : bs.length + 1 ≤ 1048576
      · refine (put_good H4.out (some ⟨gb, 0, none⟩) 4 HCC.out d1).mono ?_
        rintro e w3 ⟨rfl, k1, k2, k3⟩
        have K1 := Aside0.mk (k1.mono (fun k hk => hk.imp id (Nat.le_trans H5.out.size)))
        have K2 := Aside0.mk (Below.trans (H5.out.mono HBS.out) k2)
        have K3 := Aside0.mk ((Kept.of_below H5.out (fun k => ok k ∨ k = g)).then_ k3 (fun k hk => .inl hk))
        clear k1 k2 k3
        go_wp2
        go_ret
        exact ⟨fun _ => ⟨rfl, K1.out, K2.out, K3.out⟩, fun h => by omega⟩
      · refine (put_full H4.out (some ⟨gb, 0, none⟩) 1 4 (by omega)).mono ?_
        rintro e w3 ⟨rfl, m3, rfl⟩
        go_wp2
        go_ret
        exact ⟨fun h => absurd h d1, fun _ => ⟨rfl, pw_below_drewN H5.out m3⟩⟩
set_option maxHeartbeats 1600000 in
set_option maxRecDepth 100000 in
theorem wnumber_good2 {base g : Nat} {ok : Nat → Prop} {bs : List Int} {w : World} (h : WtAt base g ok bs w) (n lo hi : Int) (h1 : lo ≤ n) (h2 : n ≤ hi) : Calls Try.prog 65 #[.pointer (some ⟨g, 0, none⟩), .int .i64 n, .int .i64 lo, .int .i64 hi, .int .i64 2] w fun e w' => (bs.length + 2 ≤ 1048576 → e = .returned (.int .i64 0) ∧ WtAt base g (fun k => ok k ∨ w.heap.size ≤ k) (bs ++ [byt n 256, byt n 1]) w' ∧ Below base w w' ∧ Kept w w' (fun k => ok k ∨ k = g)) ∧ (1048576 < bs.length + 2 → e = .returned (.int .i64 7) ∧ Below w.heap.size w w') := by
  have H := Aside0.mk h
  have HBS : Aside0 (base ≤ w.heap.size) := ⟨by obtain ⟨v, h8, _⟩ := h.now; have := blk_lt h8; have := h.ge; omega⟩
  clear h
  have c1b : decide (n < lo) = false := decide_eq_false (by omega)
  have c2b : decide (hi < n) = false := decide_eq_false (by omega)
  clear h1 h2
  go_enter Try.func65, Try.ntmps65
  go_wp2_with fail
  refine (ready_wt H.out).mono ?_
  rintro e w1 ⟨rfl, m, hw1⟩
  have H1 := H.out.drewN m
  have hb1 := pw_below_drewN (Below.refl w.heap.size w) m
  rw [← hw1] at H1 hb1
  have h3 := blk_new w1 (.cells #[.int .u8 0, .int .u8 0, .int .u8 0, .int .u8 0] 126)
  have h4 := H1.step (below_alloc (Below.refl w1.heap.size w1) (.cells #[.int .u8 0, .int .u8 0, .int .u8 0, .int .u8 0] 126))
  have h5 := below_alloc hb1 (.cells #[.int .u8 0, .int .u8 0, .int .u8 0, .int .u8 0] 126)
  have HGB : Aside0 (w.heap.size ≤ w1.heap.size) := ⟨hb1.size⟩
  clear hw1 H1 hb1
  go_wp2
  generalize w1.alloc (.cells #[.int .u8 0, .int .u8 0, .int .u8 0, .int .u8 0] 126) = w2 at h3 h4 h5 ⊢
  have H3 := Aside0.mk h3
  have H4 := Aside0.mk h4
  have H5 := Aside0.mk h5
  clear h3 h4 h5 H
  generalize w1.heap.size = gb at H3 HGB ⊢
  go_loopw [27] (fun v27 wr => ((v27 = .int .i64 0 ∧ Aside0 (wr.heap[gb]? = some (.cells #[.int .u8 0, .int .u8 0, .int .u8 0, .int .u8 0] 126 (0, 0)))) ∨ (v27 = .int .i64 1 ∧ Aside0 (wr.heap[gb]? = some (.cells #[.int .u8 (byt n 256), .int .u8 0, .int .u8 0, .int .u8 0] 126 (0, 0)))) ∨ (v27 = .int .i64 2 ∧ Aside0 (wr.heap[gb]? = some (.cells #[.int .u8 (byt n 256), .int .u8 (byt n 1), .int .u8 0, .int .u8 0] 126 (0, 0))))) ∧ Aside0 (WtAt base g ok bs wr) ∧ Aside0 (Below w.heap.size w wr)) (fun v27 _ => (4 - intOf v27).toNat)
  case atStart => exact ⟨.inl ⟨rfl, H3⟩, H4, H5⟩
  case round =>
    obtain ⟨⟨rfl, H3⟩ | ⟨rfl, H3⟩ | ⟨rfl, H3⟩, H4, H5⟩ := hrel
    · have hc := blk_cell H3.out 0
      have hf := blk_frozen H3.out 0
      have hne : g ≠ gb := by
        obtain ⟨v, h8, _⟩ := H4.out.now
        exact blk_ne h8 H3.out (by decide)
      have HNE := Aside0.mk hne
      clear hne
      go_wp2
      refine ⟨⟨.inr (.inl (⟨rfl, ⟨blk_put H3.out 0 _ (by first | (simp [byt]; done) | (simp [byt]; omega))⟩⟩)), ⟨?_⟩, ⟨H5.out.setCell HGB.out _⟩⟩, by simp [intOf]⟩
      obtain ⟨q1, q2, v, h8, h9⟩ := H4.out
      exact ⟨q1, q2, v, blk_far h8 (by simpa using HNE.out) _, Kd.R_set h9 H3.out (by decide) _ _⟩
    · have hc := blk_cell H3.out 1
      have hf := blk_frozen H3.out 1
      have hne : g ≠ gb := by
        obtain ⟨v, h8, _⟩ := H4.out.now
        exact blk_ne h8 H3.out (by decide)
      have HNE := Aside0.mk hne
      clear hne
      go_wp2
      refine ⟨⟨.inr (.inr (⟨rfl, ⟨blk_put H3.out 1 _ (by first | (simp [byt]; done) | (simp [byt]; omega))⟩⟩)), ⟨?_⟩, ⟨H5.out.setCell HGB.out _⟩⟩, by simp [intOf]⟩
      obtain ⟨q1, q2, v, h8, h9⟩ := H4.out
      exact ⟨q1, q2, v, blk_far h8 (by simpa using HNE.out) _, Kd.R_set h9 H3.out (by decide) _ _⟩
    · have hC : Kd.C (Kd.int .u8) wr (some ⟨gb, 0, none⟩) [byt n 256, byt n 1].length [byt n 256, byt n 1] := C_of_block H3.out (by simp) (fun j p hj => by
        have : j = 0 ∨ j = 1 := by
          have := (List.getElem?_eq_some_iff.1 hj).1
          simp at this
          omega
        rcases this with rfl | rfl <;> simpa using hj)
      have HCC := Aside0.mk hC
      clear hC
      go_wp2_with fail
      by_cases d1 : bs.length + 2 ≤ 1048576
      · refine (put_good H4.out (some ⟨gb, 0, none⟩) 4 HCC.out d1).mono ?_
        rintro e w3 ⟨rfl, k1, k2, k3⟩
        have K1 := Aside0.mk (k1.mono (fun k hk => hk.imp id (Nat.le_trans H5.out.size)))
        have K2 := Aside0.mk (Below.trans (H5.out.mono HBS.out) k2)
        have K3 := Aside0.mk ((Kept.of_below H5.out (fun k => ok k ∨ k = g)).then_ k3 (fun k hk => .inl hk))
        clear k1 k2 k3
        go_wp2
        go_ret
        exact ⟨fun _ => ⟨rfl, K1.out, K2.out, K3.out⟩, fun h => by omega⟩
      · refine (put_full H4.out (some ⟨gb, 0, none⟩) 2 4 (by omega)).mono ?_
        rintro e w3 ⟨rfl, m3, rfl⟩
        go_wp2
        go_ret
        exact ⟨fun h => absurd h d1, fun _ => ⟨rfl, pw_below_drewN H5.out m3⟩⟩
set_option maxHeartbeats 1600000 in
set_option maxRecDepth 100000 in
theorem wByte_good {base g : Nat} {ok : Nat → Prop} {bs : List Int} {w : World} (h : WtAt base g ok bs w) (n : Int) (h1 : 0 ≤ n) (h2 : n ≤ 255) : Calls Try.prog 62 #[.pointer (some ⟨g, 0, none⟩), .int .i64 n] w fun e w' => (bs.length + 1 ≤ 1048576 → e = .returned (.int .i64 0) ∧ WtAt base g (fun k => ok k ∨ w.heap.size ≤ k) (bs ++ [byt n 1]) w' ∧ Below base w w' ∧ Kept w w' (fun k => ok k ∨ k = g)) ∧ (1048576 < bs.length + 1 → e = .returned (.int .i64 7) ∧ Below w.heap.size w w') := by
  have HN := Aside0.mk (wnumber_good1 h n 0 255 h1 h2)
  clear h h1 h2
  go_enter Try.func62, Try.ntmps62
  go_wp2_with fail
  refine HN.out.mono ?_
  rintro e w1 ⟨k1, k2⟩
  by_cases d1 : bs.length + 1 ≤ 1048576
  · obtain ⟨rfl, k3⟩ := k1 d1
    have K3 := Aside0.mk k3
    clear k1 k2 k3
    go_wp2
    go_ret
    exact ⟨fun _ => ⟨rfl, K3.out⟩, fun h => by omega⟩
  · obtain ⟨rfl, k3⟩ := k2 (by omega)
    have K3 := Aside0.mk k3
    clear k1 k2 k3
    go_wp2
    go_ret
    exact ⟨fun h => absurd h d1, fun _ => ⟨rfl, K3.out⟩⟩
set_option maxHeartbeats 1600000 in
set_option maxRecDepth 100000 in
theorem wWord_good {base g : Nat} {ok : Nat → Prop} {bs : List Int} {w : World} (h : WtAt base g ok bs w) (n : Int) (h1 : 0 ≤ n) (h2 : n ≤ 65535) : Calls Try.prog 38 #[.pointer (some ⟨g, 0, none⟩), .int .i64 n] w fun e w' => (bs.length + 2 ≤ 1048576 → e = .returned (.int .i64 0) ∧ WtAt base g (fun k => ok k ∨ w.heap.size ≤ k) (bs ++ [byt n 256, byt n 1]) w' ∧ Below base w w' ∧ Kept w w' (fun k => ok k ∨ k = g)) ∧ (1048576 < bs.length + 2 → e = .returned (.int .i64 7) ∧ Below w.heap.size w w') := by
  have HN := Aside0.mk (wnumber_good2 h n 0 65535 h1 h2)
  clear h h1 h2
  go_enter Try.func38, Try.ntmps38
  go_wp2_with fail
  refine HN.out.mono ?_
  rintro e w1 ⟨k1, k2⟩
  by_cases d1 : bs.length + 2 ≤ 1048576
  · obtain ⟨rfl, k3⟩ := k1 d1
    have K3 := Aside0.mk k3
    clear k1 k2 k3
    go_wp2
    go_ret
    exact ⟨fun _ => ⟨rfl, K3.out⟩, fun h => by omega⟩
  · obtain ⟨rfl, k3⟩ := k2 (by omega)
    have K3 := Aside0.mk k3
    clear k1 k2 k3
    go_wp2
    go_ret
    exact ⟨fun h => absurd h d1, fun _ => ⟨rfl, K3.out⟩⟩
def nameBytes (s : ByteArray) : List Int := [(s.size : Int) % 256] ++ bytesOf s
theorem R_of_nums {w : World} {base : Nat} {v : Value} {xs : List Int} (h : w.ownsRow base 5 1 v xs.length (nums .u8 xs)) : Kd.R (Kd.int .u8) 5 w base (fun _ => True) v xs := ⟨fun _ _ => trivial, nums .u8 xs, h, Kd.reps_scalar (enc := Value.int .u8) xs⟩
theorem one_own (W : World) (x : Int) : (W.alloc (.cells #[.int .u8 x] 5)).ownsRow W.heap.size 5 1 (.slice (some ⟨W.heap.size, 0, none⟩) 1 1) [x].length (nums .u8 [x]) :=
  ⟨rfl, .inr ⟨W.heap.size, 1, _, rfl, Nat.le_refl _, blk_new _ _, Nat.le_refl _, by decide, rfl, rfl⟩⟩
set_option maxHeartbeats 1600000 in
set_option maxRecDepth 100000 in
theorem wName_good {base g : Nat} {ok : Nat → Prop} {bs : List Int} {w : World} (h : WtAt base g ok bs w) (k : Nat) (s : ByteArray) (hs : wire_IsName.f k s = some true) (hl : s.size ≤ 24) : Calls Try.prog 63 #[.pointer (some ⟨g, 0, none⟩), .string s] w fun e w' => (bs.length + (s.size + 1) ≤ 1048576 → e = .returned (.int .i64 0) ∧ WtAt base g (fun k => ok k ∨ w.heap.size ≤ k) (bs ++ nameBytes s) w' ∧ Below base w w' ∧ Kept w w' (fun k => ok k ∨ k = g)) ∧ (1048576 < bs.length + (s.size + 1) → e = .returned (.int .i64 7) ∧ Below w.heap.size w w') := by
  have H := Aside0.mk h
  have HS := Aside0.mk hs
  have HL := Aside0.mk hl
  have HBS : Aside0 (base ≤ w.heap.size) := ⟨by obtain ⟨v, h8, _⟩ := h.now; have := blk_lt h8; have := h.ge; omega⟩
  clear h hs hl
  go_enter Try.func63, Try.ntmps63
  go_wp2_with fail
  refine (ready_wt H.out).mono ?_
  rintro e w1 ⟨rfl, m, rfl⟩
  go_wp2_with fail
  refine (wire_IsName.calls k s true _ HS.out).mono ?_
  rintro e w2 ⟨rfl, m2, hm⟩
  have h1 := (H.out.drewN m).drewN m2
  have hb1 := pw_below_drewN (pw_below_drewN (Below.refl w.heap.size w) m) m2
  rw [← hm] at h1 hb1
  have H1 := Aside0.mk h1
  have HB1 := Aside0.mk hb1
  clear hm h1 hb1 H
  go_wp2_with (first | ((with_reducible refine gate_builtin (b := .append) (xs := #[.tmp 17, .tmp 18]) rfl ?_); at_builtin; refine print_append_str (w0 := w2) w2.heap.size rfl (.tmp 17) (.tmp 18) 23 9 5 rfl Try.underlying23 Try.underlying9 info5 (.slice (some ⟨w2.heap.size, 0, none⟩) 1 1) [(s.size : Int) % 256] s rfl rfl ?aO ?aB ?aS ?aL ?_; (case aO => exact one_own w2 _); (case aB => exact below_alloc (Below.refl _ _) _); (case aS => simp); (case aL => have := HL.out; simp; omega); intro v1 w3 hown hb hg; have hR : Kd.R (Kd.int .u8) 5 w3 w2.heap.size (fun _ => True) v1 (nameBytes s) := R_of_nums hown; obtain ⟨Av, cv, e7⟩ := Kd.R_slice hR; subst e7; have HR3 := Aside0.mk hR; have HB3 := Aside0.mk hb; clear hown hb hg hR))
  have hnl : (nameBytes s).length = s.size + 1 := by unfold nameBytes; rw [List.length_append, bytesOf_length]; simp; omega
  have H3 := H1.out.step HB3.out
  have HB4 := Aside0.mk (below_step HB1.out HB3.out)
  by_cases d1 : bs.length + (s.size + 1) ≤ 1048576
  · refine (put_good H3 Av cv (Kd.R_reads' HR3.out).2.2 (by rw [hnl]; exact d1)).mono ?_
    rintro e w4 ⟨rfl, k1, k2, k3⟩
    have K1 := Aside0.mk (k1.mono (fun k hk => hk.imp id (Nat.le_trans HB4.out.size)))
    have K2 := Aside0.mk (Below.trans (HB4.out.mono HBS.out) k2)
    have K3 := Aside0.mk ((Kept.of_below HB4.out (fun k => ok k ∨ k = g)).then_ k3 (fun k hk => .inl hk))
    clear k1 k2 k3 hnl
    go_wp2
    go_ret
    exact ⟨fun _ => ⟨rfl, K1.out, K2.out, K3.out⟩, fun h => by omega⟩
  · refine (put_full H3 Av (nameBytes s).length cv (by omega)).mono ?_
    rintro e w4 ⟨rfl, m3, rfl⟩
    clear hnl
    go_wp2
    go_ret
    exact ⟨fun h => absurd h d1, fun _ => ⟨rfl, pw_below_drewN HB4.out m3⟩⟩

end Go.Proofs.Ytfakdphkklclgaa.P

end

section
namespace Go.Proofs.Ytfakdphkklclgaa.P
open Go.RowKit Go.Proofs.YtfakdphkklclgaaW.PrintWords Go.Proofs.YtfakdphkklclgaaW.PrintLast Go.Proofs.YtfakdphkklclgaaW.PrintMore
attribute [local go_sem] max2_int min2_int max_two min_two max_three min_three max_four min_four
set_option linter.unusedVariables false
set_option linter.unusedSimpArgs false
structure Hd where
  A : Option Addr
  n : Nat
  c : Nat
def Hd.v (h : Hd) : Value := .slice h.A h.n h.c
def hz : Hd := ⟨none, 0, 0⟩
def khd : Kd Hd := Kd.scalar Hd.v (fun _ => rfl)
def mrk (i : Nat) : Int := ((i % 250 : Nat) : Int) + 1
def rowH (n : Nat) (hd : Nat → Hd) : List Hd := (List.range n).map hd
structure Grp (k : IntKind) (te ts : TypeId) (W : World) (base : Nat) (G : Nat → Prop) (v : Value) (n : Nat) (hd : Nat → Hd) (i m : Nat) : Prop where
  row : khd.R ts W base G v (rowH n hd)
  own : ∀ j, j < n → ∃ xs, Kd.R (Kd.int k) te W base G (hd j).v xs ∧ ∀ t, t < xs.length → (j < i ∨ (j = i ∧ t < m)) → xs[t]? = some (mrk j)
  ne : ∀ j j', j < n → j' < n → j ≠ j' → ∀ b, (hd j).v.ownBlock = some b → (hd j').v.ownBlock ≠ some b
theorem Grp.kept {k : IntKind} {te ts : TypeId} {W W1 : World} {base : Nat} {G S : Nat → Prop} {v : Value} {n : Nat} {hd : Nat → Hd} {i m : Nat} (h : Grp k te ts W base G v n hd i m) (hk : Kept W W1 S) (hS : ∀ b, G b → ¬ S b) : Grp k te ts W1 base G v n hd i m :=
  ⟨Kd.R_kept h.row hk hS, fun j hj => by
    obtain ⟨xs, h1, h2⟩ := h.own j hj
    exact ⟨xs, Kd.R_kept h1 hk hS, h2⟩, h.ne⟩
theorem Grp.step {k : IntKind} {te ts : TypeId} {W W1 : World} {base : Nat} {G : Nat → Prop} {v : Value} {n : Nat} {hd : Nat → Hd} {i m : Nat} (h : Grp k te ts W base G v n hd i m) (hb : Below W.heap.size W W1) : Grp k te ts W1 base G v n hd i m := h.kept (S := fun _ => False) (Kept.of_below hb _) (fun _ _ q => q)
theorem Grp.mono {k : IntKind} {te ts : TypeId} {W : World} {base : Nat} {G G' : Nat → Prop} {v : Value} {n : Nat} {hd : Nat → Hd} {i m : Nat} (h : Grp k te ts W base G v n hd i m) (hG : ∀ b, G b → G' b) : Grp k te ts W base G' v n hd i m :=
  ⟨Kd.R_mono h.row hG, fun j hj => by
    obtain ⟨xs, h1, h2⟩ := h.own j hj
    exact ⟨xs, Kd.R_mono h1 hG, h2⟩, h.ne⟩
theorem own_form {k : IntKind} {te : TypeId} {W : World} {base : Nat} {G : Nat → Prop} {h : Hd} {xs : List Int} (hR : Kd.R (Kd.int k) te W base G h.v xs) : h.n = xs.length ∧ ∀ t : Nat, t < h.n → ∃ b, h.A = some ⟨b, 0, none⟩ ∧ G b ∧ base ≤ b ∧ b < W.heap.size ∧ (∃ cells, W.heap[b]? = some (.cells cells te (0, 0))) ∧ h.v.ownBlock = some b := by
  have h3 := (Kd.R_reads' hR).1
  refine ⟨h3, fun t ht => ?_⟩
  obtain ⟨g, cap, e, h4, h5, h6⟩ := Kd.R_form hR (by omega)
  unfold Hd.v at e
  injection e with e1 e2 e3
  have ho : h.v.ownBlock = some g := by unfold Hd.v; rw [e1]; rfl
  exact ⟨g, e1, hR.1 g ho, h4, h5, h6, ho⟩
theorem Grp.put {k : IntKind} {te ts : TypeId} {W : World} {base : Nat} {G : Nat → Prop} {v : Value} {n : Nat} {hd : Nat → Hd} {i m : Nat} (h : Grp k te ts W base G v n hd i m) (ht : te ≠ ts) (hi : i < n) (hm : m < (hd i).n) {b : Nat} (hA : (hd i).A = some ⟨b, 0, none⟩) : Grp k te ts (W.setCell ⟨b, m, none⟩ (.int k (mrk i))) base G v n hd i (m + 1) := by
  obtain ⟨xs, h1, h2⟩ := h.own i hi
  obtain ⟨f1, f2⟩ := own_form h1
  obtain ⟨b', e1, e2, e3, e4, ⟨cells, e5⟩, e6⟩ := f2 m hm
  rw [hA] at e1
  injection e1 with e1
  injection e1 with e1
  subst e1
  have hv : (hd i).v = .slice (some ⟨b, 0, none⟩) (hd i).n (hd i).c := by unfold Hd.v; rw [hA]
  refine ⟨Kd.R_set h.row e5 (fun q hq => by rw [show khd.E = [] from rfl] at hq; rw [List.mem_singleton.1 hq]; exact ht.symm) m _, fun j hj => ?_, h.ne⟩
  by_cases e : j = i
  · subst e
    rw [hv] at h1 ⊢
    have h4 := Kd.R_putn h1 (m : Int) (mrk j)
    rw [Int.toNat_natCast] at h4
    refine ⟨_, h4, fun t ht hq => ?_⟩
    rw [List.length_set] at ht
    rw [List.getElem?_set]
    by_cases e9 : m = t
    · subst e9
      rw [if_pos rfl, if_pos ht]
    · rw [if_neg e9]
      exact h2 t ht (by omega)
  · obtain ⟨ys, h4, h5⟩ := h.own j hj
    have hn := h.ne i j hi hj (fun q => e q.symm) b e6
    exact ⟨ys, Kd.R_mono (Kd.R_far (Kd.R_tight2 rfl h4) (p := ⟨b, m, none⟩) (fun k' hk' q => hn (by rw [← hk'.1, q])) _) (fun _ q => q.2), fun t ht q => h5 t ht (by omega)⟩
structure ShAt (base : Nat) (F : Nat → Prop) (sh nB nI : Nat) (W : World) : Prop where
  now : ∃ (GB GI : Nat → Prop) (vB vI : Value) (hB hI : Nat → Hd), W.heap[sh]? = some (.cells #[vB, vI] 49 (0, 0)) ∧ Grp .u8 5 23 W base GB vB nB hB 0 0 ∧ Grp .i64 3 73 W base GI vI nI hI 0 0 ∧
    (∀ b, GB b → F b) ∧ (∀ b, GI b → F b) ∧ (∀ b, GB b → ¬ GI b) ∧ (∀ j, j < nB → (hB j).n + 80 ≤ 140737488351400) ∧ (∀ j, j < nI → ((hI j).n + 80) * 8 ≤ 140737488355328)
  fs : F sh
  lt : ∀ b, F b → base ≤ b ∧ b < W.heap.size
theorem Grp.bound {k : IntKind} {te ts : TypeId} {W : World} {base : Nat} {G : Nat → Prop} {v : Value} {n : Nat} {hd : Nat → Hd} {i m : Nat} (h : Grp k te ts W base G v n hd i m) : Grp k te ts W base (fun b => G b ∧ base ≤ b ∧ b < W.heap.size ∧ ∃ cs, W.heap[b]? = some (.cells cs te (0, 0)) ∨ W.heap[b]? = some (.cells cs ts (0, 0))) v n hd i m :=
  ⟨Kd.R_mono (Kd.R_bound h.row) (fun b q => by
    obtain ⟨q1, q2, q3, t, ht, cells, hc⟩ := q
    rw [show khd.E = [] from rfl] at ht
    obtain rfl := List.mem_singleton.1 ht
    exact ⟨q1, q2, q3, cells, .inr hc⟩), fun j hj => by
    obtain ⟨xs, h1, h2⟩ := h.own j hj
    refine ⟨xs, Kd.R_mono (Kd.R_bound h1) (fun b q => ?_), h2⟩
    obtain ⟨q1, q2, q3, t, ht, cells, hc⟩ := q
    rw [show (Kd.int k).E = [] from rfl] at ht
    obtain rfl := List.mem_singleton.1 ht
    exact ⟨q1, q2, q3, cells, .inl hc⟩, h.ne⟩
theorem ShAt.kept {base : Nat} {F S : Nat → Prop} {sh nB nI : Nat} {W W1 : World} (h : ShAt base F sh nB nI W) (hk : Kept W W1 S) (hS : ∀ b, F b → ¬ S b) : ShAt base F sh nB nI W1 := by
  obtain ⟨⟨GB, GI, vB, vI, hB, hI, h1, h2, h3, h4, h5, h6, h7, h8⟩, hf, hl⟩ := h
  exact ⟨⟨GB, GI, vB, vI, hB, hI, blk_kept h1 hk (hS _ hf), h2.kept hk (fun b q => hS b (h4 b q)), h3.kept hk (fun b q => hS b (h5 b q)), h4, h5, h6, h7, h8⟩, hf, fun b q => ⟨(hl b q).1, Nat.lt_of_lt_of_le (hl b q).2 hk.1⟩⟩
theorem ShAt.step {base : Nat} {F : Nat → Prop} {sh nB nI : Nat} {W W1 : World} (h : ShAt base F sh nB nI W) (hb : Below W.heap.size W W1) : ShAt base F sh nB nI W1 := h.kept (S := fun _ => False) (Kept.of_below hb _) (fun _ _ q => q)
end Go.Proofs.Ytfakdphkklclgaa.P

end

section
namespace Go.Proofs.Ytfakdphkklclgaa.P
open Go.RowKit Go.Proofs.YtfakdphkklclgaaW.PrintWords Go.Proofs.YtfakdphkklclgaaW.PrintLast Go.Proofs.YtfakdphkklclgaaW.PrintMore
attribute [local go_sem] max2_int min2_int max_two min_two max_three min_three max_four min_four
set_option linter.unusedVariables false
set_option linter.unusedSimpArgs false
theorem skeyed : Go.Maps.Keyed Try.prog 9 := Go.Maps.string_keyed Try.underlying9
def hdrD (h : Hd) : DataW Unit := match h.A with
  | none => .lit (.bool false)
  | some a => .agg [.lit (.int .i64 (a.block : Int)), .lit (.int .i64 (h.n : Int)), .lit (.int .i64 (h.c : Int))]
def hdrR : Value → Option (DataW Unit × List MemPlace)
  | .slice none 0 0 => some (.lit (.bool false), [])
  | .slice (some ⟨b, 0, none⟩) n c => some (.agg [.lit (.int .i64 (b : Int)), .lit (.int .i64 (n : Int)), .lit (.int .i64 (c : Int))], [])
  | _ => none
def Hd.ok (h : Hd) : Prop := (h.A = none ∧ h.n = 0 ∧ h.c = 0) ∨ ∃ b, h.A = some ⟨b, 0, none⟩
theorem hdrR_of {h : Hd} (hk : h.ok) : hdrR h.v = some (hdrD h, []) := by
  obtain ⟨A, n, c⟩ := h
  rcases hk with ⟨h1, h2, h3⟩ | ⟨b, h1⟩
  · simp only at h1 h2 h3
    subst h1 h2 h3
    rfl
  · simp only at h1
    subst h1
    rfl
theorem hdrR_inv {v : Value} {h : Hd} {ps : List MemPlace} (hk : h.ok) (hv : hdrR v = some (hdrD h, ps)) : v = h.v := by
  obtain ⟨A, n, c⟩ := h
  unfold hdrR at hv
  split at hv
  · rcases hk with ⟨h1, h2, h3⟩ | ⟨b, h1⟩
    · simp only at h1 h2 h3
      subst h1 h2 h3
      rfl
    · simp only at h1
      subst h1
      simp [hdrD] at hv
  · rcases hk with ⟨h1, h2, h3⟩ | ⟨b, h1⟩
    · simp only at h1 h2 h3
      subst h1 h2 h3
      simp [hdrD] at hv
    · simp only at h1
      subst h1
      simp [hdrD] at hv
      obtain ⟨⟨h4, h5, h6⟩, _⟩ := hv
      unfold Hd.v
      simp only
      congr 1 <;> (try congr 1) <;> (try congr 1) <;> omega
  · cases hv
theorem hdrR_inv0 {v : Value} {ps : List MemPlace} (hv : hdrR v = some (.lit (.bool false), ps)) : v = .slice none 0 0 := by
  unfold hdrR at hv
  split at hv
  · rfl
  · simp at hv
  · cases hv
theorem hzero (w : World) : (zeroValue 23).run Try.prog w = .ok (.slice none 0 0) w := by kernel_rfl
def keyS (s : ByteArray) : Lit := .string s.data.toList
theorem keyS_inj {s t : ByteArray} (h : keyS s = keyS t) : s = t := by
  unfold keyS at h
  injection h with h
  cases s; cases t
  simp only [ByteArray.mk.injEq]
  exact Array.toList_inj.1 h
theorem keyS_of {s : ByteArray} (h : s.size ≤ maxLen) : keyOf Try.prog 9 (.string s) = some (keyS s) := WideMaps.keyOf_string_mk (P := Try.prog) Try.underlying9 h
def HMap (W : World) (B n : Nat) (g : ByteArray → Option Hd) (sz : Nat) : Prop := ∃ D : DataW Unit, W.ownsMap Try.prog 9 hdrR B n D ∧ (∀ s, Maps.has D (keyS s) = (g s).isSome) ∧ (∀ s h, g s = some h → h.ok ∧ ∀ z, D.atKey (keyS s) z = hdrD h) ∧ Maps.size D = sz
theorem HMap.made (w : World) : HMap (w.alloc (.map #[] 0)) w.heap.size 0 (fun _ => none) 0 := ⟨.map [], World.ownsMap_made _ _ _ _, fun _ => rfl, fun _ _ h => (by cases h), rfl⟩
theorem HMap.block {W W1 : World} {B n sz : Nat} {g : ByteArray → Option Hd} (h : HMap W B n g sz) (hb : W1.heap[B]? = W.heap[B]?) : HMap W1 B n g sz := by
  obtain ⟨D, ⟨es, clock, h1, h2⟩, h3⟩ := h
  exact ⟨D, ⟨es, clock, hb.trans h1, h2⟩, h3⟩
theorem HMap.lt {W : World} {B n sz : Nat} {g : ByteArray → Option Hd} (h : HMap W B n g sz) : B < W.heap.size := by
  obtain ⟨D, h1, _⟩ := h
  exact h1.lt
theorem HMap.is {W : World} {B n sz : Nat} {g : ByteArray → Option Hd} (h : HMap W B n g sz) : ∃ es clock, W.heap[B]? = some (.map es clock) := by
  obtain ⟨D, ⟨es, clock, h1, _⟩, _⟩ := h
  exact ⟨es, clock, h1⟩
theorem HMap.ne {W : World} {B n sz : Nat} {g : ByteArray → Option Hd} (h : HMap W B n g sz) {b : Nat} {cs : Array Value} {t : TypeId} {fr : Nat × Nat} (hb : W.heap[b]? = some (.cells cs t fr)) : B ≠ b := fun e => by
  obtain ⟨es, clock, h1⟩ := h.is
  rw [e, hb] at h1
  cases h1
theorem HMap.mono {W : World} {B n n' sz : Nat} {g : ByteArray → Option Hd} (h : HMap W B n g sz) (hn : n ≤ n') : HMap W B n' g sz := by
  obtain ⟨D, h1, h2⟩ := h
  exact ⟨D, h1.mono hn, h2⟩
def updH (g : ByteArray → Option Hd) (x : ByteArray) (v : Hd) : ByteArray → Option Hd := fun y => if y = x then some v else g y
def delH (g : ByteArray → Option Hd) (x : ByteArray) : ByteArray → Option Hd := fun y => if y = x then none else g y
section
variable {ops : Array Oper} {rest : List Oper} {o : Oper} {a : Act} {Q : Exit → Act → World → Prop} {K : Act → World → Prop}
theorem hm_make (hgd : o.guard = none) (ho : o.op = .makeMap 60 none) {W : World} (h : HMap (W.alloc (.map #[] 0)) W.heap.size 0 (fun _ => none) 0 → wpList Try.prog ops Q rest (a.put o.dst (.map (some W.heap.size))) (W.alloc (.map #[] 0))) : wpList Try.prog ops Q (o :: rest) a W :=
  Kd.event_run hgd (by
    unfold execOp
    simp only [ho]
    simp [run_makeMap, Sem.run_bind]) (h (HMap.made W))
theorem hm_store (hgd : o.guard = none) {m x v : Operand} (ho : o.op = .mapUpdate 60 m x v) {W : World} {B n sz : Nat} {g : ByteArray → Option Hd} (hm : a.eval m = .map (some B)) (hown : HMap W B n g sz) (hn : n < maxLen) {k : ByteArray} {c : Hd} (hx : a.eval x = .string k) (hv : a.eval v = c.v) (hk : k.size ≤ maxLen) (hc : c.ok)
    (h : ∀ w1, HMap w1 B (n + 1) (updH g k c) (if (g k).isSome then sz else sz + 1) → W.grownBy w1 (some B) → wpList Try.prog ops Q rest (a.put o.dst undef) w1) : wpList Try.prog ops Q (o :: rest) a W :=
  wpList_plain hgd fun _ hK => by
    obtain ⟨D, h1, h2, h3, h4⟩ := hown
    obtain ⟨w', hrun, r1, r2⟩ := h1.update skeyed Try.underlying60 hn (keyS_of hk) (hdrR_of hc)
    have ht := h1.tidy skeyed
    have hl : WideAt.IsKeyLit (keyS k) := trivial
    unfold Oper.wp
    simp [execOp, ho, hm, hx, hv, hrun, Result.andThen]
    refine hK _ _ (h _ ⟨_, r1, fun s => ?_, fun s e hs => ?_, ?_⟩ r2)
    · unfold updH
      by_cases e : s = k
      · rw [if_pos e, e, Maps.has_put_same ht.isMap hl]; rfl
      · rw [if_neg e, Maps.has_put_other (fun e' => e (keyS_inj e')), h2]
    · unfold updH at hs
      by_cases e' : s = k
      · rw [if_pos e'] at hs
        cases hs
        exact ⟨hc, fun z => by rw [e', Maps.atKey_put_same ht.isMap hl]⟩
      · rw [if_neg e'] at hs
        exact ⟨(h3 s e hs).1, fun z => by rw [Maps.atKey_put_other (fun e'' => e' (keyS_inj e'')), (h3 s e hs).2 z]⟩
    · rw [Maps.size_put ht, h2, h4]
theorem hm_drop (hgd : o.guard = none) {m x : Operand} (ho : o.op = .call { callee := .builtin .delete, args := #[m, x], argTypes := #[60, 9] }) {W : World} {B n sz : Nat} {g : ByteArray → Option Hd} (hm : a.eval m = .map (some B)) (hown : HMap W B n g sz) {k : ByteArray} (hx : a.eval x = .string k) (hk : k.size ≤ maxLen)
    (h : ∀ w1, HMap w1 B n (delH g k) (if (g k).isSome then sz - 1 else sz) → W.grownBy w1 (some B) → wpList Try.prog ops Q rest (a.put o.dst (.tuple #[])) w1) : wpList Try.prog ops Q (o :: rest) a W := by
  obtain ⟨D, h1, h2, h3, h4⟩ := hown
  have ht := h1.tidy skeyed
  refine wpList_delete_own W hgd m x _ _ ho _ skeyed Try.underlying60 hdrR B n D hm h1 _ _ hx (keyS_of hk) (fun w1 r1 r2 => ?_)
  refine h w1 ⟨_, r1, fun s => ?_, fun s e hs => ?_, ?_⟩ r2.grown
  · unfold delH
    by_cases e : s = k
    · rw [if_pos e, e, Maps.has_del_same]; rfl
    · rw [if_neg e, Maps.has_del_other (fun e' => e (keyS_inj e')), h2]
  · unfold delH at hs
    by_cases e' : s = k
    · rw [if_pos e'] at hs; cases hs
    · rw [if_neg e'] at hs
      exact ⟨(h3 s e hs).1, fun z => by rw [Maps.atKey_del_other (fun e'' => e' (keyS_inj e'')), (h3 s e hs).2 z]⟩
  · have h5 := Maps.size_del (k := keyS k) ht
    rw [h2, h4] at h5
    split
    · rename_i h6; rw [if_pos h6] at h5; omega
    · rename_i h6; rw [if_neg h6] at h5; omega
theorem hm_len (hgd : o.guard = none) {m : Operand} (ho : o.op = .call { callee := .builtin .len, args := #[m], argTypes := #[60] }) {W : World} {B n sz : Nat} {g : ByteArray → Option Hd} (hm : a.eval m = .map (some B)) (hown : HMap W B n g sz)
    (h : wpList Try.prog ops Q rest (a.put o.dst (.int .i64 (sz : Int))) W) : wpList Try.prog ops Q (o :: rest) a W := by
  obtain ⟨D, h1, h2, h3, h4⟩ := hown
  refine wpList_len_own W hgd m _ ho _ _ Try.underlying60 hdrR B n D hm h1 ?_
  rw [h4]
  exact h
theorem hm_look_ok (hgd : o.guard = none) {m x : Operand} (ho : o.op = .lookup 60 m x true) {W : World} {B n sz : Nat} {g : ByteArray → Option Hd} (hm : a.eval m = .map (some B)) (hown : HMap W B n g sz) {k : ByteArray} (hx : a.eval x = .string k) (hk : k.size ≤ maxLen)
    (h : wpList Try.prog ops Q rest (a.put o.dst (.tuple #[((g k).getD hz).v, .bool (g k).isSome])) W) : wpList Try.prog ops Q (o :: rest) a W := by
  obtain ⟨D, h1, h2, h3, h4⟩ := hown
  refine wpList_lookup_own_ok W hgd m x _ ho _ _ skeyed Try.underlying60 hdrR (hzero W) (.lit (.bool false)) [] rfl B n D hm h1 _ _ hx (keyS_of hk) (fun v ps hv => ?_)
  have e : v = ((g k).getD hz).v := by
    cases hg : g k with
    | none =>
      have h9 := h2 k
      rw [hg] at h9
      rw [Maps.atKey_of_not_has (by simpa using h9)] at hv
      exact hdrR_inv0 hv
    | some d =>
      rw [(h3 k d hg).2] at hv
      exact hdrR_inv (h3 k d hg).1 hv
  rw [e, h2 k]
  exact h
end
end Go.Proofs.Ytfakdphkklclgaa.P

end

section
namespace Go.Proofs.Ytfakdphkklclgaa.P
open Go.RowKit Go.Proofs.YtfakdphkklclgaaW.PrintWords Go.Proofs.YtfakdphkklclgaaW.PrintLast Go.Proofs.YtfakdphkklclgaaW.PrintMore
attribute [local go_sem] max2_int min2_int max_two min_two max_three min_three max_four min_four
set_option linter.unusedVariables false
set_option linter.unusedSimpArgs false
def seg (bs : List Int) (a n : Nat) : List Int := (bs.take (a + n)).drop a
def valR (k : Nat) (xs : List Int) : Int := if k = 4 then signOf (numOf xs) else numOf xs
def numR (k : Nat) (bs : List Int) (a : Nat) : Int × Nat × Int := if bs.length < a + k then (0, a, 2) else (valR k (seg bs a k), a + k, 0)
def takeR (bs : List Int) (a : Nat) (n : Int) : List Int × Nat × Int := if n < 0 then ([], a, 1) else if n > (bs.length : Int) - (a : Int) then ([], a, 2) else (seg bs a n.toNat, a + n.toNat, 0)
def nameR (nm : ByteArray → Bool) (bs : List Int) (a : Nat) : ByteArray × Nat × Int :=
  if bs.length < a + 1 then (.empty, a, 2) else
  if rd bs (a : Int) = 0 ∨ 24 < rd bs (a : Int) then (.empty, a, 6) else
  if bs.length < a + 1 + (rd bs (a : Int)).toNat then (.empty, a, 2) else
  if nm (strOfNums (seg bs (a + 1) (rd bs (a : Int)).toNat)) then (strOfNums (seg bs (a + 1) (rd bs (a : Int)).toNat), a + 1 + (rd bs (a : Int)).toNat, 0) else (.empty, a, 6)
structure RdFacts (K : Nat) (nm : ByteArray → Bool) : Prop where
  num : ∀ (k : Nat) bs (a : Nat), (k = 1 ∨ k = 2 ∨ k = 4) → (∀ x ∈ bs, 0 ≤ x ∧ x ≤ 255) → bs.length ≤ 140737488351232 → a ≤ bs.length → provisoref01_Number.f K bs (a : Int) (k : Int) = some ((numR k bs a).1, ((numR k bs a).2.1 : Int), (numR k bs a).2.2)
  take : ∀ bs (a : Nat) (n : Int), (∀ x ∈ bs, 0 ≤ x ∧ x ≤ 255) → bs.length ≤ 140737488351232 → a ≤ bs.length → provisoref01_Take.f K bs (a : Int) n = some ((takeR bs a n).1, ((takeR bs a n).2.1 : Int), (takeR bs a n).2.2)
  name : ∀ s, wire_IsName.f K s = some (nm s)
  rname : ∀ s, provisoref01_IsName.f K s = some (nm s)
  eq : ∀ xs : List Int, xs.length ≤ 140737488351232 → slices_Equal_byte_byte.f K xs xs = some true
theorem seg_len (bs : List Int) (a n : Nat) (h : a + n ≤ bs.length) : (seg bs a n).length = n := by unfold seg; rw [List.length_drop, List.length_take]; omega
theorem seg_one (bs : List Int) (a : Nat) (h : a + 1 ≤ bs.length) : valR 1 (seg bs a 1) = rd bs (a : Int) := by
  unfold valR seg
  rw [if_neg (by decide)]
  exact num_one bs a (by omega)
theorem numR_one (bs : List Int) (a : Nat) (h : a + 1 ≤ bs.length) : numR 1 bs a = (rd bs (a : Int), a + 1, 0) := by
  unfold numR
  rw [if_neg (by omega), seg_one bs a h]
theorem rd_range (bs : List Int) (h : ∀ x ∈ bs, 0 ≤ x ∧ x ≤ 255) (a : Nat) (ha : a < bs.length) : 0 ≤ rd bs (a : Int) ∧ rd bs (a : Int) ≤ 255 := by
  have hr : rd bs (a : Int) = bs[a] := by simp [rd, List.getD_eq_getElem?_getD, ha]
  rw [hr]
  exact h _ (List.getElem_mem ha)
structure Rd1 (base g : Nat) (bs : List Int) (at_ : Nat) (W : World) : Prop where
  rd : RdAt base g bs at_ W
  by_ : ∀ x ∈ bs, 0 ≤ x ∧ x ≤ 255
  lim : bs.length ≤ 140737488351232
def RP (base g : Nat) (bs : List Int) (k : Nat) (W w' : World) : Prop := Rd1 base g bs k w' ∧ Kept W w' (fun b => b = g) ∧ ∀ (B : Nat) (w0 : World), B ≤ g → Below B w0 W → Below B w0 w'
section
variable {base g at_ : Nat} {bs : List Int} {W w' W1 : World}
theorem Rd1.step (h : Rd1 base g bs at_ W) (hb : Below W.heap.size W W1) : Rd1 base g bs at_ W1 := ⟨h.rd.step hb, h.by_, h.lim⟩
theorem Rd1.drewN (h : Rd1 base g bs at_ W) (m : Nat) : Rd1 base g bs at_ (W.drewN m) := ⟨h.rd.drewN m, h.by_, h.lim⟩
theorem RP.drawn (h : Rd1 base g bs at_ W) (hd : Drawn0 W w') : RP base g bs at_ W w' := by
  obtain ⟨m, rfl⟩ := hd
  exact ⟨h.drewN m, ⟨by simp, fun _ _ _ => rfl⟩, fun B w0 _ hb => pw_below_drewN hb m⟩
theorem RP.moved (h : Rd1 base g bs at_ W) (k : Nat) (hk : k ≤ bs.length) (m m2 : Nat) : RP base g bs k W (((W.drewN m).setCell ⟨g, 1, none⟩ (.int .i64 (k : Int))).drewN m2) :=
  ⟨⟨((h.rd.drewN m).set k hk).drewN m2, h.by_, h.lim⟩, ⟨by simp [World.setCell], fun i _ hn => Below.heap_setCell _ _ _ i hn⟩, fun B w0 hB hb => pw_below_drewN ((pw_below_drewN hb m).setCell hB _) m2⟩
theorem RP.step {k : Nat} (h : RP base g bs k W w') (hb : Below w'.heap.size w' W1) : RP base g bs k W W1 :=
  ⟨h.1.step hb, h.2.1.below hb, fun B w0 hB hw => (h.2.2 B w0 hB hw).trans (hb.mono (by
    obtain ⟨v, h3, _⟩ := h.1.rd.now
    have := blk_lt h3
    omega))⟩
theorem RP.back {k : Nat} (h : RP base g bs k W W1) (a : Nat) (ha : a ≤ bs.length) : RP base g bs a W (W1.setCell ⟨g, 1, none⟩ (.int .i64 (a : Int))) :=
  ⟨⟨h.1.rd.set a ha, h.1.by_, h.1.lim⟩, ⟨by simpa [World.setCell] using h.2.1.1, fun i hi hn => (Below.heap_setCell _ _ _ i hn).trans (h.2.1.2 i hi hn)⟩, fun B w0 hB hb => (h.2.2 B w0 hB hb).setCell hB _⟩
theorem RP.drew {k : Nat} (h : RP base g bs k W W1) (m : Nat) : RP base g bs k W (W1.drewN m) := ⟨h.1.drewN m, h.2.1.drewN m, fun B w0 hB hb => pw_below_drewN (h.2.2 B w0 hB hb) m⟩
theorem RP.cells {k : Nat} (h : RP base g bs k W W1) : ∃ v, W1.heap[g]? = some (.cells #[v, .int .i64 (k : Int), .bool true] 118 (0, 0)) := by
  obtain ⟨v, h1, _⟩ := h.1.rd.now
  exact ⟨v, h1⟩
theorem RP.rdAt {k : Nat} (h : RP base g bs k W W1) : RdAt base g bs k W1 := h.1.rd
theorem RP.again {k : Nat} (h : RP base g bs k W W1) (b : Nat) (hb : b ≤ bs.length) (m m2 : Nat) : RP base g bs b W (((W1.drewN m).setCell ⟨g, 1, none⟩ (.int .i64 (b : Int))).drewN m2) := ((h.drew m).back b hb).drew m2
theorem Byte_1 (h : Rd1 base g bs at_ W) : Calls Try.prog 72 #[.pointer (some ⟨g, 0, none⟩)] W fun e w' => e = .returned (.tuple #[.int .i64 (numR 1 bs at_).1, .int .i64 (numR 1 bs at_).2.2]) ∧ RP base g bs (numR 1 bs at_).2.1 W w' := by
  unfold numR
  by_cases c : bs.length < at_ + 1
  · rw [if_pos c]
    refine (Byte_bad h.rd c).mono ?_
    rintro e w1 ⟨rfl, hd⟩
    exact ⟨rfl, RP.drawn h hd⟩
  · rw [if_neg c]
    refine (Byte_good h.rd h.by_ (by omega)).mono ?_
    rintro e w1 ⟨m, m2, rfl, rfl⟩
    exact ⟨rfl, RP.moved h _ (by simp only; omega) m m2⟩
theorem Word_1 (h : Rd1 base g bs at_ W) : Calls Try.prog 74 #[.pointer (some ⟨g, 0, none⟩)] W fun e w' => e = .returned (.tuple #[.int .i64 (numR 2 bs at_).1, .int .i64 (numR 2 bs at_).2.2]) ∧ RP base g bs (numR 2 bs at_).2.1 W w' := by
  unfold numR
  by_cases c : bs.length < at_ + 2
  · rw [if_pos c]
    refine (Word_bad h.rd c).mono ?_
    rintro e w1 ⟨rfl, hd⟩
    exact ⟨rfl, RP.drawn h hd⟩
  · rw [if_neg c]
    refine (Word_good h.rd h.by_ (by omega)).mono ?_
    rintro e w1 ⟨m, m2, rfl, rfl⟩
    exact ⟨rfl, RP.moved h _ (by simp only; omega) m m2⟩
theorem Take_1 (h : Rd1 base g bs at_ W) (N : Int) : Calls Try.prog 75 #[.pointer (some ⟨g, 0, none⟩), .int .i64 N] W fun e w' => ∃ v, e = .returned (.tuple #[v, .int .i64 (takeR bs at_ N).2.2]) ∧ RP base g bs (takeR bs at_ N).2.1 W w' ∧ Kd.R (Kd.int .u8) 5 w' W.heap.size (fun _ => True) v (takeR bs at_ N).1 := by
  have hle := h.rd.le
  unfold takeR
  by_cases c : N < 0
  · rw [if_pos c]
    refine (Take_bad h.rd N (.inl c)).mono ?_
    rintro e w1 ⟨rfl, hd⟩
    rw [if_pos c]
    exact ⟨_, rfl, RP.drawn h hd, Kd.R_nil _ _ _ _ _⟩
  · rw [if_neg c]
    by_cases c2 : N > (bs.length : Int) - (at_ : Int)
    · rw [if_pos c2]
      refine (Take_bad h.rd N (.inr c2)).mono ?_
      rintro e w1 ⟨rfl, hd⟩
      rw [if_neg c]
      exact ⟨_, rfl, RP.drawn h hd, Kd.R_nil _ _ _ _ _⟩
    · rw [if_neg c2]
      obtain ⟨k, rfl⟩ : ∃ k : Nat, N = (k : Int) := ⟨N.toNat, by omega⟩
      rw [Int.toNat_natCast]
      refine (Take_good h.rd k (by omega) (by have := h.lim; omega)).mono ?_
      rintro e w1 ⟨v, m, m2, w2, rfl, rfl, hR, hb⟩
      have hm := RP.moved h (at_ + k) (by omega) m m2
      exact ⟨v, rfl, hm.step hb, Kd.R_lower hR (by simp [World.setCell])⟩
theorem Byte_bad1 (h : Rd1 base g bs at_ W) (c1 : bs.length < at_ + 1) (m : Nat) : Calls Try.prog 72 #[.pointer (some ⟨g, 0, none⟩)] (W.drewN m) fun e w' => e = .returned (.tuple #[.int .i64 0, .int .i64 2]) ∧ RP base g bs at_ W w' := by
  refine (Byte_1 (h.drewN m)).mono ?_
  rintro e w1 ⟨rfl, h1, h2, h3⟩
  unfold numR at h1 ⊢
  rw [if_pos c1] at h1 ⊢
  exact ⟨rfl, h1, ⟨h2.1, h2.2⟩, fun B w0 hB hb => h3 B w0 hB (pw_below_drewN hb m)⟩
theorem Byte_good1 (h : Rd1 base g bs at_ W) (c1 : at_ + 1 ≤ bs.length) (m : Nat) : Calls Try.prog 72 #[.pointer (some ⟨g, 0, none⟩)] (W.drewN m) fun e w' => e = .returned (.tuple #[.int .i64 (rd bs (at_ : Int)), .int .i64 0]) ∧ RP base g bs (at_ + 1) W w' := by
  refine (Byte_1 (h.drewN m)).mono ?_
  rintro e w1 ⟨rfl, h1, h2, h3⟩
  rw [numR_one _ _ c1] at h1 ⊢
  exact ⟨rfl, h1, ⟨h2.1, h2.2⟩, fun B w0 hB hb => h3 B w0 hB (pw_below_drewN hb m)⟩
end
set_option maxHeartbeats 3200000 in
set_option maxRecDepth 100000 in
theorem Name_1 (K : Nat) (nm : ByteArray → Bool) (hK : RdFacts K nm) {base g : Nat} {bs : List Int} {at_ : Nat} (W : World) (h : Rd1 base g bs at_ W) : Calls Try.prog 73 #[.pointer (some ⟨g, 0, none⟩)] W fun e w' => e = .returned (.tuple #[.string (nameR nm bs at_).1, .int .i64 (nameR nm bs at_).2.2]) ∧ RP base g bs (nameR nm bs at_).2.1 W w' := by
  have ha := h
  have hle := ha.rd.le
  obtain ⟨v0, h3, h4⟩ := ha.rd.now
  have hc := blk_cell h3 1
  have H := Aside0.mk h
  have HK := Aside0.mk hK
  have HA := Aside0.mk ha.rd
  have HLIM := Aside0.mk ha.lim
  have HBY := Aside0.mk ha.by_
  clear hK h3 ha h4
  obtain ⟨out, hout⟩ : ∃ out, out = nameR nm bs at_ := ⟨_, rfl⟩
  rw [← hout]
  unfold nameR at hout
  by_cases c1 : bs.length < at_ + 1
  · rw [if_pos c1] at hout
    subst hout
    have HB2 := Aside0.mk (Byte_bad1 h c1)
    clear c1 h
    go_enter Try.func73, Try.ntmps73
    go_wp2_with fail
    refine (ready_rd HA.out).mono ?_
    rintro e w1 ⟨rfl, m, rfl⟩
    go_wp2_with fail
    refine (HB2.out m).mono ?_
    rintro e w2 ⟨rfl, hp⟩
    obtain ⟨vz, h5⟩ := hp.cells
    have hf1 := blk_frozen h5 1
    have hc1 := blk_cell h5 1
    have HPB := Aside0.mk (hp.back _ hle)
    clear hp h5
    go_wp2_with fail
    go_ret2
    exact ⟨rfl, HPB.out⟩
  · rw [if_neg c1] at hout
    have hB := Byte_good1 h (by omega)
    have hrg := rd_range _ HBY.out at_ (by omega)
    obtain ⟨z, hz⟩ : ∃ z, rd bs (at_ : Int) = (z : Int) ∧ (0 : Int) ≤ z := ⟨_, rfl, hrg.1⟩
    obtain ⟨hz, hz0⟩ := hz
    rw [hz] at hB hout
    by_cases c2 : z = 0 ∨ 24 < z
    · rw [if_pos c2] at hout
      by_cases c3 : z = 0
      · subst c3
        subst hout
        have HB2 := Aside0.mk (hB)
        clear c1 h hB c2 hrg hz hz0
        go_enter Try.func73, Try.ntmps73
        go_wp2_with fail
        refine (ready_rd HA.out).mono ?_
        rintro e w1 ⟨rfl, m, rfl⟩
        go_wp2_with fail
        refine (HB2.out m).mono ?_
        rintro e w2 ⟨rfl, hp⟩
        obtain ⟨vz, h5⟩ := hp.cells
        have hf1 := blk_frozen h5 1
        have hc1 := blk_cell h5 1
        have HPB := Aside0.mk (hp.back _ hle)
        clear hp h5
        go_wp2_with fail
        go_ret2
        exact ⟨rfl, HPB.out⟩
      · have c3b : (z == 0) = false := beq_eq_false_iff_ne.mpr c3
        have c4b : decide ((24 : Int) < z) = true := decide_eq_true (by omega)
        subst hout
        have HB2 := Aside0.mk (hB)
        clear c1 h hB c2 c3 hrg hz hz0
        go_enter Try.func73, Try.ntmps73
        go_wp2_with fail
        refine (ready_rd HA.out).mono ?_
        rintro e w1 ⟨rfl, m, rfl⟩
        go_wp2_with fail
        refine (HB2.out m).mono ?_
        rintro e w2 ⟨rfl, hp⟩
        obtain ⟨vz, h5⟩ := hp.cells
        have hf1 := blk_frozen h5 1
        have hc1 := blk_cell h5 1
        have HPB := Aside0.mk (hp.back _ hle)
        clear hp h5
        go_wp2_with fail
        go_ret2
        exact ⟨rfl, HPB.out⟩
    · rw [if_neg c2] at hout
      have c3b : (z == 0) = false := beq_eq_false_iff_ne.mpr (by omega)
      have c4b : decide ((24 : Int) < z) = false := decide_eq_false (by omega)
      obtain ⟨y, hy⟩ : ∃ y : Nat, z = (y : Int) := ⟨z.toNat, by omega⟩
      subst hy
      rw [Int.toNat_natCast] at hout
      have hy1 : 1 ≤ y ∧ y ≤ 24 := by omega
      by_cases c5 : bs.length < at_ + 1 + y
      · rw [if_pos c5] at hout
        subst hout
        have HB2 := Aside0.mk (hB)
        clear h hB c2 hrg hz hz0
        go_enter Try.func73, Try.ntmps73
        go_wp2_with fail
        refine (ready_rd HA.out).mono ?_
        rintro e w1 ⟨rfl, m, rfl⟩
        go_wp2_with fail
        refine (HB2.out m).mono ?_
        rintro e w2 ⟨rfl, hp⟩
        have hnb := next_bad (hp.rdAt) (y : Int) (.inr (by omega))
        rw [if_neg (by omega)] at hnb
        have HNB := Aside0.mk hnb
        have HP := Aside0.mk hp
        clear hp hnb hc c5 c1 hy1
        go_wp2_with fail
        refine HNB.out.mono ?_
        rintro e w3 ⟨rfl, m3, rfl⟩
        have hp := HP.out.drew m3
        obtain ⟨vz, h5⟩ := hp.cells
        have hf1 := blk_frozen h5 1
        have hc1 := blk_cell h5 1
        have HPB := Aside0.mk (hp.back _ hle)
        clear hp h5
        go_wp2_with fail
        go_ret2
        exact ⟨rfl, HPB.out⟩
      · rw [if_neg c5] at hout
        obtain ⟨sg, hsg⟩ : ∃ sg, sg = seg bs (at_ + 1) y := ⟨_, rfl⟩
        have hsl := seg_len bs (at_ + 1) y (by omega)
        rw [← hsg] at hout hsl
        by_cases c6 : nm (strOfNums sg) = true
        · rw [if_pos c6] at hout
          subst hout
          have HB2 := Aside0.mk (hB)
          clear h hB c2 hrg hz hz0
          go_enter Try.func73, Try.ntmps73
          go_wp2_with fail
          refine (ready_rd HA.out).mono ?_
          rintro e w1 ⟨rfl, m, rfl⟩
          go_wp2_with fail
          refine (HB2.out m).mono ?_
          rintro e w2 ⟨rfl, hp⟩
          have hng := next_good (hp.rdAt) y (by omega)
          rw [show (bs.take (at_ + 1 + y)).drop (at_ + 1) = sg from hsg.symm] at hng
          have HNB := Aside0.mk hng
          have HP := Aside0.mk hp
          have HLE := Aside0.mk (show at_ + 1 + y ≤ bs.length by omega)
          clear hp hng hc c5 c1 hy1 hsg
          go_wp2_with fail
          refine HNB.out.mono ?_
          rintro e w3 ⟨A, cc, m4, m5, rfl, hcap, hw3, hC⟩
          have hp := HP.out.again _ HLE.out m4 m5
          rw [← hw3] at hp
          have hC1 : Kd.C (Kd.int .u8) w3 A sg.length sg := by rw [hsl]; exact hC
          have hconv := Kd.C_string (P := Try.prog) (c := cc) (src := 23) (dst := 9) Try.underlying23 Try.underlying5 Try.underlying9 hC1
          rw [hsl] at hconv
          have HC := Aside0.mk hC1
          have HP3 := Aside0.mk hp
          clear hcap hw3 hC hC1 HP HNB
          go_wp2_with fail
          refine (wire_IsName.calls K (strOfNums sg) _ _ (HK.out.name _)).mono ?_
          rintro e w4 ⟨rfl, m6, rfl⟩
          have hp := HP3.out.drew m6
          rw [c6]
          have hconv2 := Kd.C_string (P := Try.prog) (c := cc) (src := 23) (dst := 9) Try.underlying23 Try.underlying5 Try.underlying9 (Kd.C_drewN HC.out m6)
          rw [hsl] at hconv2
          have HPB := Aside0.mk hp
          clear hconv hp
          go_wp2_with fail
          go_ret2
          exact ⟨rfl, HPB.out⟩
        · rw [if_neg c6] at hout
          have c6 : nm (strOfNums sg) = false := by simpa using c6
          subst hout
          have HB2 := Aside0.mk (hB)
          clear h hB c2 hrg hz hz0
          go_enter Try.func73, Try.ntmps73
          go_wp2_with fail
          refine (ready_rd HA.out).mono ?_
          rintro e w1 ⟨rfl, m, rfl⟩
          go_wp2_with fail
          refine (HB2.out m).mono ?_
          rintro e w2 ⟨rfl, hp⟩
          have hng := next_good (hp.rdAt) y (by omega)
          rw [show (bs.take (at_ + 1 + y)).drop (at_ + 1) = sg from hsg.symm] at hng
          have HNB := Aside0.mk hng
          have HP := Aside0.mk hp
          have HLE := Aside0.mk (show at_ + 1 + y ≤ bs.length by omega)
          clear hp hng hc c5 c1 hy1 hsg
          go_wp2_with fail
          refine HNB.out.mono ?_
          rintro e w3 ⟨A, cc, m4, m5, rfl, hcap, hw3, hC⟩
          have hp := HP.out.again _ HLE.out m4 m5
          rw [← hw3] at hp
          have hC1 : Kd.C (Kd.int .u8) w3 A sg.length sg := by rw [hsl]; exact hC
          have hconv := Kd.C_string (P := Try.prog) (c := cc) (src := 23) (dst := 9) Try.underlying23 Try.underlying5 Try.underlying9 hC1
          rw [hsl] at hconv
          have HC := Aside0.mk hC1
          have HP3 := Aside0.mk hp
          clear hcap hw3 hC hC1 HP HNB
          go_wp2_with fail
          refine (wire_IsName.calls K (strOfNums sg) _ _ (HK.out.name _)).mono ?_
          rintro e w4 ⟨rfl, m6, rfl⟩
          have hp := HP3.out.drew m6
          rw [c6]
          obtain ⟨vz, h5⟩ := hp.cells
          have hf1 := blk_frozen h5 1
          have hc1 := blk_cell h5 1
          have HPB := Aside0.mk (hp.back _ hle)
          clear hp h5
          go_wp2_with fail
          go_ret2
          exact ⟨rfl, HPB.out⟩
end Go.Proofs.Ytfakdphkklclgaa.P

end

section
namespace Go.Proofs.Ytfakdphkklclgaa.P
open Go.RowKit Go.Proofs.YtfakdphkklclgaaW.PrintWords Go.Proofs.YtfakdphkklclgaaW.PrintLast Go.Proofs.YtfakdphkklclgaaW.PrintMore
attribute [local go_sem] max2_int min2_int max_two min_two max_three min_three max_four min_four
set_option linter.unusedVariables false
set_option linter.unusedSimpArgs false
section
open Go.ChangeMaps Go.MapKept
structure Sto where
  img : List Int
  L : List S101
def lessB (a b : ByteArray) : Bool := Op.bytesLess a.toList b.toList
def lkL : List S101 → ByteArray → Option (List Int)
  | [], _ => none
  | k :: l, x => if k.f0 = x then some k.f1 else lkL l x
def putL (x : ByteArray) (b : List Int) : List S101 → List S101
  | [] => [⟨x, b⟩]
  | k :: l => if lessB k.f0 x = true then k :: putL x b l else if k.f0 = x then ⟨x, b⟩ :: l else ⟨x, b⟩ :: k :: l
def cutL (x : ByteArray) : List S101 → List S101
  | [] => []
  | k :: l => if lessB k.f0 x = true then k :: cutL x l else if k.f0 = x then l else k :: l
def posL (x : ByteArray) (L : List S101) : Nat := (L.takeWhile fun k => lessB k.f0 x).length
def Srt (L : List S101) : Prop := L.Pairwise fun a b => lessB a.f0 b.f0 = true
def recB (kind : Int) (x : ByteArray) (b : List Int) : List Int := [kind, (x.size : Int) % 256] ++ bytesOf x ++ (if kind = 1 then [(b.length : Int) / 256 % 256, (b.length : Int) % 256] ++ b else [])
def laidS (s : Sto) (l : List S101) (r : List Int) : Sto × List S52 × Int :=
  if 1048576 < s.img.length + r.length + 1 then (s, [], 7) else (⟨s.img ++ r, l⟩, [⟨(s.img.length : Int), [0] ++ r.drop 1 ++ [0]⟩, ⟨(s.img.length : Int), [rd r 0]⟩], 0)
def putS (nm : ByteArray → Bool) (s : Sto) (x : ByteArray) (b : List Int) : Sto × List S52 × Int :=
  if nm x = false then (s, [], 6) else if 4096 < b.length then (s, [], 4) else if lkL s.L x = none ∧ 16 ≤ s.L.length then (s, [], 7) else laidS s (putL x b s.L) (recB 1 x b)
def dropS (nm : ByteArray → Bool) (s : Sto) (x : ByteArray) : Sto × List S52 × Int :=
  if nm x = false then (s, [], 6) else if lkL s.L x = none then (s, [], 211) else laidS s (cutL x s.L) (recB 2 x [])
def getS (nm : ByteArray → Bool) (s : Sto) (x : ByteArray) : List Int × Int :=
  if nm x = false then ([], 6) else match lkL s.L x with
    | none => ([], 211)
    | some b => (b, 0)
structure Good (nm : ByteArray → Bool) (s : Sto) : Prop where
  img : s.img.length ≤ 1048576
  by_ : ∀ x ∈ s.img, 0 ≤ x ∧ x ≤ 255
  len : s.L.length ≤ 16
  srt : Srt s.L
  nam : ∀ k ∈ s.L, nm k.f0 = true
  val : ∀ k ∈ s.L, k.f1.length ≤ 4096 ∧ ∀ x ∈ k.f1, 0 ≤ x ∧ x ≤ 255
structure StFacts (K : Nat) (nm : ByteArray → Bool) : Prop where
  rd : RdFacts K nm
  siz : ∀ x, nm x = true → 1 ≤ x.size ∧ x.size ≤ 24
  place : ∀ L x, L.length ≤ 17 → Srt L → provisoref21_place.f K L x = some ((posL x L : Int), (lkL L x).isSome)
  with_ : ∀ L x b, L.length ≤ 17 → Srt L → provisoref21_with.f K L x b = some (putL x b L)
  wout : ∀ L x, L.length ≤ 17 → Srt L → provisoref21_without.f K L x = some (cutL x L)
  eqs : ∀ xs : List ByteArray, xs.length ≤ 17 → slices_Equal_string_string.f K xs xs = some true
  wr : ∀ ws : List S52, ws.length ≤ 2 → (∀ x ∈ ws, x.f1.length ≤ 2097152) → provisoplain_SameWrites.f K ws ws = some true
theorem hm_tight {W : World} {B n : Nat} {g : ByteArray → Option Hd} {sz : Nat} (h : HMap W B n g sz) : HMap W B sz g sz := by
  obtain ⟨D, ⟨es, clock, h1, h2, h3, h4⟩, h5, h6, h7⟩ := h
  refine ⟨D, ⟨es, clock, h1, h2, ?_, h4⟩, h5, h6, h7⟩
  have h8 : Maps.size D = es.size := by rw [h4]; exact length_read es
  omega
structure SAt (base : Nat) (F : Nat → Prop) (g : Nat) (s : Sto) (W : World) : Prop where
  now : ∃ (v : Value) (B : Nat) (h : ByteArray → Option Hd), W.heap[g]? = some (.cells #[v, .map (some B), .bool true] 62 (0, 0)) ∧ Kd.R (Kd.int .u8) 5 W base F v s.img ∧ HMap W B s.L.length h s.L.length ∧ F B ∧ (∀ x, (h x).isSome = (lkL s.L x).isSome) ∧
    ∀ x d, h x = some d → ∀ xs, lkL s.L x = some xs → d.n = xs.length ∧ xs.length ≤ d.c ∧ Kd.F (Kd.int .u8) W (fun b => F b ∧ v.ownBlock ≠ some b ∧ b ≠ B ∧ b ≠ g) d.A xs.length xs
  fs : F g
  lt : ∀ b, F b → base ≤ b ∧ b < W.heap.size
section
variable {base g : Nat} {F F' S : Nat → Prop} {s : Sto} {W W1 w : World}
theorem SAt.kept (h : SAt base F g s W) (hk : Kept W W1 S) (hS : ∀ b, F b → ¬ S b) : SAt base F g s W1 := by
  obtain ⟨⟨v, B, m, h1, h2, h3, h4, h5, h6⟩, hf, hl⟩ := h
  exact ⟨⟨v, B, m, blk_kept h1 hk (hS _ hf), Kd.R_kept h2 hk hS, h3.block (hk.2 B h3.lt (hS _ h4)), h4, h5, fun x d hd xs hx => ⟨(h6 x d hd xs hx).1, (h6 x d hd xs hx).2.1, Kd.F_kept (h6 x d hd xs hx).2.2 hk (fun b q => hS b q.1)⟩⟩, hf, fun b q => ⟨(hl b q).1, Nat.lt_of_lt_of_le (hl b q).2 hk.1⟩⟩
theorem SAt.step (h : SAt base F g s W) (hb : Below W.heap.size W W1) : SAt base F g s W1 := h.kept (S := fun _ => False) (Kept.of_below hb _) (fun _ _ q => q)
theorem SAt.more (h : SAt base F g s W) (hF : ∀ b, F b → F' b) (hl : ∀ b, F' b → base ≤ b ∧ b < W.heap.size) : SAt base F' g s W := by
  obtain ⟨⟨v, B, m, h1, h2, h3, h4, h5, h6⟩, hf, _⟩ := h
  exact ⟨⟨v, B, m, h1, Kd.R_mono h2 hF, h3, hF _ h4, h5, fun x d hd xs hx => ⟨(h6 x d hd xs hx).1, (h6 x d hd xs hx).2.1, Kd.F_mono (h6 x d hd xs hx).2.2 (fun b q => ⟨hF _ q.1, q.2⟩)⟩⟩, hF _ hf, hl⟩
theorem lk_hd {h : ByteArray → Option Hd} {L : List S101} (h5 : ∀ x, (h x).isSome = (lkL L x).isSome) (x : ByteArray) : (lkL L x = none ∧ h x = none) ∨ ∃ d xs, h x = some d ∧ lkL L x = some xs := by
  have := h5 x
  cases e1 : h x <;> cases e2 : lkL L x <;> rw [e1, e2] at this <;> simp at this ⊢
set_option maxHeartbeats 3200000 in
set_option maxRecDepth 100000 in
theorem ready_st (h : SAt base F g s w) : Calls Try.prog 34 #[.pointer (some ⟨g, 0, none⟩)] w fun e w' => e = .returned (.bool true) ∧ Drawn0 w w' := by
  obtain ⟨⟨v, B, m, h1, _⟩, _, _⟩ := h
  have hc := blk_cell h1 2
  clear h1
  go_enter Try.func34, Try.ntmps34
  go_wp2
  go_ret
  exact ⟨rfl, 0, rfl⟩
set_option maxHeartbeats 3200000 in
set_option maxRecDepth 100000 in
theorem cloned_calls (A : Option Addr) (c : Nat) (xs : List Int) (w : World) (hr : Kd.C (Kd.int .u8) w A xs.length xs) (hlim : xs.length ≤ 281474976710656) : Calls Try.prog 40 #[.slice A xs.length c] w fun e w' => ∃ v, e = .returned v ∧ Kd.R (Kd.int .u8) 5 w' w.heap.size (fun _ => True) v xs ∧ Below w.heap.size w w' := by
  have HR := Aside0.mk hr
  have HL := Aside0.mk hlim
  have hlen : xs.length ≤ 9223372036854775807 := hr.2.1
  clear hr hlim
  go_enter Try.func40, Try.ntmps40
  go_wp2_with (first | ((with_reducible refine gate_dst (N := 6) rfl ?_); refine Kd.R_make (Kd.int .u8) (w0 := w) w.heap.size 5 rfl (N := 6) rfl 23 (.tmp 5) (.tmp 5) rfl (xs.length : Int) rfl rfl Try.underlying23 (.int .u8 0) 1 info5 rfl (by decide) (by decide) 0 (ok := fun _ => True) (okp := fun _ => True) rfl (fun _ h => h) trivial (by omega) ?hl (Below.refl _ _) (Nat.le_refl _) ?_; (case hl => have := HL.out; rw [Int.toNat_natCast]; omega); intro v1 w1 ho hb hg hat; rw [Int.toNat_natCast] at ho; have HB := Aside0.mk hb; obtain ⟨Av, cv, e1⟩ := Kd.R_slice ho; rw [List.length_replicate] at e1; subst e1; obtain ⟨w2, hrun, hR2, hg2⟩ := copy_own (P := Try.prog) (ty := 3) (cA := c) Try.underlying23 (by kernel_rfl) ho (Kd.C_below HR.out hb) (by simp); have HR2 := Aside0.mk hR2; have HG2 := Aside0.mk (Below.grown hb hg2 hb.size (fun k hk => (Kd.R_base_ ho k hk))); clear ho hb hg hat hR2 hg2))
  go_ret
  exact ⟨_, rfl, HR2.out, HG2.out⟩
set_option maxHeartbeats 3200000 in
set_option maxRecDepth 100000 in
theorem New_st (w : World) : Calls Try.prog 10 #[] w fun e w' => ∃ g, e = .returned (.pointer (some ⟨g, 0, none⟩)) ∧ SAt w.heap.size (fun b => w.heap.size ≤ b ∧ b < w'.heap.size) g ⟨[], []⟩ w' ∧ Below w.heap.size w w' := by
  go_enter Try.func10, Try.ntmps10
  go_wp2_with (first | ((with_reducible refine gate_dst (N := 1) rfl ?_); refine hm_make rfl rfl ?_; intro hM; have HM := Aside0.mk hM; clear hM))
  have h1 := blk_new (w.alloc (.map #[] 0)) (.cells #[.slice none 0 0, .map (some w.heap.size), .bool true] 62)
  have h2 := below_alloc (below_alloc (Below.refl w.heap.size w) (.map #[] 0)) (.cells #[.slice none 0 0, .map (some w.heap.size), .bool true] 62)
  have h3 : (w.alloc (.map #[] 0)).heap.size = w.heap.size + 1 := by simp
  go_ret
  refine ⟨w.heap.size + 1, rfl, ⟨⟨_, w.heap.size, fun _ => none, by rw [← h3]; exact h1, Kd.R_nil _ _ _ _ _, HM.out.block (heap_alloc_old _ _ (by omega)), ?_, fun _ => rfl, fun x d hd => by cases hd⟩, ?_, fun b q => q⟩, h2⟩
  · show w.heap.size ≤ w.heap.size ∧ w.heap.size < _
    simp; omega
  · show w.heap.size ≤ w.heap.size + 1 ∧ w.heap.size + 1 < _
    simp
set_option maxHeartbeats 3200000 in
set_option maxRecDepth 100000 in
theorem get_st (K : Nat) (nm : ByteArray → Bool) (hK : StFacts K nm) (x : ByteArray) (hx : x.size ≤ maxLen) (h : SAt base F g s w) : Calls Try.prog 47 #[.pointer (some ⟨g, 0, none⟩), .string x] w fun e w' => ∃ A c, e = .returned (.tuple #[.slice A (getS nm s x).1.length c, .int .i64 (getS nm s x).2]) ∧ (getS nm s x).1.length ≤ c ∧ Kd.F (Kd.int .u8) w F A (getS nm s x).1.length (getS nm s x).1 ∧ Drawn0 w w' := by
  have H := Aside0.mk h
  have HX := Aside0.mk hx
  have HN := Aside0.mk (hK.rd.name x)
  obtain ⟨⟨v, B, m, h1, h2, h3, h4, h5, h6⟩, hf, hl⟩ := h
  have hc1 := blk_cell h1 1
  have H3 := Aside0.mk h3
  have hlk := lk_hd h5 x
  have H6 := Aside0.mk (h6 x)
  clear h1 h2 h3 h4 h5 h6 hf hl hx hK
  by_cases c1 : nm x = false
  · rw [c1] at HN
    go_enter Try.func47, Try.ntmps47
    go_wp2_with fail
    refine (ready_st H.out).mono ?_
    rintro e w1 ⟨rfl, k1, rfl⟩
    replace hc1 := show (w.drewN k1).cell? ⟨g, 1, none⟩ = _ from hc1
    replace H3 := Aside0.mk (H3.out.block (W1 := w.drewN k1) rfl)
    go_wp2_with (first | ((with_reducible refine gate_dst (N := 17) rfl ?_); refine hm_look_ok rfl rfl rfl H3.out rfl HX.out ?_))
    go_wp2_with fail
    refine (wire_IsName.calls K x _ _ HN.out).mono ?_
    rintro e w2 ⟨rfl, k2, rfl⟩
    go_wp2_with fail
    go_ret2
    unfold getS
    rw [if_pos c1]
    exact ⟨none, 0, rfl, Nat.le_refl _, Kd.F_nil _ _ _, _, rfl⟩
  · rw [Bool.not_eq_false] at c1
    rw [c1] at HN
    rcases hlk with ⟨g1, g2⟩ | ⟨d, xs, g1, g2⟩
    · have g3 : (m x).isSome = false := by rw [g2]; rfl
      go_enter Try.func47, Try.ntmps47
      go_wp2_with fail
      refine (ready_st H.out).mono ?_
      rintro e w1 ⟨rfl, k1, rfl⟩
      replace hc1 := show (w.drewN k1).cell? ⟨g, 1, none⟩ = _ from hc1
      replace H3 := Aside0.mk (H3.out.block (W1 := w.drewN k1) rfl)
      go_wp2_with (first | ((with_reducible refine gate_dst (N := 17) rfl ?_); refine hm_look_ok rfl rfl rfl H3.out rfl HX.out ?_))
      go_wp2_with fail
      refine (wire_IsName.calls K x _ _ HN.out).mono ?_
      rintro e w2 ⟨rfl, k2, rfl⟩
      go_wp2_with fail
      go_ret2
      unfold getS
      rw [if_neg (by rw [c1]; decide), g1]
      exact ⟨none, 0, rfl, Nat.le_refl _, Kd.F_nil _ _ _, _, rfl⟩
    · have g3 : (m x).isSome = true := by rw [g1]; rfl
      obtain ⟨A, n, c⟩ := d
      obtain ⟨e1, e2, e3⟩ := H6.out _ g1 xs g2
      simp only at e1 e2 e3
      subst e1
      have HE3 := Aside0.mk e3
      clear e3 H6
      have g4 : ((m x).getD hz).v = .slice A xs.length c := by rw [g1]; rfl
      go_enter Try.func47, Try.ntmps47
      go_wp2_with fail
      refine (ready_st H.out).mono ?_
      rintro e w1 ⟨rfl, k1, rfl⟩
      replace hc1 := show (w.drewN k1).cell? ⟨g, 1, none⟩ = _ from hc1
      replace H3 := Aside0.mk (H3.out.block (W1 := w.drewN k1) rfl)
      go_wp2_with (first | ((with_reducible refine gate_dst (N := 17) rfl ?_); refine hm_look_ok rfl rfl rfl H3.out rfl HX.out ?_))
      go_wp2_with fail
      refine (wire_IsName.calls K x _ _ HN.out).mono ?_
      rintro e w2 ⟨rfl, k2, rfl⟩
      go_wp2_with fail
      go_ret2
      unfold getS
      rw [if_neg (by rw [c1]; decide), g2]
      exact ⟨A, c, rfl, e2, Kd.F_mono HE3.out (fun b q => q.1), _, rfl⟩
theorem getS_bad {nm : ByteArray → Bool} {s : Sto} {x : ByteArray} (h : (getS nm s x).2 ≠ 0) : (getS nm s x).1 = [] := by
  unfold getS at h ⊢
  split
  · rfl
  · rename_i h1
    rw [if_neg h1] at h
    cases hl : lkL s.L x with
    | none => rfl
    | some b => rw [hl] at h; exact absurd rfl h
theorem getS_len {nm : ByteArray → Bool} {s : Sto} (hg : Good nm s) (x : ByteArray) : (getS nm s x).1.length ≤ 4096 := by
  unfold getS
  split
  · simp
  · cases hl : lkL s.L x with
    | none => simp
    | some b =>
      have : ∀ L : List S101, lkL L x = some b → ∃ k ∈ L, k.f1 = b := by
        intro L
        induction L with
        | nil => intro h; cases h
        | cons k l ih =>
          intro h
          unfold lkL at h
          split at h
          · cases h; exact ⟨k, by simp, rfl⟩
          · obtain ⟨k', h1, h2⟩ := ih h
            exact ⟨k', by simp [h1], h2⟩
      obtain ⟨k, h1, rfl⟩ := this _ hl
      exact (hg.val k h1).1
set_option maxHeartbeats 3200000 in
set_option maxRecDepth 100000 in
theorem Get_st (K : Nat) (nm : ByteArray → Bool) (hK : StFacts K nm) (hg : Good nm s) (x : ByteArray) (hx : x.size ≤ maxLen) (h : SAt base F g s w) : Calls Try.prog 15 #[.pointer (some ⟨g, 0, none⟩), .string x] w fun e w' => ∃ v, e = .returned (.tuple #[v, .int .i64 (getS nm s x).2]) ∧ Kd.R (Kd.int .u8) 5 w' w.heap.size (fun _ => True) v (getS nm s x).1 ∧ Below w.heap.size w w' := by
  have HG := Aside0.mk (get_st K nm hK x hx h)
  have hlen := getS_len hg x
  have hbad := getS_bad (nm := nm) (s := s) (x := x)
  obtain ⟨err, herr⟩ : ∃ err, err = (getS nm s x).2 := ⟨_, rfl⟩
  obtain ⟨bs, hbs⟩ : ∃ bs, bs = (getS nm s x).1 := ⟨_, rfl⟩
  rw [← herr, ← hbs] at HG hbad ⊢
  rw [← hbs] at hlen
  have HL := Aside0.mk hlen
  clear h hK hx hg herr hbs hlen
  by_cases c1 : err = 0
  · subst c1
    clear hbad
    go_enter Try.func15, Try.ntmps15
    go_wp2_with fail
    refine HG.out.mono ?_
    rintro e w1 ⟨A, c, rfl, hc, hF, k1, rfl⟩
    have HC := Aside0.mk hc
    have HF := Aside0.mk (Kd.F_now (Kd.F_drewN hF k1))
    clear hc hF HG
    go_wp2_with fail
    refine (cloned_calls A c bs _ HF.out (by have := HL.out; omega)).mono ?_
    rintro e w2 ⟨v, rfl, hR, hb⟩
    have HR := Aside0.mk hR
    have HB := Aside0.mk hb
    clear hR hb
    go_wp2_with fail
    go_ret2
    exact ⟨v, rfl, HR.out, below_step (pw_below_drewN (Below.refl _ _) k1) HB.out⟩
  · have c2 : (err != 0) = true := by simpa using c1
    have c3 := hbad c1
    subst c3
    clear hbad c1
    go_enter Try.func15, Try.ntmps15
    go_wp2_with fail
    refine HG.out.mono ?_
    rintro e w1 ⟨A, c, rfl, hc, hF, k1, rfl⟩
    clear hc hF HG
    go_wp2_with fail
    go_ret2
    exact ⟨_, rfl, Kd.R_nil _ _ _ _ _, pw_below_drewN (Below.refl _ _) k1⟩
set_option maxHeartbeats 3200000 in
set_option maxRecDepth 100000 in
theorem Image_st (hl : s.img.length ≤ 1048576) (h : SAt base F g s w) : Calls Try.prog 19 #[.pointer (some ⟨g, 0, none⟩)] w fun e w' => ∃ v, e = .returned v ∧ Kd.R (Kd.int .u8) 5 w' w.heap.size (fun _ => True) v s.img ∧ Below w.heap.size w w' := by
  have H := Aside0.mk h
  have HL := Aside0.mk hl
  obtain ⟨⟨v, B, m, h1, h2, _⟩, _, _⟩ := h
  obtain ⟨A, c, rfl⟩ := Kd.R_slice h2
  have hc0 := blk_cell h1 0
  have HC := Aside0.mk (Kd.R_reads' h2).2.2
  clear h1 h2 hl
  go_enter Try.func19, Try.ntmps19
  go_wp2_with fail
  refine (ready_st H.out).mono ?_
  rintro e w1 ⟨rfl, k1, rfl⟩
  replace hc0 := show (w.drewN k1).cell? ⟨g, 0, none⟩ = _ from hc0
  go_wp2_with fail
  refine (cloned_calls A c s.img _ (Kd.C_drewN HC.out k1) (by have := HL.out; omega)).mono ?_
  rintro e w2 ⟨v, rfl, hR, hb⟩
  have HR := Aside0.mk hR
  have HB := Aside0.mk hb
  clear hR hb
  go_wp2_with fail
  go_ret
  exact ⟨v, rfl, HR.out, below_step (pw_below_drewN (Below.refl _ _) k1) HB.out⟩
end
end
end Go.Proofs.Ytfakdphkklclgaa.P

end

section
namespace Go.Proofs.Ytfakdphkklclgaa.P
open Go.RowKit Go.Proofs.YtfakdphkklclgaaW.PrintWords Go.Proofs.YtfakdphkklclgaaW.PrintLast Go.Proofs.YtfakdphkklclgaaW.PrintMore
attribute [local go_sem] max2_int min2_int max_two min_two max_three min_three max_four min_four
set_option linter.unusedVariables false
set_option linter.unusedSimpArgs false
section
open Go.Shelf Go.Proofs
def Try.keysS_ren : Go.Shelf.Ren := ⟨fun | 7 => 49 | 10 => 70 | n => n, fun | 23 => 60 | 26 => 9 | 3 => 23 | 28 => 96 | 0 => 0 | 27 => 95 | 33 => 82 | 4 => 4 | n => n, fun | n => n⟩
theorem Try.keysS : Go.Proofs.SlLaysZ.n7 Try.prog Try.keysS_ren := {
  mixed := by kernel_rfl
  f7 := ⟨Try.f49.name, by decide, Try.func49.trans (congrArg some (by kernel_rfl))⟩
  f10 := ⟨Try.f70.name, by decide, Try.func70.trans (congrArg some (by kernel_rfl))⟩
  t0 := Try.underlying0
  a0 := Try.isAgg0
  z0 := Try.sizeOf0
  v0 := Try.zeroValue0
  t4 := Try.underlying4
  a4 := Try.isAgg4
  z4 := Try.sizeOf4
  v4 := Try.zeroValue4
  t23 := Try.underlying60
  a23 := Try.isAgg60
  z23 := Try.sizeOf60
  v23 := Try.zeroValue60
  t26 := Try.underlying9
  a26 := Try.isAgg9
  z26 := Try.sizeOf9
  v26 := Try.zeroValue9
  t27 := Try.underlying95
  a27 := Try.isAgg95
  z27 := Try.sizeOf95
  v27 := Try.zeroValue95
  t28 := Try.underlying96
  a28 := Try.isAgg96
  z28 := Try.sizeOf96
  v28 := Try.zeroValue96
  t33 := Try.underlying82
  a33 := Try.isAgg82
  z33 := Try.sizeOf82
  v33 := Try.zeroValue82 }
def Try.sortedS_ren : Go.Shelf.Ren := ⟨fun | 6 => 48 | 8 => 68 | 9 => 69 | 11 => 76 | 13 => 78 | 12 => 77 | 23 => 90 | 24 => 91 | 14 => 81 | 15 => 82 | 16 => 83 | 17 => 84 | 18 => 85 | 19 => 86 | 20 => 87 | 21 => 88 | 22 => 89 | 25 => 92 | 26 => 93 | 27 => 94 | 28 => 95 | 29 => 96 | 30 => 97 | 31 => 98 | n => n, fun | 26 => 9 | 28 => 96 | 24 => 55 | 0 => 0 | 3 => 3 | 37 => 38 | 48 => 127 | 50 => 143 | 4 => 4 | 40 => 135 | 39 => 134 | 45 => 88 | 5 => 5 | 9 => 9 | 51 => 144 | 55 => 148 | 57 => 150 | 58 => 151 | 33 => 82 | n => n, fun | n => n⟩
theorem Try.sortedS : Go.Proofs.SlLaysZ.n6 Try.prog Try.sortedS_ren := {
  mixed := by kernel_rfl
  f6 := ⟨Try.f48.name, by decide, Try.func48.trans (congrArg some (by kernel_rfl))⟩
  f8 := ⟨Try.f68.name, by decide, Try.func68.trans (congrArg some (by kernel_rfl))⟩
  f11 := ⟨Try.f76.name, by decide, Try.func76.trans (congrArg some (by kernel_rfl))⟩
  t0 := Try.underlying0
  a0 := Try.isAgg0
  z0 := Try.sizeOf0
  v0 := Try.zeroValue0
  t24 := Try.underlying55
  a24 := Try.isAgg55
  z24 := Try.sizeOf55
  v24 := Try.zeroValue55
  t26 := Try.underlying9
  a26 := Try.isAgg9
  z26 := Try.sizeOf9
  v26 := Try.zeroValue9
  t28 := Try.underlying96
  a28 := Try.isAgg96
  z28 := Try.sizeOf96
  v28 := Try.zeroValue96
  i26 := by kernel_rfl }
def Try.sortS_ren : Go.Shelf.Ren := ⟨fun | 6 => 69 | 8 => 78 | 9 => 77 | 19 => 90 | 20 => 91 | 21 => 81 | 22 => 82 | 23 => 83 | 24 => 84 | 25 => 85 | 26 => 86 | 27 => 87 | 28 => 88 | 29 => 89 | 36 => 92 | 31 => 93 | 32 => 94 | 37 => 95 | 38 => 96 | 39 => 97 | 41 => 98 | n => n, fun | 27 => 55 | 29 => 9 | 3 => 3 | 32 => 38 | 26 => 55 | 0 => 0 | 44 => 127 | 46 => 143 | 4 => 4 | 36 => 135 | 35 => 134 | 41 => 88 | 5 => 5 | 9 => 9 | 53 => 144 | 57 => 148 | 63 => 150 | 64 => 151 | n => n, fun | n => n⟩
theorem Try.sortS : Go.Proofs.SlLaysM.n6 Try.prog Try.sortS_ren := {
  mixed := by kernel_rfl
  f6 := ⟨Try.f69.name, by decide, Try.func69.trans (congrArg some (by kernel_rfl))⟩
  f8 := Try.func78.trans (congrArg some (by kernel_rfl))
  f9 := ⟨Try.f77.name, by decide, Try.func77.trans (congrArg some (by kernel_rfl))⟩
  f19 := Try.func90.trans (congrArg some (by kernel_rfl))
  f20 := Try.func91.trans (congrArg some (by kernel_rfl))
  f21 := ⟨Try.f81.name, by decide, Try.func81.trans (congrArg some (by kernel_rfl))⟩
  f22 := ⟨Try.f82.name, by decide, Try.func82.trans (congrArg some (by kernel_rfl))⟩
  f23 := ⟨Try.f83.name, by decide, Try.func83.trans (congrArg some (by kernel_rfl))⟩
  f24 := ⟨Try.f84.name, by decide, Try.func84.trans (congrArg some (by kernel_rfl))⟩
  f25 := ⟨Try.f85.name, by decide, Try.func85.trans (congrArg some (by kernel_rfl))⟩
  f26 := ⟨Try.f86.name, by decide, Try.func86.trans (congrArg some (by kernel_rfl))⟩
  f27 := ⟨Try.f87.name, by decide, Try.func87.trans (congrArg some (by kernel_rfl))⟩
  f28 := ⟨Try.f88.name, by decide, Try.func88.trans (congrArg some (by kernel_rfl))⟩
  f29 := ⟨Try.f89.name, by decide, Try.func89.trans (congrArg some (by kernel_rfl))⟩
  f31 := Try.func93.trans (congrArg some (by kernel_rfl))
  f32 := Try.func94.trans (congrArg some (by kernel_rfl))
  f36 := ⟨Try.f92.name, by decide, Try.func92.trans (congrArg some (by kernel_rfl))⟩
  f37 := ⟨Try.f95.name, by decide, Try.func95.trans (congrArg some (by kernel_rfl))⟩
  f38 := ⟨Try.f96.name, by decide, Try.func96.trans (congrArg some (by kernel_rfl))⟩
  f39 := ⟨Try.f97.name, by decide, Try.func97.trans (congrArg some (by kernel_rfl))⟩
  f41 := ⟨Try.f98.name, by decide, Try.func98.trans (congrArg some (by kernel_rfl))⟩
  t0 := Try.underlying0
  a0 := Try.isAgg0
  z0 := Try.sizeOf0
  v0 := Try.zeroValue0
  t3 := Try.underlying3
  a3 := Try.isAgg3
  z3 := Try.sizeOf3
  v3 := Try.zeroValue3
  t4 := Try.underlying4
  a4 := Try.isAgg4
  z4 := Try.sizeOf4
  v4 := Try.zeroValue4
  t5 := Try.underlying5
  a5 := Try.isAgg5
  z5 := Try.sizeOf5
  v5 := Try.zeroValue5
  t9 := Try.underlying9
  a9 := Try.isAgg9
  z9 := Try.sizeOf9
  v9 := Try.zeroValue9
  t26 := Try.underlying55
  a26 := Try.isAgg55
  z26 := Try.sizeOf55
  v26 := Try.zeroValue55
  t27 := Try.underlying55
  a27 := Try.isAgg55
  z27 := Try.sizeOf55
  v27 := Try.zeroValue55
  t29 := Try.underlying9
  a29 := Try.isAgg9
  z29 := Try.sizeOf9
  v29 := Try.zeroValue9
  t32 := Try.underlying38
  a32 := Try.isAgg38
  z32 := Try.sizeOf38
  v32 := Try.zeroValue38
  t35 := Try.underlying134
  a35 := Try.isAgg134
  z35 := Try.sizeOf134
  v35 := Try.zeroValue134
  t36 := Try.underlying135
  a36 := Try.isAgg135
  z36 := Try.sizeOf135
  v36 := Try.zeroValue135
  t41 := Try.underlying88
  a41 := Try.isAgg88
  z41 := Try.sizeOf88
  v41 := Try.zeroValue88
  t44 := Try.underlying127
  a44 := Try.isAgg127
  z44 := Try.sizeOf127
  v44 := Try.zeroValue127
  t46 := Try.underlying143
  a46 := Try.isAgg143
  z46 := Try.sizeOf143
  v46 := Try.zeroValue143
  t53 := Try.underlying144
  a53 := Try.isAgg144
  z53 := Try.sizeOf144
  v53 := Try.zeroValue144
  t57 := Try.underlying148
  a57 := Try.isAgg148
  z57 := Try.sizeOf148
  v57 := Try.zeroValue148
  t63 := Try.underlying150
  a63 := Try.isAgg150
  z63 := Try.sizeOf150
  v63 := Try.zeroValue150
  t64 := Try.underlying151
  a64 := Try.isAgg151
  z64 := Try.sizeOf151
  v64 := Try.zeroValue151 }
end
section
open Go.Maps Go.Sort Go.Shelf Go.Proofs
theorem own_lower1 {W : World} {b b' n size : Nat} {e : TypeId} {v : Value} {cs : List Value} (h : W.ownsRow b e size v n cs) (hb : b' ≤ b) : W.ownsRow b' e size v n cs := ⟨h.1, h.2.imp id fun ⟨g, cap, cur, e1, e2, e3⟩ => ⟨g, cap, cur, e1, Nat.le_trans hb e2, e3⟩⟩
theorem sorts_st (m : Nat) : AnyZ.SortsIn Try.prog Try.sortedS_ren Fence.wide m :=
  ⟨fun blk off cap ss W hH hblk hsz => callsIn_wide.2 (AnyM.slices_Sort_string Try.sortS blk off cap ss W hH hblk hsz),
   fun p cap W => callsIn_wide.2 (AnyM.slices_Sort_string_none Try.sortS p cap W)⟩
theorem keysS_calls (B : Nat) (W : World) : Calls Try.prog 49 #[.map (some B)] W fun e w' => e = .returned (.func (.func 70) #[] #[.pointer (some ⟨W.heap.size, 0, none⟩)]) ∧ w' = W.alloc (.cells #[.map (some B)] 60) :=
  (callsIn_wide (n := 5)).1 (AnyZ.keys_in Try.keysS Fence.wide 5 trivial rfl (some B) W)
theorem sortedS_calls {R : Value → Option (DataW Unit × List MemPlace)} {W : World} {B n : Nat} {D : DataW Unit} (hown : W.ownsMap Try.prog 9 R B n D) (hmax : Maps.size D ≤ 1024) : Calls Try.prog 48 #[.func (.func 70) #[] #[.pointer (some ⟨W.heap.size, 0, none⟩)]] (W.alloc (.cells #[.map (some B)] 60)) fun e w' => ∃ (v : Value) (ss : List (List UInt8)), e = .returned v ∧ ss.Perm (strKeys D) ∧ w'.ownsRow W.heap.size 9 1 v ss.length ((ss.mergeSort (fun x y => decide (x ≤ y))).map encStr) ∧ Below W.heap.size W w' := by
  have hbl := hown.lt
  have hseq : SeqGives Fence.wide 2 Try.prog 70 #[.pointer (some ⟨W.heap.size, 0, none⟩)] encStr (fun ss => ss.Perm (strKeys D)) (Maps.size D) (W.alloc (.cells #[.map (some B)] 60)) :=
    AnyZ.keys_gives (ρ := Try.keysS_ren) { Try.keysS with } Fence.wide _ trivial rfl (by omega) W.heap.size B n D _ (by simp) (by simp) (by
      obtain ⟨es, clock, hb, Ft, hs, hD⟩ := hown
      exact ⟨es, clock, (Below.heap_alloc _ _ B hbl).trans hb, Ft, hs, hD⟩)
  have cS := AnyZ.sorted_in Try.sortedS Fence.wide 5 trivial trivial trivial trivial rfl (by omega) (sorts_st _) (enters_of Try.func69 (by kernel_rfl) rfl) 70 #[.pointer (some ⟨W.heap.size, 0, none⟩)] trivial (enters_of Try.func70 (by kernel_rfl) rfl) _ _ (by unfold maxLen; omega) (by omega) _ hseq
  refine ((callsIn_wide (n := 5)).1 cS).mono ?_
  rintro e w' ⟨v, ss, rfl, hS, hrow, _, hb⟩
  exact ⟨v, ss, rfl, hS, own_lower1 hrow (by simp), ((Below.refl _ W).alloc (Nat.le_refl _) _).trans (hb.mono (by simp))⟩
theorem lessB_iff (a b : ByteArray) : lessB a b = true ↔ a.data.toList < b.data.toList := by
  unfold lessB
  rw [bytesLess_eq, Lib.toList_data, Lib.toList_data]
  simp
theorem data_inj {a b : ByteArray} (h : a.data.toList = b.data.toList) : a = b := by
  cases a; cases b
  simp only [ByteArray.mk.injEq]
  exact Array.toList_inj.1 h
theorem lk_mem (L : List S101) (x : ByteArray) : (lkL L x).isSome = true ↔ x ∈ L.map (·.f0) := by
  induction L with
  | nil => simp [lkL]
  | cons k l ih =>
    unfold lkL
    by_cases e : k.f0 = x
    · rw [if_pos e]; simp [e]
    · rw [if_neg e, ih]
      simp only [List.map_cons, List.mem_cons]
      constructor
      · exact .inr
      · rintro (q | q)
        · exact absurd q.symm e
        · exact q
theorem names_sorted {L : List S101} (hs : Srt L) {R : Value → Option (DataW Unit × List MemPlace)} {W : World} {B n : Nat} {D : DataW Unit} (hown : W.ownsMap Try.prog 9 R B n D) (hh : ∀ x : ByteArray, Maps.has D (keyS x) = (lkL L x).isSome) {ss : List (List UInt8)} (hp : ss.Perm (strKeys D)) :
    ss.mergeSort (fun x y => decide (x ≤ y)) = L.map (fun k => k.f0.data.toList) := by
  obtain ⟨es, hD, hpw, _⟩ := hown.entries skeyed
  obtain ⟨es', hD', hko⟩ := hown.keysOf
  obtain rfl : es = es' := by rw [hD] at hD'; simpa using hD'
  subst hD
  have hk : ∀ p ∈ es, ∃ x, p.1 = .string x := fun p hp => by obtain ⟨v, hv⟩ := hko p hp; obtain ⟨x, _, hx, _⟩ := Maps.keyOf_str Try.underlying9 hv; exact ⟨x, hx⟩
  have hlt : (L.map fun k => k.f0.data.toList).Pairwise (· < ·) := List.pairwise_map.2 (hs.imp fun h => (lessB_iff _ _).1 h)
  have hnd : (L.map fun k => k.f0.data.toList).Nodup := hlt.imp fun h e => by rw [e] at h; exact List.lt_irrefl _ h
  have hm : ∀ x, x ∈ (L.map fun k => k.f0.data.toList) ↔ Maps.has (.map es) (.string x) = true := fun x => by
    have h1 := hh ⟨x.toArray⟩
    have h2 : keyS ⟨x.toArray⟩ = .string x := by simp [keyS]
    rw [h2] at h1
    rw [h1, lk_mem, List.mem_map, List.mem_map]
    constructor
    · rintro ⟨k, hk, rfl⟩
      exact ⟨k, hk, data_inj (by simp)⟩
    · rintro ⟨k, hk, e⟩
      exact ⟨k, hk, by rw [e]⟩
  have h3 := perm_strKeys hpw hk hnd hm
  rw [mergeSort_of_perm (hp.trans h3.symm)]
  exact List.mergeSort_of_pairwise (hlt.imp fun h => by simpa using List.le_of_lt h)
theorem names_row {L : List S101} {W : World} {base n : Nat} {v : Value} (h : W.ownsRow base 9 1 v n ((L.map fun k => k.f0.data.toList).map encStr)) (hn : n = L.length) : Kd.R Kd.string 9 W base (fun _ => True) v (L.map (·.f0)) := by
  subst hn
  refine ⟨fun _ _ => trivial, (L.map (fun k : S101 => k.f0)).map Value.string, ?_, (Kd.reps_scalar (enc := Value.string) (L.map (fun k : S101 => k.f0)) : Reps (fun (x : ByteArray) (cs : List Value) => cs = [.string x]) 1 _ _)⟩
  have e : (L.map fun k => k.f0.data.toList).map encStr = (L.map (·.f0)).map Value.string := by
    simp only [List.map_map]
    refine List.map_congr_left fun k _ => ?_
    simp [encStr]
  rw [← e, List.length_map]
  exact h
set_option maxHeartbeats 3200000 in
set_option maxRecDepth 100000 in
theorem Names_st {base g : Nat} {F : Nat → Prop} {s : Sto} {w : World} (hsr : Srt s.L) (hl : s.L.length ≤ 16) (h : SAt base F g s w) : Calls Try.prog 20 #[.pointer (some ⟨g, 0, none⟩)] w fun e w' => ∃ v, e = .returned v ∧ Kd.R Kd.string 9 w' w.heap.size (fun _ => True) v (s.L.map (·.f0)) ∧ Below w.heap.size w w' := by
  have H := Aside0.mk h
  have HSR := Aside0.mk hsr
  have HL := Aside0.mk hl
  obtain ⟨⟨v, B, m, h1, h2, h3, h4, h5, _⟩, _, _⟩ := h
  have hc1 := blk_cell h1 1
  obtain ⟨D, hD, hD2, hD3, hD4⟩ := h3
  have HD := Aside0.mk hD
  have HD2 := Aside0.mk (show ∀ x : ByteArray, Maps.has D (keyS x) = (lkL s.L x).isSome from fun x => (hD2 x).trans (h5 x))
  have HD4 := Aside0.mk hD4
  clear h1 h2 hl hsr hD hD2 hD3 hD4 h4 h5
  go_enter Try.func20, Try.ntmps20
  go_wp2_with fail
  refine (ready_st H.out).mono ?_
  rintro e w1 ⟨rfl, k1, rfl⟩
  replace hc1 := show (w.drewN k1).cell? ⟨g, 1, none⟩ = _ from hc1
  go_wp2_with fail
  refine (keysS_calls B _).mono ?_
  rintro e w2 ⟨rfl, rfl⟩
  go_wp2_with fail
  refine (sortedS_calls (W := w.drewN k1) (show (w.drewN k1).ownsMap _ _ _ _ _ _ from HD.out) (by have := HL.out; rw [HD4.out]; omega)).mono ?_
  rintro e w3 ⟨v2, ss, rfl, hp, hrow, hb⟩
  have hso := names_sorted HSR.out HD.out HD2.out hp
  rw [hso] at hrow
  have hln := congrArg List.length hso
  rw [List.length_mergeSort, List.length_map] at hln
  have HR := Aside0.mk (names_row hrow hln)
  have HB := Aside0.mk hb
  clear hp hrow hb hso hln
  go_wp2_with fail
  go_ret
  exact ⟨v2, rfl, HR.out, below_step (pw_below_drewN (Below.refl _ _) k1) HB.out⟩
end
end Go.Proofs.Ytfakdphkklclgaa.P

end

section
namespace Go.Proofs.Ytfakdphkklclgaa.P
open Go.RowKit Go.Proofs.YtfakdphkklclgaaW.PrintWords Go.Proofs.YtfakdphkklclgaaW.PrintLast Go.Proofs.YtfakdphkklclgaaW.PrintMore
attribute [local go_sem] max2_int min2_int max_two min_two max_three min_three max_four min_four
set_option linter.unusedVariables false
set_option linter.unusedSimpArgs false
section
open Go.ChangeMaps Go.MapKept
set_option linter.unusedVariables false
structure WrAt (S1 S2 : Nat) (v : Value) (at_ : Int) (r0 r1 : List Int) (W : World) : Prop where
  now : ∃ (b0 : Nat) (v1 v2 : Value), v = .slice (some ⟨b0, 0, none⟩) 2 2 ∧ W.heap[b0]? = some (.cells #[.int .i64 at_, v1, .int .i64 at_, v2] 52 (0, 0)) ∧ Kd.R (Kd.int .u8) 5 W S1 (fun b => S1 ≤ b ∧ b < S2) v1 r0 ∧ Kd.R (Kd.int .u8) 5 W S1 (fun b => S1 ≤ b ∧ b < S2) v2 r1 ∧ (∀ b, v1.ownBlock = some b → v2.ownBlock ≠ some b) ∧ S1 ≤ b0 ∧ b0 < S2
section
variable {S1 S2 : Nat} {v : Value} {at_ : Int} {r0 r1 : List Int} {W W1 : World} {S : Nat → Prop}
theorem WrAt.kept (h : WrAt S1 S2 v at_ r0 r1 W) (hk : Kept W W1 S) (hS : ∀ b, S1 ≤ b → b < S2 → ¬ S b) : WrAt S1 S2 v at_ r0 r1 W1 := by
  obtain ⟨b0, v1, v2, h1, h2, h3, h4, h5, h6, h7⟩ := h
  exact ⟨b0, v1, v2, h1, blk_kept h2 hk (hS _ h6 h7), Kd.R_kept h3 hk (fun b q => hS b q.1 q.2), Kd.R_kept h4 hk (fun b q => hS b q.1 q.2), h5, h6, h7⟩
theorem WrAt.step (h : WrAt S1 S2 v at_ r0 r1 W) (hb : Below W.heap.size W W1) : WrAt S1 S2 v at_ r0 r1 W1 := h.kept (S := fun _ => False) (Kept.of_below hb _) (fun _ _ _ q => q)
theorem WrAt.reads (h : WrAt S1 S2 v at_ r0 r1 W) : ∃ b0, v = .slice (some ⟨b0, 0, none⟩) 2 2 ∧ Kd.C k52 W (some ⟨b0, 0, none⟩) 2 [⟨at_, r0⟩, ⟨at_, r1⟩] := by
  obtain ⟨b0, v1, v2, h1, h2, h3, h4, h5, h6, h7⟩ := h
  obtain ⟨A1, c1, rfl⟩ := Kd.R_slice h3
  obtain ⟨A2, c2, rfl⟩ := Kd.R_slice h4
  obtain ⟨_, l1, g1⟩ := Kd.R_reads' h3
  obtain ⟨_, l2, g2⟩ := Kd.R_reads' h4
  refine ⟨b0, h1, rfl, by decide, fun _ => ⟨_, rfl, fun j p hj => ?_⟩⟩
  match j, hj with
  | 0, hj =>
    cases hj
    refine ⟨_, rfl, k52_mk W ⟨at_, r0⟩ l1 g1, fun i u hu => ?_⟩
    match i, hu with
    | 0, hu => cases hu; exact blk_cell h2 0
    | 1, hu => cases hu; exact blk_cell h2 1
    | (n + 2), hu => cases hu
  | 1, hj =>
    cases hj
    refine ⟨_, rfl, k52_mk W ⟨at_, r1⟩ l2 g2, fun i u hu => ?_⟩
    match i, hu with
    | 0, hu => cases hu; exact blk_cell h2 2
    | 1, hu => cases hu; exact blk_cell h2 3
    | (n + 2), hu => cases hu
  | (n + 2), hj => cases hj
end
def Wrs (S1 S2 : Nat) (v : Value) (ws : List S52) (W : World) : Prop := (ws = [] ∧ v = .slice none 0 0) ∨ ∃ at_ r0 r1, ws = [⟨at_, r0⟩, ⟨at_, r1⟩] ∧ WrAt S1 S2 v at_ r0 r1 W
theorem Wrs.kept {S1 S2 : Nat} {v : Value} {ws : List S52} {W W1 : World} {S : Nat → Prop} (h : Wrs S1 S2 v ws W) (hk : Kept W W1 S) (hS : ∀ b, S1 ≤ b → b < S2 → ¬ S b) : Wrs S1 S2 v ws W1 := by
  rcases h with h | ⟨a, r0, r1, h1, h2⟩
  · exact .inl h
  · exact .inr ⟨a, r0, r1, h1, h2.kept hk hS⟩
theorem Wrs.step {S1 S2 : Nat} {v : Value} {ws : List S52} {W W1 : World} (h : Wrs S1 S2 v ws W) (hb : Below W.heap.size W W1) : Wrs S1 S2 v ws W1 := h.kept (S := fun _ => False) (Kept.of_below hb _) (fun _ _ _ q => q)
theorem Wrs.reads {S1 S2 : Nat} {v : Value} {ws : List S52} {W : World} (h : Wrs S1 S2 v ws W) : ∃ A c, v = .slice A ws.length c ∧ ws.length ≤ c ∧ Kd.C k52 W A ws.length ws := by
  rcases h with ⟨rfl, rfl⟩ | ⟨a, r0, r1, rfl, h2⟩
  · exact ⟨none, 0, rfl, Nat.le_refl _, Kd.C_nil _ _⟩
  · obtain ⟨b0, h3, h4⟩ := h2.reads
    exact ⟨_, 2, h3, Nat.le_refl _, h4⟩
def StPost (base : Nat) (F : Nat → Prop) (g : Nat) (w : World) (out : Sto × List S52 × Int) (e : Ending) (w' : World) : Prop := ∃ (v : Value) (S1 S2 : Nat), e = .returned (.tuple #[v, .int .i64 out.2.2]) ∧ w.heap.size ≤ S1 ∧ S1 ≤ S2 ∧ S2 ≤ w'.heap.size ∧ Wrs S1 S2 v out.2.1 w' ∧ SAt base (fun b => F b ∨ (S2 ≤ b ∧ b < w'.heap.size)) g out.1 w' ∧ Kept w w' F ∧ ∀ (B : Nat) (w0 : World), B ≤ base → Below B w0 w → Below B w0 w'
theorem StPost.same {base : Nat} {F : Nat → Prop} {g : Nat} {s : Sto} {w w' : World} (h : SAt base F g s w) (hb : Below w.heap.size w w') (err : Int) : StPost base F g w (s, [], err) (.returned (.tuple #[.slice none 0 0, .int .i64 err])) w' := by
  have hl := h.lt g h.fs
  exact ⟨_, w'.heap.size, w'.heap.size, rfl, hb.size, Nat.le_refl _, Nat.le_refl _, .inl ⟨rfl, rfl⟩, (h.step hb).more (fun b q => .inl q) (fun b q => q.elim (fun q => ⟨(h.lt b q).1, Nat.lt_of_lt_of_le (h.lt b q).2 hb.size⟩) (fun q => by omega)), Kept.of_below hb _, fun B w0 hB hw => hw.trans (hb.mono (by omega))⟩
theorem hm_store_wp {o : Oper} {a : Act} {Q : Exit → Act → World → Prop} {K : Act → World → Prop} {m x v : Operand} (ho : o.op = .mapUpdate 60 m x v) {W : World} {B n sz : Nat} {g : ByteArray → Option Hd} (hm : a.eval m = .map (some B)) (hown : HMap W B n g sz) (hn : n < maxLen) {k : ByteArray} {c : Hd} (hx : a.eval x = .string k) (hv : a.eval v = c.v) (hk : k.size ≤ maxLen) (hc : c.ok)
    (h : ∀ w1, HMap w1 B (n + 1) (updH g k c) (if (g k).isSome then sz else sz + 1) → W.grownBy w1 (some B) → K (a.put o.dst undef) w1) : Oper.wp Try.prog o a W K Q := by
  obtain ⟨D, h1, h2, h3, h4⟩ := hown
  obtain ⟨w', hrun, r1, r2⟩ := h1.update skeyed Try.underlying60 hn (keyS_of hk) (hdrR_of hc)
  have ht := h1.tidy skeyed
  have hl : Go.WideAt.IsKeyLit (keyS k) := trivial
  unfold Oper.wp
  simp [execOp, ho, hm, hx, hv, hrun, Result.andThen]
  refine h _ ⟨_, r1, fun s => ?_, fun s e hs => ?_, ?_⟩ r2
  · unfold updH
    by_cases e : s = k
    · rw [if_pos e, e, Maps.has_put_same ht.isMap hl]; rfl
    · rw [if_neg e, Maps.has_put_other (fun e' => e (keyS_inj e')), h2]
  · unfold updH at hs
    by_cases e' : s = k
    · rw [if_pos e'] at hs
      cases hs
      exact ⟨hc, fun z => by rw [e', Maps.atKey_put_same ht.isMap hl]⟩
    · rw [if_neg e'] at hs
      exact ⟨(h3 s e hs).1, fun z => by rw [Maps.atKey_put_other (fun e'' => e' (keyS_inj e'')), (h3 s e hs).2 z]⟩
  · rw [Maps.size_put ht, h2, h4]
set_option maxHeartbeats 3200000 in
set_option maxRecDepth 100000 in
theorem laid_full {base g : Nat} {F : Nat → Prop} {s : Sto} {w : World} (K : Nat) (nm : ByteArray → Bool) (hK : StFacts K nm) (hg : Good nm s) (kind : Int) (hkind : kind = 1 ∨ kind = 2) (x : ByteArray) (hx : nm x = true) (ex : List Int) (hex : ex.length ≤ 5000) (fid : FuncId) (fr : Array Value) (hcf : ∀ (vs : Array Value) (w : World), Sem.run Try.prog (callFunc fid vs) w = .ok (.enter fid vs) w) (hput : ∀ (g2 : Nat) (W1 : World), Below w.heap.size w W1 → WtAt w.heap.size g2 (fun _ => True) ([0] ++ nameBytes x) W1 → Calls Try.prog fid (#[.pointer (some ⟨g2, 0, none⟩)] ++ fr) W1 fun e w' => e = .returned (.tuple #[]) ∧ WtAt w.heap.size g2 (fun _ => True) ([0] ++ nameBytes x ++ ex) w' ∧ Below w.heap.size W1 w') (h : SAt base F g s w) (hf : 1048576 < s.img.length + ([0] ++ nameBytes x ++ ex).length + 1) : Calls Try.prog 36 #[.pointer (some ⟨g, 0, none⟩), .int .u8 kind, .string x, .func (.func fid) #[] fr] w fun e w' => StPost base F g w (s, [], 7) e w' := by
  have hsz := (hK.siz x hx).2
  have hN : wire_IsName.f K x = some true := by rw [hK.rd.name x, hx]
  have himg := hg.img
  have H := Aside0.mk h
  have HPUT := Aside0.mk hput
  have HNM := Aside0.mk hN
  have hnl : (nameBytes x).length = x.size + 1 := by unfold nameBytes bytesOf; simp [Lib.toList_data]
  obtain ⟨R, hR⟩ : ∃ R, R = [0] ++ nameBytes x ++ ex := ⟨_, rfl⟩
  have hRl : R.length = x.size + 2 + ex.length := by rw [hR]; simp [hnl]; omega
  have HRE := Aside0.mk hR
  have HRL := Aside0.mk hRl
  have HH := Aside0.mk h
  rw [← hR] at hf
  clear hR hRl hnl
  have hsh := h.now
  clear h hput hK hg hN hx
  go_enter Try.func36, Try.ntmps36
  go_wp2_with fail
  refine (New_calls w).mono ?_
  rintro e w1 ⟨gw, rfl, hwt, hb⟩
  have HWT := Aside0.mk hwt
  have HB := Aside0.mk hb
  clear hwt hb
  go_wp2_with fail
  refine (wByte_good HWT.out 0 (by decide) (by decide)).mono ?_
  rintro e w2 ⟨q, _⟩
  obtain ⟨rfl, hwt, hb, _⟩ := q (by simp)
  replace HWT := Aside0.mk (show WtAt w.heap.size gw (fun _ => True) [0] w2 from hwt.mono (fun _ _ => trivial))
  replace HB := Aside0.mk (HB.out.trans hb)
  clear hwt hb q
  go_wp2_with fail
  refine (wName_good HWT.out K x HNM.out hsz).mono ?_
  rintro e w3 ⟨q, _⟩
  obtain ⟨rfl, hwt, hb, _⟩ := q (by simp; omega)
  replace HWT := Aside0.mk (show WtAt w.heap.size gw (fun _ => True) ([0] ++ nameBytes x) w3 from hwt.mono (fun _ _ => trivial))
  replace HB := Aside0.mk (HB.out.trans hb)
  clear hwt hb q
  go_wp2_with fail
  refine (HPUT.out gw w3 HB.out HWT.out).mono ?_
  rintro e w4 ⟨rfl, hwt, hb⟩
  rw [← HRE.out] at hwt
  replace HWT := Aside0.mk hwt
  replace HB := Aside0.mk (HB.out.trans hb)
  clear hwt hb
  go_wp2_with fail
  refine (Bytes_wt HWT.out).mono ?_
  have HW4 := Aside0.mk HB.out.size
  rintro e w5 ⟨vb, rfl, hrb, hb⟩
  replace HB := Aside0.mk (below_step HB.out hb)
  obtain ⟨gb, cb, evb, hgb0, hgb, cells, hgc⟩ := Kd.R_form hrb (by have := HRL.out; omega)
  subst evb
  replace H := Aside0.mk (H.out.step HB.out)
  obtain ⟨⟨vi, B, m, h1, h2, _⟩, _, _⟩ := H.out
  obtain ⟨Ai, ci, rfl⟩ := Kd.R_slice h2
  have hc0 := blk_cell h1 0
  have hw1 : wrap64 ((1048576 : Int) - (s.img.length : Int)) = (1048576 : Int) - (s.img.length : Int) := by unfold wrap64; omega
  have c1 : decide ((R.length : Int) ≥ (1048576 : Int) - (s.img.length : Int)) = true := decide_eq_true (by omega)
  clear h1 h2 hrb hgc hb hsh
  go_wp2_with fail
  go_ret2
  exact StPost.same HH.out HB.out 7
theorem typ_nst {W : World} {a b t u : Nat} {cs ds : Array Value} (h1 : W.heap[a]? = some (.cells cs t (0, 0))) (h2 : W.heap[b]? = some (.cells ds u (0, 0))) (hn : t ≠ u) : a ≠ b := fun e => by
  subst e
  rw [h1] at h2
  injection h2 with h2
  injection h2 with _ h2
  exact hn h2
theorem byte_fits {n : Nat} (h : n ≤ 2097152) : Builtin.nextslicecap (n + 1) n * 1 ≤ 281474976710656 := growslice_fits (need := n + 1) (old := n) (bytes := 1) (Nat.lt_succ_self n) (by omega)
def Halt_ (p : Prop) : Prop := p
theorem halt_at {p : Prop} (h : Halt_ p) : p := h
theorem halt_go {p : Prop} (h : p) : Halt_ p := h
theorem st_store1 {P : Program} {ops : Array Oper} {rest : List Oper} {o : Oper} {a : Act} {Q : Exit → Act → World → Prop} (hgd : o.guard = none) (ty : TypeId) {x y : Operand} (ho : o.op = .store ty x y) {g i : Nat} (hx : a.eval x = .pointer (some ⟨g, i, none⟩)) {u : Value} (hy : a.eval y = u) (hu : u.oneCell' = true) {W : World} {t : TypeId} {cs : Array Value} (hg : W.heap[g]? = some (.cells cs t (0, 0))) (hi : i < cs.size) (hsz : (P.info? ty).map (·.size) = some 1)
    (h : wpList P ops Q rest (a.put o.dst undef) (W.setCell ⟨g, i, none⟩ u)) : wpList P ops Q (o :: rest) a W :=
  wpList_plain hgd fun _ hK => by
    have hrun := run_store_one_cell (P := P) ty hg hi hu hsz
    unfold Oper.wp execOp
    simp only [ho, hx, hy, Instr.storeAt, Instr.sureAddr, Sem.run_bind, Sem.run_pure, Result.andThen_ok, hrun]
    exact hK _ _ h
theorem cells_pos {W : World} {gb n c base : Nat} {ok : Nat → Prop} {xs : List Int} {cells : Array Value} (h : Kd.R (Kd.int .u8) 5 W base ok (.slice (some ⟨gb, 0, none⟩) n c) xs) (hn : 0 < xs.length) (hg : W.heap[gb]? = some (.cells cells 5 (0, 0))) : 0 < cells.size := by
  have h1 := Kd.foot_int (Kd.R_reads' h).2.2 0 (by decide) (by omega)
  have h2 := blk_cell hg 0
  rw [show ((⟨gb, 0, none⟩ : Addr).add (0 : Int).toNat) = ⟨gb, 0, none⟩ from rfl, h2] at h1
  exact (Array.getElem?_eq_some_iff.1 h1).1
theorem setCell_size (W : World) (p : Addr) (u : Value) : (W.setCell p u).heap.size = W.heap.size := by simp [World.setCell]
theorem WrAt.made {S1 : Nat} {A : Option Addr} {n c : Nat} {r0 : List Int} {W : World} (h : Kd.R (Kd.int .u8) 5 W S1 (fun _ => True) (.slice A n c) r0) (hS : S1 ≤ W.heap.size) (kind at_ : Int) :
    WrAt S1 (W.heap.size + 2) (.slice (some ⟨W.heap.size + 1, 0, none⟩) 2 2) at_ r0 [kind] ((W.alloc (.cells #[.int .u8 kind] 5)).alloc (.cells #[.int .i64 at_, .slice A n c, .int .i64 at_, .slice (some ⟨W.heap.size, 0, none⟩) 1 1] 52)) := by
  have hs : (W.alloc (.cells #[.int .u8 kind] 5)).heap.size = W.heap.size + 1 := by simp
  have h1 := Kd.R_alloc (Kd.R_alloc (Kd.R_bound h) (.cells #[.int .u8 kind] 5)) (.cells #[.int .i64 at_, .slice A n c, .int .i64 at_, .slice (some ⟨W.heap.size, 0, none⟩) 1 1] 52)
  have h2 : Kd.R (Kd.int .u8) 5 (W.alloc (.cells #[.int .u8 kind] 5)) S1 (fun b => S1 ≤ b ∧ b < W.heap.size + 2) (.slice (some ⟨W.heap.size, 0, none⟩) 1 1) [kind] := Kd.R_mono (Kd.R_bound (Kd.R_lower (R_of_nums (one_own W kind)) hS)) (fun b q => ⟨q.2.1, by have := q.2.2.1; rw [hs] at this; omega⟩)
  refine ⟨W.heap.size + 1, _, _, rfl, ?_, Kd.R_mono h1 (fun b q => ⟨q.2.1, by have := q.2.2.1; omega⟩), Kd.R_alloc h2 _, fun b hb e => ?_, by omega, by omega⟩
  · rw [← hs]; exact blk_new _ _
  · have h3 := Kd.R_lt h b hb
    have h4 : b = W.heap.size := by
      have : some W.heap.size = some b := e
      injection this with this
      exact this.symm
    omega
theorem SAt.cells {base g : Nat} {F : Nat → Prop} {s : Sto} {W : World} (h : SAt base F g s W) : ∃ (A : Option Addr) (c B : Nat) (m : ByteArray → Option Hd), W.heap[g]? = some (.cells #[.slice A s.img.length c, .map (some B), .bool true] 62 (0, 0)) ∧ Kd.R (Kd.int .u8) 5 W base F (.slice A s.img.length c) s.img ∧ HMap W B s.L.length m s.L.length ∧ F B ∧ (∀ x, (m x).isSome = (lkL s.L x).isSome) ∧
    ∀ x d, m x = some d → ∀ xs, lkL s.L x = some xs → d.n = xs.length ∧ xs.length ≤ d.c ∧ Kd.F (Kd.int .u8) W (fun b => F b ∧ (Value.slice A s.img.length c).ownBlock ≠ some b ∧ b ≠ B ∧ b ≠ g) d.A xs.length xs := by
  obtain ⟨⟨v, B, m, h1, h2, h3⟩, _, _⟩ := h
  obtain ⟨A, c, rfl⟩ := Kd.R_slice h2
  exact ⟨A, c, B, m, h1, h2, h3⟩
theorem SAt.image {base g : Nat} {F F' : Nat → Prop} {s : Sto} {W W1 W2 : World} {A : Option Addr} {c B : Nat} {m : ByteArray → Option Hd} {v : Value} {img : List Int}
    (h1 : W.heap[g]? = some (.cells #[.slice A s.img.length c, .map (some B), .bool true] 62 (0, 0))) (h2 : Kd.R (Kd.int .u8) 5 W base F (.slice A s.img.length c) s.img) (h3 : HMap W B s.L.length m s.L.length) (h4 : F B) (h5 : ∀ x, (m x).isSome = (lkL s.L x).isSome)
    (h6 : ∀ x d, m x = some d → ∀ xs, lkL s.L x = some xs → d.n = xs.length ∧ xs.length ≤ d.c ∧ Kd.F (Kd.int .u8) W (fun b => F b ∧ (Value.slice A s.img.length c).ownBlock ≠ some b ∧ b ≠ B ∧ b ≠ g) d.A xs.length xs) (hf : F g) (hl : ∀ b, F b → base ≤ b ∧ b < W.heap.size)
    (hg : W.grownBy W1 (Value.slice A s.img.length c).ownBlock) (hat : v.ownBlock = (Value.slice A s.img.length c).ownBlock ∨ ∃ b, v.ownBlock = some b ∧ W.heap.size ≤ b) (hR : Kd.R (Kd.int .u8) 5 W1 base F' v img) (hF : ∀ b, F b → F' b) (hl' : ∀ b, F' b → base ≤ b ∧ b < W1.heap.size) (hW2 : W2 = W1.setCell ⟨g, 0, none⟩ v) :
    SAt base F' g ⟨img, s.L⟩ W2 := by
  subst hW2
  have n1 : ∀ b, (Value.slice A s.img.length c).ownBlock = some b → ∃ cs, W.heap[b]? = some (.cells cs 5 (0, 0)) := fun b q => Kd.R_typed h2 b q
  have n2 : some g ≠ (Value.slice A s.img.length c).ownBlock := fun q => by
    obtain ⟨cs, h7⟩ := n1 g q.symm
    exact typ_nst h1 h7 (by decide) rfl
  have n3 : some B ≠ (Value.slice A s.img.length c).ownBlock := fun q => by
    obtain ⟨cs, h7⟩ := n1 B q.symm
    exact h3.ne h7 rfl
  have n4 : B ≠ g := h3.ne h1
  have g1 := (hg.block g (blk_lt h1) n2).trans h1
  have hs : (W1.setCell ⟨g, 0, none⟩ v).heap.size = W1.heap.size := by simp [World.setCell]
  refine ⟨⟨v, B, m, blk_set g1 0 v, Kd.R_set hR g1 (by decide) 0 v, (h3.block (hg.block B h3.lt n3)).block (Below.heap_setCell _ _ _ B n4), hF _ h4, h5, fun x d hd xs hx => ?_⟩, hF _ hf, fun b q => ⟨(hl' b q).1, by rw [hs]; exact (hl' b q).2⟩⟩
  obtain ⟨q1, q2, q3⟩ := h6 x d hd xs hx
  refine ⟨q1, q2, Kd.F_mono (Kd.F_far (Kd.F_grown (Kd.F_bound q3) hg (fun k hk q => hk.1.2.1 q.symm)) (fun k hk => hk.1.2.2.2) v) (fun b q => ⟨hF _ q.1.1, fun e => ?_, q.1.2.2⟩)⟩
  rcases hat with hat | ⟨b', e2, e3⟩
  · rw [hat] at e
    exact q.1.2.1 e
  · rw [e2] at e
    injection e with e
    have := q.2
    omega
set_option maxHeartbeats 6400000 in
set_option maxRecDepth 100000 in
theorem laid_fits {base g : Nat} {F : Nat → Prop} {s : Sto} {w : World} (K : Nat) (nm : ByteArray → Bool) (hK : StFacts K nm) (hg : Good nm s) (kind : Int) (hkind : kind = 1 ∨ kind = 2) (x : ByteArray) (hx : nm x = true) (ex : List Int) (hex : ex.length ≤ 5000) (fid : FuncId) (fr : Array Value) (hcf : ∀ (vs : Array Value) (w : World), Sem.run Try.prog (callFunc fid vs) w = .ok (.enter fid vs) w) (hput : ∀ (g2 : Nat) (W1 : World), Below w.heap.size w W1 → WtAt w.heap.size g2 (fun _ => True) ([0] ++ nameBytes x) W1 → Calls Try.prog fid (#[.pointer (some ⟨g2, 0, none⟩)] ++ fr) W1 fun e w' => e = .returned (.tuple #[]) ∧ WtAt w.heap.size g2 (fun _ => True) ([0] ++ nameBytes x ++ ex) w' ∧ Below w.heap.size W1 w') (h : SAt base F g s w) (hf : s.img.length + ([0] ++ nameBytes x ++ ex).length + 1 ≤ 1048576) : Calls Try.prog 36 #[.pointer (some ⟨g, 0, none⟩), .int .u8 kind, .string x, .func (.func fid) #[] fr] w fun e w' => StPost base F g w (⟨s.img ++ ([0] ++ nameBytes x ++ ex).set 0 kind, s.L⟩, [⟨(s.img.length : Int), ([0] ++ nameBytes x ++ ex) ++ [0]⟩, ⟨(s.img.length : Int), [kind]⟩], 0) e w' := by
  have hsz := (hK.siz x hx).2
  have hN : wire_IsName.f K x = some true := by rw [hK.rd.name x, hx]
  have himg := hg.img
  have H := Aside0.mk h
  have HPUT := Aside0.mk hput
  have HNM := Aside0.mk hN
  have hnl : (nameBytes x).length = x.size + 1 := by unfold nameBytes bytesOf; simp [Lib.toList_data]
  obtain ⟨R, hR⟩ : ∃ R, R = [0] ++ nameBytes x ++ ex := ⟨_, rfl⟩
  have hRl : R.length = x.size + 2 + ex.length := by rw [hR]; simp [hnl]; omega
  have HRE := Aside0.mk hR
  have HRL := Aside0.mk hRl
  have HH := Aside0.mk h
  rw [← hR] at hf
  rw [← hR]
  clear hR hRl hnl
  have hsh := h.now
  clear h hput hK hg hN hx
  go_enter Try.func36, Try.ntmps36
  go_wp2_with fail
  refine (New_calls w).mono ?_
  rintro e w1 ⟨gw, rfl, hwt, hb⟩
  have HWT := Aside0.mk hwt
  have HB := Aside0.mk hb
  clear hwt hb
  go_wp2_with fail
  refine (wByte_good HWT.out 0 (by decide) (by decide)).mono ?_
  rintro e w2 ⟨q, _⟩
  obtain ⟨rfl, hwt, hb, _⟩ := q (by simp)
  replace HWT := Aside0.mk (show WtAt w.heap.size gw (fun _ => True) [0] w2 from hwt.mono (fun _ _ => trivial))
  replace HB := Aside0.mk (HB.out.trans hb)
  clear hwt hb q
  go_wp2_with fail
  refine (wName_good HWT.out K x HNM.out hsz).mono ?_
  rintro e w3 ⟨q, _⟩
  obtain ⟨rfl, hwt, hb, _⟩ := q (by simp; omega)
  replace HWT := Aside0.mk (show WtAt w.heap.size gw (fun _ => True) ([0] ++ nameBytes x) w3 from hwt.mono (fun _ _ => trivial))
  replace HB := Aside0.mk (HB.out.trans hb)
  clear hwt hb q
  go_wp2_with fail
  refine (HPUT.out gw w3 HB.out HWT.out).mono ?_
  rintro e w4 ⟨rfl, hwt, hb⟩
  rw [← HRE.out] at hwt
  replace HWT := Aside0.mk hwt
  replace HB := Aside0.mk (HB.out.trans hb)
  clear hwt hb
  go_wp2_with fail
  refine (Bytes_wt HWT.out).mono ?_
  have HW4 := Aside0.mk HB.out.size
  rintro e w5 ⟨vb, rfl, hrb, hb⟩
  replace HB := Aside0.mk (below_step HB.out hb)
  obtain ⟨gb, cb, evb, hgb0, hgb, cells, hgc⟩ := Kd.R_form hrb (by have := HRL.out; omega)
  subst evb
  replace H := Aside0.mk (H.out.step HB.out)
  have HS5 := Aside0.mk H.out
  obtain ⟨Ai, ci, B, m, h1, h2, h3, h4, h5, h6⟩ := H.out.cells
  have hfg := H.out.fs
  have hlt := H.out.lt
  have hc0 := blk_cell h1 0
  have hf0 := blk_frozen h1 0
  have hw1 : wrap64 ((1048576 : Int) - (s.img.length : Int)) = (1048576 : Int) - (s.img.length : Int) := by unfold wrap64; omega
  have c1 : decide ((R.length : Int) ≥ (1048576 : Int) - (s.img.length : Int)) = false := decide_eq_false (by omega)
  have HI1 := Aside0.mk h1
  have HI2 := Aside0.mk h2
  have HRB := Aside0.mk hrb
  have HGC := Aside0.mk hgc
  have hpos : 0 < R.length := by have := HRL.out; omega
  have hcp := cells_pos hrb (by have := HRL.out; omega) hgc
  have HGB := Aside0.mk hgb
  have HGB0 := Aside0.mk hgb0
  have HREST := Aside0.mk (And.intro h3 (And.intro h4 (And.intro h5 (And.intro h6 (And.intro hfg hlt)))))
  clear h1 h2 h3 h4 h5 h6 hfg hlt hrb hgc hb hsh hgb0 hgb
  go_wp2_with fail
  refine (cloned_calls _ cb R _ (Kd.R_reads' HRB.out).2.2 (by omega)).mono ?_
  rintro e w6 ⟨vc, rfl, hR6, hb6⟩
  have HB6 := Aside0.mk hb6
  obtain ⟨Ac, cc, e6⟩ := Kd.R_slice hR6
  subst e6
  have HR6 := Aside0.mk hR6
  clear hR6 hb6
  go_wp2_with (first | (at_builtin; refine R_append1 (Kd.int .u8) (w0 := w6) w5.heap.size rfl (.tmp 37) (.tmp 38) 23 5 (.int .u8 0) 1 rfl Try.underlying23 info5 rfl (by decide) (by decide) (.slice Ac R.length cc) (R) ((0 : Int)) [.int .u8 0] (fun _ => True) (fun _ => False) rfl rfl rfl (fun _ hk => hk.elim) (fun _ _ => trivial) HR6.out (Below.refl _ _) HB6.out.size (by unfold maxLen; omega) (byte_fits (by omega)) ?_; intro v7 w7 ho hb7 hg7 hat7; obtain ⟨A7, c7, e7⟩ := Kd.R_slice ho; rw [List.length_append, List.length_singleton] at e7; subst e7; have HR7 := Aside0.mk ho; have HB7 := Aside0.mk hb7; clear ho hb7 hg7 hat7) | ((with_reducible refine gate_store (t := 5) (p := 48) rfl ?_); refine halt_at ?_))
  refine halt_go ?_
  have hs67 := (HB6.out.trans HB7.out).size
  have h8 := (HB7.out.alloc hs67 (.cells #[.int .u8 kind] 5)).alloc (by simp; omega) (.cells #[.int .i64 (s.img.length : Int), .slice A7 (R.length + 1) c7, .int .i64 (s.img.length : Int), .slice (some ⟨w7.heap.size, 0, none⟩) 1 1] 52)
  have hwr := WrAt.made HR7.out (HB6.out.trans HB7.out).size kind (s.img.length : Int)
  have hsz8 : ((w7.alloc (.cells #[.int .u8 kind] 5)).alloc (.cells #[.int .i64 (s.img.length : Int), .slice A7 (R.length + 1) c7, .int .i64 (s.img.length : Int), .slice (some ⟨w7.heap.size, 0, none⟩) 1 1] 52)).heap.size = w7.heap.size + 2 := (by simp)
  generalize ((w7.alloc (.cells #[.int .u8 kind] 5)).alloc (.cells #[.int .i64 (s.img.length : Int), .slice A7 (R.length + 1) c7, .int .i64 (s.img.length : Int), .slice (some ⟨w7.heap.size, 0, none⟩) 1 1] 52)) = w8 at h8 hwr hsz8 ⊢
  have h58 : Below w5.heap.size w5 w8 := HB6.out.trans h8
  have hgX := blk_below HGC.out h58
  refine st_store1 (g := gb) (i := 0) (u := .int .u8 kind) rfl 5 rfl rfl rfl rfl hgX hcp (by kernel_rfl) ?_
  have hR9 : Kd.R (Kd.int .u8) 5 (w8.setCell ⟨gb, 0, none⟩ (.int .u8 kind)) w4.heap.size (fun _ => True) (.slice (some ⟨gb, 0, none⟩) R.length cb) (R.set 0 kind) := Kd.R_putn (Kd.R_below HRB.out h58) 0 kind
  have hk9 : Kept w5 (w8.setCell ⟨gb, 0, none⟩ (.int .u8 kind)) (fun k => k = gb) := Kept.setCell (Kept.of_below h58 (fun k => k = gb)) (.inl rfl) _
  have hs9 := setCell_size w8 ⟨gb, 0, none⟩ (.int .u8 kind)
  have hwr9 := WrAt.kept hwr (set_kept w8 gb 0 (.int .u8 kind)) (fun b q1 _ q2 => by have := HGB.out; omega)
  have hB9 : Below w.heap.size w (w8.setCell ⟨gb, 0, none⟩ (.int .u8 kind)) := (HB.out.trans (h58.mono HB.out.size)).setCell (by show w.heap.size ≤ gb; have := HGB0.out; have := HW4.out; omega) _
  generalize (w8.setCell ⟨gb, 0, none⟩ (.int .u8 kind)) = w9 at hR9 hk9 hs9 hwr9 hB9 ⊢
  have hlt9 : ∀ b, F b → ¬ (b = gb) := fun b q e => (by have := (HH.out.lt b q).2; have := HGB0.out; have := HW4.out; omega)
  have HS9 := Aside0.mk (HS5.out.kept hk9 hlt9)
  obtain ⟨Ai9, ci9, B9, m9, g1, g2, g3, g4, g5, g6⟩ := HS9.out.cells
  have hc9 := blk_cell g1 0
  have HR9 := Aside0.mk hR9
  have HWR9 := Aside0.mk hwr9
  have HB9 := Aside0.mk hB9
  have HK9 := Aside0.mk hk9
  have HG1 := Aside0.mk g1
  have HG2 := Aside0.mk (Kd.R_mono g2 (fun k hk => (.inl hk : F k ∨ (w9.heap.size ≤ k))))
  have HGR := Aside0.mk (And.intro g2 (And.intro g3 (And.intro g4 (And.intro g5 g6))))
  have hrl9 : (R.set 0 kind).length = R.length := List.length_set
  have hbw : base ≤ w9.heap.size := by
    have h3 := HS9.out.lt g HS9.out.fs
    omega
  clear g1 g2 g3 g4 g5 g6 hR9 hwr9 hB9 hk9 h8 hwr h58 hgX hlt9 hc0 hf0
  go_wp2_with ((with_reducible refine gate_builtin (b := .append) (xs := #[.tmp 53, .tmp 54]) rfl ?_); at_builtin; refine halt_at ?_)
  unfold Halt_
  refine Kd.R_append_rows (Kd.int .u8) (w0 := w9) base rfl (.tmp 53) (.tmp 54) 23 5 (.int .u8 0) 1 rfl Try.underlying23 info5 rfl (by decide) (by omega) (.slice Ai9 s.img.length ci9) s.img (R.set 0 kind) (some ⟨gb, 0, none⟩) R.length cb (fun k => F k ∨ w9.heap.size ≤ k) (fun _ => False) rfl rfl HG2.out (by rw [← hrl9]; exact (Kd.R_reads' HR9.out).2.2) (fun _ _ h => h) (fun _ h => h.elim) (fun k hk => .inr hk) (Below.refl _ _) (by omega) (by omega) ?_
  intro v10 w10 ho hb hg hat
  obtain ⟨A10, c10, e10⟩ := Kd.R_slice ho
  rw [List.length_append, hrl9] at e10
  subst e10
  have hG10 := blk_grown HG1.out hg (Kd.R_ne HG2.out HG1.out (by decide))
  have hcI := blk_cell hG10 0
  have hfI := blk_frozen hG10 0
  have HO := Aside0.mk ho
  have HB10 := Aside0.mk hb
  have HGW := Aside0.mk hg
  have HAT := Aside0.mk hat
  clear ho hb hg hat hG10 hc9
  go_wp2
  have hFl := fun b (q : F b) => HH.out.lt b q
  have hw5 : w.heap.size ≤ w5.heap.size := HB.out.size
  have hown : ∀ k, (Value.slice Ai9 s.img.length ci9).ownBlock = some k → F k := HGR.out.1.1
  have hs10 := setCell_size w10 ⟨g, 0, none⟩ (.slice A10 (s.img.length + R.length) c10)
  have hg10 : w9.heap.size ≤ w10.heap.size := HB10.out.size
  have hk10 : Kept w9 (w10.setCell ⟨g, 0, none⟩ (.slice A10 (s.img.length + R.length) c10)) F := ⟨by rw [hs10]; exact hg10, fun k hk hn => (Below.heap_setCell _ _ _ k (fun e => hn (by rw [e]; exact HH.out.fs))).trans (HGW.out.block k hk (fun e => hn (hown k e.symm)))⟩
  have hsz9 : w9.heap.size = w7.heap.size + 2 := by rw [hs9]; exact hsz8
  go_ret2
  refine ⟨_, w5.heap.size, w7.heap.size + 2, rfl, hw5, by omega, by rw [hs10]; omega, .inr ⟨_, _, _, rfl, HWR9.out.kept hk10 (fun b q1 _ q => by have := (hFl b q).2; omega)⟩, ?_, ?_, fun B w0 hB hw => ?_⟩
  · refine SAt.image HG1.out HGR.out.1 HGR.out.2.1 HGR.out.2.2.1 HGR.out.2.2.2.1 HGR.out.2.2.2.2 HH.out.fs (fun b q => ⟨(hFl b q).1, Nat.lt_of_lt_of_le (hFl b q).2 (by omega)⟩) HGW.out HAT.out (Kd.R_mono (Kd.R_bound HO.out) (fun b q => ?_)) (fun b q => .inl q) (fun b q => ?_) rfl
    · rw [hs10]
      rcases q.1 with q1 | q1
      · exact .inl q1
      · exact .inr ⟨by omega, q.2.2.1⟩
    · rw [hs10] at q
      rcases q with q1 | q1
      · exact ⟨(hFl b q1).1, by have := (hFl b q1).2; omega⟩
      · exact ⟨by omega, q1.2⟩
  · exact ⟨by rw [hs10]; omega, fun k hk hn => (hk10.2 k (by omega) hn).trans (HB9.out.block k hk)⟩
  · have h1 := (hFl g HH.out.fs)
    exact ((hw.trans (HB9.out.mono (by omega))).trans (HB10.out.mono hB)).setCell (show B ≤ g by omega) _
end
end Go.Proofs.Ytfakdphkklclgaa.P

end

section
namespace Go.Proofs.Ytfakdphkklclgaa.P
open Go.RowKit Go.Proofs.YtfakdphkklclgaaW.PrintWords Go.Proofs.YtfakdphkklclgaaW.PrintLast Go.Proofs.YtfakdphkklclgaaW.PrintMore
attribute [local go_sem] max2_int min2_int max_two min_two max_three min_three max_four min_four
set_option linter.unusedVariables false
set_option linter.unusedSimpArgs false
section
theorem lessB_irr (a : ByteArray) : lessB a a = false := by
  rw [Bool.eq_false_iff]
  intro h
  exact List.lt_irrefl _ ((lessB_iff a a).1 h)
theorem lessB_trans {a b c : ByteArray} (h1 : lessB a b = true) (h2 : lessB b c = true) : lessB a c = true := (lessB_iff a c).2 (List.lt_trans ((lessB_iff a b).1 h1) ((lessB_iff b c).1 h2))
theorem lessB_tot {a b : ByteArray} (h1 : lessB a b = false) (h2 : a ≠ b) : lessB b a = true := by
  rw [lessB_iff]
  rcases Decidable.em (b.data.toList < a.data.toList) with h | h
  · exact h
  · exfalso
    have h3 : ¬ a.data.toList < b.data.toList := fun q => by rw [(lessB_iff a b).2 q] at h1; cases h1
    exact h2 (data_inj (List.le_antisymm (List.not_lt.1 h) (List.not_lt.1 h3)))
theorem lk_put (x : ByteArray) (b : List Int) (L : List S101) (y : ByteArray) : lkL (putL x b L) y = if y = x then some b else lkL L y := by
  induction L with
  | nil =>
    unfold putL lkL
    by_cases e : y = x
    · rw [if_pos e, if_pos e.symm]
    · rw [if_neg e, if_neg (fun q => e q.symm)]; rfl
  | cons k l ih =>
    unfold putL
    by_cases c1 : lessB k.f0 x = true
    · rw [if_pos c1]
      have hne : k.f0 ≠ x := fun e => by rw [e, lessB_irr] at c1; cases c1
      conv => lhs; unfold lkL
      conv => rhs; unfold lkL
      by_cases e : k.f0 = y
      · rw [if_pos e, if_pos e, if_neg (fun q => hne (e.trans q))]
      · rw [if_neg e, if_neg e, ih]
    · rw [if_neg c1]
      by_cases c2 : k.f0 = x
      · rw [if_pos c2]
        conv => lhs; unfold lkL
        conv => rhs; unfold lkL
        by_cases e : y = x
        · rw [if_pos e, if_pos e.symm]
        · rw [if_neg e, if_neg (fun q => e q.symm), if_neg (fun q => e (q.symm.trans c2))]
      · rw [if_neg c2]
        conv => lhs; unfold lkL
        by_cases e : y = x
        · rw [if_pos e, if_pos e.symm]
        · rw [if_neg e, if_neg (fun q => e q.symm)]
theorem lk_none_of {L : List S101} {x : ByteArray} (h : ∀ k ∈ L, lessB x k.f0 = true) : lkL L x = none := by
  induction L with
  | nil => rfl
  | cons k l ih =>
    unfold lkL
    rw [if_neg, ih (fun k' hk => h k' (List.mem_cons_of_mem _ hk))]
    intro e
    have := h k List.mem_cons_self
    rw [e, lessB_irr] at this
    cases this
theorem srt_head {k : S101} {l : List S101} {x : ByteArray} (h : Srt (k :: l)) (c1 : ¬ lessB k.f0 x = true) (c2 : k.f0 ≠ x) : lkL (k :: l) x = none := by
  have h1 : lessB x k.f0 = true := lessB_tot (by simpa using c1) c2
  refine lk_none_of fun k' hk => ?_
  rcases List.mem_cons.1 hk with rfl | hk
  · exact h1
  · exact lessB_trans h1 ((List.pairwise_cons.1 h).1 k' hk)
theorem put_len (x : ByteArray) (b : List Int) {L : List S101} (h : Srt L) : (putL x b L).length = if (lkL L x).isSome = true then L.length else L.length + 1 := by
  induction L with
  | nil => rfl
  | cons k l ih =>
    unfold putL
    by_cases c1 : lessB k.f0 x = true
    · have hne : k.f0 ≠ x := fun e => by rw [e, lessB_irr] at c1; cases c1
      rw [if_pos c1, List.length_cons, ih (List.pairwise_cons.1 h).2]
      conv => rhs; unfold lkL
      rw [if_neg hne]
      split <;> simp
    · rw [if_neg c1]
      by_cases c2 : k.f0 = x
      · rw [if_pos c2]
        conv => rhs; unfold lkL
        rw [if_pos c2]
        simp
      · rw [if_neg c2, srt_head h c1 c2]
        simp
theorem lk_cut (x : ByteArray) {L : List S101} (h : Srt L) (y : ByteArray) : lkL (cutL x L) y = if y = x then none else lkL L y := by
  induction L with
  | nil => unfold cutL lkL; simp
  | cons k l ih =>
    have hl := (List.pairwise_cons.1 h).2
    unfold cutL
    by_cases c1 : lessB k.f0 x = true
    · rw [if_pos c1]
      have hne : k.f0 ≠ x := fun e => by rw [e, lessB_irr] at c1; cases c1
      conv => lhs; unfold lkL
      conv => rhs; unfold lkL
      by_cases e : k.f0 = y
      · rw [if_pos e, if_pos e, if_neg (fun q => hne (e.trans q))]
      · rw [if_neg e, if_neg e, ih hl]
    · rw [if_neg c1]
      by_cases c2 : k.f0 = x
      · rw [if_pos c2]
        conv => rhs; unfold lkL
        by_cases e : y = x
        · rw [if_pos e, e]
          exact lk_none_of fun k' hk => by rw [← c2]; exact (List.pairwise_cons.1 h).1 k' hk
        · rw [if_neg e, if_neg (fun q => e (q.symm.trans c2))]
      · rw [if_neg c2]
        by_cases e : y = x
        · rw [if_pos e, e]
          exact srt_head h c1 c2
        · rw [if_neg e]
theorem cut_len (x : ByteArray) {L : List S101} (h : Srt L) : (cutL x L).length = if (lkL L x).isSome = true then L.length - 1 else L.length := by
  induction L with
  | nil => rfl
  | cons k l ih =>
    unfold cutL
    by_cases c1 : lessB k.f0 x = true
    · have hne : k.f0 ≠ x := fun e => by rw [e, lessB_irr] at c1; cases c1
      rw [if_pos c1, List.length_cons, ih (List.pairwise_cons.1 h).2]
      conv => rhs; unfold lkL
      rw [if_neg hne]
      split
      · rename_i h1
        have : l ≠ [] := fun e => by rw [e] at h1; cases h1
        have := List.length_pos_iff.2 this
        simp; omega
      · simp
    · rw [if_neg c1]
      by_cases c2 : k.f0 = x
      · rw [if_pos c2]
        conv => rhs; unfold lkL
        rw [if_pos c2]
        simp
      · rw [if_neg c2, srt_head h c1 c2]
        simp
theorem put_srt (x : ByteArray) (b : List Int) {L : List S101} (h : Srt L) : Srt (putL x b L) := by
  induction L with
  | nil => exact List.pairwise_singleton _ _
  | cons k l ih =>
    obtain ⟨h1, h2⟩ := List.pairwise_cons.1 h
    unfold putL
    by_cases c1 : lessB k.f0 x = true
    · rw [if_pos c1]
      refine List.pairwise_cons.2 ⟨fun k' hk => ?_, ih h2⟩
      have hm : ∀ L : List S101, k' ∈ putL x b L → k' = ⟨x, b⟩ ∨ k' ∈ L := by
        intro L
        induction L with
        | nil => intro q; exact .inl (List.mem_singleton.1 q)
        | cons a t ih =>
          intro q
          unfold putL at q
          split at q
          · rcases List.mem_cons.1 q with rfl | q
            · exact .inr List.mem_cons_self
            · exact (ih q).imp id (List.mem_cons_of_mem _)
          · split at q
            · exact (List.mem_cons.1 q).imp id (List.mem_cons_of_mem _)
            · exact List.mem_cons.1 q
      rcases hm l hk with rfl | q
      · exact c1
      · exact h1 k' q
    · rw [if_neg c1]
      by_cases c2 : k.f0 = x
      · rw [if_pos c2]
        exact List.pairwise_cons.2 ⟨fun k' hk => by rw [← c2]; exact h1 k' hk, h2⟩
      · rw [if_neg c2]
        have h3 : lessB x k.f0 = true := lessB_tot (by simpa using c1) c2
        exact List.pairwise_cons.2 ⟨fun k' hk => by
          rcases List.mem_cons.1 hk with rfl | hk
          · exact h3
          · exact lessB_trans h3 (h1 k' hk), h⟩
theorem put_mem {x : ByteArray} {b : List Int} {L : List S101} {k : S101} (h : k ∈ putL x b L) : k = ⟨x, b⟩ ∨ k ∈ L := by
  induction L with
  | nil => exact .inl (List.mem_singleton.1 h)
  | cons a t ih =>
    unfold putL at h
    split at h
    · rcases List.mem_cons.1 h with rfl | q
      · exact .inr List.mem_cons_self
      · exact (ih q).imp id (List.mem_cons_of_mem _)
    · split at h
      · exact (List.mem_cons.1 h).imp id (List.mem_cons_of_mem _)
      · exact List.mem_cons.1 h
theorem cut_sub (x : ByteArray) (L : List S101) : (cutL x L).Sublist L := by
  induction L with
  | nil => exact List.Sublist.refl _
  | cons a t ih =>
    unfold cutL
    split
    · exact ih.cons_cons _
    · split
      · exact List.sublist_cons_self _ _
      · exact List.Sublist.refl _
end
end Go.Proofs.Ytfakdphkklclgaa.P

end

section
namespace Go.Proofs.Ytfakdphkklclgaa.P
open Go.RowKit Go.Proofs.YtfakdphkklclgaaW.PrintWords Go.Proofs.YtfakdphkklclgaaW.PrintLast Go.Proofs.YtfakdphkklclgaaW.PrintMore
attribute [local go_sem] max2_int min2_int max_two min_two max_three min_three max_four min_four
set_option linter.unusedVariables false
set_option linter.unusedSimpArgs false
section
open Go.ChangeMaps Go.MapKept
set_option linter.unusedVariables false
theorem SAt.put {base g : Nat} {F : Nat → Prop} {s : Sto} {W W1 : World} {v : Value} {B : Nat} {m : ByteArray → Option Hd} (x : ByteArray) (b : List Int) (d : Hd) (hs : Srt s.L)
    (h1 : W.heap[g]? = some (.cells #[v, .map (some B), .bool true] 62 (0, 0))) (h2 : Kd.R (Kd.int .u8) 5 W base F v s.img) (h3 : HMap W B s.L.length m s.L.length) (h4 : F B) (h5 : ∀ x, (m x).isSome = (lkL s.L x).isSome)
    (h6 : ∀ x d, m x = some d → ∀ xs, lkL s.L x = some xs → d.n = xs.length ∧ xs.length ≤ d.c ∧ Kd.F (Kd.int .u8) W (fun b => F b ∧ v.ownBlock ≠ some b ∧ b ≠ B ∧ b ≠ g) d.A xs.length xs) (hf : F g) (hl : ∀ b, F b → base ≤ b ∧ b < W.heap.size)
    (hd1 : d.n = b.length) (hd2 : b.length ≤ d.c) (hd3 : Kd.F (Kd.int .u8) W (fun b => F b ∧ v.ownBlock ≠ some b ∧ b ≠ B ∧ b ≠ g) d.A b.length b)
    (hm : HMap W1 B (s.L.length + 1) (updH m x d) (if (m x).isSome then s.L.length else s.L.length + 1)) (hg : W.grownBy W1 (some B)) : SAt base F g ⟨s.img, putL x b s.L⟩ W1 := by
  have hk : Kept W W1 (fun k => k = B) := ⟨hg.size, fun k hk hn => hg.block k hk (fun e => hn (by injection e))⟩
  have n3 : v.ownBlock ≠ some B := fun q => by
    obtain ⟨cs, h7⟩ := Kd.R_typed h2 B q
    exact h3.ne h7 rfl
  have hm2 : HMap W1 B (putL x b s.L).length (updH m x d) (putL x b s.L).length := by
    rw [put_len x b hs, ← h5 x]
    exact hm_tight hm
  refine ⟨⟨v, B, updH m x d, blk_kept h1 hk (fun e => h3.ne h1 e.symm), Kd.R_mono (Kd.R_kept (Kd.R_tight2 rfl h2) hk (fun k q e => n3 (by rw [← e]; exact q.1.symm))) (fun k q => q.2), hm2, h4, fun y => ?_, fun y d' hy xs hx => ?_⟩, hf, fun b q => ⟨(hl b q).1, Nat.lt_of_lt_of_le (hl b q).2 hg.size⟩⟩
  · show (updH m x d y).isSome = (lkL (putL x b s.L) y).isSome
    rw [lk_put]
    unfold updH
    split
    · rfl
    · exact h5 y
  · rw [lk_put] at hx
    unfold updH at hy
    by_cases e : y = x
    · rw [if_pos e] at hy hx
      cases hy
      cases hx
      exact ⟨hd1, hd2, Kd.F_kept hd3 hk (fun k q => q.2.2.1)⟩
    · rw [if_neg e] at hy hx
      obtain ⟨q1, q2, q3⟩ := h6 y d' hy xs hx
      exact ⟨q1, q2, Kd.F_kept q3 hk (fun k q => q.2.2.1)⟩
theorem SAt.cut {base g : Nat} {F : Nat → Prop} {s : Sto} {W W1 : World} {v : Value} {B : Nat} {m : ByteArray → Option Hd} (x : ByteArray) (hs : Srt s.L)
    (h1 : W.heap[g]? = some (.cells #[v, .map (some B), .bool true] 62 (0, 0))) (h2 : Kd.R (Kd.int .u8) 5 W base F v s.img) (h3 : HMap W B s.L.length m s.L.length) (h4 : F B) (h5 : ∀ x, (m x).isSome = (lkL s.L x).isSome)
    (h6 : ∀ x d, m x = some d → ∀ xs, lkL s.L x = some xs → d.n = xs.length ∧ xs.length ≤ d.c ∧ Kd.F (Kd.int .u8) W (fun b => F b ∧ v.ownBlock ≠ some b ∧ b ≠ B ∧ b ≠ g) d.A xs.length xs) (hf : F g) (hl : ∀ b, F b → base ≤ b ∧ b < W.heap.size)
    (hm : HMap W1 B s.L.length (delH m x) (if (m x).isSome then s.L.length - 1 else s.L.length)) (hg : W.grownBy W1 (some B)) : SAt base F g ⟨s.img, cutL x s.L⟩ W1 := by
  have hk : Kept W W1 (fun k => k = B) := ⟨hg.size, fun k hk hn => hg.block k hk (fun e => hn (by injection e))⟩
  have n3 : v.ownBlock ≠ some B := fun q => by
    obtain ⟨cs, h7⟩ := Kd.R_typed h2 B q
    exact h3.ne h7 rfl
  have hm2 : HMap W1 B (cutL x s.L).length (delH m x) (cutL x s.L).length := by
    rw [cut_len x hs, ← h5 x]
    exact hm_tight hm
  refine ⟨⟨v, B, delH m x, blk_kept h1 hk (fun e => h3.ne h1 e.symm), Kd.R_mono (Kd.R_kept (Kd.R_tight2 rfl h2) hk (fun k q e => n3 (by rw [← e]; exact q.1.symm))) (fun k q => q.2), hm2, h4, fun y => ?_, fun y d' hy xs hx => ?_⟩, hf, fun b q => ⟨(hl b q).1, Nat.lt_of_lt_of_le (hl b q).2 hg.size⟩⟩
  · show (delH m x y).isSome = (lkL (cutL x s.L) y).isSome
    rw [lk_cut x hs]
    unfold delH
    split
    · rfl
    · exact h5 y
  · rw [lk_cut x hs] at hx
    unfold delH at hy
    by_cases e : y = x
    · rw [if_pos e] at hy
      cases hy
    · rw [if_neg e] at hy hx
      obtain ⟨q1, q2, q3⟩ := h6 y d' hy xs hx
      exact ⟨q1, q2, Kd.F_kept q3 hk (fun k q => q.2.2.1)⟩
set_option maxHeartbeats 3200000 in
set_option maxRecDepth 100000 in
theorem Put1_calls {base g2 bx : Nat} {bs b : List Int} {w : World} (h : WtAt base g2 (fun _ => True) bs w) (A : Option Addr) (c : Nat) (hx : w.heap[bx]? = some (.cells #[.slice A b.length c] 23 (0, 0))) (hr : Kd.C (Kd.int .u8) w A b.length b) (hb : b.length ≤ 4096) (hbx : bx < base) (hba : ∀ W', Below base w W' → Kd.C (Kd.int .u8) W' A b.length b) (hl : bs.length ≤ 4096) : Calls Try.prog 37 #[.pointer (some ⟨g2, 0, none⟩), .pointer (some ⟨bx, 0, none⟩)] w fun e w' => e = .returned (.tuple #[]) ∧ WtAt base g2 (fun _ => True) (bs ++ ([byt (b.length : Int) 256, byt (b.length : Int) 1] ++ b)) w' ∧ Below base w w' := by
  have H := Aside0.mk h
  have HX := Aside0.mk hx
  have HBA := Aside0.mk hba
  have hcx := blk_cell hx 0
  clear h hx hba hr
  go_enter Try.func37, Try.ntmps37
  go_wp2_with fail
  refine (wWord_good H.out (b.length : Int) (by omega) (by omega)).mono ?_
  rintro e w1 ⟨q, _⟩
  obtain ⟨rfl, hwt, hb1, _⟩ := q (by omega)
  have HWT := Aside0.mk (show WtAt base g2 (fun _ => True) (bs ++ [byt (b.length : Int) 256, byt (b.length : Int) 1]) w1 from hwt.mono (fun _ _ => trivial))
  have HB := Aside0.mk hb1
  clear hwt hb1 q hcx
  have hcx := blk_cell ((HB.out.block bx hbx).trans HX.out) 0
  go_wp2_with fail
  refine (Put_good HWT.out A c (HBA.out _ HB.out) (by rw [List.length_append]; simp; omega)).mono ?_
  rintro e w2 ⟨rfl, hwt, hb1, _⟩
  have HWT2 := Aside0.mk (show WtAt base g2 (fun _ => True) (bs ++ [byt (b.length : Int) 256, byt (b.length : Int) 1] ++ b) w2 from hwt.mono (fun _ _ => trivial))
  have HB2 := Aside0.mk (HB.out.trans hb1)
  clear hwt hb1 hcx
  go_wp2_with fail
  go_end0
  exact ⟨rfl, by simpa using HWT2.out, HB2.out⟩
set_option maxHeartbeats 3200000 in
set_option maxRecDepth 100000 in
theorem Drop1_calls {base g2 : Nat} {bs : List Int} {w : World} (h : WtAt base g2 (fun _ => True) bs w) : Calls Try.prog 52 #[.pointer (some ⟨g2, 0, none⟩)] w fun e w' => e = .returned (.tuple #[]) ∧ WtAt base g2 (fun _ => True) bs w' ∧ Below base w w' := by
  have H := Aside0.mk h
  clear h
  go_enter Try.func52, Try.ntmps52
  go_wp2_with fail
  go_end0
  exact ⟨rfl, H.out, Below.refl _ _⟩
end
end Go.Proofs.Ytfakdphkklclgaa.P

end

section
namespace Go.Proofs.Ytfakdphkklclgaa.P
open Go.RowKit Go.Proofs.YtfakdphkklclgaaW.PrintWords Go.Proofs.YtfakdphkklclgaaW.PrintLast Go.Proofs.YtfakdphkklclgaaW.PrintMore
attribute [local go_sem] max2_int min2_int max_two min_two max_three min_three max_four min_four
set_option linter.unusedVariables false
set_option linter.unusedSimpArgs false
section
open Go.ChangeMaps Go.MapKept
set_option linter.unusedVariables false
theorem callFunc_st {f : Nat} {fn : Func} (hf : Try.prog.funcs[f]? = some fn) (hname : (fn.name == "runtime.NumGoroutine") = false) (hb : fn.body.isSome = true) (vs : Array Value) (w : World) : Sem.run Try.prog (callFunc f vs) w = .ok (.enter f vs) w := enters_ hf hname hb vs w
theorem StPost.since {base : Nat} {F : Nat → Prop} {g : Nat} {w w1 w' : World} {out : Sto × List S52 × Int} {e : Ending} (h : StPost base F g w1 out e w') (hb : Below w.heap.size w w1) (hbs : base ≤ w.heap.size) : StPost base F g w out e w' := by
  obtain ⟨v, S1, S2, h1, h2, h3, h4, h5, h6, h7, h8⟩ := h
  exact ⟨v, S1, S2, h1, Nat.le_trans hb.size h2, h3, h4, h5, h6, ⟨Nat.le_trans hb.size h7.1, fun k hk hn => (h7.2 k (Nat.lt_of_lt_of_le hk hb.size) hn).trans (hb.block k hk)⟩, fun B w0 hB hw => h8 B w0 hB (hw.trans (hb.mono (Nat.le_trans hB hbs)))⟩
theorem byt_256 {n : Nat} (h : n ≤ 4096) : byt (n : Int) 256 = (n : Int) / 256 % 256 := by unfold byt; omega
theorem byt_1 {n : Nat} (h : n ≤ 4096) : byt (n : Int) 1 = (n : Int) % 256 := by unfold byt; omega
theorem rec_put (x : ByteArray) (b : List Int) (h : b.length ≤ 4096) : ([0] ++ nameBytes x ++ ([byt (b.length : Int) 256, byt (b.length : Int) 1] ++ b)).set 0 1 = recB 1 x b := by
  rw [byt_256 h, byt_1 h]
  unfold recB nameBytes
  simp
theorem rec_drop (x : ByteArray) : ([0] ++ nameBytes x ++ []).set 0 2 = recB 2 x [] := by
  unfold recB nameBytes
  simp
theorem laidS_of (s : Sto) (l : List S101) (kind : Int) (t : List Int) : laidS s l (([0] ++ t).set 0 kind) = if 1048576 < s.img.length + ([0] ++ t).length + 1 then (s, [], 7) else (⟨s.img ++ ([0] ++ t).set 0 kind, l⟩, [⟨(s.img.length : Int), ([0] ++ t) ++ [0]⟩, ⟨(s.img.length : Int), [kind]⟩], 0) := by
  unfold laidS
  simp only [List.length_set]
  congr 1
theorem hd_ok {W : World} {base n c : Nat} {ok : Nat → Prop} {A : Option Addr} {xs : List Int} (h : Kd.R (Kd.int .u8) 5 W base ok (.slice A n c) xs) : Hd.ok ⟨A, n, c⟩ := by
  obtain ⟨_, inner, ⟨h1, h2⟩, _⟩ := h
  rcases h2 with ⟨e, _⟩ | ⟨g, cap, cur, e, _⟩
  · injection e with e1 e2 e3
    exact .inl ⟨e1, e2, e3⟩
  · injection e with e1 e2 e3
    exact .inr ⟨g, e1⟩
set_option maxHeartbeats 6400000 in
set_option maxRecDepth 100000 in
theorem Put_st {base g : Nat} {F : Nat → Prop} {s : Sto} {w : World} (K : Nat) (nm : ByteArray → Bool) (hK : StFacts K nm) (hg : Good nm s) (x : ByteArray) (hx : x.size ≤ maxLen) (b : List Int) (A : Option Addr) (c : Nat) (P : Nat → Prop) (hr : Kd.F (Kd.int .u8) w P A b.length b) (hP : ∀ k, P k → ¬ F k) (h : SAt base F g s w) : Calls Try.prog 11 #[.pointer (some ⟨g, 0, none⟩), .string x, .slice A b.length c] w fun e w' => StPost base F g w (putS nm s x b) e w' := by
  have HH := Aside0.mk h
  have H := Aside0.mk h
  have HX := Aside0.mk hx
  have HK := Aside0.mk hK
  have HG := Aside0.mk hg
  have HC := Aside0.mk hr
  have HP := Aside0.mk hP
  have HN := Aside0.mk (hK.rd.name x)
  clear h hx hK hg hr hP
  by_cases c1 : nm x = false
  · rw [c1] at HN
    go_enter Try.func11, Try.ntmps11
    go_wp2_with fail
    have hb1 := below_alloc (Below.refl w.heap.size w) (.cells #[.slice A b.length c] 23)
    have hbx := blk_new w (.cells #[.slice A b.length c] 23)
    obtain ⟨bx, hbxe⟩ : ∃ bx, bx = w.heap.size := ⟨_, rfl⟩
    rw [← hbxe] at hbx
    simp only [← hbxe]
    generalize (w.alloc (.cells #[.slice A b.length c] 23)) = w1 at hb1 hbx ⊢
    have HB1 := Aside0.mk hb1
    have HBX := Aside0.mk hbx
    have HBE := Aside0.mk hbxe
    replace H := Aside0.mk (HH.out.step hb1)
    obtain ⟨Ai, ci, B, m, h1, h2, h3, h4, h5, h6⟩ := H.out.cells
    have hc1 := blk_cell h1 1
    have H3 := Aside0.mk h3
    have hlk := lk_hd h5 x
    clear h1 h2 h3 h4 h5 h6 hb1 hbx hbxe
    refine (ready_st H.out).mono ?_
    rintro e w2 ⟨rfl, k1, rfl⟩
    replace hc1 := show (w1.drewN k1).cell? ⟨g, 1, none⟩ = _ from hc1
    replace H3 := Aside0.mk (H3.out.block (W1 := w1.drewN k1) rfl)
    go_wp2_with (first | ((with_reducible refine gate_dst (N := 21) rfl ?_); refine hm_look_ok rfl rfl rfl H3.out rfl HX.out ?_))
    go_wp2_with fail
    refine (wire_IsName.calls K x _ _ HN.out).mono ?_
    rintro e w3 ⟨rfl, k2, rfl⟩
    have hcx := blk_cell (blk_drewN HBX.out (k1 + k2)) 0
    replace hc1 := show (w1.drewN (k1 + k2)).cell? ⟨g, 1, none⟩ = _ from hc1
    replace H3 := Aside0.mk (H3.out.block (W1 := w1.drewN (k1 + k2)) rfl)
    go_wp2_with fail
    unfold putS
    rw [if_pos c1]
    go_ret2
    exact StPost.same HH.out (pw_below_drewN HB1.out _) 6
  · rw [Bool.not_eq_false] at c1
    rw [c1] at HN
    by_cases c2 : 4096 < b.length
    · have c2b : decide ((4096 : Int) < (b.length : Int)) = true := decide_eq_true (by omega)
      go_enter Try.func11, Try.ntmps11
      go_wp2_with fail
      have hb1 := below_alloc (Below.refl w.heap.size w) (.cells #[.slice A b.length c] 23)
      have hbx := blk_new w (.cells #[.slice A b.length c] 23)
      obtain ⟨bx, hbxe⟩ : ∃ bx, bx = w.heap.size := ⟨_, rfl⟩
      rw [← hbxe] at hbx
      simp only [← hbxe]
      generalize (w.alloc (.cells #[.slice A b.length c] 23)) = w1 at hb1 hbx ⊢
      have HB1 := Aside0.mk hb1
      have HBX := Aside0.mk hbx
      have HBE := Aside0.mk hbxe
      replace H := Aside0.mk (HH.out.step hb1)
      obtain ⟨Ai, ci, B, m, h1, h2, h3, h4, h5, h6⟩ := H.out.cells
      have hc1 := blk_cell h1 1
      have H3 := Aside0.mk h3
      have hlk := lk_hd h5 x
      clear h1 h2 h3 h4 h5 h6 hb1 hbx hbxe
      refine (ready_st H.out).mono ?_
      rintro e w2 ⟨rfl, k1, rfl⟩
      replace hc1 := show (w1.drewN k1).cell? ⟨g, 1, none⟩ = _ from hc1
      replace H3 := Aside0.mk (H3.out.block (W1 := w1.drewN k1) rfl)
      go_wp2_with (first | ((with_reducible refine gate_dst (N := 21) rfl ?_); refine hm_look_ok rfl rfl rfl H3.out rfl HX.out ?_))
      go_wp2_with fail
      refine (wire_IsName.calls K x _ _ HN.out).mono ?_
      rintro e w3 ⟨rfl, k2, rfl⟩
      have hcx := blk_cell (blk_drewN HBX.out (k1 + k2)) 0
      replace hc1 := show (w1.drewN (k1 + k2)).cell? ⟨g, 1, none⟩ = _ from hc1
      replace H3 := Aside0.mk (H3.out.block (W1 := w1.drewN (k1 + k2)) rfl)
      go_wp2_with fail
      unfold putS
      rw [if_neg (by rw [c1]; decide), if_pos c2]
      go_ret2
      exact StPost.same HH.out (pw_below_drewN HB1.out _) 4
    · have c2b : decide ((4096 : Int) < (b.length : Int)) = false := decide_eq_false (by omega)
      by_cases c3 : lkL s.L x = none
      · by_cases c4 : 16 ≤ s.L.length
        · have c4b : decide ((16 : Int) ≤ (s.L.length : Int)) = true := decide_eq_true (by omega)
          go_enter Try.func11, Try.ntmps11
          go_wp2_with fail
          have hb1 := below_alloc (Below.refl w.heap.size w) (.cells #[.slice A b.length c] 23)
          have hbx := blk_new w (.cells #[.slice A b.length c] 23)
          obtain ⟨bx, hbxe⟩ : ∃ bx, bx = w.heap.size := ⟨_, rfl⟩
          rw [← hbxe] at hbx
          simp only [← hbxe]
          generalize (w.alloc (.cells #[.slice A b.length c] 23)) = w1 at hb1 hbx ⊢
          have HB1 := Aside0.mk hb1
          have HBX := Aside0.mk hbx
          have HBE := Aside0.mk hbxe
          replace H := Aside0.mk (HH.out.step hb1)
          obtain ⟨Ai, ci, B, m, h1, h2, h3, h4, h5, h6⟩ := H.out.cells
          have hc1 := blk_cell h1 1
          have H3 := Aside0.mk h3
          have hlk := lk_hd h5 x
          clear h1 h2 h3 h4 h5 h6 hb1 hbx hbxe
          refine (ready_st H.out).mono ?_
          rintro e w2 ⟨rfl, k1, rfl⟩
          replace hc1 := show (w1.drewN k1).cell? ⟨g, 1, none⟩ = _ from hc1
          replace H3 := Aside0.mk (H3.out.block (W1 := w1.drewN k1) rfl)
          have g3 : (m x).isSome = false := by
            rcases hlk with ⟨_, q⟩ | ⟨d, xs, _, q⟩
            · rw [q]; rfl
            · rw [c3] at q; cases q
          go_wp2_with (first | ((with_reducible refine gate_dst (N := 21) rfl ?_); refine hm_look_ok rfl rfl rfl H3.out rfl HX.out ?_))
          go_wp2_with fail
          refine (wire_IsName.calls K x _ _ HN.out).mono ?_
          rintro e w3 ⟨rfl, k2, rfl⟩
          have hcx := blk_cell (blk_drewN HBX.out (k1 + k2)) 0
          replace hc1 := show (w1.drewN (k1 + k2)).cell? ⟨g, 1, none⟩ = _ from hc1
          replace H3 := Aside0.mk (H3.out.block (W1 := w1.drewN (k1 + k2)) rfl)
          go_wp2_with (first | ((with_reducible refine gate_dst (N := 40) rfl ?_); refine gate_guard rfl ?_; refine hm_len rfl rfl rfl H3.out ?_))
          unfold putS
          rw [if_neg (by rw [c1]; decide), if_neg c2, if_pos ⟨c3, c4⟩]
          go_ret2
          exact StPost.same HH.out (pw_below_drewN HB1.out _) 7
        · have c4b : decide ((16 : Int) ≤ (s.L.length : Int)) = false := decide_eq_false (by omega)
          have hput : putS nm s x b = laidS s (putL x b s.L) (recB 1 x b) := by
            unfold putS
            rw [if_neg (by rw [c1]; decide), if_neg c2, if_neg (fun q => c4 q.2)]
          rw [hput, ← rec_put x b (by omega), List.append_assoc, laidS_of, ← List.append_assoc]
          clear hput
          by_cases c5 : 1048576 < s.img.length + ([0] ++ nameBytes x ++ ([byt (b.length : Int) 256, byt (b.length : Int) 1] ++ b)).length + 1
          · rw [if_pos c5]
            go_enter Try.func11, Try.ntmps11
            go_wp2_with fail
            have hb1 := below_alloc (Below.refl w.heap.size w) (.cells #[.slice A b.length c] 23)
            have hbx := blk_new w (.cells #[.slice A b.length c] 23)
            obtain ⟨bx, hbxe⟩ : ∃ bx, bx = w.heap.size := ⟨_, rfl⟩
            rw [← hbxe] at hbx
            simp only [← hbxe]
            generalize (w.alloc (.cells #[.slice A b.length c] 23)) = w1 at hb1 hbx ⊢
            have HB1 := Aside0.mk hb1
            have HBX := Aside0.mk hbx
            have HBE := Aside0.mk hbxe
            replace H := Aside0.mk (HH.out.step hb1)
            obtain ⟨Ai, ci, B, m, h1, h2, h3, h4, h5, h6⟩ := H.out.cells
            have hc1 := blk_cell h1 1
            have H3 := Aside0.mk h3
            have hlk := lk_hd h5 x
            clear h1 h2 h3 h4 h5 h6 hb1 hbx hbxe
            refine (ready_st H.out).mono ?_
            rintro e w2 ⟨rfl, k1, rfl⟩
            replace hc1 := show (w1.drewN k1).cell? ⟨g, 1, none⟩ = _ from hc1
            replace H3 := Aside0.mk (H3.out.block (W1 := w1.drewN k1) rfl)
            have g3 : (m x).isSome = false := by
              rcases hlk with ⟨_, q⟩ | ⟨d, xs, _, q⟩
              · rw [q]; rfl
              · rw [c3] at q; cases q
            go_wp2_with (first | ((with_reducible refine gate_dst (N := 21) rfl ?_); refine hm_look_ok rfl rfl rfl H3.out rfl HX.out ?_))
            go_wp2_with fail
            refine (wire_IsName.calls K x _ _ HN.out).mono ?_
            rintro e w3 ⟨rfl, k2, rfl⟩
            have hcx := blk_cell (blk_drewN HBX.out (k1 + k2)) 0
            replace hc1 := show (w1.drewN (k1 + k2)).cell? ⟨g, 1, none⟩ = _ from hc1
            replace H3 := Aside0.mk (H3.out.block (W1 := w1.drewN (k1 + k2)) rfl)
            go_wp2_with (first | ((with_reducible refine gate_dst (N := 40) rfl ?_); refine gate_guard rfl ?_; refine hm_len rfl rfl rfl H3.out ?_))
            have hlx := H.out.lt g H.out.fs
            have hbxl := blk_lt HBX.out
            refine (laid_full (w := w1.drewN (k1 + k2)) K nm HK.out HG.out 1 (.inl rfl) x c1 ([byt (b.length : Int) 256, byt (b.length : Int) 1] ++ b) (by simp; omega) 37 #[.pointer (some ⟨bx, 0, none⟩)] (callFunc_st Try.func37 (by kernel_rfl) (by kernel_rfl)) (fun g2 W1 hb hwt => ?hp) (show SAt base F g s (w1.drewN (k1 + k2)) from H.out.step (pw_below_drewN (Below.refl _ _) _)) (by omega)).mono ?_
            case hp =>
              have hB : Below w1.heap.size w1 W1 := below_step (pw_below_drewN (Below.refl _ _) (k1 + k2)) hb
              exact Put1_calls hwt A c (blk_below HBX.out hB) (Kd.F_now (Kd.F_below (Kd.F_below HC.out HB1.out) hB)) (by omega) hbxl (fun W' hW => Kd.F_now (Kd.F_below (Kd.F_below HC.out HB1.out) (hB.trans hW))) (by have := (HK.out.siz x c1).2; unfold nameBytes bytesOf; simp [Lib.toList_data]; omega)
            rintro e w4 ⟨v, S1, S2, rfl, q⟩
            have HQ := Aside0.mk (StPost.since ⟨v, S1, S2, rfl, q⟩ (pw_below_drewN HB1.out (k1 + k2)) (by have := HH.out.lt g HH.out.fs; omega))
            clear q
            go_wp2_with fail
            go_ret2
            exact HQ.out
          · rw [if_neg c5]
            go_enter Try.func11, Try.ntmps11
            go_wp2_with fail
            have hb1 := below_alloc (Below.refl w.heap.size w) (.cells #[.slice A b.length c] 23)
            have hbx := blk_new w (.cells #[.slice A b.length c] 23)
            obtain ⟨bx, hbxe⟩ : ∃ bx, bx = w.heap.size := ⟨_, rfl⟩
            rw [← hbxe] at hbx
            simp only [← hbxe]
            generalize (w.alloc (.cells #[.slice A b.length c] 23)) = w1 at hb1 hbx ⊢
            have HB1 := Aside0.mk hb1
            have HBX := Aside0.mk hbx
            have HBE := Aside0.mk hbxe
            replace H := Aside0.mk (HH.out.step hb1)
            obtain ⟨Ai, ci, B, m, h1, h2, h3, h4, h5, h6⟩ := H.out.cells
            have hc1 := blk_cell h1 1
            have H3 := Aside0.mk h3
            have hlk := lk_hd h5 x
            clear h1 h2 h3 h4 h5 h6 hb1 hbx hbxe
            refine (ready_st H.out).mono ?_
            rintro e w2 ⟨rfl, k1, rfl⟩
            replace hc1 := show (w1.drewN k1).cell? ⟨g, 1, none⟩ = _ from hc1
            replace H3 := Aside0.mk (H3.out.block (W1 := w1.drewN k1) rfl)
            have g3 : (m x).isSome = false := by
              rcases hlk with ⟨_, q⟩ | ⟨d, xs, _, q⟩
              · rw [q]; rfl
              · rw [c3] at q; cases q
            go_wp2_with (first | ((with_reducible refine gate_dst (N := 21) rfl ?_); refine hm_look_ok rfl rfl rfl H3.out rfl HX.out ?_))
            go_wp2_with fail
            refine (wire_IsName.calls K x _ _ HN.out).mono ?_
            rintro e w3 ⟨rfl, k2, rfl⟩
            have hcx := blk_cell (blk_drewN HBX.out (k1 + k2)) 0
            replace hc1 := show (w1.drewN (k1 + k2)).cell? ⟨g, 1, none⟩ = _ from hc1
            replace H3 := Aside0.mk (H3.out.block (W1 := w1.drewN (k1 + k2)) rfl)
            go_wp2_with (first | ((with_reducible refine gate_dst (N := 40) rfl ?_); refine gate_guard rfl ?_; refine hm_len rfl rfl rfl H3.out ?_))
            have hlx := H.out.lt g H.out.fs
            have hbxl := blk_lt HBX.out
            refine (laid_fits (w := w1.drewN (k1 + k2)) K nm HK.out HG.out 1 (.inl rfl) x c1 ([byt (b.length : Int) 256, byt (b.length : Int) 1] ++ b) (by simp; omega) 37 #[.pointer (some ⟨bx, 0, none⟩)] (callFunc_st Try.func37 (by kernel_rfl) (by kernel_rfl)) (fun g2 W1 hb hwt => ?hp) (show SAt base F g s (w1.drewN (k1 + k2)) from H.out.step (pw_below_drewN (Below.refl _ _) _)) (by omega)).mono ?_
            case hp =>
              have hB : Below w1.heap.size w1 W1 := below_step (pw_below_drewN (Below.refl _ _) (k1 + k2)) hb
              exact Put1_calls hwt A c (blk_below HBX.out hB) (Kd.F_now (Kd.F_below (Kd.F_below HC.out HB1.out) hB)) (by omega) hbxl (fun W' hW => Kd.F_now (Kd.F_below (Kd.F_below HC.out HB1.out) (hB.trans hW))) (by have := (HK.out.siz x c1).2; unfold nameBytes bytesOf; simp [Lib.toList_data]; omega)
            rintro e w4 ⟨v, S1, S2, rfl, q1, q2, q3, q4, q5, q6, q7⟩
            have HQ := Aside0.mk (And.intro q1 (And.intro q2 (And.intro q3 (And.intro q4 (And.intro q6 q7)))))
            have H4 := Aside0.mk q5
            obtain ⟨A4, c4, B4, m4, h1, h2, h3, h4, h5, h6⟩ := q5.cells
            have HX4 := Aside0.mk ((q6.2 bx hbxl (fun q => by have := (HH.out.lt bx q).2; have := HBE.out; omega)).trans (blk_drewN HBX.out (k1 + k2)))
            have hcm := blk_cell h1 1
            have hcx4 := blk_cell HX4.out 0
            have HHM := Aside0.mk (And.intro h1 (And.intro h2 (And.intro h3 (And.intro h4 (And.intro h5 h6)))))
            have HC4 := Aside0.mk (Kd.F_now (Kd.F_kept (Kd.F_drewN (Kd.F_below HC.out HB1.out) (k1 + k2)) q6 HP.out))
            clear q1 q2 q3 q4 q5 q6 q7 h1 h2 h3 h4 h5 h6 hcx hc1
            go_wp2_with fail
            have HSS := Aside0.mk (show ∀ W' : World, Below w4.heap.size w4 W' → W'.cell? ⟨g, 1, none⟩ = some (.map (some B4)) ∧ W'.cell? ⟨bx, 0, none⟩ = some (.slice A b.length c) from fun W' hW => ⟨blk_cell (blk_below HHM.out.1 hW) 1, blk_cell (blk_below HX4.out hW) 0⟩)
            have HB := Aside0.mk (Below.refl w4.heap.size w4)
            (try simp only [Act.put, List.setIfInBounds_toArray, List.set_cons_zero, List.set_cons_succ])
            refine wp_region_held_drew (S := fun w' => w'.cell? ⟨g, 1, none⟩ = some (.map (some B4)) ∧ w'.cell? ⟨bx, 0, none⟩ = some (.slice A b.length c)) (by kernel_rfl) ?_ (fun hHeld => ?_)
            · exact HSS.out _ (pw_below_drewN HB.out 1)
            replace HB := Aside0.mk (show Below w4.heap.size w4 w4.drew from pw_below_drewN HB.out 1)
            generalize w4.drew = wd at HB hHeld ⊢
            refine take_dst (i := 0) (v := ?_) 52 rfl rfl (by kernel_rfl) (by kernel_rfl) (by kernel_rfl) (fun _ _ _ h => h) (Or.inl ⟨by rfl, ?_⟩) (by assumption) ?_
            rotate_left
            · intro w hSw
              obtain ⟨q1, q2⟩ := hSw
              go_simp
              try with_reducible rfl
            (try simp only [Act.put, List.setIfInBounds_toArray, List.set_cons_zero, List.set_cons_succ])
            refine take_dst (i := 1) (v := ?_) 53 rfl rfl (by kernel_rfl) (by kernel_rfl) (by kernel_rfl) (fun _ _ _ h => h) (Or.inl ⟨by rfl, ?_⟩) (by assumption) ?_
            rotate_left
            · intro w hSw
              obtain ⟨q1, q2⟩ := hSw
              go_simp
              try with_reducible rfl
            (try simp only [Act.put, List.setIfInBounds_toArray, List.set_cons_zero, List.set_cons_succ])
            refine take_dst (i := 2) (v := ?_) 54 rfl rfl (by kernel_rfl) (by kernel_rfl) (by kernel_rfl) (fun _ _ _ h => h) (Or.inl ⟨by rfl, ?_⟩) (by assumption) ?_
            rotate_left
            · intro w hSw
              obtain ⟨q1, q2⟩ := hSw
              go_simp
              try with_reducible rfl
            (try simp only [Act.put, List.setIfInBounds_toArray, List.set_cons_zero, List.set_cons_succ])
            refine take_dst (i := 3) (v := ?_) 55 rfl rfl (by kernel_rfl) (by kernel_rfl) (by kernel_rfl) (fun _ _ _ h => h) (Or.inl ⟨by rfl, ?_⟩) (by assumption) ?_
            rotate_left
            · intro w hSw
              obtain ⟨q1, q2⟩ := hSw
              go_simp
              try with_reducible rfl
            (try simp only [Act.put, List.setIfInBounds_toArray, List.set_cons_zero, List.set_cons_succ])
            refine take_dst (i := 4) (v := ?_) 56 rfl rfl (by kernel_rfl) (by kernel_rfl) (by kernel_rfl) (fun _ _ _ h => h) (Or.inl ⟨by rfl, ?_⟩) (by assumption) ?_
            rotate_left
            · intro w hSw
              obtain ⟨q1, q2⟩ := hSw
              go_simp
              try with_reducible rfl
            (try simp only [Act.put, List.setIfInBounds_toArray, List.set_cons_zero, List.set_cons_succ])
            refine take_dst (i := 5) (v := ?_) 57 rfl rfl (by kernel_rfl) (by kernel_rfl) (by kernel_rfl) (fun _ _ _ h => h) (Or.inl ⟨by rfl, ?_⟩) (by assumption) ?_
            rotate_left
            · intro w hSw
              obtain ⟨q1, q2⟩ := hSw
              go_simp
              try with_reducible rfl
            (try simp only [Act.put, List.setIfInBounds_toArray, List.set_cons_zero, List.set_cons_succ])
            refine wpAnyH_ready (rs := [6]) (by kernel_rfl) (by simp) ?_
            refine AllReadyH.cons rfl (fun K hK => ?_) AllReadyH.nil
            go_simp
            refine (cloned_calls A c b _ (Kd.C_below HC4.out HB.out) (by omega)).mono ?_
            have HS6 := Aside0.mk HB.out.size
            rintro e w6 ⟨v3, rfl, hR6, hb6⟩
            obtain ⟨A6, c6, e6⟩ := Kd.R_slice hR6
            subst e6
            replace HB := Aside0.mk (below_step HB.out hb6)
            have HR6 := Aside0.mk hR6
            clear hR6 hb6
            go_simp
            refine hK.out _ _ (HSS.out _ HB.out) (fun hHeld => ?_)
            (try simp only [Act.put, List.setIfInBounds_toArray, List.set_cons_zero, List.set_cons_succ])
            clear hK K
            refine wpAnyH_ready (rs := [7]) (by kernel_rfl) (by simp) ?_
            refine AllReadyH.cons rfl (fun K hK => ?_) AllReadyH.nil
            have hB4 := HHM.out.2.2.1
            refine hm_store_wp (m := .tmp 55) (x := .tmp 56) (v := .tmp 58) (k := x) (c := ⟨A6, b.length, c6⟩) rfl rfl (hB4.block (HB.out.block B4 hB4.lt)) (by show s.L.length < maxLen; unfold maxLen; omega) rfl rfl HX.out (hd_ok HR6.out) ?_
            intro w7 hm7 hg7
            have HM7 := Aside0.mk hm7
            have HG7 := Aside0.mk hg7
            have hne4 : some g ≠ some B4 := fun q => hB4.ne HHM.out.1 (by injection q with q; exact q.symm)
            have hne5 : some bx ≠ some B4 := fun q => hB4.ne HX4.out (by injection q with q; exact q.symm)
            have hgl := blk_lt HHM.out.1
            have hxl4 := blk_lt HX4.out
            refine hK.out _ _ ⟨blk_cell ((hg7.block g (Nat.lt_of_lt_of_le hgl HB.out.size) hne4).trans (blk_below HHM.out.1 HB.out)) 1, blk_cell ((hg7.block bx (Nat.lt_of_lt_of_le hxl4 HB.out.size) hne5).trans (blk_below HX4.out HB.out)) 0⟩ (fun hHeld => ?_)
            (try simp only [Act.put, List.setIfInBounds_toArray, List.set_cons_zero, List.set_cons_succ])
            clear hK K hm7 hg7
            refine wpAnyH_done (by kernel_rfl) ?_ _
            clear hcm hcx4
            go_wp2_with fail
            have hsr := HG.out.srt
            have hlt4 := H4.out.lt
            have hfs4 := H4.out.fs
            have hbase : base ≤ w4.heap.size := by have := hlt4 g hfs4; omega
            have hsz6 := HB.out.size
            have hsz7 := HG7.out.size
            have hS6 := HS6.out
            have hQ := HQ.out
            have hq1 : w1.heap.size ≤ S1 := hQ.1
            have hq5 : w1.heap.size ≤ w4.heap.size := hQ.2.2.2.2.1.1
            have hq2 := hQ.2.1
            have hb1s : w.heap.size ≤ w1.heap.size := HB1.out.size
            have hp := SAt.put (s := ⟨s.img ++ ([0] ++ nameBytes x ++ ([byt (b.length : Int) 256, byt (b.length : Int) 1] ++ b)).set 0 1, s.L⟩) (F := fun b => (F b ∨ (S2 ≤ b ∧ b < w4.heap.size)) ∨ (w4.heap.size ≤ b ∧ b < w6.heap.size)) (W1 := w7) x b ⟨A6, b.length, c6⟩ hsr (blk_below HHM.out.1 HB.out) (Kd.R_mono (Kd.R_below HHM.out.2.1 HB.out) (fun k q => .inl q)) (hB4.block (HB.out.block B4 hB4.lt)) (.inl HHM.out.2.2.2.1) HHM.out.2.2.2.2.1 (fun y d hd xs hx => ⟨(HHM.out.2.2.2.2.2 y d hd xs hx).1, (HHM.out.2.2.2.2.2 y d hd xs hx).2.1, Kd.F_mono (Kd.F_below (HHM.out.2.2.2.2.2 y d hd xs hx).2.2 HB.out) (fun k q => ⟨.inl q.1, q.2⟩)⟩) (.inl hfs4) (fun k q => q.elim (fun q => ⟨(hlt4 k q).1, Nat.lt_of_lt_of_le (hlt4 k q).2 hsz6⟩) (fun q => ⟨Nat.le_trans hbase q.1, q.2⟩)) rfl (Kd.R_reads' HR6.out).2.1 (Kd.F_mono (Kd.R_F (Kd.R_bound HR6.out)) (fun k q => by
              have h9 : w4.heap.size ≤ k := Nat.le_trans hS6 q.2.1
              refine ⟨.inr ⟨h9, q.2.2.1⟩, fun e => ?_, fun e => ?_, fun e => ?_⟩
              · have := Kd.R_lt HHM.out.2.1 k e
                omega
              · have := hB4.lt
                omega
              · omega)) HM7.out HG7.out
            go_ret2
            refine ⟨v, S1, S2, rfl, ?_, hQ.2.1, ?_, ?_, hp.more (fun k q => ?_) (fun k q => ?_), ?_, fun B0 w0 hB0 hw0 => ?_⟩
            · exact Nat.le_trans HB1.out.size hQ.1
            · omega
            · exact (hQ.2.2.2.1.step HB.out).kept (S := fun k => k = B4) ⟨hsz7, fun k hk hn => HG7.out.block k hk (fun e => hn (by injection e))⟩ (fun k q1 q2 q3 => by
                subst q3
                rcases HHM.out.2.2.2.1 with q4 | q4
                · have := (HH.out.lt _ q4).2
                  omega
                · omega)
            · rcases q with (q | q) | q
              · exact .inl q
              · exact .inr ⟨q.1, by omega⟩
              · exact .inr ⟨by omega, by omega⟩
            · rcases q with q | q
              · exact ⟨(HH.out.lt k q).1, by have := (hlt4 k (.inl q)).2; omega⟩
              · exact ⟨by have := HH.out.lt g HH.out.fs; omega, q.2⟩
            · refine ⟨by omega, fun k hk hn => ?_⟩
              have hk4 : k < w4.heap.size := by omega
              refine (HG7.out.block k (by omega) (fun e => ?_)).trans ((HB.out.block k hk4).trans ((hQ.2.2.2.2.1.2 k (show k < w1.heap.size by omega) hn).trans (HB1.out.block k hk)))
              injection e with e
              subst e
              rcases HHM.out.2.2.2.1 with q4 | q4
              · exact hn q4
              · omega
            · have hb9 : base ≤ w.heap.size := by have := HH.out.lt g HH.out.fs; omega
              have h7 := hQ.2.2.2.2.2 B0 w0 hB0 (pw_below_drewN (hw0.trans (HB1.out.mono (Nat.le_trans hB0 hb9))) _)
              have h8 := h7.trans (HB.out.mono (Nat.le_trans hB0 hbase))
              exact h8.grown HG7.out (Nat.le_trans hB0 (by omega)) (fun k hk => by
                injection hk with hk
                subst hk
                have := (hlt4 _ HHM.out.2.2.2.1).1
                omega)
      · have hput : putS nm s x b = laidS s (putL x b s.L) (recB 1 x b) := by
          unfold putS
          rw [if_neg (by rw [c1]; decide), if_neg c2, if_neg (fun q => c3 q.1)]
        rw [hput, ← rec_put x b (by omega), List.append_assoc, laidS_of, ← List.append_assoc]
        clear hput
        by_cases c5 : 1048576 < s.img.length + ([0] ++ nameBytes x ++ ([byt (b.length : Int) 256, byt (b.length : Int) 1] ++ b)).length + 1
        · rw [if_pos c5]
          go_enter Try.func11, Try.ntmps11
          go_wp2_with fail
          have hb1 := below_alloc (Below.refl w.heap.size w) (.cells #[.slice A b.length c] 23)
          have hbx := blk_new w (.cells #[.slice A b.length c] 23)
          obtain ⟨bx, hbxe⟩ : ∃ bx, bx = w.heap.size := ⟨_, rfl⟩
          rw [← hbxe] at hbx
          simp only [← hbxe]
          generalize (w.alloc (.cells #[.slice A b.length c] 23)) = w1 at hb1 hbx ⊢
          have HB1 := Aside0.mk hb1
          have HBX := Aside0.mk hbx
          have HBE := Aside0.mk hbxe
          replace H := Aside0.mk (HH.out.step hb1)
          obtain ⟨Ai, ci, B, m, h1, h2, h3, h4, h5, h6⟩ := H.out.cells
          have hc1 := blk_cell h1 1
          have H3 := Aside0.mk h3
          have hlk := lk_hd h5 x
          clear h1 h2 h3 h4 h5 h6 hb1 hbx hbxe
          refine (ready_st H.out).mono ?_
          rintro e w2 ⟨rfl, k1, rfl⟩
          replace hc1 := show (w1.drewN k1).cell? ⟨g, 1, none⟩ = _ from hc1
          replace H3 := Aside0.mk (H3.out.block (W1 := w1.drewN k1) rfl)
          have g3 : (m x).isSome = true := by
            rcases hlk with ⟨q, _⟩ | ⟨d, xs, q, _⟩
            · exact absurd q c3
            · rw [q]; rfl
          go_wp2_with (first | ((with_reducible refine gate_dst (N := 21) rfl ?_); refine hm_look_ok rfl rfl rfl H3.out rfl HX.out ?_))
          go_wp2_with fail
          refine (wire_IsName.calls K x _ _ HN.out).mono ?_
          rintro e w3 ⟨rfl, k2, rfl⟩
          have hcx := blk_cell (blk_drewN HBX.out (k1 + k2)) 0
          replace hc1 := show (w1.drewN (k1 + k2)).cell? ⟨g, 1, none⟩ = _ from hc1
          replace H3 := Aside0.mk (H3.out.block (W1 := w1.drewN (k1 + k2)) rfl)
          go_wp2_with fail
          have hlx := H.out.lt g H.out.fs
          have hbxl := blk_lt HBX.out
          refine (laid_full (w := w1.drewN (k1 + k2)) K nm HK.out HG.out 1 (.inl rfl) x c1 ([byt (b.length : Int) 256, byt (b.length : Int) 1] ++ b) (by simp; omega) 37 #[.pointer (some ⟨bx, 0, none⟩)] (callFunc_st Try.func37 (by kernel_rfl) (by kernel_rfl)) (fun g2 W1 hb hwt => ?hp) (show SAt base F g s (w1.drewN (k1 + k2)) from H.out.step (pw_below_drewN (Below.refl _ _) _)) (by omega)).mono ?_
          case hp =>
            have hB : Below w1.heap.size w1 W1 := below_step (pw_below_drewN (Below.refl _ _) (k1 + k2)) hb
            exact Put1_calls hwt A c (blk_below HBX.out hB) (Kd.F_now (Kd.F_below (Kd.F_below HC.out HB1.out) hB)) (by omega) hbxl (fun W' hW => Kd.F_now (Kd.F_below (Kd.F_below HC.out HB1.out) (hB.trans hW))) (by have := (HK.out.siz x c1).2; unfold nameBytes bytesOf; simp [Lib.toList_data]; omega)
          rintro e w4 ⟨v, S1, S2, rfl, q⟩
          have HQ := Aside0.mk (StPost.since ⟨v, S1, S2, rfl, q⟩ (pw_below_drewN HB1.out (k1 + k2)) (by have := HH.out.lt g HH.out.fs; omega))
          clear q
          go_wp2_with fail
          go_ret2
          exact HQ.out
        · rw [if_neg c5]
          go_enter Try.func11, Try.ntmps11
          go_wp2_with fail
          have hb1 := below_alloc (Below.refl w.heap.size w) (.cells #[.slice A b.length c] 23)
          have hbx := blk_new w (.cells #[.slice A b.length c] 23)
          obtain ⟨bx, hbxe⟩ : ∃ bx, bx = w.heap.size := ⟨_, rfl⟩
          rw [← hbxe] at hbx
          simp only [← hbxe]
          generalize (w.alloc (.cells #[.slice A b.length c] 23)) = w1 at hb1 hbx ⊢
          have HB1 := Aside0.mk hb1
          have HBX := Aside0.mk hbx
          have HBE := Aside0.mk hbxe
          replace H := Aside0.mk (HH.out.step hb1)
          obtain ⟨Ai, ci, B, m, h1, h2, h3, h4, h5, h6⟩ := H.out.cells
          have hc1 := blk_cell h1 1
          have H3 := Aside0.mk h3
          have hlk := lk_hd h5 x
          clear h1 h2 h3 h4 h5 h6 hb1 hbx hbxe
          refine (ready_st H.out).mono ?_
          rintro e w2 ⟨rfl, k1, rfl⟩
          replace hc1 := show (w1.drewN k1).cell? ⟨g, 1, none⟩ = _ from hc1
          replace H3 := Aside0.mk (H3.out.block (W1 := w1.drewN k1) rfl)
          have g3 : (m x).isSome = true := by
            rcases hlk with ⟨q, _⟩ | ⟨d, xs, q, _⟩
            · exact absurd q c3
            · rw [q]; rfl
          go_wp2_with (first | ((with_reducible refine gate_dst (N := 21) rfl ?_); refine hm_look_ok rfl rfl rfl H3.out rfl HX.out ?_))
          go_wp2_with fail
          refine (wire_IsName.calls K x _ _ HN.out).mono ?_
          rintro e w3 ⟨rfl, k2, rfl⟩
          have hcx := blk_cell (blk_drewN HBX.out (k1 + k2)) 0
          replace hc1 := show (w1.drewN (k1 + k2)).cell? ⟨g, 1, none⟩ = _ from hc1
          replace H3 := Aside0.mk (H3.out.block (W1 := w1.drewN (k1 + k2)) rfl)
          go_wp2_with fail
          have hlx := H.out.lt g H.out.fs
          have hbxl := blk_lt HBX.out
          refine (laid_fits (w := w1.drewN (k1 + k2)) K nm HK.out HG.out 1 (.inl rfl) x c1 ([byt (b.length : Int) 256, byt (b.length : Int) 1] ++ b) (by simp; omega) 37 #[.pointer (some ⟨bx, 0, none⟩)] (callFunc_st Try.func37 (by kernel_rfl) (by kernel_rfl)) (fun g2 W1 hb hwt => ?hp) (show SAt base F g s (w1.drewN (k1 + k2)) from H.out.step (pw_below_drewN (Below.refl _ _) _)) (by omega)).mono ?_
          case hp =>
            have hB : Below w1.heap.size w1 W1 := below_step (pw_below_drewN (Below.refl _ _) (k1 + k2)) hb
            exact Put1_calls hwt A c (blk_below HBX.out hB) (Kd.F_now (Kd.F_below (Kd.F_below HC.out HB1.out) hB)) (by omega) hbxl (fun W' hW => Kd.F_now (Kd.F_below (Kd.F_below HC.out HB1.out) (hB.trans hW))) (by have := (HK.out.siz x c1).2; unfold nameBytes bytesOf; simp [Lib.toList_data]; omega)
          rintro e w4 ⟨v, S1, S2, rfl, q1, q2, q3, q4, q5, q6, q7⟩
          have HQ := Aside0.mk (And.intro q1 (And.intro q2 (And.intro q3 (And.intro q4 (And.intro q6 q7)))))
          have H4 := Aside0.mk q5
          obtain ⟨A4, c4, B4, m4, h1, h2, h3, h4, h5, h6⟩ := q5.cells
          have HX4 := Aside0.mk ((q6.2 bx hbxl (fun q => by have := (HH.out.lt bx q).2; have := HBE.out; omega)).trans (blk_drewN HBX.out (k1 + k2)))
          have hcm := blk_cell h1 1
          have hcx4 := blk_cell HX4.out 0
          have HHM := Aside0.mk (And.intro h1 (And.intro h2 (And.intro h3 (And.intro h4 (And.intro h5 h6)))))
          have HC4 := Aside0.mk (Kd.F_now (Kd.F_kept (Kd.F_drewN (Kd.F_below HC.out HB1.out) (k1 + k2)) q6 HP.out))
          clear q1 q2 q3 q4 q5 q6 q7 h1 h2 h3 h4 h5 h6 hcx hc1
          go_wp2_with fail
          have HSS := Aside0.mk (show ∀ W' : World, Below w4.heap.size w4 W' → W'.cell? ⟨g, 1, none⟩ = some (.map (some B4)) ∧ W'.cell? ⟨bx, 0, none⟩ = some (.slice A b.length c) from fun W' hW => ⟨blk_cell (blk_below HHM.out.1 hW) 1, blk_cell (blk_below HX4.out hW) 0⟩)
          have HB := Aside0.mk (Below.refl w4.heap.size w4)
          (try simp only [Act.put, List.setIfInBounds_toArray, List.set_cons_zero, List.set_cons_succ])
          refine wp_region_held_drew (S := fun w' => w'.cell? ⟨g, 1, none⟩ = some (.map (some B4)) ∧ w'.cell? ⟨bx, 0, none⟩ = some (.slice A b.length c)) (by kernel_rfl) ?_ (fun hHeld => ?_)
          · exact HSS.out _ (pw_below_drewN HB.out 1)
          replace HB := Aside0.mk (show Below w4.heap.size w4 w4.drew from pw_below_drewN HB.out 1)
          generalize w4.drew = wd at HB hHeld ⊢
          refine take_dst (i := 0) (v := ?_) 52 rfl rfl (by kernel_rfl) (by kernel_rfl) (by kernel_rfl) (fun _ _ _ h => h) (Or.inl ⟨by rfl, ?_⟩) (by assumption) ?_
          rotate_left
          · intro w hSw
            obtain ⟨q1, q2⟩ := hSw
            go_simp
            try with_reducible rfl
          (try simp only [Act.put, List.setIfInBounds_toArray, List.set_cons_zero, List.set_cons_succ])
          refine take_dst (i := 1) (v := ?_) 53 rfl rfl (by kernel_rfl) (by kernel_rfl) (by kernel_rfl) (fun _ _ _ h => h) (Or.inl ⟨by rfl, ?_⟩) (by assumption) ?_
          rotate_left
          · intro w hSw
            obtain ⟨q1, q2⟩ := hSw
            go_simp
            try with_reducible rfl
          (try simp only [Act.put, List.setIfInBounds_toArray, List.set_cons_zero, List.set_cons_succ])
          refine take_dst (i := 2) (v := ?_) 54 rfl rfl (by kernel_rfl) (by kernel_rfl) (by kernel_rfl) (fun _ _ _ h => h) (Or.inl ⟨by rfl, ?_⟩) (by assumption) ?_
          rotate_left
          · intro w hSw
            obtain ⟨q1, q2⟩ := hSw
            go_simp
            try with_reducible rfl
          (try simp only [Act.put, List.setIfInBounds_toArray, List.set_cons_zero, List.set_cons_succ])
          refine take_dst (i := 3) (v := ?_) 55 rfl rfl (by kernel_rfl) (by kernel_rfl) (by kernel_rfl) (fun _ _ _ h => h) (Or.inl ⟨by rfl, ?_⟩) (by assumption) ?_
          rotate_left
          · intro w hSw
            obtain ⟨q1, q2⟩ := hSw
            go_simp
            try with_reducible rfl
          (try simp only [Act.put, List.setIfInBounds_toArray, List.set_cons_zero, List.set_cons_succ])
          refine take_dst (i := 4) (v := ?_) 56 rfl rfl (by kernel_rfl) (by kernel_rfl) (by kernel_rfl) (fun _ _ _ h => h) (Or.inl ⟨by rfl, ?_⟩) (by assumption) ?_
          rotate_left
          · intro w hSw
            obtain ⟨q1, q2⟩ := hSw
            go_simp
            try with_reducible rfl
          (try simp only [Act.put, List.setIfInBounds_toArray, List.set_cons_zero, List.set_cons_succ])
          refine take_dst (i := 5) (v := ?_) 57 rfl rfl (by kernel_rfl) (by kernel_rfl) (by kernel_rfl) (fun _ _ _ h => h) (Or.inl ⟨by rfl, ?_⟩) (by assumption) ?_
          rotate_left
          · intro w hSw
            obtain ⟨q1, q2⟩ := hSw
            go_simp
            try with_reducible rfl
          (try simp only [Act.put, List.setIfInBounds_toArray, List.set_cons_zero, List.set_cons_succ])
          refine wpAnyH_ready (rs := [6]) (by kernel_rfl) (by simp) ?_
          refine AllReadyH.cons rfl (fun K hK => ?_) AllReadyH.nil
          go_simp
          refine (cloned_calls A c b _ (Kd.C_below HC4.out HB.out) (by omega)).mono ?_
          have HS6 := Aside0.mk HB.out.size
          rintro e w6 ⟨v3, rfl, hR6, hb6⟩
          obtain ⟨A6, c6, e6⟩ := Kd.R_slice hR6
          subst e6
          replace HB := Aside0.mk (below_step HB.out hb6)
          have HR6 := Aside0.mk hR6
          clear hR6 hb6
          go_simp
          refine hK.out _ _ (HSS.out _ HB.out) (fun hHeld => ?_)
          (try simp only [Act.put, List.setIfInBounds_toArray, List.set_cons_zero, List.set_cons_succ])
          clear hK K
          refine wpAnyH_ready (rs := [7]) (by kernel_rfl) (by simp) ?_
          refine AllReadyH.cons rfl (fun K hK => ?_) AllReadyH.nil
          have hB4 := HHM.out.2.2.1
          refine hm_store_wp (m := .tmp 55) (x := .tmp 56) (v := .tmp 58) (k := x) (c := ⟨A6, b.length, c6⟩) rfl rfl (hB4.block (HB.out.block B4 hB4.lt)) (by have := HG.out.len; show s.L.length < maxLen; unfold maxLen; omega) rfl rfl HX.out (hd_ok HR6.out) ?_
          intro w7 hm7 hg7
          have HM7 := Aside0.mk hm7
          have HG7 := Aside0.mk hg7
          have hne4 : some g ≠ some B4 := fun q => hB4.ne HHM.out.1 (by injection q with q; exact q.symm)
          have hne5 : some bx ≠ some B4 := fun q => hB4.ne HX4.out (by injection q with q; exact q.symm)
          have hgl := blk_lt HHM.out.1
          have hxl4 := blk_lt HX4.out
          refine hK.out _ _ ⟨blk_cell ((hg7.block g (Nat.lt_of_lt_of_le hgl HB.out.size) hne4).trans (blk_below HHM.out.1 HB.out)) 1, blk_cell ((hg7.block bx (Nat.lt_of_lt_of_le hxl4 HB.out.size) hne5).trans (blk_below HX4.out HB.out)) 0⟩ (fun hHeld => ?_)
          (try simp only [Act.put, List.setIfInBounds_toArray, List.set_cons_zero, List.set_cons_succ])
          clear hK K hm7 hg7
          refine wpAnyH_done (by kernel_rfl) ?_ _
          clear hcm hcx4
          go_wp2_with fail
          have hsr := HG.out.srt
          have hlt4 := H4.out.lt
          have hfs4 := H4.out.fs
          have hbase : base ≤ w4.heap.size := by have := hlt4 g hfs4; omega
          have hsz6 := HB.out.size
          have hsz7 := HG7.out.size
          have hS6 := HS6.out
          have hQ := HQ.out
          have hq1 : w1.heap.size ≤ S1 := hQ.1
          have hq5 : w1.heap.size ≤ w4.heap.size := hQ.2.2.2.2.1.1
          have hq2 := hQ.2.1
          have hb1s : w.heap.size ≤ w1.heap.size := HB1.out.size
          have hp := SAt.put (s := ⟨s.img ++ ([0] ++ nameBytes x ++ ([byt (b.length : Int) 256, byt (b.length : Int) 1] ++ b)).set 0 1, s.L⟩) (F := fun b => (F b ∨ (S2 ≤ b ∧ b < w4.heap.size)) ∨ (w4.heap.size ≤ b ∧ b < w6.heap.size)) (W1 := w7) x b ⟨A6, b.length, c6⟩ hsr (blk_below HHM.out.1 HB.out) (Kd.R_mono (Kd.R_below HHM.out.2.1 HB.out) (fun k q => .inl q)) (hB4.block (HB.out.block B4 hB4.lt)) (.inl HHM.out.2.2.2.1) HHM.out.2.2.2.2.1 (fun y d hd xs hx => ⟨(HHM.out.2.2.2.2.2 y d hd xs hx).1, (HHM.out.2.2.2.2.2 y d hd xs hx).2.1, Kd.F_mono (Kd.F_below (HHM.out.2.2.2.2.2 y d hd xs hx).2.2 HB.out) (fun k q => ⟨.inl q.1, q.2⟩)⟩) (.inl hfs4) (fun k q => q.elim (fun q => ⟨(hlt4 k q).1, Nat.lt_of_lt_of_le (hlt4 k q).2 hsz6⟩) (fun q => ⟨Nat.le_trans hbase q.1, q.2⟩)) rfl (Kd.R_reads' HR6.out).2.1 (Kd.F_mono (Kd.R_F (Kd.R_bound HR6.out)) (fun k q => by
            have h9 : w4.heap.size ≤ k := Nat.le_trans hS6 q.2.1
            refine ⟨.inr ⟨h9, q.2.2.1⟩, fun e => ?_, fun e => ?_, fun e => ?_⟩
            · have := Kd.R_lt HHM.out.2.1 k e
              omega
            · have := hB4.lt
              omega
            · omega)) HM7.out HG7.out
          go_ret2
          refine ⟨v, S1, S2, rfl, ?_, hQ.2.1, ?_, ?_, hp.more (fun k q => ?_) (fun k q => ?_), ?_, fun B0 w0 hB0 hw0 => ?_⟩
          · exact Nat.le_trans HB1.out.size hQ.1
          · omega
          · exact (hQ.2.2.2.1.step HB.out).kept (S := fun k => k = B4) ⟨hsz7, fun k hk hn => HG7.out.block k hk (fun e => hn (by injection e))⟩ (fun k q1 q2 q3 => by
              subst q3
              rcases HHM.out.2.2.2.1 with q4 | q4
              · have := (HH.out.lt _ q4).2
                omega
              · omega)
          · rcases q with (q | q) | q
            · exact .inl q
            · exact .inr ⟨q.1, by omega⟩
            · exact .inr ⟨by omega, by omega⟩
          · rcases q with q | q
            · exact ⟨(HH.out.lt k q).1, by have := (hlt4 k (.inl q)).2; omega⟩
            · exact ⟨by have := HH.out.lt g HH.out.fs; omega, q.2⟩
          · refine ⟨by omega, fun k hk hn => ?_⟩
            have hk4 : k < w4.heap.size := by omega
            refine (HG7.out.block k (by omega) (fun e => ?_)).trans ((HB.out.block k hk4).trans ((hQ.2.2.2.2.1.2 k (show k < w1.heap.size by omega) hn).trans (HB1.out.block k hk)))
            injection e with e
            subst e
            rcases HHM.out.2.2.2.1 with q4 | q4
            · exact hn q4
            · omega
          · have hb9 : base ≤ w.heap.size := by have := HH.out.lt g HH.out.fs; omega
            have h7 := hQ.2.2.2.2.2 B0 w0 hB0 (pw_below_drewN (hw0.trans (HB1.out.mono (Nat.le_trans hB0 hb9))) _)
            have h8 := h7.trans (HB.out.mono (Nat.le_trans hB0 hbase))
            exact h8.grown HG7.out (Nat.le_trans hB0 (by omega)) (fun k hk => by
              injection hk with hk
              subst hk
              have := (hlt4 _ HHM.out.2.2.2.1).1
              omega)
end
end Go.Proofs.Ytfakdphkklclgaa.P

end

section
namespace Go.Proofs.Ytfakdphkklclgaa.P
open Go.RowKit Go.Proofs.YtfakdphkklclgaaW.PrintWords Go.Proofs.YtfakdphkklclgaaW.PrintLast Go.Proofs.YtfakdphkklclgaaW.PrintMore
attribute [local go_sem] max2_int min2_int max_two min_two max_three min_three max_four min_four
set_option linter.unusedVariables false
set_option linter.unusedSimpArgs false
section
open Go.ChangeMaps Go.MapKept
set_option linter.unusedVariables false
set_option maxHeartbeats 6400000 in
set_option maxRecDepth 100000 in
theorem Drop_st {base g : Nat} {F : Nat → Prop} {s : Sto} {w : World} (K : Nat) (nm : ByteArray → Bool) (hK : StFacts K nm) (hg : Good nm s) (x : ByteArray) (hx : x.size ≤ maxLen) (h : SAt base F g s w) : Calls Try.prog 23 #[.pointer (some ⟨g, 0, none⟩), .string x] w fun e w' => StPost base F g w (dropS nm s x) e w' := by
  have HH := Aside0.mk h
  have HX := Aside0.mk hx
  have HK := Aside0.mk hK
  have HG := Aside0.mk hg
  clear h hx hK hg
  by_cases c1 : nm x = false
  · have HGET := Aside0.mk (get_st K nm HK.out x HX.out HH.out)
    unfold getS at HGET
    rw [if_pos c1] at HGET
    go_enter Try.func23, Try.ntmps23
    go_wp2_with fail
    refine HGET.out.mono ?_
    rintro e w1 ⟨A1, c1_, rfl, hc_, hF_, k1, rfl⟩
    clear hc_ hF_ HGET
    go_wp2_with fail
    go_ret2
    unfold dropS
    rw [if_pos c1]
    exact StPost.same HH.out (pw_below_drewN (Below.refl _ _) _) 6
  · rw [Bool.not_eq_false] at c1
    have c1n : ¬ nm x = false := by rw [c1]; decide
    cases c3 : lkL s.L x with
    | none =>
      have HGET := Aside0.mk (get_st K nm HK.out x HX.out HH.out)
      unfold getS at HGET
      rw [if_neg c1n, c3] at HGET
      go_enter Try.func23, Try.ntmps23
      go_wp2_with fail
      refine HGET.out.mono ?_
      rintro e w1 ⟨A1, c1_, rfl, hc_, hF_, k1, rfl⟩
      clear hc_ hF_ HGET
      go_wp2_with fail
      go_ret2
      unfold dropS
      rw [if_neg c1n, if_pos c3]
      exact StPost.same HH.out (pw_below_drewN (Below.refl _ _) _) 211
    | some b =>
      have hdr : dropS nm s x = laidS s (cutL x s.L) (recB 2 x []) := by
        unfold dropS
        rw [if_neg c1n, if_neg (by rw [c3]; exact fun q => by cases q)]
      rw [hdr, ← rec_drop x, List.append_assoc, laidS_of, ← List.append_assoc]
      clear hdr
      by_cases c5 : 1048576 < s.img.length + ([0] ++ nameBytes x ++ []).length + 1
      · rw [if_pos c5]
        have HGET := Aside0.mk (get_st K nm HK.out x HX.out HH.out)
        unfold getS at HGET
        rw [if_neg c1n, c3] at HGET
        go_enter Try.func23, Try.ntmps23
        go_wp2_with fail
        refine HGET.out.mono ?_
        rintro e w1 ⟨A1, c1_, rfl, hc_, hF_, k1, rfl⟩
        clear hc_ hF_ HGET
        go_wp2_with fail
        refine (laid_full (w := w.drewN k1) K nm HK.out HG.out 2 (.inr rfl) x c1 [] (by simp) 52 #[] (callFunc_st Try.func52 (by kernel_rfl) (by kernel_rfl)) (fun g2 W1 hb hwt => ?hp) (show SAt base F g s (w.drewN k1) from HH.out.step (pw_below_drewN (Below.refl _ _) _)) (by omega)).mono ?_
        case hp =>
          rw [List.append_nil]
          exact Drop1_calls hwt
        rintro e w4 ⟨v, S1, S2, rfl, q⟩
        have HQ := Aside0.mk (StPost.since ⟨v, S1, S2, rfl, q⟩ (pw_below_drewN (Below.refl w.heap.size w) k1) (by have := HH.out.lt g HH.out.fs; omega))
        clear q
        go_wp2_with fail
        go_ret2
        exact HQ.out
      · rw [if_neg c5]
        have HGET := Aside0.mk (get_st K nm HK.out x HX.out HH.out)
        unfold getS at HGET
        rw [if_neg c1n, c3] at HGET
        go_enter Try.func23, Try.ntmps23
        go_wp2_with fail
        refine HGET.out.mono ?_
        rintro e w1 ⟨A1, c1_, rfl, hc_, hF_, k1, rfl⟩
        clear hc_ hF_ HGET
        go_wp2_with fail
        refine (laid_fits (w := w.drewN k1) K nm HK.out HG.out 2 (.inr rfl) x c1 [] (by simp) 52 #[] (callFunc_st Try.func52 (by kernel_rfl) (by kernel_rfl)) (fun g2 W1 hb hwt => ?hp) (show SAt base F g s (w.drewN k1) from HH.out.step (pw_below_drewN (Below.refl _ _) _)) (by omega)).mono ?_
        case hp =>
          rw [List.append_nil]
          exact Drop1_calls hwt
        rintro e w4 ⟨v, S1, S2, rfl, q1, q2, q3, q4, q5, q6, q7⟩
        have HQ := Aside0.mk (And.intro q1 (And.intro q2 (And.intro q3 (And.intro q4 (And.intro q6 q7)))))
        have H4 := Aside0.mk q5
        obtain ⟨A4, c4, B4, m4, h1, h2, h3, h4, h5, h6⟩ := q5.cells
        have hcm := blk_cell h1 1
        have HHM := Aside0.mk (And.intro h1 (And.intro h2 (And.intro h3 (And.intro h4 (And.intro h5 h6)))))
        clear q1 q2 q3 q4 q5 q6 q7 h1 h2 h3 h4 h5 h6
        go_wp2_with ((with_reducible refine gate_builtin (b := .delete) (xs := #[.tmp 29, .tmp 30]) rfl ?_); refine hm_drop (k := x) rfl rfl rfl HHM.out.2.2.1 rfl HX.out ?_; intro w7 hm7 hg7; have HM7 := Aside0.mk hm7; have HG7 := Aside0.mk hg7; clear hm7 hg7)
        have hB4 := HHM.out.2.2.1
        have hsr := HG.out.srt
        have hlt4 := H4.out.lt
        have hfs4 := H4.out.fs
        have hbase : base ≤ w4.heap.size := by have := hlt4 g hfs4; omega
        have hsz7 := HG7.out.size
        have hQ := HQ.out
        have hq1 : w.heap.size ≤ S1 := hQ.1
        have hq5 : w.heap.size ≤ w4.heap.size := hQ.2.2.2.2.1.1
        have hq2 := hQ.2.1
        have hp := SAt.cut (s := ⟨s.img ++ ([0] ++ nameBytes x ++ []).set 0 2, s.L⟩) (W1 := w7) x hsr HHM.out.1 HHM.out.2.1 hB4 HHM.out.2.2.2.1 HHM.out.2.2.2.2.1 HHM.out.2.2.2.2.2 hfs4 hlt4 HM7.out HG7.out
        go_ret2
        refine ⟨v, S1, S2, rfl, hq1, hq2, ?_, ?_, hp.more (fun k q => ?_) (fun k q => ?_), ?_, fun B0 w0 hB0 hw0 => ?_⟩
        · have := hQ.2.2.1
          omega
        · exact hQ.2.2.2.1.kept (S := fun k => k = B4) ⟨hsz7, fun k hk hn => HG7.out.block k hk (fun e => hn (by injection e))⟩ (fun k q1 q2 q3 => by
            subst q3
            rcases HHM.out.2.2.2.1 with q4 | q4
            · have := (HH.out.lt _ q4).2
              omega
            · omega)
        · rcases q with q | q
          · exact .inl q
          · exact .inr ⟨q.1, by omega⟩
        · rcases q with q | q
          · exact ⟨(HH.out.lt k q).1, by have := (hlt4 k (.inl q)).2; omega⟩
          · exact ⟨by have := HH.out.lt g HH.out.fs; omega, q.2⟩
        · refine ⟨by omega, fun k hk hn => ?_⟩
          refine (HG7.out.block k (by omega) (fun e => ?_)).trans (hQ.2.2.2.2.1.2 k hk hn)
          injection e with e
          subst e
          rcases HHM.out.2.2.2.1 with q4 | q4
          · exact hn q4
          · omega
        · have h7 := hQ.2.2.2.2.2 B0 w0 hB0 (pw_below_drewN hw0 _)
          exact h7.grown HG7.out (Nat.le_trans hB0 (by omega)) (fun k hk => by
            injection hk with hk
            subst hk
            have := (hlt4 _ HHM.out.2.2.2.1).1
            omega)
end
end Go.Proofs.Ytfakdphkklclgaa.P

end

section
namespace Go.Proofs.Ytfakdphkklclgaa.P
open Go.RowKit Go.Proofs.YtfakdphkklclgaaW.PrintWords Go.Proofs.YtfakdphkklclgaaW.PrintLast Go.Proofs.YtfakdphkklclgaaW.PrintMore
attribute [local go_sem] max2_int min2_int max_two min_two max_three min_three max_four min_four
set_option linter.unusedVariables false
set_option linter.unusedSimpArgs false
section
open Go.ChangeMaps Go.MapKept
set_option linter.unusedVariables false
def recS (nm : ByteArray → Bool) (bs : List Int) (L : List S101) (a : Nat) : Option (List S101 × Nat) :=
  match nameR nm bs (a + 1) with
  | (x, p, e) => if e ≠ 0 then none else
    if rd bs (a : Int) = 2 ∧ (lkL L x).isSome = true then some (cutL x L, p) else
    if rd bs (a : Int) ≠ 1 then none else
    match numR 2 bs p with
    | (n, p2, e2) => if e2 ≠ 0 ∨ 4096 < n then none else
      match takeR bs p2 n with
      | (b, p3, e3) => if e3 ≠ 0 then none else if 16 < (putL x b L).length then none else some (putL x b L, p3)
theorem Rd1.map {base2 rb a B n sz : Nat} {bs : List Int} {W W1 : World} {m : ByteArray → Option Hd} (h : Rd1 base2 rb bs a W) (hm : HMap W B n m sz) (hg : W.grownBy W1 (some B)) : Rd1 base2 rb bs a W1 := by
  obtain ⟨⟨h1, h2, v, h3, h4⟩, h5, h6⟩ := h
  exact ⟨⟨h1, h2, v, (hg.block rb (blk_lt h3) (fun e => hm.ne h3 (by injection e with e; exact e.symm))).trans h3, Kd.R_grown1 h4 rfl hg (fun e => by
    obtain ⟨cs, h7⟩ := Kd.R_typed h4 B e.symm
    exact hm.ne h7 rfl)⟩, h5, h6⟩
theorem name_size {K : Nat} {nm : ByteArray → Bool} (hK : StFacts K nm) (bs : List Int) (a : Nat) : (nameR nm bs a).1.size ≤ 24 := by
  unfold nameR
  split
  · show ByteArray.empty.size ≤ 24; decide
  · split
    · show ByteArray.empty.size ≤ 24; decide
    · split
      · show ByteArray.empty.size ≤ 24; decide
      · split
        · rename_i h
          exact (hK.siz _ h).2
        · show ByteArray.empty.size ≤ 24; decide
theorem take_le (bs : List Int) (a : Nat) (n : Int) (h : n ≤ 4096) : (takeR bs a n).1.length ≤ 4096 := by
  unfold takeR
  split
  · simp
  · split
    · simp
    · rw [seg_len _ _ _ (by omega)]
      omega
def RecPost (base rb g : Nat) (F : Nat → Prop) (base2 : Nat) (bs img : List Int) (w : World) (out : Option (List S101 × Nat)) (e : Ending) (w' : World) : Prop :=
  (w.heap.size ≤ w'.heap.size ∧ ∀ (B : Nat) (w0 : World), B ≤ base → B ≤ rb → Below B w0 w → Below B w0 w') ∧ match out with
  | none => e = .returned (.bool false)
  | some q => e = .returned (.bool true) ∧ SAt base (fun b => F b ∨ (w.heap.size ≤ b ∧ b < w'.heap.size)) g ⟨img, q.1⟩ w' ∧ Rd1 base2 rb bs q.2 w'
set_option maxHeartbeats 12800000 in
set_option maxRecDepth 100000 in
theorem record_st {base base2 rb g a : Nat} {F : Nat → Prop} {s : Sto} {bs : List Int} {w : World} (K : Nat) (nm : ByteArray → Bool) (hK : StFacts K nm) (hsr : Srt s.L) (hl : s.L.length ≤ 16) (ha : a < bs.length) (hr : Rd1 base2 rb bs a w) (hf : ¬ F rb) (h : SAt base F g s w) : Calls Try.prog 56 #[.pointer (some ⟨g, 0, none⟩), .pointer (some ⟨rb, 0, none⟩)] w fun e w' => RecPost base rb g F base2 bs s.img w (recS nm bs s.L a) e w' := by
  have HS0 := Aside0.mk h
  have HR0 := Aside0.mk hr
  have HK := Aside0.mk hK
  have HSR := Aside0.mk hsr
  have HLL := Aside0.mk hl
  have HF := Aside0.mk hf
  have HB0 := Aside0.mk (fun (B : Nat) (w0 : World) (_ : B ≤ base) (_ : B ≤ rb) (q : Below B w0 w) => q)
  have HZ0 := Aside0.mk (Nat.le_refl w.heap.size)
  have hsz := name_size hK bs (a + 1)
  obtain ⟨⟨x, p, er⟩, hnr⟩ : ∃ q, q = nameR nm bs (a + 1) := ⟨_, rfl⟩
  obtain ⟨z, hz⟩ : ∃ z, z = rd bs (a : Int) := ⟨_, rfl⟩
  have HZR := Aside0.mk hz
  have HNR := Aside0.mk hnr.symm
  rw [← hnr] at hsz
  have HX := Aside0.mk (show x.size ≤ maxLen by simp only at hsz; unfold maxLen; omega)
  unfold recS
  rw [← hnr, ← hz]
  clear h hr hK hsr hl hf hnr hz hsz
  simp only
  by_cases c1 : er = 0
  · subst c1
    rw [if_neg (by decide)]
    by_cases c2 : z = 2
    · subst c2
      by_cases c3 : (lkL s.L x).isSome = true
      · rw [if_pos ⟨rfl, c3⟩]
        go_enter Try.func56, Try.ntmps56
        go_wp2_with fail
        refine (Byte_1 HR0.out).mono ?_
        rintro e w1 ⟨rfl, hp⟩
        rw [numR_one bs a (by omega)] at hp ⊢
        rw [← HZR.out]
        have HB1 := Aside0.mk (fun (B : Nat) (w0 : World) (q1 : B ≤ base) (q2 : B ≤ rb) (q : Below B w0 w) => hp.2.2 B w0 q2 (HB0.out B w0 q1 q2 q))
        have HS1 := Aside0.mk (HS0.out.kept hp.2.1 (fun b q1 q2 => HF.out (q2 ▸ q1)))
        have HR1 := Aside0.mk hp.1
        have HZ1 := Aside0.mk (Nat.le_trans HZ0.out hp.2.1.1)
        clear hp
        simp only at HR1
        go_wp2_with fail
        refine (Name_1 K nm HK.out.rd w1 HR1.out).mono ?_
        rintro e w2 ⟨rfl, hp⟩
        rw [HNR.out] at hp ⊢
        simp only at hp ⊢
        have HB2 := Aside0.mk (fun (B : Nat) (w0 : World) (q1 : B ≤ base) (q2 : B ≤ rb) (q : Below B w0 w) => hp.2.2 B w0 q2 (HB1.out B w0 q1 q2 q))
        have HS2 := Aside0.mk (HS1.out.kept hp.2.1 (fun b q1 q2 => HF.out (q2 ▸ q1)))
        have HR2 := Aside0.mk hp.1
        have HZ2 := Aside0.mk (Nat.le_trans HZ1.out hp.2.1.1)
        clear hp
        obtain ⟨A4, c4, B4, m4, h1, h2, h3, h4, h5, h6⟩ := HS2.out.cells
        have hc1 := blk_cell h1 1
        have H3 := Aside0.mk h3
        have hlk := lk_hd h5 x
        have HHM := Aside0.mk (And.intro h1 (And.intro h2 (And.intro h3 (And.intro h4 (And.intro h5 h6)))))
        clear h1 h2 h3 h4 h5 h6
        have g3 : (m4 x).isSome = true := by
          rcases hlk with ⟨q, _⟩ | ⟨d, xs, q, _⟩
          · rw [q] at c3; cases c3
          · rw [q]; rfl
        go_wp2_with (first | (first | ((with_reducible refine gate_dst (N := 29) rfl ?_); refine hm_look_ok rfl rfl rfl H3.out rfl HX.out ?_)) | ((with_reducible refine gate_builtin (b := .delete) (xs := #[.tmp 44, .tmp 45]) rfl ?_); refine hm_drop (k := x) rfl rfl rfl HHM.out.2.2.1 rfl HX.out ?_; intro w7 hm7 hg7; have HM7 := Aside0.mk hm7; have HG7 := Aside0.mk hg7; clear hm7 hg7))
        have hlt4 := HS2.out.lt
        have hfs4 := HS2.out.fs
        have hp := SAt.cut (W1 := w7) x HSR.out HHM.out.1 HHM.out.2.1 HHM.out.2.2.1 HHM.out.2.2.2.1 HHM.out.2.2.2.2.1 HHM.out.2.2.2.2.2 hfs4 hlt4 HM7.out HG7.out
        have hsz := HG7.out.size
        have hz := HZ2.out
        go_ret
        refine ⟨⟨by omega, fun B w0 q1 q2 q => (HB2.out B w0 q1 q2 q).grown HG7.out (by have := hlt4 g hfs4; omega) (fun k hk => by
          injection hk with hk
          subst hk
          have := (hlt4 _ HHM.out.2.2.2.1).1
          omega)⟩, rfl, hp.more (fun k q => .inl q) (fun k q => ?_), HR2.out.map HHM.out.2.2.1 HG7.out⟩
        rcases q with q | q
        · exact ⟨(hlt4 k q).1, by have := (hlt4 k q).2; omega⟩
        · exact ⟨by have := HS0.out.lt g HS0.out.fs; omega, q.2⟩
      · rw [if_neg (fun q => c3 q.2), if_pos (by decide)]
        go_enter Try.func56, Try.ntmps56
        go_wp2_with fail
        refine (Byte_1 HR0.out).mono ?_
        rintro e w1 ⟨rfl, hp⟩
        rw [numR_one bs a (by omega)] at hp ⊢
        rw [← HZR.out]
        have HB1 := Aside0.mk (fun (B : Nat) (w0 : World) (q1 : B ≤ base) (q2 : B ≤ rb) (q : Below B w0 w) => hp.2.2 B w0 q2 (HB0.out B w0 q1 q2 q))
        have HS1 := Aside0.mk (HS0.out.kept hp.2.1 (fun b q1 q2 => HF.out (q2 ▸ q1)))
        have HR1 := Aside0.mk hp.1
        have HZ1 := Aside0.mk (Nat.le_trans HZ0.out hp.2.1.1)
        clear hp
        simp only at HR1
        go_wp2_with fail
        refine (Name_1 K nm HK.out.rd w1 HR1.out).mono ?_
        rintro e w2 ⟨rfl, hp⟩
        rw [HNR.out] at hp ⊢
        simp only at hp ⊢
        have HB2 := Aside0.mk (fun (B : Nat) (w0 : World) (q1 : B ≤ base) (q2 : B ≤ rb) (q : Below B w0 w) => hp.2.2 B w0 q2 (HB1.out B w0 q1 q2 q))
        have HS2 := Aside0.mk (HS1.out.kept hp.2.1 (fun b q1 q2 => HF.out (q2 ▸ q1)))
        have HR2 := Aside0.mk hp.1
        have HZ2 := Aside0.mk (Nat.le_trans HZ1.out hp.2.1.1)
        clear hp
        obtain ⟨A4, c4, B4, m4, h1, h2, h3, h4, h5, h6⟩ := HS2.out.cells
        have hc1 := blk_cell h1 1
        have H3 := Aside0.mk h3
        have hlk := lk_hd h5 x
        have HHM := Aside0.mk (And.intro h1 (And.intro h2 (And.intro h3 (And.intro h4 (And.intro h5 h6)))))
        clear h1 h2 h3 h4 h5 h6
        have g3 : (m4 x).isSome = false := by
          rcases hlk with ⟨_, q⟩ | ⟨d, xs, _, q⟩
          · rw [q]; rfl
          · rw [q] at c3; exact absurd rfl c3
        go_wp2_with (first | (first | ((with_reducible refine gate_dst (N := 29) rfl ?_); refine hm_look_ok rfl rfl rfl H3.out rfl HX.out ?_)))
        go_wp2_with fail
        go_ret
        exact ⟨⟨HZ2.out, HB2.out⟩, rfl⟩
    · have c2b : (z == 2) = false := beq_eq_false_iff_ne.mpr c2
      rw [if_neg (fun q => c2 q.1)]
      by_cases c4 : z = 1
      · subst c4
        rw [if_neg (by decide)]
        obtain ⟨⟨n, p2, e2⟩, hn2⟩ : ∃ q, q = numR 2 bs p := ⟨_, rfl⟩
        have HNM2 := Aside0.mk hn2.symm
        rw [← hn2]
        clear hn2
        simp only
        by_cases c5 : e2 = 0
        · subst c5
          by_cases c6 : 4096 < n
          · have c6b : decide ((4096 : Int) < n) = true := decide_eq_true c6
            rw [if_pos (.inr c6)]
            go_enter Try.func56, Try.ntmps56
            go_wp2_with fail
            refine (Byte_1 HR0.out).mono ?_
            rintro e w1 ⟨rfl, hp⟩
            rw [numR_one bs a (by omega)] at hp ⊢
            rw [← HZR.out]
            have HB1 := Aside0.mk (fun (B : Nat) (w0 : World) (q1 : B ≤ base) (q2 : B ≤ rb) (q : Below B w0 w) => hp.2.2 B w0 q2 (HB0.out B w0 q1 q2 q))
            have HS1 := Aside0.mk (HS0.out.kept hp.2.1 (fun b q1 q2 => HF.out (q2 ▸ q1)))
            have HR1 := Aside0.mk hp.1
            have HZ1 := Aside0.mk (Nat.le_trans HZ0.out hp.2.1.1)
            clear hp
            simp only at HR1
            go_wp2_with fail
            refine (Name_1 K nm HK.out.rd w1 HR1.out).mono ?_
            rintro e w2 ⟨rfl, hp⟩
            rw [HNR.out] at hp ⊢
            simp only at hp ⊢
            have HB2 := Aside0.mk (fun (B : Nat) (w0 : World) (q1 : B ≤ base) (q2 : B ≤ rb) (q : Below B w0 w) => hp.2.2 B w0 q2 (HB1.out B w0 q1 q2 q))
            have HS2 := Aside0.mk (HS1.out.kept hp.2.1 (fun b q1 q2 => HF.out (q2 ▸ q1)))
            have HR2 := Aside0.mk hp.1
            have HZ2 := Aside0.mk (Nat.le_trans HZ1.out hp.2.1.1)
            clear hp
            obtain ⟨A4, c4, B4, m4, h1, h2, h3, h4, h5, h6⟩ := HS2.out.cells
            have hc1 := blk_cell h1 1
            have H3 := Aside0.mk h3
            have hlk := lk_hd h5 x
            have HHM := Aside0.mk (And.intro h1 (And.intro h2 (And.intro h3 (And.intro h4 (And.intro h5 h6)))))
            clear h1 h2 h3 h4 h5 h6
            go_wp2_with (first | (first | ((with_reducible refine gate_dst (N := 29) rfl ?_); refine hm_look_ok rfl rfl rfl H3.out rfl HX.out ?_)))
            go_wp2_with fail
            refine (Word_1 HR2.out).mono ?_
            rintro e w3 ⟨rfl, hp⟩
            rw [HNM2.out] at hp ⊢
            simp only at hp ⊢
            have HB3 := Aside0.mk (fun (B : Nat) (w0 : World) (q1 : B ≤ base) (q2 : B ≤ rb) (q : Below B w0 w) => hp.2.2 B w0 q2 (HB2.out B w0 q1 q2 q))
            have HS3 := Aside0.mk (HS2.out.kept hp.2.1 (fun b q1 q2 => HF.out (q2 ▸ q1)))
            have HR3 := Aside0.mk hp.1
            have HZ3 := Aside0.mk (Nat.le_trans HZ2.out hp.2.1.1)
            clear hp
            go_wp2_with fail
            go_ret
            exact ⟨⟨HZ3.out, HB3.out⟩, rfl⟩
          · have c6b : decide ((4096 : Int) < n) = false := decide_eq_false c6
            rw [if_neg (by rintro (q | q); exact q rfl; exact c6 q)]
            have htl := take_le bs p2 n (by omega)
            obtain ⟨⟨b, p3, e3⟩, ht⟩ : ∃ q, q = takeR bs p2 n := ⟨_, rfl⟩
            have HTK := Aside0.mk ht.symm
            rw [← ht] at htl ⊢
            clear ht
            simp only at htl ⊢
            by_cases c7 : e3 = 0
            · subst c7
              rw [if_neg (by decide)]
              by_cases c9 : 16 < (putL x b s.L).length
              · have c9b : decide (((putL x b s.L).length : Int) ≤ 16) = false := decide_eq_false (by omega)
                rw [if_pos c9]
                go_enter Try.func56, Try.ntmps56
                go_wp2_with fail
                refine (Byte_1 HR0.out).mono ?_
                rintro e w1 ⟨rfl, hp⟩
                rw [numR_one bs a (by omega)] at hp ⊢
                rw [← HZR.out]
                have HB1 := Aside0.mk (fun (B : Nat) (w0 : World) (q1 : B ≤ base) (q2 : B ≤ rb) (q : Below B w0 w) => hp.2.2 B w0 q2 (HB0.out B w0 q1 q2 q))
                have HS1 := Aside0.mk (HS0.out.kept hp.2.1 (fun b q1 q2 => HF.out (q2 ▸ q1)))
                have HR1 := Aside0.mk hp.1
                have HZ1 := Aside0.mk (Nat.le_trans HZ0.out hp.2.1.1)
                clear hp
                simp only at HR1
                go_wp2_with fail
                refine (Name_1 K nm HK.out.rd w1 HR1.out).mono ?_
                rintro e w2 ⟨rfl, hp⟩
                rw [HNR.out] at hp ⊢
                simp only at hp ⊢
                have HB2 := Aside0.mk (fun (B : Nat) (w0 : World) (q1 : B ≤ base) (q2 : B ≤ rb) (q : Below B w0 w) => hp.2.2 B w0 q2 (HB1.out B w0 q1 q2 q))
                have HS2 := Aside0.mk (HS1.out.kept hp.2.1 (fun b q1 q2 => HF.out (q2 ▸ q1)))
                have HR2 := Aside0.mk hp.1
                have HZ2 := Aside0.mk (Nat.le_trans HZ1.out hp.2.1.1)
                clear hp
                obtain ⟨A4, c4, B4, m4, h1, h2, h3, h4, h5, h6⟩ := HS2.out.cells
                have hc1 := blk_cell h1 1
                have H3 := Aside0.mk h3
                have hlk := lk_hd h5 x
                have HHM := Aside0.mk (And.intro h1 (And.intro h2 (And.intro h3 (And.intro h4 (And.intro h5 h6)))))
                clear h1 h2 h3 h4 h5 h6
                go_wp2_with (first | (first | ((with_reducible refine gate_dst (N := 29) rfl ?_); refine hm_look_ok rfl rfl rfl H3.out rfl HX.out ?_)))
                go_wp2_with fail
                refine (Word_1 HR2.out).mono ?_
                rintro e w3 ⟨rfl, hp⟩
                rw [HNM2.out] at hp ⊢
                simp only at hp ⊢
                have HB3 := Aside0.mk (fun (B : Nat) (w0 : World) (q1 : B ≤ base) (q2 : B ≤ rb) (q : Below B w0 w) => hp.2.2 B w0 q2 (HB2.out B w0 q1 q2 q))
                have HS3 := Aside0.mk (HS2.out.kept hp.2.1 (fun b q1 q2 => HF.out (q2 ▸ q1)))
                have HR3 := Aside0.mk hp.1
                have HZ3 := Aside0.mk (Nat.le_trans HZ2.out hp.2.1.1)
                clear hp
                go_wp2_with fail
                refine (Take_1 HR3.out n).mono ?_
                rintro e w4 ⟨v, rfl, hp, hrv⟩
                rw [HTK.out] at hp hrv ⊢
                simp only at hp hrv ⊢
                have HRV := Aside0.mk hrv
                have HB4 := Aside0.mk (fun (B : Nat) (w0 : World) (q1 : B ≤ base) (q2 : B ≤ rb) (q : Below B w0 w) => hp.2.2 B w0 q2 (HB3.out B w0 q1 q2 q))
                have HS4 := Aside0.mk (HS3.out.kept hp.2.1 (fun b q1 q2 => HF.out (q2 ▸ q1)))
                have HR4 := Aside0.mk hp.1
                have HZ4 := Aside0.mk (Nat.le_trans HZ3.out hp.2.1.1)
                clear hp
                clear hrv
                obtain ⟨A5, c5, e5⟩ := Kd.R_slice HRV.out
                subst e5
                obtain ⟨A6, c6, B6, m6, h1, h2, h3, h4, h5, h6⟩ := HS4.out.cells
                have hc1 := blk_cell h1 1
                have H6 := Aside0.mk (And.intro h1 (And.intro h2 (And.intro h3 (And.intro h4 (And.intro h5 h6)))))
                have hne : some g ≠ some B6 := fun q => h3.ne h1 (by injection q with q; exact q.symm)
                have HLX := Aside0.mk h5
                have hgl := blk_lt h1
                have hle : (if (m6 x).isSome = true then s.L.length else s.L.length + 1) = (putL x b s.L).length := by rw [put_len x b HSR.out, HLX.out x]
                clear h1 h2 h3 h4 h5 h6
                go_wp2_with (first | (refine hm_store (k := x) (c := ⟨A5, b.length, c5⟩) rfl rfl rfl H6.out.2.2.1 (by show s.L.length < maxLen; have := HLL.out; unfold maxLen; omega) rfl rfl HX.out (hd_ok HRV.out) ?_; intro w7 hm7 hg7; rw [hle] at hm7; have HM7 := Aside0.mk hm7; have HG7 := Aside0.mk hg7; have hc1b := blk_cell ((hg7.block g hgl hne).trans H6.out.1) 1; clear hm7 hg7 hc1) | ((with_reducible refine gate_dst (N := 78) rfl ?_); refine hm_len rfl rfl rfl HM7.out ?_))
                have hlt4 := HS4.out.lt
                have hfs4 := HS4.out.fs
                have hp := SAt.put (F := fun k => F k ∨ (w.heap.size ≤ k ∧ k < w4.heap.size)) (W1 := w7) x b ⟨A5, b.length, c5⟩ HSR.out H6.out.1 (Kd.R_mono H6.out.2.1 (fun k q => .inl q)) H6.out.2.2.1 (.inl H6.out.2.2.2.1) H6.out.2.2.2.2.1 (fun y d hd xs hx => ⟨(H6.out.2.2.2.2.2 y d hd xs hx).1, (H6.out.2.2.2.2.2 y d hd xs hx).2.1, Kd.F_mono (H6.out.2.2.2.2.2 y d hd xs hx).2.2 (fun k q => ⟨.inl q.1, q.2⟩)⟩) (.inl hfs4) (fun k q => q.elim (fun q => hlt4 k q) (fun q => ⟨by have := HS0.out.lt g HS0.out.fs; omega, q.2⟩)) rfl (Kd.R_reads' HRV.out).2.1 (Kd.F_mono (Kd.R_F (Kd.R_bound HRV.out)) (fun k q => by
                  have h9 : w.heap.size ≤ k := Nat.le_trans HZ3.out q.2.1
                  refine ⟨.inr ⟨h9, q.2.2.1⟩, fun e => ?_, fun e => ?_, fun e => ?_⟩
                  · have := (HS0.out.lt k (H6.out.2.1.1 k e)).2
                    omega
                  · have := (HS0.out.lt _ H6.out.2.2.2.1).2
                    omega
                  · have := (HS0.out.lt _ HS0.out.fs).2
                    omega)) (by rw [hle]; exact HM7.out) HG7.out
                have hsz := HG7.out.size
                have hz := HZ4.out
                have hbel : ∀ (B : Nat) (w0 : World), B ≤ base → B ≤ rb → Below B w0 w → Below B w0 w7 := fun B w0 q1 q2 q => (HB4.out B w0 q1 q2 q).grown HG7.out (by have := hlt4 g hfs4; omega) (fun k hk => by
                  injection hk with hk
                  subst hk
                  have := (hlt4 _ H6.out.2.2.2.1).1
                  omega)
                go_wp2_with fail
                go_ret
                exact ⟨⟨by omega, hbel⟩, rfl⟩
              · have c9b : decide (((putL x b s.L).length : Int) ≤ 16) = true := decide_eq_true (by omega)
                rw [if_neg c9]
                go_enter Try.func56, Try.ntmps56
                go_wp2_with fail
                refine (Byte_1 HR0.out).mono ?_
                rintro e w1 ⟨rfl, hp⟩
                rw [numR_one bs a (by omega)] at hp ⊢
                rw [← HZR.out]
                have HB1 := Aside0.mk (fun (B : Nat) (w0 : World) (q1 : B ≤ base) (q2 : B ≤ rb) (q : Below B w0 w) => hp.2.2 B w0 q2 (HB0.out B w0 q1 q2 q))
                have HS1 := Aside0.mk (HS0.out.kept hp.2.1 (fun b q1 q2 => HF.out (q2 ▸ q1)))
                have HR1 := Aside0.mk hp.1
                have HZ1 := Aside0.mk (Nat.le_trans HZ0.out hp.2.1.1)
                clear hp
                simp only at HR1
                go_wp2_with fail
                refine (Name_1 K nm HK.out.rd w1 HR1.out).mono ?_
                rintro e w2 ⟨rfl, hp⟩
                rw [HNR.out] at hp ⊢
                simp only at hp ⊢
                have HB2 := Aside0.mk (fun (B : Nat) (w0 : World) (q1 : B ≤ base) (q2 : B ≤ rb) (q : Below B w0 w) => hp.2.2 B w0 q2 (HB1.out B w0 q1 q2 q))
                have HS2 := Aside0.mk (HS1.out.kept hp.2.1 (fun b q1 q2 => HF.out (q2 ▸ q1)))
                have HR2 := Aside0.mk hp.1
                have HZ2 := Aside0.mk (Nat.le_trans HZ1.out hp.2.1.1)
                clear hp
                obtain ⟨A4, c4, B4, m4, h1, h2, h3, h4, h5, h6⟩ := HS2.out.cells
                have hc1 := blk_cell h1 1
                have H3 := Aside0.mk h3
                have hlk := lk_hd h5 x
                have HHM := Aside0.mk (And.intro h1 (And.intro h2 (And.intro h3 (And.intro h4 (And.intro h5 h6)))))
                clear h1 h2 h3 h4 h5 h6
                go_wp2_with (first | (first | ((with_reducible refine gate_dst (N := 29) rfl ?_); refine hm_look_ok rfl rfl rfl H3.out rfl HX.out ?_)))
                go_wp2_with fail
                refine (Word_1 HR2.out).mono ?_
                rintro e w3 ⟨rfl, hp⟩
                rw [HNM2.out] at hp ⊢
                simp only at hp ⊢
                have HB3 := Aside0.mk (fun (B : Nat) (w0 : World) (q1 : B ≤ base) (q2 : B ≤ rb) (q : Below B w0 w) => hp.2.2 B w0 q2 (HB2.out B w0 q1 q2 q))
                have HS3 := Aside0.mk (HS2.out.kept hp.2.1 (fun b q1 q2 => HF.out (q2 ▸ q1)))
                have HR3 := Aside0.mk hp.1
                have HZ3 := Aside0.mk (Nat.le_trans HZ2.out hp.2.1.1)
                clear hp
                go_wp2_with fail
                refine (Take_1 HR3.out n).mono ?_
                rintro e w4 ⟨v, rfl, hp, hrv⟩
                rw [HTK.out] at hp hrv ⊢
                simp only at hp hrv ⊢
                have HRV := Aside0.mk hrv
                have HB4 := Aside0.mk (fun (B : Nat) (w0 : World) (q1 : B ≤ base) (q2 : B ≤ rb) (q : Below B w0 w) => hp.2.2 B w0 q2 (HB3.out B w0 q1 q2 q))
                have HS4 := Aside0.mk (HS3.out.kept hp.2.1 (fun b q1 q2 => HF.out (q2 ▸ q1)))
                have HR4 := Aside0.mk hp.1
                have HZ4 := Aside0.mk (Nat.le_trans HZ3.out hp.2.1.1)
                clear hp
                clear hrv
                obtain ⟨A5, c5, e5⟩ := Kd.R_slice HRV.out
                subst e5
                obtain ⟨A6, c6, B6, m6, h1, h2, h3, h4, h5, h6⟩ := HS4.out.cells
                have hc1 := blk_cell h1 1
                have H6 := Aside0.mk (And.intro h1 (And.intro h2 (And.intro h3 (And.intro h4 (And.intro h5 h6)))))
                have hne : some g ≠ some B6 := fun q => h3.ne h1 (by injection q with q; exact q.symm)
                have HLX := Aside0.mk h5
                have hgl := blk_lt h1
                have hle : (if (m6 x).isSome = true then s.L.length else s.L.length + 1) = (putL x b s.L).length := by rw [put_len x b HSR.out, HLX.out x]
                clear h1 h2 h3 h4 h5 h6
                go_wp2_with (first | (refine hm_store (k := x) (c := ⟨A5, b.length, c5⟩) rfl rfl rfl H6.out.2.2.1 (by show s.L.length < maxLen; have := HLL.out; unfold maxLen; omega) rfl rfl HX.out (hd_ok HRV.out) ?_; intro w7 hm7 hg7; rw [hle] at hm7; have HM7 := Aside0.mk hm7; have HG7 := Aside0.mk hg7; have hc1b := blk_cell ((hg7.block g hgl hne).trans H6.out.1) 1; clear hm7 hg7 hc1) | ((with_reducible refine gate_dst (N := 78) rfl ?_); refine hm_len rfl rfl rfl HM7.out ?_))
                have hlt4 := HS4.out.lt
                have hfs4 := HS4.out.fs
                have hp := SAt.put (F := fun k => F k ∨ (w.heap.size ≤ k ∧ k < w4.heap.size)) (W1 := w7) x b ⟨A5, b.length, c5⟩ HSR.out H6.out.1 (Kd.R_mono H6.out.2.1 (fun k q => .inl q)) H6.out.2.2.1 (.inl H6.out.2.2.2.1) H6.out.2.2.2.2.1 (fun y d hd xs hx => ⟨(H6.out.2.2.2.2.2 y d hd xs hx).1, (H6.out.2.2.2.2.2 y d hd xs hx).2.1, Kd.F_mono (H6.out.2.2.2.2.2 y d hd xs hx).2.2 (fun k q => ⟨.inl q.1, q.2⟩)⟩) (.inl hfs4) (fun k q => q.elim (fun q => hlt4 k q) (fun q => ⟨by have := HS0.out.lt g HS0.out.fs; omega, q.2⟩)) rfl (Kd.R_reads' HRV.out).2.1 (Kd.F_mono (Kd.R_F (Kd.R_bound HRV.out)) (fun k q => by
                  have h9 : w.heap.size ≤ k := Nat.le_trans HZ3.out q.2.1
                  refine ⟨.inr ⟨h9, q.2.2.1⟩, fun e => ?_, fun e => ?_, fun e => ?_⟩
                  · have := (HS0.out.lt k (H6.out.2.1.1 k e)).2
                    omega
                  · have := (HS0.out.lt _ H6.out.2.2.2.1).2
                    omega
                  · have := (HS0.out.lt _ HS0.out.fs).2
                    omega)) (by rw [hle]; exact HM7.out) HG7.out
                have hsz := HG7.out.size
                have hz := HZ4.out
                have hbel : ∀ (B : Nat) (w0 : World), B ≤ base → B ≤ rb → Below B w0 w → Below B w0 w7 := fun B w0 q1 q2 q => (HB4.out B w0 q1 q2 q).grown HG7.out (by have := hlt4 g hfs4; omega) (fun k hk => by
                  injection hk with hk
                  subst hk
                  have := (hlt4 _ H6.out.2.2.2.1).1
                  omega)
                go_wp2_with fail
                go_ret
                refine ⟨⟨by omega, hbel⟩, rfl, hp.more (fun k q => q.elim .inl (fun q => .inr ⟨q.1, by omega⟩)) (fun k q => ?_), HR4.out.map H6.out.2.2.1 HG7.out⟩
                rcases q with q | q
                · exact ⟨(hlt4 k q).1, by have := (hlt4 k q).2; omega⟩
                · exact ⟨by have := HS0.out.lt g HS0.out.fs; omega, q.2⟩
            · have c7b : (e3 != 0) = true := by simpa using c7
              rw [if_pos c7]
              go_enter Try.func56, Try.ntmps56
              go_wp2_with fail
              refine (Byte_1 HR0.out).mono ?_
              rintro e w1 ⟨rfl, hp⟩
              rw [numR_one bs a (by omega)] at hp ⊢
              rw [← HZR.out]
              have HB1 := Aside0.mk (fun (B : Nat) (w0 : World) (q1 : B ≤ base) (q2 : B ≤ rb) (q : Below B w0 w) => hp.2.2 B w0 q2 (HB0.out B w0 q1 q2 q))
              have HS1 := Aside0.mk (HS0.out.kept hp.2.1 (fun b q1 q2 => HF.out (q2 ▸ q1)))
              have HR1 := Aside0.mk hp.1
              have HZ1 := Aside0.mk (Nat.le_trans HZ0.out hp.2.1.1)
              clear hp
              simp only at HR1
              go_wp2_with fail
              refine (Name_1 K nm HK.out.rd w1 HR1.out).mono ?_
              rintro e w2 ⟨rfl, hp⟩
              rw [HNR.out] at hp ⊢
              simp only at hp ⊢
              have HB2 := Aside0.mk (fun (B : Nat) (w0 : World) (q1 : B ≤ base) (q2 : B ≤ rb) (q : Below B w0 w) => hp.2.2 B w0 q2 (HB1.out B w0 q1 q2 q))
              have HS2 := Aside0.mk (HS1.out.kept hp.2.1 (fun b q1 q2 => HF.out (q2 ▸ q1)))
              have HR2 := Aside0.mk hp.1
              have HZ2 := Aside0.mk (Nat.le_trans HZ1.out hp.2.1.1)
              clear hp
              obtain ⟨A4, c4, B4, m4, h1, h2, h3, h4, h5, h6⟩ := HS2.out.cells
              have hc1 := blk_cell h1 1
              have H3 := Aside0.mk h3
              have hlk := lk_hd h5 x
              have HHM := Aside0.mk (And.intro h1 (And.intro h2 (And.intro h3 (And.intro h4 (And.intro h5 h6)))))
              clear h1 h2 h3 h4 h5 h6
              go_wp2_with (first | (first | ((with_reducible refine gate_dst (N := 29) rfl ?_); refine hm_look_ok rfl rfl rfl H3.out rfl HX.out ?_)))
              go_wp2_with fail
              refine (Word_1 HR2.out).mono ?_
              rintro e w3 ⟨rfl, hp⟩
              rw [HNM2.out] at hp ⊢
              simp only at hp ⊢
              have HB3 := Aside0.mk (fun (B : Nat) (w0 : World) (q1 : B ≤ base) (q2 : B ≤ rb) (q : Below B w0 w) => hp.2.2 B w0 q2 (HB2.out B w0 q1 q2 q))
              have HS3 := Aside0.mk (HS2.out.kept hp.2.1 (fun b q1 q2 => HF.out (q2 ▸ q1)))
              have HR3 := Aside0.mk hp.1
              have HZ3 := Aside0.mk (Nat.le_trans HZ2.out hp.2.1.1)
              clear hp
              go_wp2_with fail
              refine (Take_1 HR3.out n).mono ?_
              rintro e w4 ⟨v, rfl, hp, hrv⟩
              rw [HTK.out] at hp hrv ⊢
              simp only at hp hrv ⊢
              have HRV := Aside0.mk hrv
              have HB4 := Aside0.mk (fun (B : Nat) (w0 : World) (q1 : B ≤ base) (q2 : B ≤ rb) (q : Below B w0 w) => hp.2.2 B w0 q2 (HB3.out B w0 q1 q2 q))
              have HS4 := Aside0.mk (HS3.out.kept hp.2.1 (fun b q1 q2 => HF.out (q2 ▸ q1)))
              have HR4 := Aside0.mk hp.1
              have HZ4 := Aside0.mk (Nat.le_trans HZ3.out hp.2.1.1)
              clear hp
              clear hrv
              go_wp2_with fail
              go_ret
              exact ⟨⟨HZ4.out, HB4.out⟩, rfl⟩
        · have c5b : (e2 != 0) = true := by simpa using c5
          rw [if_pos (.inl c5)]
          go_enter Try.func56, Try.ntmps56
          go_wp2_with fail
          refine (Byte_1 HR0.out).mono ?_
          rintro e w1 ⟨rfl, hp⟩
          rw [numR_one bs a (by omega)] at hp ⊢
          rw [← HZR.out]
          have HB1 := Aside0.mk (fun (B : Nat) (w0 : World) (q1 : B ≤ base) (q2 : B ≤ rb) (q : Below B w0 w) => hp.2.2 B w0 q2 (HB0.out B w0 q1 q2 q))
          have HS1 := Aside0.mk (HS0.out.kept hp.2.1 (fun b q1 q2 => HF.out (q2 ▸ q1)))
          have HR1 := Aside0.mk hp.1
          have HZ1 := Aside0.mk (Nat.le_trans HZ0.out hp.2.1.1)
          clear hp
          simp only at HR1
          go_wp2_with fail
          refine (Name_1 K nm HK.out.rd w1 HR1.out).mono ?_
          rintro e w2 ⟨rfl, hp⟩
          rw [HNR.out] at hp ⊢
          simp only at hp ⊢
          have HB2 := Aside0.mk (fun (B : Nat) (w0 : World) (q1 : B ≤ base) (q2 : B ≤ rb) (q : Below B w0 w) => hp.2.2 B w0 q2 (HB1.out B w0 q1 q2 q))
          have HS2 := Aside0.mk (HS1.out.kept hp.2.1 (fun b q1 q2 => HF.out (q2 ▸ q1)))
          have HR2 := Aside0.mk hp.1
          have HZ2 := Aside0.mk (Nat.le_trans HZ1.out hp.2.1.1)
          clear hp
          obtain ⟨A4, c4, B4, m4, h1, h2, h3, h4, h5, h6⟩ := HS2.out.cells
          have hc1 := blk_cell h1 1
          have H3 := Aside0.mk h3
          have hlk := lk_hd h5 x
          have HHM := Aside0.mk (And.intro h1 (And.intro h2 (And.intro h3 (And.intro h4 (And.intro h5 h6)))))
          clear h1 h2 h3 h4 h5 h6
          go_wp2_with (first | (first | ((with_reducible refine gate_dst (N := 29) rfl ?_); refine hm_look_ok rfl rfl rfl H3.out rfl HX.out ?_)))
          go_wp2_with fail
          refine (Word_1 HR2.out).mono ?_
          rintro e w3 ⟨rfl, hp⟩
          rw [HNM2.out] at hp ⊢
          simp only at hp ⊢
          have HB3 := Aside0.mk (fun (B : Nat) (w0 : World) (q1 : B ≤ base) (q2 : B ≤ rb) (q : Below B w0 w) => hp.2.2 B w0 q2 (HB2.out B w0 q1 q2 q))
          have HS3 := Aside0.mk (HS2.out.kept hp.2.1 (fun b q1 q2 => HF.out (q2 ▸ q1)))
          have HR3 := Aside0.mk hp.1
          have HZ3 := Aside0.mk (Nat.le_trans HZ2.out hp.2.1.1)
          clear hp
          go_wp2_with fail
          go_ret
          exact ⟨⟨HZ3.out, HB3.out⟩, rfl⟩
      · have c4b : (z != 1) = true := by simpa using c4
        rw [if_pos c4]
        go_enter Try.func56, Try.ntmps56
        go_wp2_with fail
        refine (Byte_1 HR0.out).mono ?_
        rintro e w1 ⟨rfl, hp⟩
        rw [numR_one bs a (by omega)] at hp ⊢
        rw [← HZR.out]
        have HB1 := Aside0.mk (fun (B : Nat) (w0 : World) (q1 : B ≤ base) (q2 : B ≤ rb) (q : Below B w0 w) => hp.2.2 B w0 q2 (HB0.out B w0 q1 q2 q))
        have HS1 := Aside0.mk (HS0.out.kept hp.2.1 (fun b q1 q2 => HF.out (q2 ▸ q1)))
        have HR1 := Aside0.mk hp.1
        have HZ1 := Aside0.mk (Nat.le_trans HZ0.out hp.2.1.1)
        clear hp
        simp only at HR1
        go_wp2_with fail
        refine (Name_1 K nm HK.out.rd w1 HR1.out).mono ?_
        rintro e w2 ⟨rfl, hp⟩
        rw [HNR.out] at hp ⊢
        simp only at hp ⊢
        have HB2 := Aside0.mk (fun (B : Nat) (w0 : World) (q1 : B ≤ base) (q2 : B ≤ rb) (q : Below B w0 w) => hp.2.2 B w0 q2 (HB1.out B w0 q1 q2 q))
        have HS2 := Aside0.mk (HS1.out.kept hp.2.1 (fun b q1 q2 => HF.out (q2 ▸ q1)))
        have HR2 := Aside0.mk hp.1
        have HZ2 := Aside0.mk (Nat.le_trans HZ1.out hp.2.1.1)
        clear hp
        obtain ⟨A4, c4, B4, m4, h1, h2, h3, h4, h5, h6⟩ := HS2.out.cells
        have hc1 := blk_cell h1 1
        have H3 := Aside0.mk h3
        have hlk := lk_hd h5 x
        have HHM := Aside0.mk (And.intro h1 (And.intro h2 (And.intro h3 (And.intro h4 (And.intro h5 h6)))))
        clear h1 h2 h3 h4 h5 h6
        go_wp2_with (first | (first | ((with_reducible refine gate_dst (N := 29) rfl ?_); refine hm_look_ok rfl rfl rfl H3.out rfl HX.out ?_)))
        go_wp2_with fail
        go_ret
        exact ⟨⟨HZ2.out, HB2.out⟩, rfl⟩
  · have c1b : (er != 0) = true := by simpa using c1
    rw [if_pos c1]
    go_enter Try.func56, Try.ntmps56
    go_wp2_with fail
    refine (Byte_1 HR0.out).mono ?_
    rintro e w1 ⟨rfl, hp⟩
    rw [numR_one bs a (by omega)] at hp ⊢
    rw [← HZR.out]
    have HB1 := Aside0.mk (fun (B : Nat) (w0 : World) (q1 : B ≤ base) (q2 : B ≤ rb) (q : Below B w0 w) => hp.2.2 B w0 q2 (HB0.out B w0 q1 q2 q))
    have HS1 := Aside0.mk (HS0.out.kept hp.2.1 (fun b q1 q2 => HF.out (q2 ▸ q1)))
    have HR1 := Aside0.mk hp.1
    have HZ1 := Aside0.mk (Nat.le_trans HZ0.out hp.2.1.1)
    clear hp
    simp only at HR1
    go_wp2_with fail
    refine (Name_1 K nm HK.out.rd w1 HR1.out).mono ?_
    rintro e w2 ⟨rfl, hp⟩
    rw [HNR.out] at hp ⊢
    simp only at hp ⊢
    have HB2 := Aside0.mk (fun (B : Nat) (w0 : World) (q1 : B ≤ base) (q2 : B ≤ rb) (q : Below B w0 w) => hp.2.2 B w0 q2 (HB1.out B w0 q1 q2 q))
    have HS2 := Aside0.mk (HS1.out.kept hp.2.1 (fun b q1 q2 => HF.out (q2 ▸ q1)))
    have HR2 := Aside0.mk hp.1
    have HZ2 := Aside0.mk (Nat.le_trans HZ1.out hp.2.1.1)
    clear hp
    obtain ⟨A4, c4, B4, m4, h1, h2, h3, h4, h5, h6⟩ := HS2.out.cells
    have hc1 := blk_cell h1 1
    have H3 := Aside0.mk h3
    have hlk := lk_hd h5 x
    have HHM := Aside0.mk (And.intro h1 (And.intro h2 (And.intro h3 (And.intro h4 (And.intro h5 h6)))))
    clear h1 h2 h3 h4 h5 h6
    go_wp2_with (first | (first | ((with_reducible refine gate_dst (N := 29) rfl ?_); refine hm_look_ok rfl rfl rfl H3.out rfl HX.out ?_)))
    go_wp2_with fail
    go_ret
    exact ⟨⟨HZ2.out, HB2.out⟩, rfl⟩
end
end Go.Proofs.Ytfakdphkklclgaa.P

end

section
namespace Go.Proofs.Ytfakdphkklclgaa.P
open Go.RowKit Go.Proofs.YtfakdphkklclgaaW.PrintWords Go.Proofs.YtfakdphkklclgaaW.PrintLast Go.Proofs.YtfakdphkklclgaaW.PrintMore
attribute [local go_sem] max2_int min2_int max_two min_two max_three min_three max_four min_four
set_option linter.unusedVariables false
set_option linter.unusedSimpArgs false
section
open Go.ChangeMaps Go.MapKept
set_option linter.unusedVariables false
theorem SAt.fresh {base g : Nat} {F : Nat → Prop} {s : Sto} {W W1 : World} {img : List Int} {v : Value} (h : SAt base F g s W) (hb : Below W.heap.size W W1) (hR : Kd.R (Kd.int .u8) 5 W1 W.heap.size (fun _ => True) v img) : SAt base (fun b => F b ∨ (W.heap.size ≤ b ∧ b < W1.heap.size)) g ⟨img, s.L⟩ (W1.setCell ⟨g, 0, none⟩ v) := by
  have hlt := h.lt
  have hfg := h.fs
  obtain ⟨A, c, B, m, h1, h2, h3, h4, h5, h6⟩ := h.cells
  have hs := setCell_size W1 ⟨g, 0, none⟩ v
  have g1 := blk_below h1 hb
  have hsz := hb.size
  refine ⟨⟨v, B, m, blk_set g1 0 v, ?_, (h3.block (hb.block B h3.lt)).block (Below.heap_setCell _ _ _ B (h3.ne h1)), .inl h4, h5, fun x d hd xs hx => ?_⟩, .inl hfg, fun b q => ?_⟩
  · exact Kd.R_set (Kd.R_lower (Kd.R_mono (Kd.R_bound hR) (fun b q => .inr ⟨q.2.1, q.2.2.1⟩)) (by have := hlt g hfg; omega)) g1 (by decide) 0 v
  · obtain ⟨q1, q2, q3⟩ := h6 x d hd xs hx
    refine ⟨q1, q2, Kd.F_mono (Kd.F_far (Kd.F_below (Kd.F_bound q3) hb) (fun k hk => hk.1.2.2.2) v) (fun b q => ⟨.inl q.1.1, fun e => ?_, q.1.2.2⟩)⟩
    have := Kd.R_base_ hR b e
    have := q.2
    omega
  · rw [hs]
    rcases q with q | q
    · exact ⟨(hlt b q).1, by have := (hlt b q).2; omega⟩
    · exact ⟨by have := hlt g hfg; omega, q.2⟩
theorem nameR_go (nm : ByteArray → Bool) (bs : List Int) (a : Nat) (h : (nameR nm bs a).2.2 = 0) : a < (nameR nm bs a).2.1 ∧ (nameR nm bs a).2.1 ≤ bs.length := by
  unfold nameR at h ⊢
  split
  · rename_i c; rw [if_pos c] at h; cases h
  · rename_i c; rw [if_neg c] at h
    split
    · rename_i c2; rw [if_pos c2] at h; cases h
    · rename_i c2; rw [if_neg c2] at h
      split
      · rename_i c3; rw [if_pos c3] at h; cases h
      · rename_i c3; rw [if_neg c3] at h
        split
        · simp only; omega
        · rename_i c4; rw [if_neg c4] at h; cases h
theorem numR_go (k : Nat) (bs : List Int) (a : Nat) (h : (numR k bs a).2.2 = 0) : (numR k bs a).2.1 = a + k ∧ a + k ≤ bs.length := by
  unfold numR at h ⊢
  split
  · rename_i c; rw [if_pos c] at h; cases h
  · exact ⟨rfl, by omega⟩
theorem takeR_go (bs : List Int) (a : Nat) (n : Int) (ha : a ≤ bs.length) (h : (takeR bs a n).2.2 = 0) : a ≤ (takeR bs a n).2.1 ∧ (takeR bs a n).2.1 ≤ bs.length := by
  unfold takeR at h ⊢
  split
  · rename_i c; rw [if_pos c] at h; cases h
  · rename_i c; rw [if_neg c] at h
    split
    · rename_i c2; rw [if_pos c2] at h; cases h
    · simp only; omega
theorem recS_go {nm : ByteArray → Bool} {bs : List Int} {L : List S101} {a : Nat} {q : List S101 × Nat} (h : recS nm bs L a = some q) (hs : Srt L) (hl : L.length ≤ 16) : a < q.2 ∧ q.2 ≤ bs.length ∧ Srt q.1 ∧ q.1.length ≤ 16 := by
  unfold recS at h
  have h1 := nameR_go nm bs (a + 1)
  obtain ⟨⟨x, p, er⟩, hnr⟩ : ∃ q, q = nameR nm bs (a + 1) := ⟨_, rfl⟩
  rw [← hnr] at h h1
  simp only at h h1
  by_cases c1 : er ≠ 0
  · rw [if_pos c1] at h; cases h
  rw [if_neg c1] at h
  have h1 := h1 (by simpa using c1)
  by_cases c2 : rd bs (a : Int) = 2 ∧ (lkL L x).isSome = true
  · rw [if_pos c2] at h
    cases h
    exact ⟨by simp only; omega, h1.2, hs.sublist (cut_sub x L), Nat.le_trans (cut_sub x L).length_le hl⟩
  rw [if_neg c2] at h
  by_cases c3 : rd bs (a : Int) ≠ 1
  · rw [if_pos c3] at h; cases h
  rw [if_neg c3] at h
  have h2 := numR_go 2 bs p
  obtain ⟨⟨n, p2, e2⟩, hn⟩ : ∃ q, q = numR 2 bs p := ⟨_, rfl⟩
  rw [← hn] at h h2
  simp only at h h2
  by_cases c4 : e2 ≠ 0 ∨ 4096 < n
  · rw [if_pos c4] at h; cases h
  rw [if_neg c4] at h
  have h2 := h2 (by simpa using fun q => c4 (.inl q))
  have h3 := takeR_go bs p2 n (by omega)
  obtain ⟨⟨b, p3, e3⟩, ht⟩ : ∃ q, q = takeR bs p2 n := ⟨_, rfl⟩
  rw [← ht] at h h3
  simp only at h h3
  by_cases c5 : e3 ≠ 0
  · rw [if_pos c5] at h; cases h
  rw [if_neg c5] at h
  have h3 := h3 (by simpa using c5)
  by_cases c6 : 16 < (putL x b L).length
  · rw [if_pos c6] at h; cases h
  rw [if_neg c6] at h
  cases h
  exact ⟨by simp only; omega, h3.2, put_srt x b hs, by simp only; omega⟩
def openG (nm : ByteArray → Bool) (bs : List Int) : Nat → List S101 → Nat → Option (List S101 × Nat)
  | 0, _, _ => none
  | k + 1, L, a => if a < bs.length ∧ rd bs (a : Int) ≠ 0 then match recS nm bs L a with
      | none => none
      | some q => openG nm bs k q.1 q.2
    else some (L, a)
def openS (nm : ByteArray → Bool) (bs : List Int) : Option Sto := if 1048576 < bs.length then none else (openG nm bs (bs.length + 1) [] 0).map fun q => ⟨bs.take q.2, q.1⟩
def OpenPost (w : World) (out : Option Sto) (e : Ending) (w' : World) : Prop := Below w.heap.size w w' ∧ match out with
  | none => e = .returned (.tuple #[.pointer none, .int .i64 210])
  | some s => ∃ g, e = .returned (.tuple #[.pointer (some ⟨g, 0, none⟩), .int .i64 0]) ∧ SAt w.heap.size (fun b => w.heap.size ≤ b ∧ b < w'.heap.size) g s w'
set_option maxHeartbeats 12800000 in
set_option maxRecDepth 100000 in
theorem Open_st (K : Nat) (nm : ByteArray → Bool) (hK : StFacts K nm) (A0 : Option Addr) (c0 : Nat) (l0 : List Int) (w : World) (hr0 : Kd.C (Kd.int .u8) w A0 l0.length l0) (hc0 : l0.length ≤ c0) (hby : ∀ x ∈ l0, 0 ≤ x ∧ x ≤ 255) : Calls Try.prog 26 #[.slice A0 l0.length c0] w fun e w' => OpenPost w (openS nm l0) e w' := by
  have HR0 := Aside0.mk hr0
  have HC0 := Aside0.mk hc0
  have HK := Aside0.mk hK
  have HBY := Aside0.mk hby
  clear hr0 hc0 hK hby
  by_cases c1 : 1048576 < l0.length
  · have c1b : decide ((1048576 : Int) < (l0.length : Int)) = true := decide_eq_true (by omega)
    unfold openS
    rw [if_pos c1]
    go_enter Try.func26, Try.ntmps26
    go_wp2_with fail
    go_ret2
    exact ⟨Below.refl _ _, rfl⟩
  · have c1b : decide ((1048576 : Int) < (l0.length : Int)) = false := decide_eq_false (by omega)
    obtain ⟨res, hres⟩ : ∃ r, openG nm l0 (l0.length + 1) [] 0 = r := ⟨_, rfl⟩
    have hos : openS nm l0 = res.map fun q => ⟨l0.take q.2, q.1⟩ := by
      unfold openS
      rw [if_neg c1, hres]
    rw [hos]
    clear hos
    have HRES := Aside0.mk hres
    clear hres
    go_enter Try.func26, Try.ntmps26
    go_wp2_with fail
    refine (New_st w).mono ?_
    rintro e w1 ⟨g, rfl, hs, hb⟩
    have HS := Aside0.mk hs
    have HB := Aside0.mk hb
    clear hs hb
    go_wp2_with fail
    refine (Over_calls A0 c0 l0 w1 (Kd.C_below HR0.out HB.out) HC0.out (by omega)).mono ?_
    rintro e w2 ⟨rb, rfl, hrd, hb⟩
    have hrb := hrd.ge
    have HRD := Aside0.mk (show Rd1 w1.heap.size rb l0 0 w2 from ⟨hrd, HBY.out, by omega⟩)
    have hrl : rb < w2.heap.size := by
      obtain ⟨v, h3, _⟩ := hrd.now
      exact blk_lt h3
    have HRB := Aside0.mk (show w1.heap.size ≤ rb ∧ w.heap.size ≤ w1.heap.size from ⟨hrb, HB.out.size⟩)
    replace HS := Aside0.mk (show SAt w.heap.size (fun b => w.heap.size ≤ b ∧ b < w2.heap.size ∧ b ≠ rb) g ⟨[], []⟩ w2 from (HS.out.step hb).more (fun b q => ⟨q.1, Nat.lt_of_lt_of_le q.2 hb.size, by have := q.2; omega⟩) (fun b q => ⟨q.1, q.2.1⟩))
    replace HB := Aside0.mk (below_step HB.out hb)
    clear hrd hb hrb hrl
    go_wp2_with fail
    obtain ⟨k, hk⟩ : ∃ k, k = l0.length + 1 := ⟨_, rfl⟩
    rw [← hk] at HRES
    have HFU := Aside0.mk (show l0.length - 0 < k by omega)
    have HSL := Aside0.mk (show Srt [] ∧ ([] : List S101).length ≤ 16 from ⟨List.Pairwise.nil, by decide⟩)
    clear hk
    go_loopg [3] k (fun kq v3 wr => ∃ (L : List S101) (a : Nat), Aside0 (SAt w.heap.size (fun b => w.heap.size ≤ b ∧ b < wr.heap.size ∧ b ≠ rb) g ⟨[], L⟩ wr) ∧ Aside0 (Rd1 w1.heap.size rb l0 a wr) ∧ Aside0 (Below w.heap.size w wr) ∧ Aside0 (openG nm l0 kq L a = res) ∧ Aside0 (Srt L ∧ L.length ≤ 16) ∧ Aside0 (l0.length - a < kq))
    case atStart => exact ⟨[], 0, HS, HRD, HB, HRES, HSL, HFU⟩
    case round =>
      clear HS HRD HB HRES HSL HFU
      obtain ⟨L, a, HS, HRD, HB, HRES, HSL, HFU⟩ := hrel
      cases gk with
      | zero => exact absurd HFU.out (by omega)
      | succ gk =>
      have hgo := HRES.out
      unfold openG at hgo
      have hale := HRD.out.rd.le
      go_wp2_with fail
      refine (Left_rd HRD.out.rd).mono ?_
      rintro e w3 ⟨rfl, k3, rfl⟩
      by_cases c2 : a < l0.length
      · have c2b : decide ((l0.length : Int) - (a : Int) > 0) = true := decide_eq_true (by omega)
        obtain ⟨ad, eA, _⟩ := HR0.out.2.2 (by omega)
        subst eA
        have hcell := Kd.foot_int (Kd.C_below (Kd.C_below HR0.out HB.out) (pw_below_drewN (Below.refl wr.heap.size wr) k3)) (a : Int) (by omega) (by omega)
        go_wp2_with fail
        refine (At_rd (HRD.out.rd.drewN k3)).mono ?_
        rintro e w4 ⟨rfl, k4, rfl⟩
        rw [Int.toNat_natCast] at hcell
        replace hcell := show (wr.drewN (k3 + k4)).cell? (ad.add a) = _ from hcell
        obtain ⟨z, hz⟩ : ∃ z, z = rd l0 (a : Int) := ⟨_, rfl⟩
        rw [← hz] at hcell hgo
        have HS4 := Aside0.mk (HS.out.step (pw_below_drewN (Below.refl _ _) (k3 + k4)))
        have HR4 := Aside0.mk (HRD.out.drewN (k3 + k4))
        have HB4 := Aside0.mk (pw_below_drewN HB.out (k3 + k4))
        by_cases c3 : z = 0
        · subst c3
          rw [if_neg (fun q => q.2 rfl)] at hgo
          go_wp2_with fail
          have hres : res = some (L, a) := hgo.symm
          subst hres
          clear hgo
          refine (At_rd (HRD.out.rd.drewN (k3 + k4))).mono ?_
          rintro e w6 ⟨rfl, k6, rfl⟩
          have hcap : a ≤ c0 := by have := HC0.out; omega
          have hta : (l0.take a).length = a := by rw [List.length_take]; omega
          have hC6 := Kd.C_take (Kd.C_below HR0.out (pw_below_drewN HB.out ((k3 + k4) + k6))) hale
          rw [hta] at hC6
          have HC6 := Aside0.mk hC6
          clear hC6
          go_wp2_with fail
          have hcl := cloned_calls (some ad) c0 (l0.take a) (wr.drewN ((k3 + k4) + k6)) (by rw [hta]; exact HC6.out) (by rw [hta]; omega)
          rw [hta] at hcl
          refine hcl.mono ?_
          rintro e w8 ⟨v, rfl, hR8, hb8⟩
          have HS8 := Aside0.mk (SAt.fresh (HS.out.step (pw_below_drewN (Below.refl _ _) ((k3 + k4) + k6))) hb8 hR8)
          have HB8 := Aside0.mk (below_step (pw_below_drewN HB.out ((k3 + k4) + k6)) hb8)
          obtain ⟨A9, c9, B9, m9, g1, _⟩ := HS.out.cells
          have hI := blk_below (blk_drewN g1 ((k3 + k4) + k6)) hb8
          have hcI := blk_cell hI 0
          have hfI := blk_frozen hI 0
          have hg9 := HS.out.lt g HS.out.fs
          have hz8 : wr.heap.size ≤ w8.heap.size := hb8.size
          obtain ⟨A10, c10, e10⟩ := Kd.R_slice hR8
          rw [hta] at e10
          subst e10
          clear hcl hR8 hb8 g1 hI
          go_wp2_with fail
          go_ret2
          refine ⟨HB8.out.setCell (show w.heap.size ≤ g from hg9.1) _, g, rfl, HS8.out.more (fun b q => ?_) (fun b q => q)⟩
          rw [setCell_size]
          rcases q with q | q
          · exact ⟨q.1, Nat.lt_of_lt_of_le q.2.1 hz8⟩
          · have h9 : w.heap.size ≤ wr.heap.size := by omega
            have h8 : wr.heap.size ≤ b := q.1
            exact ⟨Nat.le_trans h9 h8, q.2⟩
        · have c3b : (z != 0) = true := by simpa using c3
          rw [if_pos ⟨c2, c3⟩] at hgo
          have HGO := Aside0.mk hgo
          clear hgo hz
          go_wp2_with fail
          refine (record_st (base2 := w1.heap.size) K nm HK.out HSL.out.1 HSL.out.2 c2 HR4.out (fun q => q.2.2 rfl) HS4.out).mono ?_
          rintro e w5 ⟨⟨hz5, hb5⟩, hp⟩
          have HZ5 := Aside0.mk (show wr.heap.size ≤ w5.heap.size from hz5)
          have HB5 := Aside0.mk (hb5 w.heap.size w (Nat.le_refl _) (by have := HRB.out; omega) HB4.out)
          clear hb5 hz5
          cases hrec : recS nm l0 L a with
          | none =>
            rw [hrec] at hp
            simp only at hp
            subst hp
            have hn : res = none := by
              have := HGO.out
              rw [hrec] at this
              exact this.symm
            subst hn
            go_wp2_with fail
            go_ret2
            exact ⟨HB5.out, rfl⟩
          | some q =>
            rw [hrec] at hp
            obtain ⟨rfl, hs5, hr5⟩ := hp
            have hq := recS_go hrec HSL.out.1 HSL.out.2
            have HGO2 := Aside0.mk (show openG nm l0 gk q.1 q.2 = res by have := HGO.out; rw [hrec] at this; exact this)
            have HSL2 := Aside0.mk (And.intro hq.2.2.1 hq.2.2.2)
            have HFU2 := Aside0.mk (show l0.length - q.2 < gk by have := HFU.out; omega)
            have hrw : rb < wr.heap.size := by
              obtain ⟨v, h3, _⟩ := HRD.out.rd.now
              exact blk_lt h3
            have hlt5 := hs5.lt
            have hww : wr.heap.size ≤ w5.heap.size := HZ5.out
            have HS5 := Aside0.mk (hs5.more (F' := fun b => w.heap.size ≤ b ∧ b < w5.heap.size ∧ b ≠ rb) (fun b q => q.elim (fun q => ⟨q.1, by have : b < wr.heap.size := q.2.1; omega, q.2.2⟩) (fun q => ⟨by have := HB4.out.size; omega, q.2, by have : wr.heap.size ≤ b := q.1; omega⟩)) (fun b q => ⟨q.1, q.2.1⟩))
            have HR5 := Aside0.mk hr5
            clear hs5 hr5 hq hrec hrw hlt5 hww HGO
            go_wp2_with fail
            go_roundg gk
            case measure => omega
            case rel => exact ⟨q.1, q.2, HS5, HR5, HB5, HGO2, HSL2, HFU2⟩
      · have c2b : decide ((l0.length : Int) - (a : Int) > 0) = false := decide_eq_false (by omega)
        have k4 : Nat := 0
        rw [if_neg (fun q => c2 q.1)] at hgo
        go_wp2_with fail
        have hres : res = some (L, a) := hgo.symm
        subst hres
        clear hgo
        refine (At_rd (HRD.out.rd.drewN k3)).mono ?_
        rintro e w6 ⟨rfl, k6, rfl⟩
        have hcap : a ≤ c0 := by have := HC0.out; omega
        have hta : (l0.take a).length = a := by rw [List.length_take]; omega
        have hC6 := Kd.C_take (Kd.C_below HR0.out (pw_below_drewN HB.out (k3 + k6))) hale
        rw [hta] at hC6
        have HC6 := Aside0.mk hC6
        clear hC6
        go_wp2_with fail
        have hcl := cloned_calls A0 c0 (l0.take a) (wr.drewN (k3 + k6)) (by rw [hta]; exact HC6.out) (by rw [hta]; omega)
        rw [hta] at hcl
        refine hcl.mono ?_
        rintro e w8 ⟨v, rfl, hR8, hb8⟩
        have HS8 := Aside0.mk (SAt.fresh (HS.out.step (pw_below_drewN (Below.refl _ _) (k3 + k6))) hb8 hR8)
        have HB8 := Aside0.mk (below_step (pw_below_drewN HB.out (k3 + k6)) hb8)
        obtain ⟨A9, c9, B9, m9, g1, _⟩ := HS.out.cells
        have hI := blk_below (blk_drewN g1 (k3 + k6)) hb8
        have hcI := blk_cell hI 0
        have hfI := blk_frozen hI 0
        have hg9 := HS.out.lt g HS.out.fs
        have hz8 : wr.heap.size ≤ w8.heap.size := hb8.size
        obtain ⟨A10, c10, e10⟩ := Kd.R_slice hR8
        rw [hta] at e10
        subst e10
        clear hcl hR8 hb8 g1 hI
        go_wp2_with fail
        go_ret2
        refine ⟨HB8.out.setCell (show w.heap.size ≤ g from hg9.1) _, g, rfl, HS8.out.more (fun b q => ?_) (fun b q => q)⟩
        rw [setCell_size]
        rcases q with q | q
        · exact ⟨q.1, Nat.lt_of_lt_of_le q.2.1 hz8⟩
        · have h9 : w.heap.size ≤ wr.heap.size := by omega
          have h8 : wr.heap.size ≤ b := q.1
          exact ⟨Nat.le_trans h9 h8, q.2⟩
end
end Go.Proofs.Ytfakdphkklclgaa.P

end

section
namespace Go.Proofs.Ytfakdphkklclgaa.P
open Go.RowKit Go.Proofs.YtfakdphkklclgaaW.PrintWords Go.Proofs.YtfakdphkklclgaaW.PrintLast Go.Proofs.YtfakdphkklclgaaW.PrintMore
attribute [local go_sem] max2_int min2_int max_two min_two max_three min_three max_four min_four
set_option linter.unusedVariables false
set_option linter.unusedSimpArgs false
section
theorem bytes_rng (s : ByteArray) : ∀ z ∈ bytesOf s, 0 ≤ z ∧ z ≤ 255 := by
  intro z hz
  unfold bytesOf at hz
  obtain ⟨u, _, rfl⟩ := List.mem_map.1 hz
  have := u.toNat_lt
  omega
theorem bytes_len (s : ByteArray) : (bytesOf s).length = s.size := by unfold bytesOf; simp [Lib.toList_data]
theorem rec_rng (kind : Int) (hk : 0 ≤ kind ∧ kind ≤ 255) (x : ByteArray) (b : List Int) (hb : ∀ z ∈ b, 0 ≤ z ∧ z ≤ 255) : ∀ z ∈ recB kind x b, 0 ≤ z ∧ z ≤ 255 := by
  intro z hz
  unfold recB at hz
  rcases List.mem_append.1 hz with hz | hz
  · rcases List.mem_append.1 hz with hz | hz
    · rcases List.mem_cons.1 hz with rfl | hz
      · exact hk
      · rw [List.mem_singleton.1 hz]; omega
    · exact bytes_rng x z hz
  · split at hz
    · rcases List.mem_append.1 hz with hz | hz
      · rcases List.mem_cons.1 hz with rfl | hz
        · omega
        · rw [List.mem_singleton.1 hz]; omega
      · exact hb z hz
    · cases hz
theorem laid_cases (s : Sto) (l : List S101) (r : List Int) : (laidS s l r).1 = s ∨ (s.img.length + r.length + 1 ≤ 1048576 ∧ (laidS s l r).1 = ⟨s.img ++ r, l⟩) := by
  unfold laidS
  split
  · exact .inl rfl
  · exact .inr ⟨by omega, rfl⟩
theorem good_put {nm : ByteArray → Bool} {s : Sto} (h : Good nm s) (x : ByteArray) (b : List Int) (hb : ∀ z ∈ b, 0 ≤ z ∧ z ≤ 255) : Good nm (putS nm s x b).1 := by
  unfold putS
  by_cases c1 : nm x = false
  · rw [if_pos c1]; exact h
  rw [if_neg c1]
  by_cases c2 : 4096 < b.length
  · rw [if_pos c2]; exact h
  rw [if_neg c2]
  by_cases c3 : lkL s.L x = none ∧ 16 ≤ s.L.length
  · rw [if_pos c3]; exact h
  rw [if_neg c3]
  rcases laid_cases s (putL x b s.L) (recB 1 x b) with e | ⟨hl, e⟩
  · rw [e]; exact h
  rw [e]
  refine ⟨by show (s.img ++ _).length ≤ _; rw [List.length_append]; omega, fun z hz => ?_, ?_, put_srt x b h.srt, fun k hk => ?_, fun k hk => ?_⟩
  · rcases List.mem_append.1 hz with hz | hz
    · exact h.by_ z hz
    · exact rec_rng 1 (by decide) x b hb z hz
  · show (putL x b s.L).length ≤ 16
    rw [put_len x b h.srt]
    have := h.len
    split
    · omega
    · rename_i c4
      have : lkL s.L x = none := by cases hq : lkL s.L x with
        | none => rfl
        | some y => rw [hq] at c4; exact absurd rfl c4
      have : ¬ 16 ≤ s.L.length := fun q => c3 ⟨this, q⟩
      omega
  · rcases put_mem hk with rfl | hk
    · simpa using c1
    · exact h.nam k hk
  · rcases put_mem hk with rfl | hk
    · exact ⟨by show b.length ≤ 4096; omega, hb⟩
    · exact h.val k hk
theorem good_drop {nm : ByteArray → Bool} {s : Sto} (h : Good nm s) (x : ByteArray) : Good nm (dropS nm s x).1 := by
  unfold dropS
  by_cases c1 : nm x = false
  · rw [if_pos c1]; exact h
  rw [if_neg c1]
  by_cases c2 : lkL s.L x = none
  · rw [if_pos c2]; exact h
  rw [if_neg c2]
  rcases laid_cases s (cutL x s.L) (recB 2 x []) with e | ⟨hl, e⟩
  · rw [e]; exact h
  rw [e]
  have hsub := cut_sub x s.L
  refine ⟨by show (s.img ++ _).length ≤ _; rw [List.length_append]; omega, fun z hz => ?_, Nat.le_trans hsub.length_le h.len, h.srt.sublist hsub, fun k hk => h.nam k (hsub.subset hk), fun k hk => h.val k (hsub.subset hk)⟩
  rcases List.mem_append.1 hz with hz | hz
  · exact h.by_ z hz
  · exact rec_rng 2 (by decide) x [] (fun _ q => by cases q) z hz
theorem good_new (nm : ByteArray → Bool) : Good nm ⟨[], []⟩ := ⟨by decide, fun _ h => (by cases h), by decide, List.Pairwise.nil, fun _ h => (by cases h), fun _ h => (by cases h)⟩
theorem lk_at {L : List S101} (h : Srt L) (i : Nat) (hi : i < L.length) : lkL L L[i].f0 = some L[i].f1 := by
  induction L generalizing i with
  | nil => cases hi
  | cons k l ih =>
    obtain ⟨h1, h2⟩ := List.pairwise_cons.1 h
    cases i with
    | zero => show (if k.f0 = k.f0 then _ else _) = _; rw [if_pos rfl]; rfl
    | succ i =>
      unfold lkL
      rw [if_neg]
      · exact ih h2 i (by simpa using hi)
      · intro e
        have hi' : i < l.length := by simpa using hi
        have := h1 (l[i]'hi') (List.getElem_mem _)
        rw [e] at this
        simp only [List.getElem_cons_succ] at this
        rw [lessB_irr] at this
        cases this
end
end Go.Proofs.Ytfakdphkklclgaa.P

end

section
namespace Go.Proofs.Ytfakdphkklclgaa.P
open Go.RowKit Go.Proofs.YtfakdphkklclgaaW.PrintWords Go.Proofs.YtfakdphkklclgaaW.PrintLast Go.Proofs.YtfakdphkklclgaaW.PrintMore
attribute [local go_sem] max2_int min2_int max_two min_two max_three min_three max_four min_four
set_option linter.unusedVariables false
set_option linter.unusedSimpArgs false
section
open Go.ChangeMaps Go.MapKept
set_option linter.unusedVariables false
section
variable {ops : Array Oper} {rest : List Oper} {o : Oper} {a : Act} {Q : Exit → Act → World → Prop}
theorem below_bytes (W : World) (e : TypeId) (s : ByteArray) : Below W.heap.size W (Lib.bytesWorld W e s) := by
  have h1 : Below W.heap.size W (W.drew.alloc (.cells (Lib.bytesCells W e s) e)) := by
    have := below_alloc (w := W.drew) (W := W.drew) (Below.refl _ _) (.cells (Lib.bytesCells W e s) e)
    exact below_step (below_drew (Below.refl _ _)) this
  refine ⟨h1.os, h1.tape, h1.output, ?_, fun k hk => ?_⟩
  · rw [Lib.bytesWorld_size]; omega
  · exact Lib.bytesWorld_at_old W e s k hk
theorem conv_str (hgd : o.guard = none) {x : Operand} (ho : o.op = .convert 9 23 x) {s : ByteArray} (hx : a.eval x = .string s) {W : World} (hl : s.size ≤ 9223372036854775807)
    (h : ∀ g c w1, g = W.heap.size → Kd.C (Kd.int .u8) w1 (some ⟨g, 0, none⟩) s.size (bytesOf s) → Below W.heap.size W w1 → wpList Try.prog ops Q rest (a.put o.dst (.slice (some ⟨g, 0, none⟩) s.size c)) w1) : wpList Try.prog ops Q (o :: rest) a W :=
  Kd.event_run hgd (by
    unfold execOp
    simp only [ho, hx, Sem.run_bind, Lib.run_convert_string_bytes (P := Try.prog) W 9 23 5 s Try.underlying9 Try.underlying23 Try.underlying5, Result.andThen_ok, Sem.run_pure]) (h W.heap.size (grownCap W s.size 0 5) _ rfl ⟨bytesOf_length s, hl, fun _ => ⟨⟨W.heap.size, 0, none⟩, rfl, fun j p hj => ⟨[.int .u8 p], rfl, rfl, fun i u hu => by
      cases i with
      | zero =>
        obtain rfl := Option.some.inj hu
        have hj1 : j < s.size := by
          have := (List.getElem?_eq_some_iff.1 hj).1
          rw [bytesOf_length] at this
          exact this
        have hc := Lib.bytesWorld_cell W 5 s j hj1
        have hp : p = ((s.data.toList.getD j 0).toNat : Int) := by
          unfold bytesOf at hj
          rw [List.getElem?_map] at hj
          rw [List.getD_eq_getElem?_getD]
          cases hq : s.data.toList[j]? with
          | none => rw [hq] at hj; cases hj
          | some b => rw [hq] at hj; exact (Option.some.inj hj).symm
        rw [← hp] at hc
        rcases Nat.eq_zero_or_pos j with rfl | hj0
        · simpa [Addr.add, show (Kd.int .u8).sz = 1 from rfl] using hc
        · have : ¬ j = 0 := by omega
          simpa [Addr.add, show (Kd.int .u8).sz = 1 from rfl, this] using hc
      | succ i => cases hu⟩⟩⟩ (below_bytes W 5 s))
end
theorem two_own (W : World) (x y : Int) (base : Nat) (hb : base ≤ W.heap.size) : Kd.R (Kd.int .u8) 5 (W.alloc (.cells #[.int .u8 x, .int .u8 y] 5)) base (fun _ => True) (.slice (some ⟨W.heap.size, 0, none⟩) 2 2) [x, y] :=
  ⟨fun _ _ => trivial, nums .u8 [x, y], ⟨rfl, .inr ⟨W.heap.size, 2, #[.int .u8 x, .int .u8 y], rfl, hb, blk_new _ _, Nat.le_refl 2, by decide, rfl, rfl⟩⟩, Kd.reps_scalar (enc := Value.int .u8) [x, y]⟩
theorem one_own2 (W : World) (x : Int) (base : Nat) (hb : base ≤ W.heap.size) : Kd.R (Kd.int .u8) 5 (W.alloc (.cells #[.int .u8 x] 5)) base (fun _ => True) (.slice (some ⟨W.heap.size, 0, none⟩) 1 1) [x] := Kd.R_lower (R_of_nums (one_own W x)) hb
theorem nil_own (W : World) (base : Nat) (hb : base ≤ W.heap.size) : Kd.R (Kd.int .u8) 5 (W.alloc (.cells #[] 5)) base (fun _ => True) (.slice (some ⟨W.heap.size, 0, none⟩) 0 0) [] :=
  ⟨fun _ _ => trivial, nums .u8 [], ⟨rfl, .inr ⟨W.heap.size, 0, #[], rfl, hb, blk_new _ _, by decide, by decide, rfl, rfl⟩⟩, Kd.reps_scalar (enc := Value.int .u8) []⟩
set_option maxHeartbeats 6400000 in
set_option maxRecDepth 100000 in
theorem record_d (kind : Int) (hkind : kind = 1 ∨ kind = 2) (x : ByteArray) (hx : x.size ≤ 24) (b : List Int) (hb : b.length ≤ 4096) (A : Option Addr) (c : Nat) (w : World) (hr : Kd.C (Kd.int .u8) w A b.length b) : Calls Try.prog 45 #[.int .u8 kind, .string x, .slice A b.length c] w fun e w' => ∃ v, e = .returned v ∧ Kd.R (Kd.int .u8) 5 w' w.heap.size (fun _ => True) v (recB kind x b) ∧ Below w.heap.size w w' := by
  have HC := Aside0.mk hr
  have hwr : IntKind.u8.wrap (x.size : Int) = (x.size : Int) % 256 := by simp [IntKind.wrap, IntKind.signed, IntKind.bits]
  clear hr
  obtain ⟨out, hout⟩ : ∃ out, out = recB kind x b := ⟨_, rfl⟩
  rw [← hout]
  unfold recB at hout
  have HT0 := Aside0.mk (two_own w kind ((x.size : Int) % 256) w.heap.size (Nat.le_refl _))
  have HB0 := Aside0.mk (below_alloc (Below.refl w.heap.size w) (.cells #[.int .u8 kind, .int .u8 ((x.size : Int) % 256)] 5))
  by_cases c1 : kind = 1
  · subst c1
    rw [if_pos rfl] at hout
    go_enter Try.func45, Try.ntmps45
    go_wp2_with (first | (refine conv_str rfl rfl rfl (by omega) ?_; refine halt_at ?_))
    unfold Halt_
    intro g1 cg w1 hg1 hC1 hb1
    replace hb1 := show Below (w.alloc (.cells #[.int .u8 1, .int .u8 ((x.size : Int) % 256)] 5)).heap.size (w.alloc (.cells #[.int .u8 1, .int .u8 ((x.size : Int) % 256)] 5)) w1 by simpa using hb1
    have HR1 := Aside0.mk (Kd.R_below HT0.out hb1)
    have HB1 := Aside0.mk (below_step HB0.out hb1)
    have HC1 := Aside0.mk hC1
    clear hb1 hC1
    have hbl := bytesOf_length x
    go_wp2_with ((with_reducible refine gate_builtin (b := .append) (xs := #[.tmp 12, .tmp 14]) rfl ?_); at_builtin; refine halt_at ?_)
    unfold Halt_
    refine Kd.R_append_rows (Kd.int .u8) (w0 := w1) w.heap.size rfl (.tmp 12) (.tmp 14) 23 5 (.int .u8 0) 1 rfl Try.underlying23 info5 rfl (by decide) (by omega) (.slice (some ⟨w.heap.size, 0, none⟩) 2 2) ([1, (x.size : Int) % 256]) (bytesOf x) (some ⟨g1, 0, none⟩) (x.size) (cg) (fun _ => True) (fun _ => False) rfl rfl HR1.out HC1.out (fun _ _ h => h) (fun _ h => h.elim) (fun _ _ => trivial) (Below.refl _ _) (HB1.out.size) (by simp; omega) ?_
    intro v2 w2 ho hb2 hg hat
    obtain ⟨A2, c2, e2⟩ := Kd.R_slice ho
    have hl2 : ([1, (x.size : Int) % 256] ++ bytesOf x).length = x.size + 2 := by rw [List.length_append, hbl]; simp; omega
    rw [hl2] at e2
    subst e2
    have HR2 := Aside0.mk ho
    have HB2 := Aside0.mk (HB1.out.trans hb2)
    clear ho hb2 hg hat
    have hw1 : IntKind.u8.wrap ((b.length : Int) / 256) = (b.length : Int) / 256 % 256 := by simp [IntKind.wrap, IntKind.signed, IntKind.bits]
    have hw2 : IntKind.u8.wrap (b.length : Int) = (b.length : Int) % 256 := by simp [IntKind.wrap, IntKind.signed, IntKind.bits]
    go_wp2_with ((with_reducible refine gate_builtin (b := .append) (xs := #[.tmp 18, .tmp 26]) rfl ?_); at_builtin; refine halt_at ?_)
    unfold Halt_
    have ht3 := two_own w2 ((b.length : Int) / 256 % 256) ((b.length : Int) % 256) w2.heap.size (Nat.le_refl _)
    have hb3 := below_alloc (Below.refl w2.heap.size w2) (.cells #[.int .u8 ((b.length : Int) / 256 % 256), .int .u8 ((b.length : Int) % 256)] 5)
    have hR3 := Kd.R_alloc HR2.out (.cells #[.int .u8 ((b.length : Int) / 256 % 256), .int .u8 ((b.length : Int) % 256)] 5)
    generalize (w2.alloc (.cells #[.int .u8 ((b.length : Int) / 256 % 256), .int .u8 ((b.length : Int) % 256)] 5)) = w3 at ht3 hb3 hR3 ⊢
    have HC3 := Aside0.mk (Kd.R_reads' ht3).2.2
    have HR3 := Aside0.mk hR3
    have HB3 := Aside0.mk (below_step HB2.out hb3)
    clear ht3 hb3 hR3
    refine Kd.R_append_rows (Kd.int .u8) (w0 := w3) w.heap.size rfl (.tmp 18) (.tmp 26) 23 5 (.int .u8 0) 1 rfl Try.underlying23 info5 rfl (by decide) (by omega) (.slice A2 (x.size + 2) c2) ([1, (x.size : Int) % 256] ++ bytesOf x) ([(b.length : Int) / 256 % 256, (b.length : Int) % 256]) (some ⟨w2.heap.size, 0, none⟩) (2) (2) (fun _ => True) (fun _ => False) rfl rfl HR3.out HC3.out (fun _ _ h => h) (fun _ h => h.elim) (fun _ _ => trivial) (Below.refl _ _) (HB3.out.size) (by rw [hl2]; omega) ?_
    intro v4 w4 ho hb4 hg hat
    obtain ⟨A4, c4, e4⟩ := Kd.R_slice ho
    have hl4 : ([1, (x.size : Int) % 256] ++ bytesOf x ++ [(b.length : Int) / 256 % 256, (b.length : Int) % 256]).length = x.size + 4 := by rw [List.length_append, hl2]; simp
    rw [hl4] at e4
    subst e4
    have HR4 := Aside0.mk ho
    have HB4 := Aside0.mk (HB3.out.trans hb4)
    clear ho hb4 hg hat
    go_wp2_with ((with_reducible refine gate_builtin (b := .append) (xs := #[.tmp 28, .tmp 29]) rfl ?_); at_builtin; refine halt_at ?_)
    unfold Halt_
    refine Kd.R_append_rows (Kd.int .u8) (w0 := w4) w.heap.size rfl (.tmp 28) (.tmp 29) 23 5 (.int .u8 0) 1 rfl Try.underlying23 info5 rfl (by decide) (by omega) (.slice A4 (x.size + 4) c4) ([1, (x.size : Int) % 256] ++ bytesOf x ++ [(b.length : Int) / 256 % 256, (b.length : Int) % 256]) (b) (A) (b.length) (c) (fun _ => True) (fun _ => False) rfl rfl HR4.out (Kd.C_below HC.out HB4.out) (fun _ _ h => h) (fun _ h => h.elim) (fun _ _ => trivial) (Below.refl _ _) (HB4.out.size) (by rw [hl4]; omega) ?_
    intro v5 w5 ho hb5 hg hat
    have HR5 := Aside0.mk ho
    have HB5 := Aside0.mk (HB4.out.trans hb5)
    clear ho hb5 hg hat
    go_wp2_with fail
    go_ret
    subst hout
    exact ⟨_, rfl, by rw [← List.append_assoc]; exact HR5.out, HB5.out⟩
  · have c2 : kind = 2 := by omega
    subst c2
    rw [if_neg (by decide)] at hout
    go_enter Try.func45, Try.ntmps45
    go_wp2_with (first | (refine conv_str rfl rfl rfl (by omega) ?_; refine halt_at ?_))
    unfold Halt_
    intro g1 cg w1 hg1 hC1 hb1
    replace hb1 := show Below (w.alloc (.cells #[.int .u8 2, .int .u8 ((x.size : Int) % 256)] 5)).heap.size (w.alloc (.cells #[.int .u8 2, .int .u8 ((x.size : Int) % 256)] 5)) w1 by simpa using hb1
    have HR1 := Aside0.mk (Kd.R_below HT0.out hb1)
    have HB1 := Aside0.mk (below_step HB0.out hb1)
    have HC1 := Aside0.mk hC1
    clear hb1 hC1
    have hbl := bytesOf_length x
    go_wp2_with ((with_reducible refine gate_builtin (b := .append) (xs := #[.tmp 12, .tmp 14]) rfl ?_); at_builtin; refine halt_at ?_)
    unfold Halt_
    refine Kd.R_append_rows (Kd.int .u8) (w0 := w1) w.heap.size rfl (.tmp 12) (.tmp 14) 23 5 (.int .u8 0) 1 rfl Try.underlying23 info5 rfl (by decide) (by omega) (.slice (some ⟨w.heap.size, 0, none⟩) 2 2) ([2, (x.size : Int) % 256]) (bytesOf x) (some ⟨g1, 0, none⟩) (x.size) (cg) (fun _ => True) (fun _ => False) rfl rfl HR1.out HC1.out (fun _ _ h => h) (fun _ h => h.elim) (fun _ _ => trivial) (Below.refl _ _) (HB1.out.size) (by simp; omega) ?_
    intro v2 w2 ho hb2 hg hat
    obtain ⟨A2, c2, e2⟩ := Kd.R_slice ho
    have hl2 : ([2, (x.size : Int) % 256] ++ bytesOf x).length = x.size + 2 := by rw [List.length_append, hbl]; simp; omega
    rw [hl2] at e2
    subst e2
    have HR2 := Aside0.mk ho
    have HB2 := Aside0.mk (HB1.out.trans hb2)
    clear ho hb2 hg hat
    go_wp2_with fail
    go_ret
    subst hout
    rw [List.append_nil]
    exact ⟨_, rfl, HR2.out, HB2.out⟩
end
end Go.Proofs.Ytfakdphkklclgaa.P

end

section
namespace Go.Proofs.Ytfakdphkklclgaa.P
open Go.RowKit Go.Proofs.YtfakdphkklclgaaW.PrintWords Go.Proofs.YtfakdphkklclgaaW.PrintLast Go.Proofs.YtfakdphkklclgaaW.PrintMore
attribute [local go_sem] max2_int min2_int max_two min_two max_three min_three max_four min_four
set_option linter.unusedVariables false
set_option linter.unusedSimpArgs false
section
open Go.ChangeMaps Go.MapKept
set_option linter.unusedVariables false
structure DAt (Z : Nat → Prop) (x : Value) (s : Sto) (W : World) : Prop where
  now : ∃ (A0 : Option Addr) (c0 : Nat) (A1 : Option Addr) (c1 : Nat), x = .agg #[.slice A0 s.img.length c0, .slice A1 s.L.length c1] ∧ s.img.length ≤ c0 ∧ s.L.length ≤ c1 ∧ Kd.F (Kd.int .u8) W Z A0 s.img.length s.img ∧ Kd.F k101 W Z A1 s.L.length s.L
section
variable {Z Z' S : Nat → Prop} {x : Value} {s : Sto} {W W1 : World}
theorem DAt.step (h : DAt Z x s W) (hb : Below W.heap.size W W1) : DAt Z x s W1 := by
  obtain ⟨A0, c0, A1, c1, h1, h2, h3, h4, h5⟩ := h
  exact ⟨A0, c0, A1, c1, h1, h2, h3, Kd.F_below h4 hb, Kd.F_below h5 hb⟩
theorem DAt.kept (h : DAt Z x s W) (hk : Kept W W1 S) (hS : ∀ b, Z b → ¬ S b) : DAt Z x s W1 := by
  obtain ⟨A0, c0, A1, c1, h1, h2, h3, h4, h5⟩ := h
  exact ⟨A0, c0, A1, c1, h1, h2, h3, Kd.F_kept h4 hk hS, Kd.F_kept h5 hk hS⟩
theorem DAt.mono (h : DAt Z x s W) (hZ : ∀ b, Z b → Z' b) : DAt Z' x s W := by
  obtain ⟨A0, c0, A1, c1, h1, h2, h3, h4, h5⟩ := h
  exact ⟨A0, c0, A1, c1, h1, h2, h3, Kd.F_mono h4 hZ, Kd.F_mono h5 hZ⟩
theorem DAt.bound (h : DAt Z x s W) : DAt (fun b => Z b ∧ b < W.heap.size) x s W := by
  obtain ⟨A0, c0, A1, c1, h1, h2, h3, h4, h5⟩ := h
  exact ⟨A0, c0, A1, c1, h1, h2, h3, Kd.F_bound h4, Kd.F_bound h5⟩
theorem DAt.zero (Z : Nat → Prop) (W : World) : DAt Z (.agg #[.slice none 0 0, .slice none 0 0]) ⟨[], []⟩ W := ⟨none, 0, none, 0, rfl, Nat.le_refl _, Nat.le_refl _, Kd.F_nil _ _ _, Kd.F_nil _ _ _⟩
end
def DWr (Z : Nat → Prop) (m : Value) (ws : List S52) (W : World) : Prop := ∃ A c, m = .slice A ws.length c ∧ ws.length ≤ c ∧ Kd.F k52 W Z A ws.length ws
theorem DWr.kept {Z S : Nat → Prop} {m : Value} {ws : List S52} {W W1 : World} (h : DWr Z m ws W) (hk : Kept W W1 S) (hS : ∀ b, Z b → ¬ S b) : DWr Z m ws W1 := by
  obtain ⟨A, c, h1, h2, h3⟩ := h
  exact ⟨A, c, h1, h2, Kd.F_kept h3 hk hS⟩
theorem DWr.step {Z : Nat → Prop} {m : Value} {ws : List S52} {W W1 : World} (h : DWr Z m ws W) (hb : Below W.heap.size W W1) : DWr Z m ws W1 := by
  obtain ⟨A, c, h1, h2, h3⟩ := h
  exact ⟨A, c, h1, h2, Kd.F_below h3 hb⟩
theorem DWr.mono {Z Z' : Nat → Prop} {m : Value} {ws : List S52} {W : World} (h : DWr Z m ws W) (hZ : ∀ b, Z b → Z' b) : DWr Z' m ws W := by
  obtain ⟨A, c, h1, h2, h3⟩ := h
  exact ⟨A, c, h1, h2, Kd.F_mono h3 hZ⟩
theorem DWr.nil (Z : Nat → Prop) (W : World) : DWr Z (.slice none 0 0) [] W := ⟨none, 0, rfl, Nat.le_refl _, Kd.F_nil _ _ _⟩
def DPost (Z : Nat → Prop) (w : World) (out : Sto × List S52 × Int) (e : Ending) (w' : World) : Prop := ∃ (y m : Value), e = .returned (.tuple #[y, m, .int .i64 out.2.2]) ∧ DAt (fun k => Z k ∨ (w.heap.size ≤ k ∧ k < w'.heap.size)) y out.1 w' ∧ DWr (fun k => w.heap.size ≤ k ∧ k < w'.heap.size) m out.2.1 w' ∧ Below w.heap.size w w'
theorem Rws.old {w0 W W1 : World} {l : List (Nat × TypeId × Array Value)} (h : Rws w0 l W) {B : Nat} (hB : ∀ p ∈ l, p.1 < B) (hb : Below B W W1) (hw : w0.heap.size ≤ B) : Rws w0 l W1 := ⟨fun p hp => ⟨(hb.block _ (hB p hp)).trans (h.lies p hp).1, (h.lies p hp).2⟩, h.ne, h.below.trans (hb.mono hw)⟩
theorem rw_allocS {P : Program} {ops : Array Oper} {rest : List Oper} {o : Oper} {a : Act} {Q : Exit → Act → World → Prop} (hgd : o.guard = none) (ty : TypeId) (ho : o.op = .alloc ty) {cs : Array Value} (hz : (P.info? ty).map (·.zero) = some (some (.agg cs))) {w0 W : World} {l : List (Nat × TypeId × Array Value)} (hl : Rws w0 l W)
    (h : ∀ g w1, g = W.heap.size → Rws w0 ((g, ty, cs) :: l) w1 → Below W.heap.size W w1 → wpList P ops Q rest (a.put o.dst (.pointer (some ⟨g, 0, none⟩))) w1) : wpList P ops Q (o :: rest) a W :=
  wpList_plain hgd fun _ hK => rw_alloc_wp ty ho hz hl (fun g w1 h1 h2 h3 => hK _ _ (h g w1 h1 h2 h3))
theorem rw_storeS {P : Program} {ops : Array Oper} {rest : List Oper} {o : Oper} {a : Act} {Q : Exit → Act → World → Prop} (hgd : o.guard = none) (ty : TypeId) {x y : Operand} (ho : o.op = .store ty x y) {g : Nat} (hx : a.eval x = .pointer (some ⟨g, 0, none⟩)) {cs' : Array Value} (hy : a.eval y = .agg cs') {w0 W : World} (l1 : List (Nat × TypeId × Array Value)) {l2 : List (Nat × TypeId × Array Value)} {cs : Array Value} (hl : Rws w0 (l1 ++ (g, ty, cs) :: l2) W) (hi : (P.info? ty).map (·.size) = some cs'.size) (hs : cs.size = cs'.size) (h1 : cs'.all (·.oneCell') = true)
    (h : ∀ w1, Rws w0 (l1 ++ (g, ty, cs') :: l2) w1 → Kept W w1 (fun k => k = g) → wpList P ops Q rest (a.put o.dst undef) w1) : wpList P ops Q (o :: rest) a W :=
  wpList_plain hgd fun _ hK => rw_store_wp ty ho hx hy l1 hl hi hs h1 (fun w1 h2 h3 => hK _ _ (h w1 h2 h3))
theorem WrAt.foot {S1 S2 : Nat} {v : Value} {at_ : Int} {r0 r1 : List Int} {W W' : World} (h : WrAt S1 S2 v at_ r0 r1 W) (hW : ∀ k, (S1 ≤ k ∧ k < S2) → k < W.heap.size → W'.heap[k]? = W.heap[k]?) : WrAt S1 S2 v at_ r0 r1 W' := by
  obtain ⟨b0, v1, v2, h1, h2, h3, h4, h5, h6, h7⟩ := h
  exact ⟨b0, v1, v2, h1, (hW b0 ⟨h6, h7⟩ (blk_lt h2)).trans h2, Kd.R_step h3 hW, Kd.R_step h4 hW, h5, h6, h7⟩
theorem DWr_of {S1 S2 : Nat} {v : Value} {at_ : Int} {r0 r1 : List Int} {W : World} (h : WrAt S1 S2 v at_ r0 r1 W) : DWr (fun k => S1 ≤ k ∧ k < S2) v [⟨at_, r0⟩, ⟨at_, r1⟩] W := by
  obtain ⟨b0, h1, _⟩ := h.reads
  refine ⟨_, 2, h1, Nat.le_refl _, fun W' hW => ?_⟩
  obtain ⟨b1, h2, h3⟩ := (h.foot hW).reads
  rw [h1] at h2
  injection h2 with h2
  injection h2 with h2
  injection h2 with h2
  subst h2
  exact h3
theorem one_at {W : World} {gk : Nat} {z : Int} (h : W.heap[gk]? = some (.cells #[.int .u8 z] 5 (0, 0))) {base : Nat} (hb : base ≤ gk) {ok : Nat → Prop} (hok : ok gk) : Kd.R (Kd.int .u8) 5 W base ok (.slice (some ⟨gk, 0, none⟩) 1 1) [z] :=
  ⟨fun k hk => by injection hk with hk; rw [← hk]; exact hok, nums .u8 [z], ⟨rfl, .inr ⟨gk, 1, #[.int .u8 z], rfl, hb, h, Nat.le_refl 1, by decide, rfl, rfl⟩⟩, Kd.reps_scalar (enc := Value.int .u8) [z]⟩
theorem laid_end {Z : Nat → Prop} {s : Sto} {w w2 w9 W : World} {l : List S101} {A1 A6 A9 : Option Addr} {c1 c6 c9 : Nat} {r rr : List Int} {b3 b6 gk gm : Nat} {cs3 : Array Value} (hL : Kd.F k101 w Z A1 l.length l) (hc1 : l.length ≤ c1) (hM : Rws w [(b6, 29, #[.slice A9 (s.img.length + r.length) c9, .slice A1 l.length c1]), (b3, 29, cs3)] W) (hK : Kept w9 W (fun k => k = b6)) (hl9 : b6 < w2.heap.size ∧ w2.heap.size ≤ w9.heap.size)
    (hgk : W.heap[gk]? = some (.cells #[.int .u8 (rd r 0)] 5 (0, 0))) (hgm : W.heap[gm]? = some (.cells #[.int .i64 (s.img.length : Int), .slice A6 (r.length + 1) c6, .int .i64 (s.img.length : Int), .slice (some ⟨gk, 0, none⟩) 1 1] 52 (0, 0))) (he1 : w9.heap.size ≤ gk) (he2 : w9.heap.size ≤ gm)
    (h6 : Kd.R (Kd.int .u8) 5 w9 w2.heap.size (fun _ => True) (.slice A6 (r.length + 1) c6) rr) (h9 : Kd.R (Kd.int .u8) 5 w9 w2.heap.size (fun _ => True) (.slice A9 (s.img.length + r.length) c9) (s.img ++ r)) (hz : w.heap.size ≤ w2.heap.size) :
    DPost Z w (⟨s.img ++ r, l⟩, [⟨(s.img.length : Int), rr⟩, ⟨(s.img.length : Int), [rd r 0]⟩], 0) (.returned (.tuple #[.agg #[.slice A9 (s.img.length + r.length) c9, .slice A1 l.length c1], .slice (some ⟨gm, 0, none⟩) 2 2, .int .i64 0])) W := by
  have hb := hM.below
  have hg1 := blk_lt hgk
  have hg2 := blk_lt hgm
  have hR9 := Kd.R_kept (Kd.R_bound h9) hK (fun k q e => by have := q.2.1; omega)
  have hR6 := Kd.R_kept (Kd.R_bound h6) hK (fun k q e => by have := q.2.1; omega)
  have hlen : (s.img ++ r).length = s.img.length + r.length := List.length_append
  have hw : WrAt w.heap.size W.heap.size (.slice (some ⟨gm, 0, none⟩) 2 2) (s.img.length : Int) rr [rd r 0] W := by
    refine ⟨gm, _, _, rfl, hgm, Kd.R_lower (Kd.R_mono hR6 (fun k q => ⟨Nat.le_trans hz q.2.1, ?_⟩)) hz, one_at hgk (by omega) ⟨by omega, hg1⟩, fun b e e2 => ?_, by omega, hg2⟩
    · have h8 : k < w9.heap.size := q.2.2.1
      have := hK.1
      omega
    · have h8 := Kd.R_lt h6 b e
      have e3 : some gk = some b := e2
      injection e3 with e3
      omega
  refine ⟨_, _, rfl, ⟨A9, c9, A1, c1, by rw [hlen], by rw [hlen]; exact (Kd.R_reads' h9).2.1, hc1, ?_, Kd.F_mono (Kd.F_below hL hb) (fun k q => .inl q)⟩, DWr_of hw, hb⟩
  have hF := Kd.R_F (Kd.R_bound hR9)
  rw [hlen]
  exact Kd.F_mono hF (fun k q => .inr ⟨Nat.le_trans hz q.2.1, q.2.2.1⟩)
end
end Go.Proofs.Ytfakdphkklclgaa.P
end

