/- Proved: the law StoreLast holds for every input that the row lets in. No condition of ours. -/
import Derived.Test.YtfakdphkklclgaaBStoreLastc
import Derived.Shelf.SlIter.Nil
import Derived.Shelf.SortM.Plain
import Derived.Shelf.SortM.SortNone
import Derived.Ground.GgzProg
import Derived.Ground.SlgmProg
section
namespace Go.Proofs.Ytfakdphkklclgaa.P
open Go.RowKit Go.Proofs.YtfakdphkklclgaaW.PrintWords Go.Proofs.YtfakdphkklclgaaW.PrintLast Go.Proofs.YtfakdphkklclgaaW.PrintMore
attribute [local go_sem] max2_int min2_int max_two min_two max_three min_three max_four min_four
set_option linter.unusedVariables false
set_option linter.unusedSimpArgs false
structure RdFacts (K : Nat) (nm : ByteArray → Bool) : Prop where
  num : ∀ (k : Nat) bs (a : Nat), (k = 1 ∨ k = 2 ∨ k = 4) → (∀ x ∈ bs, 0 ≤ x ∧ x ≤ 255) → bs.length ≤ 140737488351232 → a ≤ bs.length → provisoref01_Number.f K bs (a : Int) (k : Int) = some ((numR k bs a).1, ((numR k bs a).2.1 : Int), (numR k bs a).2.2)
  take : ∀ bs (a : Nat) (n : Int), (∀ x ∈ bs, 0 ≤ x ∧ x ≤ 255) → bs.length ≤ 140737488351232 → a ≤ bs.length → provisoref01_Take.f K bs (a : Int) n = some ((takeR bs a n).1, ((takeR bs a n).2.1 : Int), (takeR bs a n).2.2)
  name : ∀ s, wire_IsName.f K s = some (nm s)
  rname : ∀ s, provisoref01_IsName.f K s = some (nm s)
  eq : ∀ xs : List Int, xs.length ≤ 140737488351232 → slices_Equal_byte_byte.f K xs xs = some true
theorem seg_len (bs : List Int) (a n : Nat) (h : a + n ≤ bs.length) : (seg bs a n).length = n := by unfold seg; rw [List.length_drop, List.length_take]; omega
structure Rd1 (base g : Nat) (bs : List Int) (at_ : Nat) (W : World) : Prop where
  rd : RdAt base g bs at_ W
  by_ : ∀ x ∈ bs, 0 ≤ x ∧ x ≤ 255
  lim : bs.length ≤ 140737488351232
def RP (base g : Nat) (bs : List Int) (k : Nat) (W w' : World) : Prop := Rd1 base g bs k w' ∧ Kept W w' (fun b => b = g) ∧ ∀ (B : Nat) (w0 : World), B ≤ g → Below B w0 W → Below B w0 w'
section
variable {base g at_ : Nat} {bs : List Int} {W w' W1 : World}
theorem Rd1.step (h : Rd1 base g bs at_ W) (hb : Below W.heap.size W W1) : Rd1 base g bs at_ W1 := ⟨h.rd.step hb, h.by_, h.lim⟩
theorem Rd1.drewN (h : Rd1 base g bs at_ W) (m : Nat) : Rd1 base g bs at_ (W.drewN m) := ⟨h.rd.drewN m, h.by_, h.lim⟩
theorem RP.step {k : Nat} (h : RP base g bs k W w') (hb : Below w'.heap.size w' W1) : RP base g bs k W W1 :=
  ⟨h.1.step hb, h.2.1.below hb, fun B w0 hB hw => (h.2.2 B w0 hB hw).trans (hb.mono (by
    obtain ⟨v, h3, _⟩ := h.1.rd.now
    have := blk_lt h3
    omega))⟩
theorem RP.drew {k : Nat} (h : RP base g bs k W W1) (m : Nat) : RP base g bs k W (W1.drewN m) := ⟨h.1.drewN m, h.2.1.drewN m, fun B w0 hB hb => pw_below_drewN (h.2.2 B w0 hB hb) m⟩
theorem RP.cells {k : Nat} (h : RP base g bs k W W1) : ∃ v, W1.heap[g]? = some (.cells #[v, .int .i64 (k : Int), .bool true] 118 (0, 0)) := by
  obtain ⟨v, h1, _⟩ := h.1.rd.now
  exact ⟨v, h1⟩
end
end Go.Proofs.Ytfakdphkklclgaa.P

end

section
namespace Go.Proofs.Ytfakdphkklclgaa.P
open Go.RowKit Go.Proofs.YtfakdphkklclgaaW.PrintWords Go.Proofs.YtfakdphkklclgaaW.PrintLast Go.Proofs.YtfakdphkklclgaaW.PrintMore
attribute [local go_sem] max2_int min2_int max_two min_two max_three min_three max_four min_four
set_option linter.unusedVariables false
set_option linter.unusedSimpArgs false
section
open Go.ChangeMaps Go.MapKept
structure Sto where
  img : List Int
  L : List S101
def lessB (a b : ByteArray) : Bool := Op.bytesLess a.toList b.toList
def lkL : List S101 → ByteArray → Option (List Int)
  | [], _ => none
  | k :: l, x => if k.f0 = x then some k.f1 else lkL l x
def putL (x : ByteArray) (b : List Int) : List S101 → List S101
  | [] => [⟨x, b⟩]
  | k :: l => if lessB k.f0 x = true then k :: putL x b l else if k.f0 = x then ⟨x, b⟩ :: l else ⟨x, b⟩ :: k :: l
def cutL (x : ByteArray) : List S101 → List S101
  | [] => []
  | k :: l => if lessB k.f0 x = true then k :: cutL x l else if k.f0 = x then l else k :: l
def posL (x : ByteArray) (L : List S101) : Nat := (L.takeWhile fun k => lessB k.f0 x).length
def Srt (L : List S101) : Prop := L.Pairwise fun a b => lessB a.f0 b.f0 = true
def recB (kind : Int) (x : ByteArray) (b : List Int) : List Int := [kind, (x.size : Int) % 256] ++ bytesOf x ++ (if kind = 1 then [(b.length : Int) / 256 % 256, (b.length : Int) % 256] ++ b else [])
def laidS (s : Sto) (l : List S101) (r : List Int) : Sto × List S52 × Int :=
  if 1048576 < s.img.length + r.length + 1 then (s, [], 7) else (⟨s.img ++ r, l⟩, [⟨(s.img.length : Int), [0] ++ r.drop 1 ++ [0]⟩, ⟨(s.img.length : Int), [rd r 0]⟩], 0)
def putS (nm : ByteArray → Bool) (s : Sto) (x : ByteArray) (b : List Int) : Sto × List S52 × Int :=
  if nm x = false then (s, [], 6) else if 4096 < b.length then (s, [], 4) else if lkL s.L x = none ∧ 16 ≤ s.L.length then (s, [], 7) else laidS s (putL x b s.L) (recB 1 x b)
def dropS (nm : ByteArray → Bool) (s : Sto) (x : ByteArray) : Sto × List S52 × Int :=
  if nm x = false then (s, [], 6) else if lkL s.L x = none then (s, [], 211) else laidS s (cutL x s.L) (recB 2 x [])
def getS (nm : ByteArray → Bool) (s : Sto) (x : ByteArray) : List Int × Int :=
  if nm x = false then ([], 6) else match lkL s.L x with
    | none => ([], 211)
    | some b => (b, 0)
structure Good (nm : ByteArray → Bool) (s : Sto) : Prop where
  img : s.img.length ≤ 1048576
  by_ : ∀ x ∈ s.img, 0 ≤ x ∧ x ≤ 255
  len : s.L.length ≤ 16
  srt : Srt s.L
  nam : ∀ k ∈ s.L, nm k.f0 = true
  val : ∀ k ∈ s.L, k.f1.length ≤ 4096 ∧ ∀ x ∈ k.f1, 0 ≤ x ∧ x ≤ 255
structure StFacts (K : Nat) (nm : ByteArray → Bool) : Prop where
  rd : RdFacts K nm
  siz : ∀ x, nm x = true → 1 ≤ x.size ∧ x.size ≤ 24
  place : ∀ L x, L.length ≤ 17 → Srt L → provisoref21_place.f K L x = some ((posL x L : Int), (lkL L x).isSome)
  with_ : ∀ L x b, L.length ≤ 17 → Srt L → provisoref21_with.f K L x b = some (putL x b L)
  wout : ∀ L x, L.length ≤ 17 → Srt L → provisoref21_without.f K L x = some (cutL x L)
  eqs : ∀ xs : List ByteArray, xs.length ≤ 17 → slices_Equal_string_string.f K xs xs = some true
  wr : ∀ ws : List S52, ws.length ≤ 2 → (∀ x ∈ ws, x.f1.length ≤ 2097152) → provisoplain_SameWrites.f K ws ws = some true
theorem hm_tight {W : World} {B n : Nat} {g : ByteArray → Option Hd} {sz : Nat} (h : HMap W B n g sz) : HMap W B sz g sz := by
  obtain ⟨D, ⟨es, clock, h1, h2, h3, h4⟩, h5, h6, h7⟩ := h
  refine ⟨D, ⟨es, clock, h1, h2, ?_, h4⟩, h5, h6, h7⟩
  have h8 : Maps.size D = es.size := by rw [h4]; exact length_read es
  omega
structure SAt (base : Nat) (F : Nat → Prop) (g : Nat) (s : Sto) (W : World) : Prop where
  now : ∃ (v : Value) (B : Nat) (h : ByteArray → Option Hd), W.heap[g]? = some (.cells #[v, .map (some B), .bool true] 62 (0, 0)) ∧ Kd.R (Kd.int .u8) 5 W base F v s.img ∧ HMap W B s.L.length h s.L.length ∧ F B ∧ (∀ x, (h x).isSome = (lkL s.L x).isSome) ∧
    ∀ x d, h x = some d → ∀ xs, lkL s.L x = some xs → d.n = xs.length ∧ xs.length ≤ d.c ∧ Kd.F (Kd.int .u8) W (fun b => F b ∧ v.ownBlock ≠ some b ∧ b ≠ B ∧ b ≠ g) d.A xs.length xs
  fs : F g
  lt : ∀ b, F b → base ≤ b ∧ b < W.heap.size
section
variable {base g : Nat} {F F' S : Nat → Prop} {s : Sto} {W W1 w : World}
theorem SAt.kept (h : SAt base F g s W) (hk : Kept W W1 S) (hS : ∀ b, F b → ¬ S b) : SAt base F g s W1 := by
  obtain ⟨⟨v, B, m, h1, h2, h3, h4, h5, h6⟩, hf, hl⟩ := h
  exact ⟨⟨v, B, m, blk_kept h1 hk (hS _ hf), Kd.R_kept h2 hk hS, h3.block (hk.2 B h3.lt (hS _ h4)), h4, h5, fun x d hd xs hx => ⟨(h6 x d hd xs hx).1, (h6 x d hd xs hx).2.1, Kd.F_kept (h6 x d hd xs hx).2.2 hk (fun b q => hS b q.1)⟩⟩, hf, fun b q => ⟨(hl b q).1, Nat.lt_of_lt_of_le (hl b q).2 hk.1⟩⟩
theorem SAt.step (h : SAt base F g s W) (hb : Below W.heap.size W W1) : SAt base F g s W1 := h.kept (S := fun _ => False) (Kept.of_below hb _) (fun _ _ q => q)
theorem SAt.more (h : SAt base F g s W) (hF : ∀ b, F b → F' b) (hl : ∀ b, F' b → base ≤ b ∧ b < W.heap.size) : SAt base F' g s W := by
  obtain ⟨⟨v, B, m, h1, h2, h3, h4, h5, h6⟩, hf, _⟩ := h
  exact ⟨⟨v, B, m, h1, Kd.R_mono h2 hF, h3, hF _ h4, h5, fun x d hd xs hx => ⟨(h6 x d hd xs hx).1, (h6 x d hd xs hx).2.1, Kd.F_mono (h6 x d hd xs hx).2.2 (fun b q => ⟨hF _ q.1, q.2⟩)⟩⟩, hF _ hf, hl⟩
theorem lk_hd {h : ByteArray → Option Hd} {L : List S101} (h5 : ∀ x, (h x).isSome = (lkL L x).isSome) (x : ByteArray) : (lkL L x = none ∧ h x = none) ∨ ∃ d xs, h x = some d ∧ lkL L x = some xs := by
  have := h5 x
  cases e1 : h x <;> cases e2 : lkL L x <;> rw [e1, e2] at this <;> simp at this ⊢
set_option maxHeartbeats 3200000 in
set_option maxRecDepth 100000 in
theorem ready_st (h : SAt base F g s w) : Calls Try.prog 34 #[.pointer (some ⟨g, 0, none⟩)] w fun e w' => e = .returned (.bool true) ∧ Drawn0 w w' := by
  obtain ⟨⟨v, B, m, h1, _⟩, _, _⟩ := h
  have hc := blk_cell h1 2
  clear h1
  go_enter Try.func34, Try.ntmps34
  go_wp2
  go_ret
  exact ⟨rfl, 0, rfl⟩
set_option maxHeartbeats 3200000 in
set_option maxRecDepth 100000 in
theorem cloned_calls (A : Option Addr) (c : Nat) (xs : List Int) (w : World) (hr : Kd.C (Kd.int .u8) w A xs.length xs) (hlim : xs.length ≤ 281474976710656) : Calls Try.prog 40 #[.slice A xs.length c] w fun e w' => ∃ v, e = .returned v ∧ Kd.R (Kd.int .u8) 5 w' w.heap.size (fun _ => True) v xs ∧ Below w.heap.size w w' := by
  have HR := Aside0.mk hr
  have HL := Aside0.mk hlim
  have hlen : xs.length ≤ 9223372036854775807 := hr.2.1
  clear hr hlim
  go_enter Try.func40, Try.ntmps40
  go_wp2_with (first | ((with_reducible refine gate_dst (N := 6) rfl ?_); refine Kd.R_make (Kd.int .u8) (w0 := w) w.heap.size 5 rfl (N := 6) rfl 23 (.tmp 5) (.tmp 5) rfl (xs.length : Int) rfl rfl Try.underlying23 (.int .u8 0) 1 info5 rfl (by decide) (by decide) 0 (ok := fun _ => True) (okp := fun _ => True) rfl (fun _ h => h) trivial (by omega) ?hl (Below.refl _ _) (Nat.le_refl _) ?_; (case hl => have := HL.out; rw [Int.toNat_natCast]; omega); intro v1 w1 ho hb hg hat; rw [Int.toNat_natCast] at ho; have HB := Aside0.mk hb; obtain ⟨Av, cv, e1⟩ := Kd.R_slice ho; rw [List.length_replicate] at e1; subst e1; obtain ⟨w2, hrun, hR2, hg2⟩ := copy_own (P := Try.prog) (ty := 3) (cA := c) Try.underlying23 (by kernel_rfl) ho (Kd.C_below HR.out hb) (by simp); have HR2 := Aside0.mk hR2; have HG2 := Aside0.mk (Below.grown hb hg2 hb.size (fun k hk => (Kd.R_base_ ho k hk))); clear ho hb hg hat hR2 hg2))
  go_ret
  exact ⟨_, rfl, HR2.out, HG2.out⟩
set_option maxHeartbeats 3200000 in
set_option maxRecDepth 100000 in
theorem New_st (w : World) : Calls Try.prog 10 #[] w fun e w' => ∃ g, e = .returned (.pointer (some ⟨g, 0, none⟩)) ∧ SAt w.heap.size (fun b => w.heap.size ≤ b ∧ b < w'.heap.size) g ⟨[], []⟩ w' ∧ Below w.heap.size w w' := by
  go_enter Try.func10, Try.ntmps10
  go_wp2_with (first | ((with_reducible refine gate_dst (N := 1) rfl ?_); refine hm_make rfl rfl ?_; intro hM; have HM := Aside0.mk hM; clear hM))
  have h1 := blk_new (w.alloc (.map #[] 0)) (.cells #[.slice none 0 0, .map (some w.heap.size), .bool true] 62)
  have h2 := below_alloc (below_alloc (Below.refl w.heap.size w) (.map #[] 0)) (.cells #[.slice none 0 0, .map (some w.heap.size), .bool true] 62)
  have h3 : (w.alloc (.map #[] 0)).heap.size = w.heap.size + 1 := by simp
  go_ret
  refine ⟨w.heap.size + 1, rfl, ⟨⟨_, w.heap.size, fun _ => none, by rw [← h3]; exact h1, Kd.R_nil _ _ _ _ _, HM.out.block (heap_alloc_old _ _ (by omega)), ?_, fun _ => rfl, fun x d hd => by cases hd⟩, ?_, fun b q => q⟩, h2⟩
  · show w.heap.size ≤ w.heap.size ∧ w.heap.size < _
    simp; omega
  · show w.heap.size ≤ w.heap.size + 1 ∧ w.heap.size + 1 < _
    simp
set_option maxHeartbeats 3200000 in
set_option maxRecDepth 100000 in
theorem get_st (K : Nat) (nm : ByteArray → Bool) (hK : StFacts K nm) (x : ByteArray) (hx : x.size ≤ maxLen) (h : SAt base F g s w) : Calls Try.prog 47 #[.pointer (some ⟨g, 0, none⟩), .string x] w fun e w' => ∃ A c, e = .returned (.tuple #[.slice A (getS nm s x).1.length c, .int .i64 (getS nm s x).2]) ∧ (getS nm s x).1.length ≤ c ∧ Kd.F (Kd.int .u8) w F A (getS nm s x).1.length (getS nm s x).1 ∧ Drawn0 w w' := by
  have H := Aside0.mk h
  have HX := Aside0.mk hx
  have HN := Aside0.mk (hK.rd.name x)
  obtain ⟨⟨v, B, m, h1, h2, h3, h4, h5, h6⟩, hf, hl⟩ := h
  have hc1 := blk_cell h1 1
  have H3 := Aside0.mk h3
  have hlk := lk_hd h5 x
  have H6 := Aside0.mk (h6 x)
  clear h1 h2 h3 h4 h5 h6 hf hl hx hK
  by_cases c1 : nm x = false
  · rw [c1] at HN
    go_enter Try.func47, Try.ntmps47
    go_wp2_with fail
    refine (ready_st H.out).mono ?_
    rintro e w1 ⟨rfl, k1, rfl⟩
    replace hc1 := show (w.drewN k1).cell? ⟨g, 1, none⟩ = _ from hc1
    replace H3 := Aside0.mk (H3.out.block (W1 := w.drewN k1) rfl)
    go_wp2_with (first | ((with_reducible refine gate_dst (N := 17) rfl ?_); refine hm_look_ok rfl rfl rfl H3.out rfl HX.out ?_))
    go_wp2_with fail
    refine (wire_IsName.calls K x _ _ HN.out).mono ?_
    rintro e w2 ⟨rfl, k2, rfl⟩
    go_wp2_with fail
    go_ret2
    unfold getS
    rw [if_pos c1]
    exact ⟨none, 0, rfl, Nat.le_refl _, Kd.F_nil _ _ _, _, rfl⟩
  · rw [Bool.not_eq_false] at c1
    rw [c1] at HN
    rcases hlk with ⟨g1, g2⟩ | ⟨d, xs, g1, g2⟩
    · have g3 : (m x).isSome = false := by rw [g2]; rfl
      go_enter Try.func47, Try.ntmps47
      go_wp2_with fail
      refine (ready_st H.out).mono ?_
      rintro e w1 ⟨rfl, k1, rfl⟩
      replace hc1 := show (w.drewN k1).cell? ⟨g, 1, none⟩ = _ from hc1
      replace H3 := Aside0.mk (H3.out.block (W1 := w.drewN k1) rfl)
      go_wp2_with (first | ((with_reducible refine gate_dst (N := 17) rfl ?_); refine hm_look_ok rfl rfl rfl H3.out rfl HX.out ?_))
      go_wp2_with fail
      refine (wire_IsName.calls K x _ _ HN.out).mono ?_
      rintro e w2 ⟨rfl, k2, rfl⟩
      go_wp2_with fail
      go_ret2
      unfold getS
      rw [if_neg (by rw [c1]; decide), g1]
      exact ⟨none, 0, rfl, Nat.le_refl _, Kd.F_nil _ _ _, _, rfl⟩
    · have g3 : (m x).isSome = true := by rw [g1]; rfl
      obtain ⟨A, n, c⟩ := d
      obtain ⟨e1, e2, e3⟩ := H6.out _ g1 xs g2
      simp only at e1 e2 e3
      subst e1
      have HE3 := Aside0.mk e3
      clear e3 H6
      have g4 : ((m x).getD hz).v = .slice A xs.length c := by rw [g1]; rfl
      go_enter Try.func47, Try.ntmps47
      go_wp2_with fail
      refine (ready_st H.out).mono ?_
      rintro e w1 ⟨rfl, k1, rfl⟩
      replace hc1 := show (w.drewN k1).cell? ⟨g, 1, none⟩ = _ from hc1
      replace H3 := Aside0.mk (H3.out.block (W1 := w.drewN k1) rfl)
      go_wp2_with (first | ((with_reducible refine gate_dst (N := 17) rfl ?_); refine hm_look_ok rfl rfl rfl H3.out rfl HX.out ?_))
      go_wp2_with fail
      refine (wire_IsName.calls K x _ _ HN.out).mono ?_
      rintro e w2 ⟨rfl, k2, rfl⟩
      go_wp2_with fail
      go_ret2
      unfold getS
      rw [if_neg (by rw [c1]; decide), g2]
      exact ⟨A, c, rfl, e2, Kd.F_mono HE3.out (fun b q => q.1), _, rfl⟩
theorem getS_bad {nm : ByteArray → Bool} {s : Sto} {x : ByteArray} (h : (getS nm s x).2 ≠ 0) : (getS nm s x).1 = [] := by
  unfold getS at h ⊢
  split
  · rfl
  · rename_i h1
    rw [if_neg h1] at h
    cases hl : lkL s.L x with
    | none => rfl
    | some b => rw [hl] at h; exact absurd rfl h
theorem getS_len {nm : ByteArray → Bool} {s : Sto} (hg : Good nm s) (x : ByteArray) : (getS nm s x).1.length ≤ 4096 := by
  unfold getS
  split
  · simp
  · cases hl : lkL s.L x with
    | none => simp
    | some b =>
      have : ∀ L : List S101, lkL L x = some b → ∃ k ∈ L, k.f1 = b := by
        intro L
        induction L with
        | nil => intro h; cases h
        | cons k l ih =>
          intro h
          unfold lkL at h
          split at h
          · cases h; exact ⟨k, by simp, rfl⟩
          · obtain ⟨k', h1, h2⟩ := ih h
            exact ⟨k', by simp [h1], h2⟩
      obtain ⟨k, h1, rfl⟩ := this _ hl
      exact (hg.val k h1).1
set_option maxHeartbeats 3200000 in
set_option maxRecDepth 100000 in
theorem Get_st (K : Nat) (nm : ByteArray → Bool) (hK : StFacts K nm) (hg : Good nm s) (x : ByteArray) (hx : x.size ≤ maxLen) (h : SAt base F g s w) : Calls Try.prog 15 #[.pointer (some ⟨g, 0, none⟩), .string x] w fun e w' => ∃ v, e = .returned (.tuple #[v, .int .i64 (getS nm s x).2]) ∧ Kd.R (Kd.int .u8) 5 w' w.heap.size (fun _ => True) v (getS nm s x).1 ∧ Below w.heap.size w w' := by
  have HG := Aside0.mk (get_st K nm hK x hx h)
  have hlen := getS_len hg x
  have hbad := getS_bad (nm := nm) (s := s) (x := x)
  obtain ⟨err, herr⟩ : ∃ err, err = (getS nm s x).2 := ⟨_, rfl⟩
  obtain ⟨bs, hbs⟩ : ∃ bs, bs = (getS nm s x).1 := ⟨_, rfl⟩
  rw [← herr, ← hbs] at HG hbad ⊢
  rw [← hbs] at hlen
  have HL := Aside0.mk hlen
  clear h hK hx hg herr hbs hlen
  by_cases c1 : err = 0
  · subst c1
    clear hbad
    go_enter Try.func15, Try.ntmps15
    go_wp2_with fail
    refine HG.out.mono ?_
    rintro e w1 ⟨A, c, rfl, hc, hF, k1, rfl⟩
    have HC := Aside0.mk hc
    have HF := Aside0.mk (Kd.F_now (Kd.F_drewN hF k1))
    clear hc hF HG
    go_wp2_with fail
    refine (cloned_calls A c bs _ HF.out (by have := HL.out; omega)).mono ?_
    rintro e w2 ⟨v, rfl, hR, hb⟩
    have HR := Aside0.mk hR
    have HB := Aside0.mk hb
    clear hR hb
    go_wp2_with fail
    go_ret2
    exact ⟨v, rfl, HR.out, below_step (pw_below_drewN (Below.refl _ _) k1) HB.out⟩
  · have c2 : (err != 0) = true := by simpa using c1
    have c3 := hbad c1
    subst c3
    clear hbad c1
    go_enter Try.func15, Try.ntmps15
    go_wp2_with fail
    refine HG.out.mono ?_
    rintro e w1 ⟨A, c, rfl, hc, hF, k1, rfl⟩
    clear hc hF HG
    go_wp2_with fail
    go_ret2
    exact ⟨_, rfl, Kd.R_nil _ _ _ _ _, pw_below_drewN (Below.refl _ _) k1⟩
end
end
end Go.Proofs.Ytfakdphkklclgaa.P

end

section
namespace Go.Proofs.Ytfakdphkklclgaa.P
open Go.RowKit Go.Proofs.YtfakdphkklclgaaW.PrintWords Go.Proofs.YtfakdphkklclgaaW.PrintLast Go.Proofs.YtfakdphkklclgaaW.PrintMore
attribute [local go_sem] max2_int min2_int max_two min_two max_three min_three max_four min_four
set_option linter.unusedVariables false
set_option linter.unusedSimpArgs false
section
open Go.Shelf Go.Proofs
end
section
open Go.Maps Go.Sort Go.Shelf Go.Proofs
theorem lessB_iff (a b : ByteArray) : lessB a b = true ↔ a.data.toList < b.data.toList := by
  unfold lessB
  rw [bytesLess_eq, Lib.toList_data, Lib.toList_data]
  simp
theorem data_inj {a b : ByteArray} (h : a.data.toList = b.data.toList) : a = b := by
  cases a; cases b
  simp only [ByteArray.mk.injEq]
  exact Array.toList_inj.1 h
end
end Go.Proofs.Ytfakdphkklclgaa.P

end

section
namespace Go.Proofs.Ytfakdphkklclgaa.P
open Go.RowKit Go.Proofs.YtfakdphkklclgaaW.PrintWords Go.Proofs.YtfakdphkklclgaaW.PrintLast Go.Proofs.YtfakdphkklclgaaW.PrintMore
attribute [local go_sem] max2_int min2_int max_two min_two max_three min_three max_four min_four
set_option linter.unusedVariables false
set_option linter.unusedSimpArgs false
section
open Go.ChangeMaps Go.MapKept
set_option linter.unusedVariables false
structure WrAt (S1 S2 : Nat) (v : Value) (at_ : Int) (r0 r1 : List Int) (W : World) : Prop where
  now : ∃ (b0 : Nat) (v1 v2 : Value), v = .slice (some ⟨b0, 0, none⟩) 2 2 ∧ W.heap[b0]? = some (.cells #[.int .i64 at_, v1, .int .i64 at_, v2] 52 (0, 0)) ∧ Kd.R (Kd.int .u8) 5 W S1 (fun b => S1 ≤ b ∧ b < S2) v1 r0 ∧ Kd.R (Kd.int .u8) 5 W S1 (fun b => S1 ≤ b ∧ b < S2) v2 r1 ∧ (∀ b, v1.ownBlock = some b → v2.ownBlock ≠ some b) ∧ S1 ≤ b0 ∧ b0 < S2
section
variable {S1 S2 : Nat} {v : Value} {at_ : Int} {r0 r1 : List Int} {W W1 : World} {S : Nat → Prop}
theorem WrAt.kept (h : WrAt S1 S2 v at_ r0 r1 W) (hk : Kept W W1 S) (hS : ∀ b, S1 ≤ b → b < S2 → ¬ S b) : WrAt S1 S2 v at_ r0 r1 W1 := by
  obtain ⟨b0, v1, v2, h1, h2, h3, h4, h5, h6, h7⟩ := h
  exact ⟨b0, v1, v2, h1, blk_kept h2 hk (hS _ h6 h7), Kd.R_kept h3 hk (fun b q => hS b q.1 q.2), Kd.R_kept h4 hk (fun b q => hS b q.1 q.2), h5, h6, h7⟩
theorem WrAt.step (h : WrAt S1 S2 v at_ r0 r1 W) (hb : Below W.heap.size W W1) : WrAt S1 S2 v at_ r0 r1 W1 := h.kept (S := fun _ => False) (Kept.of_below hb _) (fun _ _ _ q => q)
theorem WrAt.reads (h : WrAt S1 S2 v at_ r0 r1 W) : ∃ b0, v = .slice (some ⟨b0, 0, none⟩) 2 2 ∧ Kd.C k52 W (some ⟨b0, 0, none⟩) 2 [⟨at_, r0⟩, ⟨at_, r1⟩] := by
  obtain ⟨b0, v1, v2, h1, h2, h3, h4, h5, h6, h7⟩ := h
  obtain ⟨A1, c1, rfl⟩ := Kd.R_slice h3
  obtain ⟨A2, c2, rfl⟩ := Kd.R_slice h4
  obtain ⟨_, l1, g1⟩ := Kd.R_reads' h3
  obtain ⟨_, l2, g2⟩ := Kd.R_reads' h4
  refine ⟨b0, h1, rfl, by decide, fun _ => ⟨_, rfl, fun j p hj => ?_⟩⟩
  match j, hj with
  | 0, hj =>
    cases hj
    refine ⟨_, rfl, k52_mk W ⟨at_, r0⟩ l1 g1, fun i u hu => ?_⟩
    match i, hu with
    | 0, hu => cases hu; exact blk_cell h2 0
    | 1, hu => cases hu; exact blk_cell h2 1
    | (n + 2), hu => cases hu
  | 1, hj =>
    cases hj
    refine ⟨_, rfl, k52_mk W ⟨at_, r1⟩ l2 g2, fun i u hu => ?_⟩
    match i, hu with
    | 0, hu => cases hu; exact blk_cell h2 2
    | 1, hu => cases hu; exact blk_cell h2 3
    | (n + 2), hu => cases hu
  | (n + 2), hj => cases hj
end
def Wrs (S1 S2 : Nat) (v : Value) (ws : List S52) (W : World) : Prop := (ws = [] ∧ v = .slice none 0 0) ∨ ∃ at_ r0 r1, ws = [⟨at_, r0⟩, ⟨at_, r1⟩] ∧ WrAt S1 S2 v at_ r0 r1 W
theorem Wrs.kept {S1 S2 : Nat} {v : Value} {ws : List S52} {W W1 : World} {S : Nat → Prop} (h : Wrs S1 S2 v ws W) (hk : Kept W W1 S) (hS : ∀ b, S1 ≤ b → b < S2 → ¬ S b) : Wrs S1 S2 v ws W1 := by
  rcases h with h | ⟨a, r0, r1, h1, h2⟩
  · exact .inl h
  · exact .inr ⟨a, r0, r1, h1, h2.kept hk hS⟩
theorem Wrs.step {S1 S2 : Nat} {v : Value} {ws : List S52} {W W1 : World} (h : Wrs S1 S2 v ws W) (hb : Below W.heap.size W W1) : Wrs S1 S2 v ws W1 := h.kept (S := fun _ => False) (Kept.of_below hb _) (fun _ _ _ q => q)
theorem Wrs.reads {S1 S2 : Nat} {v : Value} {ws : List S52} {W : World} (h : Wrs S1 S2 v ws W) : ∃ A c, v = .slice A ws.length c ∧ ws.length ≤ c ∧ Kd.C k52 W A ws.length ws := by
  rcases h with ⟨rfl, rfl⟩ | ⟨a, r0, r1, rfl, h2⟩
  · exact ⟨none, 0, rfl, Nat.le_refl _, Kd.C_nil _ _⟩
  · obtain ⟨b0, h3, h4⟩ := h2.reads
    exact ⟨_, 2, h3, Nat.le_refl _, h4⟩
def StPost (base : Nat) (F : Nat → Prop) (g : Nat) (w : World) (out : Sto × List S52 × Int) (e : Ending) (w' : World) : Prop := ∃ (v : Value) (S1 S2 : Nat), e = .returned (.tuple #[v, .int .i64 out.2.2]) ∧ w.heap.size ≤ S1 ∧ S1 ≤ S2 ∧ S2 ≤ w'.heap.size ∧ Wrs S1 S2 v out.2.1 w' ∧ SAt base (fun b => F b ∨ (S2 ≤ b ∧ b < w'.heap.size)) g out.1 w' ∧ Kept w w' F ∧ ∀ (B : Nat) (w0 : World), B ≤ base → Below B w0 w → Below B w0 w'
theorem StPost.same {base : Nat} {F : Nat → Prop} {g : Nat} {s : Sto} {w w' : World} (h : SAt base F g s w) (hb : Below w.heap.size w w') (err : Int) : StPost base F g w (s, [], err) (.returned (.tuple #[.slice none 0 0, .int .i64 err])) w' := by
  have hl := h.lt g h.fs
  exact ⟨_, w'.heap.size, w'.heap.size, rfl, hb.size, Nat.le_refl _, Nat.le_refl _, .inl ⟨rfl, rfl⟩, (h.step hb).more (fun b q => .inl q) (fun b q => q.elim (fun q => ⟨(h.lt b q).1, Nat.lt_of_lt_of_le (h.lt b q).2 hb.size⟩) (fun q => by omega)), Kept.of_below hb _, fun B w0 hB hw => hw.trans (hb.mono (by omega))⟩
theorem hm_store_wp {o : Oper} {a : Act} {Q : Exit → Act → World → Prop} {K : Act → World → Prop} {m x v : Operand} (ho : o.op = .mapUpdate 60 m x v) {W : World} {B n sz : Nat} {g : ByteArray → Option Hd} (hm : a.eval m = .map (some B)) (hown : HMap W B n g sz) (hn : n < maxLen) {k : ByteArray} {c : Hd} (hx : a.eval x = .string k) (hv : a.eval v = c.v) (hk : k.size ≤ maxLen) (hc : c.ok)
    (h : ∀ w1, HMap w1 B (n + 1) (updH g k c) (if (g k).isSome then sz else sz + 1) → W.grownBy w1 (some B) → K (a.put o.dst undef) w1) : Oper.wp Try.prog o a W K Q := by
  obtain ⟨D, h1, h2, h3, h4⟩ := hown
  obtain ⟨w', hrun, r1, r2⟩ := h1.update skeyed Try.underlying60 hn (keyS_of hk) (hdrR_of hc)
  have ht := h1.tidy skeyed
  have hl : Go.WideAt.IsKeyLit (keyS k) := trivial
  unfold Oper.wp
  simp [execOp, ho, hm, hx, hv, hrun, Result.andThen]
  refine h _ ⟨_, r1, fun s => ?_, fun s e hs => ?_, ?_⟩ r2
  · unfold updH
    by_cases e : s = k
    · rw [if_pos e, e, Maps.has_put_same ht.isMap hl]; rfl
    · rw [if_neg e, Maps.has_put_other (fun e' => e (keyS_inj e')), h2]
  · unfold updH at hs
    by_cases e' : s = k
    · rw [if_pos e'] at hs
      cases hs
      exact ⟨hc, fun z => by rw [e', Maps.atKey_put_same ht.isMap hl]⟩
    · rw [if_neg e'] at hs
      exact ⟨(h3 s e hs).1, fun z => by rw [Maps.atKey_put_other (fun e'' => e' (keyS_inj e'')), (h3 s e hs).2 z]⟩
  · rw [Maps.size_put ht, h2, h4]
set_option maxHeartbeats 3200000 in
set_option maxRecDepth 100000 in
theorem laid_full {base g : Nat} {F : Nat → Prop} {s : Sto} {w : World} (K : Nat) (nm : ByteArray → Bool) (hK : StFacts K nm) (hg : Good nm s) (kind : Int) (hkind : kind = 1 ∨ kind = 2) (x : ByteArray) (hx : nm x = true) (ex : List Int) (hex : ex.length ≤ 5000) (fid : FuncId) (fr : Array Value) (hcf : ∀ (vs : Array Value) (w : World), Sem.run Try.prog (callFunc fid vs) w = .ok (.enter fid vs) w) (hput : ∀ (g2 : Nat) (W1 : World), Below w.heap.size w W1 → WtAt w.heap.size g2 (fun _ => True) ([0] ++ nameBytes x) W1 → Calls Try.prog fid (#[.pointer (some ⟨g2, 0, none⟩)] ++ fr) W1 fun e w' => e = .returned (.tuple #[]) ∧ WtAt w.heap.size g2 (fun _ => True) ([0] ++ nameBytes x ++ ex) w' ∧ Below w.heap.size W1 w') (h : SAt base F g s w) (hf : 1048576 < s.img.length + ([0] ++ nameBytes x ++ ex).length + 1) : Calls Try.prog 36 #[.pointer (some ⟨g, 0, none⟩), .int .u8 kind, .string x, .func (.func fid) #[] fr] w fun e w' => StPost base F g w (s, [], 7) e w' := by
  have hsz := (hK.siz x hx).2
  have hN : wire_IsName.f K x = some true := by rw [hK.rd.name x, hx]
  have himg := hg.img
  have H := Aside0.mk h
  have HPUT := Aside0.mk hput
  have HNM := Aside0.mk hN
  have hnl : (nameBytes x).length = x.size + 1 := by unfold nameBytes bytesOf; simp [Lib.toList_data]
  obtain ⟨R, hR⟩ : ∃ R, R = [0] ++ nameBytes x ++ ex := ⟨_, rfl⟩
  have hRl : R.length = x.size + 2 + ex.length := by rw [hR]; simp [hnl]; omega
  have HRE := Aside0.mk hR
  have HRL := Aside0.mk hRl
  have HH := Aside0.mk h
  rw [← hR] at hf
  clear hR hRl hnl
  have hsh := h.now
  clear h hput hK hg hN hx
  go_enter Try.func36, Try.ntmps36
  go_wp2_with fail
  refine (New_calls w).mono ?_
  rintro e w1 ⟨gw, rfl, hwt, hb⟩
  have HWT := Aside0.mk hwt
  have HB := Aside0.mk hb
  clear hwt hb
  go_wp2_with fail
  refine (wByte_good HWT.out 0 (by decide) (by decide)).mono ?_
  rintro e w2 ⟨q, _⟩
  obtain ⟨rfl, hwt, hb, _⟩ := q (by simp)
  replace HWT := Aside0.mk (show WtAt w.heap.size gw (fun _ => True) [0] w2 from hwt.mono (fun _ _ => trivial))
  replace HB := Aside0.mk (HB.out.trans hb)
  clear hwt hb q
  go_wp2_with fail
  refine (wName_good HWT.out K x HNM.out hsz).mono ?_
  rintro e w3 ⟨q, _⟩
  obtain ⟨rfl, hwt, hb, _⟩ := q (by simp; omega)
  replace HWT := Aside0.mk (show WtAt w.heap.size gw (fun _ => True) ([0] ++ nameBytes x) w3 from hwt.mono (fun _ _ => trivial))
  replace HB := Aside0.mk (HB.out.trans hb)
  clear hwt hb q
  go_wp2_with fail
  refine (HPUT.out gw w3 HB.out HWT.out).mono ?_
  rintro e w4 ⟨rfl, hwt, hb⟩
  rw [← HRE.out] at hwt
  replace HWT := Aside0.mk hwt
  replace HB := Aside0.mk (HB.out.trans hb)
  clear hwt hb
  go_wp2_with fail
  refine (Bytes_wt HWT.out).mono ?_
  have HW4 := Aside0.mk HB.out.size
  rintro e w5 ⟨vb, rfl, hrb, hb⟩
  replace HB := Aside0.mk (below_step HB.out hb)
  obtain ⟨gb, cb, evb, hgb0, hgb, cells, hgc⟩ := Kd.R_form hrb (by have := HRL.out; omega)
  subst evb
  replace H := Aside0.mk (H.out.step HB.out)
  obtain ⟨⟨vi, B, m, h1, h2, _⟩, _, _⟩ := H.out
  obtain ⟨Ai, ci, rfl⟩ := Kd.R_slice h2
  have hc0 := blk_cell h1 0
  have hw1 : wrap64 ((1048576 : Int) - (s.img.length : Int)) = (1048576 : Int) - (s.img.length : Int) := by unfold wrap64; omega
  have c1 : decide ((R.length : Int) ≥ (1048576 : Int) - (s.img.length : Int)) = true := decide_eq_true (by omega)
  clear h1 h2 hrb hgc hb hsh
  go_wp2_with fail
  go_ret2
  exact StPost.same HH.out HB.out 7
theorem typ_nst {W : World} {a b t u : Nat} {cs ds : Array Value} (h1 : W.heap[a]? = some (.cells cs t (0, 0))) (h2 : W.heap[b]? = some (.cells ds u (0, 0))) (hn : t ≠ u) : a ≠ b := fun e => by
  subst e
  rw [h1] at h2
  injection h2 with h2
  injection h2 with _ h2
  exact hn h2
theorem byte_fits {n : Nat} (h : n ≤ 2097152) : Builtin.nextslicecap (n + 1) n * 1 ≤ 281474976710656 := growslice_fits (need := n + 1) (old := n) (bytes := 1) (Nat.lt_succ_self n) (by omega)
def Halt_ (p : Prop) : Prop := p
theorem halt_at {p : Prop} (h : Halt_ p) : p := h
theorem halt_go {p : Prop} (h : p) : Halt_ p := h
theorem st_store1 {P : Program} {ops : Array Oper} {rest : List Oper} {o : Oper} {a : Act} {Q : Exit → Act → World → Prop} (hgd : o.guard = none) (ty : TypeId) {x y : Operand} (ho : o.op = .store ty x y) {g i : Nat} (hx : a.eval x = .pointer (some ⟨g, i, none⟩)) {u : Value} (hy : a.eval y = u) (hu : u.oneCell' = true) {W : World} {t : TypeId} {cs : Array Value} (hg : W.heap[g]? = some (.cells cs t (0, 0))) (hi : i < cs.size) (hsz : (P.info? ty).map (·.size) = some 1)
    (h : wpList P ops Q rest (a.put o.dst undef) (W.setCell ⟨g, i, none⟩ u)) : wpList P ops Q (o :: rest) a W :=
  wpList_plain hgd fun _ hK => by
    have hrun := run_store_one_cell (P := P) ty hg hi hu hsz
    unfold Oper.wp execOp
    simp only [ho, hx, hy, Instr.storeAt, Instr.sureAddr, Sem.run_bind, Sem.run_pure, Result.andThen_ok, hrun]
    exact hK _ _ h
theorem cells_pos {W : World} {gb n c base : Nat} {ok : Nat → Prop} {xs : List Int} {cells : Array Value} (h : Kd.R (Kd.int .u8) 5 W base ok (.slice (some ⟨gb, 0, none⟩) n c) xs) (hn : 0 < xs.length) (hg : W.heap[gb]? = some (.cells cells 5 (0, 0))) : 0 < cells.size := by
  have h1 := Kd.foot_int (Kd.R_reads' h).2.2 0 (by decide) (by omega)
  have h2 := blk_cell hg 0
  rw [show ((⟨gb, 0, none⟩ : Addr).add (0 : Int).toNat) = ⟨gb, 0, none⟩ from rfl, h2] at h1
  exact (Array.getElem?_eq_some_iff.1 h1).1
theorem setCell_size (W : World) (p : Addr) (u : Value) : (W.setCell p u).heap.size = W.heap.size := by simp [World.setCell]
theorem WrAt.made {S1 : Nat} {A : Option Addr} {n c : Nat} {r0 : List Int} {W : World} (h : Kd.R (Kd.int .u8) 5 W S1 (fun _ => True) (.slice A n c) r0) (hS : S1 ≤ W.heap.size) (kind at_ : Int) :
    WrAt S1 (W.heap.size + 2) (.slice (some ⟨W.heap.size + 1, 0, none⟩) 2 2) at_ r0 [kind] ((W.alloc (.cells #[.int .u8 kind] 5)).alloc (.cells #[.int .i64 at_, .slice A n c, .int .i64 at_, .slice (some ⟨W.heap.size, 0, none⟩) 1 1] 52)) := by
  have hs : (W.alloc (.cells #[.int .u8 kind] 5)).heap.size = W.heap.size + 1 := by simp
  have h1 := Kd.R_alloc (Kd.R_alloc (Kd.R_bound h) (.cells #[.int .u8 kind] 5)) (.cells #[.int .i64 at_, .slice A n c, .int .i64 at_, .slice (some ⟨W.heap.size, 0, none⟩) 1 1] 52)
  have h2 : Kd.R (Kd.int .u8) 5 (W.alloc (.cells #[.int .u8 kind] 5)) S1 (fun b => S1 ≤ b ∧ b < W.heap.size + 2) (.slice (some ⟨W.heap.size, 0, none⟩) 1 1) [kind] := Kd.R_mono (Kd.R_bound (Kd.R_lower (R_of_nums (one_own W kind)) hS)) (fun b q => ⟨q.2.1, by have := q.2.2.1; rw [hs] at this; omega⟩)
  refine ⟨W.heap.size + 1, _, _, rfl, ?_, Kd.R_mono h1 (fun b q => ⟨q.2.1, by have := q.2.2.1; omega⟩), Kd.R_alloc h2 _, fun b hb e => ?_, by omega, by omega⟩
  · rw [← hs]; exact blk_new _ _
  · have h3 := Kd.R_lt h b hb
    have h4 : b = W.heap.size := by
      have : some W.heap.size = some b := e
      injection this with this
      exact this.symm
    omega
theorem SAt.cells {base g : Nat} {F : Nat → Prop} {s : Sto} {W : World} (h : SAt base F g s W) : ∃ (A : Option Addr) (c B : Nat) (m : ByteArray → Option Hd), W.heap[g]? = some (.cells #[.slice A s.img.length c, .map (some B), .bool true] 62 (0, 0)) ∧ Kd.R (Kd.int .u8) 5 W base F (.slice A s.img.length c) s.img ∧ HMap W B s.L.length m s.L.length ∧ F B ∧ (∀ x, (m x).isSome = (lkL s.L x).isSome) ∧
    ∀ x d, m x = some d → ∀ xs, lkL s.L x = some xs → d.n = xs.length ∧ xs.length ≤ d.c ∧ Kd.F (Kd.int .u8) W (fun b => F b ∧ (Value.slice A s.img.length c).ownBlock ≠ some b ∧ b ≠ B ∧ b ≠ g) d.A xs.length xs := by
  obtain ⟨⟨v, B, m, h1, h2, h3⟩, _, _⟩ := h
  obtain ⟨A, c, rfl⟩ := Kd.R_slice h2
  exact ⟨A, c, B, m, h1, h2, h3⟩
theorem SAt.image {base g : Nat} {F F' : Nat → Prop} {s : Sto} {W W1 W2 : World} {A : Option Addr} {c B : Nat} {m : ByteArray → Option Hd} {v : Value} {img : List Int}
    (h1 : W.heap[g]? = some (.cells #[.slice A s.img.length c, .map (some B), .bool true] 62 (0, 0))) (h2 : Kd.R (Kd.int .u8) 5 W base F (.slice A s.img.length c) s.img) (h3 : HMap W B s.L.length m s.L.length) (h4 : F B) (h5 : ∀ x, (m x).isSome = (lkL s.L x).isSome)
    (h6 : ∀ x d, m x = some d → ∀ xs, lkL s.L x = some xs → d.n = xs.length ∧ xs.length ≤ d.c ∧ Kd.F (Kd.int .u8) W (fun b => F b ∧ (Value.slice A s.img.length c).ownBlock ≠ some b ∧ b ≠ B ∧ b ≠ g) d.A xs.length xs) (hf : F g) (hl : ∀ b, F b → base ≤ b ∧ b < W.heap.size)
    (hg : W.grownBy W1 (Value.slice A s.img.length c).ownBlock) (hat : v.ownBlock = (Value.slice A s.img.length c).ownBlock ∨ ∃ b, v.ownBlock = some b ∧ W.heap.size ≤ b) (hR : Kd.R (Kd.int .u8) 5 W1 base F' v img) (hF : ∀ b, F b → F' b) (hl' : ∀ b, F' b → base ≤ b ∧ b < W1.heap.size) (hW2 : W2 = W1.setCell ⟨g, 0, none⟩ v) :
    SAt base F' g ⟨img, s.L⟩ W2 := by
  subst hW2
  have n1 : ∀ b, (Value.slice A s.img.length c).ownBlock = some b → ∃ cs, W.heap[b]? = some (.cells cs 5 (0, 0)) := fun b q => Kd.R_typed h2 b q
  have n2 : some g ≠ (Value.slice A s.img.length c).ownBlock := fun q => by
    obtain ⟨cs, h7⟩ := n1 g q.symm
    exact typ_nst h1 h7 (by decide) rfl
  have n3 : some B ≠ (Value.slice A s.img.length c).ownBlock := fun q => by
    obtain ⟨cs, h7⟩ := n1 B q.symm
    exact h3.ne h7 rfl
  have n4 : B ≠ g := h3.ne h1
  have g1 := (hg.block g (blk_lt h1) n2).trans h1
  have hs : (W1.setCell ⟨g, 0, none⟩ v).heap.size = W1.heap.size := by simp [World.setCell]
  refine ⟨⟨v, B, m, blk_set g1 0 v, Kd.R_set hR g1 (by decide) 0 v, (h3.block (hg.block B h3.lt n3)).block (Below.heap_setCell _ _ _ B n4), hF _ h4, h5, fun x d hd xs hx => ?_⟩, hF _ hf, fun b q => ⟨(hl' b q).1, by rw [hs]; exact (hl' b q).2⟩⟩
  obtain ⟨q1, q2, q3⟩ := h6 x d hd xs hx
  refine ⟨q1, q2, Kd.F_mono (Kd.F_far (Kd.F_grown (Kd.F_bound q3) hg (fun k hk q => hk.1.2.1 q.symm)) (fun k hk => hk.1.2.2.2) v) (fun b q => ⟨hF _ q.1.1, fun e => ?_, q.1.2.2⟩)⟩
  rcases hat with hat | ⟨b', e2, e3⟩
  · rw [hat] at e
    exact q.1.2.1 e
  · rw [e2] at e
    injection e with e
    have := q.2
    omega
set_option maxHeartbeats 6400000 in
set_option maxRecDepth 100000 in
theorem laid_fits {base g : Nat} {F : Nat → Prop} {s : Sto} {w : World} (K : Nat) (nm : ByteArray → Bool) (hK : StFacts K nm) (hg : Good nm s) (kind : Int) (hkind : kind = 1 ∨ kind = 2) (x : ByteArray) (hx : nm x = true) (ex : List Int) (hex : ex.length ≤ 5000) (fid : FuncId) (fr : Array Value) (hcf : ∀ (vs : Array Value) (w : World), Sem.run Try.prog (callFunc fid vs) w = .ok (.enter fid vs) w) (hput : ∀ (g2 : Nat) (W1 : World), Below w.heap.size w W1 → WtAt w.heap.size g2 (fun _ => True) ([0] ++ nameBytes x) W1 → Calls Try.prog fid (#[.pointer (some ⟨g2, 0, none⟩)] ++ fr) W1 fun e w' => e = .returned (.tuple #[]) ∧ WtAt w.heap.size g2 (fun _ => True) ([0] ++ nameBytes x ++ ex) w' ∧ Below w.heap.size W1 w') (h : SAt base F g s w) (hf : s.img.length + ([0] ++ nameBytes x ++ ex).length + 1 ≤ 1048576) : Calls Try.prog 36 #[.pointer (some ⟨g, 0, none⟩), .int .u8 kind, .string x, .func (.func fid) #[] fr] w fun e w' => StPost base F g w (⟨s.img ++ ([0] ++ nameBytes x ++ ex).set 0 kind, s.L⟩, [⟨(s.img.length : Int), ([0] ++ nameBytes x ++ ex) ++ [0]⟩, ⟨(s.img.length : Int), [kind]⟩], 0) e w' := by
  have hsz := (hK.siz x hx).2
  have hN : wire_IsName.f K x = some true := by rw [hK.rd.name x, hx]
  have himg := hg.img
  have H := Aside0.mk h
  have HPUT := Aside0.mk hput
  have HNM := Aside0.mk hN
  have hnl : (nameBytes x).length = x.size + 1 := by unfold nameBytes bytesOf; simp [Lib.toList_data]
  obtain ⟨R, hR⟩ : ∃ R, R = [0] ++ nameBytes x ++ ex := ⟨_, rfl⟩
  have hRl : R.length = x.size + 2 + ex.length := by rw [hR]; simp [hnl]; omega
  have HRE := Aside0.mk hR
  have HRL := Aside0.mk hRl
  have HH := Aside0.mk h
  rw [← hR] at hf
  rw [← hR]
  clear hR hRl hnl
  have hsh := h.now
  clear h hput hK hg hN hx
  go_enter Try.func36, Try.ntmps36
  go_wp2_with fail
  refine (New_calls w).mono ?_
  rintro e w1 ⟨gw, rfl, hwt, hb⟩
  have HWT := Aside0.mk hwt
  have HB := Aside0.mk hb
  clear hwt hb
  go_wp2_with fail
  refine (wByte_good HWT.out 0 (by decide) (by decide)).mono ?_
  rintro e w2 ⟨q, _⟩
  obtain ⟨rfl, hwt, hb, _⟩ := q (by simp)
  replace HWT := Aside0.mk (show WtAt w.heap.size gw (fun _ => True) [0] w2 from hwt.mono (fun _ _ => trivial))
  replace HB := Aside0.mk (HB.out.trans hb)
  clear hwt hb q
  go_wp2_with fail
  refine (wName_good HWT.out K x HNM.out hsz).mono ?_
  rintro e w3 ⟨q, _⟩
  obtain ⟨rfl, hwt, hb, _⟩ := q (by simp; omega)
  replace HWT := Aside0.mk (show WtAt w.heap.size gw (fun _ => True) ([0] ++ nameBytes x) w3 from hwt.mono (fun _ _ => trivial))
  replace HB := Aside0.mk (HB.out.trans hb)
  clear hwt hb q
  go_wp2_with fail
  refine (HPUT.out gw w3 HB.out HWT.out).mono ?_
  rintro e w4 ⟨rfl, hwt, hb⟩
  rw [← HRE.out] at hwt
  replace HWT := Aside0.mk hwt
  replace HB := Aside0.mk (HB.out.trans hb)
  clear hwt hb
  go_wp2_with fail
  refine (Bytes_wt HWT.out).mono ?_
  have HW4 := Aside0.mk HB.out.size
  rintro e w5 ⟨vb, rfl, hrb, hb⟩
  replace HB := Aside0.mk (below_step HB.out hb)
  obtain ⟨gb, cb, evb, hgb0, hgb, cells, hgc⟩ := Kd.R_form hrb (by have := HRL.out; omega)
  subst evb
  replace H := Aside0.mk (H.out.step HB.out)
  have HS5 := Aside0.mk H.out
  obtain ⟨Ai, ci, B, m, h1, h2, h3, h4, h5, h6⟩ := H.out.cells
  have hfg := H.out.fs
  have hlt := H.out.lt
  have hc0 := blk_cell h1 0
  have hf0 := blk_frozen h1 0
  have hw1 : wrap64 ((1048576 : Int) - (s.img.length : Int)) = (1048576 : Int) - (s.img.length : Int) := by unfold wrap64; omega
  have c1 : decide ((R.length : Int) ≥ (1048576 : Int) - (s.img.length : Int)) = false := decide_eq_false (by omega)
  have HI1 := Aside0.mk h1
  have HI2 := Aside0.mk h2
  have HRB := Aside0.mk hrb
  have HGC := Aside0.mk hgc
  have hpos : 0 < R.length := by have := HRL.out; omega
  have hcp := cells_pos hrb (by have := HRL.out; omega) hgc
  have HGB := Aside0.mk hgb
  have HGB0 := Aside0.mk hgb0
  have HREST := Aside0.mk (And.intro h3 (And.intro h4 (And.intro h5 (And.intro h6 (And.intro hfg hlt)))))
  clear h1 h2 h3 h4 h5 h6 hfg hlt hrb hgc hb hsh hgb0 hgb
  go_wp2_with fail
  refine (cloned_calls _ cb R _ (Kd.R_reads' HRB.out).2.2 (by omega)).mono ?_
  rintro e w6 ⟨vc, rfl, hR6, hb6⟩
  have HB6 := Aside0.mk hb6
  obtain ⟨Ac, cc, e6⟩ := Kd.R_slice hR6
  subst e6
  have HR6 := Aside0.mk hR6
  clear hR6 hb6
  go_wp2_with (first | (at_builtin; refine R_append1 (Kd.int .u8) (w0 := w6) w5.heap.size rfl (.tmp 37) (.tmp 38) 23 5 (.int .u8 0) 1 rfl Try.underlying23 info5 rfl (by decide) (by decide) (.slice Ac R.length cc) (R) ((0 : Int)) [.int .u8 0] (fun _ => True) (fun _ => False) rfl rfl rfl (fun _ hk => hk.elim) (fun _ _ => trivial) HR6.out (Below.refl _ _) HB6.out.size (by unfold maxLen; omega) (byte_fits (by omega)) ?_; intro v7 w7 ho hb7 hg7 hat7; obtain ⟨A7, c7, e7⟩ := Kd.R_slice ho; rw [List.length_append, List.length_singleton] at e7; subst e7; have HR7 := Aside0.mk ho; have HB7 := Aside0.mk hb7; clear ho hb7 hg7 hat7) | ((with_reducible refine gate_store (t := 5) (p := 48) rfl ?_); refine halt_at ?_))
  refine halt_go ?_
  have hs67 := (HB6.out.trans HB7.out).size
  have h8 := (HB7.out.alloc hs67 (.cells #[.int .u8 kind] 5)).alloc (by simp; omega) (.cells #[.int .i64 (s.img.length : Int), .slice A7 (R.length + 1) c7, .int .i64 (s.img.length : Int), .slice (some ⟨w7.heap.size, 0, none⟩) 1 1] 52)
  have hwr := WrAt.made HR7.out (HB6.out.trans HB7.out).size kind (s.img.length : Int)
  have hsz8 : ((w7.alloc (.cells #[.int .u8 kind] 5)).alloc (.cells #[.int .i64 (s.img.length : Int), .slice A7 (R.length + 1) c7, .int .i64 (s.img.length : Int), .slice (some ⟨w7.heap.size, 0, none⟩) 1 1] 52)).heap.size = w7.heap.size + 2 := (by simp)
  generalize ((w7.alloc (.cells #[.int .u8 kind] 5)).alloc (.cells #[.int .i64 (s.img.length : Int), .slice A7 (R.length + 1) c7, .int .i64 (s.img.length : Int), .slice (some ⟨w7.heap.size, 0, none⟩) 1 1] 52)) = w8 at h8 hwr hsz8 ⊢
  have h58 : Below w5.heap.size w5 w8 := HB6.out.trans h8
  have hgX := blk_below HGC.out h58
  refine st_store1 (g := gb) (i := 0) (u := .int .u8 kind) rfl 5 rfl rfl rfl rfl hgX hcp (by kernel_rfl) ?_
  have hR9 : Kd.R (Kd.int .u8) 5 (w8.setCell ⟨gb, 0, none⟩ (.int .u8 kind)) w4.heap.size (fun _ => True) (.slice (some ⟨gb, 0, none⟩) R.length cb) (R.set 0 kind) := Kd.R_putn (Kd.R_below HRB.out h58) 0 kind
  have hk9 : Kept w5 (w8.setCell ⟨gb, 0, none⟩ (.int .u8 kind)) (fun k => k = gb) := Kept.setCell (Kept.of_below h58 (fun k => k = gb)) (.inl rfl) _
  have hs9 := setCell_size w8 ⟨gb, 0, none⟩ (.int .u8 kind)
  have hwr9 := WrAt.kept hwr (set_kept w8 gb 0 (.int .u8 kind)) (fun b q1 _ q2 => by have := HGB.out; omega)
  have hB9 : Below w.heap.size w (w8.setCell ⟨gb, 0, none⟩ (.int .u8 kind)) := (HB.out.trans (h58.mono HB.out.size)).setCell (by show w.heap.size ≤ gb; have := HGB0.out; have := HW4.out; omega) _
  generalize (w8.setCell ⟨gb, 0, none⟩ (.int .u8 kind)) = w9 at hR9 hk9 hs9 hwr9 hB9 ⊢
  have hlt9 : ∀ b, F b → ¬ (b = gb) := fun b q e => (by have := (HH.out.lt b q).2; have := HGB0.out; have := HW4.out; omega)
  have HS9 := Aside0.mk (HS5.out.kept hk9 hlt9)
  obtain ⟨Ai9, ci9, B9, m9, g1, g2, g3, g4, g5, g6⟩ := HS9.out.cells
  have hc9 := blk_cell g1 0
  have HR9 := Aside0.mk hR9
  have HWR9 := Aside0.mk hwr9
  have HB9 := Aside0.mk hB9
  have HK9 := Aside0.mk hk9
  have HG1 := Aside0.mk g1
  have HG2 := Aside0.mk (Kd.R_mono g2 (fun k hk => (.inl hk : F k ∨ (w9.heap.size ≤ k))))
  have HGR := Aside0.mk (And.intro g2 (And.intro g3 (And.intro g4 (And.intro g5 g6))))
  have hrl9 : (R.set 0 kind).length = R.length := List.length_set
  have hbw : base ≤ w9.heap.size := by
    have h3 := HS9.out.lt g HS9.out.fs
    omega
  clear g1 g2 g3 g4 g5 g6 hR9 hwr9 hB9 hk9 h8 hwr h58 hgX hlt9 hc0 hf0
  go_wp2_with ((with_reducible refine gate_builtin (b := .append) (xs := #[.tmp 53, .tmp 54]) rfl ?_); at_builtin; refine halt_at ?_)
  unfold Halt_
  refine Kd.R_append_rows (Kd.int .u8) (w0 := w9) base rfl (.tmp 53) (.tmp 54) 23 5 (.int .u8 0) 1 rfl Try.underlying23 info5 rfl (by decide) (by omega) (.slice Ai9 s.img.length ci9) s.img (R.set 0 kind) (some ⟨gb, 0, none⟩) R.length cb (fun k => F k ∨ w9.heap.size ≤ k) (fun _ => False) rfl rfl HG2.out (by rw [← hrl9]; exact (Kd.R_reads' HR9.out).2.2) (fun _ _ h => h) (fun _ h => h.elim) (fun k hk => .inr hk) (Below.refl _ _) (by omega) (by omega) ?_
  intro v10 w10 ho hb hg hat
  obtain ⟨A10, c10, e10⟩ := Kd.R_slice ho
  rw [List.length_append, hrl9] at e10
  subst e10
  have hG10 := blk_grown HG1.out hg (Kd.R_ne HG2.out HG1.out (by decide))
  have hcI := blk_cell hG10 0
  have hfI := blk_frozen hG10 0
  have HO := Aside0.mk ho
  have HB10 := Aside0.mk hb
  have HGW := Aside0.mk hg
  have HAT := Aside0.mk hat
  clear ho hb hg hat hG10 hc9
  go_wp2
  have hFl := fun b (q : F b) => HH.out.lt b q
  have hw5 : w.heap.size ≤ w5.heap.size := HB.out.size
  have hown : ∀ k, (Value.slice Ai9 s.img.length ci9).ownBlock = some k → F k := HGR.out.1.1
  have hs10 := setCell_size w10 ⟨g, 0, none⟩ (.slice A10 (s.img.length + R.length) c10)
  have hg10 : w9.heap.size ≤ w10.heap.size := HB10.out.size
  have hk10 : Kept w9 (w10.setCell ⟨g, 0, none⟩ (.slice A10 (s.img.length + R.length) c10)) F := ⟨by rw [hs10]; exact hg10, fun k hk hn => (Below.heap_setCell _ _ _ k (fun e => hn (by rw [e]; exact HH.out.fs))).trans (HGW.out.block k hk (fun e => hn (hown k e.symm)))⟩
  have hsz9 : w9.heap.size = w7.heap.size + 2 := by rw [hs9]; exact hsz8
  go_ret2
  refine ⟨_, w5.heap.size, w7.heap.size + 2, rfl, hw5, by omega, by rw [hs10]; omega, .inr ⟨_, _, _, rfl, HWR9.out.kept hk10 (fun b q1 _ q => by have := (hFl b q).2; omega)⟩, ?_, ?_, fun B w0 hB hw => ?_⟩
  · refine SAt.image HG1.out HGR.out.1 HGR.out.2.1 HGR.out.2.2.1 HGR.out.2.2.2.1 HGR.out.2.2.2.2 HH.out.fs (fun b q => ⟨(hFl b q).1, Nat.lt_of_lt_of_le (hFl b q).2 (by omega)⟩) HGW.out HAT.out (Kd.R_mono (Kd.R_bound HO.out) (fun b q => ?_)) (fun b q => .inl q) (fun b q => ?_) rfl
    · rw [hs10]
      rcases q.1 with q1 | q1
      · exact .inl q1
      · exact .inr ⟨by omega, q.2.2.1⟩
    · rw [hs10] at q
      rcases q with q1 | q1
      · exact ⟨(hFl b q1).1, by have := (hFl b q1).2; omega⟩
      · exact ⟨by omega, q1.2⟩
  · exact ⟨by rw [hs10]; omega, fun k hk hn => (hk10.2 k (by omega) hn).trans (HB9.out.block k hk)⟩
  · have h1 := (hFl g HH.out.fs)
    exact ((hw.trans (HB9.out.mono (by omega))).trans (HB10.out.mono hB)).setCell (show B ≤ g by omega) _
end
end Go.Proofs.Ytfakdphkklclgaa.P

end

section
namespace Go.Proofs.Ytfakdphkklclgaa.P
open Go.RowKit Go.Proofs.YtfakdphkklclgaaW.PrintWords Go.Proofs.YtfakdphkklclgaaW.PrintLast Go.Proofs.YtfakdphkklclgaaW.PrintMore
attribute [local go_sem] max2_int min2_int max_two min_two max_three min_three max_four min_four
set_option linter.unusedVariables false
set_option linter.unusedSimpArgs false
section
theorem lessB_irr (a : ByteArray) : lessB a a = false := by
  rw [Bool.eq_false_iff]
  intro h
  exact List.lt_irrefl _ ((lessB_iff a a).1 h)
theorem lessB_trans {a b c : ByteArray} (h1 : lessB a b = true) (h2 : lessB b c = true) : lessB a c = true := (lessB_iff a c).2 (List.lt_trans ((lessB_iff a b).1 h1) ((lessB_iff b c).1 h2))
theorem lessB_tot {a b : ByteArray} (h1 : lessB a b = false) (h2 : a ≠ b) : lessB b a = true := by
  rw [lessB_iff]
  rcases Decidable.em (b.data.toList < a.data.toList) with h | h
  · exact h
  · exfalso
    have h3 : ¬ a.data.toList < b.data.toList := fun q => by rw [(lessB_iff a b).2 q] at h1; cases h1
    exact h2 (data_inj (List.le_antisymm (List.not_lt.1 h) (List.not_lt.1 h3)))
theorem lk_put (x : ByteArray) (b : List Int) (L : List S101) (y : ByteArray) : lkL (putL x b L) y = if y = x then some b else lkL L y := by
  induction L with
  | nil =>
    unfold putL lkL
    by_cases e : y = x
    · rw [if_pos e, if_pos e.symm]
    · rw [if_neg e, if_neg (fun q => e q.symm)]; rfl
  | cons k l ih =>
    unfold putL
    by_cases c1 : lessB k.f0 x = true
    · rw [if_pos c1]
      have hne : k.f0 ≠ x := fun e => by rw [e, lessB_irr] at c1; cases c1
      conv => lhs; unfold lkL
      conv => rhs; unfold lkL
      by_cases e : k.f0 = y
      · rw [if_pos e, if_pos e, if_neg (fun q => hne (e.trans q))]
      · rw [if_neg e, if_neg e, ih]
    · rw [if_neg c1]
      by_cases c2 : k.f0 = x
      · rw [if_pos c2]
        conv => lhs; unfold lkL
        conv => rhs; unfold lkL
        by_cases e : y = x
        · rw [if_pos e, if_pos e.symm]
        · rw [if_neg e, if_neg (fun q => e q.symm), if_neg (fun q => e (q.symm.trans c2))]
      · rw [if_neg c2]
        conv => lhs; unfold lkL
        by_cases e : y = x
        · rw [if_pos e, if_pos e.symm]
        · rw [if_neg e, if_neg (fun q => e q.symm)]
theorem lk_none_of {L : List S101} {x : ByteArray} (h : ∀ k ∈ L, lessB x k.f0 = true) : lkL L x = none := by
  induction L with
  | nil => rfl
  | cons k l ih =>
    unfold lkL
    rw [if_neg, ih (fun k' hk => h k' (List.mem_cons_of_mem _ hk))]
    intro e
    have := h k List.mem_cons_self
    rw [e, lessB_irr] at this
    cases this
theorem srt_head {k : S101} {l : List S101} {x : ByteArray} (h : Srt (k :: l)) (c1 : ¬ lessB k.f0 x = true) (c2 : k.f0 ≠ x) : lkL (k :: l) x = none := by
  have h1 : lessB x k.f0 = true := lessB_tot (by simpa using c1) c2
  refine lk_none_of fun k' hk => ?_
  rcases List.mem_cons.1 hk with rfl | hk
  · exact h1
  · exact lessB_trans h1 ((List.pairwise_cons.1 h).1 k' hk)
theorem put_len (x : ByteArray) (b : List Int) {L : List S101} (h : Srt L) : (putL x b L).length = if (lkL L x).isSome = true then L.length else L.length + 1 := by
  induction L with
  | nil => rfl
  | cons k l ih =>
    unfold putL
    by_cases c1 : lessB k.f0 x = true
    · have hne : k.f0 ≠ x := fun e => by rw [e, lessB_irr] at c1; cases c1
      rw [if_pos c1, List.length_cons, ih (List.pairwise_cons.1 h).2]
      conv => rhs; unfold lkL
      rw [if_neg hne]
      split <;> simp
    · rw [if_neg c1]
      by_cases c2 : k.f0 = x
      · rw [if_pos c2]
        conv => rhs; unfold lkL
        rw [if_pos c2]
        simp
      · rw [if_neg c2, srt_head h c1 c2]
        simp
theorem lk_cut (x : ByteArray) {L : List S101} (h : Srt L) (y : ByteArray) : lkL (cutL x L) y = if y = x then none else lkL L y := by
  induction L with
  | nil => unfold cutL lkL; simp
  | cons k l ih =>
    have hl := (List.pairwise_cons.1 h).2
    unfold cutL
    by_cases c1 : lessB k.f0 x = true
    · rw [if_pos c1]
      have hne : k.f0 ≠ x := fun e => by rw [e, lessB_irr] at c1; cases c1
      conv => lhs; unfold lkL
      conv => rhs; unfold lkL
      by_cases e : k.f0 = y
      · rw [if_pos e, if_pos e, if_neg (fun q => hne (e.trans q))]
      · rw [if_neg e, if_neg e, ih hl]
    · rw [if_neg c1]
      by_cases c2 : k.f0 = x
      · rw [if_pos c2]
        conv => rhs; unfold lkL
        by_cases e : y = x
        · rw [if_pos e, e]
          exact lk_none_of fun k' hk => by rw [← c2]; exact (List.pairwise_cons.1 h).1 k' hk
        · rw [if_neg e, if_neg (fun q => e (q.symm.trans c2))]
      · rw [if_neg c2]
        by_cases e : y = x
        · rw [if_pos e, e]
          exact srt_head h c1 c2
        · rw [if_neg e]
theorem cut_len (x : ByteArray) {L : List S101} (h : Srt L) : (cutL x L).length = if (lkL L x).isSome = true then L.length - 1 else L.length := by
  induction L with
  | nil => rfl
  | cons k l ih =>
    unfold cutL
    by_cases c1 : lessB k.f0 x = true
    · have hne : k.f0 ≠ x := fun e => by rw [e, lessB_irr] at c1; cases c1
      rw [if_pos c1, List.length_cons, ih (List.pairwise_cons.1 h).2]
      conv => rhs; unfold lkL
      rw [if_neg hne]
      split
      · rename_i h1
        have : l ≠ [] := fun e => by rw [e] at h1; cases h1
        have := List.length_pos_iff.2 this
        simp; omega
      · simp
    · rw [if_neg c1]
      by_cases c2 : k.f0 = x
      · rw [if_pos c2]
        conv => rhs; unfold lkL
        rw [if_pos c2]
        simp
      · rw [if_neg c2, srt_head h c1 c2]
        simp
theorem put_srt (x : ByteArray) (b : List Int) {L : List S101} (h : Srt L) : Srt (putL x b L) := by
  induction L with
  | nil => exact List.pairwise_singleton _ _
  | cons k l ih =>
    obtain ⟨h1, h2⟩ := List.pairwise_cons.1 h
    unfold putL
    by_cases c1 : lessB k.f0 x = true
    · rw [if_pos c1]
      refine List.pairwise_cons.2 ⟨fun k' hk => ?_, ih h2⟩
      have hm : ∀ L : List S101, k' ∈ putL x b L → k' = ⟨x, b⟩ ∨ k' ∈ L := by
        intro L
        induction L with
        | nil => intro q; exact .inl (List.mem_singleton.1 q)
        | cons a t ih =>
          intro q
          unfold putL at q
          split at q
          · rcases List.mem_cons.1 q with rfl | q
            · exact .inr List.mem_cons_self
            · exact (ih q).imp id (List.mem_cons_of_mem _)
          · split at q
            · exact (List.mem_cons.1 q).imp id (List.mem_cons_of_mem _)
            · exact List.mem_cons.1 q
      rcases hm l hk with rfl | q
      · exact c1
      · exact h1 k' q
    · rw [if_neg c1]
      by_cases c2 : k.f0 = x
      · rw [if_pos c2]
        exact List.pairwise_cons.2 ⟨fun k' hk => by rw [← c2]; exact h1 k' hk, h2⟩
      · rw [if_neg c2]
        have h3 : lessB x k.f0 = true := lessB_tot (by simpa using c1) c2
        exact List.pairwise_cons.2 ⟨fun k' hk => by
          rcases List.mem_cons.1 hk with rfl | hk
          · exact h3
          · exact lessB_trans h3 (h1 k' hk), h⟩
theorem put_mem {x : ByteArray} {b : List Int} {L : List S101} {k : S101} (h : k ∈ putL x b L) : k = ⟨x, b⟩ ∨ k ∈ L := by
  induction L with
  | nil => exact .inl (List.mem_singleton.1 h)
  | cons a t ih =>
    unfold putL at h
    split at h
    · rcases List.mem_cons.1 h with rfl | q
      · exact .inr List.mem_cons_self
      · exact (ih q).imp id (List.mem_cons_of_mem _)
    · split at h
      · exact (List.mem_cons.1 h).imp id (List.mem_cons_of_mem _)
      · exact List.mem_cons.1 h
theorem cut_sub (x : ByteArray) (L : List S101) : (cutL x L).Sublist L := by
  induction L with
  | nil => exact List.Sublist.refl _
  | cons a t ih =>
    unfold cutL
    split
    · exact ih.cons_cons _
    · split
      · exact List.sublist_cons_self _ _
      · exact List.Sublist.refl _
end
end Go.Proofs.Ytfakdphkklclgaa.P

end

section
namespace Go.Proofs.Ytfakdphkklclgaa.P
open Go.RowKit Go.Proofs.YtfakdphkklclgaaW.PrintWords Go.Proofs.YtfakdphkklclgaaW.PrintLast Go.Proofs.YtfakdphkklclgaaW.PrintMore
attribute [local go_sem] max2_int min2_int max_two min_two max_three min_three max_four min_four
set_option linter.unusedVariables false
set_option linter.unusedSimpArgs false
section
open Go.ChangeMaps Go.MapKept
set_option linter.unusedVariables false
theorem SAt.put {base g : Nat} {F : Nat → Prop} {s : Sto} {W W1 : World} {v : Value} {B : Nat} {m : ByteArray → Option Hd} (x : ByteArray) (b : List Int) (d : Hd) (hs : Srt s.L)
    (h1 : W.heap[g]? = some (.cells #[v, .map (some B), .bool true] 62 (0, 0))) (h2 : Kd.R (Kd.int .u8) 5 W base F v s.img) (h3 : HMap W B s.L.length m s.L.length) (h4 : F B) (h5 : ∀ x, (m x).isSome = (lkL s.L x).isSome)
    (h6 : ∀ x d, m x = some d → ∀ xs, lkL s.L x = some xs → d.n = xs.length ∧ xs.length ≤ d.c ∧ Kd.F (Kd.int .u8) W (fun b => F b ∧ v.ownBlock ≠ some b ∧ b ≠ B ∧ b ≠ g) d.A xs.length xs) (hf : F g) (hl : ∀ b, F b → base ≤ b ∧ b < W.heap.size)
    (hd1 : d.n = b.length) (hd2 : b.length ≤ d.c) (hd3 : Kd.F (Kd.int .u8) W (fun b => F b ∧ v.ownBlock ≠ some b ∧ b ≠ B ∧ b ≠ g) d.A b.length b)
    (hm : HMap W1 B (s.L.length + 1) (updH m x d) (if (m x).isSome then s.L.length else s.L.length + 1)) (hg : W.grownBy W1 (some B)) : SAt base F g ⟨s.img, putL x b s.L⟩ W1 := by
  have hk : Kept W W1 (fun k => k = B) := ⟨hg.size, fun k hk hn => hg.block k hk (fun e => hn (by injection e))⟩
  have n3 : v.ownBlock ≠ some B := fun q => by
    obtain ⟨cs, h7⟩ := Kd.R_typed h2 B q
    exact h3.ne h7 rfl
  have hm2 : HMap W1 B (putL x b s.L).length (updH m x d) (putL x b s.L).length := by
    rw [put_len x b hs, ← h5 x]
    exact hm_tight hm
  refine ⟨⟨v, B, updH m x d, blk_kept h1 hk (fun e => h3.ne h1 e.symm), Kd.R_mono (Kd.R_kept (Kd.R_tight2 rfl h2) hk (fun k q e => n3 (by rw [← e]; exact q.1.symm))) (fun k q => q.2), hm2, h4, fun y => ?_, fun y d' hy xs hx => ?_⟩, hf, fun b q => ⟨(hl b q).1, Nat.lt_of_lt_of_le (hl b q).2 hg.size⟩⟩
  · show (updH m x d y).isSome = (lkL (putL x b s.L) y).isSome
    rw [lk_put]
    unfold updH
    split
    · rfl
    · exact h5 y
  · rw [lk_put] at hx
    unfold updH at hy
    by_cases e : y = x
    · rw [if_pos e] at hy hx
      cases hy
      cases hx
      exact ⟨hd1, hd2, Kd.F_kept hd3 hk (fun k q => q.2.2.1)⟩
    · rw [if_neg e] at hy hx
      obtain ⟨q1, q2, q3⟩ := h6 y d' hy xs hx
      exact ⟨q1, q2, Kd.F_kept q3 hk (fun k q => q.2.2.1)⟩
theorem SAt.cut {base g : Nat} {F : Nat → Prop} {s : Sto} {W W1 : World} {v : Value} {B : Nat} {m : ByteArray → Option Hd} (x : ByteArray) (hs : Srt s.L)
    (h1 : W.heap[g]? = some (.cells #[v, .map (some B), .bool true] 62 (0, 0))) (h2 : Kd.R (Kd.int .u8) 5 W base F v s.img) (h3 : HMap W B s.L.length m s.L.length) (h4 : F B) (h5 : ∀ x, (m x).isSome = (lkL s.L x).isSome)
    (h6 : ∀ x d, m x = some d → ∀ xs, lkL s.L x = some xs → d.n = xs.length ∧ xs.length ≤ d.c ∧ Kd.F (Kd.int .u8) W (fun b => F b ∧ v.ownBlock ≠ some b ∧ b ≠ B ∧ b ≠ g) d.A xs.length xs) (hf : F g) (hl : ∀ b, F b → base ≤ b ∧ b < W.heap.size)
    (hm : HMap W1 B s.L.length (delH m x) (if (m x).isSome then s.L.length - 1 else s.L.length)) (hg : W.grownBy W1 (some B)) : SAt base F g ⟨s.img, cutL x s.L⟩ W1 := by
  have hk : Kept W W1 (fun k => k = B) := ⟨hg.size, fun k hk hn => hg.block k hk (fun e => hn (by injection e))⟩
  have n3 : v.ownBlock ≠ some B := fun q => by
    obtain ⟨cs, h7⟩ := Kd.R_typed h2 B q
    exact h3.ne h7 rfl
  have hm2 : HMap W1 B (cutL x s.L).length (delH m x) (cutL x s.L).length := by
    rw [cut_len x hs, ← h5 x]
    exact hm_tight hm
  refine ⟨⟨v, B, delH m x, blk_kept h1 hk (fun e => h3.ne h1 e.symm), Kd.R_mono (Kd.R_kept (Kd.R_tight2 rfl h2) hk (fun k q e => n3 (by rw [← e]; exact q.1.symm))) (fun k q => q.2), hm2, h4, fun y => ?_, fun y d' hy xs hx => ?_⟩, hf, fun b q => ⟨(hl b q).1, Nat.lt_of_lt_of_le (hl b q).2 hg.size⟩⟩
  · show (delH m x y).isSome = (lkL (cutL x s.L) y).isSome
    rw [lk_cut x hs]
    unfold delH
    split
    · rfl
    · exact h5 y
  · rw [lk_cut x hs] at hx
    unfold delH at hy
    by_cases e : y = x
    · rw [if_pos e] at hy
      cases hy
    · rw [if_neg e] at hy hx
      obtain ⟨q1, q2, q3⟩ := h6 y d' hy xs hx
      exact ⟨q1, q2, Kd.F_kept q3 hk (fun k q => q.2.2.1)⟩
set_option maxHeartbeats 3200000 in
set_option maxRecDepth 100000 in
theorem Put1_calls {base g2 bx : Nat} {bs b : List Int} {w : World} (h : WtAt base g2 (fun _ => True) bs w) (A : Option Addr) (c : Nat) (hx : w.heap[bx]? = some (.cells #[.slice A b.length c] 23 (0, 0))) (hr : Kd.C (Kd.int .u8) w A b.length b) (hb : b.length ≤ 4096) (hbx : bx < base) (hba : ∀ W', Below base w W' → Kd.C (Kd.int .u8) W' A b.length b) (hl : bs.length ≤ 4096) : Calls Try.prog 37 #[.pointer (some ⟨g2, 0, none⟩), .pointer (some ⟨bx, 0, none⟩)] w fun e w' => e = .returned (.tuple #[]) ∧ WtAt base g2 (fun _ => True) (bs ++ ([byt (b.length : Int) 256, byt (b.length : Int) 1] ++ b)) w' ∧ Below base w w' := by
  have H := Aside0.mk h
  have HX := Aside0.mk hx
  have HBA := Aside0.mk hba
  have hcx := blk_cell hx 0
  clear h hx hba hr
  go_enter Try.func37, Try.ntmps37
  go_wp2_with fail
  refine (wWord_good H.out (b.length : Int) (by omega) (by omega)).mono ?_
  rintro e w1 ⟨q, _⟩
  obtain ⟨rfl, hwt, hb1, _⟩ := q (by omega)
  have HWT := Aside0.mk (show WtAt base g2 (fun _ => True) (bs ++ [byt (b.length : Int) 256, byt (b.length : Int) 1]) w1 from hwt.mono (fun _ _ => trivial))
  have HB := Aside0.mk hb1
  clear hwt hb1 q hcx
  have hcx := blk_cell ((HB.out.block bx hbx).trans HX.out) 0
  go_wp2_with fail
  refine (Put_good HWT.out A c (HBA.out _ HB.out) (by rw [List.length_append]; simp; omega)).mono ?_
  rintro e w2 ⟨rfl, hwt, hb1, _⟩
  have HWT2 := Aside0.mk (show WtAt base g2 (fun _ => True) (bs ++ [byt (b.length : Int) 256, byt (b.length : Int) 1] ++ b) w2 from hwt.mono (fun _ _ => trivial))
  have HB2 := Aside0.mk (HB.out.trans hb1)
  clear hwt hb1 hcx
  go_wp2_with fail
  go_end0
  exact ⟨rfl, by simpa using HWT2.out, HB2.out⟩
set_option maxHeartbeats 3200000 in
set_option maxRecDepth 100000 in
theorem Drop1_calls {base g2 : Nat} {bs : List Int} {w : World} (h : WtAt base g2 (fun _ => True) bs w) : Calls Try.prog 52 #[.pointer (some ⟨g2, 0, none⟩)] w fun e w' => e = .returned (.tuple #[]) ∧ WtAt base g2 (fun _ => True) bs w' ∧ Below base w w' := by
  have H := Aside0.mk h
  clear h
  go_enter Try.func52, Try.ntmps52
  go_wp2_with fail
  go_end0
  exact ⟨rfl, H.out, Below.refl _ _⟩
end
end Go.Proofs.Ytfakdphkklclgaa.P

end

section
namespace Go.Proofs.Ytfakdphkklclgaa.P
open Go.RowKit Go.Proofs.YtfakdphkklclgaaW.PrintWords Go.Proofs.YtfakdphkklclgaaW.PrintLast Go.Proofs.YtfakdphkklclgaaW.PrintMore
attribute [local go_sem] max2_int min2_int max_two min_two max_three min_three max_four min_four
set_option linter.unusedVariables false
set_option linter.unusedSimpArgs false
section
open Go.ChangeMaps Go.MapKept
set_option linter.unusedVariables false
theorem callFunc_st {f : Nat} {fn : Func} (hf : Try.prog.funcs[f]? = some fn) (hname : (fn.name == "runtime.NumGoroutine") = false) (hb : fn.body.isSome = true) (vs : Array Value) (w : World) : Sem.run Try.prog (callFunc f vs) w = .ok (.enter f vs) w := enters_ hf hname hb vs w
theorem StPost.since {base : Nat} {F : Nat → Prop} {g : Nat} {w w1 w' : World} {out : Sto × List S52 × Int} {e : Ending} (h : StPost base F g w1 out e w') (hb : Below w.heap.size w w1) (hbs : base ≤ w.heap.size) : StPost base F g w out e w' := by
  obtain ⟨v, S1, S2, h1, h2, h3, h4, h5, h6, h7, h8⟩ := h
  exact ⟨v, S1, S2, h1, Nat.le_trans hb.size h2, h3, h4, h5, h6, ⟨Nat.le_trans hb.size h7.1, fun k hk hn => (h7.2 k (Nat.lt_of_lt_of_le hk hb.size) hn).trans (hb.block k hk)⟩, fun B w0 hB hw => h8 B w0 hB (hw.trans (hb.mono (Nat.le_trans hB hbs)))⟩
theorem byt_256 {n : Nat} (h : n ≤ 4096) : byt (n : Int) 256 = (n : Int) / 256 % 256 := by unfold byt; omega
theorem byt_1 {n : Nat} (h : n ≤ 4096) : byt (n : Int) 1 = (n : Int) % 256 := by unfold byt; omega
theorem rec_put (x : ByteArray) (b : List Int) (h : b.length ≤ 4096) : ([0] ++ nameBytes x ++ ([byt (b.length : Int) 256, byt (b.length : Int) 1] ++ b)).set 0 1 = recB 1 x b := by
  rw [byt_256 h, byt_1 h]
  unfold recB nameBytes
  simp
theorem rec_drop (x : ByteArray) : ([0] ++ nameBytes x ++ []).set 0 2 = recB 2 x [] := by
  unfold recB nameBytes
  simp
theorem laidS_of (s : Sto) (l : List S101) (kind : Int) (t : List Int) : laidS s l (([0] ++ t).set 0 kind) = if 1048576 < s.img.length + ([0] ++ t).length + 1 then (s, [], 7) else (⟨s.img ++ ([0] ++ t).set 0 kind, l⟩, [⟨(s.img.length : Int), ([0] ++ t) ++ [0]⟩, ⟨(s.img.length : Int), [kind]⟩], 0) := by
  unfold laidS
  simp only [List.length_set]
  congr 1
theorem hd_ok {W : World} {base n c : Nat} {ok : Nat → Prop} {A : Option Addr} {xs : List Int} (h : Kd.R (Kd.int .u8) 5 W base ok (.slice A n c) xs) : Hd.ok ⟨A, n, c⟩ := by
  obtain ⟨_, inner, ⟨h1, h2⟩, _⟩ := h
  rcases h2 with ⟨e, _⟩ | ⟨g, cap, cur, e, _⟩
  · injection e with e1 e2 e3
    exact .inl ⟨e1, e2, e3⟩
  · injection e with e1 e2 e3
    exact .inr ⟨g, e1⟩
set_option maxHeartbeats 6400000 in
set_option maxRecDepth 100000 in
theorem Put_st {base g : Nat} {F : Nat → Prop} {s : Sto} {w : World} (K : Nat) (nm : ByteArray → Bool) (hK : StFacts K nm) (hg : Good nm s) (x : ByteArray) (hx : x.size ≤ maxLen) (b : List Int) (A : Option Addr) (c : Nat) (P : Nat → Prop) (hr : Kd.F (Kd.int .u8) w P A b.length b) (hP : ∀ k, P k → ¬ F k) (h : SAt base F g s w) : Calls Try.prog 11 #[.pointer (some ⟨g, 0, none⟩), .string x, .slice A b.length c] w fun e w' => StPost base F g w (putS nm s x b) e w' := by
  have HH := Aside0.mk h
  have H := Aside0.mk h
  have HX := Aside0.mk hx
  have HK := Aside0.mk hK
  have HG := Aside0.mk hg
  have HC := Aside0.mk hr
  have HP := Aside0.mk hP
  have HN := Aside0.mk (hK.rd.name x)
  clear h hx hK hg hr hP
  by_cases c1 : nm x = false
  · rw [c1] at HN
    go_enter Try.func11, Try.ntmps11
    go_wp2_with fail
    have hb1 := below_alloc (Below.refl w.heap.size w) (.cells #[.slice A b.length c] 23)
    have hbx := blk_new w (.cells #[.slice A b.length c] 23)
    obtain ⟨bx, hbxe⟩ : ∃ bx, bx = w.heap.size := ⟨_, rfl⟩
    rw [← hbxe] at hbx
    simp only [← hbxe]
    generalize (w.alloc (.cells #[.slice A b.length c] 23)) = w1 at hb1 hbx ⊢
    have HB1 := Aside0.mk hb1
    have HBX := Aside0.mk hbx
    have HBE := Aside0.mk hbxe
    replace H := Aside0.mk (HH.out.step hb1)
    obtain ⟨Ai, ci, B, m, h1, h2, h3, h4, h5, h6⟩ := H.out.cells
    have hc1 := blk_cell h1 1
    have H3 := Aside0.mk h3
    have hlk := lk_hd h5 x
    clear h1 h2 h3 h4 h5 h6 hb1 hbx hbxe
    refine (ready_st H.out).mono ?_
    rintro e w2 ⟨rfl, k1, rfl⟩
    replace hc1 := show (w1.drewN k1).cell? ⟨g, 1, none⟩ = _ from hc1
    replace H3 := Aside0.mk (H3.out.block (W1 := w1.drewN k1) rfl)
    go_wp2_with (first | ((with_reducible refine gate_dst (N := 21) rfl ?_); refine hm_look_ok rfl rfl rfl H3.out rfl HX.out ?_))
    go_wp2_with fail
    refine (wire_IsName.calls K x _ _ HN.out).mono ?_
    rintro e w3 ⟨rfl, k2, rfl⟩
    have hcx := blk_cell (blk_drewN HBX.out (k1 + k2)) 0
    replace hc1 := show (w1.drewN (k1 + k2)).cell? ⟨g, 1, none⟩ = _ from hc1
    replace H3 := Aside0.mk (H3.out.block (W1 := w1.drewN (k1 + k2)) rfl)
    go_wp2_with fail
    unfold putS
    rw [if_pos c1]
    go_ret2
    exact StPost.same HH.out (pw_below_drewN HB1.out _) 6
  · rw [Bool.not_eq_false] at c1
    rw [c1] at HN
    by_cases c2 : 4096 < b.length
    · have c2b : decide ((4096 : Int) < (b.length : Int)) = true := decide_eq_true (by omega)
      go_enter Try.func11, Try.ntmps11
      go_wp2_with fail
      have hb1 := below_alloc (Below.refl w.heap.size w) (.cells #[.slice A b.length c] 23)
      have hbx := blk_new w (.cells #[.slice A b.length c] 23)
      obtain ⟨bx, hbxe⟩ : ∃ bx, bx = w.heap.size := ⟨_, rfl⟩
      rw [← hbxe] at hbx
      simp only [← hbxe]
      generalize (w.alloc (.cells #[.slice A b.length c] 23)) = w1 at hb1 hbx ⊢
      have HB1 := Aside0.mk hb1
      have HBX := Aside0.mk hbx
      have HBE := Aside0.mk hbxe
      replace H := Aside0.mk (HH.out.step hb1)
      obtain ⟨Ai, ci, B, m, h1, h2, h3, h4, h5, h6⟩ := H.out.cells
      have hc1 := blk_cell h1 1
      have H3 := Aside0.mk h3
      have hlk := lk_hd h5 x
      clear h1 h2 h3 h4 h5 h6 hb1 hbx hbxe
      refine (ready_st H.out).mono ?_
      rintro e w2 ⟨rfl, k1, rfl⟩
      replace hc1 := show (w1.drewN k1).cell? ⟨g, 1, none⟩ = _ from hc1
      replace H3 := Aside0.mk (H3.out.block (W1 := w1.drewN k1) rfl)
      go_wp2_with (first | ((with_reducible refine gate_dst (N := 21) rfl ?_); refine hm_look_ok rfl rfl rfl H3.out rfl HX.out ?_))
      go_wp2_with fail
      refine (wire_IsName.calls K x _ _ HN.out).mono ?_
      rintro e w3 ⟨rfl, k2, rfl⟩
      have hcx := blk_cell (blk_drewN HBX.out (k1 + k2)) 0
      replace hc1 := show (w1.drewN (k1 + k2)).cell? ⟨g, 1, none⟩ = _ from hc1
      replace H3 := Aside0.mk (H3.out.block (W1 := w1.drewN (k1 + k2)) rfl)
      go_wp2_with fail
      unfold putS
      rw [if_neg (by rw [c1]; decide), if_pos c2]
      go_ret2
      exact StPost.same HH.out (pw_below_drewN HB1.out _) 4
    · have c2b : decide ((4096 : Int) < (b.length : Int)) = false := decide_eq_false (by omega)
      by_cases c3 : lkL s.L x = none
      · by_cases c4 : 16 ≤ s.L.length
        · have c4b : decide ((16 : Int) ≤ (s.L.length : Int)) = true := decide_eq_true (by omega)
          go_enter Try.func11, Try.ntmps11
          go_wp2_with fail
          have hb1 := below_alloc (Below.refl w.heap.size w) (.cells #[.slice A b.length c] 23)
          have hbx := blk_new w (.cells #[.slice A b.length c] 23)
          obtain ⟨bx, hbxe⟩ : ∃ bx, bx = w.heap.size := ⟨_, rfl⟩
          rw [← hbxe] at hbx
          simp only [← hbxe]
          generalize (w.alloc (.cells #[.slice A b.length c] 23)) = w1 at hb1 hbx ⊢
          have HB1 := Aside0.mk hb1
          have HBX := Aside0.mk hbx
          have HBE := Aside0.mk hbxe
          replace H := Aside0.mk (HH.out.step hb1)
          obtain ⟨Ai, ci, B, m, h1, h2, h3, h4, h5, h6⟩ := H.out.cells
          have hc1 := blk_cell h1 1
          have H3 := Aside0.mk h3
          have hlk := lk_hd h5 x
          clear h1 h2 h3 h4 h5 h6 hb1 hbx hbxe
          refine (ready_st H.out).mono ?_
          rintro e w2 ⟨rfl, k1, rfl⟩
          replace hc1 := show (w1.drewN k1).cell? ⟨g, 1, none⟩ = _ from hc1
          replace H3 := Aside0.mk (H3.out.block (W1 := w1.drewN k1) rfl)
          have g3 : (m x).isSome = false := by
            rcases hlk with ⟨_, q⟩ | ⟨d, xs, _, q⟩
            · rw [q]; rfl
            · rw [c3] at q; cases q
          go_wp2_with (first | ((with_reducible refine gate_dst (N := 21) rfl ?_); refine hm_look_ok rfl rfl rfl H3.out rfl HX.out ?_))
          go_wp2_with fail
          refine (wire_IsName.calls K x _ _ HN.out).mono ?_
          rintro e w3 ⟨rfl, k2, rfl⟩
          have hcx := blk_cell (blk_drewN HBX.out (k1 + k2)) 0
          replace hc1 := show (w1.drewN (k1 + k2)).cell? ⟨g, 1, none⟩ = _ from hc1
          replace H3 := Aside0.mk (H3.out.block (W1 := w1.drewN (k1 + k2)) rfl)
          go_wp2_with (first | ((with_reducible refine gate_dst (N := 40) rfl ?_); refine gate_guard rfl ?_; refine hm_len rfl rfl rfl H3.out ?_))
          unfold putS
          rw [if_neg (by rw [c1]; decide), if_neg c2, if_pos ⟨c3, c4⟩]
          go_ret2
          exact StPost.same HH.out (pw_below_drewN HB1.out _) 7
        · have c4b : decide ((16 : Int) ≤ (s.L.length : Int)) = false := decide_eq_false (by omega)
          have hput : putS nm s x b = laidS s (putL x b s.L) (recB 1 x b) := by
            unfold putS
            rw [if_neg (by rw [c1]; decide), if_neg c2, if_neg (fun q => c4 q.2)]
          rw [hput, ← rec_put x b (by omega), List.append_assoc, laidS_of, ← List.append_assoc]
          clear hput
          by_cases c5 : 1048576 < s.img.length + ([0] ++ nameBytes x ++ ([byt (b.length : Int) 256, byt (b.length : Int) 1] ++ b)).length + 1
          · rw [if_pos c5]
            go_enter Try.func11, Try.ntmps11
            go_wp2_with fail
            have hb1 := below_alloc (Below.refl w.heap.size w) (.cells #[.slice A b.length c] 23)
            have hbx := blk_new w (.cells #[.slice A b.length c] 23)
            obtain ⟨bx, hbxe⟩ : ∃ bx, bx = w.heap.size := ⟨_, rfl⟩
            rw [← hbxe] at hbx
            simp only [← hbxe]
            generalize (w.alloc (.cells #[.slice A b.length c] 23)) = w1 at hb1 hbx ⊢
            have HB1 := Aside0.mk hb1
            have HBX := Aside0.mk hbx
            have HBE := Aside0.mk hbxe
            replace H := Aside0.mk (HH.out.step hb1)
            obtain ⟨Ai, ci, B, m, h1, h2, h3, h4, h5, h6⟩ := H.out.cells
            have hc1 := blk_cell h1 1
            have H3 := Aside0.mk h3
            have hlk := lk_hd h5 x
            clear h1 h2 h3 h4 h5 h6 hb1 hbx hbxe
            refine (ready_st H.out).mono ?_
            rintro e w2 ⟨rfl, k1, rfl⟩
            replace hc1 := show (w1.drewN k1).cell? ⟨g, 1, none⟩ = _ from hc1
            replace H3 := Aside0.mk (H3.out.block (W1 := w1.drewN k1) rfl)
            have g3 : (m x).isSome = false := by
              rcases hlk with ⟨_, q⟩ | ⟨d, xs, _, q⟩
              · rw [q]; rfl
              · rw [c3] at q; cases q
            go_wp2_with (first | ((with_reducible refine gate_dst (N := 21) rfl ?_); refine hm_look_ok rfl rfl rfl H3.out rfl HX.out ?_))
            go_wp2_with fail
            refine (wire_IsName.calls K x _ _ HN.out).mono ?_
            rintro e w3 ⟨rfl, k2, rfl⟩
            have hcx := blk_cell (blk_drewN HBX.out (k1 + k2)) 0
            replace hc1 := show (w1.drewN (k1 + k2)).cell? ⟨g, 1, none⟩ = _ from hc1
            replace H3 := Aside0.mk (H3.out.block (W1 := w1.drewN (k1 + k2)) rfl)
            go_wp2_with (first | ((with_reducible refine gate_dst (N := 40) rfl ?_); refine gate_guard rfl ?_; refine hm_len rfl rfl rfl H3.out ?_))
            have hlx := H.out.lt g H.out.fs
            have hbxl := blk_lt HBX.out
            refine (laid_full (w := w1.drewN (k1 + k2)) K nm HK.out HG.out 1 (.inl rfl) x c1 ([byt (b.length : Int) 256, byt (b.length : Int) 1] ++ b) (by simp; omega) 37 #[.pointer (some ⟨bx, 0, none⟩)] (callFunc_st Try.func37 (by kernel_rfl) (by kernel_rfl)) (fun g2 W1 hb hwt => ?hp) (show SAt base F g s (w1.drewN (k1 + k2)) from H.out.step (pw_below_drewN (Below.refl _ _) _)) (by omega)).mono ?_
            case hp =>
              have hB : Below w1.heap.size w1 W1 := below_step (pw_below_drewN (Below.refl _ _) (k1 + k2)) hb
              exact Put1_calls hwt A c (blk_below HBX.out hB) (Kd.F_now (Kd.F_below (Kd.F_below HC.out HB1.out) hB)) (by omega) hbxl (fun W' hW => Kd.F_now (Kd.F_below (Kd.F_below HC.out HB1.out) (hB.trans hW))) (by have := (HK.out.siz x c1).2; unfold nameBytes bytesOf; simp [Lib.toList_data]; omega)
            rintro e w4 ⟨v, S1, S2, rfl, q⟩
            have HQ := Aside0.mk (StPost.since ⟨v, S1, S2, rfl, q⟩ (pw_below_drewN HB1.out (k1 + k2)) (by have := HH.out.lt g HH.out.fs; omega))
            clear q
            go_wp2_with fail
            go_ret2
            exact HQ.out
          · rw [if_neg c5]
            go_enter Try.func11, Try.ntmps11
            go_wp2_with fail
            have hb1 := below_alloc (Below.refl w.heap.size w) (.cells #[.slice A b.length c] 23)
            have hbx := blk_new w (.cells #[.slice A b.length c] 23)
            obtain ⟨bx, hbxe⟩ : ∃ bx, bx = w.heap.size := ⟨_, rfl⟩
            rw [← hbxe] at hbx
            simp only [← hbxe]
            generalize (w.alloc (.cells #[.slice A b.length c] 23)) = w1 at hb1 hbx ⊢
            have HB1 := Aside0.mk hb1
            have HBX := Aside0.mk hbx
            have HBE := Aside0.mk hbxe
            replace H := Aside0.mk (HH.out.step hb1)
            obtain ⟨Ai, ci, B, m, h1, h2, h3, h4, h5, h6⟩ := H.out.cells
            have hc1 := blk_cell h1 1
            have H3 := Aside0.mk h3
            have hlk := lk_hd h5 x
            clear h1 h2 h3 h4 h5 h6 hb1 hbx hbxe
            refine (ready_st H.out).mono ?_
            rintro e w2 ⟨rfl, k1, rfl⟩
            replace hc1 := show (w1.drewN k1).cell? ⟨g, 1, none⟩ = _ from hc1
            replace H3 := Aside0.mk (H3.out.block (W1 := w1.drewN k1) rfl)
            have g3 : (m x).isSome = false := by
              rcases hlk with ⟨_, q⟩ | ⟨d, xs, _, q⟩
              · rw [q]; rfl
              · rw [c3] at q; cases q
            go_wp2_with (first | ((with_reducible refine gate_dst (N := 21) rfl ?_); refine hm_look_ok rfl rfl rfl H3.out rfl HX.out ?_))
            go_wp2_with fail
            refine (wire_IsName.calls K x _ _ HN.out).mono ?_
            rintro e w3 ⟨rfl, k2, rfl⟩
            have hcx := blk_cell (blk_drewN HBX.out (k1 + k2)) 0
            replace hc1 := show (w1.drewN (k1 + k2)).cell? ⟨g, 1, none⟩ = _ from hc1
            replace H3 := Aside0.mk (H3.out.block (W1 := w1.drewN (k1 + k2)) rfl)
            go_wp2_with (first | ((with_reducible refine gate_dst (N := 40) rfl ?_); refine gate_guard rfl ?_; refine hm_len rfl rfl rfl H3.out ?_))
            have hlx := H.out.lt g H.out.fs
            have hbxl := blk_lt HBX.out
            refine (laid_fits (w := w1.drewN (k1 + k2)) K nm HK.out HG.out 1 (.inl rfl) x c1 ([byt (b.length : Int) 256, byt (b.length : Int) 1] ++ b) (by simp; omega) 37 #[.pointer (some ⟨bx, 0, none⟩)] (callFunc_st Try.func37 (by kernel_rfl) (by kernel_rfl)) (fun g2 W1 hb hwt => ?hp) (show SAt base F g s (w1.drewN (k1 + k2)) from H.out.step (pw_below_drewN (Below.refl _ _) _)) (by omega)).mono ?_
            case hp =>
              have hB : Below w1.heap.size w1 W1 := below_step (pw_below_drewN (Below.refl _ _) (k1 + k2)) hb
              exact Put1_calls hwt A c (blk_below HBX.out hB) (Kd.F_now (Kd.F_below (Kd.F_below HC.out HB1.out) hB)) (by omega) hbxl (fun W' hW => Kd.F_now (Kd.F_below (Kd.F_below HC.out HB1.out) (hB.trans hW))) (by have := (HK.out.siz x c1).2; unfold nameBytes bytesOf; simp [Lib.toList_data]; omega)
            rintro e w4 ⟨v, S1, S2, rfl, q1, q2, q3, q4, q5, q6, q7⟩
            have HQ := Aside0.mk (And.intro q1 (And.intro q2 (And.intro q3 (And.intro q4 (And.intro q6 q7)))))
            have H4 := Aside0.mk q5
            obtain ⟨A4, c4, B4, m4, h1, h2, h3, h4, h5, h6⟩ := q5.cells
            have HX4 := Aside0.mk ((q6.2 bx hbxl (fun q => by have := (HH.out.lt bx q).2; have := HBE.out; omega)).trans (blk_drewN HBX.out (k1 + k2)))
            have hcm := blk_cell h1 1
            have hcx4 := blk_cell HX4.out 0
            have HHM := Aside0.mk (And.intro h1 (And.intro h2 (And.intro h3 (And.intro h4 (And.intro h5 h6)))))
            have HC4 := Aside0.mk (Kd.F_now (Kd.F_kept (Kd.F_drewN (Kd.F_below HC.out HB1.out) (k1 + k2)) q6 HP.out))
            clear q1 q2 q3 q4 q5 q6 q7 h1 h2 h3 h4 h5 h6 hcx hc1
            go_wp2_with fail
            have HSS := Aside0.mk (show ∀ W' : World, Below w4.heap.size w4 W' → W'.cell? ⟨g, 1, none⟩ = some (.map (some B4)) ∧ W'.cell? ⟨bx, 0, none⟩ = some (.slice A b.length c) from fun W' hW => ⟨blk_cell (blk_below HHM.out.1 hW) 1, blk_cell (blk_below HX4.out hW) 0⟩)
            have HB := Aside0.mk (Below.refl w4.heap.size w4)
            (try simp only [Act.put, List.setIfInBounds_toArray, List.set_cons_zero, List.set_cons_succ])
            refine wp_region_held_drew (S := fun w' => w'.cell? ⟨g, 1, none⟩ = some (.map (some B4)) ∧ w'.cell? ⟨bx, 0, none⟩ = some (.slice A b.length c)) (by kernel_rfl) ?_ (fun hHeld => ?_)
            · exact HSS.out _ (pw_below_drewN HB.out 1)
            replace HB := Aside0.mk (show Below w4.heap.size w4 w4.drew from pw_below_drewN HB.out 1)
            generalize w4.drew = wd at HB hHeld ⊢
            refine take_dst (i := 0) (v := ?_) 52 rfl rfl (by kernel_rfl) (by kernel_rfl) (by kernel_rfl) (fun _ _ _ h => h) (Or.inl ⟨by rfl, ?_⟩) (by assumption) ?_
            rotate_left
            · intro w hSw
              obtain ⟨q1, q2⟩ := hSw
              go_simp
              try with_reducible rfl
            (try simp only [Act.put, List.setIfInBounds_toArray, List.set_cons_zero, List.set_cons_succ])
            refine take_dst (i := 1) (v := ?_) 53 rfl rfl (by kernel_rfl) (by kernel_rfl) (by kernel_rfl) (fun _ _ _ h => h) (Or.inl ⟨by rfl, ?_⟩) (by assumption) ?_
            rotate_left
            · intro w hSw
              obtain ⟨q1, q2⟩ := hSw
              go_simp
              try with_reducible rfl
            (try simp only [Act.put, List.setIfInBounds_toArray, List.set_cons_zero, List.set_cons_succ])
            refine take_dst (i := 2) (v := ?_) 54 rfl rfl (by kernel_rfl) (by kernel_rfl) (by kernel_rfl) (fun _ _ _ h => h) (Or.inl ⟨by rfl, ?_⟩) (by assumption) ?_
            rotate_left
            · intro w hSw
              obtain ⟨q1, q2⟩ := hSw
              go_simp
              try with_reducible rfl
            (try simp only [Act.put, List.setIfInBounds_toArray, List.set_cons_zero, List.set_cons_succ])
            refine take_dst (i := 3) (v := ?_) 55 rfl rfl (by kernel_rfl) (by kernel_rfl) (by kernel_rfl) (fun _ _ _ h => h) (Or.inl ⟨by rfl, ?_⟩) (by assumption) ?_
            rotate_left
            · intro w hSw
              obtain ⟨q1, q2⟩ := hSw
              go_simp
              try with_reducible rfl
            (try simp only [Act.put, List.setIfInBounds_toArray, List.set_cons_zero, List.set_cons_succ])
            refine take_dst (i := 4) (v := ?_) 56 rfl rfl (by kernel_rfl) (by kernel_rfl) (by kernel_rfl) (fun _ _ _ h => h) (Or.inl ⟨by rfl, ?_⟩) (by assumption) ?_
            rotate_left
            · intro w hSw
              obtain ⟨q1, q2⟩ := hSw
              go_simp
              try with_reducible rfl
            (try simp only [Act.put, List.setIfInBounds_toArray, List.set_cons_zero, List.set_cons_succ])
            refine take_dst (i := 5) (v := ?_) 57 rfl rfl (by kernel_rfl) (by kernel_rfl) (by kernel_rfl) (fun _ _ _ h => h) (Or.inl ⟨by rfl, ?_⟩) (by assumption) ?_
            rotate_left
            · intro w hSw
              obtain ⟨q1, q2⟩ := hSw
              go_simp
              try with_reducible rfl
            (try simp only [Act.put, List.setIfInBounds_toArray, List.set_cons_zero, List.set_cons_succ])
            refine wpAnyH_ready (rs := [6]) (by kernel_rfl) (by simp) ?_
            refine AllReadyH.cons rfl (fun K hK => ?_) AllReadyH.nil
            go_simp
            refine (cloned_calls A c b _ (Kd.C_below HC4.out HB.out) (by omega)).mono ?_
            have HS6 := Aside0.mk HB.out.size
            rintro e w6 ⟨v3, rfl, hR6, hb6⟩
            obtain ⟨A6, c6, e6⟩ := Kd.R_slice hR6
            subst e6
            replace HB := Aside0.mk (below_step HB.out hb6)
            have HR6 := Aside0.mk hR6
            clear hR6 hb6
            go_simp
            refine hK.out _ _ (HSS.out _ HB.out) (fun hHeld => ?_)
            (try simp only [Act.put, List.setIfInBounds_toArray, List.set_cons_zero, List.set_cons_succ])
            clear hK K
            refine wpAnyH_ready (rs := [7]) (by kernel_rfl) (by simp) ?_
            refine AllReadyH.cons rfl (fun K hK => ?_) AllReadyH.nil
            have hB4 := HHM.out.2.2.1
            refine hm_store_wp (m := .tmp 55) (x := .tmp 56) (v := .tmp 58) (k := x) (c := ⟨A6, b.length, c6⟩) rfl rfl (hB4.block (HB.out.block B4 hB4.lt)) (by show s.L.length < maxLen; unfold maxLen; omega) rfl rfl HX.out (hd_ok HR6.out) ?_
            intro w7 hm7 hg7
            have HM7 := Aside0.mk hm7
            have HG7 := Aside0.mk hg7
            have hne4 : some g ≠ some B4 := fun q => hB4.ne HHM.out.1 (by injection q with q; exact q.symm)
            have hne5 : some bx ≠ some B4 := fun q => hB4.ne HX4.out (by injection q with q; exact q.symm)
            have hgl := blk_lt HHM.out.1
            have hxl4 := blk_lt HX4.out
            refine hK.out _ _ ⟨blk_cell ((hg7.block g (Nat.lt_of_lt_of_le hgl HB.out.size) hne4).trans (blk_below HHM.out.1 HB.out)) 1, blk_cell ((hg7.block bx (Nat.lt_of_lt_of_le hxl4 HB.out.size) hne5).trans (blk_below HX4.out HB.out)) 0⟩ (fun hHeld => ?_)
            (try simp only [Act.put, List.setIfInBounds_toArray, List.set_cons_zero, List.set_cons_succ])
            clear hK K hm7 hg7
            refine wpAnyH_done (by kernel_rfl) ?_ _
            clear hcm hcx4
            go_wp2_with fail
            have hsr := HG.out.srt
            have hlt4 := H4.out.lt
            have hfs4 := H4.out.fs
            have hbase : base ≤ w4.heap.size := by have := hlt4 g hfs4; omega
            have hsz6 := HB.out.size
            have hsz7 := HG7.out.size
            have hS6 := HS6.out
            have hQ := HQ.out
            have hq1 : w1.heap.size ≤ S1 := hQ.1
            have hq5 : w1.heap.size ≤ w4.heap.size := hQ.2.2.2.2.1.1
            have hq2 := hQ.2.1
            have hb1s : w.heap.size ≤ w1.heap.size := HB1.out.size
            have hp := SAt.put (s := ⟨s.img ++ ([0] ++ nameBytes x ++ ([byt (b.length : Int) 256, byt (b.length : Int) 1] ++ b)).set 0 1, s.L⟩) (F := fun b => (F b ∨ (S2 ≤ b ∧ b < w4.heap.size)) ∨ (w4.heap.size ≤ b ∧ b < w6.heap.size)) (W1 := w7) x b ⟨A6, b.length, c6⟩ hsr (blk_below HHM.out.1 HB.out) (Kd.R_mono (Kd.R_below HHM.out.2.1 HB.out) (fun k q => .inl q)) (hB4.block (HB.out.block B4 hB4.lt)) (.inl HHM.out.2.2.2.1) HHM.out.2.2.2.2.1 (fun y d hd xs hx => ⟨(HHM.out.2.2.2.2.2 y d hd xs hx).1, (HHM.out.2.2.2.2.2 y d hd xs hx).2.1, Kd.F_mono (Kd.F_below (HHM.out.2.2.2.2.2 y d hd xs hx).2.2 HB.out) (fun k q => ⟨.inl q.1, q.2⟩)⟩) (.inl hfs4) (fun k q => q.elim (fun q => ⟨(hlt4 k q).1, Nat.lt_of_lt_of_le (hlt4 k q).2 hsz6⟩) (fun q => ⟨Nat.le_trans hbase q.1, q.2⟩)) rfl (Kd.R_reads' HR6.out).2.1 (Kd.F_mono (Kd.R_F (Kd.R_bound HR6.out)) (fun k q => by
              have h9 : w4.heap.size ≤ k := Nat.le_trans hS6 q.2.1
              refine ⟨.inr ⟨h9, q.2.2.1⟩, fun e => ?_, fun e => ?_, fun e => ?_⟩
              · have := Kd.R_lt HHM.out.2.1 k e
                omega
              · have := hB4.lt
                omega
              · omega)) HM7.out HG7.out
            go_ret2
            refine ⟨v, S1, S2, rfl, ?_, hQ.2.1, ?_, ?_, hp.more (fun k q => ?_) (fun k q => ?_), ?_, fun B0 w0 hB0 hw0 => ?_⟩
            · exact Nat.le_trans HB1.out.size hQ.1
            · omega
            · exact (hQ.2.2.2.1.step HB.out).kept (S := fun k => k = B4) ⟨hsz7, fun k hk hn => HG7.out.block k hk (fun e => hn (by injection e))⟩ (fun k q1 q2 q3 => by
                subst q3
                rcases HHM.out.2.2.2.1 with q4 | q4
                · have := (HH.out.lt _ q4).2
                  omega
                · omega)
            · rcases q with (q | q) | q
              · exact .inl q
              · exact .inr ⟨q.1, by omega⟩
              · exact .inr ⟨by omega, by omega⟩
            · rcases q with q | q
              · exact ⟨(HH.out.lt k q).1, by have := (hlt4 k (.inl q)).2; omega⟩
              · exact ⟨by have := HH.out.lt g HH.out.fs; omega, q.2⟩
            · refine ⟨by omega, fun k hk hn => ?_⟩
              have hk4 : k < w4.heap.size := by omega
              refine (HG7.out.block k (by omega) (fun e => ?_)).trans ((HB.out.block k hk4).trans ((hQ.2.2.2.2.1.2 k (show k < w1.heap.size by omega) hn).trans (HB1.out.block k hk)))
              injection e with e
              subst e
              rcases HHM.out.2.2.2.1 with q4 | q4
              · exact hn q4
              · omega
            · have hb9 : base ≤ w.heap.size := by have := HH.out.lt g HH.out.fs; omega
              have h7 := hQ.2.2.2.2.2 B0 w0 hB0 (pw_below_drewN (hw0.trans (HB1.out.mono (Nat.le_trans hB0 hb9))) _)
              have h8 := h7.trans (HB.out.mono (Nat.le_trans hB0 hbase))
              exact h8.grown HG7.out (Nat.le_trans hB0 (by omega)) (fun k hk => by
                injection hk with hk
                subst hk
                have := (hlt4 _ HHM.out.2.2.2.1).1
                omega)
      · have hput : putS nm s x b = laidS s (putL x b s.L) (recB 1 x b) := by
          unfold putS
          rw [if_neg (by rw [c1]; decide), if_neg c2, if_neg (fun q => c3 q.1)]
        rw [hput, ← rec_put x b (by omega), List.append_assoc, laidS_of, ← List.append_assoc]
        clear hput
        by_cases c5 : 1048576 < s.img.length + ([0] ++ nameBytes x ++ ([byt (b.length : Int) 256, byt (b.length : Int) 1] ++ b)).length + 1
        · rw [if_pos c5]
          go_enter Try.func11, Try.ntmps11
          go_wp2_with fail
          have hb1 := below_alloc (Below.refl w.heap.size w) (.cells #[.slice A b.length c] 23)
          have hbx := blk_new w (.cells #[.slice A b.length c] 23)
          obtain ⟨bx, hbxe⟩ : ∃ bx, bx = w.heap.size := ⟨_, rfl⟩
          rw [← hbxe] at hbx
          simp only [← hbxe]
          generalize (w.alloc (.cells #[.slice A b.length c] 23)) = w1 at hb1 hbx ⊢
          have HB1 := Aside0.mk hb1
          have HBX := Aside0.mk hbx
          have HBE := Aside0.mk hbxe
          replace H := Aside0.mk (HH.out.step hb1)
          obtain ⟨Ai, ci, B, m, h1, h2, h3, h4, h5, h6⟩ := H.out.cells
          have hc1 := blk_cell h1 1
          have H3 := Aside0.mk h3
          have hlk := lk_hd h5 x
          clear h1 h2 h3 h4 h5 h6 hb1 hbx hbxe
          refine (ready_st H.out).mono ?_
          rintro e w2 ⟨rfl, k1, rfl⟩
          replace hc1 := show (w1.drewN k1).cell? ⟨g, 1, none⟩ = _ from hc1
          replace H3 := Aside0.mk (H3.out.block (W1 := w1.drewN k1) rfl)
          have g3 : (m x).isSome = true := by
            rcases hlk with ⟨q, _⟩ | ⟨d, xs, q, _⟩
            · exact absurd q c3
            · rw [q]; rfl
          go_wp2_with (first | ((with_reducible refine gate_dst (N := 21) rfl ?_); refine hm_look_ok rfl rfl rfl H3.out rfl HX.out ?_))
          go_wp2_with fail
          refine (wire_IsName.calls K x _ _ HN.out).mono ?_
          rintro e w3 ⟨rfl, k2, rfl⟩
          have hcx := blk_cell (blk_drewN HBX.out (k1 + k2)) 0
          replace hc1 := show (w1.drewN (k1 + k2)).cell? ⟨g, 1, none⟩ = _ from hc1
          replace H3 := Aside0.mk (H3.out.block (W1 := w1.drewN (k1 + k2)) rfl)
          go_wp2_with fail
          have hlx := H.out.lt g H.out.fs
          have hbxl := blk_lt HBX.out
          refine (laid_full (w := w1.drewN (k1 + k2)) K nm HK.out HG.out 1 (.inl rfl) x c1 ([byt (b.length : Int) 256, byt (b.length : Int) 1] ++ b) (by simp; omega) 37 #[.pointer (some ⟨bx, 0, none⟩)] (callFunc_st Try.func37 (by kernel_rfl) (by kernel_rfl)) (fun g2 W1 hb hwt => ?hp) (show SAt base F g s (w1.drewN (k1 + k2)) from H.out.step (pw_below_drewN (Below.refl _ _) _)) (by omega)).mono ?_
          case hp =>
            have hB : Below w1.heap.size w1 W1 := below_step (pw_below_drewN (Below.refl _ _) (k1 + k2)) hb
            exact Put1_calls hwt A c (blk_below HBX.out hB) (Kd.F_now (Kd.F_below (Kd.F_below HC.out HB1.out) hB)) (by omega) hbxl (fun W' hW => Kd.F_now (Kd.F_below (Kd.F_below HC.out HB1.out) (hB.trans hW))) (by have := (HK.out.siz x c1).2; unfold nameBytes bytesOf; simp [Lib.toList_data]; omega)
          rintro e w4 ⟨v, S1, S2, rfl, q⟩
          have HQ := Aside0.mk (StPost.since ⟨v, S1, S2, rfl, q⟩ (pw_below_drewN HB1.out (k1 + k2)) (by have := HH.out.lt g HH.out.fs; omega))
          clear q
          go_wp2_with fail
          go_ret2
          exact HQ.out
        · rw [if_neg c5]
          go_enter Try.func11, Try.ntmps11
          go_wp2_with fail
          have hb1 := below_alloc (Below.refl w.heap.size w) (.cells #[.slice A b.length c] 23)
          have hbx := blk_new w (.cells #[.slice A b.length c] 23)
          obtain ⟨bx, hbxe⟩ : ∃ bx, bx = w.heap.size := ⟨_, rfl⟩
          rw [← hbxe] at hbx
          simp only [← hbxe]
          generalize (w.alloc (.cells #[.slice A b.length c] 23)) = w1 at hb1 hbx ⊢
          have HB1 := Aside0.mk hb1
          have HBX := Aside0.mk hbx
          have HBE := Aside0.mk hbxe
          replace H := Aside0.mk (HH.out.step hb1)
          obtain ⟨Ai, ci, B, m, h1, h2, h3, h4, h5, h6⟩ := H.out.cells
          have hc1 := blk_cell h1 1
          have H3 := Aside0.mk h3
          have hlk := lk_hd h5 x
          clear h1 h2 h3 h4 h5 h6 hb1 hbx hbxe
          refine (ready_st H.out).mono ?_
          rintro e w2 ⟨rfl, k1, rfl⟩
          replace hc1 := show (w1.drewN k1).cell? ⟨g, 1, none⟩ = _ from hc1
          replace H3 := Aside0.mk (H3.out.block (W1 := w1.drewN k1) rfl)
          have g3 : (m x).isSome = true := by
            rcases hlk with ⟨q, _⟩ | ⟨d, xs, q, _⟩
            · exact absurd q c3
            · rw [q]; rfl
          go_wp2_with (first | ((with_reducible refine gate_dst (N := 21) rfl ?_); refine hm_look_ok rfl rfl rfl H3.out rfl HX.out ?_))
          go_wp2_with fail
          refine (wire_IsName.calls K x _ _ HN.out).mono ?_
          rintro e w3 ⟨rfl, k2, rfl⟩
          have hcx := blk_cell (blk_drewN HBX.out (k1 + k2)) 0
          replace hc1 := show (w1.drewN (k1 + k2)).cell? ⟨g, 1, none⟩ = _ from hc1
          replace H3 := Aside0.mk (H3.out.block (W1 := w1.drewN (k1 + k2)) rfl)
          go_wp2_with fail
          have hlx := H.out.lt g H.out.fs
          have hbxl := blk_lt HBX.out
          refine (laid_fits (w := w1.drewN (k1 + k2)) K nm HK.out HG.out 1 (.inl rfl) x c1 ([byt (b.length : Int) 256, byt (b.length : Int) 1] ++ b) (by simp; omega) 37 #[.pointer (some ⟨bx, 0, none⟩)] (callFunc_st Try.func37 (by kernel_rfl) (by kernel_rfl)) (fun g2 W1 hb hwt => ?hp) (show SAt base F g s (w1.drewN (k1 + k2)) from H.out.step (pw_below_drewN (Below.refl _ _) _)) (by omega)).mono ?_
          case hp =>
            have hB : Below w1.heap.size w1 W1 := below_step (pw_below_drewN (Below.refl _ _) (k1 + k2)) hb
            exact Put1_calls hwt A c (blk_below HBX.out hB) (Kd.F_now (Kd.F_below (Kd.F_below HC.out HB1.out) hB)) (by omega) hbxl (fun W' hW => Kd.F_now (Kd.F_below (Kd.F_below HC.out HB1.out) (hB.trans hW))) (by have := (HK.out.siz x c1).2; unfold nameBytes bytesOf; simp [Lib.toList_data]; omega)
          rintro e w4 ⟨v, S1, S2, rfl, q1, q2, q3, q4, q5, q6, q7⟩
          have HQ := Aside0.mk (And.intro q1 (And.intro q2 (And.intro q3 (And.intro q4 (And.intro q6 q7)))))
          have H4 := Aside0.mk q5
          obtain ⟨A4, c4, B4, m4, h1, h2, h3, h4, h5, h6⟩ := q5.cells
          have HX4 := Aside0.mk ((q6.2 bx hbxl (fun q => by have := (HH.out.lt bx q).2; have := HBE.out; omega)).trans (blk_drewN HBX.out (k1 + k2)))
          have hcm := blk_cell h1 1
          have hcx4 := blk_cell HX4.out 0
          have HHM := Aside0.mk (And.intro h1 (And.intro h2 (And.intro h3 (And.intro h4 (And.intro h5 h6)))))
          have HC4 := Aside0.mk (Kd.F_now (Kd.F_kept (Kd.F_drewN (Kd.F_below HC.out HB1.out) (k1 + k2)) q6 HP.out))
          clear q1 q2 q3 q4 q5 q6 q7 h1 h2 h3 h4 h5 h6 hcx hc1
          go_wp2_with fail
          have HSS := Aside0.mk (show ∀ W' : World, Below w4.heap.size w4 W' → W'.cell? ⟨g, 1, none⟩ = some (.map (some B4)) ∧ W'.cell? ⟨bx, 0, none⟩ = some (.slice A b.length c) from fun W' hW => ⟨blk_cell (blk_below HHM.out.1 hW) 1, blk_cell (blk_below HX4.out hW) 0⟩)
          have HB := Aside0.mk (Below.refl w4.heap.size w4)
          (try simp only [Act.put, List.setIfInBounds_toArray, List.set_cons_zero, List.set_cons_succ])
          refine wp_region_held_drew (S := fun w' => w'.cell? ⟨g, 1, none⟩ = some (.map (some B4)) ∧ w'.cell? ⟨bx, 0, none⟩ = some (.slice A b.length c)) (by kernel_rfl) ?_ (fun hHeld => ?_)
          · exact HSS.out _ (pw_below_drewN HB.out 1)
          replace HB := Aside0.mk (show Below w4.heap.size w4 w4.drew from pw_below_drewN HB.out 1)
          generalize w4.drew = wd at HB hHeld ⊢
          refine take_dst (i := 0) (v := ?_) 52 rfl rfl (by kernel_rfl) (by kernel_rfl) (by kernel_rfl) (fun _ _ _ h => h) (Or.inl ⟨by rfl, ?_⟩) (by assumption) ?_
          rotate_left
          · intro w hSw
            obtain ⟨q1, q2⟩ := hSw
            go_simp
            try with_reducible rfl
          (try simp only [Act.put, List.setIfInBounds_toArray, List.set_cons_zero, List.set_cons_succ])
          refine take_dst (i := 1) (v := ?_) 53 rfl rfl (by kernel_rfl) (by kernel_rfl) (by kernel_rfl) (fun _ _ _ h => h) (Or.inl ⟨by rfl, ?_⟩) (by assumption) ?_
          rotate_left
          · intro w hSw
            obtain ⟨q1, q2⟩ := hSw
            go_simp
            try with_reducible rfl
          (try simp only [Act.put, List.setIfInBounds_toArray, List.set_cons_zero, List.set_cons_succ])
          refine take_dst (i := 2) (v := ?_) 54 rfl rfl (by kernel_rfl) (by kernel_rfl) (by kernel_rfl) (fun _ _ _ h => h) (Or.inl ⟨by rfl, ?_⟩) (by assumption) ?_
          rotate_left
          · intro w hSw
            obtain ⟨q1, q2⟩ := hSw
            go_simp
            try with_reducible rfl
          (try simp only [Act.put, List.setIfInBounds_toArray, List.set_cons_zero, List.set_cons_succ])
          refine take_dst (i := 3) (v := ?_) 55 rfl rfl (by kernel_rfl) (by kernel_rfl) (by kernel_rfl) (fun _ _ _ h => h) (Or.inl ⟨by rfl, ?_⟩) (by assumption) ?_
          rotate_left
          · intro w hSw
            obtain ⟨q1, q2⟩ := hSw
            go_simp
            try with_reducible rfl
          (try simp only [Act.put, List.setIfInBounds_toArray, List.set_cons_zero, List.set_cons_succ])
          refine take_dst (i := 4) (v := ?_) 56 rfl rfl (by kernel_rfl) (by kernel_rfl) (by kernel_rfl) (fun _ _ _ h => h) (Or.inl ⟨by rfl, ?_⟩) (by assumption) ?_
          rotate_left
          · intro w hSw
            obtain ⟨q1, q2⟩ := hSw
            go_simp
            try with_reducible rfl
          (try simp only [Act.put, List.setIfInBounds_toArray, List.set_cons_zero, List.set_cons_succ])
          refine take_dst (i := 5) (v := ?_) 57 rfl rfl (by kernel_rfl) (by kernel_rfl) (by kernel_rfl) (fun _ _ _ h => h) (Or.inl ⟨by rfl, ?_⟩) (by assumption) ?_
          rotate_left
          · intro w hSw
            obtain ⟨q1, q2⟩ := hSw
            go_simp
            try with_reducible rfl
          (try simp only [Act.put, List.setIfInBounds_toArray, List.set_cons_zero, List.set_cons_succ])
          refine wpAnyH_ready (rs := [6]) (by kernel_rfl) (by simp) ?_
          refine AllReadyH.cons rfl (fun K hK => ?_) AllReadyH.nil
          go_simp
          refine (cloned_calls A c b _ (Kd.C_below HC4.out HB.out) (by omega)).mono ?_
          have HS6 := Aside0.mk HB.out.size
          rintro e w6 ⟨v3, rfl, hR6, hb6⟩
          obtain ⟨A6, c6, e6⟩ := Kd.R_slice hR6
          subst e6
          replace HB := Aside0.mk (below_step HB.out hb6)
          have HR6 := Aside0.mk hR6
          clear hR6 hb6
          go_simp
          refine hK.out _ _ (HSS.out _ HB.out) (fun hHeld => ?_)
          (try simp only [Act.put, List.setIfInBounds_toArray, List.set_cons_zero, List.set_cons_succ])
          clear hK K
          refine wpAnyH_ready (rs := [7]) (by kernel_rfl) (by simp) ?_
          refine AllReadyH.cons rfl (fun K hK => ?_) AllReadyH.nil
          have hB4 := HHM.out.2.2.1
          refine hm_store_wp (m := .tmp 55) (x := .tmp 56) (v := .tmp 58) (k := x) (c := ⟨A6, b.length, c6⟩) rfl rfl (hB4.block (HB.out.block B4 hB4.lt)) (by have := HG.out.len; show s.L.length < maxLen; unfold maxLen; omega) rfl rfl HX.out (hd_ok HR6.out) ?_
          intro w7 hm7 hg7
          have HM7 := Aside0.mk hm7
          have HG7 := Aside0.mk hg7
          have hne4 : some g ≠ some B4 := fun q => hB4.ne HHM.out.1 (by injection q with q; exact q.symm)
          have hne5 : some bx ≠ some B4 := fun q => hB4.ne HX4.out (by injection q with q; exact q.symm)
          have hgl := blk_lt HHM.out.1
          have hxl4 := blk_lt HX4.out
          refine hK.out _ _ ⟨blk_cell ((hg7.block g (Nat.lt_of_lt_of_le hgl HB.out.size) hne4).trans (blk_below HHM.out.1 HB.out)) 1, blk_cell ((hg7.block bx (Nat.lt_of_lt_of_le hxl4 HB.out.size) hne5).trans (blk_below HX4.out HB.out)) 0⟩ (fun hHeld => ?_)
          (try simp only [Act.put, List.setIfInBounds_toArray, List.set_cons_zero, List.set_cons_succ])
          clear hK K hm7 hg7
          refine wpAnyH_done (by kernel_rfl) ?_ _
          clear hcm hcx4
          go_wp2_with fail
          have hsr := HG.out.srt
          have hlt4 := H4.out.lt
          have hfs4 := H4.out.fs
          have hbase : base ≤ w4.heap.size := by have := hlt4 g hfs4; omega
          have hsz6 := HB.out.size
          have hsz7 := HG7.out.size
          have hS6 := HS6.out
          have hQ := HQ.out
          have hq1 : w1.heap.size ≤ S1 := hQ.1
          have hq5 : w1.heap.size ≤ w4.heap.size := hQ.2.2.2.2.1.1
          have hq2 := hQ.2.1
          have hb1s : w.heap.size ≤ w1.heap.size := HB1.out.size
          have hp := SAt.put (s := ⟨s.img ++ ([0] ++ nameBytes x ++ ([byt (b.length : Int) 256, byt (b.length : Int) 1] ++ b)).set 0 1, s.L⟩) (F := fun b => (F b ∨ (S2 ≤ b ∧ b < w4.heap.size)) ∨ (w4.heap.size ≤ b ∧ b < w6.heap.size)) (W1 := w7) x b ⟨A6, b.length, c6⟩ hsr (blk_below HHM.out.1 HB.out) (Kd.R_mono (Kd.R_below HHM.out.2.1 HB.out) (fun k q => .inl q)) (hB4.block (HB.out.block B4 hB4.lt)) (.inl HHM.out.2.2.2.1) HHM.out.2.2.2.2.1 (fun y d hd xs hx => ⟨(HHM.out.2.2.2.2.2 y d hd xs hx).1, (HHM.out.2.2.2.2.2 y d hd xs hx).2.1, Kd.F_mono (Kd.F_below (HHM.out.2.2.2.2.2 y d hd xs hx).2.2 HB.out) (fun k q => ⟨.inl q.1, q.2⟩)⟩) (.inl hfs4) (fun k q => q.elim (fun q => ⟨(hlt4 k q).1, Nat.lt_of_lt_of_le (hlt4 k q).2 hsz6⟩) (fun q => ⟨Nat.le_trans hbase q.1, q.2⟩)) rfl (Kd.R_reads' HR6.out).2.1 (Kd.F_mono (Kd.R_F (Kd.R_bound HR6.out)) (fun k q => by
            have h9 : w4.heap.size ≤ k := Nat.le_trans hS6 q.2.1
            refine ⟨.inr ⟨h9, q.2.2.1⟩, fun e => ?_, fun e => ?_, fun e => ?_⟩
            · have := Kd.R_lt HHM.out.2.1 k e
              omega
            · have := hB4.lt
              omega
            · omega)) HM7.out HG7.out
          go_ret2
          refine ⟨v, S1, S2, rfl, ?_, hQ.2.1, ?_, ?_, hp.more (fun k q => ?_) (fun k q => ?_), ?_, fun B0 w0 hB0 hw0 => ?_⟩
          · exact Nat.le_trans HB1.out.size hQ.1
          · omega
          · exact (hQ.2.2.2.1.step HB.out).kept (S := fun k => k = B4) ⟨hsz7, fun k hk hn => HG7.out.block k hk (fun e => hn (by injection e))⟩ (fun k q1 q2 q3 => by
              subst q3
              rcases HHM.out.2.2.2.1 with q4 | q4
              · have := (HH.out.lt _ q4).2
                omega
              · omega)
          · rcases q with (q | q) | q
            · exact .inl q
            · exact .inr ⟨q.1, by omega⟩
            · exact .inr ⟨by omega, by omega⟩
          · rcases q with q | q
            · exact ⟨(HH.out.lt k q).1, by have := (hlt4 k (.inl q)).2; omega⟩
            · exact ⟨by have := HH.out.lt g HH.out.fs; omega, q.2⟩
          · refine ⟨by omega, fun k hk hn => ?_⟩
            have hk4 : k < w4.heap.size := by omega
            refine (HG7.out.block k (by omega) (fun e => ?_)).trans ((HB.out.block k hk4).trans ((hQ.2.2.2.2.1.2 k (show k < w1.heap.size by omega) hn).trans (HB1.out.block k hk)))
            injection e with e
            subst e
            rcases HHM.out.2.2.2.1 with q4 | q4
            · exact hn q4
            · omega
          · have hb9 : base ≤ w.heap.size := by have := HH.out.lt g HH.out.fs; omega
            have h7 := hQ.2.2.2.2.2 B0 w0 hB0 (pw_below_drewN (hw0.trans (HB1.out.mono (Nat.le_trans hB0 hb9))) _)
            have h8 := h7.trans (HB.out.mono (Nat.le_trans hB0 hbase))
            exact h8.grown HG7.out (Nat.le_trans hB0 (by omega)) (fun k hk => by
              injection hk with hk
              subst hk
              have := (hlt4 _ HHM.out.2.2.2.1).1
              omega)
end
end Go.Proofs.Ytfakdphkklclgaa.P

end

section
namespace Go.Proofs.Ytfakdphkklclgaa.P
open Go.RowKit Go.Proofs.YtfakdphkklclgaaW.PrintWords Go.Proofs.YtfakdphkklclgaaW.PrintLast Go.Proofs.YtfakdphkklclgaaW.PrintMore
attribute [local go_sem] max2_int min2_int max_two min_two max_three min_three max_four min_four
set_option linter.unusedVariables false
set_option linter.unusedSimpArgs false
section
open Go.ChangeMaps Go.MapKept
set_option linter.unusedVariables false
set_option maxHeartbeats 6400000 in
set_option maxRecDepth 100000 in
theorem Drop_st {base g : Nat} {F : Nat → Prop} {s : Sto} {w : World} (K : Nat) (nm : ByteArray → Bool) (hK : StFacts K nm) (hg : Good nm s) (x : ByteArray) (hx : x.size ≤ maxLen) (h : SAt base F g s w) : Calls Try.prog 23 #[.pointer (some ⟨g, 0, none⟩), .string x] w fun e w' => StPost base F g w (dropS nm s x) e w' := by
  have HH := Aside0.mk h
  have HX := Aside0.mk hx
  have HK := Aside0.mk hK
  have HG := Aside0.mk hg
  clear h hx hK hg
  by_cases c1 : nm x = false
  · have HGET := Aside0.mk (get_st K nm HK.out x HX.out HH.out)
    unfold getS at HGET
    rw [if_pos c1] at HGET
    go_enter Try.func23, Try.ntmps23
    go_wp2_with fail
    refine HGET.out.mono ?_
    rintro e w1 ⟨A1, c1_, rfl, hc_, hF_, k1, rfl⟩
    clear hc_ hF_ HGET
    go_wp2_with fail
    go_ret2
    unfold dropS
    rw [if_pos c1]
    exact StPost.same HH.out (pw_below_drewN (Below.refl _ _) _) 6
  · rw [Bool.not_eq_false] at c1
    have c1n : ¬ nm x = false := by rw [c1]; decide
    cases c3 : lkL s.L x with
    | none =>
      have HGET := Aside0.mk (get_st K nm HK.out x HX.out HH.out)
      unfold getS at HGET
      rw [if_neg c1n, c3] at HGET
      go_enter Try.func23, Try.ntmps23
      go_wp2_with fail
      refine HGET.out.mono ?_
      rintro e w1 ⟨A1, c1_, rfl, hc_, hF_, k1, rfl⟩
      clear hc_ hF_ HGET
      go_wp2_with fail
      go_ret2
      unfold dropS
      rw [if_neg c1n, if_pos c3]
      exact StPost.same HH.out (pw_below_drewN (Below.refl _ _) _) 211
    | some b =>
      have hdr : dropS nm s x = laidS s (cutL x s.L) (recB 2 x []) := by
        unfold dropS
        rw [if_neg c1n, if_neg (by rw [c3]; exact fun q => by cases q)]
      rw [hdr, ← rec_drop x, List.append_assoc, laidS_of, ← List.append_assoc]
      clear hdr
      by_cases c5 : 1048576 < s.img.length + ([0] ++ nameBytes x ++ []).length + 1
      · rw [if_pos c5]
        have HGET := Aside0.mk (get_st K nm HK.out x HX.out HH.out)
        unfold getS at HGET
        rw [if_neg c1n, c3] at HGET
        go_enter Try.func23, Try.ntmps23
        go_wp2_with fail
        refine HGET.out.mono ?_
        rintro e w1 ⟨A1, c1_, rfl, hc_, hF_, k1, rfl⟩
        clear hc_ hF_ HGET
        go_wp2_with fail
        refine (laid_full (w := w.drewN k1) K nm HK.out HG.out 2 (.inr rfl) x c1 [] (by simp) 52 #[] (callFunc_st Try.func52 (by kernel_rfl) (by kernel_rfl)) (fun g2 W1 hb hwt => ?hp) (show SAt base F g s (w.drewN k1) from HH.out.step (pw_below_drewN (Below.refl _ _) _)) (by omega)).mono ?_
        case hp =>
          rw [List.append_nil]
          exact Drop1_calls hwt
        rintro e w4 ⟨v, S1, S2, rfl, q⟩
        have HQ := Aside0.mk (StPost.since ⟨v, S1, S2, rfl, q⟩ (pw_below_drewN (Below.refl w.heap.size w) k1) (by have := HH.out.lt g HH.out.fs; omega))
        clear q
        go_wp2_with fail
        go_ret2
        exact HQ.out
      · rw [if_neg c5]
        have HGET := Aside0.mk (get_st K nm HK.out x HX.out HH.out)
        unfold getS at HGET
        rw [if_neg c1n, c3] at HGET
        go_enter Try.func23, Try.ntmps23
        go_wp2_with fail
        refine HGET.out.mono ?_
        rintro e w1 ⟨A1, c1_, rfl, hc_, hF_, k1, rfl⟩
        clear hc_ hF_ HGET
        go_wp2_with fail
        refine (laid_fits (w := w.drewN k1) K nm HK.out HG.out 2 (.inr rfl) x c1 [] (by simp) 52 #[] (callFunc_st Try.func52 (by kernel_rfl) (by kernel_rfl)) (fun g2 W1 hb hwt => ?hp) (show SAt base F g s (w.drewN k1) from HH.out.step (pw_below_drewN (Below.refl _ _) _)) (by omega)).mono ?_
        case hp =>
          rw [List.append_nil]
          exact Drop1_calls hwt
        rintro e w4 ⟨v, S1, S2, rfl, q1, q2, q3, q4, q5, q6, q7⟩
        have HQ := Aside0.mk (And.intro q1 (And.intro q2 (And.intro q3 (And.intro q4 (And.intro q6 q7)))))
        have H4 := Aside0.mk q5
        obtain ⟨A4, c4, B4, m4, h1, h2, h3, h4, h5, h6⟩ := q5.cells
        have hcm := blk_cell h1 1
        have HHM := Aside0.mk (And.intro h1 (And.intro h2 (And.intro h3 (And.intro h4 (And.intro h5 h6)))))
        clear q1 q2 q3 q4 q5 q6 q7 h1 h2 h3 h4 h5 h6
        go_wp2_with ((with_reducible refine gate_builtin (b := .delete) (xs := #[.tmp 29, .tmp 30]) rfl ?_); refine hm_drop (k := x) rfl rfl rfl HHM.out.2.2.1 rfl HX.out ?_; intro w7 hm7 hg7; have HM7 := Aside0.mk hm7; have HG7 := Aside0.mk hg7; clear hm7 hg7)
        have hB4 := HHM.out.2.2.1
        have hsr := HG.out.srt
        have hlt4 := H4.out.lt
        have hfs4 := H4.out.fs
        have hbase : base ≤ w4.heap.size := by have := hlt4 g hfs4; omega
        have hsz7 := HG7.out.size
        have hQ := HQ.out
        have hq1 : w.heap.size ≤ S1 := hQ.1
        have hq5 : w.heap.size ≤ w4.heap.size := hQ.2.2.2.2.1.1
        have hq2 := hQ.2.1
        have hp := SAt.cut (s := ⟨s.img ++ ([0] ++ nameBytes x ++ []).set 0 2, s.L⟩) (W1 := w7) x hsr HHM.out.1 HHM.out.2.1 hB4 HHM.out.2.2.2.1 HHM.out.2.2.2.2.1 HHM.out.2.2.2.2.2 hfs4 hlt4 HM7.out HG7.out
        go_ret2
        refine ⟨v, S1, S2, rfl, hq1, hq2, ?_, ?_, hp.more (fun k q => ?_) (fun k q => ?_), ?_, fun B0 w0 hB0 hw0 => ?_⟩
        · have := hQ.2.2.1
          omega
        · exact hQ.2.2.2.1.kept (S := fun k => k = B4) ⟨hsz7, fun k hk hn => HG7.out.block k hk (fun e => hn (by injection e))⟩ (fun k q1 q2 q3 => by
            subst q3
            rcases HHM.out.2.2.2.1 with q4 | q4
            · have := (HH.out.lt _ q4).2
              omega
            · omega)
        · rcases q with q | q
          · exact .inl q
          · exact .inr ⟨q.1, by omega⟩
        · rcases q with q | q
          · exact ⟨(HH.out.lt k q).1, by have := (hlt4 k (.inl q)).2; omega⟩
          · exact ⟨by have := HH.out.lt g HH.out.fs; omega, q.2⟩
        · refine ⟨by omega, fun k hk hn => ?_⟩
          refine (HG7.out.block k (by omega) (fun e => ?_)).trans (hQ.2.2.2.2.1.2 k hk hn)
          injection e with e
          subst e
          rcases HHM.out.2.2.2.1 with q4 | q4
          · exact hn q4
          · omega
        · have h7 := hQ.2.2.2.2.2 B0 w0 hB0 (pw_below_drewN hw0 _)
          exact h7.grown HG7.out (Nat.le_trans hB0 (by omega)) (fun k hk => by
            injection hk with hk
            subst hk
            have := (hlt4 _ HHM.out.2.2.2.1).1
            omega)
end
end Go.Proofs.Ytfakdphkklclgaa.P

end

section
namespace Go.Proofs.Ytfakdphkklclgaa.P
open Go.RowKit Go.Proofs.YtfakdphkklclgaaW.PrintWords Go.Proofs.YtfakdphkklclgaaW.PrintLast Go.Proofs.YtfakdphkklclgaaW.PrintMore
attribute [local go_sem] max2_int min2_int max_two min_two max_three min_three max_four min_four
set_option linter.unusedVariables false
set_option linter.unusedSimpArgs false
section
open Go.ChangeMaps Go.MapKept
set_option linter.unusedVariables false
def recS (nm : ByteArray → Bool) (bs : List Int) (L : List S101) (a : Nat) : Option (List S101 × Nat) :=
  match nameR nm bs (a + 1) with
  | (x, p, e) => if e ≠ 0 then none else
    if rd bs (a : Int) = 2 ∧ (lkL L x).isSome = true then some (cutL x L, p) else
    if rd bs (a : Int) ≠ 1 then none else
    match numR 2 bs p with
    | (n, p2, e2) => if e2 ≠ 0 ∨ 4096 < n then none else
      match takeR bs p2 n with
      | (b, p3, e3) => if e3 ≠ 0 then none else if 16 < (putL x b L).length then none else some (putL x b L, p3)
theorem Rd1.map {base2 rb a B n sz : Nat} {bs : List Int} {W W1 : World} {m : ByteArray → Option Hd} (h : Rd1 base2 rb bs a W) (hm : HMap W B n m sz) (hg : W.grownBy W1 (some B)) : Rd1 base2 rb bs a W1 := by
  obtain ⟨⟨h1, h2, v, h3, h4⟩, h5, h6⟩ := h
  exact ⟨⟨h1, h2, v, (hg.block rb (blk_lt h3) (fun e => hm.ne h3 (by injection e with e; exact e.symm))).trans h3, Kd.R_grown1 h4 rfl hg (fun e => by
    obtain ⟨cs, h7⟩ := Kd.R_typed h4 B e.symm
    exact hm.ne h7 rfl)⟩, h5, h6⟩
end
end Go.Proofs.Ytfakdphkklclgaa.P

end

section
namespace Go.Proofs.Ytfakdphkklclgaa.P
open Go.RowKit Go.Proofs.YtfakdphkklclgaaW.PrintWords Go.Proofs.YtfakdphkklclgaaW.PrintLast Go.Proofs.YtfakdphkklclgaaW.PrintMore
attribute [local go_sem] max2_int min2_int max_two min_two max_three min_three max_four min_four
set_option linter.unusedVariables false
set_option linter.unusedSimpArgs false
section
open Go.ChangeMaps Go.MapKept
set_option linter.unusedVariables false
theorem nameR_go (nm : ByteArray → Bool) (bs : List Int) (a : Nat) (h : (nameR nm bs a).2.2 = 0) : a < (nameR nm bs a).2.1 ∧ (nameR nm bs a).2.1 ≤ bs.length := by
  unfold nameR at h ⊢
  split
  · rename_i c; rw [if_pos c] at h; cases h
  · rename_i c; rw [if_neg c] at h
    split
    · rename_i c2; rw [if_pos c2] at h; cases h
    · rename_i c2; rw [if_neg c2] at h
      split
      · rename_i c3; rw [if_pos c3] at h; cases h
      · rename_i c3; rw [if_neg c3] at h
        split
        · simp only; omega
        · rename_i c4; rw [if_neg c4] at h; cases h
theorem numR_go (k : Nat) (bs : List Int) (a : Nat) (h : (numR k bs a).2.2 = 0) : (numR k bs a).2.1 = a + k ∧ a + k ≤ bs.length := by
  unfold numR at h ⊢
  split
  · rename_i c; rw [if_pos c] at h; cases h
  · exact ⟨rfl, by omega⟩
end
end Go.Proofs.Ytfakdphkklclgaa.P

end

section
namespace Go.Proofs.Ytfakdphkklclgaa.P
open Go.RowKit Go.Proofs.YtfakdphkklclgaaW.PrintWords Go.Proofs.YtfakdphkklclgaaW.PrintLast Go.Proofs.YtfakdphkklclgaaW.PrintMore
attribute [local go_sem] max2_int min2_int max_two min_two max_three min_three max_four min_four
set_option linter.unusedVariables false
set_option linter.unusedSimpArgs false
section
theorem bytes_rng (s : ByteArray) : ∀ z ∈ bytesOf s, 0 ≤ z ∧ z ≤ 255 := by
  intro z hz
  unfold bytesOf at hz
  obtain ⟨u, _, rfl⟩ := List.mem_map.1 hz
  have := u.toNat_lt
  omega
theorem bytes_len (s : ByteArray) : (bytesOf s).length = s.size := by unfold bytesOf; simp [Lib.toList_data]
theorem rec_rng (kind : Int) (hk : 0 ≤ kind ∧ kind ≤ 255) (x : ByteArray) (b : List Int) (hb : ∀ z ∈ b, 0 ≤ z ∧ z ≤ 255) : ∀ z ∈ recB kind x b, 0 ≤ z ∧ z ≤ 255 := by
  intro z hz
  unfold recB at hz
  rcases List.mem_append.1 hz with hz | hz
  · rcases List.mem_append.1 hz with hz | hz
    · rcases List.mem_cons.1 hz with rfl | hz
      · exact hk
      · rw [List.mem_singleton.1 hz]; omega
    · exact bytes_rng x z hz
  · split at hz
    · rcases List.mem_append.1 hz with hz | hz
      · rcases List.mem_cons.1 hz with rfl | hz
        · omega
        · rw [List.mem_singleton.1 hz]; omega
      · exact hb z hz
    · cases hz
theorem laid_cases (s : Sto) (l : List S101) (r : List Int) : (laidS s l r).1 = s ∨ (s.img.length + r.length + 1 ≤ 1048576 ∧ (laidS s l r).1 = ⟨s.img ++ r, l⟩) := by
  unfold laidS
  split
  · exact .inl rfl
  · exact .inr ⟨by omega, rfl⟩
theorem good_put {nm : ByteArray → Bool} {s : Sto} (h : Good nm s) (x : ByteArray) (b : List Int) (hb : ∀ z ∈ b, 0 ≤ z ∧ z ≤ 255) : Good nm (putS nm s x b).1 := by
  unfold putS
  by_cases c1 : nm x = false
  · rw [if_pos c1]; exact h
  rw [if_neg c1]
  by_cases c2 : 4096 < b.length
  · rw [if_pos c2]; exact h
  rw [if_neg c2]
  by_cases c3 : lkL s.L x = none ∧ 16 ≤ s.L.length
  · rw [if_pos c3]; exact h
  rw [if_neg c3]
  rcases laid_cases s (putL x b s.L) (recB 1 x b) with e | ⟨hl, e⟩
  · rw [e]; exact h
  rw [e]
  refine ⟨by show (s.img ++ _).length ≤ _; rw [List.length_append]; omega, fun z hz => ?_, ?_, put_srt x b h.srt, fun k hk => ?_, fun k hk => ?_⟩
  · rcases List.mem_append.1 hz with hz | hz
    · exact h.by_ z hz
    · exact rec_rng 1 (by decide) x b hb z hz
  · show (putL x b s.L).length ≤ 16
    rw [put_len x b h.srt]
    have := h.len
    split
    · omega
    · rename_i c4
      have : lkL s.L x = none := by cases hq : lkL s.L x with
        | none => rfl
        | some y => rw [hq] at c4; exact absurd rfl c4
      have : ¬ 16 ≤ s.L.length := fun q => c3 ⟨this, q⟩
      omega
  · rcases put_mem hk with rfl | hk
    · simpa using c1
    · exact h.nam k hk
  · rcases put_mem hk with rfl | hk
    · exact ⟨by show b.length ≤ 4096; omega, hb⟩
    · exact h.val k hk
theorem good_drop {nm : ByteArray → Bool} {s : Sto} (h : Good nm s) (x : ByteArray) : Good nm (dropS nm s x).1 := by
  unfold dropS
  by_cases c1 : nm x = false
  · rw [if_pos c1]; exact h
  rw [if_neg c1]
  by_cases c2 : lkL s.L x = none
  · rw [if_pos c2]; exact h
  rw [if_neg c2]
  rcases laid_cases s (cutL x s.L) (recB 2 x []) with e | ⟨hl, e⟩
  · rw [e]; exact h
  rw [e]
  have hsub := cut_sub x s.L
  refine ⟨by show (s.img ++ _).length ≤ _; rw [List.length_append]; omega, fun z hz => ?_, Nat.le_trans hsub.length_le h.len, h.srt.sublist hsub, fun k hk => h.nam k (hsub.subset hk), fun k hk => h.val k (hsub.subset hk)⟩
  rcases List.mem_append.1 hz with hz | hz
  · exact h.by_ z hz
  · exact rec_rng 2 (by decide) x [] (fun _ q => by cases q) z hz
theorem good_new (nm : ByteArray → Bool) : Good nm ⟨[], []⟩ := ⟨by decide, fun _ h => (by cases h), by decide, List.Pairwise.nil, fun _ h => (by cases h), fun _ h => (by cases h)⟩
end
end Go.Proofs.Ytfakdphkklclgaa.P

end

section
namespace Go.Proofs.Ytfakdphkklclgaa.P
open Go.RowKit Go.Proofs.YtfakdphkklclgaaW.PrintWords Go.Proofs.YtfakdphkklclgaaW.PrintLast Go.Proofs.YtfakdphkklclgaaW.PrintMore
attribute [local go_sem] max2_int min2_int max_two min_two max_three min_three max_four min_four
set_option linter.unusedVariables false
set_option linter.unusedSimpArgs false
section
open Go.ChangeMaps Go.MapKept
set_option linter.unusedVariables false
section
variable {ops : Array Oper} {rest : List Oper} {o : Oper} {a : Act} {Q : Exit → Act → World → Prop}
theorem below_bytes (W : World) (e : TypeId) (s : ByteArray) : Below W.heap.size W (Lib.bytesWorld W e s) := by
  have h1 : Below W.heap.size W (W.drew.alloc (.cells (Lib.bytesCells W e s) e)) := by
    have := below_alloc (w := W.drew) (W := W.drew) (Below.refl _ _) (.cells (Lib.bytesCells W e s) e)
    exact below_step (below_drew (Below.refl _ _)) this
  refine ⟨h1.os, h1.tape, h1.output, ?_, fun k hk => ?_⟩
  · rw [Lib.bytesWorld_size]; omega
  · exact Lib.bytesWorld_at_old W e s k hk
theorem conv_str (hgd : o.guard = none) {x : Operand} (ho : o.op = .convert 9 23 x) {s : ByteArray} (hx : a.eval x = .string s) {W : World} (hl : s.size ≤ 9223372036854775807)
    (h : ∀ g c w1, g = W.heap.size → Kd.C (Kd.int .u8) w1 (some ⟨g, 0, none⟩) s.size (bytesOf s) → Below W.heap.size W w1 → wpList Try.prog ops Q rest (a.put o.dst (.slice (some ⟨g, 0, none⟩) s.size c)) w1) : wpList Try.prog ops Q (o :: rest) a W :=
  Kd.event_run hgd (by
    unfold execOp
    simp only [ho, hx, Sem.run_bind, Lib.run_convert_string_bytes (P := Try.prog) W 9 23 5 s Try.underlying9 Try.underlying23 Try.underlying5, Result.andThen_ok, Sem.run_pure]) (h W.heap.size (grownCap W s.size 0 5) _ rfl ⟨bytesOf_length s, hl, fun _ => ⟨⟨W.heap.size, 0, none⟩, rfl, fun j p hj => ⟨[.int .u8 p], rfl, rfl, fun i u hu => by
      cases i with
      | zero =>
        obtain rfl := Option.some.inj hu
        have hj1 : j < s.size := by
          have := (List.getElem?_eq_some_iff.1 hj).1
          rw [bytesOf_length] at this
          exact this
        have hc := Lib.bytesWorld_cell W 5 s j hj1
        have hp : p = ((s.data.toList.getD j 0).toNat : Int) := by
          unfold bytesOf at hj
          rw [List.getElem?_map] at hj
          rw [List.getD_eq_getElem?_getD]
          cases hq : s.data.toList[j]? with
          | none => rw [hq] at hj; cases hj
          | some b => rw [hq] at hj; exact (Option.some.inj hj).symm
        rw [← hp] at hc
        rcases Nat.eq_zero_or_pos j with rfl | hj0
        · simpa [Addr.add, show (Kd.int .u8).sz = 1 from rfl] using hc
        · have : ¬ j = 0 := by omega
          simpa [Addr.add, show (Kd.int .u8).sz = 1 from rfl, this] using hc
      | succ i => cases hu⟩⟩⟩ (below_bytes W 5 s))
end
theorem two_own (W : World) (x y : Int) (base : Nat) (hb : base ≤ W.heap.size) : Kd.R (Kd.int .u8) 5 (W.alloc (.cells #[.int .u8 x, .int .u8 y] 5)) base (fun _ => True) (.slice (some ⟨W.heap.size, 0, none⟩) 2 2) [x, y] :=
  ⟨fun _ _ => trivial, nums .u8 [x, y], ⟨rfl, .inr ⟨W.heap.size, 2, #[.int .u8 x, .int .u8 y], rfl, hb, blk_new _ _, Nat.le_refl 2, by decide, rfl, rfl⟩⟩, Kd.reps_scalar (enc := Value.int .u8) [x, y]⟩
theorem one_own2 (W : World) (x : Int) (base : Nat) (hb : base ≤ W.heap.size) : Kd.R (Kd.int .u8) 5 (W.alloc (.cells #[.int .u8 x] 5)) base (fun _ => True) (.slice (some ⟨W.heap.size, 0, none⟩) 1 1) [x] := Kd.R_lower (R_of_nums (one_own W x)) hb
theorem nil_own (W : World) (base : Nat) (hb : base ≤ W.heap.size) : Kd.R (Kd.int .u8) 5 (W.alloc (.cells #[] 5)) base (fun _ => True) (.slice (some ⟨W.heap.size, 0, none⟩) 0 0) [] :=
  ⟨fun _ _ => trivial, nums .u8 [], ⟨rfl, .inr ⟨W.heap.size, 0, #[], rfl, hb, blk_new _ _, by decide, by decide, rfl, rfl⟩⟩, Kd.reps_scalar (enc := Value.int .u8) []⟩
set_option maxHeartbeats 6400000 in
set_option maxRecDepth 100000 in
theorem record_d (kind : Int) (hkind : kind = 1 ∨ kind = 2) (x : ByteArray) (hx : x.size ≤ 24) (b : List Int) (hb : b.length ≤ 4096) (A : Option Addr) (c : Nat) (w : World) (hr : Kd.C (Kd.int .u8) w A b.length b) : Calls Try.prog 45 #[.int .u8 kind, .string x, .slice A b.length c] w fun e w' => ∃ v, e = .returned v ∧ Kd.R (Kd.int .u8) 5 w' w.heap.size (fun _ => True) v (recB kind x b) ∧ Below w.heap.size w w' := by
  have HC := Aside0.mk hr
  have hwr : IntKind.u8.wrap (x.size : Int) = (x.size : Int) % 256 := by simp [IntKind.wrap, IntKind.signed, IntKind.bits]
  clear hr
  obtain ⟨out, hout⟩ : ∃ out, out = recB kind x b := ⟨_, rfl⟩
  rw [← hout]
  unfold recB at hout
  have HT0 := Aside0.mk (two_own w kind ((x.size : Int) % 256) w.heap.size (Nat.le_refl _))
  have HB0 := Aside0.mk (below_alloc (Below.refl w.heap.size w) (.cells #[.int .u8 kind, .int .u8 ((x.size : Int) % 256)] 5))
  by_cases c1 : kind = 1
  · subst c1
    rw [if_pos rfl] at hout
    go_enter Try.func45, Try.ntmps45
    go_wp2_with (first | (refine conv_str rfl rfl rfl (by omega) ?_; refine halt_at ?_))
    unfold Halt_
    intro g1 cg w1 hg1 hC1 hb1
    replace hb1 := show Below (w.alloc (.cells #[.int .u8 1, .int .u8 ((x.size : Int) % 256)] 5)).heap.size (w.alloc (.cells #[.int .u8 1, .int .u8 ((x.size : Int) % 256)] 5)) w1 by simpa using hb1
    have HR1 := Aside0.mk (Kd.R_below HT0.out hb1)
    have HB1 := Aside0.mk (below_step HB0.out hb1)
    have HC1 := Aside0.mk hC1
    clear hb1 hC1
    have hbl := bytesOf_length x
    go_wp2_with ((with_reducible refine gate_builtin (b := .append) (xs := #[.tmp 12, .tmp 14]) rfl ?_); at_builtin; refine halt_at ?_)
    unfold Halt_
    refine Kd.R_append_rows (Kd.int .u8) (w0 := w1) w.heap.size rfl (.tmp 12) (.tmp 14) 23 5 (.int .u8 0) 1 rfl Try.underlying23 info5 rfl (by decide) (by omega) (.slice (some ⟨w.heap.size, 0, none⟩) 2 2) ([1, (x.size : Int) % 256]) (bytesOf x) (some ⟨g1, 0, none⟩) (x.size) (cg) (fun _ => True) (fun _ => False) rfl rfl HR1.out HC1.out (fun _ _ h => h) (fun _ h => h.elim) (fun _ _ => trivial) (Below.refl _ _) (HB1.out.size) (by simp; omega) ?_
    intro v2 w2 ho hb2 hg hat
    obtain ⟨A2, c2, e2⟩ := Kd.R_slice ho
    have hl2 : ([1, (x.size : Int) % 256] ++ bytesOf x).length = x.size + 2 := by rw [List.length_append, hbl]; simp; omega
    rw [hl2] at e2
    subst e2
    have HR2 := Aside0.mk ho
    have HB2 := Aside0.mk (HB1.out.trans hb2)
    clear ho hb2 hg hat
    have hw1 : IntKind.u8.wrap ((b.length : Int) / 256) = (b.length : Int) / 256 % 256 := by simp [IntKind.wrap, IntKind.signed, IntKind.bits]
    have hw2 : IntKind.u8.wrap (b.length : Int) = (b.length : Int) % 256 := by simp [IntKind.wrap, IntKind.signed, IntKind.bits]
    go_wp2_with ((with_reducible refine gate_builtin (b := .append) (xs := #[.tmp 18, .tmp 26]) rfl ?_); at_builtin; refine halt_at ?_)
    unfold Halt_
    have ht3 := two_own w2 ((b.length : Int) / 256 % 256) ((b.length : Int) % 256) w2.heap.size (Nat.le_refl _)
    have hb3 := below_alloc (Below.refl w2.heap.size w2) (.cells #[.int .u8 ((b.length : Int) / 256 % 256), .int .u8 ((b.length : Int) % 256)] 5)
    have hR3 := Kd.R_alloc HR2.out (.cells #[.int .u8 ((b.length : Int) / 256 % 256), .int .u8 ((b.length : Int) % 256)] 5)
    generalize (w2.alloc (.cells #[.int .u8 ((b.length : Int) / 256 % 256), .int .u8 ((b.length : Int) % 256)] 5)) = w3 at ht3 hb3 hR3 ⊢
    have HC3 := Aside0.mk (Kd.R_reads' ht3).2.2
    have HR3 := Aside0.mk hR3
    have HB3 := Aside0.mk (below_step HB2.out hb3)
    clear ht3 hb3 hR3
    refine Kd.R_append_rows (Kd.int .u8) (w0 := w3) w.heap.size rfl (.tmp 18) (.tmp 26) 23 5 (.int .u8 0) 1 rfl Try.underlying23 info5 rfl (by decide) (by omega) (.slice A2 (x.size + 2) c2) ([1, (x.size : Int) % 256] ++ bytesOf x) ([(b.length : Int) / 256 % 256, (b.length : Int) % 256]) (some ⟨w2.heap.size, 0, none⟩) (2) (2) (fun _ => True) (fun _ => False) rfl rfl HR3.out HC3.out (fun _ _ h => h) (fun _ h => h.elim) (fun _ _ => trivial) (Below.refl _ _) (HB3.out.size) (by rw [hl2]; omega) ?_
    intro v4 w4 ho hb4 hg hat
    obtain ⟨A4, c4, e4⟩ := Kd.R_slice ho
    have hl4 : ([1, (x.size : Int) % 256] ++ bytesOf x ++ [(b.length : Int) / 256 % 256, (b.length : Int) % 256]).length = x.size + 4 := by rw [List.length_append, hl2]; simp
    rw [hl4] at e4
    subst e4
    have HR4 := Aside0.mk ho
    have HB4 := Aside0.mk (HB3.out.trans hb4)
    clear ho hb4 hg hat
    go_wp2_with ((with_reducible refine gate_builtin (b := .append) (xs := #[.tmp 28, .tmp 29]) rfl ?_); at_builtin; refine halt_at ?_)
    unfold Halt_
    refine Kd.R_append_rows (Kd.int .u8) (w0 := w4) w.heap.size rfl (.tmp 28) (.tmp 29) 23 5 (.int .u8 0) 1 rfl Try.underlying23 info5 rfl (by decide) (by omega) (.slice A4 (x.size + 4) c4) ([1, (x.size : Int) % 256] ++ bytesOf x ++ [(b.length : Int) / 256 % 256, (b.length : Int) % 256]) (b) (A) (b.length) (c) (fun _ => True) (fun _ => False) rfl rfl HR4.out (Kd.C_below HC.out HB4.out) (fun _ _ h => h) (fun _ h => h.elim) (fun _ _ => trivial) (Below.refl _ _) (HB4.out.size) (by rw [hl4]; omega) ?_
    intro v5 w5 ho hb5 hg hat
    have HR5 := Aside0.mk ho
    have HB5 := Aside0.mk (HB4.out.trans hb5)
    clear ho hb5 hg hat
    go_wp2_with fail
    go_ret
    subst hout
    exact ⟨_, rfl, by rw [← List.append_assoc]; exact HR5.out, HB5.out⟩
  · have c2 : kind = 2 := by omega
    subst c2
    rw [if_neg (by decide)] at hout
    go_enter Try.func45, Try.ntmps45
    go_wp2_with (first | (refine conv_str rfl rfl rfl (by omega) ?_; refine halt_at ?_))
    unfold Halt_
    intro g1 cg w1 hg1 hC1 hb1
    replace hb1 := show Below (w.alloc (.cells #[.int .u8 2, .int .u8 ((x.size : Int) % 256)] 5)).heap.size (w.alloc (.cells #[.int .u8 2, .int .u8 ((x.size : Int) % 256)] 5)) w1 by simpa using hb1
    have HR1 := Aside0.mk (Kd.R_below HT0.out hb1)
    have HB1 := Aside0.mk (below_step HB0.out hb1)
    have HC1 := Aside0.mk hC1
    clear hb1 hC1
    have hbl := bytesOf_length x
    go_wp2_with ((with_reducible refine gate_builtin (b := .append) (xs := #[.tmp 12, .tmp 14]) rfl ?_); at_builtin; refine halt_at ?_)
    unfold Halt_
    refine Kd.R_append_rows (Kd.int .u8) (w0 := w1) w.heap.size rfl (.tmp 12) (.tmp 14) 23 5 (.int .u8 0) 1 rfl Try.underlying23 info5 rfl (by decide) (by omega) (.slice (some ⟨w.heap.size, 0, none⟩) 2 2) ([2, (x.size : Int) % 256]) (bytesOf x) (some ⟨g1, 0, none⟩) (x.size) (cg) (fun _ => True) (fun _ => False) rfl rfl HR1.out HC1.out (fun _ _ h => h) (fun _ h => h.elim) (fun _ _ => trivial) (Below.refl _ _) (HB1.out.size) (by simp; omega) ?_
    intro v2 w2 ho hb2 hg hat
    obtain ⟨A2, c2, e2⟩ := Kd.R_slice ho
    have hl2 : ([2, (x.size : Int) % 256] ++ bytesOf x).length = x.size + 2 := by rw [List.length_append, hbl]; simp; omega
    rw [hl2] at e2
    subst e2
    have HR2 := Aside0.mk ho
    have HB2 := Aside0.mk (HB1.out.trans hb2)
    clear ho hb2 hg hat
    go_wp2_with fail
    go_ret
    subst hout
    rw [List.append_nil]
    exact ⟨_, rfl, HR2.out, HB2.out⟩
end
end Go.Proofs.Ytfakdphkklclgaa.P

end

section
namespace Go.Proofs.Ytfakdphkklclgaa.P
open Go.RowKit Go.Proofs.YtfakdphkklclgaaW.PrintWords Go.Proofs.YtfakdphkklclgaaW.PrintLast Go.Proofs.YtfakdphkklclgaaW.PrintMore
attribute [local go_sem] max2_int min2_int max_two min_two max_three min_three max_four min_four
set_option linter.unusedVariables false
set_option linter.unusedSimpArgs false
section
open Go.ChangeMaps Go.MapKept
set_option linter.unusedVariables false
structure DAt (Z : Nat → Prop) (x : Value) (s : Sto) (W : World) : Prop where
  now : ∃ (A0 : Option Addr) (c0 : Nat) (A1 : Option Addr) (c1 : Nat), x = .agg #[.slice A0 s.img.length c0, .slice A1 s.L.length c1] ∧ s.img.length ≤ c0 ∧ s.L.length ≤ c1 ∧ Kd.F (Kd.int .u8) W Z A0 s.img.length s.img ∧ Kd.F k101 W Z A1 s.L.length s.L
section
variable {Z Z' S : Nat → Prop} {x : Value} {s : Sto} {W W1 : World}
theorem DAt.step (h : DAt Z x s W) (hb : Below W.heap.size W W1) : DAt Z x s W1 := by
  obtain ⟨A0, c0, A1, c1, h1, h2, h3, h4, h5⟩ := h
  exact ⟨A0, c0, A1, c1, h1, h2, h3, Kd.F_below h4 hb, Kd.F_below h5 hb⟩
theorem DAt.kept (h : DAt Z x s W) (hk : Kept W W1 S) (hS : ∀ b, Z b → ¬ S b) : DAt Z x s W1 := by
  obtain ⟨A0, c0, A1, c1, h1, h2, h3, h4, h5⟩ := h
  exact ⟨A0, c0, A1, c1, h1, h2, h3, Kd.F_kept h4 hk hS, Kd.F_kept h5 hk hS⟩
theorem DAt.mono (h : DAt Z x s W) (hZ : ∀ b, Z b → Z' b) : DAt Z' x s W := by
  obtain ⟨A0, c0, A1, c1, h1, h2, h3, h4, h5⟩ := h
  exact ⟨A0, c0, A1, c1, h1, h2, h3, Kd.F_mono h4 hZ, Kd.F_mono h5 hZ⟩
theorem DAt.bound (h : DAt Z x s W) : DAt (fun b => Z b ∧ b < W.heap.size) x s W := by
  obtain ⟨A0, c0, A1, c1, h1, h2, h3, h4, h5⟩ := h
  exact ⟨A0, c0, A1, c1, h1, h2, h3, Kd.F_bound h4, Kd.F_bound h5⟩
theorem DAt.zero (Z : Nat → Prop) (W : World) : DAt Z (.agg #[.slice none 0 0, .slice none 0 0]) ⟨[], []⟩ W := ⟨none, 0, none, 0, rfl, Nat.le_refl _, Nat.le_refl _, Kd.F_nil _ _ _, Kd.F_nil _ _ _⟩
end
def DWr (Z : Nat → Prop) (m : Value) (ws : List S52) (W : World) : Prop := ∃ A c, m = .slice A ws.length c ∧ ws.length ≤ c ∧ Kd.F k52 W Z A ws.length ws
theorem DWr.kept {Z S : Nat → Prop} {m : Value} {ws : List S52} {W W1 : World} (h : DWr Z m ws W) (hk : Kept W W1 S) (hS : ∀ b, Z b → ¬ S b) : DWr Z m ws W1 := by
  obtain ⟨A, c, h1, h2, h3⟩ := h
  exact ⟨A, c, h1, h2, Kd.F_kept h3 hk hS⟩
theorem DWr.step {Z : Nat → Prop} {m : Value} {ws : List S52} {W W1 : World} (h : DWr Z m ws W) (hb : Below W.heap.size W W1) : DWr Z m ws W1 := by
  obtain ⟨A, c, h1, h2, h3⟩ := h
  exact ⟨A, c, h1, h2, Kd.F_below h3 hb⟩
theorem DWr.mono {Z Z' : Nat → Prop} {m : Value} {ws : List S52} {W : World} (h : DWr Z m ws W) (hZ : ∀ b, Z b → Z' b) : DWr Z' m ws W := by
  obtain ⟨A, c, h1, h2, h3⟩ := h
  exact ⟨A, c, h1, h2, Kd.F_mono h3 hZ⟩
theorem DWr.nil (Z : Nat → Prop) (W : World) : DWr Z (.slice none 0 0) [] W := ⟨none, 0, rfl, Nat.le_refl _, Kd.F_nil _ _ _⟩
def DPost (Z : Nat → Prop) (w : World) (out : Sto × List S52 × Int) (e : Ending) (w' : World) : Prop := ∃ (y m : Value), e = .returned (.tuple #[y, m, .int .i64 out.2.2]) ∧ DAt (fun k => Z k ∨ (w.heap.size ≤ k ∧ k < w'.heap.size)) y out.1 w' ∧ DWr (fun k => w.heap.size ≤ k ∧ k < w'.heap.size) m out.2.1 w' ∧ Below w.heap.size w w'
theorem Rws.old {w0 W W1 : World} {l : List (Nat × TypeId × Array Value)} (h : Rws w0 l W) {B : Nat} (hB : ∀ p ∈ l, p.1 < B) (hb : Below B W W1) (hw : w0.heap.size ≤ B) : Rws w0 l W1 := ⟨fun p hp => ⟨(hb.block _ (hB p hp)).trans (h.lies p hp).1, (h.lies p hp).2⟩, h.ne, h.below.trans (hb.mono hw)⟩
theorem rw_allocS {P : Program} {ops : Array Oper} {rest : List Oper} {o : Oper} {a : Act} {Q : Exit → Act → World → Prop} (hgd : o.guard = none) (ty : TypeId) (ho : o.op = .alloc ty) {cs : Array Value} (hz : (P.info? ty).map (·.zero) = some (some (.agg cs))) {w0 W : World} {l : List (Nat × TypeId × Array Value)} (hl : Rws w0 l W)
    (h : ∀ g w1, g = W.heap.size → Rws w0 ((g, ty, cs) :: l) w1 → Below W.heap.size W w1 → wpList P ops Q rest (a.put o.dst (.pointer (some ⟨g, 0, none⟩))) w1) : wpList P ops Q (o :: rest) a W :=
  wpList_plain hgd fun _ hK => rw_alloc_wp ty ho hz hl (fun g w1 h1 h2 h3 => hK _ _ (h g w1 h1 h2 h3))
theorem rw_storeS {P : Program} {ops : Array Oper} {rest : List Oper} {o : Oper} {a : Act} {Q : Exit → Act → World → Prop} (hgd : o.guard = none) (ty : TypeId) {x y : Operand} (ho : o.op = .store ty x y) {g : Nat} (hx : a.eval x = .pointer (some ⟨g, 0, none⟩)) {cs' : Array Value} (hy : a.eval y = .agg cs') {w0 W : World} (l1 : List (Nat × TypeId × Array Value)) {l2 : List (Nat × TypeId × Array Value)} {cs : Array Value} (hl : Rws w0 (l1 ++ (g, ty, cs) :: l2) W) (hi : (P.info? ty).map (·.size) = some cs'.size) (hs : cs.size = cs'.size) (h1 : cs'.all (·.oneCell') = true)
    (h : ∀ w1, Rws w0 (l1 ++ (g, ty, cs') :: l2) w1 → Kept W w1 (fun k => k = g) → wpList P ops Q rest (a.put o.dst undef) w1) : wpList P ops Q (o :: rest) a W :=
  wpList_plain hgd fun _ hK => rw_store_wp ty ho hx hy l1 hl hi hs h1 (fun w1 h2 h3 => hK _ _ (h w1 h2 h3))
theorem WrAt.foot {S1 S2 : Nat} {v : Value} {at_ : Int} {r0 r1 : List Int} {W W' : World} (h : WrAt S1 S2 v at_ r0 r1 W) (hW : ∀ k, (S1 ≤ k ∧ k < S2) → k < W.heap.size → W'.heap[k]? = W.heap[k]?) : WrAt S1 S2 v at_ r0 r1 W' := by
  obtain ⟨b0, v1, v2, h1, h2, h3, h4, h5, h6, h7⟩ := h
  exact ⟨b0, v1, v2, h1, (hW b0 ⟨h6, h7⟩ (blk_lt h2)).trans h2, Kd.R_step h3 hW, Kd.R_step h4 hW, h5, h6, h7⟩
theorem DWr_of {S1 S2 : Nat} {v : Value} {at_ : Int} {r0 r1 : List Int} {W : World} (h : WrAt S1 S2 v at_ r0 r1 W) : DWr (fun k => S1 ≤ k ∧ k < S2) v [⟨at_, r0⟩, ⟨at_, r1⟩] W := by
  obtain ⟨b0, h1, _⟩ := h.reads
  refine ⟨_, 2, h1, Nat.le_refl _, fun W' hW => ?_⟩
  obtain ⟨b1, h2, h3⟩ := (h.foot hW).reads
  rw [h1] at h2
  injection h2 with h2
  injection h2 with h2
  injection h2 with h2
  subst h2
  exact h3
theorem one_at {W : World} {gk : Nat} {z : Int} (h : W.heap[gk]? = some (.cells #[.int .u8 z] 5 (0, 0))) {base : Nat} (hb : base ≤ gk) {ok : Nat → Prop} (hok : ok gk) : Kd.R (Kd.int .u8) 5 W base ok (.slice (some ⟨gk, 0, none⟩) 1 1) [z] :=
  ⟨fun k hk => by injection hk with hk; rw [← hk]; exact hok, nums .u8 [z], ⟨rfl, .inr ⟨gk, 1, #[.int .u8 z], rfl, hb, h, Nat.le_refl 1, by decide, rfl, rfl⟩⟩, Kd.reps_scalar (enc := Value.int .u8) [z]⟩
theorem laid_end {Z : Nat → Prop} {s : Sto} {w w2 w9 W : World} {l : List S101} {A1 A6 A9 : Option Addr} {c1 c6 c9 : Nat} {r rr : List Int} {b3 b6 gk gm : Nat} {cs3 : Array Value} (hL : Kd.F k101 w Z A1 l.length l) (hc1 : l.length ≤ c1) (hM : Rws w [(b6, 29, #[.slice A9 (s.img.length + r.length) c9, .slice A1 l.length c1]), (b3, 29, cs3)] W) (hK : Kept w9 W (fun k => k = b6)) (hl9 : b6 < w2.heap.size ∧ w2.heap.size ≤ w9.heap.size)
    (hgk : W.heap[gk]? = some (.cells #[.int .u8 (rd r 0)] 5 (0, 0))) (hgm : W.heap[gm]? = some (.cells #[.int .i64 (s.img.length : Int), .slice A6 (r.length + 1) c6, .int .i64 (s.img.length : Int), .slice (some ⟨gk, 0, none⟩) 1 1] 52 (0, 0))) (he1 : w9.heap.size ≤ gk) (he2 : w9.heap.size ≤ gm)
    (h6 : Kd.R (Kd.int .u8) 5 w9 w2.heap.size (fun _ => True) (.slice A6 (r.length + 1) c6) rr) (h9 : Kd.R (Kd.int .u8) 5 w9 w2.heap.size (fun _ => True) (.slice A9 (s.img.length + r.length) c9) (s.img ++ r)) (hz : w.heap.size ≤ w2.heap.size) :
    DPost Z w (⟨s.img ++ r, l⟩, [⟨(s.img.length : Int), rr⟩, ⟨(s.img.length : Int), [rd r 0]⟩], 0) (.returned (.tuple #[.agg #[.slice A9 (s.img.length + r.length) c9, .slice A1 l.length c1], .slice (some ⟨gm, 0, none⟩) 2 2, .int .i64 0])) W := by
  have hb := hM.below
  have hg1 := blk_lt hgk
  have hg2 := blk_lt hgm
  have hR9 := Kd.R_kept (Kd.R_bound h9) hK (fun k q e => by have := q.2.1; omega)
  have hR6 := Kd.R_kept (Kd.R_bound h6) hK (fun k q e => by have := q.2.1; omega)
  have hlen : (s.img ++ r).length = s.img.length + r.length := List.length_append
  have hw : WrAt w.heap.size W.heap.size (.slice (some ⟨gm, 0, none⟩) 2 2) (s.img.length : Int) rr [rd r 0] W := by
    refine ⟨gm, _, _, rfl, hgm, Kd.R_lower (Kd.R_mono hR6 (fun k q => ⟨Nat.le_trans hz q.2.1, ?_⟩)) hz, one_at hgk (by omega) ⟨by omega, hg1⟩, fun b e e2 => ?_, by omega, hg2⟩
    · have h8 : k < w9.heap.size := q.2.2.1
      have := hK.1
      omega
    · have h8 := Kd.R_lt h6 b e
      have e3 : some gk = some b := e2
      injection e3 with e3
      omega
  refine ⟨_, _, rfl, ⟨A9, c9, A1, c1, by rw [hlen], by rw [hlen]; exact (Kd.R_reads' h9).2.1, hc1, ?_, Kd.F_mono (Kd.F_below hL hb) (fun k q => .inl q)⟩, DWr_of hw, hb⟩
  have hF := Kd.R_F (Kd.R_bound hR9)
  rw [hlen]
  exact Kd.F_mono hF (fun k q => .inr ⟨Nat.le_trans hz q.2.1, q.2.2.1⟩)
set_option maxHeartbeats 6400000 in
set_option maxRecDepth 100000 in
theorem laid_d {Z : Nat → Prop} {x : Value} {s : Sto} {w : World} (h : DAt Z x s w) (hi : s.img.length ≤ 1048576) (l : List S101) (A1 : Option Addr) (c1 : Nat) (hl : Kd.F k101 w Z A1 l.length l) (hc1 : l.length ≤ c1) (r : List Int) (Ar : Option Addr) (cr : Nat) (hr : Kd.C (Kd.int .u8) w Ar r.length r) (hcr : r.length ≤ cr) (hr1 : 2 ≤ r.length) (hr2 : r.length ≤ 5000) : Calls Try.prog 43 #[x, .slice A1 l.length c1, .slice Ar r.length cr] w fun e w' => DPost Z w (laidS s l r) e w' := by
  obtain ⟨A0, c0, B1, d1, rfl, g1, g2, g3, g4⟩ := h
  have HI := Aside0.mk (And.intro g1 (And.intro g2 (And.intro g3 g4)))
  have HL := Aside0.mk hl
  have HR := Aside0.mk hr
  clear g1 g2 g3 g4 hl hr
  have hw1 : wrap64 ((s.img.length : Int) + (r.length : Int)) = (s.img.length : Int) + (r.length : Int) := by unfold wrap64; omega
  have hw2 : wrap64 ((s.img.length : Int) + (r.length : Int) + 1) = (s.img.length : Int) + (r.length : Int) + 1 := by unfold wrap64; omega
  by_cases c9 : 1048576 < s.img.length + r.length + 1
  · have c9b : decide ((1048576 : Int) < (s.img.length : Int) + (r.length : Int) + 1) = true := decide_eq_true (by omega)
    go_enter Try.func43, Try.ntmps43
    go_wp2_with (first | ((with_reducible refine gate_dst (N := 3) rfl ?_); refine rw_box rfl 29 rfl (cs := #[.slice A0 s.img.length c0, .slice B1 s.L.length d1]) rfl (Rws.nil w) ?_; intro b3 w1 hX; have HM := Aside0.mk hX; clear hX) | ((with_reducible refine gate_dst (N := 6) rfl ?_); refine rw_allocS rfl 29 rfl (cs := #[.slice none 0 0, .slice none 0 0]) (by kernel_rfl) HM.out ?_; intro b6 w2 hg6 hM hb6; have HM2 := Aside0.mk hM; have hc30 := blk_cell (hM.mem (List.mem_cons_of_mem _ List.mem_cons_self)) 0; have hc31 := blk_cell (hM.mem (List.mem_cons_of_mem _ List.mem_cons_self)) 1; clear hg6 hM hb6) | ((with_reducible refine gate_dst (N := 20) rfl ?_); refine rw_load rfl 29 rfl rfl HM2.out (List.mem_cons_of_mem _ List.mem_cons_self) _ Try.underlying29 rfl (by kernel_rfl) ?_) | (refine rw_storeS rfl 29 rfl rfl (cs' := #[.slice A0 s.img.length c0, .slice B1 s.L.length d1]) rfl [] HM2.out (by kernel_rfl) rfl (by show _ = _; simp [Value.oneCell']) ?_; intro w3 hM hk3; have HM3 := Aside0.mk hM; clear hM hk3))
    unfold laidS
    rw [if_pos c9]
    refine bodyPost_ret (results_ctt rfl _ _ b6 29 #[.slice A0 s.img.length c0, .slice B1 s.L.length d1] (0, 0) _ rfl (HM3.out.mem List.mem_cons_self) Try.underlying29 rfl (by kernel_rfl)) rfl ?_
    have hb := HM3.out.below
    exact ⟨_, _, rfl, ⟨A0, c0, B1, d1, rfl, HI.out.1, HI.out.2.1, Kd.F_mono (Kd.F_below HI.out.2.2.1 hb) (fun k q => .inl q), Kd.F_mono (Kd.F_below HI.out.2.2.2 hb) (fun k q => .inl q)⟩, DWr.nil _ _, hb⟩
  · have c9b : decide ((1048576 : Int) < (s.img.length : Int) + (r.length : Int) + 1) = false := decide_eq_false (by omega)
    have HCF := Aside0.mk c9
    have hcr1 : (cr = 1) = False := eq_false (by omega)
    obtain ⟨ad, e9, _⟩ := HR.out.2.2 (by omega)
    subst e9
    go_enter Try.func43, Try.ntmps43
    go_wp2_with (first | ((with_reducible refine gate_dst (N := 3) rfl ?_); refine rw_box rfl 29 rfl (cs := #[.slice A0 s.img.length c0, .slice B1 s.L.length d1]) rfl (Rws.nil w) ?_; intro b3 w1 hX; have HM := Aside0.mk hX; clear hX) | ((with_reducible refine gate_dst (N := 6) rfl ?_); refine rw_allocS rfl 29 rfl (cs := #[.slice none 0 0, .slice none 0 0]) (by kernel_rfl) HM.out ?_; intro b6 w2 hg6 hM hb6; have HM2 := Aside0.mk hM; have hc30 := blk_cell (hM.mem (List.mem_cons_of_mem _ List.mem_cons_self)) 0; have hc31 := blk_cell (hM.mem (List.mem_cons_of_mem _ List.mem_cons_self)) 1; clear hg6 hM hb6) | ((with_reducible refine gate_builtin (b := .append) (xs := #[.tmp 21, .tmp 23]) rfl ?_); at_builtin; refine halt_at ?_))
    unfold Halt_
    have hlb : b3 < w2.heap.size ∧ b6 < w2.heap.size := ⟨blk_lt (HM2.out.mem (List.mem_cons_of_mem _ List.mem_cons_self)), blk_lt (HM2.out.mem List.mem_cons_self)⟩
    have HB2 := Aside0.mk (Below.refl w2.heap.size w2)
    have hwz := HM2.out.below.size
    clear hc30 hc31
    have ht := one_own2 w2 0 w2.heap.size HB2.out.size
    have hb := below_alloc (Below.refl w2.heap.size w2) (.cells #[.int .u8 0] 5)
    generalize (w2.alloc (.cells #[.int .u8 0] 5)) = w3 at ht hb ⊢
    have HR3 := Aside0.mk ht
    have HB3 := Aside0.mk (below_step HB2.out hb)
    have HD3 := Aside0.mk hb
    clear ht hb
    have hCd : Kd.C (Kd.int .u8) w3 (some (ad.add 1)) (r.length - 1) (r.drop 1) := by
      have h9 := Kd.C_drop (m := 1) (Kd.C_below HR.out (HM2.out.below.trans (HB3.out.mono hwz))) (by omega) hcr
      rw [if_neg (by omega), List.length_drop] at h9
      exact h9
    have HCD := Aside0.mk hCd
    clear hCd
    refine Kd.R_append_rows (Kd.int .u8) (w0 := w3) w2.heap.size rfl (.tmp 21) (.tmp 23) 23 5 (.int .u8 0) 1 rfl Try.underlying23 info5 rfl (by decide) (by omega) (.slice (some ⟨w2.heap.size, 0, none⟩) 1 1) ([(0 : Int)]) (r.drop 1) (some (ad.add 1)) (r.length - 1) (cr - 1) (fun _ => True) (fun _ => False) rfl rfl HR3.out HCD.out (fun _ _ h => h) (fun _ h => h.elim) (fun _ _ => trivial) (Below.refl _ _) (by have := HB3.out.size; omega) (by simp; omega) ?_
    intro v4 w4 ho hb hg hat
    obtain ⟨A4, c4, e4⟩ := Kd.R_slice ho
    have hl4 : ([(0 : Int)] ++ r.drop 1).length = r.length := by simp; try omega
    rw [hl4] at e4
    subst e4
    have HR4 := Aside0.mk ho
    have HB4 := Aside0.mk (HB3.out.trans hb)
    clear ho hb hg hat
    go_wp2_with ((with_reducible refine gate_builtin (b := .append) (xs := #[.tmp 25, .tmp 26]) rfl ?_); at_builtin; refine halt_at ?_)
    unfold Halt_
    have ht := one_own2 w4 0 w2.heap.size HB4.out.size
    have hb := below_alloc (Below.refl w4.heap.size w4) (.cells #[.int .u8 0] 5)
    generalize (w4.alloc (.cells #[.int .u8 0] 5)) = w5 at ht hb ⊢
    have HR5 := Aside0.mk ht
    have HB5 := Aside0.mk (below_step HB4.out hb)
    have HD5 := Aside0.mk hb
    clear ht hb
    refine Kd.R_append_rows (Kd.int .u8) (w0 := w5) w2.heap.size rfl (.tmp 25) (.tmp 26) 23 5 (.int .u8 0) 1 rfl Try.underlying23 info5 rfl (by decide) (by omega) (.slice A4 r.length c4) ([(0 : Int)] ++ r.drop 1) ([(0 : Int)]) (some ⟨w4.heap.size, 0, none⟩) (1) (1) (fun _ => True) (fun _ => False) rfl rfl (Kd.R_below HR4.out HD5.out) (Kd.R_reads' HR5.out).2.2 (fun _ _ h => h) (fun _ h => h.elim) (fun _ _ => trivial) (Below.refl _ _) (by have := HB5.out.size; omega) (by rw [hl4]; omega) ?_
    intro v6 w6 ho hb hg hat
    obtain ⟨A6, c6, e6⟩ := Kd.R_slice ho
    have hl6 : ([(0 : Int)] ++ r.drop 1 ++ [(0 : Int)]).length = r.length + 1 := by simp; try omega
    rw [hl6] at e6
    subst e6
    have HR6 := Aside0.mk ho
    have HB6 := Aside0.mk (HB5.out.trans hb)
    clear ho hb hg hat
    have HM6 := Aside0.mk (HM2.out.old (fun p hp => blk_lt (HM2.out.lies p hp).1) HB6.out hwz)
    have hc30 := blk_cell (HM6.out.mem (List.mem_cons_of_mem _ List.mem_cons_self)) 0
    have hc30b := blk_cell (blk_below (HM6.out.mem (List.mem_cons_of_mem _ List.mem_cons_self)) (below_alloc (Below.refl w6.heap.size w6) (.cells #[] 5))) 0
    go_wp2_with ((with_reducible refine gate_builtin (b := .append) (xs := #[.tmp 31, .tmp 33]) rfl ?_); at_builtin; refine halt_at ?_)
    unfold Halt_
    clear hc30b
    have HQ6 := Aside0.mk (Below.refl w6.heap.size w6)
    have HM6W := Aside0.mk HM6.out.below
    have ht := nil_own w6 w6.heap.size HQ6.out.size
    have hb := below_alloc (Below.refl w6.heap.size w6) (.cells #[] 5)
    generalize (w6.alloc (.cells #[] 5)) = w7 at ht hb ⊢
    have HR7 := Aside0.mk ht
    have HQ7 := Aside0.mk (below_step HQ6.out hb)
    have HD7 := Aside0.mk hb
    clear ht hb
    refine Kd.R_append_rows (Kd.int .u8) (w0 := w7) w6.heap.size rfl (.tmp 31) (.tmp 33) 23 5 (.int .u8 0) 1 rfl Try.underlying23 info5 rfl (by decide) (by omega) (.slice (some ⟨w6.heap.size, 0, none⟩) 0 0) (([] : List Int)) (s.img) (A0) (s.img.length) (c0) (fun _ => True) (fun _ => False) rfl rfl HR7.out (Kd.C_below (Kd.F_now HI.out.2.2.1) (HM6W.out.trans (HQ7.out.mono HM6W.out.size))) (fun _ _ h => h) (fun _ h => h.elim) (fun _ _ => trivial) (Below.refl _ _) (by have := HQ7.out.size; omega) (by simp; omega) ?_
    intro v8 w8 ho hb hg hat
    obtain ⟨A8, c8, e8⟩ := Kd.R_slice ho
    have hl8 : (([] : List Int) ++ s.img).length = s.img.length := by simp; try omega
    rw [hl8] at e8
    subst e8
    have HR8 := Aside0.mk ho
    have HQ8 := Aside0.mk (HQ7.out.trans hb)
    clear ho hb hg hat
    go_wp2_with ((with_reducible refine gate_builtin (b := .append) (xs := #[.tmp 35, .tmp 36]) rfl ?_); at_builtin; refine halt_at ?_)
    unfold Halt_
    refine Kd.R_append_rows (Kd.int .u8) (w0 := w8) w6.heap.size rfl (.tmp 35) (.tmp 36) 23 5 (.int .u8 0) 1 rfl Try.underlying23 info5 rfl (by decide) (by omega) (.slice A8 s.img.length c8) (([] : List Int) ++ s.img) (r) (some ad) (r.length) (cr) (fun _ => True) (fun _ => False) rfl rfl HR8.out (Kd.C_below HR.out (HM6W.out.trans (HQ8.out.mono HM6W.out.size))) (fun _ _ h => h) (fun _ h => h.elim) (fun _ _ => trivial) (Below.refl _ _) (by have := HQ8.out.size; omega) (by rw [hl8]; omega) ?_
    intro v9 w9 ho hb hg hat
    obtain ⟨A9, c9, e9⟩ := Kd.R_slice ho
    have hl9 : (([] : List Int) ++ s.img ++ r).length = s.img.length + r.length := by simp; try omega
    rw [hl9] at e9
    subst e9
    have HR9 := Aside0.mk ho
    have HQ9 := Aside0.mk (HQ8.out.trans hb)
    clear ho hb hg hat
    have HB9 := Aside0.mk (HB6.out.trans (HQ9.out.mono HB6.out.size))
    replace HR9 := Aside0.mk (show Kd.R (Kd.int .u8) 5 w9 w2.heap.size (fun _ => True) (.slice A9 (s.img.length + r.length) c9) (s.img ++ r) from Kd.R_lower HR9.out HB6.out.size)
    replace HR6 := Aside0.mk (Kd.R_below HR6.out HQ9.out)
    have HM9 := Aside0.mk (HM2.out.old (fun p hp => blk_lt (HM2.out.lies p hp).1) HB9.out hwz)
    clear hc30
    go_wp2_with fail
    have hpos : 0 < r.length := by omega
    have HL9 := Aside0.mk (show b6 < w2.heap.size ∧ w2.heap.size ≤ w9.heap.size from ⟨hlb.2, HB9.out.size⟩)
    have HZ9 := Aside0.mk hwz
    have HK9 := Aside0.mk (Kept.refl w9 (fun k => k = b6))
    have HSS := Aside0.mk (show ∀ W' : World, Below w.heap.size w W' → W'.cell? ad = some (.int .u8 (rd r 0)) from fun W' hW => by
      have h9 := Kd.foot_int (Kd.C_below HR.out hW) 0 (by decide) (by omega)
      simpa [Addr.add] using h9)
    (try simp only [Act.put, List.setIfInBounds_toArray, List.set_cons_zero, List.set_cons_succ])
    refine wp_region_held_drew (S := fun w' => w'.cell? ad = some (.int .u8 (rd r 0))) (by kernel_rfl) ?_ (fun hHeld => ?_)
    · exact HSS.out _ (pw_below_drewN HM9.out.below 1)
    have HM10 := Aside0.mk (HM9.out.drewN 1)
    have HK10 := Aside0.mk (HK9.out.drewN 1)
    replace HM10 := Aside0.mk (show Rws w _ w9.drew from HM10.out)
    replace HK10 := Aside0.mk (show Kept w9 w9.drew (fun k => k = b6) from HK10.out)
    generalize w9.drew = w10 at HM10 HK10 hHeld ⊢
    refine take_dst (i := 0) (v := ?_) 38 rfl rfl (by kernel_rfl) (by kernel_rfl) (by kernel_rfl) (fun _ _ _ h => h) (Or.inl ⟨by rfl, ?_⟩) (by assumption) ?_
    rotate_left
    · intro w hSw
      obtain q1 := hSw
      go_simp
      try with_reducible rfl
    (try simp only [Act.put, List.setIfInBounds_toArray, List.set_cons_zero, List.set_cons_succ])
    refine take_dst (i := 1) (v := ?_) 39 rfl rfl (by kernel_rfl) (by kernel_rfl) (by kernel_rfl) (fun _ _ _ h => h) (Or.inl ⟨by rfl, ?_⟩) (by assumption) ?_
    rotate_left
    · intro w hSw
      obtain q1 := hSw
      go_simp
      try with_reducible rfl
    (try simp only [Act.put, List.setIfInBounds_toArray, List.set_cons_zero, List.set_cons_succ])
    refine take_dst (i := 2) (v := ?_) 40 rfl rfl (by kernel_rfl) (by kernel_rfl) (by kernel_rfl) (fun _ _ _ h => h) (Or.inl ⟨by rfl, ?_⟩) (by assumption) ?_
    rotate_left
    · intro w hSw
      obtain q1 := hSw
      go_simp
      try with_reducible rfl
    (try simp only [Act.put, List.setIfInBounds_toArray, List.set_cons_zero, List.set_cons_succ])
    refine take_dst (i := 3) (v := ?_) 41 rfl rfl (by kernel_rfl) (by kernel_rfl) (by kernel_rfl) (fun _ _ _ h => h) (Or.inl ⟨by rfl, ?_⟩) (by assumption) ?_
    rotate_left
    · intro w hSw
      obtain q1 := hSw
      go_simp
      try with_reducible rfl
    (try simp only [Act.put, List.setIfInBounds_toArray, List.set_cons_zero, List.set_cons_succ])
    refine take_dst (i := 4) (v := ?_) 42 rfl rfl (by kernel_rfl) (by kernel_rfl) (by kernel_rfl) (fun _ _ _ h => h) (Or.inl ⟨by rfl, ?_⟩) (by assumption) ?_
    rotate_left
    · intro w hSw
      obtain q1 := hSw
      go_simp
      try with_reducible rfl
    (try simp only [Act.put, List.setIfInBounds_toArray, List.set_cons_zero, List.set_cons_succ])
    refine take_dst (i := 5) (v := ?_) 43 rfl rfl (by kernel_rfl) (by kernel_rfl) (by kernel_rfl) (fun _ _ _ h => h) (Or.inl ⟨by rfl, ?_⟩) (by assumption) ?_
    rotate_left
    · intro w hSw
      obtain q1 := hSw
      go_simp
      try with_reducible rfl
    (try simp only [Act.put, List.setIfInBounds_toArray, List.set_cons_zero, List.set_cons_succ])
    refine take_dst (i := 6) (v := ?_) 44 rfl rfl (by kernel_rfl) (by kernel_rfl) (by kernel_rfl) (fun _ _ _ h => h) (Or.inl ⟨by rfl, ?_⟩) (by assumption) ?_
    rotate_left
    · intro w hSw
      obtain q1 := hSw
      go_simp
      try with_reducible rfl
    (try simp only [Act.put, List.setIfInBounds_toArray, List.set_cons_zero, List.set_cons_succ])
    refine take_dst (i := 7) (v := ?_) 45 rfl rfl (by kernel_rfl) (by kernel_rfl) (by kernel_rfl) (fun _ _ _ h => h) (Or.inl ⟨by rfl, ?_⟩) (by assumption) ?_
    rotate_left
    · intro w hSw
      obtain q1 := hSw
      go_simp
      try with_reducible rfl
    (try simp only [Act.put, List.setIfInBounds_toArray, List.set_cons_zero, List.set_cons_succ])
    refine take_dst (i := 8) (v := ?_) 46 rfl rfl (by kernel_rfl) (by kernel_rfl) (by kernel_rfl) (fun _ _ _ h => h) (Or.inl ⟨by rfl, ?_⟩) (by assumption) ?_
    rotate_left
    · intro w hSw
      obtain q1 := hSw
      go_simp
      try with_reducible rfl
    (try simp only [Act.put, List.setIfInBounds_toArray, List.set_cons_zero, List.set_cons_succ])
    refine take_dst (i := 9) (v := ?_) 47 rfl rfl (by kernel_rfl) (by kernel_rfl) (by kernel_rfl) (fun _ _ _ h => h) (Or.inl ⟨by rfl, ?_⟩) (by assumption) ?_
    rotate_left
    · intro w hSw
      obtain q1 := hSw
      go_simp
      try with_reducible rfl
    (try simp only [Act.put, List.setIfInBounds_toArray, List.set_cons_zero, List.set_cons_succ])
    refine wpAnyH_ready (rs := [10, 13]) (by kernel_rfl) (by simp) ?_
    refine AllReadyH.cons rfl (fun K hK => ?_) (AllReadyH.cons rfl (fun K hK => ?_) (AllReadyH.nil))
    · go_simp
      have hb := below_alloc (Below.refl w10.heap.size w10) (.cells #[.int .u8 (rd r 0)] 5)
      have hk := blk_new w10 (.cells #[.int .u8 (rd r 0)] 5)
      refine hK.out _ _ (HSS.out _ (below_step HM10.out.below hb)) (fun hHeld => ?_)
      (try simp only [Act.put, List.setIfInBounds_toArray, List.set_cons_zero, List.set_cons_succ])
      clear hK K
      obtain ⟨gk, hgk⟩ : ∃ gk, gk = w10.heap.size := ⟨_, rfl⟩
      rw [← hgk] at hk ⊢
      generalize (w10.alloc (.cells #[.int .u8 (rd r 0)] 5)) = w11 at hb hk hHeld ⊢
      have HM11 := Aside0.mk (HM10.out.step hb)
      have HK11 := Aside0.mk (HK10.out.below hb)
      have HGK := Aside0.mk hk
      have HGE := Aside0.mk (show w9.heap.size ≤ gk by have := HK10.out.1; omega)
      clear hb hk hgk
      refine take_dst (i := 11) (v := ?_) 49 rfl rfl (by kernel_rfl) (by kernel_rfl) (by kernel_rfl) (fun _ _ _ h => h) (Or.inl ⟨by rfl, ?_⟩) (by assumption) ?_
      rotate_left
      · intro w hSw
        obtain q1 := hSw
        go_simp
        try with_reducible rfl
      (try simp only [Act.put, List.setIfInBounds_toArray, List.set_cons_zero, List.set_cons_succ])
      refine wpAnyH_ready (rs := [12, 13]) (by kernel_rfl) (by simp) ?_
      refine AllReadyH.cons rfl (fun K hK => ?_) (AllReadyH.cons rfl (fun K hK => ?_) (AllReadyH.nil))
      · go_simp
        have hb := below_alloc (Below.refl w11.heap.size w11) (.cells #[.int .i64 (s.img.length : Int), .slice A6 (r.length + 1) c6, .int .i64 (s.img.length : Int), .slice (some ⟨gk, 0, none⟩) 1 1] 52)
        have hk := blk_new w11 (.cells #[.int .i64 (s.img.length : Int), .slice A6 (r.length + 1) c6, .int .i64 (s.img.length : Int), .slice (some ⟨gk, 0, none⟩) 1 1] 52)
        refine hK.out _ _ (HSS.out _ (below_step HM11.out.below hb)) (fun hHeld => ?_)
        (try simp only [Act.put, List.setIfInBounds_toArray, List.set_cons_zero, List.set_cons_succ])
        clear hK K
        obtain ⟨gm, hgm⟩ : ∃ gm, gm = w11.heap.size := ⟨_, rfl⟩
        rw [← hgm] at hk ⊢
        generalize (w11.alloc (.cells #[.int .i64 (s.img.length : Int), .slice A6 (r.length + 1) c6, .int .i64 (s.img.length : Int), .slice (some ⟨gk, 0, none⟩) 1 1] 52)) = w12 at hb hk hHeld ⊢
        have HM12 := Aside0.mk (HM11.out.step hb)
        have HK12 := Aside0.mk (HK11.out.below hb)
        replace HGK := Aside0.mk (blk_below HGK.out hb)
        have HGM := Aside0.mk hk
        have HGE2 := Aside0.mk (show w9.heap.size ≤ gm by have := HK11.out.1; omega)
        clear hb hk hgm
        refine wpAnyH_ready (rs := [13]) (by kernel_rfl) (by simp) ?_
        refine AllReadyH.cons rfl (fun K hK => ?_) (AllReadyH.nil)
        refine rw_store_wp 29 rfl rfl (cs' := #[.slice A9 (s.img.length + r.length) c9, .slice A1 l.length c1]) rfl [] HM12.out (by kernel_rfl) rfl (by show _ = _; simp [Value.oneCell']) ?_
        intro w13 hM hkp
        refine hK.out _ _ (HSS.out _ hM.below) (fun hHeld => ?_)
        (try simp only [Act.put, List.setIfInBounds_toArray, List.set_cons_zero, List.set_cons_succ])
        clear hK K
        have HM13 := Aside0.mk hM
        have HK13 := Aside0.mk (show Kept w9 w13 (fun k => k = b6) from ⟨Nat.le_trans HK12.out.1 hkp.1, fun k hk hn => (hkp.2 k (Nat.lt_of_lt_of_le hk HK12.out.1) hn).trans (HK12.out.2 k hk hn)⟩)
        replace HGK := Aside0.mk ((hkp.2 gk (blk_lt HGK.out) (fun e => by have := HGE.out; have := HL9.out; omega)).trans HGK.out)
        replace HGM := Aside0.mk ((hkp.2 gm (blk_lt HGM.out) (fun e => by have := HGE2.out; have := HL9.out; omega)).trans HGM.out)
        clear hM hkp
        refine take_dst (i := 14) (v := ?_) 7 rfl rfl (by kernel_rfl) (by kernel_rfl) (by kernel_rfl) (fun _ _ _ h => h) (Or.inl ⟨by rfl, ?_⟩) (by assumption) ?_
        rotate_left
        · intro w hSw
          obtain q1 := hSw
          go_simp
          try with_reducible rfl
        (try simp only [Act.put, List.setIfInBounds_toArray, List.set_cons_zero, List.set_cons_succ])
        refine take_dst (i := 15) (v := ?_) 8 rfl rfl (by kernel_rfl) (by kernel_rfl) (by kernel_rfl) (fun _ _ _ h => h) (Or.inl ⟨by rfl, ?_⟩) (by assumption) ?_
        rotate_left
        · intro w hSw
          obtain q1 := hSw
          go_simp
          try with_reducible rfl
        (try simp only [Act.put, List.setIfInBounds_toArray, List.set_cons_zero, List.set_cons_succ])
        refine wpAnyH_done (by kernel_rfl) ?_ _
        go_wp2_with fail
        unfold laidS
        rw [if_neg HCF.out]
        refine bodyPost_ret (results_ctt rfl _ _ b6 29 #[.slice A9 (s.img.length + r.length) c9, .slice A1 l.length c1] (0, 0) _ rfl (HM13.out.mem List.mem_cons_self) Try.underlying29 rfl (by kernel_rfl)) rfl ?_
        exact laid_end HL.out hc1 HM13.out HK13.out HL9.out HGK.out HGM.out HGE.out HGE2.out HR6.out HR9.out HZ9.out
      · refine rw_store_wp 29 rfl rfl (cs' := #[.slice A9 (s.img.length + r.length) c9, .slice A1 l.length c1]) rfl [] HM11.out (by kernel_rfl) rfl (by show _ = _; simp [Value.oneCell']) ?_
        intro w12 hM hkp
        refine hK.out _ _ (HSS.out _ hM.below) (fun hHeld => ?_)
        (try simp only [Act.put, List.setIfInBounds_toArray, List.set_cons_zero, List.set_cons_succ])
        clear hK K
        have HM12 := Aside0.mk hM
        have HK12 := Aside0.mk (show Kept w9 w12 (fun k => k = b6) from ⟨Nat.le_trans HK11.out.1 hkp.1, fun k hk hn => (hkp.2 k (Nat.lt_of_lt_of_le hk HK11.out.1) hn).trans (HK11.out.2 k hk hn)⟩)
        replace HGK := Aside0.mk ((hkp.2 gk (blk_lt HGK.out) (fun e => by have := HGE.out; have := HL9.out; omega)).trans HGK.out)
        clear hM hkp
        refine wpAnyH_ready (rs := [12]) (by kernel_rfl) (by simp) ?_
        refine AllReadyH.cons rfl (fun K hK => ?_) (AllReadyH.nil)
        go_simp
        have hb := below_alloc (Below.refl w12.heap.size w12) (.cells #[.int .i64 (s.img.length : Int), .slice A6 (r.length + 1) c6, .int .i64 (s.img.length : Int), .slice (some ⟨gk, 0, none⟩) 1 1] 52)
        have hk := blk_new w12 (.cells #[.int .i64 (s.img.length : Int), .slice A6 (r.length + 1) c6, .int .i64 (s.img.length : Int), .slice (some ⟨gk, 0, none⟩) 1 1] 52)
        refine hK.out _ _ (HSS.out _ (below_step HM12.out.below hb)) (fun hHeld => ?_)
        (try simp only [Act.put, List.setIfInBounds_toArray, List.set_cons_zero, List.set_cons_succ])
        clear hK K
        obtain ⟨gm, hgm⟩ : ∃ gm, gm = w12.heap.size := ⟨_, rfl⟩
        rw [← hgm] at hk ⊢
        generalize (w12.alloc (.cells #[.int .i64 (s.img.length : Int), .slice A6 (r.length + 1) c6, .int .i64 (s.img.length : Int), .slice (some ⟨gk, 0, none⟩) 1 1] 52)) = w13 at hb hk hHeld ⊢
        have HM13 := Aside0.mk (HM12.out.step hb)
        have HK13 := Aside0.mk (HK12.out.below hb)
        replace HGK := Aside0.mk (blk_below HGK.out hb)
        have HGM := Aside0.mk hk
        have HGE2 := Aside0.mk (show w9.heap.size ≤ gm by have := HK12.out.1; omega)
        clear hb hk hgm
        refine take_dst (i := 14) (v := ?_) 7 rfl rfl (by kernel_rfl) (by kernel_rfl) (by kernel_rfl) (fun _ _ _ h => h) (Or.inl ⟨by rfl, ?_⟩) (by assumption) ?_
        rotate_left
        · intro w hSw
          obtain q1 := hSw
          go_simp
          try with_reducible rfl
        (try simp only [Act.put, List.setIfInBounds_toArray, List.set_cons_zero, List.set_cons_succ])
        refine take_dst (i := 15) (v := ?_) 8 rfl rfl (by kernel_rfl) (by kernel_rfl) (by kernel_rfl) (fun _ _ _ h => h) (Or.inl ⟨by rfl, ?_⟩) (by assumption) ?_
        rotate_left
        · intro w hSw
          obtain q1 := hSw
          go_simp
          try with_reducible rfl
        (try simp only [Act.put, List.setIfInBounds_toArray, List.set_cons_zero, List.set_cons_succ])
        refine wpAnyH_done (by kernel_rfl) ?_ _
        go_wp2_with fail
        unfold laidS
        rw [if_neg HCF.out]
        refine bodyPost_ret (results_ctt rfl _ _ b6 29 #[.slice A9 (s.img.length + r.length) c9, .slice A1 l.length c1] (0, 0) _ rfl (HM13.out.mem List.mem_cons_self) Try.underlying29 rfl (by kernel_rfl)) rfl ?_
        exact laid_end HL.out hc1 HM13.out HK13.out HL9.out HGK.out HGM.out HGE.out HGE2.out HR6.out HR9.out HZ9.out
    · refine rw_store_wp 29 rfl rfl (cs' := #[.slice A9 (s.img.length + r.length) c9, .slice A1 l.length c1]) rfl [] HM10.out (by kernel_rfl) rfl (by show _ = _; simp [Value.oneCell']) ?_
      intro w11 hM hkp
      refine hK.out _ _ (HSS.out _ hM.below) (fun hHeld => ?_)
      (try simp only [Act.put, List.setIfInBounds_toArray, List.set_cons_zero, List.set_cons_succ])
      clear hK K
      have HM11 := Aside0.mk hM
      have HK11 := Aside0.mk (show Kept w9 w11 (fun k => k = b6) from ⟨Nat.le_trans HK10.out.1 hkp.1, fun k hk hn => (hkp.2 k (Nat.lt_of_lt_of_le hk HK10.out.1) hn).trans (HK10.out.2 k hk hn)⟩)
      clear hM hkp
      refine wpAnyH_ready (rs := [10]) (by kernel_rfl) (by simp) ?_
      refine AllReadyH.cons rfl (fun K hK => ?_) (AllReadyH.nil)
      go_simp
      have hb := below_alloc (Below.refl w11.heap.size w11) (.cells #[.int .u8 (rd r 0)] 5)
      have hk := blk_new w11 (.cells #[.int .u8 (rd r 0)] 5)
      refine hK.out _ _ (HSS.out _ (below_step HM11.out.below hb)) (fun hHeld => ?_)
      (try simp only [Act.put, List.setIfInBounds_toArray, List.set_cons_zero, List.set_cons_succ])
      clear hK K
      obtain ⟨gk, hgk⟩ : ∃ gk, gk = w11.heap.size := ⟨_, rfl⟩
      rw [← hgk] at hk ⊢
      generalize (w11.alloc (.cells #[.int .u8 (rd r 0)] 5)) = w12 at hb hk hHeld ⊢
      have HM12 := Aside0.mk (HM11.out.step hb)
      have HK12 := Aside0.mk (HK11.out.below hb)
      have HGK := Aside0.mk hk
      have HGE := Aside0.mk (show w9.heap.size ≤ gk by have := HK11.out.1; omega)
      clear hb hk hgk
      refine take_dst (i := 11) (v := ?_) 49 rfl rfl (by kernel_rfl) (by kernel_rfl) (by kernel_rfl) (fun _ _ _ h => h) (Or.inl ⟨by rfl, ?_⟩) (by assumption) ?_
      rotate_left
      · intro w hSw
        obtain q1 := hSw
        go_simp
        try with_reducible rfl
      (try simp only [Act.put, List.setIfInBounds_toArray, List.set_cons_zero, List.set_cons_succ])
      refine wpAnyH_ready (rs := [12]) (by kernel_rfl) (by simp) ?_
      refine AllReadyH.cons rfl (fun K hK => ?_) (AllReadyH.nil)
      go_simp
      have hb := below_alloc (Below.refl w12.heap.size w12) (.cells #[.int .i64 (s.img.length : Int), .slice A6 (r.length + 1) c6, .int .i64 (s.img.length : Int), .slice (some ⟨gk, 0, none⟩) 1 1] 52)
      have hk := blk_new w12 (.cells #[.int .i64 (s.img.length : Int), .slice A6 (r.length + 1) c6, .int .i64 (s.img.length : Int), .slice (some ⟨gk, 0, none⟩) 1 1] 52)
      refine hK.out _ _ (HSS.out _ (below_step HM12.out.below hb)) (fun hHeld => ?_)
      (try simp only [Act.put, List.setIfInBounds_toArray, List.set_cons_zero, List.set_cons_succ])
      clear hK K
      obtain ⟨gm, hgm⟩ : ∃ gm, gm = w12.heap.size := ⟨_, rfl⟩
      rw [← hgm] at hk ⊢
      generalize (w12.alloc (.cells #[.int .i64 (s.img.length : Int), .slice A6 (r.length + 1) c6, .int .i64 (s.img.length : Int), .slice (some ⟨gk, 0, none⟩) 1 1] 52)) = w13 at hb hk hHeld ⊢
      have HM13 := Aside0.mk (HM12.out.step hb)
      have HK13 := Aside0.mk (HK12.out.below hb)
      replace HGK := Aside0.mk (blk_below HGK.out hb)
      have HGM := Aside0.mk hk
      have HGE2 := Aside0.mk (show w9.heap.size ≤ gm by have := HK12.out.1; omega)
      clear hb hk hgm
      refine take_dst (i := 14) (v := ?_) 7 rfl rfl (by kernel_rfl) (by kernel_rfl) (by kernel_rfl) (fun _ _ _ h => h) (Or.inl ⟨by rfl, ?_⟩) (by assumption) ?_
      rotate_left
      · intro w hSw
        obtain q1 := hSw
        go_simp
        try with_reducible rfl
      (try simp only [Act.put, List.setIfInBounds_toArray, List.set_cons_zero, List.set_cons_succ])
      refine take_dst (i := 15) (v := ?_) 8 rfl rfl (by kernel_rfl) (by kernel_rfl) (by kernel_rfl) (fun _ _ _ h => h) (Or.inl ⟨by rfl, ?_⟩) (by assumption) ?_
      rotate_left
      · intro w hSw
        obtain q1 := hSw
        go_simp
        try with_reducible rfl
      (try simp only [Act.put, List.setIfInBounds_toArray, List.set_cons_zero, List.set_cons_succ])
      refine wpAnyH_done (by kernel_rfl) ?_ _
      go_wp2_with fail
      unfold laidS
      rw [if_neg HCF.out]
      refine bodyPost_ret (results_ctt rfl _ _ b6 29 #[.slice A9 (s.img.length + r.length) c9, .slice A1 l.length c1] (0, 0) _ rfl (HM13.out.mem List.mem_cons_self) Try.underlying29 rfl (by kernel_rfl)) rfl ?_
      exact laid_end HL.out hc1 HM13.out HK13.out HL9.out HGK.out HGM.out HGE.out HGE2.out HR6.out HR9.out HZ9.out
end
end Go.Proofs.Ytfakdphkklclgaa.P

end

section
namespace Go.Proofs.Ytfakdphkklclgaa.P
open Go.RowKit Go.Proofs.YtfakdphkklclgaaW.PrintWords Go.Proofs.YtfakdphkklclgaaW.PrintLast Go.Proofs.YtfakdphkklclgaaW.PrintMore
attribute [local go_sem] max2_int min2_int max_two min_two max_three min_three max_four min_four
set_option linter.unusedVariables false
set_option linter.unusedSimpArgs false
section
open Go.ChangeMaps Go.MapKept
set_option linter.unusedVariables false
theorem Rws.grownT {w0 W W1 : World} {l : List (Nat × TypeId × Array Value)} {base : Nat} {ok : Nat → Prop} {v : Value} {xs : List Int} (h : Rws w0 l W) (hR : Kd.R (Kd.int .u8) 5 W base ok v xs) (hg : W.grownBy W1 v.ownBlock) (ht : ∀ p ∈ l, p.2.1 ≠ 5) (hb : Below w0.heap.size w0 W1) : Rws w0 l W1 :=
  ⟨fun p hp => ⟨(hg.block _ (blk_lt (h.lies p hp).1) (fun e => by
    obtain ⟨cs, h7⟩ := Kd.R_typed hR p.1 e.symm
    exact typ_nst (h.lies p hp).1 h7 (ht p hp) rfl)).trans (h.lies p hp).1, (h.lies p hp).2⟩, h.ne, hb⟩
set_option maxHeartbeats 12800000 in
set_option maxRecDepth 100000 in
theorem Put_d {Z : Nat → Prop} {xv : Value} {s : Sto} {w : World} (KF : Nat) (nm : ByteArray → Bool) (hK : StFacts KF nm) (hg : Good nm s) (h : DAt Z xv s w) (x : ByteArray) (b : List Int) (A : Option Addr) (c : Nat) (hr : Kd.C (Kd.int .u8) w A b.length b) (hc : b.length ≤ c) : Calls Try.prog 13 #[xv, .string x, .slice A b.length c] w fun e w' => DPost Z w (putS nm s x b) e w' := by
  have HX := Aside0.mk h
  obtain ⟨A0, c0, B1, d1, rfl, g1, g2, g3, g4⟩ := h
  have HI := Aside0.mk (And.intro g1 (And.intro g2 (And.intro g3 g4)))
  have HK := Aside0.mk hK
  have HG := Aside0.mk hg
  have HN := Aside0.mk (hK.rd.rname x)
  clear g1 g2 g3 g4 hK hg
  have HC := Aside0.mk hr
  clear hr
  by_cases c1 : nm x = false
  · rw [c1] at HN
    unfold putS
    rw [if_pos c1]
    go_enter Try.func13, Try.ntmps13
    go_wp2_with (first | ((with_reducible refine gate_dst (N := 3) rfl ?_); refine rw_box rfl 29 rfl (cs := #[.slice A0 s.img.length c0, .slice B1 s.L.length d1]) rfl (Rws.nil w) ?_; intro b3 w1 hX; have HM := Aside0.mk hX; clear hX) | ((with_reducible refine gate_dst (N := 6) rfl ?_); refine rw_allocS rfl 29 rfl (cs := #[.slice none 0 0, .slice none 0 0]) (by kernel_rfl) HM.out ?_; intro b6 w2 hg6 hM hb6; have HM2 := Aside0.mk hM; clear hg6 hM hb6 HM))
    refine (provisoref01_IsName.calls KF x _ _ HN.out).mono ?_
    rintro e w3 ⟨rfl, k1, rfl⟩
    have HM3 := Aside0.mk (HM2.out.drewN k1)
    have hc0 := blk_cell (HM3.out.mem (List.mem_cons_of_mem _ List.mem_cons_self)) 0
    have hc1 := blk_cell (HM3.out.mem (List.mem_cons_of_mem _ List.mem_cons_self)) 1
    go_wp2_with (first | ((with_reducible refine gate_dst (N := 14) rfl ?_); refine rw_load rfl 29 rfl rfl HM3.out (List.mem_cons_of_mem _ List.mem_cons_self) _ Try.underlying29 rfl (by kernel_rfl) ?_) | (refine rw_storeS rfl 29 rfl rfl (cs' := #[.slice A0 s.img.length c0, .slice B1 s.L.length d1]) rfl [] HM3.out (by kernel_rfl) rfl (by show _ = _; simp [Value.oneCell']) ?_; intro w9 hM hk3; have HM9 := Aside0.mk hM; clear hM hk3))
    refine bodyPost_ret (results_ctt rfl _ _ b6 29 #[.slice A0 s.img.length c0, .slice B1 s.L.length d1] (0, 0) _ rfl (HM9.out.mem List.mem_cons_self) Try.underlying29 rfl (by kernel_rfl)) rfl ?_
    exact ⟨_, _, rfl, (DAt.mono (DAt.step HX.out HM9.out.below) (fun k q => .inl q)), DWr.nil _ _, HM9.out.below⟩
  · rw [Bool.not_eq_false] at c1
    rw [c1] at HN
    unfold putS
    rw [if_neg (by rw [c1]; decide)]
    by_cases c2 : 4096 < b.length
    · have c2b : decide ((4096 : Int) < (b.length : Int)) = true := decide_eq_true (by omega)
      rw [if_pos c2]
      go_enter Try.func13, Try.ntmps13
      go_wp2_with (first | ((with_reducible refine gate_dst (N := 3) rfl ?_); refine rw_box rfl 29 rfl (cs := #[.slice A0 s.img.length c0, .slice B1 s.L.length d1]) rfl (Rws.nil w) ?_; intro b3 w1 hX; have HM := Aside0.mk hX; clear hX) | ((with_reducible refine gate_dst (N := 6) rfl ?_); refine rw_allocS rfl 29 rfl (cs := #[.slice none 0 0, .slice none 0 0]) (by kernel_rfl) HM.out ?_; intro b6 w2 hg6 hM hb6; have HM2 := Aside0.mk hM; clear hg6 hM hb6 HM))
      refine (provisoref01_IsName.calls KF x _ _ HN.out).mono ?_
      rintro e w3 ⟨rfl, k1, rfl⟩
      have HM3 := Aside0.mk (HM2.out.drewN k1)
      have hc0 := blk_cell (HM3.out.mem (List.mem_cons_of_mem _ List.mem_cons_self)) 0
      have hc1 := blk_cell (HM3.out.mem (List.mem_cons_of_mem _ List.mem_cons_self)) 1
      go_wp2_with (first | ((with_reducible refine gate_dst (N := 18) rfl ?_); refine rw_load rfl 29 rfl rfl HM3.out (List.mem_cons_of_mem _ List.mem_cons_self) _ Try.underlying29 rfl (by kernel_rfl) ?_) | (refine rw_storeS rfl 29 rfl rfl (cs' := #[.slice A0 s.img.length c0, .slice B1 s.L.length d1]) rfl [] HM3.out (by kernel_rfl) rfl (by show _ = _; simp [Value.oneCell']) ?_; intro w9 hM hk3; have HM9 := Aside0.mk hM; clear hM hk3))
      refine bodyPost_ret (results_ctt rfl _ _ b6 29 #[.slice A0 s.img.length c0, .slice B1 s.L.length d1] (0, 0) _ rfl (HM9.out.mem List.mem_cons_self) Try.underlying29 rfl (by kernel_rfl)) rfl ?_
      exact ⟨_, _, rfl, (DAt.mono (DAt.step HX.out HM9.out.below) (fun k q => .inl q)), DWr.nil _ _, HM9.out.below⟩
    · have c2b : decide ((4096 : Int) < (b.length : Int)) = false := decide_eq_false (by omega)
      rw [if_neg c2]
      have hlen := HG.out.len
      by_cases c3 : lkL s.L x = none
      · have c3b : (lkL s.L x).isSome = false := by rw [c3]; rfl
        by_cases c4 : 16 ≤ s.L.length
        · have c4b : ((s.L.length : Int) == 16) = true := by rw [beq_iff_eq]; omega
          rw [if_pos ⟨c3, c4⟩]
          go_enter Try.func13, Try.ntmps13
          go_wp2_with (first | ((with_reducible refine gate_dst (N := 3) rfl ?_); refine rw_box rfl 29 rfl (cs := #[.slice A0 s.img.length c0, .slice B1 s.L.length d1]) rfl (Rws.nil w) ?_; intro b3 w1 hX; have HM := Aside0.mk hX; clear hX) | ((with_reducible refine gate_dst (N := 6) rfl ?_); refine rw_allocS rfl 29 rfl (cs := #[.slice none 0 0, .slice none 0 0]) (by kernel_rfl) HM.out ?_; intro b6 w2 hg6 hM hb6; have HM2 := Aside0.mk hM; clear hg6 hM hb6 HM))
          refine (provisoref01_IsName.calls KF x _ _ HN.out).mono ?_
          rintro e w3 ⟨rfl, k1, rfl⟩
          have HM3 := Aside0.mk (HM2.out.drewN k1)
          have hc0 := blk_cell (HM3.out.mem (List.mem_cons_of_mem _ List.mem_cons_self)) 0
          have hc1 := blk_cell (HM3.out.mem (List.mem_cons_of_mem _ List.mem_cons_self)) 1
          go_wp2_with fail
          refine (provisoref21_place.calls KF B1 d1 s.L x _ _ _ (Kd.F_now (Kd.F_below HI.out.2.2.2 HM3.out.below)) HI.out.2.1 (HK.out.place s.L x (by have := HG.out.len; omega) HG.out.srt)).mono ?_
          rintro e w4 ⟨rfl, k2, rfl⟩
          have HM4 := Aside0.mk (HM2.out.drewN (k1 + k2))
          clear hc0 hc1
          have hc0 := blk_cell (HM4.out.mem (List.mem_cons_of_mem _ List.mem_cons_self)) 0
          have hc1 := blk_cell (HM4.out.mem (List.mem_cons_of_mem _ List.mem_cons_self)) 1
          go_wp2_with (first | ((with_reducible refine gate_dst (N := 34) rfl ?_); refine rw_load rfl 29 rfl rfl HM4.out (List.mem_cons_of_mem _ List.mem_cons_self) _ Try.underlying29 rfl (by kernel_rfl) ?_) | (refine rw_storeS rfl 29 rfl rfl (cs' := #[.slice A0 s.img.length c0, .slice B1 s.L.length d1]) rfl [] HM4.out (by kernel_rfl) rfl (by show _ = _; simp [Value.oneCell']) ?_; intro w9 hM hk3; have HM9 := Aside0.mk hM; clear hM hk3))
          refine bodyPost_ret (results_ctt rfl _ _ b6 29 #[.slice A0 s.img.length c0, .slice B1 s.L.length d1] (0, 0) _ rfl (HM9.out.mem List.mem_cons_self) Try.underlying29 rfl (by kernel_rfl)) rfl ?_
          exact ⟨_, _, rfl, (DAt.mono (DAt.step HX.out HM9.out.below) (fun k q => .inl q)), DWr.nil _ _, HM9.out.below⟩
        · have c4b : ((s.L.length : Int) == 16) = false := beq_eq_false_iff_ne.mpr (by omega)
          rw [if_neg (fun q => c4 q.2)]
          go_enter Try.func13, Try.ntmps13
          go_wp2_with (first | ((with_reducible refine gate_dst (N := 3) rfl ?_); refine rw_box rfl 29 rfl (cs := #[.slice A0 s.img.length c0, .slice B1 s.L.length d1]) rfl (Rws.nil w) ?_; intro b3 w1 hX; have HM := Aside0.mk hX; clear hX) | ((with_reducible refine gate_dst (N := 6) rfl ?_); refine rw_allocS rfl 29 rfl (cs := #[.slice none 0 0, .slice none 0 0]) (by kernel_rfl) HM.out ?_; intro b6 w2 hg6 hM hb6; have HM2 := Aside0.mk hM; clear hg6 hM hb6 HM))
          refine (provisoref01_IsName.calls KF x _ _ HN.out).mono ?_
          rintro e w3 ⟨rfl, k1, rfl⟩
          have HM3 := Aside0.mk (HM2.out.drewN k1)
          have hc0 := blk_cell (HM3.out.mem (List.mem_cons_of_mem _ List.mem_cons_self)) 0
          have hc1 := blk_cell (HM3.out.mem (List.mem_cons_of_mem _ List.mem_cons_self)) 1
          go_wp2_with fail
          refine (provisoref21_place.calls KF B1 d1 s.L x _ _ _ (Kd.F_now (Kd.F_below HI.out.2.2.2 HM3.out.below)) HI.out.2.1 (HK.out.place s.L x (by have := HG.out.len; omega) HG.out.srt)).mono ?_
          rintro e w4 ⟨rfl, k2, rfl⟩
          have HM4 := Aside0.mk (HM2.out.drewN (k1 + k2))
          clear hc0 hc1
          have hc0 := blk_cell (HM4.out.mem (List.mem_cons_of_mem _ List.mem_cons_self)) 0
          have hc1 := blk_cell (HM4.out.mem (List.mem_cons_of_mem _ List.mem_cons_self)) 1
          go_wp2_with fail
          have HMD := Aside0.mk (HM4.out.drewN 1)
          (try simp only [Act.put, List.setIfInBounds_toArray, List.set_cons_zero, List.set_cons_succ])
          refine wp_region_held_drew (S := fun w' => Rws w [(b3, 29, #[.slice A0 s.img.length c0, .slice B1 s.L.length d1])] w') (by kernel_rfl) ?_ (fun hHeld => ?_)
          · exact HMD.out.tail
          have HM10 := Aside0.mk (show Rws w _ (World.drew _) from HMD.out)
          clear HMD hc0 hc1
          generalize World.drew _ = w10 at HM10 hHeld ⊢
          refine take_dst (i := 0) (v := .agg #[.slice A0 s.img.length c0, .slice B1 s.L.length d1]) 35 rfl rfl (by kernel_rfl) (by kernel_rfl) (by kernel_rfl) (fun _ _ _ h => h) (rw_yields (by rfl) 29 rfl rfl (fun _ h => h) List.mem_cons_self _ Try.underlying29 rfl (by kernel_rfl)) (by assumption) ?_
          (try simp only [Act.put, List.setIfInBounds_toArray, List.set_cons_zero, List.set_cons_succ])
          refine take_dst (i := 1) (v := ?_) 36 rfl rfl (by kernel_rfl) (by kernel_rfl) (by kernel_rfl) (fun _ _ _ h => h) (Or.inl ⟨by rfl, ?_⟩) (by assumption) ?_
          rotate_left
          · intro w hSw
            go_simp
            try with_reducible rfl
          (try simp only [Act.put, List.setIfInBounds_toArray, List.set_cons_zero, List.set_cons_succ])
          refine take_dst (i := 2) (v := ?_) 37 rfl rfl (by kernel_rfl) (by kernel_rfl) (by kernel_rfl) (fun _ _ _ h => h) (Or.inl ⟨by rfl, ?_⟩) (by assumption) ?_
          rotate_left
          · intro w hSw
            have q0 := blk_cell (hSw.mem List.mem_cons_self) 0
            have q1 := blk_cell (hSw.mem List.mem_cons_self) 1
            go_simp
            try with_reducible rfl
          (try simp only [Act.put, List.setIfInBounds_toArray, List.set_cons_zero, List.set_cons_succ])
          refine take_dst (i := 3) (v := ?_) 38 rfl rfl (by kernel_rfl) (by kernel_rfl) (by kernel_rfl) (fun _ _ _ h => h) (Or.inl ⟨by rfl, ?_⟩) (by assumption) ?_
          rotate_left
          · intro w hSw
            go_simp
            try with_reducible rfl
          (try simp only [Act.put, List.setIfInBounds_toArray, List.set_cons_zero, List.set_cons_succ])
          refine take_dst (i := 5) (v := ?_) 40 rfl rfl (by kernel_rfl) (by kernel_rfl) (by kernel_rfl) (fun _ _ _ h => h) (Or.inl ⟨by rfl, ?_⟩) (by assumption) ?_
          rotate_left
          · intro w hSw
            go_simp
            try with_reducible rfl
          (try simp only [Act.put, List.setIfInBounds_toArray, List.set_cons_zero, List.set_cons_succ])
          refine take_dst (i := 8) (v := ?_) 43 rfl rfl (by kernel_rfl) (by kernel_rfl) (by kernel_rfl) (fun _ _ _ h => h) (Or.inl ⟨by rfl, ?_⟩) (by assumption) ?_
          rotate_left
          · intro w hSw
            go_simp
            try with_reducible rfl
          (try simp only [Act.put, List.setIfInBounds_toArray, List.set_cons_zero, List.set_cons_succ])
          refine take_dst (i := 9) (v := ?_) 44 rfl rfl (by kernel_rfl) (by kernel_rfl) (by kernel_rfl) (fun _ _ _ h => h) (Or.inl ⟨by rfl, ?_⟩) (by assumption) ?_
          rotate_left
          · intro w hSw
            go_simp
            try with_reducible rfl
          (try simp only [Act.put, List.setIfInBounds_toArray, List.set_cons_zero, List.set_cons_succ])
          refine wpAnyH_ready (rs := [4]) (by kernel_rfl) (by simp) ?_
          refine AllReadyH.cons rfl (fun K hK => ?_) (AllReadyH.nil)
          go_simp
          have hb := below_alloc (Below.refl w10.heap.size w10) (.cells #[] 5)
          have ho := nil_own w10 w10.heap.size (Nat.le_refl _)
          have HM11 := Aside0.mk (HM10.out.step hb)
          refine hK.out _ _ (HM10.out.step hb).tail (fun hHeld => ?_)
          (try simp only [Act.put, List.setIfInBounds_toArray, List.set_cons_zero, List.set_cons_succ])
          clear hK K
          obtain ⟨gk, hgk⟩ : ∃ gk, gk = w10.heap.size := ⟨_, rfl⟩
          rw [← hgk] at ho ⊢
          generalize (w10.alloc (.cells #[] 5)) = w11 at hb ho HM11 hHeld ⊢
          have HO := Aside0.mk ho
          have HB11 := Aside0.mk hb
          have HZK := Aside0.mk (show w.heap.size ≤ gk by have := HM10.out.below.size; omega)
          have HL6 := Aside0.mk (show w.heap.size ≤ b6 ∧ b6 < gk from ⟨(HM10.out.lies _ List.mem_cons_self).2, by have := blk_lt (HM10.out.mem List.mem_cons_self); omega⟩)
          have hgl : gk ≤ w11.heap.size := by have := hb.size; omega
          clear hb ho hgk
          refine wpAnyH_ready (rs := [6]) (by kernel_rfl) (by simp) ?_
          refine AllReadyH.cons rfl (fun K hK => ?_) (AllReadyH.nil)
          refine Kd.R_append_rows_step (Kd.int .u8) (w0 := w11) gk rfl (.tmp 39) (.tmp 40) 23 5 (.int .u8 0) 1 rfl Try.underlying23 info5 rfl (by decide) (by omega) (.slice (some ⟨gk, 0, none⟩) 0 0) ([] : List Int) b A b.length c (fun _ => True) (fun _ => False) rfl rfl HO.out (Kd.C_below HC.out HM11.out.below) (fun _ _ h => h) (fun _ h => h.elim) (fun _ _ => trivial) (Below.refl _ _) hgl (by simp; omega) ?_
          intro v12 w12 ho hb hg hat
          have HM12 := Aside0.mk (HM11.out.grownT HO.out hg (by intro p hp; rcases List.mem_cons.1 hp with rfl | hp; exact (show 29 ≠ 5 by decide); rw [List.mem_singleton.1 hp]; exact (show 29 ≠ 5 by decide)) (HM11.out.below.trans (hb.mono HZK.out)))
          obtain ⟨A12, c12, e12⟩ := Kd.R_slice ho
          rw [List.nil_append] at e12 ho
          subst e12
          have HO2 := Aside0.mk ho
          have HG12 := Aside0.mk (show gk ≤ w12.heap.size from Nat.le_trans hgl hb.size)
          have HB12 := Aside0.mk hb
          clear ho hb hg hat
          go_simp
          refine hK.out _ _ HM12.out.tail (fun hHeld => ?_)
          (try simp only [Act.put, List.setIfInBounds_toArray, List.set_cons_zero, List.set_cons_succ])
          clear hK K
          refine wpAnyH_ready (rs := [7]) (by kernel_rfl) (by simp) ?_
          refine AllReadyH.cons rfl (fun K hK => ?_) (AllReadyH.nil)
          go_simp
          refine (provisoref21_with.calls KF (fun k => Z k ∧ k < w.heap.size) B1 d1 s.L x (fun k => gk ≤ k) A12 c12 b (putL x b s.L) w12 (Kd.V_mk HI.out.2.1 (Kd.F_below (Kd.F_bound HI.out.2.2.2) HM12.out.below)) (Kd.V_mono (Kd.R_V (Kd.R_bound HO2.out)) (fun k q => q.2.1)) (HK.out.with_ s.L x b (by have := HG.out.len; omega) HG.out.srt)).mono ?_
          rintro e w13 ⟨v13, rfl, hN, hb⟩
          have hV := Kd.N_V (base' := 0) hN
          obtain ⟨A13, c13, e13⟩ := Kd.V_slice hV
          subst e13
          have HV := Aside0.mk (Kd.V_at hV).2
          have HM13 := Aside0.mk (HM12.out.step hb)
          have HS13 := Aside0.mk hb.size
          clear hN hb hV
          go_simp
          refine hK.out _ _ HM13.out.tail (fun hHeld => ?_)
          (try simp only [Act.put, List.setIfInBounds_toArray, List.set_cons_zero, List.set_cons_succ])
          clear hK K
          refine wpAnyH_ready (rs := [10]) (by kernel_rfl) (by simp) ?_
          refine AllReadyH.cons rfl (fun K hK => ?_) (AllReadyH.nil)
          go_simp
          refine (record_d 1 (.inl rfl) x (HK.out.siz x c1).2 b (by omega) A c w13 (Kd.C_below HC.out HM13.out.below)).mono ?_
          rintro e w14 ⟨v14, rfl, hR, hb⟩
          obtain ⟨A14, c14, e14⟩ := Kd.R_slice hR
          subst e14
          have HR14 := Aside0.mk hR
          have HM14 := Aside0.mk (HM13.out.step hb)
          have HS14 := Aside0.mk hb.size
          replace HV := Aside0.mk (And.intro HV.out.1 (Kd.F_below HV.out.2 hb))
          clear hR hb
          go_simp
          refine hK.out _ _ HM14.out.tail (fun hHeld => ?_)
          (try simp only [Act.put, List.setIfInBounds_toArray, List.set_cons_zero, List.set_cons_succ])
          clear hK K
          refine wpAnyH_ready (rs := [11]) (by kernel_rfl) (by simp) ?_
          refine AllReadyH.cons rfl (fun K hK => ?_) (AllReadyH.nil)
          go_simp
          have hrl : (recB 1 x b).length = x.size + 4 + b.length := by unfold recB; simp [bytes_len]; omega
          have hxs := HK.out.siz x c1
          refine (laid_d (Z := fun k => (Z k ∧ k < w.heap.size) ∨ gk ≤ k) (DAt.mono (DAt.step HX.out.bound HM14.out.below) (fun k q => .inl q)) HG.out.img (putL x b s.L) A13 c13 (Kd.F_mono HV.out.2 (fun k q => ?hz)) HV.out.1 (recB 1 x b) A14 c14 (Kd.R_reads' HR14.out).2.2 (Kd.R_reads' HR14.out).2.1 (by omega) (by omega)).mono ?_
          case hz =>
            rcases q with (q | q) | q
            · exact .inl q
            · exact .inr q
            · exact .inr (Nat.le_trans HG12.out q)
          rintro e w15 ⟨y, m, rfl, hy, hm, hb⟩
          have HY := Aside0.mk hy
          have HW := Aside0.mk hm
          have HB15 := Aside0.mk hb
          have HM15 := Aside0.mk (HM14.out.step hb)
          have HZ14 := Aside0.mk (show gk ≤ w14.heap.size from Nat.le_trans HG12.out (Nat.le_trans HS13.out HS14.out))
          obtain ⟨A15, c15, A16, c16, e15, _⟩ := hy
          subst e15
          clear hm hb hrl hxs
          go_simp
          refine hK.out _ _ HM15.out.tail (fun hHeld => ?_)
          (try simp only [Act.put, List.setIfInBounds_toArray, List.set_cons_zero, List.set_cons_succ])
          clear hK K
          refine take_dst (i := 12) (v := ?_) 47 rfl rfl (by kernel_rfl) (by kernel_rfl) (by kernel_rfl) (fun _ _ _ h => h) (Or.inl ⟨by rfl, ?_⟩) (by assumption) ?_
          rotate_left
          · intro w hSw
            go_simp
            try with_reducible rfl
          (try simp only [Act.put, List.setIfInBounds_toArray, List.set_cons_zero, List.set_cons_succ])
          refine take_dst (i := 13) (v := ?_) 48 rfl rfl (by kernel_rfl) (by kernel_rfl) (by kernel_rfl) (fun _ _ _ h => h) (Or.inl ⟨by rfl, ?_⟩) (by assumption) ?_
          rotate_left
          · intro w hSw
            go_simp
            try with_reducible rfl
          (try simp only [Act.put, List.setIfInBounds_toArray, List.set_cons_zero, List.set_cons_succ])
          refine take_dst (i := 14) (v := ?_) 49 rfl rfl (by kernel_rfl) (by kernel_rfl) (by kernel_rfl) (fun _ _ _ h => h) (Or.inl ⟨by rfl, ?_⟩) (by assumption) ?_
          rotate_left
          · intro w hSw
            go_simp
            try with_reducible rfl
          (try simp only [Act.put, List.setIfInBounds_toArray, List.set_cons_zero, List.set_cons_succ])
          refine wpAnyH_ready (rs := [15]) (by kernel_rfl) (by simp) ?_
          refine AllReadyH.cons rfl (fun K hK => ?_) (AllReadyH.nil)
          refine rw_store_wp 29 rfl rfl (cs' := #[.slice A15 (laidS s (putL x b s.L) (recB 1 x b)).1.img.length c15, .slice A16 (laidS s (putL x b s.L) (recB 1 x b)).1.L.length c16]) rfl [] HM15.out (by kernel_rfl) rfl (by show _ = _; simp [Value.oneCell']) ?_
          intro w16 hM hkp
          refine hK.out _ _ hM.tail (fun hHeld => ?_)
          (try simp only [Act.put, List.setIfInBounds_toArray, List.set_cons_zero, List.set_cons_succ])
          clear hK K
          have HM16 := Aside0.mk hM
          have HKP := Aside0.mk hkp
          clear hM hkp
          refine take_dst (i := 16) (v := ?_) 7 rfl rfl (by kernel_rfl) (by kernel_rfl) (by kernel_rfl) (fun _ _ _ h => h) (Or.inl ⟨by rfl, ?_⟩) (by assumption) ?_
          rotate_left
          · intro w hSw
            go_simp
            try with_reducible rfl
          (try simp only [Act.put, List.setIfInBounds_toArray, List.set_cons_zero, List.set_cons_succ])
          refine take_dst (i := 17) (v := ?_) 8 rfl rfl (by kernel_rfl) (by kernel_rfl) (by kernel_rfl) (fun _ _ _ h => h) (Or.inl ⟨by rfl, ?_⟩) (by assumption) ?_
          rotate_left
          · intro w hSw
            go_simp
            try with_reducible rfl
          (try simp only [Act.put, List.setIfInBounds_toArray, List.set_cons_zero, List.set_cons_succ])
          refine wpAnyH_done (by kernel_rfl) ?_ _
          go_wp2_with fail
          refine bodyPost_ret (results_ctt rfl _ _ b6 29 #[.slice A15 (laidS s (putL x b s.L) (recB 1 x b)).1.img.length c15, .slice A16 (laidS s (putL x b s.L) (recB 1 x b)).1.L.length c16] (0, 0) _ rfl (HM16.out.mem List.mem_cons_self) Try.underlying29 rfl (by kernel_rfl)) rfl ?_
          have hs15 : w14.heap.size ≤ w15.heap.size := HB15.out.size
          have hs16 : w15.heap.size ≤ w16.heap.size := HKP.out.1
          have hl6 := HL6.out
          have hzk := HZK.out
          have hz14 := HZ14.out
          refine ⟨_, _, rfl, (HY.out.bound.kept HKP.out (fun k q e => ?_)).mono (fun k q => ?_), (HW.out.kept HKP.out (fun k q e => ?_)).mono (fun k q => ⟨by omega, by omega⟩), HM16.out.below⟩
          · subst e
            rcases q.1 with (q1 | q1) | q1
            · omega
            · omega
            · omega
          · have q2 : k < w15.heap.size := q.2
            rcases q.1 with (q1 | q1) | q1
            · exact .inl q1.1
            · exact .inr ⟨by omega, by omega⟩
            · exact .inr ⟨by omega, by omega⟩
          · omega
      · have c3b : (lkL s.L x).isSome = true := by
          cases hq : lkL s.L x with
          | none => exact absurd hq c3
          | some y => rfl
        rw [if_neg (fun q => c3 q.1)]
        go_enter Try.func13, Try.ntmps13
        go_wp2_with (first | ((with_reducible refine gate_dst (N := 3) rfl ?_); refine rw_box rfl 29 rfl (cs := #[.slice A0 s.img.length c0, .slice B1 s.L.length d1]) rfl (Rws.nil w) ?_; intro b3 w1 hX; have HM := Aside0.mk hX; clear hX) | ((with_reducible refine gate_dst (N := 6) rfl ?_); refine rw_allocS rfl 29 rfl (cs := #[.slice none 0 0, .slice none 0 0]) (by kernel_rfl) HM.out ?_; intro b6 w2 hg6 hM hb6; have HM2 := Aside0.mk hM; clear hg6 hM hb6 HM))
        refine (provisoref01_IsName.calls KF x _ _ HN.out).mono ?_
        rintro e w3 ⟨rfl, k1, rfl⟩
        have HM3 := Aside0.mk (HM2.out.drewN k1)
        have hc0 := blk_cell (HM3.out.mem (List.mem_cons_of_mem _ List.mem_cons_self)) 0
        have hc1 := blk_cell (HM3.out.mem (List.mem_cons_of_mem _ List.mem_cons_self)) 1
        go_wp2_with fail
        refine (provisoref21_place.calls KF B1 d1 s.L x _ _ _ (Kd.F_now (Kd.F_below HI.out.2.2.2 HM3.out.below)) HI.out.2.1 (HK.out.place s.L x (by have := HG.out.len; omega) HG.out.srt)).mono ?_
        rintro e w4 ⟨rfl, k2, rfl⟩
        have HM4 := Aside0.mk (HM2.out.drewN (k1 + k2))
        clear hc0 hc1
        have hc0 := blk_cell (HM4.out.mem (List.mem_cons_of_mem _ List.mem_cons_self)) 0
        have hc1 := blk_cell (HM4.out.mem (List.mem_cons_of_mem _ List.mem_cons_self)) 1
        go_wp2_with fail
        have HMD := Aside0.mk (HM4.out.drewN 1)
        (try simp only [Act.put, List.setIfInBounds_toArray, List.set_cons_zero, List.set_cons_succ])
        refine wp_region_held_drew (S := fun w' => Rws w [(b3, 29, #[.slice A0 s.img.length c0, .slice B1 s.L.length d1])] w') (by kernel_rfl) ?_ (fun hHeld => ?_)
        · exact HMD.out.tail
        have HM10 := Aside0.mk (show Rws w _ (World.drew _) from HMD.out)
        clear HMD hc0 hc1
        generalize World.drew _ = w10 at HM10 hHeld ⊢
        refine take_dst (i := 0) (v := .agg #[.slice A0 s.img.length c0, .slice B1 s.L.length d1]) 35 rfl rfl (by kernel_rfl) (by kernel_rfl) (by kernel_rfl) (fun _ _ _ h => h) (rw_yields (by rfl) 29 rfl rfl (fun _ h => h) List.mem_cons_self _ Try.underlying29 rfl (by kernel_rfl)) (by assumption) ?_
        (try simp only [Act.put, List.setIfInBounds_toArray, List.set_cons_zero, List.set_cons_succ])
        refine take_dst (i := 1) (v := ?_) 36 rfl rfl (by kernel_rfl) (by kernel_rfl) (by kernel_rfl) (fun _ _ _ h => h) (Or.inl ⟨by rfl, ?_⟩) (by assumption) ?_
        rotate_left
        · intro w hSw
          go_simp
          try with_reducible rfl
        (try simp only [Act.put, List.setIfInBounds_toArray, List.set_cons_zero, List.set_cons_succ])
        refine take_dst (i := 2) (v := ?_) 37 rfl rfl (by kernel_rfl) (by kernel_rfl) (by kernel_rfl) (fun _ _ _ h => h) (Or.inl ⟨by rfl, ?_⟩) (by assumption) ?_
        rotate_left
        · intro w hSw
          have q0 := blk_cell (hSw.mem List.mem_cons_self) 0
          have q1 := blk_cell (hSw.mem List.mem_cons_self) 1
          go_simp
          try with_reducible rfl
        (try simp only [Act.put, List.setIfInBounds_toArray, List.set_cons_zero, List.set_cons_succ])
        refine take_dst (i := 3) (v := ?_) 38 rfl rfl (by kernel_rfl) (by kernel_rfl) (by kernel_rfl) (fun _ _ _ h => h) (Or.inl ⟨by rfl, ?_⟩) (by assumption) ?_
        rotate_left
        · intro w hSw
          go_simp
          try with_reducible rfl
        (try simp only [Act.put, List.setIfInBounds_toArray, List.set_cons_zero, List.set_cons_succ])
        refine take_dst (i := 5) (v := ?_) 40 rfl rfl (by kernel_rfl) (by kernel_rfl) (by kernel_rfl) (fun _ _ _ h => h) (Or.inl ⟨by rfl, ?_⟩) (by assumption) ?_
        rotate_left
        · intro w hSw
          go_simp
          try with_reducible rfl
        (try simp only [Act.put, List.setIfInBounds_toArray, List.set_cons_zero, List.set_cons_succ])
        refine take_dst (i := 8) (v := ?_) 43 rfl rfl (by kernel_rfl) (by kernel_rfl) (by kernel_rfl) (fun _ _ _ h => h) (Or.inl ⟨by rfl, ?_⟩) (by assumption) ?_
        rotate_left
        · intro w hSw
          go_simp
          try with_reducible rfl
        (try simp only [Act.put, List.setIfInBounds_toArray, List.set_cons_zero, List.set_cons_succ])
        refine take_dst (i := 9) (v := ?_) 44 rfl rfl (by kernel_rfl) (by kernel_rfl) (by kernel_rfl) (fun _ _ _ h => h) (Or.inl ⟨by rfl, ?_⟩) (by assumption) ?_
        rotate_left
        · intro w hSw
          go_simp
          try with_reducible rfl
        (try simp only [Act.put, List.setIfInBounds_toArray, List.set_cons_zero, List.set_cons_succ])
        refine wpAnyH_ready (rs := [4]) (by kernel_rfl) (by simp) ?_
        refine AllReadyH.cons rfl (fun K hK => ?_) (AllReadyH.nil)
        go_simp
        have hb := below_alloc (Below.refl w10.heap.size w10) (.cells #[] 5)
        have ho := nil_own w10 w10.heap.size (Nat.le_refl _)
        have HM11 := Aside0.mk (HM10.out.step hb)
        refine hK.out _ _ (HM10.out.step hb).tail (fun hHeld => ?_)
        (try simp only [Act.put, List.setIfInBounds_toArray, List.set_cons_zero, List.set_cons_succ])
        clear hK K
        obtain ⟨gk, hgk⟩ : ∃ gk, gk = w10.heap.size := ⟨_, rfl⟩
        rw [← hgk] at ho ⊢
        generalize (w10.alloc (.cells #[] 5)) = w11 at hb ho HM11 hHeld ⊢
        have HO := Aside0.mk ho
        have HB11 := Aside0.mk hb
        have HZK := Aside0.mk (show w.heap.size ≤ gk by have := HM10.out.below.size; omega)
        have HL6 := Aside0.mk (show w.heap.size ≤ b6 ∧ b6 < gk from ⟨(HM10.out.lies _ List.mem_cons_self).2, by have := blk_lt (HM10.out.mem List.mem_cons_self); omega⟩)
        have hgl : gk ≤ w11.heap.size := by have := hb.size; omega
        clear hb ho hgk
        refine wpAnyH_ready (rs := [6]) (by kernel_rfl) (by simp) ?_
        refine AllReadyH.cons rfl (fun K hK => ?_) (AllReadyH.nil)
        refine Kd.R_append_rows_step (Kd.int .u8) (w0 := w11) gk rfl (.tmp 39) (.tmp 40) 23 5 (.int .u8 0) 1 rfl Try.underlying23 info5 rfl (by decide) (by omega) (.slice (some ⟨gk, 0, none⟩) 0 0) ([] : List Int) b A b.length c (fun _ => True) (fun _ => False) rfl rfl HO.out (Kd.C_below HC.out HM11.out.below) (fun _ _ h => h) (fun _ h => h.elim) (fun _ _ => trivial) (Below.refl _ _) hgl (by simp; omega) ?_
        intro v12 w12 ho hb hg hat
        have HM12 := Aside0.mk (HM11.out.grownT HO.out hg (by intro p hp; rcases List.mem_cons.1 hp with rfl | hp; exact (show 29 ≠ 5 by decide); rw [List.mem_singleton.1 hp]; exact (show 29 ≠ 5 by decide)) (HM11.out.below.trans (hb.mono HZK.out)))
        obtain ⟨A12, c12, e12⟩ := Kd.R_slice ho
        rw [List.nil_append] at e12 ho
        subst e12
        have HO2 := Aside0.mk ho
        have HG12 := Aside0.mk (show gk ≤ w12.heap.size from Nat.le_trans hgl hb.size)
        have HB12 := Aside0.mk hb
        clear ho hb hg hat
        go_simp
        refine hK.out _ _ HM12.out.tail (fun hHeld => ?_)
        (try simp only [Act.put, List.setIfInBounds_toArray, List.set_cons_zero, List.set_cons_succ])
        clear hK K
        refine wpAnyH_ready (rs := [7]) (by kernel_rfl) (by simp) ?_
        refine AllReadyH.cons rfl (fun K hK => ?_) (AllReadyH.nil)
        go_simp
        refine (provisoref21_with.calls KF (fun k => Z k ∧ k < w.heap.size) B1 d1 s.L x (fun k => gk ≤ k) A12 c12 b (putL x b s.L) w12 (Kd.V_mk HI.out.2.1 (Kd.F_below (Kd.F_bound HI.out.2.2.2) HM12.out.below)) (Kd.V_mono (Kd.R_V (Kd.R_bound HO2.out)) (fun k q => q.2.1)) (HK.out.with_ s.L x b (by have := HG.out.len; omega) HG.out.srt)).mono ?_
        rintro e w13 ⟨v13, rfl, hN, hb⟩
        have hV := Kd.N_V (base' := 0) hN
        obtain ⟨A13, c13, e13⟩ := Kd.V_slice hV
        subst e13
        have HV := Aside0.mk (Kd.V_at hV).2
        have HM13 := Aside0.mk (HM12.out.step hb)
        have HS13 := Aside0.mk hb.size
        clear hN hb hV
        go_simp
        refine hK.out _ _ HM13.out.tail (fun hHeld => ?_)
        (try simp only [Act.put, List.setIfInBounds_toArray, List.set_cons_zero, List.set_cons_succ])
        clear hK K
        refine wpAnyH_ready (rs := [10]) (by kernel_rfl) (by simp) ?_
        refine AllReadyH.cons rfl (fun K hK => ?_) (AllReadyH.nil)
        go_simp
        refine (record_d 1 (.inl rfl) x (HK.out.siz x c1).2 b (by omega) A c w13 (Kd.C_below HC.out HM13.out.below)).mono ?_
        rintro e w14 ⟨v14, rfl, hR, hb⟩
        obtain ⟨A14, c14, e14⟩ := Kd.R_slice hR
        subst e14
        have HR14 := Aside0.mk hR
        have HM14 := Aside0.mk (HM13.out.step hb)
        have HS14 := Aside0.mk hb.size
        replace HV := Aside0.mk (And.intro HV.out.1 (Kd.F_below HV.out.2 hb))
        clear hR hb
        go_simp
        refine hK.out _ _ HM14.out.tail (fun hHeld => ?_)
        (try simp only [Act.put, List.setIfInBounds_toArray, List.set_cons_zero, List.set_cons_succ])
        clear hK K
        refine wpAnyH_ready (rs := [11]) (by kernel_rfl) (by simp) ?_
        refine AllReadyH.cons rfl (fun K hK => ?_) (AllReadyH.nil)
        go_simp
        have hrl : (recB 1 x b).length = x.size + 4 + b.length := by unfold recB; simp [bytes_len]; omega
        have hxs := HK.out.siz x c1
        refine (laid_d (Z := fun k => (Z k ∧ k < w.heap.size) ∨ gk ≤ k) (DAt.mono (DAt.step HX.out.bound HM14.out.below) (fun k q => .inl q)) HG.out.img (putL x b s.L) A13 c13 (Kd.F_mono HV.out.2 (fun k q => ?hz)) HV.out.1 (recB 1 x b) A14 c14 (Kd.R_reads' HR14.out).2.2 (Kd.R_reads' HR14.out).2.1 (by omega) (by omega)).mono ?_
        case hz =>
          rcases q with (q | q) | q
          · exact .inl q
          · exact .inr q
          · exact .inr (Nat.le_trans HG12.out q)
        rintro e w15 ⟨y, m, rfl, hy, hm, hb⟩
        have HY := Aside0.mk hy
        have HW := Aside0.mk hm
        have HB15 := Aside0.mk hb
        have HM15 := Aside0.mk (HM14.out.step hb)
        have HZ14 := Aside0.mk (show gk ≤ w14.heap.size from Nat.le_trans HG12.out (Nat.le_trans HS13.out HS14.out))
        obtain ⟨A15, c15, A16, c16, e15, _⟩ := hy
        subst e15
        clear hm hb hrl hxs
        go_simp
        refine hK.out _ _ HM15.out.tail (fun hHeld => ?_)
        (try simp only [Act.put, List.setIfInBounds_toArray, List.set_cons_zero, List.set_cons_succ])
        clear hK K
        refine take_dst (i := 12) (v := ?_) 47 rfl rfl (by kernel_rfl) (by kernel_rfl) (by kernel_rfl) (fun _ _ _ h => h) (Or.inl ⟨by rfl, ?_⟩) (by assumption) ?_
        rotate_left
        · intro w hSw
          go_simp
          try with_reducible rfl
        (try simp only [Act.put, List.setIfInBounds_toArray, List.set_cons_zero, List.set_cons_succ])
        refine take_dst (i := 13) (v := ?_) 48 rfl rfl (by kernel_rfl) (by kernel_rfl) (by kernel_rfl) (fun _ _ _ h => h) (Or.inl ⟨by rfl, ?_⟩) (by assumption) ?_
        rotate_left
        · intro w hSw
          go_simp
          try with_reducible rfl
        (try simp only [Act.put, List.setIfInBounds_toArray, List.set_cons_zero, List.set_cons_succ])
        refine take_dst (i := 14) (v := ?_) 49 rfl rfl (by kernel_rfl) (by kernel_rfl) (by kernel_rfl) (fun _ _ _ h => h) (Or.inl ⟨by rfl, ?_⟩) (by assumption) ?_
        rotate_left
        · intro w hSw
          go_simp
          try with_reducible rfl
        (try simp only [Act.put, List.setIfInBounds_toArray, List.set_cons_zero, List.set_cons_succ])
        refine wpAnyH_ready (rs := [15]) (by kernel_rfl) (by simp) ?_
        refine AllReadyH.cons rfl (fun K hK => ?_) (AllReadyH.nil)
        refine rw_store_wp 29 rfl rfl (cs' := #[.slice A15 (laidS s (putL x b s.L) (recB 1 x b)).1.img.length c15, .slice A16 (laidS s (putL x b s.L) (recB 1 x b)).1.L.length c16]) rfl [] HM15.out (by kernel_rfl) rfl (by show _ = _; simp [Value.oneCell']) ?_
        intro w16 hM hkp
        refine hK.out _ _ hM.tail (fun hHeld => ?_)
        (try simp only [Act.put, List.setIfInBounds_toArray, List.set_cons_zero, List.set_cons_succ])
        clear hK K
        have HM16 := Aside0.mk hM
        have HKP := Aside0.mk hkp
        clear hM hkp
        refine take_dst (i := 16) (v := ?_) 7 rfl rfl (by kernel_rfl) (by kernel_rfl) (by kernel_rfl) (fun _ _ _ h => h) (Or.inl ⟨by rfl, ?_⟩) (by assumption) ?_
        rotate_left
        · intro w hSw
          go_simp
          try with_reducible rfl
        (try simp only [Act.put, List.setIfInBounds_toArray, List.set_cons_zero, List.set_cons_succ])
        refine take_dst (i := 17) (v := ?_) 8 rfl rfl (by kernel_rfl) (by kernel_rfl) (by kernel_rfl) (fun _ _ _ h => h) (Or.inl ⟨by rfl, ?_⟩) (by assumption) ?_
        rotate_left
        · intro w hSw
          go_simp
          try with_reducible rfl
        (try simp only [Act.put, List.setIfInBounds_toArray, List.set_cons_zero, List.set_cons_succ])
        refine wpAnyH_done (by kernel_rfl) ?_ _
        go_wp2_with fail
        refine bodyPost_ret (results_ctt rfl _ _ b6 29 #[.slice A15 (laidS s (putL x b s.L) (recB 1 x b)).1.img.length c15, .slice A16 (laidS s (putL x b s.L) (recB 1 x b)).1.L.length c16] (0, 0) _ rfl (HM16.out.mem List.mem_cons_self) Try.underlying29 rfl (by kernel_rfl)) rfl ?_
        have hs15 : w14.heap.size ≤ w15.heap.size := HB15.out.size
        have hs16 : w15.heap.size ≤ w16.heap.size := HKP.out.1
        have hl6 := HL6.out
        have hzk := HZK.out
        have hz14 := HZ14.out
        refine ⟨_, _, rfl, (HY.out.bound.kept HKP.out (fun k q e => ?_)).mono (fun k q => ?_), (HW.out.kept HKP.out (fun k q e => ?_)).mono (fun k q => ⟨by omega, by omega⟩), HM16.out.below⟩
        · subst e
          rcases q.1 with (q1 | q1) | q1
          · omega
          · omega
          · omega
        · have q2 : k < w15.heap.size := q.2
          rcases q.1 with (q1 | q1) | q1
          · exact .inl q1.1
          · exact .inr ⟨by omega, by omega⟩
          · exact .inr ⟨by omega, by omega⟩
        · omega
end
end Go.Proofs.Ytfakdphkklclgaa.P

end

section
namespace Go.Proofs.Ytfakdphkklclgaa.P
open Go.RowKit Go.Proofs.YtfakdphkklclgaaW.PrintWords Go.Proofs.YtfakdphkklclgaaW.PrintLast Go.Proofs.YtfakdphkklclgaaW.PrintMore
attribute [local go_sem] max2_int min2_int max_two min_two max_three min_three max_four min_four
set_option linter.unusedVariables false
set_option linter.unusedSimpArgs false
section
open Go.ChangeMaps Go.MapKept
set_option linter.unusedVariables false
set_option maxHeartbeats 12800000 in
set_option maxRecDepth 100000 in
theorem Drop_d {Z : Nat → Prop} {xv : Value} {s : Sto} {w : World} (KF : Nat) (nm : ByteArray → Bool) (hK : StFacts KF nm) (hg : Good nm s) (h : DAt Z xv s w) (x : ByteArray) : Calls Try.prog 46 #[xv, .string x] w fun e w' => DPost Z w (dropS nm s x) e w' := by
  have HX := Aside0.mk h
  obtain ⟨A0, c0, B1, d1, rfl, g1, g2, g3, g4⟩ := h
  have HI := Aside0.mk (And.intro g1 (And.intro g2 (And.intro g3 g4)))
  have HK := Aside0.mk hK
  have HG := Aside0.mk hg
  have HN := Aside0.mk (hK.rd.rname x)
  clear g1 g2 g3 g4 hK hg
  by_cases c1 : nm x = false
  · rw [c1] at HN
    unfold dropS
    rw [if_pos c1]
    go_enter Try.func46, Try.ntmps46
    go_wp2_with (first | ((with_reducible refine gate_dst (N := 2) rfl ?_); refine rw_box rfl 29 rfl (cs := #[.slice A0 s.img.length c0, .slice B1 s.L.length d1]) rfl (Rws.nil w) ?_; intro b3 w1 hX; have HM := Aside0.mk hX; clear hX) | ((with_reducible refine gate_dst (N := 4) rfl ?_); refine rw_allocS rfl 29 rfl (cs := #[.slice none 0 0, .slice none 0 0]) (by kernel_rfl) HM.out ?_; intro b6 w2 hg6 hM hb6; have HM2 := Aside0.mk hM; clear hg6 hM hb6 HM))
    refine (provisoref01_IsName.calls KF x _ _ HN.out).mono ?_
    rintro e w3 ⟨rfl, k1, rfl⟩
    have HM3 := Aside0.mk (HM2.out.drewN k1)
    have hc0 := blk_cell (HM3.out.mem (List.mem_cons_of_mem _ List.mem_cons_self)) 0
    have hc1 := blk_cell (HM3.out.mem (List.mem_cons_of_mem _ List.mem_cons_self)) 1
    go_wp2_with (first | ((with_reducible refine gate_dst (N := 12) rfl ?_); refine rw_load rfl 29 rfl rfl HM3.out (List.mem_cons_of_mem _ List.mem_cons_self) _ Try.underlying29 rfl (by kernel_rfl) ?_) | (refine rw_storeS rfl 29 rfl rfl (cs' := #[.slice A0 s.img.length c0, .slice B1 s.L.length d1]) rfl [] HM3.out (by kernel_rfl) rfl (by show _ = _; simp [Value.oneCell']) ?_; intro w9 hM hk3; have HM9 := Aside0.mk hM; clear hM hk3))
    refine bodyPost_ret (results_ctt rfl _ _ b6 29 #[.slice A0 s.img.length c0, .slice B1 s.L.length d1] (0, 0) _ rfl (HM9.out.mem List.mem_cons_self) Try.underlying29 rfl (by kernel_rfl)) rfl ?_
    exact ⟨_, _, rfl, (DAt.mono (DAt.step HX.out HM9.out.below) (fun k q => .inl q)), DWr.nil _ _, HM9.out.below⟩
  · rw [Bool.not_eq_false] at c1
    rw [c1] at HN
    unfold dropS
    rw [if_neg (by rw [c1]; decide)]
    by_cases c3 : lkL s.L x = none
    · have c3b : (lkL s.L x).isSome = false := by rw [c3]; rfl
      rw [if_pos c3]
      go_enter Try.func46, Try.ntmps46
      go_wp2_with (first | ((with_reducible refine gate_dst (N := 2) rfl ?_); refine rw_box rfl 29 rfl (cs := #[.slice A0 s.img.length c0, .slice B1 s.L.length d1]) rfl (Rws.nil w) ?_; intro b3 w1 hX; have HM := Aside0.mk hX; clear hX) | ((with_reducible refine gate_dst (N := 4) rfl ?_); refine rw_allocS rfl 29 rfl (cs := #[.slice none 0 0, .slice none 0 0]) (by kernel_rfl) HM.out ?_; intro b6 w2 hg6 hM hb6; have HM2 := Aside0.mk hM; clear hg6 hM hb6 HM))
      refine (provisoref01_IsName.calls KF x _ _ HN.out).mono ?_
      rintro e w3 ⟨rfl, k1, rfl⟩
      have HM3 := Aside0.mk (HM2.out.drewN k1)
      have hc0 := blk_cell (HM3.out.mem (List.mem_cons_of_mem _ List.mem_cons_self)) 0
      have hc1 := blk_cell (HM3.out.mem (List.mem_cons_of_mem _ List.mem_cons_self)) 1
      go_wp2_with fail
      refine (provisoref21_place.calls KF B1 d1 s.L x _ _ _ (Kd.F_now (Kd.F_below HI.out.2.2.2 HM3.out.below)) HI.out.2.1 (HK.out.place s.L x (by have := HG.out.len; omega) HG.out.srt)).mono ?_
      rintro e w4 ⟨rfl, k2, rfl⟩
      have HM4 := Aside0.mk (HM2.out.drewN (k1 + k2))
      clear hc0 hc1
      have hc0 := blk_cell (HM4.out.mem (List.mem_cons_of_mem _ List.mem_cons_self)) 0
      have hc1 := blk_cell (HM4.out.mem (List.mem_cons_of_mem _ List.mem_cons_self)) 1
      go_wp2_with (first | ((with_reducible refine gate_dst (N := 22) rfl ?_); refine rw_load rfl 29 rfl rfl HM4.out (List.mem_cons_of_mem _ List.mem_cons_self) _ Try.underlying29 rfl (by kernel_rfl) ?_) | (refine rw_storeS rfl 29 rfl rfl (cs' := #[.slice A0 s.img.length c0, .slice B1 s.L.length d1]) rfl [] HM4.out (by kernel_rfl) rfl (by show _ = _; simp [Value.oneCell']) ?_; intro w9 hM hk3; have HM9 := Aside0.mk hM; clear hM hk3))
      refine bodyPost_ret (results_ctt rfl _ _ b6 29 #[.slice A0 s.img.length c0, .slice B1 s.L.length d1] (0, 0) _ rfl (HM9.out.mem List.mem_cons_self) Try.underlying29 rfl (by kernel_rfl)) rfl ?_
      exact ⟨_, _, rfl, (DAt.mono (DAt.step HX.out HM9.out.below) (fun k q => .inl q)), DWr.nil _ _, HM9.out.below⟩
    · have c3b : (lkL s.L x).isSome = true := by
        cases hq : lkL s.L x with
        | none => exact absurd hq c3
        | some y => rfl
      rw [if_neg c3]
      go_enter Try.func46, Try.ntmps46
      go_wp2_with (first | ((with_reducible refine gate_dst (N := 2) rfl ?_); refine rw_box rfl 29 rfl (cs := #[.slice A0 s.img.length c0, .slice B1 s.L.length d1]) rfl (Rws.nil w) ?_; intro b3 w1 hX; have HM := Aside0.mk hX; clear hX) | ((with_reducible refine gate_dst (N := 4) rfl ?_); refine rw_allocS rfl 29 rfl (cs := #[.slice none 0 0, .slice none 0 0]) (by kernel_rfl) HM.out ?_; intro b6 w2 hg6 hM hb6; have HM2 := Aside0.mk hM; clear hg6 hM hb6 HM))
      refine (provisoref01_IsName.calls KF x _ _ HN.out).mono ?_
      rintro e w3 ⟨rfl, k1, rfl⟩
      have HM3 := Aside0.mk (HM2.out.drewN k1)
      have hc0 := blk_cell (HM3.out.mem (List.mem_cons_of_mem _ List.mem_cons_self)) 0
      have hc1 := blk_cell (HM3.out.mem (List.mem_cons_of_mem _ List.mem_cons_self)) 1
      go_wp2_with fail
      refine (provisoref21_place.calls KF B1 d1 s.L x _ _ _ (Kd.F_now (Kd.F_below HI.out.2.2.2 HM3.out.below)) HI.out.2.1 (HK.out.place s.L x (by have := HG.out.len; omega) HG.out.srt)).mono ?_
      rintro e w4 ⟨rfl, k2, rfl⟩
      have HM4 := Aside0.mk (HM2.out.drewN (k1 + k2))
      clear hc0 hc1
      have hc0 := blk_cell (HM4.out.mem (List.mem_cons_of_mem _ List.mem_cons_self)) 0
      have hc1 := blk_cell (HM4.out.mem (List.mem_cons_of_mem _ List.mem_cons_self)) 1
      go_wp2_with fail
      have HMD := Aside0.mk (HM4.out.drewN 1)
      (try simp only [Act.put, List.setIfInBounds_toArray, List.set_cons_zero, List.set_cons_succ])
      refine wp_region_held_drew (S := fun w' => Rws w [(b3, 29, #[.slice A0 s.img.length c0, .slice B1 s.L.length d1])] w') (by kernel_rfl) ?_ (fun hHeld => ?_)
      · exact HMD.out.tail
      have HM10 := Aside0.mk (show Rws w _ (World.drew _) from HMD.out)
      clear HMD hc0 hc1
      generalize World.drew _ = w10 at HM10 hHeld ⊢
      have HL6 := Aside0.mk (show w.heap.size ≤ b6 ∧ b6 < w10.heap.size from ⟨(HM10.out.lies _ List.mem_cons_self).2, by have := blk_lt (HM10.out.mem List.mem_cons_self); omega⟩)
      refine take_dst (i := 0) (v := .agg #[.slice A0 s.img.length c0, .slice B1 s.L.length d1]) 23 rfl rfl (by kernel_rfl) (by kernel_rfl) (by kernel_rfl) (fun _ _ _ h => h) (rw_yields (by rfl) 29 rfl rfl (fun _ h => h) List.mem_cons_self _ Try.underlying29 rfl (by kernel_rfl)) (by assumption) ?_
      (try simp only [Act.put, List.setIfInBounds_toArray, List.set_cons_zero, List.set_cons_succ])
      refine take_dst (i := 1) (v := ?_) 24 rfl rfl (by kernel_rfl) (by kernel_rfl) (by kernel_rfl) (fun _ _ _ h => h) (Or.inl ⟨by rfl, ?_⟩) (by assumption) ?_
      rotate_left
      · intro w hSw
        go_simp
        try with_reducible rfl
      (try simp only [Act.put, List.setIfInBounds_toArray, List.set_cons_zero, List.set_cons_succ])
      refine take_dst (i := 2) (v := ?_) 25 rfl rfl (by kernel_rfl) (by kernel_rfl) (by kernel_rfl) (fun _ _ _ h => h) (Or.inl ⟨by rfl, ?_⟩) (by assumption) ?_
      rotate_left
      · intro w hSw
        have q0 := blk_cell (hSw.mem List.mem_cons_self) 0
        have q1 := blk_cell (hSw.mem List.mem_cons_self) 1
        go_simp
        try with_reducible rfl
      (try simp only [Act.put, List.setIfInBounds_toArray, List.set_cons_zero, List.set_cons_succ])
      refine take_dst (i := 3) (v := ?_) 26 rfl rfl (by kernel_rfl) (by kernel_rfl) (by kernel_rfl) (fun _ _ _ h => h) (Or.inl ⟨by rfl, ?_⟩) (by assumption) ?_
      rotate_left
      · intro w hSw
        go_simp
        try with_reducible rfl
      (try simp only [Act.put, List.setIfInBounds_toArray, List.set_cons_zero, List.set_cons_succ])
      refine take_dst (i := 5) (v := ?_) 28 rfl rfl (by kernel_rfl) (by kernel_rfl) (by kernel_rfl) (fun _ _ _ h => h) (Or.inl ⟨by rfl, ?_⟩) (by assumption) ?_
      rotate_left
      · intro w hSw
        go_simp
        try with_reducible rfl
      (try simp only [Act.put, List.setIfInBounds_toArray, List.set_cons_zero, List.set_cons_succ])
      refine wpAnyH_ready (rs := [4]) (by kernel_rfl) (by simp) ?_
      refine AllReadyH.cons rfl (fun K hK => ?_) (AllReadyH.nil)
      go_simp
      refine (provisoref21_without.calls KF (fun k => Z k ∧ k < w.heap.size) B1 d1 s.L x (cutL x s.L) w10 (Kd.V_mk HI.out.2.1 (Kd.F_below (Kd.F_bound HI.out.2.2.2) HM10.out.below)) (HK.out.wout s.L x (by have := HG.out.len; omega) HG.out.srt)).mono ?_
      rintro e w13 ⟨v13, rfl, hN, hb⟩
      have hV := Kd.N_V (base' := 0) hN
      obtain ⟨A13, c13, e13⟩ := Kd.V_slice hV
      subst e13
      have HV := Aside0.mk (Kd.V_at hV).2
      have HM13 := Aside0.mk (HM10.out.step hb)
      have HS13 := Aside0.mk hb.size
      clear hN hb hV
      go_simp
      refine hK.out _ _ HM13.out.tail (fun hHeld => ?_)
      (try simp only [Act.put, List.setIfInBounds_toArray, List.set_cons_zero, List.set_cons_succ])
      clear hK K
      refine wpAnyH_ready (rs := [6]) (by kernel_rfl) (by simp) ?_
      refine AllReadyH.cons rfl (fun K hK => ?_) (AllReadyH.nil)
      go_simp
      refine (record_d 2 (.inr rfl) x (HK.out.siz x c1).2 [] (by simp) none 0 w13 (Kd.C_nil _ _)).mono ?_
      rintro e w14 ⟨v14, rfl, hR, hb⟩
      obtain ⟨A14, c14, e14⟩ := Kd.R_slice hR
      subst e14
      have HR14 := Aside0.mk hR
      have HM14 := Aside0.mk (HM13.out.step hb)
      have HS14 := Aside0.mk hb.size
      replace HV := Aside0.mk (And.intro HV.out.1 (Kd.F_below HV.out.2 hb))
      clear hR hb
      go_simp
      refine hK.out _ _ HM14.out.tail (fun hHeld => ?_)
      (try simp only [Act.put, List.setIfInBounds_toArray, List.set_cons_zero, List.set_cons_succ])
      clear hK K
      refine wpAnyH_ready (rs := [7]) (by kernel_rfl) (by simp) ?_
      refine AllReadyH.cons rfl (fun K hK => ?_) (AllReadyH.nil)
      go_simp
      have hrl : (recB 2 x []).length = x.size + 2 := by unfold recB; simp [bytes_len]
      have hxs := HK.out.siz x c1
      refine (laid_d (Z := fun k => (Z k ∧ k < w.heap.size) ∨ w10.heap.size ≤ k) (DAt.mono (DAt.step HX.out.bound HM14.out.below) (fun k q => .inl q)) HG.out.img (cutL x s.L) A13 c13 HV.out.2 HV.out.1 (recB 2 x []) A14 c14 (Kd.R_reads' HR14.out).2.2 (Kd.R_reads' HR14.out).2.1 (by omega) (by omega)).mono ?_
      rintro e w15 ⟨y, m, rfl, hy, hm, hb⟩
      have HY := Aside0.mk hy
      have HW := Aside0.mk hm
      have HB15 := Aside0.mk hb
      have HM15 := Aside0.mk (HM14.out.step hb)
      have HZ14 := Aside0.mk (show w10.heap.size ≤ w14.heap.size from Nat.le_trans HS13.out HS14.out)
      obtain ⟨A15, c15, A16, c16, e15, _⟩ := hy
      subst e15
      clear hm hb hrl hxs
      go_simp
      refine hK.out _ _ HM15.out.tail (fun hHeld => ?_)
      (try simp only [Act.put, List.setIfInBounds_toArray, List.set_cons_zero, List.set_cons_succ])
      clear hK K
      refine take_dst (i := 8) (v := ?_) 31 rfl rfl (by kernel_rfl) (by kernel_rfl) (by kernel_rfl) (fun _ _ _ h => h) (Or.inl ⟨by rfl, ?_⟩) (by assumption) ?_
      rotate_left
      · intro w hSw
        go_simp
        try with_reducible rfl
      (try simp only [Act.put, List.setIfInBounds_toArray, List.set_cons_zero, List.set_cons_succ])
      refine take_dst (i := 9) (v := ?_) 32 rfl rfl (by kernel_rfl) (by kernel_rfl) (by kernel_rfl) (fun _ _ _ h => h) (Or.inl ⟨by rfl, ?_⟩) (by assumption) ?_
      rotate_left
      · intro w hSw
        go_simp
        try with_reducible rfl
      (try simp only [Act.put, List.setIfInBounds_toArray, List.set_cons_zero, List.set_cons_succ])
      refine take_dst (i := 10) (v := ?_) 33 rfl rfl (by kernel_rfl) (by kernel_rfl) (by kernel_rfl) (fun _ _ _ h => h) (Or.inl ⟨by rfl, ?_⟩) (by assumption) ?_
      rotate_left
      · intro w hSw
        go_simp
        try with_reducible rfl
      (try simp only [Act.put, List.setIfInBounds_toArray, List.set_cons_zero, List.set_cons_succ])
      refine wpAnyH_ready (rs := [11]) (by kernel_rfl) (by simp) ?_
      refine AllReadyH.cons rfl (fun K hK => ?_) (AllReadyH.nil)
      refine rw_store_wp 29 rfl rfl (cs' := #[.slice A15 (laidS s (cutL x s.L) (recB 2 x [])).1.img.length c15, .slice A16 (laidS s (cutL x s.L) (recB 2 x [])).1.L.length c16]) rfl [] HM15.out (by kernel_rfl) rfl (by show _ = _; simp [Value.oneCell']) ?_
      intro w16 hM hkp
      refine hK.out _ _ hM.tail (fun hHeld => ?_)
      (try simp only [Act.put, List.setIfInBounds_toArray, List.set_cons_zero, List.set_cons_succ])
      clear hK K
      have HM16 := Aside0.mk hM
      have HKP := Aside0.mk hkp
      clear hM hkp
      refine take_dst (i := 12) (v := ?_) 5 rfl rfl (by kernel_rfl) (by kernel_rfl) (by kernel_rfl) (fun _ _ _ h => h) (Or.inl ⟨by rfl, ?_⟩) (by assumption) ?_
      rotate_left
      · intro w hSw
        go_simp
        try with_reducible rfl
      (try simp only [Act.put, List.setIfInBounds_toArray, List.set_cons_zero, List.set_cons_succ])
      refine take_dst (i := 13) (v := ?_) 6 rfl rfl (by kernel_rfl) (by kernel_rfl) (by kernel_rfl) (fun _ _ _ h => h) (Or.inl ⟨by rfl, ?_⟩) (by assumption) ?_
      rotate_left
      · intro w hSw
        go_simp
        try with_reducible rfl
      (try simp only [Act.put, List.setIfInBounds_toArray, List.set_cons_zero, List.set_cons_succ])
      refine wpAnyH_done (by kernel_rfl) ?_ _
      go_wp2_with fail
      refine bodyPost_ret (results_ctt rfl _ _ b6 29 #[.slice A15 (laidS s (cutL x s.L) (recB 2 x [])).1.img.length c15, .slice A16 (laidS s (cutL x s.L) (recB 2 x [])).1.L.length c16] (0, 0) _ rfl (HM16.out.mem List.mem_cons_self) Try.underlying29 rfl (by kernel_rfl)) rfl ?_
      have hs15 : w14.heap.size ≤ w15.heap.size := HB15.out.size
      have hs16 : w15.heap.size ≤ w16.heap.size := HKP.out.1
      have hl6 := HL6.out
      have hz14 := HZ14.out
      refine ⟨_, _, rfl, (HY.out.bound.kept HKP.out (fun k q e => ?_)).mono (fun k q => ?_), (HW.out.kept HKP.out (fun k q e => ?_)).mono (fun k q => ⟨by omega, by omega⟩), HM16.out.below⟩
      · subst e
        rcases q.1 with (q1 | q1) | q1
        · omega
        · omega
        · omega
      · have q2 : k < w15.heap.size := q.2
        rcases q.1 with (q1 | q1) | q1
        · exact .inl q1.1
        · exact .inr ⟨by omega, by omega⟩
        · exact .inr ⟨by omega, by omega⟩
      · omega
end
end Go.Proofs.Ytfakdphkklclgaa.P

end

section
namespace Go.Proofs.Ytfakdphkklclgaa.P
open Go.RowKit Go.Proofs.YtfakdphkklclgaaW.PrintWords Go.Proofs.YtfakdphkklclgaaW.PrintLast Go.Proofs.YtfakdphkklclgaaW.PrintMore
attribute [local go_sem] max2_int min2_int max_two min_two max_three min_three max_four min_four
set_option linter.unusedVariables false
set_option linter.unusedSimpArgs false
section
open Go.ChangeMaps Go.MapKept
set_option linter.unusedVariables false
theorem Rws.first {w0 W : World} {p : Nat × TypeId × Array Value} {l : List (Nat × TypeId × Array Value)} (h : Rws w0 (p :: l) W) : Rws w0 [p] W := ⟨fun q hq => h.lies q (by rw [List.mem_singleton.1 hq]; exact List.mem_cons_self), by simp, h.below⟩
end
end Go.Proofs.Ytfakdphkklclgaa.P

end

section
namespace Go.Proofs.Ytfakdphkklclgaa.P
open Go.RowKit Go.Proofs.YtfakdphkklclgaaW.PrintWords Go.Proofs.YtfakdphkklclgaaW.PrintLast Go.Proofs.YtfakdphkklclgaaW.PrintMore
attribute [local go_sem] max2_int min2_int max_two min_two max_three min_three max_four min_four
set_option linter.unusedVariables false
set_option linter.unusedSimpArgs false
section
open Go.ChangeMaps Go.MapKept
set_option linter.unusedVariables false
theorem Rws.keptF {w0 W W1 : World} {l : List (Nat × TypeId × Array Value)} {S : Nat → Prop} (h : Rws w0 l W) (hk : Kept W W1 S) (hS : ∀ p ∈ l, ¬ S p.1) (hb : Below w0.heap.size w0 W1) : Rws w0 l W1 :=
  ⟨fun p hp => ⟨(hk.2 _ (blk_lt (h.lies p hp).1) (hS p hp)).trans (h.lies p hp).1, (h.lies p hp).2⟩, h.ne, hb⟩
theorem Rws.keptT {w0 W W1 : World} {l : List (Nat × TypeId × Array Value)} {base ga n c : Nat} {ok : Nat → Prop} {xs : List Int} (h : Rws w0 l W) (hR : Kd.R (Kd.int .u8) 5 W base ok (.slice (some ⟨ga, 0, none⟩) n c) xs) (hk : Kept W W1 (fun k => k = ga)) (ht : ∀ p ∈ l, p.2.1 ≠ 5) (hb : Below w0.heap.size w0 W1) : Rws w0 l W1 :=
  h.keptF hk (fun p hp e => by
    obtain ⟨cs, h7⟩ := Kd.R_typed hR ga rfl
    have h8 := (h.lies p hp).1
    rw [e] at h8
    exact typ_nst h8 h7 (ht p hp) rfl) hb
theorem Rws.rebase {w0 w W W1 : World} {l : List (Nat × TypeId × Array Value)} {S : Nat → Prop} (h : Rws w l W) (hk : Kept W W1 S) (hS : ∀ p ∈ l, ¬ S p.1) (hw : w0.heap.size ≤ w.heap.size) (hb : Below w0.heap.size w0 W1) : Rws w0 l W1 :=
  ⟨fun p hp => ⟨(hk.2 _ (blk_lt (h.lies p hp).1) (hS p hp)).trans (h.lies p hp).1, Nat.le_trans hw (h.lies p hp).2⟩, h.ne, hb⟩
theorem kept_at1 {W W1 : World} {S : Nat → Prop} (hk : Kept W W1 S) {p : Addr} (hp : S p.block) (v : Value) : Kept W (W1.setCell p v) S := ⟨by have := hk.1; simpa [World.setCell] using this, fun k h1 hn => (Below.heap_setCell W1 p v k (fun e => hn (e ▸ hp))).trans (hk.2 k h1 hn)⟩
def DoPost (w0 : World) (F Z : Nat → Prop) (g : Nat) (w : World) (out : Sto × List S52 × Int) (e : Ending) (w' : World) : Prop := ∃ (y m : Value) (F' Z' M : Nat → Prop), e = .returned (.tuple #[y, m, .bool true]) ∧ SAt w0.heap.size F' g out.1 w' ∧ DAt Z' y out.1 w' ∧ DWr M m out.2.1 w' ∧ (∀ k, Z' k → ¬ F' k) ∧ (∀ k, F' k → F k ∨ w.heap.size ≤ k) ∧ (∀ k, Z' k → Z k ∨ w.heap.size ≤ k) ∧ (∀ k, M k → w.heap.size ≤ k) ∧ Kept w w' F ∧ Below w0.heap.size w0 w'
theorem Wrs.now {S1 S2 : Nat} {A : Option Addr} {c : Nat} {ws : List S52} {W : World} (h : Wrs S1 S2 (.slice A ws.length c) ws W) : Kd.C k52 W A ws.length ws := by
  obtain ⟨A', c', e, _, h2⟩ := h.reads
  injection e with e
  rw [e]; exact h2
theorem DWr.now {Z : Nat → Prop} {A : Option Addr} {c : Nat} {ws : List S52} {W : World} (h : DWr Z (.slice A ws.length c) ws W) : Kd.C k52 W A ws.length ws := by
  obtain ⟨A', c', e, _, h2⟩ := h
  injection e with e
  rw [e]; exact Kd.F_now h2
def EndOK (w wr : World) (F Z F1 Z1 M : Nat → Prop) (b6 : Nat) : Prop := (¬ F1 b6 ∧ ¬ Z1 b6 ∧ ¬ M b6) ∧ Kept w wr F ∧ w.heap.size ≤ b6 ∧ (∀ k, F1 k → F k ∨ w.heap.size ≤ k) ∧ (∀ k, Z1 k → Z k ∨ w.heap.size ≤ k) ∧ (∀ k, M k → w.heap.size ≤ k) ∧ ∀ k, Z1 k → ¬ F1 k
theorem do_end {w0 w wr W : World} {F Z F1 Z1 M : Nat → Prop} {g b6 : Nat} {out : Sto × List S52 × Int} {y m : Value} (hS : SAt w0.heap.size F1 g out.1 wr) (hY : DAt Z1 y out.1 wr) (hM : DWr M m out.2.1 wr) (hK : Kept wr W (fun k => k = b6)) (h : EndOK w wr F Z F1 Z1 M b6) (hB : Below w0.heap.size w0 W) : DoPost w0 F Z g w out (.returned (.tuple #[y, m, .bool true])) W := by
  obtain ⟨⟨h1, h2, h3⟩, h4, h5, h6, h7, h8, h9⟩ := h
  exact ⟨y, m, F1, Z1, M, rfl, hS.kept hK (fun k q e => h1 (e ▸ q)), hY.kept hK (fun k q e => h2 (e ▸ q)), hM.kept hK (fun k q e => h3 (e ▸ q)), h9, h6, h7, h8, ⟨Nat.le_trans h4.1 hK.1, fun k hk hn => (hK.2 k (Nat.lt_of_lt_of_le hk h4.1) (fun e => by omega)).trans (h4.2 k hk hn)⟩, hB⟩
theorem laid_wr (s : Sto) (l : List S101) (r : List Int) (hi : s.img.length ≤ 1048576) : (laidS s l r).2.1.length ≤ 2 ∧ ∀ x ∈ (laidS s l r).2.1, x.f1.length ≤ 2097152 := by
  unfold laidS
  split
  · exact ⟨Nat.zero_le _, fun x hx => by cases hx⟩
  · refine ⟨Nat.le_refl _, fun x hx => ?_⟩
    rcases List.mem_cons.1 hx with rfl | hx
    · simp; omega
    · rw [List.mem_singleton.1 hx]; simp
theorem put_wr (nm : ByteArray → Bool) (s : Sto) (x : ByteArray) (b : List Int) (hi : s.img.length ≤ 1048576) : (putS nm s x b).2.1.length ≤ 2 ∧ ∀ x' ∈ (putS nm s x b).2.1, x'.f1.length ≤ 2097152 := by
  unfold putS
  split
  · exact ⟨Nat.zero_le _, fun x hx => by cases hx⟩
  split
  · exact ⟨Nat.zero_le _, fun x hx => by cases hx⟩
  split
  · exact ⟨Nat.zero_le _, fun x hx => by cases hx⟩
  exact laid_wr _ _ _ hi
theorem drop_wr (nm : ByteArray → Bool) (s : Sto) (x : ByteArray) (hi : s.img.length ≤ 1048576) : (dropS nm s x).2.1.length ≤ 2 ∧ ∀ x' ∈ (dropS nm s x).2.1, x'.f1.length ≤ 2097152 := by
  unfold dropS
  split
  · exact ⟨Nat.zero_le _, fun x hx => by cases hx⟩
  split
  · exact ⟨Nat.zero_le _, fun x hx => by cases hx⟩
  exact laid_wr _ _ _ hi
set_option maxHeartbeats 12800000 in
set_option maxRecDepth 100000 in
theorem do_put {w0 w : World} {g : Nat} {F Z : Nat → Prop} {xv : Value} {s : Sto} (KF : Nat) (nm : ByteArray → Bool) (hK : StFacts KF nm) (hU : ∀ l : List Int, l.length ≤ 140737488351232 → provisoplain_Untouched.f KF (l ++ [165, 90, 195, 60]) l = some true) (hg : Good nm s) (x : ByteArray) (hx : x.size ≤ maxLen) (b : List Int) (Ad : Option Addr) (cd : Nat) (hlim : b.length ≤ 140737488351232) (hb : Kd.F (Kd.int .u8) w (fun k => k < w0.heap.size) Ad b.length b) (hcd : b.length ≤ cd) (hB : Below w0.heap.size w0 w) (h : SAt w0.heap.size F g s w) (hd : DAt Z xv s w) (hZ : ∀ k, Z k → ¬ F k) : Calls Try.prog 14 #[.pointer (some ⟨g, 0, none⟩), xv, .agg #[.int .i64 0, .string x, .slice Ad b.length cd]] w fun e w' => DoPost w0 F Z g w (putS nm s x b) e w' := by
  have HK := Aside0.mk hK
  have HU := Aside0.mk hU
  have HG := Aside0.mk hg
  have HX := Aside0.mk hx
  have HLIM := Aside0.mk hlim
  have HBF := Aside0.mk hb
  have HCD := Aside0.mk hcd
  have HS := Aside0.mk h
  have HD := Aside0.mk hd.bound
  have HZZ := Aside0.mk hZ
  have HN0 := Aside0.mk hB
  obtain ⟨A0, c0, B1, d1, rfl, _⟩ := hd
  clear hK hU hg hx hlim hb hcd hB h hZ
  go_enter Try.func14, Try.ntmps14
  go_wp2_with (first | ((with_reducible refine gate_dst (N := 4) rfl ?_); refine rw_box rfl 29 rfl (cs := #[.slice A0 s.img.length c0, .slice B1 s.L.length d1]) rfl (Rws.nil w) ?_; intro b4 w1 hX; have HM4 := Aside0.mk hX; clear hX) | ((with_reducible refine gate_dst (N := 5) rfl ?_); refine rw_box rfl 37 rfl (cs := #[.int .i64 0, .string x, .slice Ad b.length cd]) rfl HM4.out ?_; intro b5 w2 hX; have HM5 := Aside0.mk hX; clear hX) | ((with_reducible refine gate_dst (N := 6) rfl ?_); refine rw_allocS rfl 29 rfl (cs := #[.slice none 0 0, .slice none 0 0]) (by kernel_rfl) HM5.out ?_; intro b6 w3 hg6 hM hb6; have HM6 := Aside0.mk hM; have hc50 := blk_cell (hM.mem (List.mem_cons_of_mem _ List.mem_cons_self)) 0; have hc51 := blk_cell (hM.mem (List.mem_cons_of_mem _ List.mem_cons_self)) 1; have hc52 := blk_cell (hM.mem (List.mem_cons_of_mem _ List.mem_cons_self)) 2; clear hg6 hM hb6))
  refine (Roomy_calls Ad cd b _ (Kd.F_now (Kd.F_below HBF.out HM6.out.below)) HCD.out HLIM.out).mono ?_
  rintro e w4 ⟨A, c, rfl, hcap, hR, hb⟩
  obtain ⟨adr, hAd, _⟩ := Kd.at_int (Kd.R_reads' hR).2.2 0 (by omega) (by simp; omega)
  subst hAd
  obtain ⟨ga, rfl⟩ := Kd.R_head hR
  have HR := Aside0.mk (Kd.R_bound hR)
  have HCAP := Aside0.mk hcap
  have HM7 := Aside0.mk (HM6.out.step hb)
  have HGA := Aside0.mk (show w3.heap.size ≤ ga ∧ ga < w4.heap.size from ⟨Kd.R_base_ hR ga rfl, Kd.R_lt hR ga rfl⟩)
  have HL3 := Aside0.mk (show b4 < w3.heap.size ∧ b5 < w3.heap.size ∧ b6 < w3.heap.size ∧ w.heap.size ≤ w3.heap.size from ⟨blk_lt (HM6.out.mem (List.mem_cons_of_mem _ (List.mem_cons_of_mem _ List.mem_cons_self))), blk_lt (HM6.out.mem (List.mem_cons_of_mem _ List.mem_cons_self)), blk_lt (HM6.out.mem List.mem_cons_self), HM6.out.below.size⟩)
  clear hc51 hc52
  have hc51 := blk_cell (HM7.out.mem (List.mem_cons_of_mem _ List.mem_cons_self)) 1
  have hc52 := blk_cell (HM7.out.mem (List.mem_cons_of_mem _ List.mem_cons_self)) 2
  clear hcap hR hb
  have HLT := Aside0.mk HS.out.lt
  have HSG := Aside0.mk (HS.out.lt g HS.out.fs)
  go_wp2_with fail
  refine (Put_st KF nm HK.out HG.out x HX.out b (some ⟨ga, 0, none⟩) c (fun k => w3.heap.size ≤ k) (fun W' hW => ?hpf) (fun k q1 q2 => by have := (HLT.out k q2).2; have := HL3.out; omega) (HS.out.step HM7.out.below)).mono ?_
  case hpf =>
    have h8 : Kd.C (Kd.int .u8) W' (some ⟨ga, 0, none⟩) (b ++ [165, 90, 195, 60]).length (b ++ [165, 90, 195, 60]) := by
      have hl4 : (b ++ ([165, 90, 195, 60] : List Int)).length = b.length + 4 := by simp
      rw [hl4]
      exact Kd.R_F HR.out W' (fun k q1 q2 => hW k q1.2.1 q2)
    have h9 := Kd.C_take h8 (m := b.length) (by simp)
    rwa [List.take_left] at h9
  rintro e w5 ⟨v, S1, S2, rfl, q1, q2, q3, q4, q5, q6, q7⟩
  have HW5 := Aside0.mk (And.intro q1 (And.intro q2 q3))
  have HWR := Aside0.mk q4
  have HS5 := Aside0.mk q5
  have HK5 := Aside0.mk (show Kept w w5 F from ⟨Nat.le_trans HM7.out.below.size q6.1, fun k hk hn => (q6.2 k (Nat.lt_of_lt_of_le hk HM7.out.below.size) hn).trans (HM7.out.below.block k hk)⟩)
  have hbn : Below w0.heap.size w0 w5 := q7 _ w0 (Nat.le_refl _) (HN0.out.trans (HM7.out.below.mono HN0.out.size))
  have hnF : ∀ k, w.heap.size ≤ k → ¬ F k := fun k hk q => by have := (HLT.out k q).2; omega
  have HM8 := Aside0.mk (HM7.out.rebase q6 (fun p hp => hnF _ (HM7.out.lies p hp).2) HN0.out.size hbn)
  have HR8 := Aside0.mk (Kd.R_kept HR.out q6 (fun k q => hnF k (by have := q.2.1; have := HL3.out; omega)))
  have HD8 := Aside0.mk (HD.out.kept HK5.out (fun k q => HZZ.out k q.1))
  have HBF8 := Aside0.mk (Kd.F_kept HBF.out HK5.out (fun k q1 q2 => by have := (HLT.out k q2).1; omega))
  have HGA8 := Aside0.mk (show ga < w5.heap.size by have := HGA.out.2; have := q6.1; omega)
  clear q1 q2 q3 q4 q5 q6 q7 hbn hnF hc51 hc52
  have hc51 := blk_cell (HM8.out.mem (List.mem_cons_of_mem _ List.mem_cons_self)) 1
  have hc52 := blk_cell (HM8.out.mem (List.mem_cons_of_mem _ List.mem_cons_self)) 2
  go_wp2_with (first | ((with_reducible refine gate_dst (N := 41) rfl ?_); refine rw_load rfl 29 rfl rfl HM8.out (List.mem_cons_of_mem _ (List.mem_cons_of_mem _ List.mem_cons_self)) _ Try.underlying29 rfl (by kernel_rfl) ?_))
  refine (Put_d KF nm HK.out HG.out HD8.out x b Ad cd (Kd.F_now HBF8.out) HCD.out).mono ?_
  rintro e w6 ⟨y, m, rfl, hy, hm, hb⟩
  obtain ⟨out, hout⟩ : ∃ out, out = putS nm s x b := ⟨_, rfl⟩
  have hwr := put_wr nm s x b HG.out.img
  rw [← hout] at hy hm HS5 HWR hwr ⊢
  have HY := Aside0.mk hy
  have HWM := Aside0.mk hm
  have HWW := Aside0.mk hwr
  have HB6 := Aside0.mk hb
  obtain ⟨A15, c15, A16, c16, e15, _⟩ := hy
  subst e15
  have HM9 := Aside0.mk (HM8.out.step hb)
  have HR9 := Aside0.mk (Kd.R_below HR8.out hb)
  have HOUT := Aside0.mk hout
  clear hm hb hwr hc51 hc52 hout
  have hc51 := blk_cell (HM9.out.mem (List.mem_cons_of_mem _ List.mem_cons_self)) 1
  have hc52 := blk_cell (HM9.out.mem (List.mem_cons_of_mem _ List.mem_cons_self)) 2
  go_wp2_with (first | ((with_reducible refine gate_dst (N := 13) rfl ?_); refine rw_allocS rfl 29 rfl (cs := #[.slice none 0 0, .slice none 0 0]) (by kernel_rfl) HM9.out ?_; intro b13 w7 hg6 hM hb6; have HM10 := Aside0.mk hM; have HB7 := Aside0.mk hb6; have HE13 := Aside0.mk hg6; clear hg6 hM hb6) | (refine rw_storeS rfl 29 rfl rfl (cs' := #[.slice A15 out.1.img.length c15, .slice A16 out.1.L.length c16]) rfl [] HM10.out (by kernel_rfl) rfl (by show _ = _; simp [Value.oneCell']) ?_; intro w8 hM hk3; have HM11 := Aside0.mk hM; have HK8 := Aside0.mk hk3; have hc53 := blk_cell (hM.mem (List.mem_cons_of_mem _ (List.mem_cons_of_mem _ List.mem_cons_self))) 2; clear hM hk3))
  have HK58 := Aside0.mk (show Kept w5 w8 (fun _ => False) from ⟨Nat.le_trans HB6.out.size (Nat.le_trans HB7.out.size HK8.out.1), fun k hk _ => by
    have h6 := HB6.out.size
    exact (HK8.out.2 k (by have := HB7.out.size; omega) (by have := HE13.out; omega)).trans ((HB7.out.block k (by omega)).trans (HB6.out.block k hk))⟩)
  have HK68 := Aside0.mk (show Kept w6 w8 (fun _ => False) from ⟨Nat.le_trans HB7.out.size HK8.out.1, fun k hk _ => (HK8.out.2 k (by have := HB7.out.size; omega) (by have := HE13.out; omega)).trans (HB7.out.block k hk)⟩)
  have hrow8 := Kd.R_kept HR8.out HK58.out (fun k q e => e)
  have hlen4 : (b ++ [165, 90, 195, 60]).length = b.length + 4 := by simp
  have hun := provisoplain_Untouched.calls KF (some ⟨ga, 0, none⟩) c (b ++ [165, 90, 195, 60]) Ad cd b true w8 (Kd.R_reads' hrow8).2.2 (by rw [hlen4]; exact HCAP.out) (Kd.F_now (Kd.F_kept HBF8.out HK58.out (fun k q e => e))) HCD.out (HU.out b HLIM.out)
  rw [hlen4] at hun
  refine hun.mono ?_
  clear hun hlen4
  rintro e w9 ⟨rfl, k9, rfl⟩
  have HM12 := Aside0.mk (HM11.out.drewN k9)
  have HB0 := Aside0.mk (show Below w0.heap.size w0 (w8.drewN k9) from HM12.out.below)
  have HRW0 := Aside0.mk (show ∃ ys : List Int, Kd.R (Kd.int .u8) 5 (w8.drewN k9) w3.heap.size (fun k => w3.heap.size ≤ k ∧ k < w4.heap.size) (.slice (some ⟨ga, 0, none⟩) (b.length + 4) c) ys from ⟨_, Kd.R_mono (Kd.R_drewN hrow8 k9) (fun k q => ⟨q.2.1, q.2.2.1⟩)⟩)
  have HKG := Aside0.mk ((Kept.refl w8 (fun k => k = ga)).drewN k9)
  have HRW8 := Aside0.mk (show ∃ ys : List Int, Kd.R (Kd.int .u8) 5 w8 w3.heap.size (fun k => w3.heap.size ≤ k ∧ k < w4.heap.size) (.slice (some ⟨ga, 0, none⟩) (b.length + 4) c) ys from ⟨_, Kd.R_mono hrow8 (fun k q => ⟨q.2.1, q.2.2.1⟩)⟩)
  clear hrow8 hc53 hc50
  go_wp2_with fail
  go_loopw [58] (fun v58 wr => ∃ i : Nat, v58 = .int .i64 (i : Int) ∧ i ≤ b.length ∧ Aside0 (Below w0.heap.size w0 wr) ∧ Aside0 (Kept w8 wr (fun k => k = ga)) ∧ Aside0 (∃ ys : List Int, Kd.R (Kd.int .u8) 5 wr w3.heap.size (fun k => w3.heap.size ≤ k ∧ k < w4.heap.size) (.slice (some ⟨ga, 0, none⟩) (b.length + 4) c) ys)) (fun v58 _ => ((b.length : Int) - intOf v58).toNat)
  case atStart => exact ⟨0, rfl, Nat.zero_le _, HB0, HKG, HRW0⟩
  case round =>
    clear HB0 HKG HRW0 HM12
    obtain ⟨i, rfl, hi, HB0, HKG, HRW0⟩ := hrel
    by_cases c1_ : i < b.length
    · have c1b : decide ((i : Int) < (b.length : Int)) = true := decide_eq_true (by omega)
      have p1 : (0 ≤ (i : Int)) = True := eq_true (by omega)
      have p2 : ((i : Int) < (b.length : Int)) = True := eq_true (by omega)
      have HI : Aside0 (i < b.length) := ⟨c1_⟩
      obtain ⟨ys, hR⟩ := HRW0.out
      obtain ⟨hc1, hf1⟩ := Kd.R_celln 0 hR (i : Int) (by omega) (by omega)
      rw [Int.toNat_natCast] at hc1 hf1
      have HR := Aside0.mk hR
      obtain ⟨z, hz⟩ : ∃ z, rdOf 0 ys (i : Int) = z := ⟨_, rfl⟩
      rw [hz] at hc1
      have HW9 : Aside0 (wrap64 ((i : Int) + 1) = ((i + 1 : Nat) : Int)) := ⟨by have := HLIM.out; unfold wrap64; omega⟩
      clear hR hz HRW0 c1_
      go_wp2_with fail
      have hrow := Kd.R_putn HR.out (i : Int) (bits BinOp.xor IntKind.u8 z 255)
      rw [Int.toNat_natCast] at hrow
      have HROW := Aside0.mk hrow
      have HB1 := Aside0.mk (HB0.out.setCell (p := ⟨ga, i, none⟩) (show w0.heap.size ≤ ga from by have := HGA.out; have := HL3.out; have := HN0.out.size; omega) (.int .u8 (bits BinOp.xor IntKind.u8 z 255)))
      have HKG1 := Aside0.mk (kept_at1 HKG.out (p := ⟨ga, i, none⟩) rfl (.int .u8 (bits BinOp.xor IntKind.u8 z 255)))
      clear hrow
      go_roundw
      case rel => exact ⟨i + 1, (by rw [HW9.out]), HI.out, HB1, HKG1, ⟨_, HROW.out⟩⟩
      case measure => rw [HW9.out]; have := HI.out; show ((b.length : Int) - ((i + 1 : Nat) : Int)).toNat < ((b.length : Int) - (i : Int)).toNat; omega
    · have c1b : decide ((i : Int) < (b.length : Int)) = false := decide_eq_false (by omega)
      have c1n : decide (i < b.length) = false := decide_eq_false c1_
      have hR9 := HRW0.out
      have hnga : ∀ k, (∃ q : Nat, q = ga ∧ k = ga) → k = ga := fun k q => q.elim (fun _ q => q.2)
      have hga := HGA.out
      have hl3 := HL3.out
      have hw5 := HW5.out
      have HK5r := Aside0.mk (show Kept w5 wr (fun k => k = ga) from ⟨Nat.le_trans HK58.out.1 HKG.out.1, fun k hk hn => (HKG.out.2 k (Nat.lt_of_lt_of_le hk HK58.out.1) hn).trans (HK58.out.2 k hk (fun q => q))⟩)
      have HK6r := Aside0.mk (show Kept w6 wr (fun k => k = ga) from ⟨Nat.le_trans HK68.out.1 HKG.out.1, fun k hk hn => (HKG.out.2 k (Nat.lt_of_lt_of_le hk HK68.out.1) hn).trans (HK68.out.2 k hk (fun q => q))⟩)
      have HSr := Aside0.mk (HS5.out.kept HK5r.out (fun k q e => by
        subst e
        rcases q with q | q
        · have := (HLT.out k q).2; omega
        · omega))
      have HWr := Aside0.mk (HWR.out.kept HK5r.out (fun k q1 q2 e => by omega))
      have HYr := Aside0.mk (HY.out.kept HK6r.out (fun k q e => by
        subst e
        rcases q with q | q
        · have := q.2; omega
        · have := q.1; omega))
      have HMr := Aside0.mk (HWM.out.kept HK6r.out (fun k q e => by have := q.1; omega))
      obtain ⟨ys9, hR9⟩ := HRW0.out
      obtain ⟨ysz, hRz⟩ : ∃ ys : List Int, Kd.R (Kd.int .u8) 5 w8 w3.heap.size (fun k => w3.heap.size ≤ k ∧ k < w4.heap.size) (.slice (some ⟨ga, 0, none⟩) (b.length + 4) c) ys := HRW8.out
      have HM13 := Aside0.mk (HM11.out.keptT hRz HKG.out (by intro p hp; rcases List.mem_cons.1 hp with rfl | hp; exact (show 29 ≠ 5 by decide); rcases List.mem_cons.1 hp with rfl | hp; exact (show 29 ≠ 5 by decide); rcases List.mem_cons.1 hp with rfl | hp; exact (show 37 ≠ 5 by decide); rcases List.mem_cons.1 hp with rfl | hp; exact (show 29 ≠ 5 by decide); cases hp) HB0.out)
      obtain ⟨Aw, cw, ew, hw1, hw2⟩ := HWr.out.reads
      subst ew
      obtain ⟨Am, cm, em, hm1, hm2⟩ := HMr.out
      subst em
      have HWC := Aside0.mk (And.intro hw1 hm1)
      have HLX := Aside0.mk (show w.heap.size ≤ wr.heap.size by have h1 := HK5r.out.1; have h2 := HK5.out.1; omega)
      have hF1 : ∀ k, (F k ∨ (S2 ≤ k ∧ k < w5.heap.size)) → F k ∨ w.heap.size ≤ k := fun k q => q.elim .inl (fun q => .inr (by omega))
      have HEND := Aside0.mk (show EndOK w wr F Z (fun k => F k ∨ (S2 ≤ k ∧ k < w5.heap.size)) (fun k => (Z k ∧ k < w.heap.size) ∨ (w5.heap.size ≤ k ∧ k < w6.heap.size)) (fun k => w5.heap.size ≤ k ∧ k < w6.heap.size) b6 from by
        have hk1 := HK5.out.1
        refine ⟨⟨fun q => ?_, fun q => ?_, fun q => by omega⟩, ?_, by have := (HM6.out.lies _ List.mem_cons_self).2; exact this, hF1, fun k q => q.elim (fun q => .inl q.1) (fun q => .inr (by omega)), fun k q => by omega, fun k q1 q2 => ?_⟩
        · rcases q with q | q
          · have := (HLT.out b6 q).2; have := (HM6.out.lies _ List.mem_cons_self).2; simp only at this; omega
          · omega
        · rcases q with q | q
          · have := q.2; have := (HM6.out.lies _ List.mem_cons_self).2; simp only at this; omega
          · omega
        · exact ⟨Nat.le_trans HK5.out.1 HK5r.out.1, fun k hk hn => (HK5r.out.2 k (Nat.lt_of_lt_of_le hk HK5.out.1) (fun e => by omega)).trans (HK5.out.2 k hk hn)⟩
        · rcases q1 with q1 | q1
          · rcases q2 with q2 | q2
            · exact HZZ.out k q1.1 q2
            · omega
          · rcases q2 with q2 | q2
            · have := (HLT.out k q2).2; omega
            · omega)
      clear hnga hga hl3 hw5 hR9 hRz hw1 hw2 hm1 hm2 hF1
      go_wp2_with fail
      have herr : (out.2.2 == out.2.2) = true := by simp
      have HMD := Aside0.mk (HM13.out.drewN 1)
      (try simp only [Act.put, List.setIfInBounds_toArray, List.set_cons_zero, List.set_cons_succ])
      refine wp_region_held_drew (S := fun w' => Rws w0 [(b13, 29, #[.slice A15 out.1.img.length c15, .slice A16 out.1.L.length c16])] w') (by kernel_rfl) ?_ (fun hHeld => ?_)
      · exact Rws.first HMD.out
      have HV20 := Aside0.mk (show Rws w0 _ (World.drew _) from HMD.out)
      have HKV20 := Aside0.mk (show Kept wr (World.drew _) (fun k => k = b6) from (Kept.refl wr (fun k => k = b6)).drewN 1)
      clear HMD
      generalize World.drew _ = w20 at HV20 HKV20 hHeld ⊢
      refine take_dst (i := 0) (v := .agg #[.slice A15 out.1.img.length c15, .slice A16 out.1.L.length c16]) 68 rfl rfl (by kernel_rfl) (by kernel_rfl) (by kernel_rfl) (fun _ _ _ h => h) (rw_yields (by rfl) 29 rfl rfl (fun _ h => h) List.mem_cons_self _ Try.underlying29 rfl (by kernel_rfl)) (by assumption) ?_
      (try simp only [Act.put, List.setIfInBounds_toArray, List.set_cons_zero, List.set_cons_succ])
      refine take_dst (i := 1) (v := ?_) 69 rfl rfl (by kernel_rfl) (by kernel_rfl) (by kernel_rfl) (fun _ _ _ h => h) (Or.inl ⟨by rfl, ?_⟩) (by assumption) ?_
      rotate_left
      · intro w hSw
        obtain q1 := hSw
        go_simp
        try with_reducible rfl
      (try simp only [Act.put, List.setIfInBounds_toArray, List.set_cons_zero, List.set_cons_succ])
      refine take_dst (i := 2) (v := ?_) 70 rfl rfl (by kernel_rfl) (by kernel_rfl) (by kernel_rfl) (fun _ _ _ h => h) (Or.inl ⟨by rfl, ?_⟩) (by assumption) ?_
      rotate_left
      · intro w hSw
        obtain q1 := hSw
        go_simp
        try with_reducible rfl
      (try simp only [Act.put, List.setIfInBounds_toArray, List.set_cons_zero, List.set_cons_succ])
      refine take_dst (i := 3) (v := ?_) 71 rfl rfl (by kernel_rfl) (by kernel_rfl) (by kernel_rfl) (fun _ _ _ h => h) (Or.inl ⟨by rfl, ?_⟩) (by assumption) ?_
      rotate_left
      · intro w hSw
        obtain q1 := hSw
        go_simp
        try with_reducible rfl
      (try simp only [Act.put, List.setIfInBounds_toArray, List.set_cons_zero, List.set_cons_succ])
      refine take_dst (i := 4) (v := ?_) 72 rfl rfl (by kernel_rfl) (by kernel_rfl) (by kernel_rfl) (fun _ _ _ h => h) (Or.inl ⟨by rfl, ?_⟩) (by assumption) ?_
      rotate_left
      · intro w hSw
        obtain q1 := hSw
        go_simp
        try with_reducible rfl
      (try simp only [Act.put, List.setIfInBounds_toArray, List.set_cons_zero, List.set_cons_succ])
      refine take_dst (i := 5) (v := ?_) 73 rfl rfl (by kernel_rfl) (by kernel_rfl) (by kernel_rfl) (fun _ _ _ h => h) (Or.inl ⟨by rfl, ?_⟩) (by assumption) ?_
      rotate_left
      · intro w hSw
        obtain q1 := hSw
        go_simp
        try with_reducible rfl
      (try simp only [Act.put, List.setIfInBounds_toArray, List.set_cons_zero, List.set_cons_succ])
      refine take_dst (i := 6) (v := ?_) 74 rfl rfl (by kernel_rfl) (by kernel_rfl) (by kernel_rfl) (fun _ _ _ h => h) (Or.inl ⟨by rfl, ?_⟩) (by assumption) ?_
      rotate_left
      · intro w hSw
        obtain q1 := hSw
        go_simp
        try with_reducible rfl
      (try simp only [Act.put, List.setIfInBounds_toArray, List.set_cons_zero, List.set_cons_succ])
      refine take_dst (i := 7) (v := ?_) 75 rfl rfl (by kernel_rfl) (by kernel_rfl) (by kernel_rfl) (fun _ _ _ h => h) (Or.inl ⟨by rfl, ?_⟩) (by assumption) ?_
      rotate_left
      · intro w hSw
        obtain q1 := hSw
        go_simp
        try with_reducible rfl
      (try simp only [Act.put, List.setIfInBounds_toArray, List.set_cons_zero, List.set_cons_succ])
      refine wpAnyH_ready (rs := [8]) (by kernel_rfl) (by simp) ?_
      refine AllReadyH.cons rfl (fun K hK => ?_) (AllReadyH.nil)
      go_simp
      refine (provisoplain_SameWrites.calls KF Aw cw out.2.1 Am cm out.2.1 true w20 (HWr.out.kept HKV20.out (fun k q1 q2 e => by have h3 := HL3.out; have h5 := HW5.out; have h6 := HGA.out; omega)).now HWC.out.1 (HMr.out.kept HKV20.out (fun k q e => by have h3 := HL3.out; have h5 := HW5.out; have h6 := HGA.out; have := q.1; omega)).now HWC.out.2 (HK.out.wr _ HWW.out.1 HWW.out.2)).mono ?_
      rintro e w21 ⟨rfl, k21, rfl⟩
      have HV21 := Aside0.mk (HV20.out.drewN k21)
      have HKV21 := Aside0.mk (HKV20.out.drewN k21)
      generalize w20.drewN k21 = w21 at HV21 HKV21 ⊢
      go_simp
      refine hK.out _ _ (Rws.first HV21.out) (fun hHeld => ?_)
      (try simp only [Act.put, List.setIfInBounds_toArray, List.set_cons_zero, List.set_cons_succ])
      clear hK K
      refine take_dst (i := 9) (v := ?_) 77 rfl rfl (by kernel_rfl) (by kernel_rfl) (by kernel_rfl) (fun _ _ _ h => h) (Or.inl ⟨by rfl, ?_⟩) (by assumption) ?_
      rotate_left
      · intro w hSw
        obtain q1 := hSw
        go_simp
        try with_reducible rfl
      (try simp only [Act.put, List.setIfInBounds_toArray, List.set_cons_zero, List.set_cons_succ])
      refine wpAnyH_ready (rs := [10]) (by kernel_rfl) (by simp) ?_
      refine AllReadyH.cons rfl (fun K hK => ?_) (AllReadyH.nil)
      refine rw_store_wp 29 rfl rfl (cs' := #[.slice A15 out.1.img.length c15, .slice A16 out.1.L.length c16]) rfl [_] HV21.out (by kernel_rfl) rfl (by show _ = _; simp [Value.oneCell']) ?_
      intro w22 hM hkp
      refine hK.out _ _ (Rws.first hM) (fun hHeld => ?_)
      (try simp only [Act.put, List.setIfInBounds_toArray, List.set_cons_zero, List.set_cons_succ])
      clear hK K
      have HV22 := Aside0.mk hM
      have HKV22 := Aside0.mk (show Kept wr w22 (fun k => k = b6) from ⟨Nat.le_trans HKV21.out.1 hkp.1, fun k hk hn => (hkp.2 k (Nat.lt_of_lt_of_le hk HKV21.out.1) hn).trans (HKV21.out.2 k hk hn)⟩)
      clear hM hkp
      refine take_dst (i := 11) (v := ?_) 7 rfl rfl (by kernel_rfl) (by kernel_rfl) (by kernel_rfl) (fun _ _ _ h => h) (Or.inl ⟨by rfl, ?_⟩) (by assumption) ?_
      rotate_left
      · intro w hSw
        obtain q1 := hSw
        go_simp
        try with_reducible rfl
      (try simp only [Act.put, List.setIfInBounds_toArray, List.set_cons_zero, List.set_cons_succ])
      refine take_dst (i := 12) (v := ?_) 8 rfl rfl (by kernel_rfl) (by kernel_rfl) (by kernel_rfl) (fun _ _ _ h => h) (Or.inl ⟨by rfl, ?_⟩) (by assumption) ?_
      rotate_left
      · intro w hSw
        obtain q1 := hSw
        go_simp
        try with_reducible rfl
      (try simp only [Act.put, List.setIfInBounds_toArray, List.set_cons_zero, List.set_cons_succ])
      refine wpAnyH_done (by kernel_rfl) ?_ _
      go_wp2_with fail
      refine bodyPost_ret (results_ctt rfl _ _ b6 29 #[.slice A15 out.1.img.length c15, .slice A16 out.1.L.length c16] (0, 0) _ rfl (HV22.out.mem (List.mem_cons_of_mem _ List.mem_cons_self)) Try.underlying29 rfl (by kernel_rfl)) rfl ?_
      rw [← HOUT.out]
      exact do_end HSr.out HYr.out HMr.out HKV22.out HEND.out HV22.out.below
end
end Go.Proofs.Ytfakdphkklclgaa.P

end

section
namespace Go.Proofs.Ytfakdphkklclgaa.P
open Go.RowKit Go.Proofs.YtfakdphkklclgaaW.PrintWords Go.Proofs.YtfakdphkklclgaaW.PrintLast Go.Proofs.YtfakdphkklclgaaW.PrintMore
attribute [local go_sem] max2_int min2_int max_two min_two max_three min_three max_four min_four
set_option linter.unusedVariables false
set_option linter.unusedSimpArgs false
section
open Go.ChangeMaps Go.MapKept
set_option linter.unusedVariables false
set_option maxHeartbeats 12800000 in
set_option maxRecDepth 100000 in
theorem do_drop {w0 w : World} {g : Nat} {F Z : Nat → Prop} {xv : Value} {s : Sto} (KF : Nat) (nm : ByteArray → Bool) (hK : StFacts KF nm) (hU : ∀ l : List Int, l.length ≤ 140737488351232 → provisoplain_Untouched.f KF (l ++ [165, 90, 195, 60]) l = some true) (hg : Good nm s) (x : ByteArray) (hx : x.size ≤ maxLen) (b : List Int) (Ad : Option Addr) (cd : Nat) (hlim : b.length ≤ 140737488351232) (hb : Kd.F (Kd.int .u8) w (fun k => k < w0.heap.size) Ad b.length b) (hcd : b.length ≤ cd) (hB : Below w0.heap.size w0 w) (h : SAt w0.heap.size F g s w) (hd : DAt Z xv s w) (hZ : ∀ k, Z k → ¬ F k) : Calls Try.prog 14 #[.pointer (some ⟨g, 0, none⟩), xv, .agg #[.int .i64 1, .string x, .slice Ad b.length cd]] w fun e w' => DoPost w0 F Z g w (dropS nm s x) e w' := by
  have HK := Aside0.mk hK
  have HU := Aside0.mk hU
  have HG := Aside0.mk hg
  have HX := Aside0.mk hx
  have HLIM := Aside0.mk hlim
  have HBF := Aside0.mk hb
  have HCD := Aside0.mk hcd
  have HS := Aside0.mk h
  have HD := Aside0.mk hd.bound
  have HZZ := Aside0.mk hZ
  have HN0 := Aside0.mk hB
  obtain ⟨A0, c0, B1, d1, rfl, _⟩ := hd
  clear hK hU hg hx hlim hb hcd hB h hZ
  go_enter Try.func14, Try.ntmps14
  go_wp2_with (first | ((with_reducible refine gate_dst (N := 4) rfl ?_); refine rw_box rfl 29 rfl (cs := #[.slice A0 s.img.length c0, .slice B1 s.L.length d1]) rfl (Rws.nil w) ?_; intro b4 w1 hX; have HM4 := Aside0.mk hX; clear hX) | ((with_reducible refine gate_dst (N := 5) rfl ?_); refine rw_box rfl 37 rfl (cs := #[.int .i64 1, .string x, .slice Ad b.length cd]) rfl HM4.out ?_; intro b5 w2 hX; have HM5 := Aside0.mk hX; clear hX) | ((with_reducible refine gate_dst (N := 6) rfl ?_); refine rw_allocS rfl 29 rfl (cs := #[.slice none 0 0, .slice none 0 0]) (by kernel_rfl) HM5.out ?_; intro b6 w3 hg6 hM hb6; have HM6 := Aside0.mk hM; have hc50 := blk_cell (hM.mem (List.mem_cons_of_mem _ List.mem_cons_self)) 0; have hc51 := blk_cell (hM.mem (List.mem_cons_of_mem _ List.mem_cons_self)) 1; have hc52 := blk_cell (hM.mem (List.mem_cons_of_mem _ List.mem_cons_self)) 2; clear hg6 hM hb6))
  have HL3 := Aside0.mk (show b4 < w3.heap.size ∧ b5 < w3.heap.size ∧ b6 < w3.heap.size ∧ w.heap.size ≤ w3.heap.size from ⟨blk_lt (HM6.out.mem (List.mem_cons_of_mem _ (List.mem_cons_of_mem _ List.mem_cons_self))), blk_lt (HM6.out.mem (List.mem_cons_of_mem _ List.mem_cons_self)), blk_lt (HM6.out.mem List.mem_cons_self), HM6.out.below.size⟩)
  have HGA := Aside0.mk True.intro
  have HLT := Aside0.mk HS.out.lt
  have HSG := Aside0.mk (HS.out.lt g HS.out.fs)
  refine (Drop_st KF nm HK.out HG.out x HX.out (HS.out.step HM6.out.below)).mono ?_
  rintro e w5 ⟨v, S1, S2, rfl, q1, q2, q3, q4, q5, q6, q7⟩
  have HW5 := Aside0.mk (And.intro q1 (And.intro q2 q3))
  have HWR := Aside0.mk q4
  have HS5 := Aside0.mk q5
  have HK5 := Aside0.mk (show Kept w w5 F from ⟨Nat.le_trans HM6.out.below.size q6.1, fun k hk hn => (q6.2 k (Nat.lt_of_lt_of_le hk HM6.out.below.size) hn).trans (HM6.out.below.block k hk)⟩)
  have hbn : Below w0.heap.size w0 w5 := q7 _ w0 (Nat.le_refl _) (HN0.out.trans (HM6.out.below.mono HN0.out.size))
  have hnF : ∀ k, w.heap.size ≤ k → ¬ F k := fun k hk q => by have := (HLT.out k q).2; omega
  have HM8 := Aside0.mk (HM6.out.rebase q6 (fun p hp => hnF _ (HM6.out.lies p hp).2) HN0.out.size hbn)
  have HD8 := Aside0.mk (HD.out.kept HK5.out (fun k q => HZZ.out k q.1))
  clear q1 q2 q3 q4 q5 q6 q7 hbn hnF hc50 hc51 hc52
  have hc51 := blk_cell (HM8.out.mem (List.mem_cons_of_mem _ List.mem_cons_self)) 1
  have hc52 := blk_cell (HM8.out.mem (List.mem_cons_of_mem _ List.mem_cons_self)) 2
  go_wp2_with (first | ((with_reducible refine gate_dst (N := 86) rfl ?_); refine rw_load rfl 29 rfl rfl HM8.out (List.mem_cons_of_mem _ (List.mem_cons_of_mem _ List.mem_cons_self)) _ Try.underlying29 rfl (by kernel_rfl) ?_))
  refine (Drop_d KF nm HK.out HG.out HD8.out x).mono ?_
  rintro e w6 ⟨y, m, rfl, hy, hm, hb⟩
  obtain ⟨out, hout⟩ : ∃ out, out = dropS nm s x := ⟨_, rfl⟩
  have hwr := drop_wr nm s x HG.out.img
  rw [← hout] at hy hm HS5 HWR hwr ⊢
  have HY := Aside0.mk hy
  have HWM := Aside0.mk hm
  have HWW := Aside0.mk hwr
  have HB6 := Aside0.mk hb
  obtain ⟨A15, c15, A16, c16, e15, _⟩ := hy
  subst e15
  have HM9 := Aside0.mk (HM8.out.step hb)
  have HOUT := Aside0.mk hout
  clear hm hb hwr hc51 hc52 hout
  go_wp2_with (first | ((with_reducible refine gate_dst (N := 19) rfl ?_); refine rw_allocS rfl 29 rfl (cs := #[.slice none 0 0, .slice none 0 0]) (by kernel_rfl) HM9.out ?_; intro b13 w7 hg6 hM hb6; have HM10 := Aside0.mk hM; have HB7 := Aside0.mk hb6; have HE13 := Aside0.mk hg6; clear hg6 hM hb6) | (refine rw_storeS rfl 29 rfl rfl (cs' := #[.slice A15 out.1.img.length c15, .slice A16 out.1.L.length c16]) rfl [] HM10.out (by kernel_rfl) rfl (by show _ = _; simp [Value.oneCell']) ?_; intro wr hM hk3; have HM13 := Aside0.mk hM; have HK8 := Aside0.mk hk3; clear hM hk3))
  have HK5r := Aside0.mk (show Kept w5 wr (fun _ => False) from ⟨Nat.le_trans HB6.out.size (Nat.le_trans HB7.out.size HK8.out.1), fun k hk _ => by
    have h6 := HB6.out.size
    exact (HK8.out.2 k (by have := HB7.out.size; omega) (by have := HE13.out; omega)).trans ((HB7.out.block k (by omega)).trans (HB6.out.block k hk))⟩)
  have HK6r := Aside0.mk (show Kept w6 wr (fun _ => False) from ⟨Nat.le_trans HB7.out.size HK8.out.1, fun k hk _ => (HK8.out.2 k (by have := HB7.out.size; omega) (by have := HE13.out; omega)).trans (HB7.out.block k hk)⟩)
  have hl3 := HL3.out
  have hw5 := HW5.out
  have HSr := Aside0.mk (HS5.out.kept HK5r.out (fun k q e => e))
  have HWr := Aside0.mk (HWR.out.kept HK5r.out (fun k q1 q2 e => e))
  have HYr := Aside0.mk (HY.out.kept HK6r.out (fun k q e => e))
  have HMr := Aside0.mk (HWM.out.kept HK6r.out (fun k q e => e))
  obtain ⟨Aw, cw, ew, hw1, hw2⟩ := HWr.out.reads
  subst ew
  obtain ⟨Am, cm, em, hm1, hm2⟩ := HMr.out
  subst em
  have HWC := Aside0.mk (And.intro hw1 hm1)
  have hF1 : ∀ k, (F k ∨ (S2 ≤ k ∧ k < w5.heap.size)) → F k ∨ w.heap.size ≤ k := fun k q => q.elim .inl (fun q => .inr (by omega))
  have HEND := Aside0.mk (show EndOK w wr F Z (fun k => F k ∨ (S2 ≤ k ∧ k < w5.heap.size)) (fun k => (Z k ∧ k < w.heap.size) ∨ (w5.heap.size ≤ k ∧ k < w6.heap.size)) (fun k => w5.heap.size ≤ k ∧ k < w6.heap.size) b6 from by
    have hk1 := HK5.out.1
    refine ⟨⟨fun q => ?_, fun q => ?_, fun q => by omega⟩, ?_, by have := (HM6.out.lies _ List.mem_cons_self).2; exact this, hF1, fun k q => q.elim (fun q => .inl q.1) (fun q => .inr (by omega)), fun k q => by omega, fun k q1 q2 => ?_⟩
    · rcases q with q | q
      · have := (HLT.out b6 q).2; have := (HM6.out.lies _ List.mem_cons_self).2; simp only at this; omega
      · omega
    · rcases q with q | q
      · have := q.2; have := (HM6.out.lies _ List.mem_cons_self).2; simp only at this; omega
      · omega
    · exact ⟨Nat.le_trans HK5.out.1 HK5r.out.1, fun k hk hn => (HK5r.out.2 k (Nat.lt_of_lt_of_le hk HK5.out.1) (fun e => e)).trans (HK5.out.2 k hk hn)⟩
    · rcases q1 with q1 | q1
      · rcases q2 with q2 | q2
        · exact HZZ.out k q1.1 q2
        · omega
      · rcases q2 with q2 | q2
        · have := (HLT.out k q2).2; omega
        · omega)
  clear hl3 hw5 hw1 hw2 hm1 hm2 hF1
  have herr : (out.2.2 == out.2.2) = true := by simp
  have HMD := Aside0.mk (HM13.out.drewN 1)
  (try simp only [Act.put, List.setIfInBounds_toArray, List.set_cons_zero, List.set_cons_succ])
  refine wp_region_held_drew (S := fun w' => Rws w0 [(b13, 29, #[.slice A15 out.1.img.length c15, .slice A16 out.1.L.length c16])] w') (by kernel_rfl) ?_ (fun hHeld => ?_)
  · exact Rws.first HMD.out
  have HV20 := Aside0.mk (show Rws w0 _ (World.drew _) from HMD.out)
  have HKV20 := Aside0.mk (show Kept wr (World.drew _) (fun k => k = b6) from (Kept.refl wr (fun k => k = b6)).drewN 1)
  clear HMD
  generalize World.drew _ = w20 at HV20 HKV20 hHeld ⊢
  refine take_dst (i := 0) (v := .agg #[.slice A15 out.1.img.length c15, .slice A16 out.1.L.length c16]) 93 rfl rfl (by kernel_rfl) (by kernel_rfl) (by kernel_rfl) (fun _ _ _ h => h) (rw_yields (by rfl) 29 rfl rfl (fun _ h => h) List.mem_cons_self _ Try.underlying29 rfl (by kernel_rfl)) (by assumption) ?_
  (try simp only [Act.put, List.setIfInBounds_toArray, List.set_cons_zero, List.set_cons_succ])
  refine take_dst (i := 1) (v := ?_) 94 rfl rfl (by kernel_rfl) (by kernel_rfl) (by kernel_rfl) (fun _ _ _ h => h) (Or.inl ⟨by rfl, ?_⟩) (by assumption) ?_
  rotate_left
  · intro w hSw
    obtain q1 := hSw
    go_simp
    try with_reducible rfl
  (try simp only [Act.put, List.setIfInBounds_toArray, List.set_cons_zero, List.set_cons_succ])
  refine take_dst (i := 2) (v := ?_) 95 rfl rfl (by kernel_rfl) (by kernel_rfl) (by kernel_rfl) (fun _ _ _ h => h) (Or.inl ⟨by rfl, ?_⟩) (by assumption) ?_
  rotate_left
  · intro w hSw
    obtain q1 := hSw
    go_simp
    try with_reducible rfl
  (try simp only [Act.put, List.setIfInBounds_toArray, List.set_cons_zero, List.set_cons_succ])
  refine take_dst (i := 3) (v := ?_) 96 rfl rfl (by kernel_rfl) (by kernel_rfl) (by kernel_rfl) (fun _ _ _ h => h) (Or.inl ⟨by rfl, ?_⟩) (by assumption) ?_
  rotate_left
  · intro w hSw
    obtain q1 := hSw
    go_simp
    try with_reducible rfl
  (try simp only [Act.put, List.setIfInBounds_toArray, List.set_cons_zero, List.set_cons_succ])
  refine take_dst (i := 4) (v := ?_) 97 rfl rfl (by kernel_rfl) (by kernel_rfl) (by kernel_rfl) (fun _ _ _ h => h) (Or.inl ⟨by rfl, ?_⟩) (by assumption) ?_
  rotate_left
  · intro w hSw
    obtain q1 := hSw
    go_simp
    try with_reducible rfl
  (try simp only [Act.put, List.setIfInBounds_toArray, List.set_cons_zero, List.set_cons_succ])
  refine take_dst (i := 5) (v := ?_) 98 rfl rfl (by kernel_rfl) (by kernel_rfl) (by kernel_rfl) (fun _ _ _ h => h) (Or.inl ⟨by rfl, ?_⟩) (by assumption) ?_
  rotate_left
  · intro w hSw
    obtain q1 := hSw
    go_simp
    try with_reducible rfl
  (try simp only [Act.put, List.setIfInBounds_toArray, List.set_cons_zero, List.set_cons_succ])
  refine take_dst (i := 6) (v := ?_) 99 rfl rfl (by kernel_rfl) (by kernel_rfl) (by kernel_rfl) (fun _ _ _ h => h) (Or.inl ⟨by rfl, ?_⟩) (by assumption) ?_
  rotate_left
  · intro w hSw
    obtain q1 := hSw
    go_simp
    try with_reducible rfl
  (try simp only [Act.put, List.setIfInBounds_toArray, List.set_cons_zero, List.set_cons_succ])
  refine take_dst (i := 7) (v := ?_) 100 rfl rfl (by kernel_rfl) (by kernel_rfl) (by kernel_rfl) (fun _ _ _ h => h) (Or.inl ⟨by rfl, ?_⟩) (by assumption) ?_
  rotate_left
  · intro w hSw
    obtain q1 := hSw
    go_simp
    try with_reducible rfl
  (try simp only [Act.put, List.setIfInBounds_toArray, List.set_cons_zero, List.set_cons_succ])
  refine wpAnyH_ready (rs := [8]) (by kernel_rfl) (by simp) ?_
  refine AllReadyH.cons rfl (fun K hK => ?_) (AllReadyH.nil)
  go_simp
  refine (provisoplain_SameWrites.calls KF Aw cw out.2.1 Am cm out.2.1 true w20 (HWr.out.kept HKV20.out (fun k q1 q2 e => by have h3 := HL3.out; have h5 := HW5.out; have h6 := HGA.out; omega)).now HWC.out.1 (HMr.out.kept HKV20.out (fun k q e => by have h3 := HL3.out; have h5 := HW5.out; have h6 := HGA.out; have := q.1; omega)).now HWC.out.2 (HK.out.wr _ HWW.out.1 HWW.out.2)).mono ?_
  rintro e w21 ⟨rfl, k21, rfl⟩
  have HV21 := Aside0.mk (HV20.out.drewN k21)
  have HKV21 := Aside0.mk (HKV20.out.drewN k21)
  generalize w20.drewN k21 = w21 at HV21 HKV21 ⊢
  go_simp
  refine hK.out _ _ (Rws.first HV21.out) (fun hHeld => ?_)
  (try simp only [Act.put, List.setIfInBounds_toArray, List.set_cons_zero, List.set_cons_succ])
  clear hK K
  refine take_dst (i := 9) (v := ?_) 102 rfl rfl (by kernel_rfl) (by kernel_rfl) (by kernel_rfl) (fun _ _ _ h => h) (Or.inl ⟨by rfl, ?_⟩) (by assumption) ?_
  rotate_left
  · intro w hSw
    obtain q1 := hSw
    go_simp
    try with_reducible rfl
  (try simp only [Act.put, List.setIfInBounds_toArray, List.set_cons_zero, List.set_cons_succ])
  refine wpAnyH_ready (rs := [10]) (by kernel_rfl) (by simp) ?_
  refine AllReadyH.cons rfl (fun K hK => ?_) (AllReadyH.nil)
  refine rw_store_wp 29 rfl rfl (cs' := #[.slice A15 out.1.img.length c15, .slice A16 out.1.L.length c16]) rfl [_] HV21.out (by kernel_rfl) rfl (by show _ = _; simp [Value.oneCell']) ?_
  intro w22 hM hkp
  refine hK.out _ _ (Rws.first hM) (fun hHeld => ?_)
  (try simp only [Act.put, List.setIfInBounds_toArray, List.set_cons_zero, List.set_cons_succ])
  clear hK K
  have HV22 := Aside0.mk hM
  have HKV22 := Aside0.mk (show Kept wr w22 (fun k => k = b6) from ⟨Nat.le_trans HKV21.out.1 hkp.1, fun k hk hn => (hkp.2 k (Nat.lt_of_lt_of_le hk HKV21.out.1) hn).trans (HKV21.out.2 k hk hn)⟩)
  clear hM hkp
  refine take_dst (i := 11) (v := ?_) 7 rfl rfl (by kernel_rfl) (by kernel_rfl) (by kernel_rfl) (fun _ _ _ h => h) (Or.inl ⟨by rfl, ?_⟩) (by assumption) ?_
  rotate_left
  · intro w hSw
    obtain q1 := hSw
    go_simp
    try with_reducible rfl
  (try simp only [Act.put, List.setIfInBounds_toArray, List.set_cons_zero, List.set_cons_succ])
  refine take_dst (i := 12) (v := ?_) 8 rfl rfl (by kernel_rfl) (by kernel_rfl) (by kernel_rfl) (fun _ _ _ h => h) (Or.inl ⟨by rfl, ?_⟩) (by assumption) ?_
  rotate_left
  · intro w hSw
    obtain q1 := hSw
    go_simp
    try with_reducible rfl
  (try simp only [Act.put, List.setIfInBounds_toArray, List.set_cons_zero, List.set_cons_succ])
  refine wpAnyH_done (by kernel_rfl) ?_ _
  go_wp2_with fail
  refine bodyPost_ret (results_ctt rfl _ _ b6 29 #[.slice A15 out.1.img.length c15, .slice A16 out.1.L.length c16] (0, 0) _ rfl (HV22.out.mem (List.mem_cons_of_mem _ List.mem_cons_self)) Try.underlying29 rfl (by kernel_rfl)) rfl ?_
  rw [← HOUT.out]
  exact do_end HSr.out HYr.out HMr.out HKV22.out HEND.out HV22.out.below
end
end Go.Proofs.Ytfakdphkklclgaa.P

end

section
namespace Go.Proofs.Ytfakdphkklclgaa.P
open Go.RowKit Go.Proofs.YtfakdphkklclgaaW.PrintWords Go.Proofs.YtfakdphkklclgaaW.PrintLast Go.Proofs.YtfakdphkklclgaaW.PrintMore
attribute [local go_sem] max2_int min2_int max_two min_two max_three min_three max_four min_four
set_option linter.unusedVariables false
set_option linter.unusedSimpArgs false
section
theorem rd_app {bs t : List Int} {i : Nat} (h : i < bs.length) : rd (bs ++ t) (i : Int) = rd bs (i : Int) := by
  unfold rd
  rw [Int.toNat_natCast, List.getD_eq_getElem?_getD, List.getD_eq_getElem?_getD, List.getElem?_append_left h]
theorem seg_app {bs t : List Int} {a n : Nat} (h : a + n ≤ bs.length) : seg (bs ++ t) a n = seg bs a n := by
  unfold seg
  rw [List.take_append_of_le_length h]
theorem nameR_app {nm : ByteArray → Bool} {bs : List Int} {a : Nat} (t : List Int) (h : (nameR nm bs a).2.2 = 0) : nameR nm (bs ++ t) a = nameR nm bs a := by
  unfold nameR at h ⊢
  by_cases c1 : bs.length < a + 1
  · rw [if_pos c1] at h; cases h
  rw [if_neg c1] at h ⊢
  have hr := rd_app (t := t) (show a < bs.length by omega)
  rw [if_neg (by rw [List.length_append]; omega), hr]
  by_cases c2 : rd bs (a : Int) = 0 ∨ 24 < rd bs (a : Int)
  · rw [if_pos c2] at h; cases h
  rw [if_neg c2] at h
  rw [if_neg c2, if_neg c2]
  by_cases c3 : bs.length < a + 1 + (rd bs (a : Int)).toNat
  · rw [if_pos c3] at h; cases h
  rw [if_neg (by rw [List.length_append]; omega), if_neg c3, seg_app (by omega)]
theorem numR_app {k : Nat} {bs : List Int} {a : Nat} (t : List Int) (h : (numR k bs a).2.2 = 0) : numR k (bs ++ t) a = numR k bs a := by
  unfold numR at h ⊢
  by_cases c1 : bs.length < a + k
  · rw [if_pos c1] at h; cases h
  rw [if_neg c1, if_neg (by rw [List.length_append]; omega), seg_app (by omega)]
theorem takeR_app {bs : List Int} {a : Nat} {n : Int} (t : List Int) (ha : a ≤ bs.length) (h : (takeR bs a n).2.2 = 0) : takeR (bs ++ t) a n = takeR bs a n := by
  unfold takeR at h ⊢
  by_cases c1 : n < 0
  · rw [if_pos c1] at h; cases h
  rw [if_neg c1] at h ⊢
  by_cases c2 : n > (bs.length : Int) - (a : Int)
  · rw [if_pos c2] at h; cases h
  rw [if_neg c1, if_neg c2, if_neg (by rw [List.length_append]; omega), seg_app (by omega)]
theorem recS_app {nm : ByteArray → Bool} {bs : List Int} {L : List S101} {a : Nat} {q : List S101 × Nat} (t : List Int) (ha : a < bs.length) (h : recS nm bs L a = some q) : recS nm (bs ++ t) L a = some q := by
  unfold recS at h ⊢
  have h1 := nameR_app (nm := nm) (bs := bs) (a := a + 1) t
  have g1 := nameR_go nm bs (a + 1)
  rw [rd_app ha]
  obtain ⟨⟨x, p, er⟩, hnr⟩ : ∃ q, q = nameR nm bs (a + 1) := ⟨_, rfl⟩
  rw [← hnr] at h h1 g1
  simp only at h h1 g1
  by_cases c1 : er ≠ 0
  · rw [if_pos c1] at h; cases h
  rw [if_neg c1] at h
  have h1 := h1 (by simpa using c1)
  have g1 := g1 (by simpa using c1)
  rw [h1]
  simp only
  rw [if_neg c1]
  by_cases c2 : rd bs (a : Int) = 2 ∧ (lkL L x).isSome = true
  · rw [if_pos c2] at h ⊢; exact h
  rw [if_neg c2] at h ⊢
  by_cases c3 : rd bs (a : Int) ≠ 1
  · rw [if_pos c3] at h; cases h
  rw [if_neg c3] at h ⊢
  have h2 := numR_app (k := 2) (bs := bs) (a := p) t
  have g2 := numR_go 2 bs p
  obtain ⟨⟨n, p2, e2⟩, hn⟩ : ∃ q, q = numR 2 bs p := ⟨_, rfl⟩
  rw [← hn] at h h2 g2
  simp only at h h2 g2
  by_cases c4 : e2 ≠ 0 ∨ 4096 < n
  · rw [if_pos c4] at h; cases h
  rw [if_neg c4] at h
  have e20 : e2 = 0 := by simpa using fun q => c4 (.inl q)
  rw [h2 e20]
  simp only
  rw [if_neg c4]
  have g2 := g2 e20
  have h3 := takeR_app (bs := bs) (a := p2) (n := n) t (by omega)
  obtain ⟨⟨b, p3, e3⟩, ht⟩ : ∃ q, q = takeR bs p2 n := ⟨_, rfl⟩
  rw [← ht] at h h3
  simp only at h h3
  by_cases c5 : e3 ≠ 0
  · rw [if_pos c5] at h; cases h
  rw [if_neg c5] at h
  rw [h3 (by simpa using c5)]
  simp only
  rw [if_neg c5]
  exact h
inductive Par (nm : ByteArray → Bool) (bs : List Int) : List S101 → Nat → List S101 → Nat → Prop
  | refl (L : List S101) (a : Nat) : Par nm bs L a L a
  | step {L : List S101} {a : Nat} {q : List S101 × Nat} {L' : List S101} {a' : Nat} (ha : a < bs.length) (hz : rd bs (a : Int) ≠ 0) (hq : recS nm bs L a = some q) (h : Par nm bs q.1 q.2 L' a') : Par nm bs L a L' a'
theorem Par.app {nm : ByteArray → Bool} {bs : List Int} {L L' : List S101} {a a' : Nat} (h : Par nm bs L a L' a') (t : List Int) : Par nm (bs ++ t) L a L' a' := by
  induction h with
  | refl L a => exact .refl L a
  | step ha hz hq _ ih => exact .step (by rw [List.length_append]; omega) (by rw [rd_app ha]; exact hz) (recS_app t ha hq) ih
theorem Par.trans {nm : ByteArray → Bool} {bs : List Int} {L L' L2 : List S101} {a a' a2 : Nat} (h : Par nm bs L a L' a') (h2 : Par nm bs L' a' L2 a2) : Par nm bs L a L2 a2 := by
  induction h with
  | refl L a => exact h2
  | step ha hz hq _ ih => exact .step ha hz hq (ih h2)
def sumL : List S101 → Nat
  | [] => 0
  | k :: l => k.f0.size + 4 + k.f1.length + sumL l
theorem sum_put (x : ByteArray) (b : List Int) (L : List S101) : sumL (putL x b L) ≤ sumL L + (x.size + 4 + b.length) := by
  induction L with
  | nil => simp [putL, sumL]
  | cons k l ih =>
    unfold putL
    split
    · simp only [sumL]; omega
    · split
      · rename_i h2; simp only [sumL]; omega
      · simp only [sumL]; omega
theorem sum_cut (x : ByteArray) (L : List S101) : sumL (cutL x L) ≤ sumL L := by
  induction L with
  | nil => simp [cutL, sumL]
  | cons k l ih =>
    unfold cutL
    split
    · simp only [sumL]; omega
    · split <;> simp only [sumL] <;> omega
theorem rec1_len' (x : ByteArray) (b : List Int) : (recB 1 x b).length = x.size + 4 + b.length := by unfold recB; simp [bytes_len]; omega
structure Inv (nm : ByteArray → Bool) (s : Sto) : Prop where
  good : Good nm s
  par : Par nm s.img [] 0 s.L s.img.length
  sum : sumL s.L ≤ s.img.length
theorem inv_new (nm : ByteArray → Bool) : Inv nm ⟨[], []⟩ := ⟨good_new nm, .refl _ _, Nat.le_refl _⟩
theorem rd_right (bs t : List Int) (i : Nat) : rd (bs ++ t) ((bs.length + i : Nat) : Int) = rd t (i : Int) := by
  unfold rd
  rw [Int.toNat_natCast, Int.toNat_natCast, List.getD_eq_getElem?_getD, List.getD_eq_getElem?_getD, List.getElem?_append_right (by omega)]
  congr 2
  omega
theorem seg_right (bs t : List Int) (i n : Nat) : seg (bs ++ t) (bs.length + i) n = seg t i n := by
  unfold seg
  rw [List.take_append, List.drop_append, List.drop_eq_nil_of_le (by rw [List.length_take]; omega), List.nil_append, List.length_take, Nat.min_eq_right (by omega)]
  congr 2 <;> omega
theorem nameR_rec {nm : ByteArray → Bool} (img : List Int) (k : Int) (x : ByteArray) (post : List Int) (hx : nm x = true) (hs : 1 ≤ x.size ∧ x.size ≤ 24) :
    nameR nm (img ++ ([k, (x.size : Int) % 256] ++ bytesOf x ++ post)) (img.length + 1) = (x, img.length + 2 + x.size, 0) := by
  have hb := bytes_len x
  have hr : rd (img ++ ([k, (x.size : Int) % 256] ++ bytesOf x ++ post)) ((img.length + 1 : Nat) : Int) = (x.size : Int) := by
    rw [rd_right]
    show (x.size : Int) % 256 = _
    omega
  have hseg : seg (img ++ ([k, (x.size : Int) % 256] ++ bytesOf x ++ post)) (img.length + 1 + 1) x.size = bytesOf x := by
    rw [show img.length + 1 + 1 = img.length + 2 from rfl, seg_right]
    unfold seg
    rw [List.append_assoc, show 2 + x.size = ([k, (x.size : Int) % 256] : List Int).length + x.size from rfl, List.take_length_add_append]
    rw [show ([k, (x.size : Int) % 256] ++ List.take x.size (bytesOf x ++ post)).drop 2 = List.take x.size (bytesOf x ++ post) from rfl]
    rw [← hb, List.take_left]
  unfold nameR
  rw [hr, if_neg (by simp; omega), if_neg (by omega), Int.toNat_natCast, if_neg (by simp [hb]; omega), hseg, str_of_bytes, if_pos hx]
theorem rec_step {nm : ByteArray → Bool} {s : Sto} (h : Inv nm s) (hz : ∀ x, nm x = true → 1 ≤ x.size ∧ x.size ≤ 24) (x : ByteArray) (hx : nm x = true) (b : List Int) (hb : b.length ≤ 4096) (hl : (putL x b s.L).length ≤ 16) : recS nm (s.img ++ recB 1 x b) s.L s.img.length = some (putL x b s.L, (s.img ++ recB 1 x b).length) := by
  have hs := hz x hx
  have hn := nameR_rec (nm := nm) s.img 1 x ([(b.length : Int) / 256 % 256, (b.length : Int) % 256] ++ b) hx hs
  have he : recB 1 x b = [1, (x.size : Int) % 256] ++ bytesOf x ++ ([(b.length : Int) / 256 % 256, (b.length : Int) % 256] ++ b) := by unfold recB; rw [if_pos rfl]
  have hbl := bytes_len x
  have hr := rec1_len' x b
  have hk : rd (s.img ++ recB 1 x b) ((s.img.length : Nat) : Int) = 1 := by
    have := rd_right s.img (recB 1 x b) 0
    rw [Nat.add_zero] at this
    rw [this, he]; rfl
  have hseg2 : seg (s.img ++ recB 1 x b) (s.img.length + 2 + x.size) 2 = [(b.length : Int) / 256 % 256, (b.length : Int) % 256] := by
    rw [Nat.add_assoc, seg_right, he]
    unfold seg
    rw [show 2 + x.size + 2 = ([1, (x.size : Int) % 256] ++ bytesOf x : List Int).length + 2 by simp [hbl] <;> omega, List.take_length_add_append, List.drop_append_of_le_length (by simp [hbl] <;> omega), List.drop_eq_nil_of_le (by simp [hbl] <;> omega)]
    rfl
  have hseg3 : seg (s.img ++ recB 1 x b) (s.img.length + 2 + x.size + 2) b.length = b := by
    rw [show s.img.length + 2 + x.size + 2 = s.img.length + (x.size + 4) by omega, seg_right, he]
    unfold seg
    rw [← List.append_assoc, show x.size + 4 + b.length = ([1, (x.size : Int) % 256] ++ bytesOf x ++ [(b.length : Int) / 256 % 256, (b.length : Int) % 256] : List Int).length + b.length by simp [hbl] <;> omega, List.take_length_add_append, List.take_of_length_le (Nat.le_refl _), List.drop_append_of_le_length (by simp [hbl] <;> omega), List.drop_eq_nil_of_le (by simp [hbl] <;> omega)]
    rfl
  rw [← he] at hn
  unfold recS
  rw [hn, hk]
  simp only
  rw [if_neg (by decide), if_neg (by rintro ⟨q, _⟩; cases q), if_neg (by decide)]
  have h2 : numR 2 (s.img ++ recB 1 x b) (s.img.length + 2 + x.size) = ((b.length : Int), s.img.length + 2 + x.size + 2, 0) := by
    unfold numR
    rw [if_neg (by simp [hr]; omega), hseg2]
    simp [valR, numOf]
    omega
  rw [h2]
  simp only
  rw [if_neg (by omega)]
  have h3 : takeR (s.img ++ recB 1 x b) (s.img.length + 2 + x.size + 2) (b.length : Int) = (b, s.img.length + 2 + x.size + 2 + b.length, 0) := by
    unfold takeR
    rw [if_neg (by omega), if_neg (by simp [hr]; omega), Int.toNat_natCast, hseg3]
  rw [h3]
  simp only
  rw [if_neg (by decide), if_neg (by omega), List.length_append, hr]
  congr 2
  omega
theorem cut_step {nm : ByteArray → Bool} {s : Sto} (hz : ∀ x, nm x = true → 1 ≤ x.size ∧ x.size ≤ 24) (x : ByteArray) (hx : nm x = true) (hl : (lkL s.L x).isSome = true) : recS nm (s.img ++ recB 2 x []) s.L s.img.length = some (cutL x s.L, (s.img ++ recB 2 x []).length) := by
  have hs := hz x hx
  have hn := nameR_rec (nm := nm) s.img 2 x [] hx hs
  have he : recB 2 x [] = [2, (x.size : Int) % 256] ++ bytesOf x ++ [] := by unfold recB; rw [if_neg (by decide)]
  have hbl := bytes_len x
  have hk : rd (s.img ++ recB 2 x []) ((s.img.length : Nat) : Int) = 2 := by
    have := rd_right s.img (recB 2 x []) 0
    rw [Nat.add_zero] at this
    rw [this, he]; rfl
  rw [← he] at hn
  unfold recS
  rw [hn, hk]
  simp only
  rw [if_neg (by decide), if_pos ⟨trivial, hl⟩, List.length_append, he]
  simp [hbl]
  omega
theorem inv_put {nm : ByteArray → Bool} (hz : ∀ x, nm x = true → 1 ≤ x.size ∧ x.size ≤ 24) {s : Sto} (h : Inv nm s) (x : ByteArray) (b : List Int) (hb : ∀ z ∈ b, 0 ≤ z ∧ z ≤ 255) : Inv nm (putS nm s x b).1 := by
  have hg := good_put h.good x b hb
  unfold putS at hg ⊢
  by_cases c1 : nm x = false
  · rw [if_pos c1]; exact h
  rw [if_neg c1] at hg ⊢
  by_cases c2 : 4096 < b.length
  · rw [if_pos c2]; exact h
  rw [if_neg c2] at hg ⊢
  by_cases c3 : lkL s.L x = none ∧ 16 ≤ s.L.length
  · rw [if_pos c3]; exact h
  rw [if_neg c3] at hg ⊢
  rcases laid_cases s (putL x b s.L) (recB 1 x b) with e | ⟨hl, e⟩
  · rw [e]; exact h
  rw [e] at hg ⊢
  have hr := rec1_len' x b
  refine ⟨hg, (h.par.app _).trans (.step (by rw [List.length_append]; omega) ?_ (rec_step h hz x (by simpa using c1) b (by omega) hg.len) (.refl _ _)), ?_⟩
  · have := rd_right s.img (recB 1 x b) 0
    rw [Nat.add_zero] at this
    rw [this]; exact (by decide : (1 : Int) ≠ 0)
  · show sumL (putL x b s.L) ≤ (s.img ++ recB 1 x b).length
    have := sum_put x b s.L
    have := h.sum
    rw [List.length_append, hr]
    omega
theorem inv_drop {nm : ByteArray → Bool} (hz : ∀ x, nm x = true → 1 ≤ x.size ∧ x.size ≤ 24) {s : Sto} (h : Inv nm s) (x : ByteArray) : Inv nm (dropS nm s x).1 := by
  have hg := good_drop h.good x
  unfold dropS at hg ⊢
  by_cases c1 : nm x = false
  · rw [if_pos c1]; exact h
  rw [if_neg c1] at hg ⊢
  by_cases c3 : lkL s.L x = none
  · rw [if_pos c3]; exact h
  rw [if_neg c3] at hg ⊢
  rcases laid_cases s (cutL x s.L) (recB 2 x []) with e | ⟨hl, e⟩
  · rw [e]; exact h
  rw [e] at hg ⊢
  refine ⟨hg, (h.par.app _).trans (.step ?_ ?_ (cut_step hz x (by simpa using c1) ?_) (.refl _ _)), ?_⟩
  · rw [List.length_append]; unfold recB; simp
  · have := rd_right s.img (recB 2 x []) 0
    rw [Nat.add_zero] at this
    rw [this]; exact (by decide : (2 : Int) ≠ 0)
  · cases hq : lkL s.L x with
    | none => exact absurd hq c3
    | some y => rfl
  · show sumL (cutL x s.L) ≤ (s.img ++ recB 2 x []).length
    have := sum_cut x s.L
    have := h.sum
    rw [List.length_append]
    omega
end
end Go.Proofs.Ytfakdphkklclgaa.P

end

section
namespace Go.Proofs.Ytfakdphkklclgaa.P
open Go.RowKit Go.Proofs.YtfakdphkklclgaaW.PrintWords Go.Proofs.YtfakdphkklclgaaW.PrintLast Go.Proofs.YtfakdphkklclgaaW.PrintMore
attribute [local go_sem] max2_int min2_int max_two min_two max_three min_three max_four min_four
set_option linter.unusedVariables false
set_option linter.unusedSimpArgs false
section
open Go.ChangeMaps Go.MapKept
set_option linter.unusedVariables false
structure LFacts (K : Nat) (nm : ByteArray → Bool) : Prop where
  st : StFacts K nm
  un : ∀ l : List Int, l.length ≤ 140737488351232 → provisoplain_Untouched.f K (l ++ [165, 90, 195, 60]) l = some true
theorem F_of_C {w : World} {A : Option Addr} {n : Nat} {xs : List Int} (h : Kd.C (Kd.int .u8) w A n xs) : Kd.F (Kd.int .u8) w (fun k => k < w.heap.size) A n xs := fun W' hW => by
  have hsz : w.heap.size ≤ W'.heap.size := by
    rcases Nat.eq_zero_or_pos w.heap.size with e | e
    · omega
    · have h1 := hW (w.heap.size - 1) (by omega) (by omega)
      rcases Nat.lt_or_ge (w.heap.size - 1) W'.heap.size with q | q
      · omega
      · rw [Array.getElem?_eq_none q, Array.getElem?_eq_getElem (by omega)] at h1
        cases h1
  have h2 := Kd.C_below h (w1 := { W' with os := w.os, tape := w.tape, output := w.output }) ⟨rfl, rfl, rfl, hsz, fun k hk => hW k hk hk⟩
  exact h2
end
end Go.Proofs.Ytfakdphkklclgaa.P

end

section
namespace Go.Proofs.Ytfakdphkklclgaa.P
open Go.RowKit Go.Proofs.YtfakdphkklclgaaW.PrintWords Go.Proofs.YtfakdphkklclgaaW.PrintLast Go.Proofs.YtfakdphkklclgaaW.PrintMore
attribute [local go_sem] max2_int min2_int max_two min_two max_three min_three max_four min_four
set_option linter.unusedVariables false
set_option linter.unusedSimpArgs false
section
open Go.ChangeMaps Go.MapKept
set_option linter.unusedVariables false
structure LSt (w0 : World) (bx g : Nat) (s : Sto) (cs : Array Value) (F Z : Nat → Prop) (W : World) : Prop where
  rows : Rws w0 [(bx, 29, cs)] W
  st : SAt w0.heap.size F g s W
  dt : DAt Z (.agg cs) s W
  dis : ∀ k, Z k → ¬ F k
  nF : ¬ F bx
  nZ : ¬ Z bx
section
variable {w0 W W1 : World} {bx g : Nat} {s : Sto} {cs : Array Value} {F Z S : Nat → Prop}
theorem LSt.kept (h : LSt w0 bx g s cs F Z W) (hk : Kept W W1 S) (hS : ∀ k, F k ∨ Z k ∨ k = bx → ¬ S k) (hb : Below w0.heap.size w0 W1) : LSt w0 bx g s cs F Z W1 :=
  ⟨h.rows.keptF hk (fun p hp => by rw [List.mem_singleton.1 hp]; exact hS _ (.inr (.inr rfl))) hb, h.st.kept hk (fun k q => hS k (.inl q)), h.dt.kept hk (fun k q => hS k (.inr (.inl q))), h.dis, h.nF, h.nZ⟩
theorem LSt.step (h : LSt w0 bx g s cs F Z W) (hb : Below W.heap.size W W1) : LSt w0 bx g s cs F Z W1 :=
  h.kept (S := fun _ => False) (Kept.of_below hb _) (fun _ _ q => q) (h.rows.step hb).below
theorem LSt.bx_lt (h : LSt w0 bx g s cs F Z W) : bx < W.heap.size := blk_lt (h.rows.mem List.mem_cons_self)
end
theorem LSt.done {w0 w5 w9 W : World} {bx g : Nat} {s s' : Sto} {cs cs' : Array Value} {F Z F' Z' : Nat → Prop} (h : LSt w0 bx g s cs F Z W) (hF : ∀ k, F' k → F k ∨ W.heap.size ≤ k) (hZ : ∀ k, Z' k → Z k ∨ W.heap.size ≤ k) (hd : ∀ k, Z' k → ¬ F' k) (hS : SAt w0.heap.size F' g s' w5) (hD : DAt Z' (.agg cs') s' w5) (hk : Kept w5 w9 (fun k => k = bx)) (hm : Rws w0 [(bx, 29, cs')] w9) : LSt w0 bx g s' cs' F' Z' w9 := by
  have hl := h.bx_lt
  have n1 : ¬ F' bx := fun q => (hF bx q).elim h.nF (fun q => by omega)
  have n2 : ¬ Z' bx := fun q => (hZ bx q).elim h.nZ (fun q => by omega)
  exact ⟨hm, hS.kept hk (fun k q e => n1 (e ▸ q)), hD.kept hk (fun k q e => n2 (e ▸ q)), hd, n1, n2⟩
theorem Rws.single {w0 W : World} {p : Nat × TypeId × Array Value} {l : List (Nat × TypeId × Array Value)} (h : Rws w0 l W) (hp : p ∈ l) : Rws w0 [p] W := ⟨fun q hq => by rw [List.mem_singleton.1 hq]; exact h.lies p hp, by simp, h.below⟩
theorem umod (z : Int) (k : Int) (hk : 0 < k) (hk2 : k ≤ 1000) : wrap64 ((IntKind.u64.wrap z).tmod k) = (z % 18446744073709551616) % k := by
  have h1 : IntKind.u64.wrap z = z % 18446744073709551616 := by simp [IntKind.wrap, IntKind.signed, IntKind.bits]
  rw [h1, Int.tmod_eq_emod_of_nonneg (by omega)]
  have h2 := Int.emod_lt_of_pos (z % 18446744073709551616) hk
  have h3 := Int.emod_nonneg (z % 18446744073709551616) (show k ≠ 0 by omega)
  generalize (z % 18446744073709551616) % k = q at h2 h3
  unfold wrap64
  omega
theorem umod2 (z : Int) : wrap64 ((IntKind.u64.wrap z).tmod 2) = z % 2 := by
  rw [umod z 2 (by decide) (by decide)]
  exact Int.emod_emod_of_dvd z ⟨9223372036854775808, by decide⟩
end
end Go.Proofs.Ytfakdphkklclgaa.P

end

section
namespace Go.Proofs.Ytfakdphkklclgaa.P
open Go.RowKit Go.Proofs.YtfakdphkklclgaaW.PrintWords Go.Proofs.YtfakdphkklclgaaW.PrintLast Go.Proofs.YtfakdphkklclgaaW.PrintMore
attribute [local go_sem] max2_int min2_int max_two min_two max_three min_three max_four min_four
set_option linter.unusedVariables false
set_option linter.unusedSimpArgs false
section
open Go.ChangeMaps Go.MapKept
set_option linter.unusedVariables false
theorem lk_put_ne {nm : ByteArray → Bool} {s : Sto} {x y : ByteArray} (b : List Int) (h : y ≠ x) : lkL (putS nm s x b).1.L y = lkL s.L y := by
  unfold putS
  split
  · rfl
  split
  · rfl
  split
  · rfl
  rcases laid_cases s (putL x b s.L) (recB 1 x b) with e | ⟨_, e⟩
  · rw [e]
  · rw [e]; show lkL (putL x b s.L) y = _; rw [lk_put, if_neg h]
theorem lk_drop_ne {nm : ByteArray → Bool} {s : Sto} {x y : ByteArray} (hs : Srt s.L) (h : y ≠ x) : lkL (dropS nm s x).1.L y = lkL s.L y := by
  unfold dropS
  split
  · rfl
  split
  · rfl
  rcases laid_cases s (cutL x s.L) (recB 2 x []) with e | ⟨_, e⟩
  · rw [e]
  · rw [e]; show lkL (cutL x s.L) y = _; rw [lk_cut x hs, if_neg h]
theorem last_ok {nm : ByteArray → Bool} {x : ByteArray} {b : List Int} (h : (putS nm ⟨[], []⟩ x b).2.2 = 0) {s : Sto} (hs : lkL s.L x = lkL (putS nm ⟨[], []⟩ x b).1.L x) : getS nm s x = (b, 0) := by
  unfold putS at h hs
  by_cases c1 : nm x = false
  · rw [if_pos c1] at h; cases h
  rw [if_neg c1] at h hs
  by_cases c2 : 4096 < b.length
  · rw [if_pos c2] at h; cases h
  rw [if_neg c2] at h hs
  by_cases c3 : lkL (Sto.mk [] []).L x = none ∧ 16 ≤ (Sto.mk [] []).L.length
  · rw [if_pos c3] at h; cases h
  rw [if_neg c3] at h hs
  unfold laidS at h hs
  split at h
  · cases h
  · rename_i c4
    rw [if_neg c4] at hs
    unfold getS
    rw [if_neg c1, hs]
    have : lkL (putL x b []) x = some b := by rw [lk_put, if_pos rfl]
    rw [this]
theorem last_bad {nm : ByteArray → Bool} {x : ByteArray} {b : List Int} (h : (putS nm ⟨[], []⟩ x b).2.2 ≠ 0) {s : Sto} (hs : lkL s.L x = lkL (putS nm ⟨[], []⟩ x b).1.L x) : (getS nm s x).2 ≠ 0 ∧ (getS nm s x).1 = [] := by
  have hl : nm x = false ∨ lkL (putS nm ⟨[], []⟩ x b).1.L x = none := by
    unfold putS at h ⊢
    by_cases c1 : nm x = false
    · exact .inl c1
    rw [if_neg c1] at h ⊢
    by_cases c2 : 4096 < b.length
    · rw [if_pos c2]; exact .inr rfl
    rw [if_neg c2] at h ⊢
    by_cases c3 : lkL (Sto.mk [] []).L x = none ∧ 16 ≤ (Sto.mk [] []).L.length
    · rw [if_pos c3]; exact .inr rfl
    rw [if_neg c3] at h ⊢
    unfold laidS at h ⊢
    split
    · exact .inr rfl
    · rename_i c4
      rw [if_neg c4] at h
      exact absurd rfl h
  unfold getS
  rcases hl with c | c
  · rw [if_pos c]; exact ⟨by decide, rfl⟩
  · by_cases c1 : nm x = false
    · rw [if_pos c1]; exact ⟨by decide, rfl⟩
    · rw [if_neg c1, hs, c]; exact ⟨by decide, rfl⟩
def provisolaw21_StoreLast.Facts (l0 : List S37) (a1 : ByteArray) (l2 : List Int) : Prop := (a1.size ≤ maxLen ∧ l2.length ≤ 140737488351232 ∧ ∀ z ∈ l2, 0 ≤ z ∧ z ≤ 255) ∧ (∃ (K : Nat) (nm : ByteArray → Bool), LFacts K nm) ∧ l0.length ≤ 8796093022207 ∧ ∀ (i : Nat) (hi : i < l0.length), l0[i].f1.size ≤ maxLen ∧ l0[i].f2.length ≤ 140737488351232 ∧ ∀ z ∈ l0[i].f2, 0 ≤ z ∧ z ≤ 255
end
end Go.Proofs.Ytfakdphkklclgaa.P
end

