/- Proved: the law StoreOpens holds for every input that the row lets in. No condition of ours. -/
import Derived.Test.YtfakdphkklclgaaBStoreOpensc
import Derived.Shelf.SlIter.Nil
import Derived.Shelf.SortM.Plain
import Derived.Shelf.SortM.SortNone
import Derived.Ground.GgzProg
import Derived.Ground.SlgmProg
import Derived.Test.YtfakdphkklclgaaRows
import Derived.ShutString
import Derived.ChangeOld
import Derived.Lib.SmallJoins
section
namespace Go.Proofs.Ytfakdphkklclgaa.P
open Go.RowKit Go.Proofs.YtfakdphkklclgaaW.PrintWords Go.Proofs.YtfakdphkklclgaaW.PrintLast Go.Proofs.YtfakdphkklclgaaW.PrintMore
attribute [local go_sem] max2_int min2_int max_two min_two max_three min_three max_four min_four
set_option linter.unusedVariables false
set_option linter.unusedSimpArgs false
set_option maxHeartbeats 3200000 in
set_option maxRecDepth 100000 in
theorem Name_1 (K : Nat) (nm : ByteArray → Bool) (hK : RdFacts K nm) {base g : Nat} {bs : List Int} {at_ : Nat} (W : World) (h : Rd1 base g bs at_ W) : Calls Try.prog 73 #[.pointer (some ⟨g, 0, none⟩)] W fun e w' => e = .returned (.tuple #[.string (nameR nm bs at_).1, .int .i64 (nameR nm bs at_).2.2]) ∧ RP base g bs (nameR nm bs at_).2.1 W w' := by
  have ha := h
  have hle := ha.rd.le
  obtain ⟨v0, h3, h4⟩ := ha.rd.now
  have hc := blk_cell h3 1
  have H := Aside0.mk h
  have HK := Aside0.mk hK
  have HA := Aside0.mk ha.rd
  have HLIM := Aside0.mk ha.lim
  have HBY := Aside0.mk ha.by_
  clear hK h3 ha h4
  obtain ⟨out, hout⟩ : ∃ out, out = nameR nm bs at_ := ⟨_, rfl⟩
  rw [← hout]
  unfold nameR at hout
  by_cases c1 : bs.length < at_ + 1
  · rw [if_pos c1] at hout
    subst hout
    have HB2 := Aside0.mk (Byte_bad1 h c1)
    clear c1 h
    go_enter Try.func73, Try.ntmps73
    go_wp2_with fail
    refine (ready_rd HA.out).mono ?_
    rintro e w1 ⟨rfl, m, rfl⟩
    go_wp2_with fail
    refine (HB2.out m).mono ?_
    rintro e w2 ⟨rfl, hp⟩
    obtain ⟨vz, h5⟩ := hp.cells
    have hf1 := blk_frozen h5 1
    have hc1 := blk_cell h5 1
    have HPB := Aside0.mk (hp.back _ hle)
    clear hp h5
    go_wp2_with fail
    go_ret2
    exact ⟨rfl, HPB.out⟩
  · rw [if_neg c1] at hout
    have hB := Byte_good1 h (by omega)
    have hrg := rd_range _ HBY.out at_ (by omega)
    obtain ⟨z, hz⟩ : ∃ z, rd bs (at_ : Int) = (z : Int) ∧ (0 : Int) ≤ z := ⟨_, rfl, hrg.1⟩
    obtain ⟨hz, hz0⟩ := hz
    rw [hz] at hB hout
    by_cases c2 : z = 0 ∨ 24 < z
    · rw [if_pos c2] at hout
      by_cases c3 : z = 0
      · subst c3
        subst hout
        have HB2 := Aside0.mk (hB)
        clear c1 h hB c2 hrg hz hz0
        go_enter Try.func73, Try.ntmps73
        go_wp2_with fail
        refine (ready_rd HA.out).mono ?_
        rintro e w1 ⟨rfl, m, rfl⟩
        go_wp2_with fail
        refine (HB2.out m).mono ?_
        rintro e w2 ⟨rfl, hp⟩
        obtain ⟨vz, h5⟩ := hp.cells
        have hf1 := blk_frozen h5 1
        have hc1 := blk_cell h5 1
        have HPB := Aside0.mk (hp.back _ hle)
        clear hp h5
        go_wp2_with fail
        go_ret2
        exact ⟨rfl, HPB.out⟩
      · have c3b : (z == 0) = false := beq_eq_false_iff_ne.mpr c3
        have c4b : decide ((24 : Int) < z) = true := decide_eq_true (by omega)
        subst hout
        have HB2 := Aside0.mk (hB)
        clear c1 h hB c2 c3 hrg hz hz0
        go_enter Try.func73, Try.ntmps73
        go_wp2_with fail
        refine (ready_rd HA.out).mono ?_
        rintro e w1 ⟨rfl, m, rfl⟩
        go_wp2_with fail
        refine (HB2.out m).mono ?_
        rintro e w2 ⟨rfl, hp⟩
        obtain ⟨vz, h5⟩ := hp.cells
        have hf1 := blk_frozen h5 1
        have hc1 := blk_cell h5 1
        have HPB := Aside0.mk (hp.back _ hle)
        clear hp h5
        go_wp2_with fail
        go_ret2
        exact ⟨rfl, HPB.out⟩
    · rw [if_neg c2] at hout
      have c3b : (z == 0) = false := beq_eq_false_iff_ne.mpr (by omega)
      have c4b : decide ((24 : Int) < z) = false := decide_eq_false (by omega)
      obtain ⟨y, hy⟩ : ∃ y : Nat, z = (y : Int) := ⟨z.toNat, by omega⟩
      subst hy
      rw [Int.toNat_natCast] at hout
      have hy1 : 1 ≤ y ∧ y ≤ 24 := by omega
      by_cases c5 : bs.length < at_ + 1 + y
      · rw [if_pos c5] at hout
        subst hout
        have HB2 := Aside0.mk (hB)
        clear h hB c2 hrg hz hz0
        go_enter Try.func73, Try.ntmps73
        go_wp2_with fail
        refine (ready_rd HA.out).mono ?_
        rintro e w1 ⟨rfl, m, rfl⟩
        go_wp2_with fail
        refine (HB2.out m).mono ?_
        rintro e w2 ⟨rfl, hp⟩
        have hnb := next_bad (hp.rdAt) (y : Int) (.inr (by omega))
        rw [if_neg (by omega)] at hnb
        have HNB := Aside0.mk hnb
        have HP := Aside0.mk hp
        clear hp hnb hc c5 c1 hy1
        go_wp2_with fail
        refine HNB.out.mono ?_
        rintro e w3 ⟨rfl, m3, rfl⟩
        have hp := HP.out.drew m3
        obtain ⟨vz, h5⟩ := hp.cells
        have hf1 := blk_frozen h5 1
        have hc1 := blk_cell h5 1
        have HPB := Aside0.mk (hp.back _ hle)
        clear hp h5
        go_wp2_with fail
        go_ret2
        exact ⟨rfl, HPB.out⟩
      · rw [if_neg c5] at hout
        obtain ⟨sg, hsg⟩ : ∃ sg, sg = seg bs (at_ + 1) y := ⟨_, rfl⟩
        have hsl := seg_len bs (at_ + 1) y (by omega)
        rw [← hsg] at hout hsl
        by_cases c6 : nm (strOfNums sg) = true
        · rw [if_pos c6] at hout
          subst hout
          have HB2 := Aside0.mk (hB)
          clear h hB c2 hrg hz hz0
          go_enter Try.func73, Try.ntmps73
          go_wp2_with fail
          refine (ready_rd HA.out).mono ?_
          rintro e w1 ⟨rfl, m, rfl⟩
          go_wp2_with fail
          refine (HB2.out m).mono ?_
          rintro e w2 ⟨rfl, hp⟩
          have hng := next_good (hp.rdAt) y (by omega)
          rw [show (bs.take (at_ + 1 + y)).drop (at_ + 1) = sg from hsg.symm] at hng
          have HNB := Aside0.mk hng
          have HP := Aside0.mk hp
          have HLE := Aside0.mk (show at_ + 1 + y ≤ bs.length by omega)
          clear hp hng hc c5 c1 hy1 hsg
          go_wp2_with fail
          refine HNB.out.mono ?_
          rintro e w3 ⟨A, cc, m4, m5, rfl, hcap, hw3, hC⟩
          have hp := HP.out.again _ HLE.out m4 m5
          rw [← hw3] at hp
          have hC1 : Kd.C (Kd.int .u8) w3 A sg.length sg := by rw [hsl]; exact hC
          have hconv := Kd.C_string (P := Try.prog) (c := cc) (src := 23) (dst := 9) Try.underlying23 Try.underlying5 Try.underlying9 hC1
          rw [hsl] at hconv
          have HC := Aside0.mk hC1
          have HP3 := Aside0.mk hp
          clear hcap hw3 hC hC1 HP HNB
          go_wp2_with fail
          refine (wire_IsName.calls K (strOfNums sg) _ _ (HK.out.name _)).mono ?_
          rintro e w4 ⟨rfl, m6, rfl⟩
          have hp := HP3.out.drew m6
          rw [c6]
          have hconv2 := Kd.C_string (P := Try.prog) (c := cc) (src := 23) (dst := 9) Try.underlying23 Try.underlying5 Try.underlying9 (Kd.C_drewN HC.out m6)
          rw [hsl] at hconv2
          have HPB := Aside0.mk hp
          clear hconv hp
          go_wp2_with fail
          go_ret2
          exact ⟨rfl, HPB.out⟩
        · rw [if_neg c6] at hout
          have c6 : nm (strOfNums sg) = false := by simpa using c6
          subst hout
          have HB2 := Aside0.mk (hB)
          clear h hB c2 hrg hz hz0
          go_enter Try.func73, Try.ntmps73
          go_wp2_with fail
          refine (ready_rd HA.out).mono ?_
          rintro e w1 ⟨rfl, m, rfl⟩
          go_wp2_with fail
          refine (HB2.out m).mono ?_
          rintro e w2 ⟨rfl, hp⟩
          have hng := next_good (hp.rdAt) y (by omega)
          rw [show (bs.take (at_ + 1 + y)).drop (at_ + 1) = sg from hsg.symm] at hng
          have HNB := Aside0.mk hng
          have HP := Aside0.mk hp
          have HLE := Aside0.mk (show at_ + 1 + y ≤ bs.length by omega)
          clear hp hng hc c5 c1 hy1 hsg
          go_wp2_with fail
          refine HNB.out.mono ?_
          rintro e w3 ⟨A, cc, m4, m5, rfl, hcap, hw3, hC⟩
          have hp := HP.out.again _ HLE.out m4 m5
          rw [← hw3] at hp
          have hC1 : Kd.C (Kd.int .u8) w3 A sg.length sg := by rw [hsl]; exact hC
          have hconv := Kd.C_string (P := Try.prog) (c := cc) (src := 23) (dst := 9) Try.underlying23 Try.underlying5 Try.underlying9 hC1
          rw [hsl] at hconv
          have HC := Aside0.mk hC1
          have HP3 := Aside0.mk hp
          clear hcap hw3 hC hC1 HP HNB
          go_wp2_with fail
          refine (wire_IsName.calls K (strOfNums sg) _ _ (HK.out.name _)).mono ?_
          rintro e w4 ⟨rfl, m6, rfl⟩
          have hp := HP3.out.drew m6
          rw [c6]
          obtain ⟨vz, h5⟩ := hp.cells
          have hf1 := blk_frozen h5 1
          have hc1 := blk_cell h5 1
          have HPB := Aside0.mk (hp.back _ hle)
          clear hp h5
          go_wp2_with fail
          go_ret2
          exact ⟨rfl, HPB.out⟩
set_option maxHeartbeats 3200000 in
set_option maxRecDepth 100000 in
theorem Name_d (K : Nat) (nm : ByteArray → Bool) (hK : RdFacts K nm) (bs : List Int) (hby : ∀ x ∈ bs, 0 ≤ x ∧ x ≤ 255) (hlim : bs.length ≤ 140737488351232) (a : Nat) (hle : a ≤ bs.length) (A : Option Addr) (c : Nat) (w : World) (hr : Kd.C (Kd.int .u8) w A bs.length bs) (hc : bs.length ≤ c) : Calls Try.prog 57 #[.slice A bs.length c, .int .i64 (a : Int)] w fun e w' => e = .returned (.tuple #[.string (nameR nm bs a).1, .int .i64 ((nameR nm bs a).2.1 : Int), .int .i64 (nameR nm bs a).2.2]) ∧ Below w.heap.size w w' := by
  have HR := Aside0.mk hr
  have HC := Aside0.mk hc
  have HK := Aside0.mk hK
  have HLIM := Aside0.mk hlim
  have HBY := Aside0.mk hby
  have hnum := provisoref01_Number.calls K A c bs a 1 _ _ _ w hr hc (hK.num 1 bs a (.inl rfl) hby hlim hle)
  clear hK hr hc hby
  obtain ⟨out, hout⟩ : ∃ out, out = nameR nm bs a := ⟨_, rfl⟩
  rw [← hout]
  unfold nameR at hout
  by_cases c1 : bs.length < a + 1
  · rw [if_pos c1] at hout
    rw [show numR 1 bs a = (0, a, 2) by unfold numR; rw [if_pos c1]] at hnum
    subst hout
    have HN := Aside0.mk hnum
    clear hnum c1
    go_enter Try.func57, Try.ntmps57
    go_wp2_with fail
    refine HN.out.mono ?_
    clear HN
    rintro e w1 ⟨rfl, m, rfl⟩
    go_wp2_with fail
    go_ret3
    exact ⟨rfl, pw_below_drewN (Below.refl _ _) _⟩
  · rw [if_neg c1] at hout
    rw [numR_one _ _ (by omega)] at hnum
    have hrg := rd_range _ HBY.out a (by omega)
    obtain ⟨z, hz⟩ : ∃ z, rd bs (a : Int) = (z : Int) ∧ (0 : Int) ≤ z := ⟨_, rfl, hrg.1⟩
    obtain ⟨hz, hz0⟩ := hz
    rw [hz] at hnum hout
    by_cases c2 : z = 0 ∨ 24 < z
    · rw [if_pos c2] at hout
      by_cases c3 : z = 0
      · subst c3
        subst hout
        have HN := Aside0.mk hnum
        clear hnum c1 c2 hrg hz hz0
        go_enter Try.func57, Try.ntmps57
        go_wp2_with fail
        refine HN.out.mono ?_
        clear HN
        rintro e w1 ⟨rfl, m, rfl⟩
        go_wp2_with fail
        go_ret3
        exact ⟨rfl, pw_below_drewN (Below.refl _ _) _⟩
      · have c3b : (z == 0) = false := beq_eq_false_iff_ne.mpr c3
        have c4b : decide ((24 : Int) < z) = true := decide_eq_true (by omega)
        subst hout
        have HN := Aside0.mk hnum
        clear hnum c1 c2 c3 hrg hz hz0
        go_enter Try.func57, Try.ntmps57
        go_wp2_with fail
        refine HN.out.mono ?_
        clear HN
        rintro e w1 ⟨rfl, m, rfl⟩
        go_wp2_with fail
        go_ret3
        exact ⟨rfl, pw_below_drewN (Below.refl _ _) _⟩
    · rw [if_neg c2] at hout
      have c3b : (z == 0) = false := beq_eq_false_iff_ne.mpr (by omega)
      have c4b : decide ((24 : Int) < z) = false := decide_eq_false (by omega)
      obtain ⟨y, hy⟩ : ∃ y : Nat, z = (y : Int) := ⟨z.toNat, by omega⟩
      subst hy
      rw [Int.toNat_natCast] at hout
      have hy1 : 1 ≤ y ∧ y ≤ 24 := by omega
      have htk := fun m => provisoref01_Take.calls K A c bs ((a + 1 : Nat) : Int) (y : Int) _ _ _ (w.drewN m) (Kd.C_drewN HR.out m) HC.out (HK.out.take bs (a + 1) (y : Int) HBY.out HLIM.out (by omega))
      unfold takeR at htk
      rw [if_neg (by omega)] at htk
      by_cases c5 : bs.length < a + 1 + y
      · rw [if_pos c5] at hout
        rw [if_pos (by omega)] at htk
        have HT := Aside0.mk htk
        clear htk
        subst hout
        have HN := Aside0.mk hnum
        clear hnum c1 c2 c5 hy1 hrg hz hz0 hlim hle
        go_enter Try.func57, Try.ntmps57
        go_wp2_with fail
        refine HN.out.mono ?_
        clear HN
        rintro e w1 ⟨rfl, m, rfl⟩
        go_wp2_with fail
        refine (HT.out _).mono ?_
        rintro e w2 ⟨v, rfl, hR, hb⟩
        have HB := Aside0.mk (below_step (pw_below_drewN (Below.refl w.heap.size w) m) hb)
        clear hR hb
        go_wp2_with fail
        go_ret3
        exact ⟨rfl, HB.out⟩
      · rw [if_neg c5] at hout
        rw [if_neg (by omega), Int.toNat_natCast] at htk
        obtain ⟨sg, hsg⟩ : ∃ sg, sg = seg bs (a + 1) y := ⟨_, rfl⟩
        have hsl := seg_len bs (a + 1) y (by omega)
        rw [← hsg] at hout hsl htk
        have HT := Aside0.mk htk
        clear htk
        by_cases c6 : nm (strOfNums sg) = true
        · rw [if_pos c6] at hout
          subst hout
          have HN := Aside0.mk hnum
          clear hnum c1 c2 c5 hy1 hrg hz hz0 hlim hle hsg
          go_enter Try.func57, Try.ntmps57
          go_wp2_with fail
          refine HN.out.mono ?_
          clear HN
          rintro e w1 ⟨rfl, m, rfl⟩
          go_wp2_with fail
          refine (HT.out _).mono ?_
          rintro e w2 ⟨v, rfl, hR, hb⟩
          have HB := Aside0.mk (below_step (pw_below_drewN (Below.refl w.heap.size w) m) hb)
          obtain ⟨A3, c3, e3, hc3, hC3⟩ := Kd.R_reads hR
          subst e3
          have hconv := Kd.C_string (P := Try.prog) (c := c3) (src := 23) (dst := 9) Try.underlying23 Try.underlying5 Try.underlying9 hC3
          rw [hsl] at hconv
          have HC3 := Aside0.mk hC3
          clear hR hb hc3 hC3
          go_wp2_with fail
          refine (provisoref01_IsName.calls K (strOfNums sg) _ _ (HK.out.rname _)).mono ?_
          rintro e w4 ⟨rfl, m6, rfl⟩
          rw [c6]
          have hconv2 := Kd.C_string (P := Try.prog) (c := c3) (src := 23) (dst := 9) Try.underlying23 Try.underlying5 Try.underlying9 (Kd.C_drewN HC3.out m6)
          rw [hsl] at hconv2
          clear hconv
          go_wp2_with fail
          go_ret3
          exact ⟨rfl, pw_below_drewN HB.out m6⟩
        · rw [if_neg c6] at hout
          have c6 : nm (strOfNums sg) = false := by simpa using c6
          subst hout
          have HN := Aside0.mk hnum
          clear hnum c1 c2 c5 hy1 hrg hz hz0 hlim hle hsg
          go_enter Try.func57, Try.ntmps57
          go_wp2_with fail
          refine HN.out.mono ?_
          clear HN
          rintro e w1 ⟨rfl, m, rfl⟩
          go_wp2_with fail
          refine (HT.out _).mono ?_
          rintro e w2 ⟨v, rfl, hR, hb⟩
          have HB := Aside0.mk (below_step (pw_below_drewN (Below.refl w.heap.size w) m) hb)
          obtain ⟨A3, c3, e3, hc3, hC3⟩ := Kd.R_reads hR
          subst e3
          have hconv := Kd.C_string (P := Try.prog) (c := c3) (src := 23) (dst := 9) Try.underlying23 Try.underlying5 Try.underlying9 hC3
          rw [hsl] at hconv
          have HC3 := Aside0.mk hC3
          clear hR hb hc3 hC3
          go_wp2_with fail
          refine (provisoref01_IsName.calls K (strOfNums sg) _ _ (HK.out.rname _)).mono ?_
          rintro e w4 ⟨rfl, m6, rfl⟩
          rw [c6]
          go_wp2_with fail
          go_ret3
          exact ⟨rfl, pw_below_drewN HB.out m6⟩
end Go.Proofs.Ytfakdphkklclgaa.P

end

section
namespace Go.Proofs.Ytfakdphkklclgaa.P
open Go.RowKit Go.Proofs.YtfakdphkklclgaaW.PrintWords Go.Proofs.YtfakdphkklclgaaW.PrintLast Go.Proofs.YtfakdphkklclgaaW.PrintMore
attribute [local go_sem] max2_int min2_int max_two min_two max_three min_three max_four min_four
set_option linter.unusedVariables false
set_option linter.unusedSimpArgs false
section
open Go.ChangeMaps Go.MapKept
structure Sto where
  img : List Int
  L : List S101
def lessB (a b : ByteArray) : Bool := Op.bytesLess a.toList b.toList
def lkL : List S101 → ByteArray → Option (List Int)
  | [], _ => none
  | k :: l, x => if k.f0 = x then some k.f1 else lkL l x
def putL (x : ByteArray) (b : List Int) : List S101 → List S101
  | [] => [⟨x, b⟩]
  | k :: l => if lessB k.f0 x = true then k :: putL x b l else if k.f0 = x then ⟨x, b⟩ :: l else ⟨x, b⟩ :: k :: l
def cutL (x : ByteArray) : List S101 → List S101
  | [] => []
  | k :: l => if lessB k.f0 x = true then k :: cutL x l else if k.f0 = x then l else k :: l
def posL (x : ByteArray) (L : List S101) : Nat := (L.takeWhile fun k => lessB k.f0 x).length
def Srt (L : List S101) : Prop := L.Pairwise fun a b => lessB a.f0 b.f0 = true
def getS (nm : ByteArray → Bool) (s : Sto) (x : ByteArray) : List Int × Int :=
  if nm x = false then ([], 6) else match lkL s.L x with
    | none => ([], 211)
    | some b => (b, 0)
structure Good (nm : ByteArray → Bool) (s : Sto) : Prop where
  img : s.img.length ≤ 1048576
  by_ : ∀ x ∈ s.img, 0 ≤ x ∧ x ≤ 255
  len : s.L.length ≤ 16
  srt : Srt s.L
  nam : ∀ k ∈ s.L, nm k.f0 = true
  val : ∀ k ∈ s.L, k.f1.length ≤ 4096 ∧ ∀ x ∈ k.f1, 0 ≤ x ∧ x ≤ 255
structure StFacts (K : Nat) (nm : ByteArray → Bool) : Prop where
  rd : RdFacts K nm
  siz : ∀ x, nm x = true → 1 ≤ x.size ∧ x.size ≤ 24
  place : ∀ L x, L.length ≤ 17 → Srt L → provisoref21_place.f K L x = some ((posL x L : Int), (lkL L x).isSome)
  with_ : ∀ L x b, L.length ≤ 17 → Srt L → provisoref21_with.f K L x b = some (putL x b L)
  wout : ∀ L x, L.length ≤ 17 → Srt L → provisoref21_without.f K L x = some (cutL x L)
  eqs : ∀ xs : List ByteArray, xs.length ≤ 17 → slices_Equal_string_string.f K xs xs = some true
  wr : ∀ ws : List S52, ws.length ≤ 2 → (∀ x ∈ ws, x.f1.length ≤ 2097152) → provisoplain_SameWrites.f K ws ws = some true
theorem hm_tight {W : World} {B n : Nat} {g : ByteArray → Option Hd} {sz : Nat} (h : HMap W B n g sz) : HMap W B sz g sz := by
  obtain ⟨D, ⟨es, clock, h1, h2, h3, h4⟩, h5, h6, h7⟩ := h
  refine ⟨D, ⟨es, clock, h1, h2, ?_, h4⟩, h5, h6, h7⟩
  have h8 : Maps.size D = es.size := by rw [h4]; exact length_read es
  omega
structure SAt (base : Nat) (F : Nat → Prop) (g : Nat) (s : Sto) (W : World) : Prop where
  now : ∃ (v : Value) (B : Nat) (h : ByteArray → Option Hd), W.heap[g]? = some (.cells #[v, .map (some B), .bool true] 62 (0, 0)) ∧ Kd.R (Kd.int .u8) 5 W base F v s.img ∧ HMap W B s.L.length h s.L.length ∧ F B ∧ (∀ x, (h x).isSome = (lkL s.L x).isSome) ∧
    ∀ x d, h x = some d → ∀ xs, lkL s.L x = some xs → d.n = xs.length ∧ xs.length ≤ d.c ∧ Kd.F (Kd.int .u8) W (fun b => F b ∧ v.ownBlock ≠ some b ∧ b ≠ B ∧ b ≠ g) d.A xs.length xs
  fs : F g
  lt : ∀ b, F b → base ≤ b ∧ b < W.heap.size
section
variable {base g : Nat} {F F' S : Nat → Prop} {s : Sto} {W W1 w : World}
theorem SAt.kept (h : SAt base F g s W) (hk : Kept W W1 S) (hS : ∀ b, F b → ¬ S b) : SAt base F g s W1 := by
  obtain ⟨⟨v, B, m, h1, h2, h3, h4, h5, h6⟩, hf, hl⟩ := h
  exact ⟨⟨v, B, m, blk_kept h1 hk (hS _ hf), Kd.R_kept h2 hk hS, h3.block (hk.2 B h3.lt (hS _ h4)), h4, h5, fun x d hd xs hx => ⟨(h6 x d hd xs hx).1, (h6 x d hd xs hx).2.1, Kd.F_kept (h6 x d hd xs hx).2.2 hk (fun b q => hS b q.1)⟩⟩, hf, fun b q => ⟨(hl b q).1, Nat.lt_of_lt_of_le (hl b q).2 hk.1⟩⟩
theorem SAt.step (h : SAt base F g s W) (hb : Below W.heap.size W W1) : SAt base F g s W1 := h.kept (S := fun _ => False) (Kept.of_below hb _) (fun _ _ q => q)
theorem SAt.more (h : SAt base F g s W) (hF : ∀ b, F b → F' b) (hl : ∀ b, F' b → base ≤ b ∧ b < W.heap.size) : SAt base F' g s W := by
  obtain ⟨⟨v, B, m, h1, h2, h3, h4, h5, h6⟩, hf, _⟩ := h
  exact ⟨⟨v, B, m, h1, Kd.R_mono h2 hF, h3, hF _ h4, h5, fun x d hd xs hx => ⟨(h6 x d hd xs hx).1, (h6 x d hd xs hx).2.1, Kd.F_mono (h6 x d hd xs hx).2.2 (fun b q => ⟨hF _ q.1, q.2⟩)⟩⟩, hF _ hf, hl⟩
theorem lk_hd {h : ByteArray → Option Hd} {L : List S101} (h5 : ∀ x, (h x).isSome = (lkL L x).isSome) (x : ByteArray) : (lkL L x = none ∧ h x = none) ∨ ∃ d xs, h x = some d ∧ lkL L x = some xs := by
  have := h5 x
  cases e1 : h x <;> cases e2 : lkL L x <;> rw [e1, e2] at this <;> simp at this ⊢
set_option maxHeartbeats 3200000 in
set_option maxRecDepth 100000 in
theorem ready_st (h : SAt base F g s w) : Calls Try.prog 34 #[.pointer (some ⟨g, 0, none⟩)] w fun e w' => e = .returned (.bool true) ∧ Drawn0 w w' := by
  obtain ⟨⟨v, B, m, h1, _⟩, _, _⟩ := h
  have hc := blk_cell h1 2
  clear h1
  go_enter Try.func34, Try.ntmps34
  go_wp2
  go_ret
  exact ⟨rfl, 0, rfl⟩
set_option maxHeartbeats 3200000 in
set_option maxRecDepth 100000 in
theorem cloned_calls (A : Option Addr) (c : Nat) (xs : List Int) (w : World) (hr : Kd.C (Kd.int .u8) w A xs.length xs) (hlim : xs.length ≤ 281474976710656) : Calls Try.prog 40 #[.slice A xs.length c] w fun e w' => ∃ v, e = .returned v ∧ Kd.R (Kd.int .u8) 5 w' w.heap.size (fun _ => True) v xs ∧ Below w.heap.size w w' := by
  have HR := Aside0.mk hr
  have HL := Aside0.mk hlim
  have hlen : xs.length ≤ 9223372036854775807 := hr.2.1
  clear hr hlim
  go_enter Try.func40, Try.ntmps40
  go_wp2_with (first | ((with_reducible refine gate_dst (N := 6) rfl ?_); refine Kd.R_make (Kd.int .u8) (w0 := w) w.heap.size 5 rfl (N := 6) rfl 23 (.tmp 5) (.tmp 5) rfl (xs.length : Int) rfl rfl Try.underlying23 (.int .u8 0) 1 info5 rfl (by decide) (by decide) 0 (ok := fun _ => True) (okp := fun _ => True) rfl (fun _ h => h) trivial (by omega) ?hl (Below.refl _ _) (Nat.le_refl _) ?_; (case hl => have := HL.out; rw [Int.toNat_natCast]; omega); intro v1 w1 ho hb hg hat; rw [Int.toNat_natCast] at ho; have HB := Aside0.mk hb; obtain ⟨Av, cv, e1⟩ := Kd.R_slice ho; rw [List.length_replicate] at e1; subst e1; obtain ⟨w2, hrun, hR2, hg2⟩ := copy_own (P := Try.prog) (ty := 3) (cA := c) Try.underlying23 (by kernel_rfl) ho (Kd.C_below HR.out hb) (by simp); have HR2 := Aside0.mk hR2; have HG2 := Aside0.mk (Below.grown hb hg2 hb.size (fun k hk => (Kd.R_base_ ho k hk))); clear ho hb hg hat hR2 hg2))
  go_ret
  exact ⟨_, rfl, HR2.out, HG2.out⟩
set_option maxHeartbeats 3200000 in
set_option maxRecDepth 100000 in
theorem New_st (w : World) : Calls Try.prog 10 #[] w fun e w' => ∃ g, e = .returned (.pointer (some ⟨g, 0, none⟩)) ∧ SAt w.heap.size (fun b => w.heap.size ≤ b ∧ b < w'.heap.size) g ⟨[], []⟩ w' ∧ Below w.heap.size w w' := by
  go_enter Try.func10, Try.ntmps10
  go_wp2_with (first | ((with_reducible refine gate_dst (N := 1) rfl ?_); refine hm_make rfl rfl ?_; intro hM; have HM := Aside0.mk hM; clear hM))
  have h1 := blk_new (w.alloc (.map #[] 0)) (.cells #[.slice none 0 0, .map (some w.heap.size), .bool true] 62)
  have h2 := below_alloc (below_alloc (Below.refl w.heap.size w) (.map #[] 0)) (.cells #[.slice none 0 0, .map (some w.heap.size), .bool true] 62)
  have h3 : (w.alloc (.map #[] 0)).heap.size = w.heap.size + 1 := by simp
  go_ret
  refine ⟨w.heap.size + 1, rfl, ⟨⟨_, w.heap.size, fun _ => none, by rw [← h3]; exact h1, Kd.R_nil _ _ _ _ _, HM.out.block (heap_alloc_old _ _ (by omega)), ?_, fun _ => rfl, fun x d hd => by cases hd⟩, ?_, fun b q => q⟩, h2⟩
  · show w.heap.size ≤ w.heap.size ∧ w.heap.size < _
    simp; omega
  · show w.heap.size ≤ w.heap.size + 1 ∧ w.heap.size + 1 < _
    simp
set_option maxHeartbeats 3200000 in
set_option maxRecDepth 100000 in
theorem get_st (K : Nat) (nm : ByteArray → Bool) (hK : StFacts K nm) (x : ByteArray) (hx : x.size ≤ maxLen) (h : SAt base F g s w) : Calls Try.prog 47 #[.pointer (some ⟨g, 0, none⟩), .string x] w fun e w' => ∃ A c, e = .returned (.tuple #[.slice A (getS nm s x).1.length c, .int .i64 (getS nm s x).2]) ∧ (getS nm s x).1.length ≤ c ∧ Kd.F (Kd.int .u8) w F A (getS nm s x).1.length (getS nm s x).1 ∧ Drawn0 w w' := by
  have H := Aside0.mk h
  have HX := Aside0.mk hx
  have HN := Aside0.mk (hK.rd.name x)
  obtain ⟨⟨v, B, m, h1, h2, h3, h4, h5, h6⟩, hf, hl⟩ := h
  have hc1 := blk_cell h1 1
  have H3 := Aside0.mk h3
  have hlk := lk_hd h5 x
  have H6 := Aside0.mk (h6 x)
  clear h1 h2 h3 h4 h5 h6 hf hl hx hK
  by_cases c1 : nm x = false
  · rw [c1] at HN
    go_enter Try.func47, Try.ntmps47
    go_wp2_with fail
    refine (ready_st H.out).mono ?_
    rintro e w1 ⟨rfl, k1, rfl⟩
    replace hc1 := show (w.drewN k1).cell? ⟨g, 1, none⟩ = _ from hc1
    replace H3 := Aside0.mk (H3.out.block (W1 := w.drewN k1) rfl)
    go_wp2_with (first | ((with_reducible refine gate_dst (N := 17) rfl ?_); refine hm_look_ok rfl rfl rfl H3.out rfl HX.out ?_))
    go_wp2_with fail
    refine (wire_IsName.calls K x _ _ HN.out).mono ?_
    rintro e w2 ⟨rfl, k2, rfl⟩
    go_wp2_with fail
    go_ret2
    unfold getS
    rw [if_pos c1]
    exact ⟨none, 0, rfl, Nat.le_refl _, Kd.F_nil _ _ _, _, rfl⟩
  · rw [Bool.not_eq_false] at c1
    rw [c1] at HN
    rcases hlk with ⟨g1, g2⟩ | ⟨d, xs, g1, g2⟩
    · have g3 : (m x).isSome = false := by rw [g2]; rfl
      go_enter Try.func47, Try.ntmps47
      go_wp2_with fail
      refine (ready_st H.out).mono ?_
      rintro e w1 ⟨rfl, k1, rfl⟩
      replace hc1 := show (w.drewN k1).cell? ⟨g, 1, none⟩ = _ from hc1
      replace H3 := Aside0.mk (H3.out.block (W1 := w.drewN k1) rfl)
      go_wp2_with (first | ((with_reducible refine gate_dst (N := 17) rfl ?_); refine hm_look_ok rfl rfl rfl H3.out rfl HX.out ?_))
      go_wp2_with fail
      refine (wire_IsName.calls K x _ _ HN.out).mono ?_
      rintro e w2 ⟨rfl, k2, rfl⟩
      go_wp2_with fail
      go_ret2
      unfold getS
      rw [if_neg (by rw [c1]; decide), g1]
      exact ⟨none, 0, rfl, Nat.le_refl _, Kd.F_nil _ _ _, _, rfl⟩
    · have g3 : (m x).isSome = true := by rw [g1]; rfl
      obtain ⟨A, n, c⟩ := d
      obtain ⟨e1, e2, e3⟩ := H6.out _ g1 xs g2
      simp only at e1 e2 e3
      subst e1
      have HE3 := Aside0.mk e3
      clear e3 H6
      have g4 : ((m x).getD hz).v = .slice A xs.length c := by rw [g1]; rfl
      go_enter Try.func47, Try.ntmps47
      go_wp2_with fail
      refine (ready_st H.out).mono ?_
      rintro e w1 ⟨rfl, k1, rfl⟩
      replace hc1 := show (w.drewN k1).cell? ⟨g, 1, none⟩ = _ from hc1
      replace H3 := Aside0.mk (H3.out.block (W1 := w.drewN k1) rfl)
      go_wp2_with (first | ((with_reducible refine gate_dst (N := 17) rfl ?_); refine hm_look_ok rfl rfl rfl H3.out rfl HX.out ?_))
      go_wp2_with fail
      refine (wire_IsName.calls K x _ _ HN.out).mono ?_
      rintro e w2 ⟨rfl, k2, rfl⟩
      go_wp2_with fail
      go_ret2
      unfold getS
      rw [if_neg (by rw [c1]; decide), g2]
      exact ⟨A, c, rfl, e2, Kd.F_mono HE3.out (fun b q => q.1), _, rfl⟩
theorem getS_bad {nm : ByteArray → Bool} {s : Sto} {x : ByteArray} (h : (getS nm s x).2 ≠ 0) : (getS nm s x).1 = [] := by
  unfold getS at h ⊢
  split
  · rfl
  · rename_i h1
    rw [if_neg h1] at h
    cases hl : lkL s.L x with
    | none => rfl
    | some b => rw [hl] at h; exact absurd rfl h
theorem getS_len {nm : ByteArray → Bool} {s : Sto} (hg : Good nm s) (x : ByteArray) : (getS nm s x).1.length ≤ 4096 := by
  unfold getS
  split
  · simp
  · cases hl : lkL s.L x with
    | none => simp
    | some b =>
      have : ∀ L : List S101, lkL L x = some b → ∃ k ∈ L, k.f1 = b := by
        intro L
        induction L with
        | nil => intro h; cases h
        | cons k l ih =>
          intro h
          unfold lkL at h
          split at h
          · cases h; exact ⟨k, by simp, rfl⟩
          · obtain ⟨k', h1, h2⟩ := ih h
            exact ⟨k', by simp [h1], h2⟩
      obtain ⟨k, h1, rfl⟩ := this _ hl
      exact (hg.val k h1).1
set_option maxHeartbeats 3200000 in
set_option maxRecDepth 100000 in
theorem Get_st (K : Nat) (nm : ByteArray → Bool) (hK : StFacts K nm) (hg : Good nm s) (x : ByteArray) (hx : x.size ≤ maxLen) (h : SAt base F g s w) : Calls Try.prog 15 #[.pointer (some ⟨g, 0, none⟩), .string x] w fun e w' => ∃ v, e = .returned (.tuple #[v, .int .i64 (getS nm s x).2]) ∧ Kd.R (Kd.int .u8) 5 w' w.heap.size (fun _ => True) v (getS nm s x).1 ∧ Below w.heap.size w w' := by
  have HG := Aside0.mk (get_st K nm hK x hx h)
  have hlen := getS_len hg x
  have hbad := getS_bad (nm := nm) (s := s) (x := x)
  obtain ⟨err, herr⟩ : ∃ err, err = (getS nm s x).2 := ⟨_, rfl⟩
  obtain ⟨bs, hbs⟩ : ∃ bs, bs = (getS nm s x).1 := ⟨_, rfl⟩
  rw [← herr, ← hbs] at HG hbad ⊢
  rw [← hbs] at hlen
  have HL := Aside0.mk hlen
  clear h hK hx hg herr hbs hlen
  by_cases c1 : err = 0
  · subst c1
    clear hbad
    go_enter Try.func15, Try.ntmps15
    go_wp2_with fail
    refine HG.out.mono ?_
    rintro e w1 ⟨A, c, rfl, hc, hF, k1, rfl⟩
    have HC := Aside0.mk hc
    have HF := Aside0.mk (Kd.F_now (Kd.F_drewN hF k1))
    clear hc hF HG
    go_wp2_with fail
    refine (cloned_calls A c bs _ HF.out (by have := HL.out; omega)).mono ?_
    rintro e w2 ⟨v, rfl, hR, hb⟩
    have HR := Aside0.mk hR
    have HB := Aside0.mk hb
    clear hR hb
    go_wp2_with fail
    go_ret2
    exact ⟨v, rfl, HR.out, below_step (pw_below_drewN (Below.refl _ _) k1) HB.out⟩
  · have c2 : (err != 0) = true := by simpa using c1
    have c3 := hbad c1
    subst c3
    clear hbad c1
    go_enter Try.func15, Try.ntmps15
    go_wp2_with fail
    refine HG.out.mono ?_
    rintro e w1 ⟨A, c, rfl, hc, hF, k1, rfl⟩
    clear hc hF HG
    go_wp2_with fail
    go_ret2
    exact ⟨_, rfl, Kd.R_nil _ _ _ _ _, pw_below_drewN (Below.refl _ _) k1⟩
set_option maxHeartbeats 3200000 in
set_option maxRecDepth 100000 in
theorem Image_st (hl : s.img.length ≤ 1048576) (h : SAt base F g s w) : Calls Try.prog 19 #[.pointer (some ⟨g, 0, none⟩)] w fun e w' => ∃ v, e = .returned v ∧ Kd.R (Kd.int .u8) 5 w' w.heap.size (fun _ => True) v s.img ∧ Below w.heap.size w w' := by
  have H := Aside0.mk h
  have HL := Aside0.mk hl
  obtain ⟨⟨v, B, m, h1, h2, _⟩, _, _⟩ := h
  obtain ⟨A, c, rfl⟩ := Kd.R_slice h2
  have hc0 := blk_cell h1 0
  have HC := Aside0.mk (Kd.R_reads' h2).2.2
  clear h1 h2 hl
  go_enter Try.func19, Try.ntmps19
  go_wp2_with fail
  refine (ready_st H.out).mono ?_
  rintro e w1 ⟨rfl, k1, rfl⟩
  replace hc0 := show (w.drewN k1).cell? ⟨g, 0, none⟩ = _ from hc0
  go_wp2_with fail
  refine (cloned_calls A c s.img _ (Kd.C_drewN HC.out k1) (by have := HL.out; omega)).mono ?_
  rintro e w2 ⟨v, rfl, hR, hb⟩
  have HR := Aside0.mk hR
  have HB := Aside0.mk hb
  clear hR hb
  go_wp2_with fail
  go_ret
  exact ⟨v, rfl, HR.out, below_step (pw_below_drewN (Below.refl _ _) k1) HB.out⟩
end
end
end Go.Proofs.Ytfakdphkklclgaa.P

end

section
namespace Go.Proofs.Ytfakdphkklclgaa.P
open Go.RowKit Go.Proofs.YtfakdphkklclgaaW.PrintWords Go.Proofs.YtfakdphkklclgaaW.PrintLast Go.Proofs.YtfakdphkklclgaaW.PrintMore
attribute [local go_sem] max2_int min2_int max_two min_two max_three min_three max_four min_four
set_option linter.unusedVariables false
set_option linter.unusedSimpArgs false
section
open Go.Shelf Go.Proofs
def Try.keysS_ren : Go.Shelf.Ren := ⟨fun | 7 => 49 | 10 => 70 | n => n, fun | 23 => 60 | 26 => 9 | 3 => 23 | 28 => 96 | 0 => 0 | 27 => 95 | 33 => 82 | 4 => 4 | n => n, fun | n => n⟩
theorem Try.keysS : Go.Proofs.SlLaysZ.n7 Try.prog Try.keysS_ren := {
  mixed := by kernel_rfl
  f7 := ⟨Try.f49.name, by decide, Try.func49.trans (congrArg some (by kernel_rfl))⟩
  f10 := ⟨Try.f70.name, by decide, Try.func70.trans (congrArg some (by kernel_rfl))⟩
  t0 := Try.underlying0
  a0 := Try.isAgg0
  z0 := Try.sizeOf0
  v0 := Try.zeroValue0
  t4 := Try.underlying4
  a4 := Try.isAgg4
  z4 := Try.sizeOf4
  v4 := Try.zeroValue4
  t23 := Try.underlying60
  a23 := Try.isAgg60
  z23 := Try.sizeOf60
  v23 := Try.zeroValue60
  t26 := Try.underlying9
  a26 := Try.isAgg9
  z26 := Try.sizeOf9
  v26 := Try.zeroValue9
  t27 := Try.underlying95
  a27 := Try.isAgg95
  z27 := Try.sizeOf95
  v27 := Try.zeroValue95
  t28 := Try.underlying96
  a28 := Try.isAgg96
  z28 := Try.sizeOf96
  v28 := Try.zeroValue96
  t33 := Try.underlying82
  a33 := Try.isAgg82
  z33 := Try.sizeOf82
  v33 := Try.zeroValue82 }
def Try.sortedS_ren : Go.Shelf.Ren := ⟨fun | 6 => 48 | 8 => 68 | 9 => 69 | 11 => 76 | 13 => 78 | 12 => 77 | 23 => 90 | 24 => 91 | 14 => 81 | 15 => 82 | 16 => 83 | 17 => 84 | 18 => 85 | 19 => 86 | 20 => 87 | 21 => 88 | 22 => 89 | 25 => 92 | 26 => 93 | 27 => 94 | 28 => 95 | 29 => 96 | 30 => 97 | 31 => 98 | n => n, fun | 26 => 9 | 28 => 96 | 24 => 55 | 0 => 0 | 3 => 3 | 37 => 38 | 48 => 127 | 50 => 143 | 4 => 4 | 40 => 135 | 39 => 134 | 45 => 88 | 5 => 5 | 9 => 9 | 51 => 144 | 55 => 148 | 57 => 150 | 58 => 151 | 33 => 82 | n => n, fun | n => n⟩
theorem Try.sortedS : Go.Proofs.SlLaysZ.n6 Try.prog Try.sortedS_ren := {
  mixed := by kernel_rfl
  f6 := ⟨Try.f48.name, by decide, Try.func48.trans (congrArg some (by kernel_rfl))⟩
  f8 := ⟨Try.f68.name, by decide, Try.func68.trans (congrArg some (by kernel_rfl))⟩
  f11 := ⟨Try.f76.name, by decide, Try.func76.trans (congrArg some (by kernel_rfl))⟩
  t0 := Try.underlying0
  a0 := Try.isAgg0
  z0 := Try.sizeOf0
  v0 := Try.zeroValue0
  t24 := Try.underlying55
  a24 := Try.isAgg55
  z24 := Try.sizeOf55
  v24 := Try.zeroValue55
  t26 := Try.underlying9
  a26 := Try.isAgg9
  z26 := Try.sizeOf9
  v26 := Try.zeroValue9
  t28 := Try.underlying96
  a28 := Try.isAgg96
  z28 := Try.sizeOf96
  v28 := Try.zeroValue96
  i26 := by kernel_rfl }
def Try.sortS_ren : Go.Shelf.Ren := ⟨fun | 6 => 69 | 8 => 78 | 9 => 77 | 19 => 90 | 20 => 91 | 21 => 81 | 22 => 82 | 23 => 83 | 24 => 84 | 25 => 85 | 26 => 86 | 27 => 87 | 28 => 88 | 29 => 89 | 36 => 92 | 31 => 93 | 32 => 94 | 37 => 95 | 38 => 96 | 39 => 97 | 41 => 98 | n => n, fun | 27 => 55 | 29 => 9 | 3 => 3 | 32 => 38 | 26 => 55 | 0 => 0 | 44 => 127 | 46 => 143 | 4 => 4 | 36 => 135 | 35 => 134 | 41 => 88 | 5 => 5 | 9 => 9 | 53 => 144 | 57 => 148 | 63 => 150 | 64 => 151 | n => n, fun | n => n⟩
theorem Try.sortS : Go.Proofs.SlLaysM.n6 Try.prog Try.sortS_ren := {
  mixed := by kernel_rfl
  f6 := ⟨Try.f69.name, by decide, Try.func69.trans (congrArg some (by kernel_rfl))⟩
  f8 := Try.func78.trans (congrArg some (by kernel_rfl))
  f9 := ⟨Try.f77.name, by decide, Try.func77.trans (congrArg some (by kernel_rfl))⟩
  f19 := Try.func90.trans (congrArg some (by kernel_rfl))
  f20 := Try.func91.trans (congrArg some (by kernel_rfl))
  f21 := ⟨Try.f81.name, by decide, Try.func81.trans (congrArg some (by kernel_rfl))⟩
  f22 := ⟨Try.f82.name, by decide, Try.func82.trans (congrArg some (by kernel_rfl))⟩
  f23 := ⟨Try.f83.name, by decide, Try.func83.trans (congrArg some (by kernel_rfl))⟩
  f24 := ⟨Try.f84.name, by decide, Try.func84.trans (congrArg some (by kernel_rfl))⟩
  f25 := ⟨Try.f85.name, by decide, Try.func85.trans (congrArg some (by kernel_rfl))⟩
  f26 := ⟨Try.f86.name, by decide, Try.func86.trans (congrArg some (by kernel_rfl))⟩
  f27 := ⟨Try.f87.name, by decide, Try.func87.trans (congrArg some (by kernel_rfl))⟩
  f28 := ⟨Try.f88.name, by decide, Try.func88.trans (congrArg some (by kernel_rfl))⟩
  f29 := ⟨Try.f89.name, by decide, Try.func89.trans (congrArg some (by kernel_rfl))⟩
  f31 := Try.func93.trans (congrArg some (by kernel_rfl))
  f32 := Try.func94.trans (congrArg some (by kernel_rfl))
  f36 := ⟨Try.f92.name, by decide, Try.func92.trans (congrArg some (by kernel_rfl))⟩
  f37 := ⟨Try.f95.name, by decide, Try.func95.trans (congrArg some (by kernel_rfl))⟩
  f38 := ⟨Try.f96.name, by decide, Try.func96.trans (congrArg some (by kernel_rfl))⟩
  f39 := ⟨Try.f97.name, by decide, Try.func97.trans (congrArg some (by kernel_rfl))⟩
  f41 := ⟨Try.f98.name, by decide, Try.func98.trans (congrArg some (by kernel_rfl))⟩
  t0 := Try.underlying0
  a0 := Try.isAgg0
  z0 := Try.sizeOf0
  v0 := Try.zeroValue0
  t3 := Try.underlying3
  a3 := Try.isAgg3
  z3 := Try.sizeOf3
  v3 := Try.zeroValue3
  t4 := Try.underlying4
  a4 := Try.isAgg4
  z4 := Try.sizeOf4
  v4 := Try.zeroValue4
  t5 := Try.underlying5
  a5 := Try.isAgg5
  z5 := Try.sizeOf5
  v5 := Try.zeroValue5
  t9 := Try.underlying9
  a9 := Try.isAgg9
  z9 := Try.sizeOf9
  v9 := Try.zeroValue9
  t26 := Try.underlying55
  a26 := Try.isAgg55
  z26 := Try.sizeOf55
  v26 := Try.zeroValue55
  t27 := Try.underlying55
  a27 := Try.isAgg55
  z27 := Try.sizeOf55
  v27 := Try.zeroValue55
  t29 := Try.underlying9
  a29 := Try.isAgg9
  z29 := Try.sizeOf9
  v29 := Try.zeroValue9
  t32 := Try.underlying38
  a32 := Try.isAgg38
  z32 := Try.sizeOf38
  v32 := Try.zeroValue38
  t35 := Try.underlying134
  a35 := Try.isAgg134
  z35 := Try.sizeOf134
  v35 := Try.zeroValue134
  t36 := Try.underlying135
  a36 := Try.isAgg135
  z36 := Try.sizeOf135
  v36 := Try.zeroValue135
  t41 := Try.underlying88
  a41 := Try.isAgg88
  z41 := Try.sizeOf88
  v41 := Try.zeroValue88
  t44 := Try.underlying127
  a44 := Try.isAgg127
  z44 := Try.sizeOf127
  v44 := Try.zeroValue127
  t46 := Try.underlying143
  a46 := Try.isAgg143
  z46 := Try.sizeOf143
  v46 := Try.zeroValue143
  t53 := Try.underlying144
  a53 := Try.isAgg144
  z53 := Try.sizeOf144
  v53 := Try.zeroValue144
  t57 := Try.underlying148
  a57 := Try.isAgg148
  z57 := Try.sizeOf148
  v57 := Try.zeroValue148
  t63 := Try.underlying150
  a63 := Try.isAgg150
  z63 := Try.sizeOf150
  v63 := Try.zeroValue150
  t64 := Try.underlying151
  a64 := Try.isAgg151
  z64 := Try.sizeOf151
  v64 := Try.zeroValue151 }
end
section
open Go.Maps Go.Sort Go.Shelf Go.Proofs
theorem own_lower1 {W : World} {b b' n size : Nat} {e : TypeId} {v : Value} {cs : List Value} (h : W.ownsRow b e size v n cs) (hb : b' ≤ b) : W.ownsRow b' e size v n cs := ⟨h.1, h.2.imp id fun ⟨g, cap, cur, e1, e2, e3⟩ => ⟨g, cap, cur, e1, Nat.le_trans hb e2, e3⟩⟩
theorem sorts_st (m : Nat) : AnyZ.SortsIn Try.prog Try.sortedS_ren Fence.wide m :=
  ⟨fun blk off cap ss W hH hblk hsz => callsIn_wide.2 (AnyM.slices_Sort_string Try.sortS blk off cap ss W hH hblk hsz),
   fun p cap W => callsIn_wide.2 (AnyM.slices_Sort_string_none Try.sortS p cap W)⟩
theorem keysS_calls (B : Nat) (W : World) : Calls Try.prog 49 #[.map (some B)] W fun e w' => e = .returned (.func (.func 70) #[] #[.pointer (some ⟨W.heap.size, 0, none⟩)]) ∧ w' = W.alloc (.cells #[.map (some B)] 60) :=
  (callsIn_wide (n := 5)).1 (AnyZ.keys_in Try.keysS Fence.wide 5 trivial rfl (some B) W)
theorem sortedS_calls {R : Value → Option (DataW Unit × List MemPlace)} {W : World} {B n : Nat} {D : DataW Unit} (hown : W.ownsMap Try.prog 9 R B n D) (hmax : Maps.size D ≤ 1024) : Calls Try.prog 48 #[.func (.func 70) #[] #[.pointer (some ⟨W.heap.size, 0, none⟩)]] (W.alloc (.cells #[.map (some B)] 60)) fun e w' => ∃ (v : Value) (ss : List (List UInt8)), e = .returned v ∧ ss.Perm (strKeys D) ∧ w'.ownsRow W.heap.size 9 1 v ss.length ((ss.mergeSort (fun x y => decide (x ≤ y))).map encStr) ∧ Below W.heap.size W w' := by
  have hbl := hown.lt
  have hseq : SeqGives Fence.wide 2 Try.prog 70 #[.pointer (some ⟨W.heap.size, 0, none⟩)] encStr (fun ss => ss.Perm (strKeys D)) (Maps.size D) (W.alloc (.cells #[.map (some B)] 60)) :=
    AnyZ.keys_gives (ρ := Try.keysS_ren) { Try.keysS with } Fence.wide _ trivial rfl (by omega) W.heap.size B n D _ (by simp) (by simp) (by
      obtain ⟨es, clock, hb, Ft, hs, hD⟩ := hown
      exact ⟨es, clock, (Below.heap_alloc _ _ B hbl).trans hb, Ft, hs, hD⟩)
  have cS := AnyZ.sorted_in Try.sortedS Fence.wide 5 trivial trivial trivial trivial rfl (by omega) (sorts_st _) (enters_of Try.func69 (by kernel_rfl) rfl) 70 #[.pointer (some ⟨W.heap.size, 0, none⟩)] trivial (enters_of Try.func70 (by kernel_rfl) rfl) _ _ (by unfold maxLen; omega) (by omega) _ hseq
  refine ((callsIn_wide (n := 5)).1 cS).mono ?_
  rintro e w' ⟨v, ss, rfl, hS, hrow, _, hb⟩
  exact ⟨v, ss, rfl, hS, own_lower1 hrow (by simp), ((Below.refl _ W).alloc (Nat.le_refl _) _).trans (hb.mono (by simp))⟩
theorem lessB_iff (a b : ByteArray) : lessB a b = true ↔ a.data.toList < b.data.toList := by
  unfold lessB
  rw [bytesLess_eq, Lib.toList_data, Lib.toList_data]
  simp
theorem data_inj {a b : ByteArray} (h : a.data.toList = b.data.toList) : a = b := by
  cases a; cases b
  simp only [ByteArray.mk.injEq]
  exact Array.toList_inj.1 h
theorem lk_mem (L : List S101) (x : ByteArray) : (lkL L x).isSome = true ↔ x ∈ L.map (·.f0) := by
  induction L with
  | nil => simp [lkL]
  | cons k l ih =>
    unfold lkL
    by_cases e : k.f0 = x
    · rw [if_pos e]; simp [e]
    · rw [if_neg e, ih]
      simp only [List.map_cons, List.mem_cons]
      constructor
      · exact .inr
      · rintro (q | q)
        · exact absurd q.symm e
        · exact q
theorem names_sorted {L : List S101} (hs : Srt L) {R : Value → Option (DataW Unit × List MemPlace)} {W : World} {B n : Nat} {D : DataW Unit} (hown : W.ownsMap Try.prog 9 R B n D) (hh : ∀ x : ByteArray, Maps.has D (keyS x) = (lkL L x).isSome) {ss : List (List UInt8)} (hp : ss.Perm (strKeys D)) :
    ss.mergeSort (fun x y => decide (x ≤ y)) = L.map (fun k => k.f0.data.toList) := by
  obtain ⟨es, hD, hpw, _⟩ := hown.entries skeyed
  obtain ⟨es', hD', hko⟩ := hown.keysOf
  obtain rfl : es = es' := by rw [hD] at hD'; simpa using hD'
  subst hD
  have hk : ∀ p ∈ es, ∃ x, p.1 = .string x := fun p hp => by obtain ⟨v, hv⟩ := hko p hp; obtain ⟨x, _, hx, _⟩ := Maps.keyOf_str Try.underlying9 hv; exact ⟨x, hx⟩
  have hlt : (L.map fun k => k.f0.data.toList).Pairwise (· < ·) := List.pairwise_map.2 (hs.imp fun h => (lessB_iff _ _).1 h)
  have hnd : (L.map fun k => k.f0.data.toList).Nodup := hlt.imp fun h e => by rw [e] at h; exact List.lt_irrefl _ h
  have hm : ∀ x, x ∈ (L.map fun k => k.f0.data.toList) ↔ Maps.has (.map es) (.string x) = true := fun x => by
    have h1 := hh ⟨x.toArray⟩
    have h2 : keyS ⟨x.toArray⟩ = .string x := by simp [keyS]
    rw [h2] at h1
    rw [h1, lk_mem, List.mem_map, List.mem_map]
    constructor
    · rintro ⟨k, hk, rfl⟩
      exact ⟨k, hk, data_inj (by simp)⟩
    · rintro ⟨k, hk, e⟩
      exact ⟨k, hk, by rw [e]⟩
  have h3 := perm_strKeys hpw hk hnd hm
  rw [mergeSort_of_perm (hp.trans h3.symm)]
  exact List.mergeSort_of_pairwise (hlt.imp fun h => by simpa using List.le_of_lt h)
theorem names_row {L : List S101} {W : World} {base n : Nat} {v : Value} (h : W.ownsRow base 9 1 v n ((L.map fun k => k.f0.data.toList).map encStr)) (hn : n = L.length) : Kd.R Kd.string 9 W base (fun _ => True) v (L.map (·.f0)) := by
  subst hn
  refine ⟨fun _ _ => trivial, (L.map (fun k : S101 => k.f0)).map Value.string, ?_, (Kd.reps_scalar (enc := Value.string) (L.map (fun k : S101 => k.f0)) : Reps (fun (x : ByteArray) (cs : List Value) => cs = [.string x]) 1 _ _)⟩
  have e : (L.map fun k => k.f0.data.toList).map encStr = (L.map (·.f0)).map Value.string := by
    simp only [List.map_map]
    refine List.map_congr_left fun k _ => ?_
    simp [encStr]
  rw [← e, List.length_map]
  exact h
set_option maxHeartbeats 3200000 in
set_option maxRecDepth 100000 in
theorem Names_st {base g : Nat} {F : Nat → Prop} {s : Sto} {w : World} (hsr : Srt s.L) (hl : s.L.length ≤ 16) (h : SAt base F g s w) : Calls Try.prog 20 #[.pointer (some ⟨g, 0, none⟩)] w fun e w' => ∃ v, e = .returned v ∧ Kd.R Kd.string 9 w' w.heap.size (fun _ => True) v (s.L.map (·.f0)) ∧ Below w.heap.size w w' := by
  have H := Aside0.mk h
  have HSR := Aside0.mk hsr
  have HL := Aside0.mk hl
  obtain ⟨⟨v, B, m, h1, h2, h3, h4, h5, _⟩, _, _⟩ := h
  have hc1 := blk_cell h1 1
  obtain ⟨D, hD, hD2, hD3, hD4⟩ := h3
  have HD := Aside0.mk hD
  have HD2 := Aside0.mk (show ∀ x : ByteArray, Maps.has D (keyS x) = (lkL s.L x).isSome from fun x => (hD2 x).trans (h5 x))
  have HD4 := Aside0.mk hD4
  clear h1 h2 hl hsr hD hD2 hD3 hD4 h4 h5
  go_enter Try.func20, Try.ntmps20
  go_wp2_with fail
  refine (ready_st H.out).mono ?_
  rintro e w1 ⟨rfl, k1, rfl⟩
  replace hc1 := show (w.drewN k1).cell? ⟨g, 1, none⟩ = _ from hc1
  go_wp2_with fail
  refine (keysS_calls B _).mono ?_
  rintro e w2 ⟨rfl, rfl⟩
  go_wp2_with fail
  refine (sortedS_calls (W := w.drewN k1) (show (w.drewN k1).ownsMap _ _ _ _ _ _ from HD.out) (by have := HL.out; rw [HD4.out]; omega)).mono ?_
  rintro e w3 ⟨v2, ss, rfl, hp, hrow, hb⟩
  have hso := names_sorted HSR.out HD.out HD2.out hp
  rw [hso] at hrow
  have hln := congrArg List.length hso
  rw [List.length_mergeSort, List.length_map] at hln
  have HR := Aside0.mk (names_row hrow hln)
  have HB := Aside0.mk hb
  clear hp hrow hb hso hln
  go_wp2_with fail
  go_ret
  exact ⟨v2, rfl, HR.out, below_step (pw_below_drewN (Below.refl _ _) k1) HB.out⟩
end
end Go.Proofs.Ytfakdphkklclgaa.P

end

section
namespace Go.Proofs.Ytfakdphkklclgaa.P
open Go.RowKit Go.Proofs.YtfakdphkklclgaaW.PrintWords Go.Proofs.YtfakdphkklclgaaW.PrintLast Go.Proofs.YtfakdphkklclgaaW.PrintMore
attribute [local go_sem] max2_int min2_int max_two min_two max_three min_three max_four min_four
set_option linter.unusedVariables false
set_option linter.unusedSimpArgs false
section
open Go.ChangeMaps Go.MapKept
set_option linter.unusedVariables false
structure WrAt (S1 S2 : Nat) (v : Value) (at_ : Int) (r0 r1 : List Int) (W : World) : Prop where
  now : ∃ (b0 : Nat) (v1 v2 : Value), v = .slice (some ⟨b0, 0, none⟩) 2 2 ∧ W.heap[b0]? = some (.cells #[.int .i64 at_, v1, .int .i64 at_, v2] 52 (0, 0)) ∧ Kd.R (Kd.int .u8) 5 W S1 (fun b => S1 ≤ b ∧ b < S2) v1 r0 ∧ Kd.R (Kd.int .u8) 5 W S1 (fun b => S1 ≤ b ∧ b < S2) v2 r1 ∧ (∀ b, v1.ownBlock = some b → v2.ownBlock ≠ some b) ∧ S1 ≤ b0 ∧ b0 < S2
section
variable {S1 S2 : Nat} {v : Value} {at_ : Int} {r0 r1 : List Int} {W W1 : World} {S : Nat → Prop}
theorem WrAt.kept (h : WrAt S1 S2 v at_ r0 r1 W) (hk : Kept W W1 S) (hS : ∀ b, S1 ≤ b → b < S2 → ¬ S b) : WrAt S1 S2 v at_ r0 r1 W1 := by
  obtain ⟨b0, v1, v2, h1, h2, h3, h4, h5, h6, h7⟩ := h
  exact ⟨b0, v1, v2, h1, blk_kept h2 hk (hS _ h6 h7), Kd.R_kept h3 hk (fun b q => hS b q.1 q.2), Kd.R_kept h4 hk (fun b q => hS b q.1 q.2), h5, h6, h7⟩
theorem WrAt.step (h : WrAt S1 S2 v at_ r0 r1 W) (hb : Below W.heap.size W W1) : WrAt S1 S2 v at_ r0 r1 W1 := h.kept (S := fun _ => False) (Kept.of_below hb _) (fun _ _ _ q => q)
theorem WrAt.reads (h : WrAt S1 S2 v at_ r0 r1 W) : ∃ b0, v = .slice (some ⟨b0, 0, none⟩) 2 2 ∧ Kd.C k52 W (some ⟨b0, 0, none⟩) 2 [⟨at_, r0⟩, ⟨at_, r1⟩] := by
  obtain ⟨b0, v1, v2, h1, h2, h3, h4, h5, h6, h7⟩ := h
  obtain ⟨A1, c1, rfl⟩ := Kd.R_slice h3
  obtain ⟨A2, c2, rfl⟩ := Kd.R_slice h4
  obtain ⟨_, l1, g1⟩ := Kd.R_reads' h3
  obtain ⟨_, l2, g2⟩ := Kd.R_reads' h4
  refine ⟨b0, h1, rfl, by decide, fun _ => ⟨_, rfl, fun j p hj => ?_⟩⟩
  match j, hj with
  | 0, hj =>
    cases hj
    refine ⟨_, rfl, k52_mk W ⟨at_, r0⟩ l1 g1, fun i u hu => ?_⟩
    match i, hu with
    | 0, hu => cases hu; exact blk_cell h2 0
    | 1, hu => cases hu; exact blk_cell h2 1
    | (n + 2), hu => cases hu
  | 1, hj =>
    cases hj
    refine ⟨_, rfl, k52_mk W ⟨at_, r1⟩ l2 g2, fun i u hu => ?_⟩
    match i, hu with
    | 0, hu => cases hu; exact blk_cell h2 2
    | 1, hu => cases hu; exact blk_cell h2 3
    | (n + 2), hu => cases hu
  | (n + 2), hj => cases hj
end
def Wrs (S1 S2 : Nat) (v : Value) (ws : List S52) (W : World) : Prop := (ws = [] ∧ v = .slice none 0 0) ∨ ∃ at_ r0 r1, ws = [⟨at_, r0⟩, ⟨at_, r1⟩] ∧ WrAt S1 S2 v at_ r0 r1 W
theorem Wrs.kept {S1 S2 : Nat} {v : Value} {ws : List S52} {W W1 : World} {S : Nat → Prop} (h : Wrs S1 S2 v ws W) (hk : Kept W W1 S) (hS : ∀ b, S1 ≤ b → b < S2 → ¬ S b) : Wrs S1 S2 v ws W1 := by
  rcases h with h | ⟨a, r0, r1, h1, h2⟩
  · exact .inl h
  · exact .inr ⟨a, r0, r1, h1, h2.kept hk hS⟩
theorem Wrs.step {S1 S2 : Nat} {v : Value} {ws : List S52} {W W1 : World} (h : Wrs S1 S2 v ws W) (hb : Below W.heap.size W W1) : Wrs S1 S2 v ws W1 := h.kept (S := fun _ => False) (Kept.of_below hb _) (fun _ _ _ q => q)
theorem Wrs.reads {S1 S2 : Nat} {v : Value} {ws : List S52} {W : World} (h : Wrs S1 S2 v ws W) : ∃ A c, v = .slice A ws.length c ∧ ws.length ≤ c ∧ Kd.C k52 W A ws.length ws := by
  rcases h with ⟨rfl, rfl⟩ | ⟨a, r0, r1, rfl, h2⟩
  · exact ⟨none, 0, rfl, Nat.le_refl _, Kd.C_nil _ _⟩
  · obtain ⟨b0, h3, h4⟩ := h2.reads
    exact ⟨_, 2, h3, Nat.le_refl _, h4⟩
def Halt_ (p : Prop) : Prop := p
theorem halt_at {p : Prop} (h : Halt_ p) : p := h
theorem setCell_size (W : World) (p : Addr) (u : Value) : (W.setCell p u).heap.size = W.heap.size := by simp [World.setCell]
theorem WrAt.made {S1 : Nat} {A : Option Addr} {n c : Nat} {r0 : List Int} {W : World} (h : Kd.R (Kd.int .u8) 5 W S1 (fun _ => True) (.slice A n c) r0) (hS : S1 ≤ W.heap.size) (kind at_ : Int) :
    WrAt S1 (W.heap.size + 2) (.slice (some ⟨W.heap.size + 1, 0, none⟩) 2 2) at_ r0 [kind] ((W.alloc (.cells #[.int .u8 kind] 5)).alloc (.cells #[.int .i64 at_, .slice A n c, .int .i64 at_, .slice (some ⟨W.heap.size, 0, none⟩) 1 1] 52)) := by
  have hs : (W.alloc (.cells #[.int .u8 kind] 5)).heap.size = W.heap.size + 1 := by simp
  have h1 := Kd.R_alloc (Kd.R_alloc (Kd.R_bound h) (.cells #[.int .u8 kind] 5)) (.cells #[.int .i64 at_, .slice A n c, .int .i64 at_, .slice (some ⟨W.heap.size, 0, none⟩) 1 1] 52)
  have h2 : Kd.R (Kd.int .u8) 5 (W.alloc (.cells #[.int .u8 kind] 5)) S1 (fun b => S1 ≤ b ∧ b < W.heap.size + 2) (.slice (some ⟨W.heap.size, 0, none⟩) 1 1) [kind] := Kd.R_mono (Kd.R_bound (Kd.R_lower (R_of_nums (one_own W kind)) hS)) (fun b q => ⟨q.2.1, by have := q.2.2.1; rw [hs] at this; omega⟩)
  refine ⟨W.heap.size + 1, _, _, rfl, ?_, Kd.R_mono h1 (fun b q => ⟨q.2.1, by have := q.2.2.1; omega⟩), Kd.R_alloc h2 _, fun b hb e => ?_, by omega, by omega⟩
  · rw [← hs]; exact blk_new _ _
  · have h3 := Kd.R_lt h b hb
    have h4 : b = W.heap.size := by
      have : some W.heap.size = some b := e
      injection this with this
      exact this.symm
    omega
theorem SAt.cells {base g : Nat} {F : Nat → Prop} {s : Sto} {W : World} (h : SAt base F g s W) : ∃ (A : Option Addr) (c B : Nat) (m : ByteArray → Option Hd), W.heap[g]? = some (.cells #[.slice A s.img.length c, .map (some B), .bool true] 62 (0, 0)) ∧ Kd.R (Kd.int .u8) 5 W base F (.slice A s.img.length c) s.img ∧ HMap W B s.L.length m s.L.length ∧ F B ∧ (∀ x, (m x).isSome = (lkL s.L x).isSome) ∧
    ∀ x d, m x = some d → ∀ xs, lkL s.L x = some xs → d.n = xs.length ∧ xs.length ≤ d.c ∧ Kd.F (Kd.int .u8) W (fun b => F b ∧ (Value.slice A s.img.length c).ownBlock ≠ some b ∧ b ≠ B ∧ b ≠ g) d.A xs.length xs := by
  obtain ⟨⟨v, B, m, h1, h2, h3⟩, _, _⟩ := h
  obtain ⟨A, c, rfl⟩ := Kd.R_slice h2
  exact ⟨A, c, B, m, h1, h2, h3⟩
end
end Go.Proofs.Ytfakdphkklclgaa.P

end

section
namespace Go.Proofs.Ytfakdphkklclgaa.P
open Go.RowKit Go.Proofs.YtfakdphkklclgaaW.PrintWords Go.Proofs.YtfakdphkklclgaaW.PrintLast Go.Proofs.YtfakdphkklclgaaW.PrintMore
attribute [local go_sem] max2_int min2_int max_two min_two max_three min_three max_four min_four
set_option linter.unusedVariables false
set_option linter.unusedSimpArgs false
section
theorem lessB_irr (a : ByteArray) : lessB a a = false := by
  rw [Bool.eq_false_iff]
  intro h
  exact List.lt_irrefl _ ((lessB_iff a a).1 h)
theorem lessB_trans {a b c : ByteArray} (h1 : lessB a b = true) (h2 : lessB b c = true) : lessB a c = true := (lessB_iff a c).2 (List.lt_trans ((lessB_iff a b).1 h1) ((lessB_iff b c).1 h2))
theorem lessB_tot {a b : ByteArray} (h1 : lessB a b = false) (h2 : a ≠ b) : lessB b a = true := by
  rw [lessB_iff]
  rcases Decidable.em (b.data.toList < a.data.toList) with h | h
  · exact h
  · exfalso
    have h3 : ¬ a.data.toList < b.data.toList := fun q => by rw [(lessB_iff a b).2 q] at h1; cases h1
    exact h2 (data_inj (List.le_antisymm (List.not_lt.1 h) (List.not_lt.1 h3)))
theorem lk_put (x : ByteArray) (b : List Int) (L : List S101) (y : ByteArray) : lkL (putL x b L) y = if y = x then some b else lkL L y := by
  induction L with
  | nil =>
    unfold putL lkL
    by_cases e : y = x
    · rw [if_pos e, if_pos e.symm]
    · rw [if_neg e, if_neg (fun q => e q.symm)]; rfl
  | cons k l ih =>
    unfold putL
    by_cases c1 : lessB k.f0 x = true
    · rw [if_pos c1]
      have hne : k.f0 ≠ x := fun e => by rw [e, lessB_irr] at c1; cases c1
      conv => lhs; unfold lkL
      conv => rhs; unfold lkL
      by_cases e : k.f0 = y
      · rw [if_pos e, if_pos e, if_neg (fun q => hne (e.trans q))]
      · rw [if_neg e, if_neg e, ih]
    · rw [if_neg c1]
      by_cases c2 : k.f0 = x
      · rw [if_pos c2]
        conv => lhs; unfold lkL
        conv => rhs; unfold lkL
        by_cases e : y = x
        · rw [if_pos e, if_pos e.symm]
        · rw [if_neg e, if_neg (fun q => e q.symm), if_neg (fun q => e (q.symm.trans c2))]
      · rw [if_neg c2]
        conv => lhs; unfold lkL
        by_cases e : y = x
        · rw [if_pos e, if_pos e.symm]
        · rw [if_neg e, if_neg (fun q => e q.symm)]
theorem lk_none_of {L : List S101} {x : ByteArray} (h : ∀ k ∈ L, lessB x k.f0 = true) : lkL L x = none := by
  induction L with
  | nil => rfl
  | cons k l ih =>
    unfold lkL
    rw [if_neg, ih (fun k' hk => h k' (List.mem_cons_of_mem _ hk))]
    intro e
    have := h k List.mem_cons_self
    rw [e, lessB_irr] at this
    cases this
theorem srt_head {k : S101} {l : List S101} {x : ByteArray} (h : Srt (k :: l)) (c1 : ¬ lessB k.f0 x = true) (c2 : k.f0 ≠ x) : lkL (k :: l) x = none := by
  have h1 : lessB x k.f0 = true := lessB_tot (by simpa using c1) c2
  refine lk_none_of fun k' hk => ?_
  rcases List.mem_cons.1 hk with rfl | hk
  · exact h1
  · exact lessB_trans h1 ((List.pairwise_cons.1 h).1 k' hk)
theorem put_len (x : ByteArray) (b : List Int) {L : List S101} (h : Srt L) : (putL x b L).length = if (lkL L x).isSome = true then L.length else L.length + 1 := by
  induction L with
  | nil => rfl
  | cons k l ih =>
    unfold putL
    by_cases c1 : lessB k.f0 x = true
    · have hne : k.f0 ≠ x := fun e => by rw [e, lessB_irr] at c1; cases c1
      rw [if_pos c1, List.length_cons, ih (List.pairwise_cons.1 h).2]
      conv => rhs; unfold lkL
      rw [if_neg hne]
      split <;> simp
    · rw [if_neg c1]
      by_cases c2 : k.f0 = x
      · rw [if_pos c2]
        conv => rhs; unfold lkL
        rw [if_pos c2]
        simp
      · rw [if_neg c2, srt_head h c1 c2]
        simp
theorem lk_cut (x : ByteArray) {L : List S101} (h : Srt L) (y : ByteArray) : lkL (cutL x L) y = if y = x then none else lkL L y := by
  induction L with
  | nil => unfold cutL lkL; simp
  | cons k l ih =>
    have hl := (List.pairwise_cons.1 h).2
    unfold cutL
    by_cases c1 : lessB k.f0 x = true
    · rw [if_pos c1]
      have hne : k.f0 ≠ x := fun e => by rw [e, lessB_irr] at c1; cases c1
      conv => lhs; unfold lkL
      conv => rhs; unfold lkL
      by_cases e : k.f0 = y
      · rw [if_pos e, if_pos e, if_neg (fun q => hne (e.trans q))]
      · rw [if_neg e, if_neg e, ih hl]
    · rw [if_neg c1]
      by_cases c2 : k.f0 = x
      · rw [if_pos c2]
        conv => rhs; unfold lkL
        by_cases e : y = x
        · rw [if_pos e, e]
          exact lk_none_of fun k' hk => by rw [← c2]; exact (List.pairwise_cons.1 h).1 k' hk
        · rw [if_neg e, if_neg (fun q => e (q.symm.trans c2))]
      · rw [if_neg c2]
        by_cases e : y = x
        · rw [if_pos e, e]
          exact srt_head h c1 c2
        · rw [if_neg e]
theorem cut_len (x : ByteArray) {L : List S101} (h : Srt L) : (cutL x L).length = if (lkL L x).isSome = true then L.length - 1 else L.length := by
  induction L with
  | nil => rfl
  | cons k l ih =>
    unfold cutL
    by_cases c1 : lessB k.f0 x = true
    · have hne : k.f0 ≠ x := fun e => by rw [e, lessB_irr] at c1; cases c1
      rw [if_pos c1, List.length_cons, ih (List.pairwise_cons.1 h).2]
      conv => rhs; unfold lkL
      rw [if_neg hne]
      split
      · rename_i h1
        have : l ≠ [] := fun e => by rw [e] at h1; cases h1
        have := List.length_pos_iff.2 this
        simp; omega
      · simp
    · rw [if_neg c1]
      by_cases c2 : k.f0 = x
      · rw [if_pos c2]
        conv => rhs; unfold lkL
        rw [if_pos c2]
        simp
      · rw [if_neg c2, srt_head h c1 c2]
        simp
theorem put_srt (x : ByteArray) (b : List Int) {L : List S101} (h : Srt L) : Srt (putL x b L) := by
  induction L with
  | nil => exact List.pairwise_singleton _ _
  | cons k l ih =>
    obtain ⟨h1, h2⟩ := List.pairwise_cons.1 h
    unfold putL
    by_cases c1 : lessB k.f0 x = true
    · rw [if_pos c1]
      refine List.pairwise_cons.2 ⟨fun k' hk => ?_, ih h2⟩
      have hm : ∀ L : List S101, k' ∈ putL x b L → k' = ⟨x, b⟩ ∨ k' ∈ L := by
        intro L
        induction L with
        | nil => intro q; exact .inl (List.mem_singleton.1 q)
        | cons a t ih =>
          intro q
          unfold putL at q
          split at q
          · rcases List.mem_cons.1 q with rfl | q
            · exact .inr List.mem_cons_self
            · exact (ih q).imp id (List.mem_cons_of_mem _)
          · split at q
            · exact (List.mem_cons.1 q).imp id (List.mem_cons_of_mem _)
            · exact List.mem_cons.1 q
      rcases hm l hk with rfl | q
      · exact c1
      · exact h1 k' q
    · rw [if_neg c1]
      by_cases c2 : k.f0 = x
      · rw [if_pos c2]
        exact List.pairwise_cons.2 ⟨fun k' hk => by rw [← c2]; exact h1 k' hk, h2⟩
      · rw [if_neg c2]
        have h3 : lessB x k.f0 = true := lessB_tot (by simpa using c1) c2
        exact List.pairwise_cons.2 ⟨fun k' hk => by
          rcases List.mem_cons.1 hk with rfl | hk
          · exact h3
          · exact lessB_trans h3 (h1 k' hk), h⟩
theorem put_mem {x : ByteArray} {b : List Int} {L : List S101} {k : S101} (h : k ∈ putL x b L) : k = ⟨x, b⟩ ∨ k ∈ L := by
  induction L with
  | nil => exact .inl (List.mem_singleton.1 h)
  | cons a t ih =>
    unfold putL at h
    split at h
    · rcases List.mem_cons.1 h with rfl | q
      · exact .inr List.mem_cons_self
      · exact (ih q).imp id (List.mem_cons_of_mem _)
    · split at h
      · exact (List.mem_cons.1 h).imp id (List.mem_cons_of_mem _)
      · exact List.mem_cons.1 h
theorem cut_sub (x : ByteArray) (L : List S101) : (cutL x L).Sublist L := by
  induction L with
  | nil => exact List.Sublist.refl _
  | cons a t ih =>
    unfold cutL
    split
    · exact ih.cons_cons _
    · split
      · exact List.sublist_cons_self _ _
      · exact List.Sublist.refl _
end
end Go.Proofs.Ytfakdphkklclgaa.P

end

section
namespace Go.Proofs.Ytfakdphkklclgaa.P
open Go.RowKit Go.Proofs.YtfakdphkklclgaaW.PrintWords Go.Proofs.YtfakdphkklclgaaW.PrintLast Go.Proofs.YtfakdphkklclgaaW.PrintMore
attribute [local go_sem] max2_int min2_int max_two min_two max_three min_three max_four min_four
set_option linter.unusedVariables false
set_option linter.unusedSimpArgs false
section
open Go.ChangeMaps Go.MapKept
set_option linter.unusedVariables false
theorem SAt.put {base g : Nat} {F : Nat → Prop} {s : Sto} {W W1 : World} {v : Value} {B : Nat} {m : ByteArray → Option Hd} (x : ByteArray) (b : List Int) (d : Hd) (hs : Srt s.L)
    (h1 : W.heap[g]? = some (.cells #[v, .map (some B), .bool true] 62 (0, 0))) (h2 : Kd.R (Kd.int .u8) 5 W base F v s.img) (h3 : HMap W B s.L.length m s.L.length) (h4 : F B) (h5 : ∀ x, (m x).isSome = (lkL s.L x).isSome)
    (h6 : ∀ x d, m x = some d → ∀ xs, lkL s.L x = some xs → d.n = xs.length ∧ xs.length ≤ d.c ∧ Kd.F (Kd.int .u8) W (fun b => F b ∧ v.ownBlock ≠ some b ∧ b ≠ B ∧ b ≠ g) d.A xs.length xs) (hf : F g) (hl : ∀ b, F b → base ≤ b ∧ b < W.heap.size)
    (hd1 : d.n = b.length) (hd2 : b.length ≤ d.c) (hd3 : Kd.F (Kd.int .u8) W (fun b => F b ∧ v.ownBlock ≠ some b ∧ b ≠ B ∧ b ≠ g) d.A b.length b)
    (hm : HMap W1 B (s.L.length + 1) (updH m x d) (if (m x).isSome then s.L.length else s.L.length + 1)) (hg : W.grownBy W1 (some B)) : SAt base F g ⟨s.img, putL x b s.L⟩ W1 := by
  have hk : Kept W W1 (fun k => k = B) := ⟨hg.size, fun k hk hn => hg.block k hk (fun e => hn (by injection e))⟩
  have n3 : v.ownBlock ≠ some B := fun q => by
    obtain ⟨cs, h7⟩ := Kd.R_typed h2 B q
    exact h3.ne h7 rfl
  have hm2 : HMap W1 B (putL x b s.L).length (updH m x d) (putL x b s.L).length := by
    rw [put_len x b hs, ← h5 x]
    exact hm_tight hm
  refine ⟨⟨v, B, updH m x d, blk_kept h1 hk (fun e => h3.ne h1 e.symm), Kd.R_mono (Kd.R_kept (Kd.R_tight2 rfl h2) hk (fun k q e => n3 (by rw [← e]; exact q.1.symm))) (fun k q => q.2), hm2, h4, fun y => ?_, fun y d' hy xs hx => ?_⟩, hf, fun b q => ⟨(hl b q).1, Nat.lt_of_lt_of_le (hl b q).2 hg.size⟩⟩
  · show (updH m x d y).isSome = (lkL (putL x b s.L) y).isSome
    rw [lk_put]
    unfold updH
    split
    · rfl
    · exact h5 y
  · rw [lk_put] at hx
    unfold updH at hy
    by_cases e : y = x
    · rw [if_pos e] at hy hx
      cases hy
      cases hx
      exact ⟨hd1, hd2, Kd.F_kept hd3 hk (fun k q => q.2.2.1)⟩
    · rw [if_neg e] at hy hx
      obtain ⟨q1, q2, q3⟩ := h6 y d' hy xs hx
      exact ⟨q1, q2, Kd.F_kept q3 hk (fun k q => q.2.2.1)⟩
theorem SAt.cut {base g : Nat} {F : Nat → Prop} {s : Sto} {W W1 : World} {v : Value} {B : Nat} {m : ByteArray → Option Hd} (x : ByteArray) (hs : Srt s.L)
    (h1 : W.heap[g]? = some (.cells #[v, .map (some B), .bool true] 62 (0, 0))) (h2 : Kd.R (Kd.int .u8) 5 W base F v s.img) (h3 : HMap W B s.L.length m s.L.length) (h4 : F B) (h5 : ∀ x, (m x).isSome = (lkL s.L x).isSome)
    (h6 : ∀ x d, m x = some d → ∀ xs, lkL s.L x = some xs → d.n = xs.length ∧ xs.length ≤ d.c ∧ Kd.F (Kd.int .u8) W (fun b => F b ∧ v.ownBlock ≠ some b ∧ b ≠ B ∧ b ≠ g) d.A xs.length xs) (hf : F g) (hl : ∀ b, F b → base ≤ b ∧ b < W.heap.size)
    (hm : HMap W1 B s.L.length (delH m x) (if (m x).isSome then s.L.length - 1 else s.L.length)) (hg : W.grownBy W1 (some B)) : SAt base F g ⟨s.img, cutL x s.L⟩ W1 := by
  have hk : Kept W W1 (fun k => k = B) := ⟨hg.size, fun k hk hn => hg.block k hk (fun e => hn (by injection e))⟩
  have n3 : v.ownBlock ≠ some B := fun q => by
    obtain ⟨cs, h7⟩ := Kd.R_typed h2 B q
    exact h3.ne h7 rfl
  have hm2 : HMap W1 B (cutL x s.L).length (delH m x) (cutL x s.L).length := by
    rw [cut_len x hs, ← h5 x]
    exact hm_tight hm
  refine ⟨⟨v, B, delH m x, blk_kept h1 hk (fun e => h3.ne h1 e.symm), Kd.R_mono (Kd.R_kept (Kd.R_tight2 rfl h2) hk (fun k q e => n3 (by rw [← e]; exact q.1.symm))) (fun k q => q.2), hm2, h4, fun y => ?_, fun y d' hy xs hx => ?_⟩, hf, fun b q => ⟨(hl b q).1, Nat.lt_of_lt_of_le (hl b q).2 hg.size⟩⟩
  · show (delH m x y).isSome = (lkL (cutL x s.L) y).isSome
    rw [lk_cut x hs]
    unfold delH
    split
    · rfl
    · exact h5 y
  · rw [lk_cut x hs] at hx
    unfold delH at hy
    by_cases e : y = x
    · rw [if_pos e] at hy
      cases hy
    · rw [if_neg e] at hy hx
      obtain ⟨q1, q2, q3⟩ := h6 y d' hy xs hx
      exact ⟨q1, q2, Kd.F_kept q3 hk (fun k q => q.2.2.1)⟩
end
end Go.Proofs.Ytfakdphkklclgaa.P

end

section
namespace Go.Proofs.Ytfakdphkklclgaa.P
open Go.RowKit Go.Proofs.YtfakdphkklclgaaW.PrintWords Go.Proofs.YtfakdphkklclgaaW.PrintLast Go.Proofs.YtfakdphkklclgaaW.PrintMore
attribute [local go_sem] max2_int min2_int max_two min_two max_three min_three max_four min_four
set_option linter.unusedVariables false
set_option linter.unusedSimpArgs false
section
open Go.ChangeMaps Go.MapKept
set_option linter.unusedVariables false
theorem hd_ok {W : World} {base n c : Nat} {ok : Nat → Prop} {A : Option Addr} {xs : List Int} (h : Kd.R (Kd.int .u8) 5 W base ok (.slice A n c) xs) : Hd.ok ⟨A, n, c⟩ := by
  obtain ⟨_, inner, ⟨h1, h2⟩, _⟩ := h
  rcases h2 with ⟨e, _⟩ | ⟨g, cap, cur, e, _⟩
  · injection e with e1 e2 e3
    exact .inl ⟨e1, e2, e3⟩
  · injection e with e1 e2 e3
    exact .inr ⟨g, e1⟩
end
end Go.Proofs.Ytfakdphkklclgaa.P

end

section
namespace Go.Proofs.Ytfakdphkklclgaa.P
open Go.RowKit Go.Proofs.YtfakdphkklclgaaW.PrintWords Go.Proofs.YtfakdphkklclgaaW.PrintLast Go.Proofs.YtfakdphkklclgaaW.PrintMore
attribute [local go_sem] max2_int min2_int max_two min_two max_three min_three max_four min_four
set_option linter.unusedVariables false
set_option linter.unusedSimpArgs false
section
open Go.ChangeMaps Go.MapKept
set_option linter.unusedVariables false
def recS (nm : ByteArray → Bool) (bs : List Int) (L : List S101) (a : Nat) : Option (List S101 × Nat) :=
  match nameR nm bs (a + 1) with
  | (x, p, e) => if e ≠ 0 then none else
    if rd bs (a : Int) = 2 ∧ (lkL L x).isSome = true then some (cutL x L, p) else
    if rd bs (a : Int) ≠ 1 then none else
    match numR 2 bs p with
    | (n, p2, e2) => if e2 ≠ 0 ∨ 4096 < n then none else
      match takeR bs p2 n with
      | (b, p3, e3) => if e3 ≠ 0 then none else if 16 < (putL x b L).length then none else some (putL x b L, p3)
theorem Rd1.map {base2 rb a B n sz : Nat} {bs : List Int} {W W1 : World} {m : ByteArray → Option Hd} (h : Rd1 base2 rb bs a W) (hm : HMap W B n m sz) (hg : W.grownBy W1 (some B)) : Rd1 base2 rb bs a W1 := by
  obtain ⟨⟨h1, h2, v, h3, h4⟩, h5, h6⟩ := h
  exact ⟨⟨h1, h2, v, (hg.block rb (blk_lt h3) (fun e => hm.ne h3 (by injection e with e; exact e.symm))).trans h3, Kd.R_grown1 h4 rfl hg (fun e => by
    obtain ⟨cs, h7⟩ := Kd.R_typed h4 B e.symm
    exact hm.ne h7 rfl)⟩, h5, h6⟩
theorem name_size {K : Nat} {nm : ByteArray → Bool} (hK : StFacts K nm) (bs : List Int) (a : Nat) : (nameR nm bs a).1.size ≤ 24 := by
  unfold nameR
  split
  · show ByteArray.empty.size ≤ 24; decide
  · split
    · show ByteArray.empty.size ≤ 24; decide
    · split
      · show ByteArray.empty.size ≤ 24; decide
      · split
        · rename_i h
          exact (hK.siz _ h).2
        · show ByteArray.empty.size ≤ 24; decide
theorem take_le (bs : List Int) (a : Nat) (n : Int) (h : n ≤ 4096) : (takeR bs a n).1.length ≤ 4096 := by
  unfold takeR
  split
  · simp
  · split
    · simp
    · rw [seg_len _ _ _ (by omega)]
      omega
def RecPost (base rb g : Nat) (F : Nat → Prop) (base2 : Nat) (bs img : List Int) (w : World) (out : Option (List S101 × Nat)) (e : Ending) (w' : World) : Prop :=
  (w.heap.size ≤ w'.heap.size ∧ ∀ (B : Nat) (w0 : World), B ≤ base → B ≤ rb → Below B w0 w → Below B w0 w') ∧ match out with
  | none => e = .returned (.bool false)
  | some q => e = .returned (.bool true) ∧ SAt base (fun b => F b ∨ (w.heap.size ≤ b ∧ b < w'.heap.size)) g ⟨img, q.1⟩ w' ∧ Rd1 base2 rb bs q.2 w'
set_option maxHeartbeats 12800000 in
set_option maxRecDepth 100000 in
theorem record_st {base base2 rb g a : Nat} {F : Nat → Prop} {s : Sto} {bs : List Int} {w : World} (K : Nat) (nm : ByteArray → Bool) (hK : StFacts K nm) (hsr : Srt s.L) (hl : s.L.length ≤ 16) (ha : a < bs.length) (hr : Rd1 base2 rb bs a w) (hf : ¬ F rb) (h : SAt base F g s w) : Calls Try.prog 56 #[.pointer (some ⟨g, 0, none⟩), .pointer (some ⟨rb, 0, none⟩)] w fun e w' => RecPost base rb g F base2 bs s.img w (recS nm bs s.L a) e w' := by
  have HS0 := Aside0.mk h
  have HR0 := Aside0.mk hr
  have HK := Aside0.mk hK
  have HSR := Aside0.mk hsr
  have HLL := Aside0.mk hl
  have HF := Aside0.mk hf
  have HB0 := Aside0.mk (fun (B : Nat) (w0 : World) (_ : B ≤ base) (_ : B ≤ rb) (q : Below B w0 w) => q)
  have HZ0 := Aside0.mk (Nat.le_refl w.heap.size)
  have hsz := name_size hK bs (a + 1)
  obtain ⟨⟨x, p, er⟩, hnr⟩ : ∃ q, q = nameR nm bs (a + 1) := ⟨_, rfl⟩
  obtain ⟨z, hz⟩ : ∃ z, z = rd bs (a : Int) := ⟨_, rfl⟩
  have HZR := Aside0.mk hz
  have HNR := Aside0.mk hnr.symm
  rw [← hnr] at hsz
  have HX := Aside0.mk (show x.size ≤ maxLen by simp only at hsz; unfold maxLen; omega)
  unfold recS
  rw [← hnr, ← hz]
  clear h hr hK hsr hl hf hnr hz hsz
  simp only
  by_cases c1 : er = 0
  · subst c1
    rw [if_neg (by decide)]
    by_cases c2 : z = 2
    · subst c2
      by_cases c3 : (lkL s.L x).isSome = true
      · rw [if_pos ⟨rfl, c3⟩]
        go_enter Try.func56, Try.ntmps56
        go_wp2_with fail
        refine (Byte_1 HR0.out).mono ?_
        rintro e w1 ⟨rfl, hp⟩
        rw [numR_one bs a (by omega)] at hp ⊢
        rw [← HZR.out]
        have HB1 := Aside0.mk (fun (B : Nat) (w0 : World) (q1 : B ≤ base) (q2 : B ≤ rb) (q : Below B w0 w) => hp.2.2 B w0 q2 (HB0.out B w0 q1 q2 q))
        have HS1 := Aside0.mk (HS0.out.kept hp.2.1 (fun b q1 q2 => HF.out (q2 ▸ q1)))
        have HR1 := Aside0.mk hp.1
        have HZ1 := Aside0.mk (Nat.le_trans HZ0.out hp.2.1.1)
        clear hp
        simp only at HR1
        go_wp2_with fail
        refine (Name_1 K nm HK.out.rd w1 HR1.out).mono ?_
        rintro e w2 ⟨rfl, hp⟩
        rw [HNR.out] at hp ⊢
        simp only at hp ⊢
        have HB2 := Aside0.mk (fun (B : Nat) (w0 : World) (q1 : B ≤ base) (q2 : B ≤ rb) (q : Below B w0 w) => hp.2.2 B w0 q2 (HB1.out B w0 q1 q2 q))
        have HS2 := Aside0.mk (HS1.out.kept hp.2.1 (fun b q1 q2 => HF.out (q2 ▸ q1)))
        have HR2 := Aside0.mk hp.1
        have HZ2 := Aside0.mk (Nat.le_trans HZ1.out hp.2.1.1)
        clear hp
        obtain ⟨A4, c4, B4, m4, h1, h2, h3, h4, h5, h6⟩ := HS2.out.cells
        have hc1 := blk_cell h1 1
        have H3 := Aside0.mk h3
        have hlk := lk_hd h5 x
        have HHM := Aside0.mk (And.intro h1 (And.intro h2 (And.intro h3 (And.intro h4 (And.intro h5 h6)))))
        clear h1 h2 h3 h4 h5 h6
        have g3 : (m4 x).isSome = true := by
          rcases hlk with ⟨q, _⟩ | ⟨d, xs, q, _⟩
          · rw [q] at c3; cases c3
          · rw [q]; rfl
        go_wp2_with (first | (first | ((with_reducible refine gate_dst (N := 29) rfl ?_); refine hm_look_ok rfl rfl rfl H3.out rfl HX.out ?_)) | ((with_reducible refine gate_builtin (b := .delete) (xs := #[.tmp 44, .tmp 45]) rfl ?_); refine hm_drop (k := x) rfl rfl rfl HHM.out.2.2.1 rfl HX.out ?_; intro w7 hm7 hg7; have HM7 := Aside0.mk hm7; have HG7 := Aside0.mk hg7; clear hm7 hg7))
        have hlt4 := HS2.out.lt
        have hfs4 := HS2.out.fs
        have hp := SAt.cut (W1 := w7) x HSR.out HHM.out.1 HHM.out.2.1 HHM.out.2.2.1 HHM.out.2.2.2.1 HHM.out.2.2.2.2.1 HHM.out.2.2.2.2.2 hfs4 hlt4 HM7.out HG7.out
        have hsz := HG7.out.size
        have hz := HZ2.out
        go_ret
        refine ⟨⟨by omega, fun B w0 q1 q2 q => (HB2.out B w0 q1 q2 q).grown HG7.out (by have := hlt4 g hfs4; omega) (fun k hk => by
          injection hk with hk
          subst hk
          have := (hlt4 _ HHM.out.2.2.2.1).1
          omega)⟩, rfl, hp.more (fun k q => .inl q) (fun k q => ?_), HR2.out.map HHM.out.2.2.1 HG7.out⟩
        rcases q with q | q
        · exact ⟨(hlt4 k q).1, by have := (hlt4 k q).2; omega⟩
        · exact ⟨by have := HS0.out.lt g HS0.out.fs; omega, q.2⟩
      · rw [if_neg (fun q => c3 q.2), if_pos (by decide)]
        go_enter Try.func56, Try.ntmps56
        go_wp2_with fail
        refine (Byte_1 HR0.out).mono ?_
        rintro e w1 ⟨rfl, hp⟩
        rw [numR_one bs a (by omega)] at hp ⊢
        rw [← HZR.out]
        have HB1 := Aside0.mk (fun (B : Nat) (w0 : World) (q1 : B ≤ base) (q2 : B ≤ rb) (q : Below B w0 w) => hp.2.2 B w0 q2 (HB0.out B w0 q1 q2 q))
        have HS1 := Aside0.mk (HS0.out.kept hp.2.1 (fun b q1 q2 => HF.out (q2 ▸ q1)))
        have HR1 := Aside0.mk hp.1
        have HZ1 := Aside0.mk (Nat.le_trans HZ0.out hp.2.1.1)
        clear hp
        simp only at HR1
        go_wp2_with fail
        refine (Name_1 K nm HK.out.rd w1 HR1.out).mono ?_
        rintro e w2 ⟨rfl, hp⟩
        rw [HNR.out] at hp ⊢
        simp only at hp ⊢
        have HB2 := Aside0.mk (fun (B : Nat) (w0 : World) (q1 : B ≤ base) (q2 : B ≤ rb) (q : Below B w0 w) => hp.2.2 B w0 q2 (HB1.out B w0 q1 q2 q))
        have HS2 := Aside0.mk (HS1.out.kept hp.2.1 (fun b q1 q2 => HF.out (q2 ▸ q1)))
        have HR2 := Aside0.mk hp.1
        have HZ2 := Aside0.mk (Nat.le_trans HZ1.out hp.2.1.1)
        clear hp
        obtain ⟨A4, c4, B4, m4, h1, h2, h3, h4, h5, h6⟩ := HS2.out.cells
        have hc1 := blk_cell h1 1
        have H3 := Aside0.mk h3
        have hlk := lk_hd h5 x
        have HHM := Aside0.mk (And.intro h1 (And.intro h2 (And.intro h3 (And.intro h4 (And.intro h5 h6)))))
        clear h1 h2 h3 h4 h5 h6
        have g3 : (m4 x).isSome = false := by
          rcases hlk with ⟨_, q⟩ | ⟨d, xs, _, q⟩
          · rw [q]; rfl
          · rw [q] at c3; exact absurd rfl c3
        go_wp2_with (first | (first | ((with_reducible refine gate_dst (N := 29) rfl ?_); refine hm_look_ok rfl rfl rfl H3.out rfl HX.out ?_)))
        go_wp2_with fail
        go_ret
        exact ⟨⟨HZ2.out, HB2.out⟩, rfl⟩
    · have c2b : (z == 2) = false := beq_eq_false_iff_ne.mpr c2
      rw [if_neg (fun q => c2 q.1)]
      by_cases c4 : z = 1
      · subst c4
        rw [if_neg (by decide)]
        obtain ⟨⟨n, p2, e2⟩, hn2⟩ : ∃ q, q = numR 2 bs p := ⟨_, rfl⟩
        have HNM2 := Aside0.mk hn2.symm
        rw [← hn2]
        clear hn2
        simp only
        by_cases c5 : e2 = 0
        · subst c5
          by_cases c6 : 4096 < n
          · have c6b : decide ((4096 : Int) < n) = true := decide_eq_true c6
            rw [if_pos (.inr c6)]
            go_enter Try.func56, Try.ntmps56
            go_wp2_with fail
            refine (Byte_1 HR0.out).mono ?_
            rintro e w1 ⟨rfl, hp⟩
            rw [numR_one bs a (by omega)] at hp ⊢
            rw [← HZR.out]
            have HB1 := Aside0.mk (fun (B : Nat) (w0 : World) (q1 : B ≤ base) (q2 : B ≤ rb) (q : Below B w0 w) => hp.2.2 B w0 q2 (HB0.out B w0 q1 q2 q))
            have HS1 := Aside0.mk (HS0.out.kept hp.2.1 (fun b q1 q2 => HF.out (q2 ▸ q1)))
            have HR1 := Aside0.mk hp.1
            have HZ1 := Aside0.mk (Nat.le_trans HZ0.out hp.2.1.1)
            clear hp
            simp only at HR1
            go_wp2_with fail
            refine (Name_1 K nm HK.out.rd w1 HR1.out).mono ?_
            rintro e w2 ⟨rfl, hp⟩
            rw [HNR.out] at hp ⊢
            simp only at hp ⊢
            have HB2 := Aside0.mk (fun (B : Nat) (w0 : World) (q1 : B ≤ base) (q2 : B ≤ rb) (q : Below B w0 w) => hp.2.2 B w0 q2 (HB1.out B w0 q1 q2 q))
            have HS2 := Aside0.mk (HS1.out.kept hp.2.1 (fun b q1 q2 => HF.out (q2 ▸ q1)))
            have HR2 := Aside0.mk hp.1
            have HZ2 := Aside0.mk (Nat.le_trans HZ1.out hp.2.1.1)
            clear hp
            obtain ⟨A4, c4, B4, m4, h1, h2, h3, h4, h5, h6⟩ := HS2.out.cells
            have hc1 := blk_cell h1 1
            have H3 := Aside0.mk h3
            have hlk := lk_hd h5 x
            have HHM := Aside0.mk (And.intro h1 (And.intro h2 (And.intro h3 (And.intro h4 (And.intro h5 h6)))))
            clear h1 h2 h3 h4 h5 h6
            go_wp2_with (first | (first | ((with_reducible refine gate_dst (N := 29) rfl ?_); refine hm_look_ok rfl rfl rfl H3.out rfl HX.out ?_)))
            go_wp2_with fail
            refine (Word_1 HR2.out).mono ?_
            rintro e w3 ⟨rfl, hp⟩
            rw [HNM2.out] at hp ⊢
            simp only at hp ⊢
            have HB3 := Aside0.mk (fun (B : Nat) (w0 : World) (q1 : B ≤ base) (q2 : B ≤ rb) (q : Below B w0 w) => hp.2.2 B w0 q2 (HB2.out B w0 q1 q2 q))
            have HS3 := Aside0.mk (HS2.out.kept hp.2.1 (fun b q1 q2 => HF.out (q2 ▸ q1)))
            have HR3 := Aside0.mk hp.1
            have HZ3 := Aside0.mk (Nat.le_trans HZ2.out hp.2.1.1)
            clear hp
            go_wp2_with fail
            go_ret
            exact ⟨⟨HZ3.out, HB3.out⟩, rfl⟩
          · have c6b : decide ((4096 : Int) < n) = false := decide_eq_false c6
            rw [if_neg (by rintro (q | q); exact q rfl; exact c6 q)]
            have htl := take_le bs p2 n (by omega)
            obtain ⟨⟨b, p3, e3⟩, ht⟩ : ∃ q, q = takeR bs p2 n := ⟨_, rfl⟩
            have HTK := Aside0.mk ht.symm
            rw [← ht] at htl ⊢
            clear ht
            simp only at htl ⊢
            by_cases c7 : e3 = 0
            · subst c7
              rw [if_neg (by decide)]
              by_cases c9 : 16 < (putL x b s.L).length
              · have c9b : decide (((putL x b s.L).length : Int) ≤ 16) = false := decide_eq_false (by omega)
                rw [if_pos c9]
                go_enter Try.func56, Try.ntmps56
                go_wp2_with fail
                refine (Byte_1 HR0.out).mono ?_
                rintro e w1 ⟨rfl, hp⟩
                rw [numR_one bs a (by omega)] at hp ⊢
                rw [← HZR.out]
                have HB1 := Aside0.mk (fun (B : Nat) (w0 : World) (q1 : B ≤ base) (q2 : B ≤ rb) (q : Below B w0 w) => hp.2.2 B w0 q2 (HB0.out B w0 q1 q2 q))
                have HS1 := Aside0.mk (HS0.out.kept hp.2.1 (fun b q1 q2 => HF.out (q2 ▸ q1)))
                have HR1 := Aside0.mk hp.1
                have HZ1 := Aside0.mk (Nat.le_trans HZ0.out hp.2.1.1)
                clear hp
                simp only at HR1
                go_wp2_with fail
                refine (Name_1 K nm HK.out.rd w1 HR1.out).mono ?_
                rintro e w2 ⟨rfl, hp⟩
                rw [HNR.out] at hp ⊢
                simp only at hp ⊢
                have HB2 := Aside0.mk (fun (B : Nat) (w0 : World) (q1 : B ≤ base) (q2 : B ≤ rb) (q : Below B w0 w) => hp.2.2 B w0 q2 (HB1.out B w0 q1 q2 q))
                have HS2 := Aside0.mk (HS1.out.kept hp.2.1 (fun b q1 q2 => HF.out (q2 ▸ q1)))
                have HR2 := Aside0.mk hp.1
                have HZ2 := Aside0.mk (Nat.le_trans HZ1.out hp.2.1.1)
                clear hp
                obtain ⟨A4, c4, B4, m4, h1, h2, h3, h4, h5, h6⟩ := HS2.out.cells
                have hc1 := blk_cell h1 1
                have H3 := Aside0.mk h3
                have hlk := lk_hd h5 x
                have HHM := Aside0.mk (And.intro h1 (And.intro h2 (And.intro h3 (And.intro h4 (And.intro h5 h6)))))
                clear h1 h2 h3 h4 h5 h6
                go_wp2_with (first | (first | ((with_reducible refine gate_dst (N := 29) rfl ?_); refine hm_look_ok rfl rfl rfl H3.out rfl HX.out ?_)))
                go_wp2_with fail
                refine (Word_1 HR2.out).mono ?_
                rintro e w3 ⟨rfl, hp⟩
                rw [HNM2.out] at hp ⊢
                simp only at hp ⊢
                have HB3 := Aside0.mk (fun (B : Nat) (w0 : World) (q1 : B ≤ base) (q2 : B ≤ rb) (q : Below B w0 w) => hp.2.2 B w0 q2 (HB2.out B w0 q1 q2 q))
                have HS3 := Aside0.mk (HS2.out.kept hp.2.1 (fun b q1 q2 => HF.out (q2 ▸ q1)))
                have HR3 := Aside0.mk hp.1
                have HZ3 := Aside0.mk (Nat.le_trans HZ2.out hp.2.1.1)
                clear hp
                go_wp2_with fail
                refine (Take_1 HR3.out n).mono ?_
                rintro e w4 ⟨v, rfl, hp, hrv⟩
                rw [HTK.out] at hp hrv ⊢
                simp only at hp hrv ⊢
                have HRV := Aside0.mk hrv
                have HB4 := Aside0.mk (fun (B : Nat) (w0 : World) (q1 : B ≤ base) (q2 : B ≤ rb) (q : Below B w0 w) => hp.2.2 B w0 q2 (HB3.out B w0 q1 q2 q))
                have HS4 := Aside0.mk (HS3.out.kept hp.2.1 (fun b q1 q2 => HF.out (q2 ▸ q1)))
                have HR4 := Aside0.mk hp.1
                have HZ4 := Aside0.mk (Nat.le_trans HZ3.out hp.2.1.1)
                clear hp
                clear hrv
                obtain ⟨A5, c5, e5⟩ := Kd.R_slice HRV.out
                subst e5
                obtain ⟨A6, c6, B6, m6, h1, h2, h3, h4, h5, h6⟩ := HS4.out.cells
                have hc1 := blk_cell h1 1
                have H6 := Aside0.mk (And.intro h1 (And.intro h2 (And.intro h3 (And.intro h4 (And.intro h5 h6)))))
                have hne : some g ≠ some B6 := fun q => h3.ne h1 (by injection q with q; exact q.symm)
                have HLX := Aside0.mk h5
                have hgl := blk_lt h1
                have hle : (if (m6 x).isSome = true then s.L.length else s.L.length + 1) = (putL x b s.L).length := by rw [put_len x b HSR.out, HLX.out x]
                clear h1 h2 h3 h4 h5 h6
                go_wp2_with (first | (refine hm_store (k := x) (c := ⟨A5, b.length, c5⟩) rfl rfl rfl H6.out.2.2.1 (by show s.L.length < maxLen; have := HLL.out; unfold maxLen; omega) rfl rfl HX.out (hd_ok HRV.out) ?_; intro w7 hm7 hg7; rw [hle] at hm7; have HM7 := Aside0.mk hm7; have HG7 := Aside0.mk hg7; have hc1b := blk_cell ((hg7.block g hgl hne).trans H6.out.1) 1; clear hm7 hg7 hc1) | ((with_reducible refine gate_dst (N := 78) rfl ?_); refine hm_len rfl rfl rfl HM7.out ?_))
                have hlt4 := HS4.out.lt
                have hfs4 := HS4.out.fs
                have hp := SAt.put (F := fun k => F k ∨ (w.heap.size ≤ k ∧ k < w4.heap.size)) (W1 := w7) x b ⟨A5, b.length, c5⟩ HSR.out H6.out.1 (Kd.R_mono H6.out.2.1 (fun k q => .inl q)) H6.out.2.2.1 (.inl H6.out.2.2.2.1) H6.out.2.2.2.2.1 (fun y d hd xs hx => ⟨(H6.out.2.2.2.2.2 y d hd xs hx).1, (H6.out.2.2.2.2.2 y d hd xs hx).2.1, Kd.F_mono (H6.out.2.2.2.2.2 y d hd xs hx).2.2 (fun k q => ⟨.inl q.1, q.2⟩)⟩) (.inl hfs4) (fun k q => q.elim (fun q => hlt4 k q) (fun q => ⟨by have := HS0.out.lt g HS0.out.fs; omega, q.2⟩)) rfl (Kd.R_reads' HRV.out).2.1 (Kd.F_mono (Kd.R_F (Kd.R_bound HRV.out)) (fun k q => by
                  have h9 : w.heap.size ≤ k := Nat.le_trans HZ3.out q.2.1
                  refine ⟨.inr ⟨h9, q.2.2.1⟩, fun e => ?_, fun e => ?_, fun e => ?_⟩
                  · have := (HS0.out.lt k (H6.out.2.1.1 k e)).2
                    omega
                  · have := (HS0.out.lt _ H6.out.2.2.2.1).2
                    omega
                  · have := (HS0.out.lt _ HS0.out.fs).2
                    omega)) (by rw [hle]; exact HM7.out) HG7.out
                have hsz := HG7.out.size
                have hz := HZ4.out
                have hbel : ∀ (B : Nat) (w0 : World), B ≤ base → B ≤ rb → Below B w0 w → Below B w0 w7 := fun B w0 q1 q2 q => (HB4.out B w0 q1 q2 q).grown HG7.out (by have := hlt4 g hfs4; omega) (fun k hk => by
                  injection hk with hk
                  subst hk
                  have := (hlt4 _ H6.out.2.2.2.1).1
                  omega)
                go_wp2_with fail
                go_ret
                exact ⟨⟨by omega, hbel⟩, rfl⟩
              · have c9b : decide (((putL x b s.L).length : Int) ≤ 16) = true := decide_eq_true (by omega)
                rw [if_neg c9]
                go_enter Try.func56, Try.ntmps56
                go_wp2_with fail
                refine (Byte_1 HR0.out).mono ?_
                rintro e w1 ⟨rfl, hp⟩
                rw [numR_one bs a (by omega)] at hp ⊢
                rw [← HZR.out]
                have HB1 := Aside0.mk (fun (B : Nat) (w0 : World) (q1 : B ≤ base) (q2 : B ≤ rb) (q : Below B w0 w) => hp.2.2 B w0 q2 (HB0.out B w0 q1 q2 q))
                have HS1 := Aside0.mk (HS0.out.kept hp.2.1 (fun b q1 q2 => HF.out (q2 ▸ q1)))
                have HR1 := Aside0.mk hp.1
                have HZ1 := Aside0.mk (Nat.le_trans HZ0.out hp.2.1.1)
                clear hp
                simp only at HR1
                go_wp2_with fail
                refine (Name_1 K nm HK.out.rd w1 HR1.out).mono ?_
                rintro e w2 ⟨rfl, hp⟩
                rw [HNR.out] at hp ⊢
                simp only at hp ⊢
                have HB2 := Aside0.mk (fun (B : Nat) (w0 : World) (q1 : B ≤ base) (q2 : B ≤ rb) (q : Below B w0 w) => hp.2.2 B w0 q2 (HB1.out B w0 q1 q2 q))
                have HS2 := Aside0.mk (HS1.out.kept hp.2.1 (fun b q1 q2 => HF.out (q2 ▸ q1)))
                have HR2 := Aside0.mk hp.1
                have HZ2 := Aside0.mk (Nat.le_trans HZ1.out hp.2.1.1)
                clear hp
                obtain ⟨A4, c4, B4, m4, h1, h2, h3, h4, h5, h6⟩ := HS2.out.cells
                have hc1 := blk_cell h1 1
                have H3 := Aside0.mk h3
                have hlk := lk_hd h5 x
                have HHM := Aside0.mk (And.intro h1 (And.intro h2 (And.intro h3 (And.intro h4 (And.intro h5 h6)))))
                clear h1 h2 h3 h4 h5 h6
                go_wp2_with (first | (first | ((with_reducible refine gate_dst (N := 29) rfl ?_); refine hm_look_ok rfl rfl rfl H3.out rfl HX.out ?_)))
                go_wp2_with fail
                refine (Word_1 HR2.out).mono ?_
                rintro e w3 ⟨rfl, hp⟩
                rw [HNM2.out] at hp ⊢
                simp only at hp ⊢
                have HB3 := Aside0.mk (fun (B : Nat) (w0 : World) (q1 : B ≤ base) (q2 : B ≤ rb) (q : Below B w0 w) => hp.2.2 B w0 q2 (HB2.out B w0 q1 q2 q))
                have HS3 := Aside0.mk (HS2.out.kept hp.2.1 (fun b q1 q2 => HF.out (q2 ▸ q1)))
                have HR3 := Aside0.mk hp.1
                have HZ3 := Aside0.mk (Nat.le_trans HZ2.out hp.2.1.1)
                clear hp
                go_wp2_with fail
                refine (Take_1 HR3.out n).mono ?_
                rintro e w4 ⟨v, rfl, hp, hrv⟩
                rw [HTK.out] at hp hrv ⊢
                simp only at hp hrv ⊢
                have HRV := Aside0.mk hrv
                have HB4 := Aside0.mk (fun (B : Nat) (w0 : World) (q1 : B ≤ base) (q2 : B ≤ rb) (q : Below B w0 w) => hp.2.2 B w0 q2 (HB3.out B w0 q1 q2 q))
                have HS4 := Aside0.mk (HS3.out.kept hp.2.1 (fun b q1 q2 => HF.out (q2 ▸ q1)))
                have HR4 := Aside0.mk hp.1
                have HZ4 := Aside0.mk (Nat.le_trans HZ3.out hp.2.1.1)
                clear hp
                clear hrv
                obtain ⟨A5, c5, e5⟩ := Kd.R_slice HRV.out
                subst e5
                obtain ⟨A6, c6, B6, m6, h1, h2, h3, h4, h5, h6⟩ := HS4.out.cells
                have hc1 := blk_cell h1 1
                have H6 := Aside0.mk (And.intro h1 (And.intro h2 (And.intro h3 (And.intro h4 (And.intro h5 h6)))))
                have hne : some g ≠ some B6 := fun q => h3.ne h1 (by injection q with q; exact q.symm)
                have HLX := Aside0.mk h5
                have hgl := blk_lt h1
                have hle : (if (m6 x).isSome = true then s.L.length else s.L.length + 1) = (putL x b s.L).length := by rw [put_len x b HSR.out, HLX.out x]
                clear h1 h2 h3 h4 h5 h6
                go_wp2_with (first | (refine hm_store (k := x) (c := ⟨A5, b.length, c5⟩) rfl rfl rfl H6.out.2.2.1 (by show s.L.length < maxLen; have := HLL.out; unfold maxLen; omega) rfl rfl HX.out (hd_ok HRV.out) ?_; intro w7 hm7 hg7; rw [hle] at hm7; have HM7 := Aside0.mk hm7; have HG7 := Aside0.mk hg7; have hc1b := blk_cell ((hg7.block g hgl hne).trans H6.out.1) 1; clear hm7 hg7 hc1) | ((with_reducible refine gate_dst (N := 78) rfl ?_); refine hm_len rfl rfl rfl HM7.out ?_))
                have hlt4 := HS4.out.lt
                have hfs4 := HS4.out.fs
                have hp := SAt.put (F := fun k => F k ∨ (w.heap.size ≤ k ∧ k < w4.heap.size)) (W1 := w7) x b ⟨A5, b.length, c5⟩ HSR.out H6.out.1 (Kd.R_mono H6.out.2.1 (fun k q => .inl q)) H6.out.2.2.1 (.inl H6.out.2.2.2.1) H6.out.2.2.2.2.1 (fun y d hd xs hx => ⟨(H6.out.2.2.2.2.2 y d hd xs hx).1, (H6.out.2.2.2.2.2 y d hd xs hx).2.1, Kd.F_mono (H6.out.2.2.2.2.2 y d hd xs hx).2.2 (fun k q => ⟨.inl q.1, q.2⟩)⟩) (.inl hfs4) (fun k q => q.elim (fun q => hlt4 k q) (fun q => ⟨by have := HS0.out.lt g HS0.out.fs; omega, q.2⟩)) rfl (Kd.R_reads' HRV.out).2.1 (Kd.F_mono (Kd.R_F (Kd.R_bound HRV.out)) (fun k q => by
                  have h9 : w.heap.size ≤ k := Nat.le_trans HZ3.out q.2.1
                  refine ⟨.inr ⟨h9, q.2.2.1⟩, fun e => ?_, fun e => ?_, fun e => ?_⟩
                  · have := (HS0.out.lt k (H6.out.2.1.1 k e)).2
                    omega
                  · have := (HS0.out.lt _ H6.out.2.2.2.1).2
                    omega
                  · have := (HS0.out.lt _ HS0.out.fs).2
                    omega)) (by rw [hle]; exact HM7.out) HG7.out
                have hsz := HG7.out.size
                have hz := HZ4.out
                have hbel : ∀ (B : Nat) (w0 : World), B ≤ base → B ≤ rb → Below B w0 w → Below B w0 w7 := fun B w0 q1 q2 q => (HB4.out B w0 q1 q2 q).grown HG7.out (by have := hlt4 g hfs4; omega) (fun k hk => by
                  injection hk with hk
                  subst hk
                  have := (hlt4 _ H6.out.2.2.2.1).1
                  omega)
                go_wp2_with fail
                go_ret
                refine ⟨⟨by omega, hbel⟩, rfl, hp.more (fun k q => q.elim .inl (fun q => .inr ⟨q.1, by omega⟩)) (fun k q => ?_), HR4.out.map H6.out.2.2.1 HG7.out⟩
                rcases q with q | q
                · exact ⟨(hlt4 k q).1, by have := (hlt4 k q).2; omega⟩
                · exact ⟨by have := HS0.out.lt g HS0.out.fs; omega, q.2⟩
            · have c7b : (e3 != 0) = true := by simpa using c7
              rw [if_pos c7]
              go_enter Try.func56, Try.ntmps56
              go_wp2_with fail
              refine (Byte_1 HR0.out).mono ?_
              rintro e w1 ⟨rfl, hp⟩
              rw [numR_one bs a (by omega)] at hp ⊢
              rw [← HZR.out]
              have HB1 := Aside0.mk (fun (B : Nat) (w0 : World) (q1 : B ≤ base) (q2 : B ≤ rb) (q : Below B w0 w) => hp.2.2 B w0 q2 (HB0.out B w0 q1 q2 q))
              have HS1 := Aside0.mk (HS0.out.kept hp.2.1 (fun b q1 q2 => HF.out (q2 ▸ q1)))
              have HR1 := Aside0.mk hp.1
              have HZ1 := Aside0.mk (Nat.le_trans HZ0.out hp.2.1.1)
              clear hp
              simp only at HR1
              go_wp2_with fail
              refine (Name_1 K nm HK.out.rd w1 HR1.out).mono ?_
              rintro e w2 ⟨rfl, hp⟩
              rw [HNR.out] at hp ⊢
              simp only at hp ⊢
              have HB2 := Aside0.mk (fun (B : Nat) (w0 : World) (q1 : B ≤ base) (q2 : B ≤ rb) (q : Below B w0 w) => hp.2.2 B w0 q2 (HB1.out B w0 q1 q2 q))
              have HS2 := Aside0.mk (HS1.out.kept hp.2.1 (fun b q1 q2 => HF.out (q2 ▸ q1)))
              have HR2 := Aside0.mk hp.1
              have HZ2 := Aside0.mk (Nat.le_trans HZ1.out hp.2.1.1)
              clear hp
              obtain ⟨A4, c4, B4, m4, h1, h2, h3, h4, h5, h6⟩ := HS2.out.cells
              have hc1 := blk_cell h1 1
              have H3 := Aside0.mk h3
              have hlk := lk_hd h5 x
              have HHM := Aside0.mk (And.intro h1 (And.intro h2 (And.intro h3 (And.intro h4 (And.intro h5 h6)))))
              clear h1 h2 h3 h4 h5 h6
              go_wp2_with (first | (first | ((with_reducible refine gate_dst (N := 29) rfl ?_); refine hm_look_ok rfl rfl rfl H3.out rfl HX.out ?_)))
              go_wp2_with fail
              refine (Word_1 HR2.out).mono ?_
              rintro e w3 ⟨rfl, hp⟩
              rw [HNM2.out] at hp ⊢
              simp only at hp ⊢
              have HB3 := Aside0.mk (fun (B : Nat) (w0 : World) (q1 : B ≤ base) (q2 : B ≤ rb) (q : Below B w0 w) => hp.2.2 B w0 q2 (HB2.out B w0 q1 q2 q))
              have HS3 := Aside0.mk (HS2.out.kept hp.2.1 (fun b q1 q2 => HF.out (q2 ▸ q1)))
              have HR3 := Aside0.mk hp.1
              have HZ3 := Aside0.mk (Nat.le_trans HZ2.out hp.2.1.1)
              clear hp
              go_wp2_with fail
              refine (Take_1 HR3.out n).mono ?_
              rintro e w4 ⟨v, rfl, hp, hrv⟩
              rw [HTK.out] at hp hrv ⊢
              simp only at hp hrv ⊢
              have HRV := Aside0.mk hrv
              have HB4 := Aside0.mk (fun (B : Nat) (w0 : World) (q1 : B ≤ base) (q2 : B ≤ rb) (q : Below B w0 w) => hp.2.2 B w0 q2 (HB3.out B w0 q1 q2 q))
              have HS4 := Aside0.mk (HS3.out.kept hp.2.1 (fun b q1 q2 => HF.out (q2 ▸ q1)))
              have HR4 := Aside0.mk hp.1
              have HZ4 := Aside0.mk (Nat.le_trans HZ3.out hp.2.1.1)
              clear hp
              clear hrv
              go_wp2_with fail
              go_ret
              exact ⟨⟨HZ4.out, HB4.out⟩, rfl⟩
        · have c5b : (e2 != 0) = true := by simpa using c5
          rw [if_pos (.inl c5)]
          go_enter Try.func56, Try.ntmps56
          go_wp2_with fail
          refine (Byte_1 HR0.out).mono ?_
          rintro e w1 ⟨rfl, hp⟩
          rw [numR_one bs a (by omega)] at hp ⊢
          rw [← HZR.out]
          have HB1 := Aside0.mk (fun (B : Nat) (w0 : World) (q1 : B ≤ base) (q2 : B ≤ rb) (q : Below B w0 w) => hp.2.2 B w0 q2 (HB0.out B w0 q1 q2 q))
          have HS1 := Aside0.mk (HS0.out.kept hp.2.1 (fun b q1 q2 => HF.out (q2 ▸ q1)))
          have HR1 := Aside0.mk hp.1
          have HZ1 := Aside0.mk (Nat.le_trans HZ0.out hp.2.1.1)
          clear hp
          simp only at HR1
          go_wp2_with fail
          refine (Name_1 K nm HK.out.rd w1 HR1.out).mono ?_
          rintro e w2 ⟨rfl, hp⟩
          rw [HNR.out] at hp ⊢
          simp only at hp ⊢
          have HB2 := Aside0.mk (fun (B : Nat) (w0 : World) (q1 : B ≤ base) (q2 : B ≤ rb) (q : Below B w0 w) => hp.2.2 B w0 q2 (HB1.out B w0 q1 q2 q))
          have HS2 := Aside0.mk (HS1.out.kept hp.2.1 (fun b q1 q2 => HF.out (q2 ▸ q1)))
          have HR2 := Aside0.mk hp.1
          have HZ2 := Aside0.mk (Nat.le_trans HZ1.out hp.2.1.1)
          clear hp
          obtain ⟨A4, c4, B4, m4, h1, h2, h3, h4, h5, h6⟩ := HS2.out.cells
          have hc1 := blk_cell h1 1
          have H3 := Aside0.mk h3
          have hlk := lk_hd h5 x
          have HHM := Aside0.mk (And.intro h1 (And.intro h2 (And.intro h3 (And.intro h4 (And.intro h5 h6)))))
          clear h1 h2 h3 h4 h5 h6
          go_wp2_with (first | (first | ((with_reducible refine gate_dst (N := 29) rfl ?_); refine hm_look_ok rfl rfl rfl H3.out rfl HX.out ?_)))
          go_wp2_with fail
          refine (Word_1 HR2.out).mono ?_
          rintro e w3 ⟨rfl, hp⟩
          rw [HNM2.out] at hp ⊢
          simp only at hp ⊢
          have HB3 := Aside0.mk (fun (B : Nat) (w0 : World) (q1 : B ≤ base) (q2 : B ≤ rb) (q : Below B w0 w) => hp.2.2 B w0 q2 (HB2.out B w0 q1 q2 q))
          have HS3 := Aside0.mk (HS2.out.kept hp.2.1 (fun b q1 q2 => HF.out (q2 ▸ q1)))
          have HR3 := Aside0.mk hp.1
          have HZ3 := Aside0.mk (Nat.le_trans HZ2.out hp.2.1.1)
          clear hp
          go_wp2_with fail
          go_ret
          exact ⟨⟨HZ3.out, HB3.out⟩, rfl⟩
      · have c4b : (z != 1) = true := by simpa using c4
        rw [if_pos c4]
        go_enter Try.func56, Try.ntmps56
        go_wp2_with fail
        refine (Byte_1 HR0.out).mono ?_
        rintro e w1 ⟨rfl, hp⟩
        rw [numR_one bs a (by omega)] at hp ⊢
        rw [← HZR.out]
        have HB1 := Aside0.mk (fun (B : Nat) (w0 : World) (q1 : B ≤ base) (q2 : B ≤ rb) (q : Below B w0 w) => hp.2.2 B w0 q2 (HB0.out B w0 q1 q2 q))
        have HS1 := Aside0.mk (HS0.out.kept hp.2.1 (fun b q1 q2 => HF.out (q2 ▸ q1)))
        have HR1 := Aside0.mk hp.1
        have HZ1 := Aside0.mk (Nat.le_trans HZ0.out hp.2.1.1)
        clear hp
        simp only at HR1
        go_wp2_with fail
        refine (Name_1 K nm HK.out.rd w1 HR1.out).mono ?_
        rintro e w2 ⟨rfl, hp⟩
        rw [HNR.out] at hp ⊢
        simp only at hp ⊢
        have HB2 := Aside0.mk (fun (B : Nat) (w0 : World) (q1 : B ≤ base) (q2 : B ≤ rb) (q : Below B w0 w) => hp.2.2 B w0 q2 (HB1.out B w0 q1 q2 q))
        have HS2 := Aside0.mk (HS1.out.kept hp.2.1 (fun b q1 q2 => HF.out (q2 ▸ q1)))
        have HR2 := Aside0.mk hp.1
        have HZ2 := Aside0.mk (Nat.le_trans HZ1.out hp.2.1.1)
        clear hp
        obtain ⟨A4, c4, B4, m4, h1, h2, h3, h4, h5, h6⟩ := HS2.out.cells
        have hc1 := blk_cell h1 1
        have H3 := Aside0.mk h3
        have hlk := lk_hd h5 x
        have HHM := Aside0.mk (And.intro h1 (And.intro h2 (And.intro h3 (And.intro h4 (And.intro h5 h6)))))
        clear h1 h2 h3 h4 h5 h6
        go_wp2_with (first | (first | ((with_reducible refine gate_dst (N := 29) rfl ?_); refine hm_look_ok rfl rfl rfl H3.out rfl HX.out ?_)))
        go_wp2_with fail
        go_ret
        exact ⟨⟨HZ2.out, HB2.out⟩, rfl⟩
  · have c1b : (er != 0) = true := by simpa using c1
    rw [if_pos c1]
    go_enter Try.func56, Try.ntmps56
    go_wp2_with fail
    refine (Byte_1 HR0.out).mono ?_
    rintro e w1 ⟨rfl, hp⟩
    rw [numR_one bs a (by omega)] at hp ⊢
    rw [← HZR.out]
    have HB1 := Aside0.mk (fun (B : Nat) (w0 : World) (q1 : B ≤ base) (q2 : B ≤ rb) (q : Below B w0 w) => hp.2.2 B w0 q2 (HB0.out B w0 q1 q2 q))
    have HS1 := Aside0.mk (HS0.out.kept hp.2.1 (fun b q1 q2 => HF.out (q2 ▸ q1)))
    have HR1 := Aside0.mk hp.1
    have HZ1 := Aside0.mk (Nat.le_trans HZ0.out hp.2.1.1)
    clear hp
    simp only at HR1
    go_wp2_with fail
    refine (Name_1 K nm HK.out.rd w1 HR1.out).mono ?_
    rintro e w2 ⟨rfl, hp⟩
    rw [HNR.out] at hp ⊢
    simp only at hp ⊢
    have HB2 := Aside0.mk (fun (B : Nat) (w0 : World) (q1 : B ≤ base) (q2 : B ≤ rb) (q : Below B w0 w) => hp.2.2 B w0 q2 (HB1.out B w0 q1 q2 q))
    have HS2 := Aside0.mk (HS1.out.kept hp.2.1 (fun b q1 q2 => HF.out (q2 ▸ q1)))
    have HR2 := Aside0.mk hp.1
    have HZ2 := Aside0.mk (Nat.le_trans HZ1.out hp.2.1.1)
    clear hp
    obtain ⟨A4, c4, B4, m4, h1, h2, h3, h4, h5, h6⟩ := HS2.out.cells
    have hc1 := blk_cell h1 1
    have H3 := Aside0.mk h3
    have hlk := lk_hd h5 x
    have HHM := Aside0.mk (And.intro h1 (And.intro h2 (And.intro h3 (And.intro h4 (And.intro h5 h6)))))
    clear h1 h2 h3 h4 h5 h6
    go_wp2_with (first | (first | ((with_reducible refine gate_dst (N := 29) rfl ?_); refine hm_look_ok rfl rfl rfl H3.out rfl HX.out ?_)))
    go_wp2_with fail
    go_ret
    exact ⟨⟨HZ2.out, HB2.out⟩, rfl⟩
end
end Go.Proofs.Ytfakdphkklclgaa.P

end

section
namespace Go.Proofs.Ytfakdphkklclgaa.P
open Go.RowKit Go.Proofs.YtfakdphkklclgaaW.PrintWords Go.Proofs.YtfakdphkklclgaaW.PrintLast Go.Proofs.YtfakdphkklclgaaW.PrintMore
attribute [local go_sem] max2_int min2_int max_two min_two max_three min_three max_four min_four
set_option linter.unusedVariables false
set_option linter.unusedSimpArgs false
section
open Go.ChangeMaps Go.MapKept
set_option linter.unusedVariables false
theorem SAt.fresh {base g : Nat} {F : Nat → Prop} {s : Sto} {W W1 : World} {img : List Int} {v : Value} (h : SAt base F g s W) (hb : Below W.heap.size W W1) (hR : Kd.R (Kd.int .u8) 5 W1 W.heap.size (fun _ => True) v img) : SAt base (fun b => F b ∨ (W.heap.size ≤ b ∧ b < W1.heap.size)) g ⟨img, s.L⟩ (W1.setCell ⟨g, 0, none⟩ v) := by
  have hlt := h.lt
  have hfg := h.fs
  obtain ⟨A, c, B, m, h1, h2, h3, h4, h5, h6⟩ := h.cells
  have hs := setCell_size W1 ⟨g, 0, none⟩ v
  have g1 := blk_below h1 hb
  have hsz := hb.size
  refine ⟨⟨v, B, m, blk_set g1 0 v, ?_, (h3.block (hb.block B h3.lt)).block (Below.heap_setCell _ _ _ B (h3.ne h1)), .inl h4, h5, fun x d hd xs hx => ?_⟩, .inl hfg, fun b q => ?_⟩
  · exact Kd.R_set (Kd.R_lower (Kd.R_mono (Kd.R_bound hR) (fun b q => .inr ⟨q.2.1, q.2.2.1⟩)) (by have := hlt g hfg; omega)) g1 (by decide) 0 v
  · obtain ⟨q1, q2, q3⟩ := h6 x d hd xs hx
    refine ⟨q1, q2, Kd.F_mono (Kd.F_far (Kd.F_below (Kd.F_bound q3) hb) (fun k hk => hk.1.2.2.2) v) (fun b q => ⟨.inl q.1.1, fun e => ?_, q.1.2.2⟩)⟩
    have := Kd.R_base_ hR b e
    have := q.2
    omega
  · rw [hs]
    rcases q with q | q
    · exact ⟨(hlt b q).1, by have := (hlt b q).2; omega⟩
    · exact ⟨by have := hlt g hfg; omega, q.2⟩
theorem nameR_go (nm : ByteArray → Bool) (bs : List Int) (a : Nat) (h : (nameR nm bs a).2.2 = 0) : a < (nameR nm bs a).2.1 ∧ (nameR nm bs a).2.1 ≤ bs.length := by
  unfold nameR at h ⊢
  split
  · rename_i c; rw [if_pos c] at h; cases h
  · rename_i c; rw [if_neg c] at h
    split
    · rename_i c2; rw [if_pos c2] at h; cases h
    · rename_i c2; rw [if_neg c2] at h
      split
      · rename_i c3; rw [if_pos c3] at h; cases h
      · rename_i c3; rw [if_neg c3] at h
        split
        · simp only; omega
        · rename_i c4; rw [if_neg c4] at h; cases h
theorem numR_go (k : Nat) (bs : List Int) (a : Nat) (h : (numR k bs a).2.2 = 0) : (numR k bs a).2.1 = a + k ∧ a + k ≤ bs.length := by
  unfold numR at h ⊢
  split
  · rename_i c; rw [if_pos c] at h; cases h
  · exact ⟨rfl, by omega⟩
theorem takeR_go (bs : List Int) (a : Nat) (n : Int) (ha : a ≤ bs.length) (h : (takeR bs a n).2.2 = 0) : a ≤ (takeR bs a n).2.1 ∧ (takeR bs a n).2.1 ≤ bs.length := by
  unfold takeR at h ⊢
  split
  · rename_i c; rw [if_pos c] at h; cases h
  · rename_i c; rw [if_neg c] at h
    split
    · rename_i c2; rw [if_pos c2] at h; cases h
    · simp only; omega
theorem recS_go {nm : ByteArray → Bool} {bs : List Int} {L : List S101} {a : Nat} {q : List S101 × Nat} (h : recS nm bs L a = some q) (hs : Srt L) (hl : L.length ≤ 16) : a < q.2 ∧ q.2 ≤ bs.length ∧ Srt q.1 ∧ q.1.length ≤ 16 := by
  unfold recS at h
  have h1 := nameR_go nm bs (a + 1)
  obtain ⟨⟨x, p, er⟩, hnr⟩ : ∃ q, q = nameR nm bs (a + 1) := ⟨_, rfl⟩
  rw [← hnr] at h h1
  simp only at h h1
  by_cases c1 : er ≠ 0
  · rw [if_pos c1] at h; cases h
  rw [if_neg c1] at h
  have h1 := h1 (by simpa using c1)
  by_cases c2 : rd bs (a : Int) = 2 ∧ (lkL L x).isSome = true
  · rw [if_pos c2] at h
    cases h
    exact ⟨by simp only; omega, h1.2, hs.sublist (cut_sub x L), Nat.le_trans (cut_sub x L).length_le hl⟩
  rw [if_neg c2] at h
  by_cases c3 : rd bs (a : Int) ≠ 1
  · rw [if_pos c3] at h; cases h
  rw [if_neg c3] at h
  have h2 := numR_go 2 bs p
  obtain ⟨⟨n, p2, e2⟩, hn⟩ : ∃ q, q = numR 2 bs p := ⟨_, rfl⟩
  rw [← hn] at h h2
  simp only at h h2
  by_cases c4 : e2 ≠ 0 ∨ 4096 < n
  · rw [if_pos c4] at h; cases h
  rw [if_neg c4] at h
  have h2 := h2 (by simpa using fun q => c4 (.inl q))
  have h3 := takeR_go bs p2 n (by omega)
  obtain ⟨⟨b, p3, e3⟩, ht⟩ : ∃ q, q = takeR bs p2 n := ⟨_, rfl⟩
  rw [← ht] at h h3
  simp only at h h3
  by_cases c5 : e3 ≠ 0
  · rw [if_pos c5] at h; cases h
  rw [if_neg c5] at h
  have h3 := h3 (by simpa using c5)
  by_cases c6 : 16 < (putL x b L).length
  · rw [if_pos c6] at h; cases h
  rw [if_neg c6] at h
  cases h
  exact ⟨by simp only; omega, h3.2, put_srt x b hs, by simp only; omega⟩
def openG (nm : ByteArray → Bool) (bs : List Int) : Nat → List S101 → Nat → Option (List S101 × Nat)
  | 0, _, _ => none
  | k + 1, L, a => if a < bs.length ∧ rd bs (a : Int) ≠ 0 then match recS nm bs L a with
      | none => none
      | some q => openG nm bs k q.1 q.2
    else some (L, a)
def openS (nm : ByteArray → Bool) (bs : List Int) : Option Sto := if 1048576 < bs.length then none else (openG nm bs (bs.length + 1) [] 0).map fun q => ⟨bs.take q.2, q.1⟩
def OpenPost (w : World) (out : Option Sto) (e : Ending) (w' : World) : Prop := Below w.heap.size w w' ∧ match out with
  | none => e = .returned (.tuple #[.pointer none, .int .i64 210])
  | some s => ∃ g, e = .returned (.tuple #[.pointer (some ⟨g, 0, none⟩), .int .i64 0]) ∧ SAt w.heap.size (fun b => w.heap.size ≤ b ∧ b < w'.heap.size) g s w'
set_option maxHeartbeats 12800000 in
set_option maxRecDepth 100000 in
theorem Open_st (K : Nat) (nm : ByteArray → Bool) (hK : StFacts K nm) (A0 : Option Addr) (c0 : Nat) (l0 : List Int) (w : World) (hr0 : Kd.C (Kd.int .u8) w A0 l0.length l0) (hc0 : l0.length ≤ c0) (hby : ∀ x ∈ l0, 0 ≤ x ∧ x ≤ 255) : Calls Try.prog 26 #[.slice A0 l0.length c0] w fun e w' => OpenPost w (openS nm l0) e w' := by
  have HR0 := Aside0.mk hr0
  have HC0 := Aside0.mk hc0
  have HK := Aside0.mk hK
  have HBY := Aside0.mk hby
  clear hr0 hc0 hK hby
  by_cases c1 : 1048576 < l0.length
  · have c1b : decide ((1048576 : Int) < (l0.length : Int)) = true := decide_eq_true (by omega)
    unfold openS
    rw [if_pos c1]
    go_enter Try.func26, Try.ntmps26
    go_wp2_with fail
    go_ret2
    exact ⟨Below.refl _ _, rfl⟩
  · have c1b : decide ((1048576 : Int) < (l0.length : Int)) = false := decide_eq_false (by omega)
    obtain ⟨res, hres⟩ : ∃ r, openG nm l0 (l0.length + 1) [] 0 = r := ⟨_, rfl⟩
    have hos : openS nm l0 = res.map fun q => ⟨l0.take q.2, q.1⟩ := by
      unfold openS
      rw [if_neg c1, hres]
    rw [hos]
    clear hos
    have HRES := Aside0.mk hres
    clear hres
    go_enter Try.func26, Try.ntmps26
    go_wp2_with fail
    refine (New_st w).mono ?_
    rintro e w1 ⟨g, rfl, hs, hb⟩
    have HS := Aside0.mk hs
    have HB := Aside0.mk hb
    clear hs hb
    go_wp2_with fail
    refine (Over_calls A0 c0 l0 w1 (Kd.C_below HR0.out HB.out) HC0.out (by omega)).mono ?_
    rintro e w2 ⟨rb, rfl, hrd, hb⟩
    have hrb := hrd.ge
    have HRD := Aside0.mk (show Rd1 w1.heap.size rb l0 0 w2 from ⟨hrd, HBY.out, by omega⟩)
    have hrl : rb < w2.heap.size := by
      obtain ⟨v, h3, _⟩ := hrd.now
      exact blk_lt h3
    have HRB := Aside0.mk (show w1.heap.size ≤ rb ∧ w.heap.size ≤ w1.heap.size from ⟨hrb, HB.out.size⟩)
    replace HS := Aside0.mk (show SAt w.heap.size (fun b => w.heap.size ≤ b ∧ b < w2.heap.size ∧ b ≠ rb) g ⟨[], []⟩ w2 from (HS.out.step hb).more (fun b q => ⟨q.1, Nat.lt_of_lt_of_le q.2 hb.size, by have := q.2; omega⟩) (fun b q => ⟨q.1, q.2.1⟩))
    replace HB := Aside0.mk (below_step HB.out hb)
    clear hrd hb hrb hrl
    go_wp2_with fail
    obtain ⟨k, hk⟩ : ∃ k, k = l0.length + 1 := ⟨_, rfl⟩
    rw [← hk] at HRES
    have HFU := Aside0.mk (show l0.length - 0 < k by omega)
    have HSL := Aside0.mk (show Srt [] ∧ ([] : List S101).length ≤ 16 from ⟨List.Pairwise.nil, by decide⟩)
    clear hk
    go_loopg [3] k (fun kq v3 wr => ∃ (L : List S101) (a : Nat), Aside0 (SAt w.heap.size (fun b => w.heap.size ≤ b ∧ b < wr.heap.size ∧ b ≠ rb) g ⟨[], L⟩ wr) ∧ Aside0 (Rd1 w1.heap.size rb l0 a wr) ∧ Aside0 (Below w.heap.size w wr) ∧ Aside0 (openG nm l0 kq L a = res) ∧ Aside0 (Srt L ∧ L.length ≤ 16) ∧ Aside0 (l0.length - a < kq))
    case atStart => exact ⟨[], 0, HS, HRD, HB, HRES, HSL, HFU⟩
    case round =>
      clear HS HRD HB HRES HSL HFU
      obtain ⟨L, a, HS, HRD, HB, HRES, HSL, HFU⟩ := hrel
      cases gk with
      | zero => exact absurd HFU.out (by omega)
      | succ gk =>
      have hgo := HRES.out
      unfold openG at hgo
      have hale := HRD.out.rd.le
      go_wp2_with fail
      refine (Left_rd HRD.out.rd).mono ?_
      rintro e w3 ⟨rfl, k3, rfl⟩
      by_cases c2 : a < l0.length
      · have c2b : decide ((l0.length : Int) - (a : Int) > 0) = true := decide_eq_true (by omega)
        obtain ⟨ad, eA, _⟩ := HR0.out.2.2 (by omega)
        subst eA
        have hcell := Kd.foot_int (Kd.C_below (Kd.C_below HR0.out HB.out) (pw_below_drewN (Below.refl wr.heap.size wr) k3)) (a : Int) (by omega) (by omega)
        go_wp2_with fail
        refine (At_rd (HRD.out.rd.drewN k3)).mono ?_
        rintro e w4 ⟨rfl, k4, rfl⟩
        rw [Int.toNat_natCast] at hcell
        replace hcell := show (wr.drewN (k3 + k4)).cell? (ad.add a) = _ from hcell
        obtain ⟨z, hz⟩ : ∃ z, z = rd l0 (a : Int) := ⟨_, rfl⟩
        rw [← hz] at hcell hgo
        have HS4 := Aside0.mk (HS.out.step (pw_below_drewN (Below.refl _ _) (k3 + k4)))
        have HR4 := Aside0.mk (HRD.out.drewN (k3 + k4))
        have HB4 := Aside0.mk (pw_below_drewN HB.out (k3 + k4))
        by_cases c3 : z = 0
        · subst c3
          rw [if_neg (fun q => q.2 rfl)] at hgo
          go_wp2_with fail
          have hres : res = some (L, a) := hgo.symm
          subst hres
          clear hgo
          refine (At_rd (HRD.out.rd.drewN (k3 + k4))).mono ?_
          rintro e w6 ⟨rfl, k6, rfl⟩
          have hcap : a ≤ c0 := by have := HC0.out; omega
          have hta : (l0.take a).length = a := by rw [List.length_take]; omega
          have hC6 := Kd.C_take (Kd.C_below HR0.out (pw_below_drewN HB.out ((k3 + k4) + k6))) hale
          rw [hta] at hC6
          have HC6 := Aside0.mk hC6
          clear hC6
          go_wp2_with fail
          have hcl := cloned_calls (some ad) c0 (l0.take a) (wr.drewN ((k3 + k4) + k6)) (by rw [hta]; exact HC6.out) (by rw [hta]; omega)
          rw [hta] at hcl
          refine hcl.mono ?_
          rintro e w8 ⟨v, rfl, hR8, hb8⟩
          have HS8 := Aside0.mk (SAt.fresh (HS.out.step (pw_below_drewN (Below.refl _ _) ((k3 + k4) + k6))) hb8 hR8)
          have HB8 := Aside0.mk (below_step (pw_below_drewN HB.out ((k3 + k4) + k6)) hb8)
          obtain ⟨A9, c9, B9, m9, g1, _⟩ := HS.out.cells
          have hI := blk_below (blk_drewN g1 ((k3 + k4) + k6)) hb8
          have hcI := blk_cell hI 0
          have hfI := blk_frozen hI 0
          have hg9 := HS.out.lt g HS.out.fs
          have hz8 : wr.heap.size ≤ w8.heap.size := hb8.size
          obtain ⟨A10, c10, e10⟩ := Kd.R_slice hR8
          rw [hta] at e10
          subst e10
          clear hcl hR8 hb8 g1 hI
          go_wp2_with fail
          go_ret2
          refine ⟨HB8.out.setCell (show w.heap.size ≤ g from hg9.1) _, g, rfl, HS8.out.more (fun b q => ?_) (fun b q => q)⟩
          rw [setCell_size]
          rcases q with q | q
          · exact ⟨q.1, Nat.lt_of_lt_of_le q.2.1 hz8⟩
          · have h9 : w.heap.size ≤ wr.heap.size := by omega
            have h8 : wr.heap.size ≤ b := q.1
            exact ⟨Nat.le_trans h9 h8, q.2⟩
        · have c3b : (z != 0) = true := by simpa using c3
          rw [if_pos ⟨c2, c3⟩] at hgo
          have HGO := Aside0.mk hgo
          clear hgo hz
          go_wp2_with fail
          refine (record_st (base2 := w1.heap.size) K nm HK.out HSL.out.1 HSL.out.2 c2 HR4.out (fun q => q.2.2 rfl) HS4.out).mono ?_
          rintro e w5 ⟨⟨hz5, hb5⟩, hp⟩
          have HZ5 := Aside0.mk (show wr.heap.size ≤ w5.heap.size from hz5)
          have HB5 := Aside0.mk (hb5 w.heap.size w (Nat.le_refl _) (by have := HRB.out; omega) HB4.out)
          clear hb5 hz5
          cases hrec : recS nm l0 L a with
          | none =>
            rw [hrec] at hp
            simp only at hp
            subst hp
            have hn : res = none := by
              have := HGO.out
              rw [hrec] at this
              exact this.symm
            subst hn
            go_wp2_with fail
            go_ret2
            exact ⟨HB5.out, rfl⟩
          | some q =>
            rw [hrec] at hp
            obtain ⟨rfl, hs5, hr5⟩ := hp
            have hq := recS_go hrec HSL.out.1 HSL.out.2
            have HGO2 := Aside0.mk (show openG nm l0 gk q.1 q.2 = res by have := HGO.out; rw [hrec] at this; exact this)
            have HSL2 := Aside0.mk (And.intro hq.2.2.1 hq.2.2.2)
            have HFU2 := Aside0.mk (show l0.length - q.2 < gk by have := HFU.out; omega)
            have hrw : rb < wr.heap.size := by
              obtain ⟨v, h3, _⟩ := HRD.out.rd.now
              exact blk_lt h3
            have hlt5 := hs5.lt
            have hww : wr.heap.size ≤ w5.heap.size := HZ5.out
            have HS5 := Aside0.mk (hs5.more (F' := fun b => w.heap.size ≤ b ∧ b < w5.heap.size ∧ b ≠ rb) (fun b q => q.elim (fun q => ⟨q.1, by have : b < wr.heap.size := q.2.1; omega, q.2.2⟩) (fun q => ⟨by have := HB4.out.size; omega, q.2, by have : wr.heap.size ≤ b := q.1; omega⟩)) (fun b q => ⟨q.1, q.2.1⟩))
            have HR5 := Aside0.mk hr5
            clear hs5 hr5 hq hrec hrw hlt5 hww HGO
            go_wp2_with fail
            go_roundg gk
            case measure => omega
            case rel => exact ⟨q.1, q.2, HS5, HR5, HB5, HGO2, HSL2, HFU2⟩
      · have c2b : decide ((l0.length : Int) - (a : Int) > 0) = false := decide_eq_false (by omega)
        have k4 : Nat := 0
        rw [if_neg (fun q => c2 q.1)] at hgo
        go_wp2_with fail
        have hres : res = some (L, a) := hgo.symm
        subst hres
        clear hgo
        refine (At_rd (HRD.out.rd.drewN k3)).mono ?_
        rintro e w6 ⟨rfl, k6, rfl⟩
        have hcap : a ≤ c0 := by have := HC0.out; omega
        have hta : (l0.take a).length = a := by rw [List.length_take]; omega
        have hC6 := Kd.C_take (Kd.C_below HR0.out (pw_below_drewN HB.out (k3 + k6))) hale
        rw [hta] at hC6
        have HC6 := Aside0.mk hC6
        clear hC6
        go_wp2_with fail
        have hcl := cloned_calls A0 c0 (l0.take a) (wr.drewN (k3 + k6)) (by rw [hta]; exact HC6.out) (by rw [hta]; omega)
        rw [hta] at hcl
        refine hcl.mono ?_
        rintro e w8 ⟨v, rfl, hR8, hb8⟩
        have HS8 := Aside0.mk (SAt.fresh (HS.out.step (pw_below_drewN (Below.refl _ _) (k3 + k6))) hb8 hR8)
        have HB8 := Aside0.mk (below_step (pw_below_drewN HB.out (k3 + k6)) hb8)
        obtain ⟨A9, c9, B9, m9, g1, _⟩ := HS.out.cells
        have hI := blk_below (blk_drewN g1 (k3 + k6)) hb8
        have hcI := blk_cell hI 0
        have hfI := blk_frozen hI 0
        have hg9 := HS.out.lt g HS.out.fs
        have hz8 : wr.heap.size ≤ w8.heap.size := hb8.size
        obtain ⟨A10, c10, e10⟩ := Kd.R_slice hR8
        rw [hta] at e10
        subst e10
        clear hcl hR8 hb8 g1 hI
        go_wp2_with fail
        go_ret2
        refine ⟨HB8.out.setCell (show w.heap.size ≤ g from hg9.1) _, g, rfl, HS8.out.more (fun b q => ?_) (fun b q => q)⟩
        rw [setCell_size]
        rcases q with q | q
        · exact ⟨q.1, Nat.lt_of_lt_of_le q.2.1 hz8⟩
        · have h9 : w.heap.size ≤ wr.heap.size := by omega
          have h8 : wr.heap.size ≤ b := q.1
          exact ⟨Nat.le_trans h9 h8, q.2⟩
end
end Go.Proofs.Ytfakdphkklclgaa.P

end

section
namespace Go.Proofs.Ytfakdphkklclgaa.P
open Go.RowKit Go.Proofs.YtfakdphkklclgaaW.PrintWords Go.Proofs.YtfakdphkklclgaaW.PrintLast Go.Proofs.YtfakdphkklclgaaW.PrintMore
attribute [local go_sem] max2_int min2_int max_two min_two max_three min_three max_four min_four
set_option linter.unusedVariables false
set_option linter.unusedSimpArgs false
section
theorem nameR_ok (nm : ByteArray → Bool) (bs : List Int) (a : Nat) (h : (nameR nm bs a).2.2 = 0) : nm (nameR nm bs a).1 = true := by
  unfold nameR at h ⊢
  split
  · rename_i c; rw [if_pos c] at h; cases h
  · rename_i c; rw [if_neg c] at h
    split
    · rename_i c2; rw [if_pos c2] at h; cases h
    · rename_i c2; rw [if_neg c2] at h
      split
      · rename_i c3; rw [if_pos c3] at h; cases h
      · rename_i c3; rw [if_neg c3] at h
        split
        · assumption
        · rename_i c4; rw [if_neg c4] at h; cases h
theorem rec_good {nm : ByteArray → Bool} {bs : List Int} (hby : ∀ x ∈ bs, 0 ≤ x ∧ x ≤ 255) {L : List S101} {a : Nat} {q : List S101 × Nat} (h : recS nm bs L a = some q) (hn : ∀ k ∈ L, nm k.f0 = true) (hv : ∀ k ∈ L, k.f1.length ≤ 4096 ∧ ∀ x ∈ k.f1, 0 ≤ x ∧ x ≤ 255) : (∀ k ∈ q.1, nm k.f0 = true) ∧ ∀ k ∈ q.1, k.f1.length ≤ 4096 ∧ ∀ x ∈ k.f1, 0 ≤ x ∧ x ≤ 255 := by
  unfold recS at h
  have h1 := nameR_ok nm bs (a + 1)
  obtain ⟨⟨x, p, er⟩, hnr⟩ : ∃ q, q = nameR nm bs (a + 1) := ⟨_, rfl⟩
  rw [← hnr] at h h1
  simp only at h h1
  by_cases c1 : er ≠ 0
  · rw [if_pos c1] at h; cases h
  rw [if_neg c1] at h
  have h1 := h1 (by simpa using c1)
  by_cases c2 : rd bs (a : Int) = 2 ∧ (lkL L x).isSome = true
  · rw [if_pos c2] at h
    cases h
    exact ⟨fun k hk => hn k ((cut_sub x L).subset hk), fun k hk => hv k ((cut_sub x L).subset hk)⟩
  rw [if_neg c2] at h
  by_cases c3 : rd bs (a : Int) ≠ 1
  · rw [if_pos c3] at h; cases h
  rw [if_neg c3] at h
  obtain ⟨⟨n, p2, e2⟩, hn2⟩ : ∃ q, q = numR 2 bs p := ⟨_, rfl⟩
  rw [← hn2] at h
  simp only at h
  by_cases c4 : e2 ≠ 0 ∨ 4096 < n
  · rw [if_pos c4] at h; cases h
  rw [if_neg c4] at h
  have h3 := take_le bs p2 n (by omega)
  have h4 := take_sub bs p2 n
  obtain ⟨⟨b, p3, e3⟩, ht⟩ : ∃ q, q = takeR bs p2 n := ⟨_, rfl⟩
  rw [← ht] at h h3 h4
  simp only at h h3 h4
  by_cases c5 : e3 ≠ 0
  · rw [if_pos c5] at h; cases h
  rw [if_neg c5] at h
  by_cases c6 : 16 < (putL x b L).length
  · rw [if_pos c6] at h; cases h
  rw [if_neg c6] at h
  cases h
  refine ⟨fun k hk => ?_, fun k hk => ?_⟩
  · rcases put_mem hk with rfl | hk
    · exact h1
    · exact hn k hk
  · rcases put_mem hk with rfl | hk
    · exact ⟨h3, fun z hz => hby z (h4 z hz)⟩
    · exact hv k hk
theorem open_good {nm : ByteArray → Bool} {bs : List Int} (hby : ∀ x ∈ bs, 0 ≤ x ∧ x ≤ 255) : ∀ (k : Nat) (L : List S101) (a : Nat) (q : List S101 × Nat), openG nm bs k L a = some q → Srt L → L.length ≤ 16 → (∀ k ∈ L, nm k.f0 = true) → (∀ k ∈ L, k.f1.length ≤ 4096 ∧ ∀ x ∈ k.f1, 0 ≤ x ∧ x ≤ 255) → Srt q.1 ∧ q.1.length ≤ 16 ∧ (∀ k ∈ q.1, nm k.f0 = true) ∧ ∀ k ∈ q.1, k.f1.length ≤ 4096 ∧ ∀ x ∈ k.f1, 0 ≤ x ∧ x ≤ 255
  | 0, _, _, _, h => by cases h
  | k + 1, L, a, q, h => fun h1 h2 h3 h4 => by
    unfold openG at h
    split at h
    · cases hr : recS nm bs L a with
      | none => rw [hr] at h; cases h
      | some p =>
        rw [hr] at h
        have g1 := recS_go hr h1 h2
        have g2 := rec_good hby hr h3 h4
        exact open_good hby k p.1 p.2 q h g1.2.2.1 g1.2.2.2 g2.1 g2.2
    · cases h
      exact ⟨h1, h2, h3, h4⟩
theorem good_open {nm : ByteArray → Bool} {bs : List Int} (hby : ∀ x ∈ bs, 0 ≤ x ∧ x ≤ 255) {s : Sto} (h : openS nm bs = some s) : Good nm s := by
  unfold openS at h
  split at h
  · cases h
  · rename_i hl
    cases hq : openG nm bs (bs.length + 1) [] 0 with
    | none => rw [hq] at h; cases h
    | some q =>
      rw [hq] at h
      cases h
      obtain ⟨g1, g2, g3, g4⟩ := open_good hby _ _ _ _ hq List.Pairwise.nil (by decide) (fun _ q => by cases q) (fun _ q => by cases q)
      exact ⟨by simp only [List.length_take]; omega, fun z hz => hby z (List.mem_of_mem_take hz), g2, g1, g3, g4⟩
theorem lk_at {L : List S101} (h : Srt L) (i : Nat) (hi : i < L.length) : lkL L L[i].f0 = some L[i].f1 := by
  induction L generalizing i with
  | nil => cases hi
  | cons k l ih =>
    obtain ⟨h1, h2⟩ := List.pairwise_cons.1 h
    cases i with
    | zero => show (if k.f0 = k.f0 then _ else _) = _; rw [if_pos rfl]; rfl
    | succ i =>
      unfold lkL
      rw [if_neg]
      · exact ih h2 i (by simpa using hi)
      · intro e
        have hi' : i < l.length := by simpa using hi
        have := h1 (l[i]'hi') (List.getElem_mem _)
        rw [e] at this
        simp only [List.getElem_cons_succ] at this
        rw [lessB_irr] at this
        cases this
end
end Go.Proofs.Ytfakdphkklclgaa.P

end

section
namespace Go.Proofs.Ytfakdphkklclgaa.P
open Go.RowKit Go.Proofs.YtfakdphkklclgaaW.PrintWords Go.Proofs.YtfakdphkklclgaaW.PrintLast Go.Proofs.YtfakdphkklclgaaW.PrintMore
attribute [local go_sem] max2_int min2_int max_two min_two max_three min_three max_four min_four
set_option linter.unusedVariables false
set_option linter.unusedSimpArgs false
section
open Go.ChangeMaps Go.MapKept
set_option linter.unusedVariables false
section
variable {ops : Array Oper} {rest : List Oper} {o : Oper} {a : Act} {Q : Exit → Act → World → Prop}
end
theorem nil_own (W : World) (base : Nat) (hb : base ≤ W.heap.size) : Kd.R (Kd.int .u8) 5 (W.alloc (.cells #[] 5)) base (fun _ => True) (.slice (some ⟨W.heap.size, 0, none⟩) 0 0) [] :=
  ⟨fun _ _ => trivial, nums .u8 [], ⟨rfl, .inr ⟨W.heap.size, 0, #[], rfl, hb, blk_new _ _, by decide, by decide, rfl, rfl⟩⟩, Kd.reps_scalar (enc := Value.int .u8) []⟩
end
end Go.Proofs.Ytfakdphkklclgaa.P

end

section
namespace Go.Proofs.Ytfakdphkklclgaa.P
open Go.RowKit Go.Proofs.YtfakdphkklclgaaW.PrintWords Go.Proofs.YtfakdphkklclgaaW.PrintLast Go.Proofs.YtfakdphkklclgaaW.PrintMore
attribute [local go_sem] max2_int min2_int max_two min_two max_three min_three max_four min_four
set_option linter.unusedVariables false
set_option linter.unusedSimpArgs false
section
open Go.ChangeMaps Go.MapKept
set_option linter.unusedVariables false
structure DAt (Z : Nat → Prop) (x : Value) (s : Sto) (W : World) : Prop where
  now : ∃ (A0 : Option Addr) (c0 : Nat) (A1 : Option Addr) (c1 : Nat), x = .agg #[.slice A0 s.img.length c0, .slice A1 s.L.length c1] ∧ s.img.length ≤ c0 ∧ s.L.length ≤ c1 ∧ Kd.F (Kd.int .u8) W Z A0 s.img.length s.img ∧ Kd.F k101 W Z A1 s.L.length s.L
section
variable {Z Z' S : Nat → Prop} {x : Value} {s : Sto} {W W1 : World}
theorem DAt.step (h : DAt Z x s W) (hb : Below W.heap.size W W1) : DAt Z x s W1 := by
  obtain ⟨A0, c0, A1, c1, h1, h2, h3, h4, h5⟩ := h
  exact ⟨A0, c0, A1, c1, h1, h2, h3, Kd.F_below h4 hb, Kd.F_below h5 hb⟩
theorem DAt.kept (h : DAt Z x s W) (hk : Kept W W1 S) (hS : ∀ b, Z b → ¬ S b) : DAt Z x s W1 := by
  obtain ⟨A0, c0, A1, c1, h1, h2, h3, h4, h5⟩ := h
  exact ⟨A0, c0, A1, c1, h1, h2, h3, Kd.F_kept h4 hk hS, Kd.F_kept h5 hk hS⟩
theorem DAt.mono (h : DAt Z x s W) (hZ : ∀ b, Z b → Z' b) : DAt Z' x s W := by
  obtain ⟨A0, c0, A1, c1, h1, h2, h3, h4, h5⟩ := h
  exact ⟨A0, c0, A1, c1, h1, h2, h3, Kd.F_mono h4 hZ, Kd.F_mono h5 hZ⟩
theorem DAt.bound (h : DAt Z x s W) : DAt (fun b => Z b ∧ b < W.heap.size) x s W := by
  obtain ⟨A0, c0, A1, c1, h1, h2, h3, h4, h5⟩ := h
  exact ⟨A0, c0, A1, c1, h1, h2, h3, Kd.F_bound h4, Kd.F_bound h5⟩
theorem DAt.zero (Z : Nat → Prop) (W : World) : DAt Z (.agg #[.slice none 0 0, .slice none 0 0]) ⟨[], []⟩ W := ⟨none, 0, none, 0, rfl, Nat.le_refl _, Nat.le_refl _, Kd.F_nil _ _ _, Kd.F_nil _ _ _⟩
end
def DWr (Z : Nat → Prop) (m : Value) (ws : List S52) (W : World) : Prop := ∃ A c, m = .slice A ws.length c ∧ ws.length ≤ c ∧ Kd.F k52 W Z A ws.length ws
theorem DWr.kept {Z S : Nat → Prop} {m : Value} {ws : List S52} {W W1 : World} (h : DWr Z m ws W) (hk : Kept W W1 S) (hS : ∀ b, Z b → ¬ S b) : DWr Z m ws W1 := by
  obtain ⟨A, c, h1, h2, h3⟩ := h
  exact ⟨A, c, h1, h2, Kd.F_kept h3 hk hS⟩
theorem DWr.step {Z : Nat → Prop} {m : Value} {ws : List S52} {W W1 : World} (h : DWr Z m ws W) (hb : Below W.heap.size W W1) : DWr Z m ws W1 := by
  obtain ⟨A, c, h1, h2, h3⟩ := h
  exact ⟨A, c, h1, h2, Kd.F_below h3 hb⟩
theorem DWr.mono {Z Z' : Nat → Prop} {m : Value} {ws : List S52} {W : World} (h : DWr Z m ws W) (hZ : ∀ b, Z b → Z' b) : DWr Z' m ws W := by
  obtain ⟨A, c, h1, h2, h3⟩ := h
  exact ⟨A, c, h1, h2, Kd.F_mono h3 hZ⟩
theorem DWr.nil (Z : Nat → Prop) (W : World) : DWr Z (.slice none 0 0) [] W := ⟨none, 0, rfl, Nat.le_refl _, Kd.F_nil _ _ _⟩
theorem Rws.old {w0 W W1 : World} {l : List (Nat × TypeId × Array Value)} (h : Rws w0 l W) {B : Nat} (hB : ∀ p ∈ l, p.1 < B) (hb : Below B W W1) (hw : w0.heap.size ≤ B) : Rws w0 l W1 := ⟨fun p hp => ⟨(hb.block _ (hB p hp)).trans (h.lies p hp).1, (h.lies p hp).2⟩, h.ne, h.below.trans (hb.mono hw)⟩
theorem rw_allocS {P : Program} {ops : Array Oper} {rest : List Oper} {o : Oper} {a : Act} {Q : Exit → Act → World → Prop} (hgd : o.guard = none) (ty : TypeId) (ho : o.op = .alloc ty) {cs : Array Value} (hz : (P.info? ty).map (·.zero) = some (some (.agg cs))) {w0 W : World} {l : List (Nat × TypeId × Array Value)} (hl : Rws w0 l W)
    (h : ∀ g w1, g = W.heap.size → Rws w0 ((g, ty, cs) :: l) w1 → Below W.heap.size W w1 → wpList P ops Q rest (a.put o.dst (.pointer (some ⟨g, 0, none⟩))) w1) : wpList P ops Q (o :: rest) a W :=
  wpList_plain hgd fun _ hK => rw_alloc_wp ty ho hz hl (fun g w1 h1 h2 h3 => hK _ _ (h g w1 h1 h2 h3))
theorem rw_storeS {P : Program} {ops : Array Oper} {rest : List Oper} {o : Oper} {a : Act} {Q : Exit → Act → World → Prop} (hgd : o.guard = none) (ty : TypeId) {x y : Operand} (ho : o.op = .store ty x y) {g : Nat} (hx : a.eval x = .pointer (some ⟨g, 0, none⟩)) {cs' : Array Value} (hy : a.eval y = .agg cs') {w0 W : World} (l1 : List (Nat × TypeId × Array Value)) {l2 : List (Nat × TypeId × Array Value)} {cs : Array Value} (hl : Rws w0 (l1 ++ (g, ty, cs) :: l2) W) (hi : (P.info? ty).map (·.size) = some cs'.size) (hs : cs.size = cs'.size) (h1 : cs'.all (·.oneCell') = true)
    (h : ∀ w1, Rws w0 (l1 ++ (g, ty, cs') :: l2) w1 → Kept W w1 (fun k => k = g) → wpList P ops Q rest (a.put o.dst undef) w1) : wpList P ops Q (o :: rest) a W :=
  wpList_plain hgd fun _ hK => rw_store_wp ty ho hx hy l1 hl hi hs h1 (fun w1 h2 h3 => hK _ _ (h w1 h2 h3))
end
end Go.Proofs.Ytfakdphkklclgaa.P

end

section
namespace Go.Proofs.Ytfakdphkklclgaa.P
open Go.RowKit Go.Proofs.YtfakdphkklclgaaW.PrintWords Go.Proofs.YtfakdphkklclgaaW.PrintLast Go.Proofs.YtfakdphkklclgaaW.PrintMore
attribute [local go_sem] max2_int min2_int max_two min_two max_three min_three max_four min_four
set_option linter.unusedVariables false
set_option linter.unusedSimpArgs false
section
open Go.ChangeMaps Go.MapKept
set_option linter.unusedVariables false
theorem Rws.first {w0 W : World} {p : Nat × TypeId × Array Value} {l : List (Nat × TypeId × Array Value)} (h : Rws w0 (p :: l) W) : Rws w0 [p] W := ⟨fun q hq => h.lies q (by rw [List.mem_singleton.1 hq]; exact List.mem_cons_self), by simp, h.below⟩
end
end Go.Proofs.Ytfakdphkklclgaa.P

end

section
namespace Go.Proofs.Ytfakdphkklclgaa.P
open Go.RowKit Go.Proofs.YtfakdphkklclgaaW.PrintWords Go.Proofs.YtfakdphkklclgaaW.PrintLast Go.Proofs.YtfakdphkklclgaaW.PrintMore
attribute [local go_sem] max2_int min2_int max_two min_two max_three min_three max_four min_four
set_option linter.unusedVariables false
set_option linter.unusedSimpArgs false
section
open Go.ChangeMaps Go.MapKept
set_option linter.unusedVariables false
theorem rd_rng {bs : List Int} (h : ∀ x ∈ bs, 0 ≤ x ∧ x ≤ 255) (i : Int) : 0 ≤ rd bs i ∧ rd bs i ≤ 255 := by
  unfold Go.Proofs.YtfakdphkklclgaaW.PrintWords.rd
  rw [List.getD_eq_getElem?_getD]
  cases hq : bs[i.toNat]? with
  | none => decide
  | some y => exact h y (List.mem_of_getElem? hq)
set_option maxHeartbeats 12800000 in
set_option maxRecDepth 100000 in
theorem Open_d (KF : Nat) (nm : ByteArray → Bool) (hK : StFacts KF nm) (A0 : Option Addr) (c0 : Nat) (l0 : List Int) (w : World) (hr0 : Kd.C (Kd.int .u8) w A0 l0.length l0) (hc0 : l0.length ≤ c0) (hby : ∀ x ∈ l0, 0 ≤ x ∧ x ≤ 255) : Calls Try.prog 28 #[.slice A0 l0.length c0] w fun e w' => ∃ y, e = .returned (.tuple #[y, .bool (openS nm l0).isSome]) ∧ DAt (fun k => w.heap.size ≤ k) y ((openS nm l0).getD ⟨[], []⟩) w' ∧ Below w.heap.size w w' := by
  have HR0 := Aside0.mk hr0
  have HC0 := Aside0.mk hc0
  have HK := Aside0.mk hK
  have HBY := Aside0.mk hby
  clear hr0 hc0 hK hby
  by_cases c1 : 1048576 < l0.length
  · have c1b : decide ((l0.length : Int) > (1048576 : Int)) = true := decide_eq_true (by omega)
    have c1d : decide ((1048576 : Int) < (l0.length : Int)) = true := decide_eq_true (by omega)
    unfold openS
    rw [if_pos c1]
    go_enter Try.func28, Try.ntmps28
    go_wp2_with (first | ((with_reducible refine gate_dst (N := 2) rfl ?_); refine rw_allocS rfl 29 rfl (cs := #[.slice none 0 0, .slice none 0 0]) (by kernel_rfl) (Rws.nil w) ?_; intro b2 w1 hg6 hM hb6; have HM1 := Aside0.mk hM; clear hg6 hM hb6) | ((with_reducible refine gate_dst (N := 4) rfl ?_); refine rw_allocS rfl 29 rfl (cs := #[.slice none 0 0, .slice none 0 0]) (by kernel_rfl) HM1.out ?_; intro b4 w2 hg6 hM hb6; have HM2 := Aside0.mk hM; clear hg6 hM hb6) | (refine rw_storeS rfl 29 rfl rfl (cs' := #[.slice none 0 0, .slice none 0 0]) rfl [] HM2.out (by kernel_rfl) rfl (by show _ = _; simp [Value.oneCell']) ?_; intro w3 hM hk3; have HM3 := Aside0.mk hM; clear hM hk3) | ((with_reducible refine gate_dst (N := 19) rfl ?_); refine rw_load rfl 29 rfl rfl HM3.out List.mem_cons_self _ Try.underlying29 rfl (by kernel_rfl) ?_) | (refine rw_storeS rfl 29 rfl rfl (cs' := #[.slice none 0 0, .slice none 0 0]) rfl [_] HM3.out (by kernel_rfl) rfl (by show _ = _; simp [Value.oneCell']) ?_; intro w9 hM hk3; have HM9 := Aside0.mk hM; clear hM hk3))
    refine bodyPost_ret (results_ct rfl _ _ b2 29 #[.slice none 0 0, .slice none 0 0] (0, 0) _ rfl (HM9.out.mem (List.mem_cons_of_mem _ List.mem_cons_self)) Try.underlying29 rfl (by kernel_rfl)) rfl ?_
    exact ⟨_, rfl, DAt.zero _ _, HM9.out.below⟩
  · have c1b : decide ((l0.length : Int) > (1048576 : Int)) = false := decide_eq_false (by omega)
    have c1d : decide ((1048576 : Int) < (l0.length : Int)) = false := decide_eq_false (by omega)
    obtain ⟨res, hres⟩ : ∃ r, openG nm l0 (l0.length + 1) [] 0 = r := ⟨_, rfl⟩
    have hos : openS nm l0 = res.map fun q => ⟨l0.take q.2, q.1⟩ := by
      unfold openS
      rw [if_neg c1, hres]
    rw [hos]
    clear hos
    have HRES := Aside0.mk hres
    clear hres
    go_enter Try.func28, Try.ntmps28
    go_wp2_with (first | ((with_reducible refine gate_dst (N := 2) rfl ?_); refine rw_allocS rfl 29 rfl (cs := #[.slice none 0 0, .slice none 0 0]) (by kernel_rfl) (Rws.nil w) ?_; intro b2 w1 hg6 hM hb6; have HM1 := Aside0.mk hM; clear hg6 hM hb6) | ((with_reducible refine gate_dst (N := 4) rfl ?_); refine rw_allocS rfl 29 rfl (cs := #[.slice none 0 0, .slice none 0 0]) (by kernel_rfl) HM1.out ?_; intro b4 w2 hg6 hM hb6; have HM2 := Aside0.mk hM; clear hg6 hM hb6) | (refine rw_storeS rfl 29 rfl rfl (cs' := #[.slice none 0 0, .slice none 0 0]) rfl [] HM2.out (by kernel_rfl) rfl (by show _ = _; simp [Value.oneCell']) ?_; intro w3 hM hk3; have HM3 := Aside0.mk hM; clear hM hk3) | ((with_reducible refine gate_dst (N := 5) rfl ?_); refine rw_allocS rfl 29 rfl (cs := #[.slice none 0 0, .slice none 0 0]) (by kernel_rfl) HM3.out ?_; intro b5 w4 hg6 hM hb6; have HM4 := Aside0.mk hM; clear hg6 hM hb6))
    obtain ⟨k, hk⟩ : ∃ k, k = l0.length + 1 := ⟨_, rfl⟩
    rw [← hk] at HRES
    have HFU := Aside0.mk (show l0.length - 0 < k by omega)
    have HSL := Aside0.mk (show Srt [] ∧ ([] : List S101).length ≤ 16 from ⟨List.Pairwise.nil, by decide⟩)
    have hz5 : w.heap.size ≤ w4.heap.size := HM4.out.below.size
    have hlb := blk_lt (HM4.out.mem List.mem_cons_self)
    have hlb4 := blk_lt (HM4.out.mem (List.mem_cons_of_mem _ List.mem_cons_self))
    have hlb2 := blk_lt (HM4.out.mem (List.mem_cons_of_mem _ (List.mem_cons_of_mem _ List.mem_cons_self)))
    have HLB := Aside0.mk (And.intro hz5 (And.intro hlb (And.intro hlb4 hlb2)))
    have HF := Aside0.mk (show ([] : List S101).length ≤ 0 ∧ Kd.F k101 w4 (fun k => w4.heap.size ≤ k) none ([] : List S101).length ([] : List S101) from ⟨Nat.le_refl _, Kd.F_nil _ _ _⟩)
    clear hk hz5 hlb hlb4 hlb2
    go_loopg [6] k (fun kq v6 wr => ∃ (L : List S101) (a : Nat) (A1 : Option Addr) (d1 : Nat), v6 = .int .i64 (a : Int) ∧ a ≤ l0.length ∧ Aside0 (Rws w [(b5, 29, #[.slice none 0 0, .slice A1 L.length d1]), (b4, 29, #[.slice none 0 0, .slice none 0 0]), (b2, 29, #[.slice none 0 0, .slice none 0 0])] wr) ∧ Aside0 (L.length ≤ d1 ∧ Kd.F k101 wr (fun k => w4.heap.size ≤ k) A1 L.length L) ∧ Aside0 (w4.heap.size ≤ wr.heap.size) ∧ Aside0 (openG nm l0 kq L a = res) ∧ Aside0 (Srt L ∧ L.length ≤ 16) ∧ Aside0 (l0.length - a < kq))
    case atStart => exact ⟨[], 0, none, 0, rfl, Nat.zero_le _, HM4, HF, ⟨Nat.le_refl _⟩, HRES, HSL, HFU⟩
    case round =>
      clear HM4 HF HRES HSL HFU
      obtain ⟨L, a, A1, d1, rfl, hale, HMR, HF, HZR, HRES, HSL, HFU⟩ := hrel
      cases gk with
      | zero => exact absurd HFU.out (by omega)
      | succ gk =>
      have hgo := HRES.out
      unfold openG at hgo
      by_cases c2 : a < l0.length
      · have c2b : decide ((a : Int) < (l0.length : Int)) = true := decide_eq_true (by omega)
        have c2d : decide (a < l0.length) = true := decide_eq_true c2
        obtain ⟨ad, eA, _⟩ := HR0.out.2.2 (by omega)
        subst eA
        have hcell := Kd.foot_int (Kd.C_below HR0.out HMR.out.below) (a : Int) (by omega) (by omega)
        rw [Int.toNat_natCast] at hcell
        obtain ⟨z, hz⟩ : ∃ z, z = rd l0 (a : Int) := ⟨_, rfl⟩
        have hzr := rd_rng HBY.out (a : Int)
        rw [← hz] at hcell hgo hzr
        have p5 : (0 ≤ (a : Int)) = True := eq_true (by omega)
        have p6 : ((a : Int) < (l0.length : Int)) = True := eq_true (by omega)
        by_cases c3 : z = 0
        · subst c3
          rw [if_neg (fun q => q.2 rfl)] at hgo
          clear hz hzr
          have hres : res = some (L, a) := hgo.symm
          subst hres
          clear hgo
          have hta : (l0.take a).length = a := by rw [List.length_take]; omega
          have hC6 := Kd.C_take (Kd.C_below HR0.out HMR.out.below) hale
          rw [hta] at hC6
          have HC6 := Aside0.mk hC6
          have HCA := Aside0.mk (show a ≤ c0 by have := HC0.out; omega)
          clear hC6
          have hcap := HCA.out
          go_wp2_with ((with_reducible refine gate_builtin (b := .append) (xs := #[.tmp 110, .tmp 113]) rfl ?_); at_builtin; refine halt_at ?_)
          unfold Halt_
          have HQr := Aside0.mk (Below.refl wr.heap.size wr)
          have ht := nil_own wr wr.heap.size HQr.out.size
          have hb := below_alloc (Below.refl wr.heap.size wr) (.cells #[] 5)
          generalize (wr.alloc (.cells #[] 5)) = w7 at ht hb ⊢
          have HR7 := Aside0.mk ht
          have HQ7 := Aside0.mk (below_step HQr.out hb)
          have HD7 := Aside0.mk hb
          clear ht hb
          refine Kd.R_append_rows (Kd.int .u8) (w0 := w7) wr.heap.size rfl (.tmp 110) (.tmp 113) 23 5 (.int .u8 0) 1 rfl Try.underlying23 info5 rfl (by decide) (by omega) (.slice (some ⟨wr.heap.size, 0, none⟩) 0 0) (([] : List Int)) (l0.take a) ((some ad)) (a) (c0) (fun _ => True) (fun _ => False) rfl rfl HR7.out (Kd.C_below HC6.out HQ7.out) (fun _ _ h => h) (fun _ h => h.elim) (fun _ _ => trivial) (Below.refl _ _) (by have := HQ7.out.size; omega) (by simp; omega) ?_
          intro v8 w8 ho hb hg hat
          obtain ⟨A8, c8, e8⟩ := Kd.R_slice ho
          have hl8 : (([] : List Int) ++ l0.take a).length = a := by simp; try omega
          rw [hl8] at e8
          subst e8
          have HR8 := Aside0.mk ho
          have HQ8 := Aside0.mk (HQ7.out.trans hb)
          clear ho hb hg hat
          have HM8 := Aside0.mk (HMR.out.step HQ8.out)
          go_wp2_with (first | (refine rw_cell rfl 23 rfl (g := b5) (i := 0) rfl (u := .slice A8 a c8) rfl rfl [] HM8.out (by show (0 : Nat) < 2; decide) (by kernel_rfl) ?_; intro w9 hM hk3; have HM9 := Aside0.mk (show Rws w [(b5, 29, #[.slice A8 a c8, .slice A1 L.length d1]), (b4, 29, #[.slice none 0 0, .slice none 0 0]), (b2, 29, #[.slice none 0 0, .slice none 0 0])] w9 from hM); have HK9 := Aside0.mk hk3; clear hM hk3) | ((with_reducible refine gate_dst (N := 116) rfl ?_); refine rw_load rfl 29 rfl rfl HM9.out List.mem_cons_self _ Try.underlying29 rfl (by kernel_rfl) ?_) | (refine rw_storeS rfl 29 rfl rfl (cs' := #[.slice A8 a c8, .slice A1 L.length d1]) rfl [_, _] HM9.out (by kernel_rfl) rfl (by show _ = _; simp [Value.oneCell']) ?_; intro w10 hM hk3; have HM10 := Aside0.mk hM; have HK10 := Aside0.mk hk3; clear hM hk3))
          refine bodyPost_ret (results_ct rfl _ _ b2 29 #[.slice A8 a c8, .slice A1 L.length d1] (0, 0) _ rfl (HM10.out.mem (List.mem_cons_of_mem _ (List.mem_cons_of_mem _ List.mem_cons_self))) Try.underlying29 rfl (by kernel_rfl)) rfl ?_
          have hlb := HLB.out
          have hzr := HZR.out
          have hR := Kd.R_kept (Kd.R_kept (Kd.R_bound HR8.out) HK9.out (fun k q e => by have := q.2.1; omega)) HK10.out (fun k q e => by have := q.2.1; omega)
          have hF2 := Kd.F_kept (Kd.F_kept (Kd.F_below HF.out.2 HQ8.out) HK9.out (fun k q e => by omega)) HK10.out (fun k q e => by omega)
          refine ⟨_, rfl, ⟨A8, c8, A1, d1, by show _ = Value.agg #[.slice A8 (l0.take a).length c8, .slice A1 L.length d1]; rw [hta], by show (l0.take a).length ≤ c8; rw [hta]; exact (Kd.R_reads' HR8.out).2.1, HF.out.1, ?_, Kd.F_mono hF2 (fun k q => by have : w4.heap.size ≤ k := q; omega)⟩, HM10.out.below⟩
          show Kd.F (Kd.int .u8) w10 _ A8 (l0.take a).length (l0.take a)
          rw [hta]
          exact Kd.F_mono (Kd.R_F hR) (fun k q => by have h9 : wr.heap.size ≤ k := q.2.1; omega)
        · have c3b : (z != 0) = true := by simpa using c3
          rw [if_pos ⟨c2, c3⟩] at hgo
          have hw1 : wrap64 ((a : Int) + 1) = (a : Int) + 1 := by unfold wrap64; omega
          obtain ⟨rc, hrc⟩ : ∃ q, q = recS nm l0 L a := ⟨_, rfl⟩
          rw [← hrc] at hgo
          have hND := Name_d KF nm HK.out.rd l0 HBY.out (by omega) (a + 1) (by omega) (some ad) c0 wr (Kd.C_below HR0.out HMR.out.below) HC0.out
          have hsz := name_size HK.out l0 (a + 1)
          have hnp := nameR_go nm l0 (a + 1)
          have hrc2 := hrc
          unfold recS at hrc2
          obtain ⟨⟨x, p, er⟩, hnr⟩ : ∃ q, q = nameR nm l0 (a + 1) := ⟨_, rfl⟩
          rw [← hnr] at hsz hND hnp hrc2
          rw [← hz] at hrc2
          rw [show ((a + 1 : Nat) : Int) = (a : Int) + 1 from by omega] at hND
          simp only at hsz hND hnp hrc2
          have HND := Aside0.mk hND
          have HNP := Aside0.mk hnp
          have HX := Aside0.mk (show x.size ≤ maxLen by unfold maxLen; omega)
          have HZZ := Aside0.mk hzr
          have HGO0 := Aside0.mk hgo
          have HRCE := Aside0.mk hrc
          clear hND hnp hsz hnr hz hzr hgo hrc
          go_wp2_with fail
          refine HND.out.mono ?_
          rintro e w6 ⟨rfl, hb6⟩
          clear HND
          have HM6 := Aside0.mk (HMR.out.step hb6)
          have HF6 := Aside0.mk (And.intro HF.out.1 (Kd.F_below HF.out.2 hb6))
          have HB6 := Aside0.mk (show Below wr.heap.size wr w6 from hb6)
          clear hb6
          have hz9 := HZZ.out
          by_cases c4 : 2 < z
          · have c4b : decide (z > 2) = true := decide_eq_true c4
            have c4c : decide (2 < z) = true := decide_eq_true c4
            have hrn : rc = none := by
              rw [hrc2]
              by_cases e1 : er = 0
              · rw [if_neg (by simpa using e1), if_neg (fun q => by omega), if_pos (by omega)]
              · rw [if_pos (by simpa using e1)]
            have HGO := Aside0.mk (show none = res by have := HGO0.out; rw [hrn] at this; exact this)
            clear hrc2 HRCE hz9
            have hn : res = none := HGO.out.symm
            subst hn
            go_wp2_with (first | ((with_reducible refine gate_dst (N := 49) rfl ?_); refine rw_load rfl 29 rfl rfl HM6.out (List.mem_cons_of_mem _ List.mem_cons_self) _ Try.underlying29 rfl (by kernel_rfl) ?_) | (refine rw_storeS rfl 29 rfl rfl (cs' := #[.slice none 0 0, .slice none 0 0]) rfl [_, _] HM6.out (by kernel_rfl) rfl (by show _ = _; simp [Value.oneCell']) ?_; intro w9 hM hk3; have HM9 := Aside0.mk hM; clear hM hk3))
            refine bodyPost_ret (results_ct rfl _ _ b2 29 #[.slice none 0 0, .slice none 0 0] (0, 0) _ rfl (HM9.out.mem (List.mem_cons_of_mem _ (List.mem_cons_of_mem _ List.mem_cons_self))) Try.underlying29 rfl (by kernel_rfl)) rfl ?_
            exact ⟨_, rfl, DAt.zero _ _, HM9.out.below⟩
          · have c4b : decide (z > 2) = false := decide_eq_false c4
            have c4c : decide (2 < z) = false := decide_eq_false c4
            by_cases c5 : er = 0
            · subst c5
              rw [if_neg (by decide)] at hrc2
              have hple := (HNP.out rfl).2
              have hpgt := (HNP.out rfl).1
              clear HNP
              have hc51 := blk_cell (HM6.out.mem List.mem_cons_self) 1
              go_wp2_with fail
              refine (provisoref21_place.calls KF A1 d1 L x _ _ _ (Kd.F_now HF6.out.2) HF6.out.1 (HK.out.place L x (by have := HSL.out; omega) HSL.out.1)).mono ?_
              rintro e w7 ⟨rfl, k7, rfl⟩
              have HM7 := Aside0.mk (HM6.out.drewN k7)
              have HF7 := Aside0.mk (And.intro HF6.out.1 (Kd.F_drewN HF6.out.2 k7))
              have HB7 := Aside0.mk (pw_below_drewN HB6.out k7)
              have hc52 := blk_cell (HM7.out.mem List.mem_cons_self) 1
              clear hc51
              by_cases c6 : z = 2
              · subst c6
                by_cases c7 : (lkL L x).isSome = true
                · rw [if_pos ⟨rfl, c7⟩] at hrc2
                  subst hrc2
                  have HRC := Aside0.mk HRCE.out.symm
                  have HGO := Aside0.mk (show openG nm l0 gk (cutL x L) p = res from HGO0.out)
                  clear HRCE HGO0
                  go_wp2_with fail
                  refine (provisoref21_without.calls KF (fun k => w4.heap.size ≤ k) A1 d1 L x (cutL x L) _ (Kd.V_mk HF7.out.1 HF7.out.2) (HK.out.wout L x (by have := HSL.out; omega) HSL.out.1)).mono ?_
                  rintro e w13 ⟨v13, rfl, hN, hb⟩
                  have hV := Kd.N_V (base' := 0) hN
                  obtain ⟨A13, c13, e13⟩ := Kd.V_slice hV
                  subst e13
                  have HV0 := (Kd.V_at hV).2
                  have HB13 := Aside0.mk (below_step HB7.out hb)
                  have HM13 := Aside0.mk (HMR.out.step HB13.out)
                  have hwz := HB7.out.size
                  have HV := Aside0.mk (And.intro HV0.1 (Kd.F_mono HV0.2 (ok' := fun k => w4.heap.size ≤ k) (fun k q => by
                    rcases q with q | q
                    · exact q
                    · have h9 : (wr.heap.size) ≤ k := Nat.le_trans hwz q
                      exact Nat.le_trans HZR.out h9)))
                  clear hN hb hV HV0 hc52 hwz HM7 HF7 HM6 HF6
                  go_wp2_with (refine rw_cell rfl 27 rfl (g := b5) (i := 1) rfl (u := .slice A13 (cutL x L).length c13) rfl rfl [] HM13.out (by show (1 : Nat) < 2; decide) (by kernel_rfl) ?_; intro w14 hM hk3; have HM14 := Aside0.mk (show Rws w [(b5, 29, #[.slice none 0 0, .slice A13 (cutL x L).length c13]), (b4, 29, #[.slice none 0 0, .slice none 0 0]), (b2, 29, #[.slice none 0 0, .slice none 0 0])] w14 from hM); have HK14 := Aside0.mk hk3; clear hM hk3)
                  have HF14 := Aside0.mk (And.intro HV.out.1 (Kd.F_kept HV.out.2 HK14.out (fun k (q : w4.heap.size ≤ k) e => by have := HLB.out; omega)))
                  have HZ14 := Aside0.mk (show w4.heap.size ≤ w14.heap.size from Nat.le_trans HZR.out (Nat.le_trans HB13.out.size HK14.out.1))
                  have hgo3 := recS_go (L := L) (q := (cutL x L, p)) HRC.out HSL.out.1 HSL.out.2
                  have HSL14 := Aside0.mk (And.intro hgo3.2.2.1 hgo3.2.2.2)
                  have hle3 : p ≤ l0.length := hgo3.2.1
                  have HFU14 := Aside0.mk (show l0.length - p < gk by have := HFU.out; have h9 : a < p := hgo3.1; omega)
                  clear hgo3
                  go_roundg gk
                  case measure => omega
                  case rel => exact ⟨cutL x L, p, A13, c13, rfl, hle3, HM14, HF14, HZ14, HGO, HSL14, HFU14⟩
                · rw [if_neg (fun q => c7 q.2), if_pos (by decide)] at hrc2
                  subst hrc2
                  have HGO := Aside0.mk (show none = res from HGO0.out)
                  have c7b : (lkL L x).isSome = false := by simpa using c7
                  clear HRCE HGO0
                  have hn : res = none := HGO.out.symm
                  subst hn
                  go_wp2_with (first | ((with_reducible refine gate_dst (N := 61) rfl ?_); refine rw_load rfl 29 rfl rfl HM7.out (List.mem_cons_of_mem _ List.mem_cons_self) _ Try.underlying29 rfl (by kernel_rfl) ?_) | (refine rw_storeS rfl 29 rfl rfl (cs' := #[.slice none 0 0, .slice none 0 0]) rfl [_, _] HM7.out (by kernel_rfl) rfl (by show _ = _; simp [Value.oneCell']) ?_; intro w9 hM hk3; have HM9 := Aside0.mk hM; clear hM hk3))
                  refine bodyPost_ret (results_ct rfl _ _ b2 29 #[.slice none 0 0, .slice none 0 0] (0, 0) _ rfl (HM9.out.mem (List.mem_cons_of_mem _ (List.mem_cons_of_mem _ List.mem_cons_self))) Try.underlying29 rfl (by kernel_rfl)) rfl ?_
                  exact ⟨_, rfl, DAt.zero _ _, HM9.out.below⟩
              · have hz1 : z = 1 := by omega
                have c6b : (z == 2) = false := beq_eq_false_iff_ne.mpr c6
                subst hz1
                rw [if_neg (fun q => c6 q.1), if_neg (by decide)] at hrc2
                have hng := numR_go 2 l0 p
                have hNM := fun wq (hq : Below wr.heap.size wr wq) => provisoref01_Number.calls KF (some ad) c0 l0 (p : Int) 2 _ _ _ wq (Kd.C_below (Kd.C_below HR0.out HMR.out.below) hq) HC0.out (HK.out.rd.num 2 l0 p (by decide) HBY.out (by omega) hple)
                obtain ⟨⟨n, p2, e2⟩, hn2⟩ : ∃ q, q = numR 2 l0 p := ⟨_, rfl⟩
                rw [← hn2] at hrc2 hng hNM
                simp only at hrc2 hng hNM
                have HNM := Aside0.mk hNM
                clear hNM hn2
                go_wp2_with fail
                refine (HNM.out _ HB7.out).mono ?_
                rintro e w8 ⟨rfl, k8, rfl⟩
                have HM8 := Aside0.mk (HM6.out.drewN (k7 + k8))
                have HF8 := Aside0.mk (And.intro HF6.out.1 (Kd.F_drewN HF6.out.2 (k7 + k8)))
                have HB8 := Aside0.mk (pw_below_drewN HB6.out (k7 + k8))
                have hc53 := blk_cell (HM8.out.mem List.mem_cons_self) 1
                clear hc52 HM7 HF7 HM6 HF6 HNM
                by_cases c8 : e2 = 0
                · subst c8
                  by_cases c9 : 4096 < n
                  · have c9b : decide (n > 4096) = true := decide_eq_true c9
                    have c9c : decide (4096 < n) = true := decide_eq_true c9
                    rw [if_pos (.inr c9)] at hrc2
                    subst hrc2
                    have HGO := Aside0.mk (show none = res from HGO0.out)
                    clear HRCE HGO0
                    have hn : res = none := HGO.out.symm
                    subst hn
                    go_wp2_with (first | ((with_reducible refine gate_dst (N := 81) rfl ?_); refine rw_load rfl 29 rfl rfl HM8.out (List.mem_cons_of_mem _ List.mem_cons_self) _ Try.underlying29 rfl (by kernel_rfl) ?_) | (refine rw_storeS rfl 29 rfl rfl (cs' := #[.slice none 0 0, .slice none 0 0]) rfl [_, _] HM8.out (by kernel_rfl) rfl (by show _ = _; simp [Value.oneCell']) ?_; intro w9 hM hk3; have HM9 := Aside0.mk hM; clear hM hk3))
                    refine bodyPost_ret (results_ct rfl _ _ b2 29 #[.slice none 0 0, .slice none 0 0] (0, 0) _ rfl (HM9.out.mem (List.mem_cons_of_mem _ (List.mem_cons_of_mem _ List.mem_cons_self))) Try.underlying29 rfl (by kernel_rfl)) rfl ?_
                    exact ⟨_, rfl, DAt.zero _ _, HM9.out.below⟩
                  · have c9b : decide (n > 4096) = false := decide_eq_false c9
                    have c9c : decide (4096 < n) = false := decide_eq_false c9
                    rw [if_neg (by rintro (q | q); exact q rfl; exact c9 q)] at hrc2
                    obtain ⟨hp2, hp2l⟩ := hng rfl
                    have htg := takeR_go l0 p2 n (by omega)
                    have htl := take_le l0 p2 n (by omega)
                    have hTK := fun wq (hq : Below wr.heap.size wr wq) => provisoref01_Take.calls KF (some ad) c0 l0 (p2 : Int) n _ _ _ wq (Kd.C_below (Kd.C_below HR0.out HMR.out.below) hq) HC0.out (HK.out.rd.take l0 p2 n HBY.out (by omega) (by omega))
                    obtain ⟨⟨b, p3, e3⟩, ht⟩ : ∃ q, q = takeR l0 p2 n := ⟨_, rfl⟩
                    rw [← ht] at hrc2 htg htl hTK
                    simp only at hrc2 htg htl hTK
                    have HTK := Aside0.mk hTK
                    have HTL := Aside0.mk htl
                    have HP2 := Aside0.mk hp2
                    clear hTK ht htl hng hp2
                    go_wp2_with fail
                    refine (HTK.out _ HB8.out).mono ?_
                    rintro e w9 ⟨v9, rfl, hR9, hb9⟩
                    obtain ⟨A9, c9_, e9⟩ := Kd.R_slice hR9
                    subst e9
                    have HB9 := Aside0.mk (below_step HB8.out hb9)
                    have HR9 := Aside0.mk hR9
                    have HZ8 := Aside0.mk HB8.out.size
                    have HM9_ := Aside0.mk (HM8.out.step hb9)
                    have HF9 := Aside0.mk (And.intro HF8.out.1 (Kd.F_below HF8.out.2 hb9))
                    have hc54 := blk_cell (HM9_.out.mem List.mem_cons_self) 1
                    clear hR9 hb9 hc53 HM8 HF8 HTK
                    have hlen := put_len x b HSL.out.1
                    have hl16 := HSL.out.2
                    by_cases c10 : e3 = 0
                    · subst c10
                      rw [if_neg (by decide)] at hrc2
                      by_cases c11 : 16 < (putL x b L).length
                      · have c7 : (lkL L x).isSome = false := by
                          cases hq : (lkL L x).isSome with
                          | false => rfl
                          | true => rw [if_pos hq] at hlen; omega
                        have c12 : ((L.length : Int) == 16) = true := by
                          rw [c7, if_neg (by decide)] at hlen
                          rw [beq_iff_eq]; omega
                        rw [if_pos c11] at hrc2
                        subst hrc2
                        clear hlen hl16
                        have HGO := Aside0.mk (show none = res from HGO0.out)
                        clear HRCE HGO0
                        have hn : res = none := HGO.out.symm
                        subst hn
                        go_wp2_with (first | ((with_reducible refine gate_dst (N := 102) rfl ?_); refine rw_load rfl 29 rfl rfl HM9_.out (List.mem_cons_of_mem _ List.mem_cons_self) _ Try.underlying29 rfl (by kernel_rfl) ?_) | (refine rw_storeS rfl 29 rfl rfl (cs' := #[.slice none 0 0, .slice none 0 0]) rfl [_, _] HM9_.out (by kernel_rfl) rfl (by show _ = _; simp [Value.oneCell']) ?_; intro w9 hM hk3; have HM9 := Aside0.mk hM; clear hM hk3))
                        refine bodyPost_ret (results_ct rfl _ _ b2 29 #[.slice none 0 0, .slice none 0 0] (0, 0) _ rfl (HM9.out.mem (List.mem_cons_of_mem _ (List.mem_cons_of_mem _ List.mem_cons_self))) Try.underlying29 rfl (by kernel_rfl)) rfl ?_
                        exact ⟨_, rfl, DAt.zero _ _, HM9.out.below⟩
                      · rw [if_neg c11] at hrc2
                        subst hrc2
                        have HRC := Aside0.mk HRCE.out.symm
                        have HGO := Aside0.mk (show openG nm l0 gk (putL x b L) p3 = res from HGO0.out)
                        clear HRCE HGO0 hlen
                        by_cases c7 : (lkL L x).isSome = true
                        · clear hl16
                          go_wp2_with fail
                          refine (provisoref21_with.calls KF (fun k => w4.heap.size ≤ k) A1 d1 L x (fun k => w4.heap.size ≤ k) A9 c9_ b (putL x b L) _ (Kd.V_mk HF9.out.1 HF9.out.2) (Kd.V_mono (Kd.R_V (Kd.R_bound HR9.out)) (fun k q => ?hq)) (HK.out.with_ L x b (by have := HSL.out; omega) HSL.out.1)).mono ?_
                          case hq =>
                            have h9 : wr.heap.size ≤ k := Nat.le_trans HZ8.out q.2.1
                            exact Nat.le_trans HZR.out h9
                          rintro e w13 ⟨v13, rfl, hN, hb⟩
                          have hV := Kd.N_V (base' := 0) hN
                          obtain ⟨A13, c13, e13⟩ := Kd.V_slice hV
                          subst e13
                          have HV0 := (Kd.V_at hV).2
                          have HB13 := Aside0.mk (below_step HB9.out hb)
                          have HM13 := Aside0.mk (HMR.out.step HB13.out)
                          have hwz := HB9.out.size
                          have HV := Aside0.mk (And.intro HV0.1 (Kd.F_mono HV0.2 (ok' := fun k => w4.heap.size ≤ k) (fun k q => by
                            rcases q with (q | q) | q
                            · exact q
                            · exact q
                            · have h9 : (wr.heap.size) ≤ k := Nat.le_trans hwz q
                              exact Nat.le_trans HZR.out h9)))
                          clear hN hb hV HV0 hc54 hwz HM9_ HF9 HR9
                          go_wp2_with (refine rw_cell rfl 27 rfl (g := b5) (i := 1) rfl (u := .slice A13 (putL x b L).length c13) rfl rfl [] HM13.out (by show (1 : Nat) < 2; decide) (by kernel_rfl) ?_; intro w14 hM hk3; have HM14 := Aside0.mk (show Rws w [(b5, 29, #[.slice none 0 0, .slice A13 (putL x b L).length c13]), (b4, 29, #[.slice none 0 0, .slice none 0 0]), (b2, 29, #[.slice none 0 0, .slice none 0 0])] w14 from hM); have HK14 := Aside0.mk hk3; clear hM hk3)
                          have HF14 := Aside0.mk (And.intro HV.out.1 (Kd.F_kept HV.out.2 HK14.out (fun k (q : w4.heap.size ≤ k) e => by have := HLB.out; omega)))
                          have HZ14 := Aside0.mk (show w4.heap.size ≤ w14.heap.size from Nat.le_trans HZR.out (Nat.le_trans HB13.out.size HK14.out.1))
                          have hgo3 := recS_go (L := L) (q := (putL x b L, p3)) HRC.out HSL.out.1 HSL.out.2
                          have HSL14 := Aside0.mk (And.intro hgo3.2.2.1 hgo3.2.2.2)
                          have hle3 : p3 ≤ l0.length := hgo3.2.1
                          have HFU14 := Aside0.mk (show l0.length - p3 < gk by have := HFU.out; have h9 : a < p3 := hgo3.1; omega)
                          clear hgo3
                          go_roundg gk
                          case measure => omega
                          case rel => exact ⟨putL x b L, p3, A13, c13, rfl, hle3, HM14, HF14, HZ14, HGO, HSL14, HFU14⟩
                        · rw [Bool.not_eq_true] at c7
                          have c12 : ((L.length : Int) == 16) = false := by
                            have hlen := put_len x b HSL.out.1
                            rw [c7, if_neg (by decide)] at hlen
                            rw [beq_eq_false_iff_ne]; omega
                          clear hl16
                          go_wp2_with fail
                          refine (provisoref21_with.calls KF (fun k => w4.heap.size ≤ k) A1 d1 L x (fun k => w4.heap.size ≤ k) A9 c9_ b (putL x b L) _ (Kd.V_mk HF9.out.1 HF9.out.2) (Kd.V_mono (Kd.R_V (Kd.R_bound HR9.out)) (fun k q => ?hq)) (HK.out.with_ L x b (by have := HSL.out; omega) HSL.out.1)).mono ?_
                          case hq =>
                            have h9 : wr.heap.size ≤ k := Nat.le_trans HZ8.out q.2.1
                            exact Nat.le_trans HZR.out h9
                          rintro e w13 ⟨v13, rfl, hN, hb⟩
                          have hV := Kd.N_V (base' := 0) hN
                          obtain ⟨A13, c13, e13⟩ := Kd.V_slice hV
                          subst e13
                          have HV0 := (Kd.V_at hV).2
                          have HB13 := Aside0.mk (below_step HB9.out hb)
                          have HM13 := Aside0.mk (HMR.out.step HB13.out)
                          have hwz := HB9.out.size
                          have HV := Aside0.mk (And.intro HV0.1 (Kd.F_mono HV0.2 (ok' := fun k => w4.heap.size ≤ k) (fun k q => by
                            rcases q with (q | q) | q
                            · exact q
                            · exact q
                            · have h9 : (wr.heap.size) ≤ k := Nat.le_trans hwz q
                              exact Nat.le_trans HZR.out h9)))
                          clear hN hb hV HV0 hc54 hwz HM9_ HF9 HR9
                          go_wp2_with (refine rw_cell rfl 27 rfl (g := b5) (i := 1) rfl (u := .slice A13 (putL x b L).length c13) rfl rfl [] HM13.out (by show (1 : Nat) < 2; decide) (by kernel_rfl) ?_; intro w14 hM hk3; have HM14 := Aside0.mk (show Rws w [(b5, 29, #[.slice none 0 0, .slice A13 (putL x b L).length c13]), (b4, 29, #[.slice none 0 0, .slice none 0 0]), (b2, 29, #[.slice none 0 0, .slice none 0 0])] w14 from hM); have HK14 := Aside0.mk hk3; clear hM hk3)
                          have HF14 := Aside0.mk (And.intro HV.out.1 (Kd.F_kept HV.out.2 HK14.out (fun k (q : w4.heap.size ≤ k) e => by have := HLB.out; omega)))
                          have HZ14 := Aside0.mk (show w4.heap.size ≤ w14.heap.size from Nat.le_trans HZR.out (Nat.le_trans HB13.out.size HK14.out.1))
                          have hgo3 := recS_go (L := L) (q := (putL x b L, p3)) HRC.out HSL.out.1 HSL.out.2
                          have HSL14 := Aside0.mk (And.intro hgo3.2.2.1 hgo3.2.2.2)
                          have hle3 : p3 ≤ l0.length := hgo3.2.1
                          have HFU14 := Aside0.mk (show l0.length - p3 < gk by have := HFU.out; have h9 : a < p3 := hgo3.1; omega)
                          clear hgo3
                          go_roundg gk
                          case measure => omega
                          case rel => exact ⟨putL x b L, p3, A13, c13, rfl, hle3, HM14, HF14, HZ14, HGO, HSL14, HFU14⟩
                    · have c10b : (e3 != 0) = true := by simpa using c10
                      rw [if_pos (by simpa using c10)] at hrc2
                      subst hrc2
                      clear hlen hl16
                      have HGO := Aside0.mk (show none = res from HGO0.out)
                      clear HRCE HGO0
                      have hn : res = none := HGO.out.symm
                      subst hn
                      go_wp2_with (first | ((with_reducible refine gate_dst (N := 102) rfl ?_); refine rw_load rfl 29 rfl rfl HM9_.out (List.mem_cons_of_mem _ List.mem_cons_self) _ Try.underlying29 rfl (by kernel_rfl) ?_) | (refine rw_storeS rfl 29 rfl rfl (cs' := #[.slice none 0 0, .slice none 0 0]) rfl [_, _] HM9_.out (by kernel_rfl) rfl (by show _ = _; simp [Value.oneCell']) ?_; intro w9 hM hk3; have HM9 := Aside0.mk hM; clear hM hk3))
                      refine bodyPost_ret (results_ct rfl _ _ b2 29 #[.slice none 0 0, .slice none 0 0] (0, 0) _ rfl (HM9.out.mem (List.mem_cons_of_mem _ (List.mem_cons_of_mem _ List.mem_cons_self))) Try.underlying29 rfl (by kernel_rfl)) rfl ?_
                      exact ⟨_, rfl, DAt.zero _ _, HM9.out.below⟩
                · have c8b : (e2 != 0) = true := by simpa using c8
                  rw [if_pos (.inl (by simpa using c8))] at hrc2
                  subst hrc2
                  have HGO := Aside0.mk (show none = res from HGO0.out)
                  clear HRCE HGO0
                  have hn : res = none := HGO.out.symm
                  subst hn
                  go_wp2_with (first | ((with_reducible refine gate_dst (N := 81) rfl ?_); refine rw_load rfl 29 rfl rfl HM8.out (List.mem_cons_of_mem _ List.mem_cons_self) _ Try.underlying29 rfl (by kernel_rfl) ?_) | (refine rw_storeS rfl 29 rfl rfl (cs' := #[.slice none 0 0, .slice none 0 0]) rfl [_, _] HM8.out (by kernel_rfl) rfl (by show _ = _; simp [Value.oneCell']) ?_; intro w9 hM hk3; have HM9 := Aside0.mk hM; clear hM hk3))
                  refine bodyPost_ret (results_ct rfl _ _ b2 29 #[.slice none 0 0, .slice none 0 0] (0, 0) _ rfl (HM9.out.mem (List.mem_cons_of_mem _ (List.mem_cons_of_mem _ List.mem_cons_self))) Try.underlying29 rfl (by kernel_rfl)) rfl ?_
                  exact ⟨_, rfl, DAt.zero _ _, HM9.out.below⟩
            · have c5b : (er != 0) = true := by simpa using c5
              rw [if_pos (by simpa using c5)] at hrc2
              subst hrc2
              have HGO := Aside0.mk (show none = res from HGO0.out)
              clear HRCE HGO0
              have hn : res = none := HGO.out.symm
              subst hn
              go_wp2_with (first | ((with_reducible refine gate_dst (N := 49) rfl ?_); refine rw_load rfl 29 rfl rfl HM6.out (List.mem_cons_of_mem _ List.mem_cons_self) _ Try.underlying29 rfl (by kernel_rfl) ?_) | (refine rw_storeS rfl 29 rfl rfl (cs' := #[.slice none 0 0, .slice none 0 0]) rfl [_, _] HM6.out (by kernel_rfl) rfl (by show _ = _; simp [Value.oneCell']) ?_; intro w9 hM hk3; have HM9 := Aside0.mk hM; clear hM hk3))
              refine bodyPost_ret (results_ct rfl _ _ b2 29 #[.slice none 0 0, .slice none 0 0] (0, 0) _ rfl (HM9.out.mem (List.mem_cons_of_mem _ (List.mem_cons_of_mem _ List.mem_cons_self))) Try.underlying29 rfl (by kernel_rfl)) rfl ?_
              exact ⟨_, rfl, DAt.zero _ _, HM9.out.below⟩
      · have c2b : decide ((a : Int) < (l0.length : Int)) = false := decide_eq_false (by omega)
        have c2d : decide (a < l0.length) = false := decide_eq_false c2
        rw [if_neg (fun q => c2 q.1)] at hgo
        have hres : res = some (L, a) := hgo.symm
        subst hres
        clear hgo
        have hta : (l0.take a).length = a := by rw [List.length_take]; omega
        have hC6 := Kd.C_take (Kd.C_below HR0.out HMR.out.below) hale
        rw [hta] at hC6
        have HC6 := Aside0.mk hC6
        have HCA := Aside0.mk (show a ≤ c0 by have := HC0.out; omega)
        clear hC6
        have hcap := HCA.out
        go_wp2_with ((with_reducible refine gate_builtin (b := .append) (xs := #[.tmp 110, .tmp 113]) rfl ?_); at_builtin; refine halt_at ?_)
        unfold Halt_
        have HQr := Aside0.mk (Below.refl wr.heap.size wr)
        have ht := nil_own wr wr.heap.size HQr.out.size
        have hb := below_alloc (Below.refl wr.heap.size wr) (.cells #[] 5)
        generalize (wr.alloc (.cells #[] 5)) = w7 at ht hb ⊢
        have HR7 := Aside0.mk ht
        have HQ7 := Aside0.mk (below_step HQr.out hb)
        have HD7 := Aside0.mk hb
        clear ht hb
        refine Kd.R_append_rows (Kd.int .u8) (w0 := w7) wr.heap.size rfl (.tmp 110) (.tmp 113) 23 5 (.int .u8 0) 1 rfl Try.underlying23 info5 rfl (by decide) (by omega) (.slice (some ⟨wr.heap.size, 0, none⟩) 0 0) (([] : List Int)) (l0.take a) (A0) (a) (c0) (fun _ => True) (fun _ => False) rfl rfl HR7.out (Kd.C_below HC6.out HQ7.out) (fun _ _ h => h) (fun _ h => h.elim) (fun _ _ => trivial) (Below.refl _ _) (by have := HQ7.out.size; omega) (by simp; omega) ?_
        intro v8 w8 ho hb hg hat
        obtain ⟨A8, c8, e8⟩ := Kd.R_slice ho
        have hl8 : (([] : List Int) ++ l0.take a).length = a := by simp; try omega
        rw [hl8] at e8
        subst e8
        have HR8 := Aside0.mk ho
        have HQ8 := Aside0.mk (HQ7.out.trans hb)
        clear ho hb hg hat
        have HM8 := Aside0.mk (HMR.out.step HQ8.out)
        go_wp2_with (first | (refine rw_cell rfl 23 rfl (g := b5) (i := 0) rfl (u := .slice A8 a c8) rfl rfl [] HM8.out (by show (0 : Nat) < 2; decide) (by kernel_rfl) ?_; intro w9 hM hk3; have HM9 := Aside0.mk (show Rws w [(b5, 29, #[.slice A8 a c8, .slice A1 L.length d1]), (b4, 29, #[.slice none 0 0, .slice none 0 0]), (b2, 29, #[.slice none 0 0, .slice none 0 0])] w9 from hM); have HK9 := Aside0.mk hk3; clear hM hk3) | ((with_reducible refine gate_dst (N := 116) rfl ?_); refine rw_load rfl 29 rfl rfl HM9.out List.mem_cons_self _ Try.underlying29 rfl (by kernel_rfl) ?_) | (refine rw_storeS rfl 29 rfl rfl (cs' := #[.slice A8 a c8, .slice A1 L.length d1]) rfl [_, _] HM9.out (by kernel_rfl) rfl (by show _ = _; simp [Value.oneCell']) ?_; intro w10 hM hk3; have HM10 := Aside0.mk hM; have HK10 := Aside0.mk hk3; clear hM hk3))
        refine bodyPost_ret (results_ct rfl _ _ b2 29 #[.slice A8 a c8, .slice A1 L.length d1] (0, 0) _ rfl (HM10.out.mem (List.mem_cons_of_mem _ (List.mem_cons_of_mem _ List.mem_cons_self))) Try.underlying29 rfl (by kernel_rfl)) rfl ?_
        have hlb := HLB.out
        have hzr := HZR.out
        have hR := Kd.R_kept (Kd.R_kept (Kd.R_bound HR8.out) HK9.out (fun k q e => by have := q.2.1; omega)) HK10.out (fun k q e => by have := q.2.1; omega)
        have hF2 := Kd.F_kept (Kd.F_kept (Kd.F_below HF.out.2 HQ8.out) HK9.out (fun k q e => by omega)) HK10.out (fun k q e => by omega)
        refine ⟨_, rfl, ⟨A8, c8, A1, d1, by show _ = Value.agg #[.slice A8 (l0.take a).length c8, .slice A1 L.length d1]; rw [hta], by show (l0.take a).length ≤ c8; rw [hta]; exact (Kd.R_reads' HR8.out).2.1, HF.out.1, ?_, Kd.F_mono hF2 (fun k q => by have : w4.heap.size ≤ k := q; omega)⟩, HM10.out.below⟩
        show Kd.F (Kd.int .u8) w10 _ A8 (l0.take a).length (l0.take a)
        rw [hta]
        exact Kd.F_mono (Kd.R_F hR) (fun k q => by have h9 : wr.heap.size ≤ k := q.2.1; omega)
end
end Go.Proofs.Ytfakdphkklclgaa.P

end

section
namespace Go.Proofs.Ytfakdphkklclgaa.P
open Go.RowKit Go.Proofs.YtfakdphkklclgaaW.PrintWords Go.Proofs.YtfakdphkklclgaaW.PrintLast Go.Proofs.YtfakdphkklclgaaW.PrintMore
attribute [local go_sem] max2_int min2_int max_two min_two max_three min_three max_four min_four
set_option linter.unusedVariables false
set_option linter.unusedSimpArgs false
section
open Go.ChangeMaps Go.MapKept
set_option linter.unusedVariables false
theorem name_cell {W : World} {base gA n c : Nat} {ok : Nat → Prop} {L : List S101} (h : Kd.R Kd.string 9 W base ok (.slice (some ⟨gA, 0, none⟩) n c) (L.map (·.f0))) (i : Nat) (hi : i < L.length) : W.cell? ⟨gA, i, none⟩ = some (.string L[i].f0) := by
  have hmi : (L.map (fun k => k.f0)).length = L.length := List.length_map _
  have hrdi : rdOf ByteArray.empty (L.map (fun k => k.f0)) (i : Int) = L[i].f0 := by
    simp [rdOf, List.getD_eq_getElem?_getD, hi]
  have hcell := Kd.foot_string (Kd.R_reads' h).2.2 (i : Int) (by omega) (by rw [hmi]; omega)
  rw [Int.toNat_natCast, hrdi] at hcell
  rcases Nat.eq_zero_or_pos i with e | e
  · subst e; simpa [Addr.add] using hcell
  · simpa [Addr.add, Nat.pos_iff_ne_zero.1 e] using hcell
set_option maxHeartbeats 12800000 in
set_option maxRecDepth 100000 in
theorem alike_st {base g : Nat} {F Z : Nat → Prop} {xv : Value} {s : Sto} {w : World} (KF : Nat) (nm : ByteArray → Bool) (hK : StFacts KF nm) (hg : Good nm s) (h : SAt base F g s w) (hd : DAt Z xv s w) : Calls Try.prog 22 #[.pointer (some ⟨g, 0, none⟩), xv] w fun e w' => e = .returned (.bool true) ∧ Below w.heap.size w w' := by
  obtain ⟨A0, c0, B1, d1, rfl, g1, g2, g3, g4⟩ := hd
  have HI := Aside0.mk (And.intro g1 (And.intro g2 (And.intro g3 g4)))
  have HK := Aside0.mk hK
  have HG := Aside0.mk hg
  have HS := Aside0.mk h
  have hu101 := Try.underlying101
  clear g1 g2 g3 g4 hK hg h
  go_enter Try.func22, Try.ntmps22
  go_wp2_with (first | ((with_reducible refine gate_dst (N := 3) rfl ?_); refine rw_box rfl 29 rfl (cs := #[.slice A0 s.img.length c0, .slice B1 s.L.length d1]) rfl (Rws.nil w) ?_; intro b3 w1 hX; have HM := Aside0.mk hX; clear hX))
  refine (Names_st HG.out.srt HG.out.len (HS.out.step HM.out.below)).mono ?_
  rintro e w2 ⟨vn, rfl, hR, hb⟩
  obtain ⟨An, cn, en⟩ := Kd.R_slice hR
  rw [List.length_map] at en
  subst en
  have HR := Aside0.mk (Kd.R_bound hR)
  have HM2 := Aside0.mk (HM.out.step hb)
  have HZW := Aside0.mk (Nat.le_refl w2.heap.size)
  clear hR hb
  go_wp2_with fail
  have HMD := Aside0.mk (HM2.out.drewN 1)
  (try simp only [Act.put, List.setIfInBounds_toArray, List.set_cons_zero, List.set_cons_succ])
  refine wp_region_held_drew (S := fun w' => Rws w [(b3, 29, #[.slice A0 s.img.length c0, .slice B1 s.L.length d1])] w') (by kernel_rfl) ?_ (fun hHeld => ?_)
  · exact HMD.out
  have HMD2 := Aside0.mk (show Rws w [(b3, 29, #[.slice A0 s.img.length c0, .slice B1 s.L.length d1])] (World.drew _) from HMD.out)
  have HRD := Aside0.mk (show Kd.R Kd.string 9 (World.drew _) _ _ _ (s.L.map (·.f0)) from Kd.R_drewN HR.out 1)
  have HSD := Aside0.mk (HS.out.step HMD2.out.below)
  replace HZW := Aside0.mk (show w2.heap.size ≤ (World.drew _).heap.size from HZW.out)
  clear HMD
  generalize World.drew _ = wd at HMD2 HRD HSD HZW hHeld ⊢
  refine take_dst (i := 0) (v := ?_) 14 rfl rfl (by kernel_rfl) (by kernel_rfl) (by kernel_rfl) (fun _ _ _ h => h) (Or.inl ⟨by rfl, ?_⟩) (by assumption) ?_
  rotate_left
  · intro w hSw
    go_simp
    try with_reducible rfl
  (try simp only [Act.put, List.setIfInBounds_toArray, List.set_cons_zero, List.set_cons_succ])
  refine take_dst (i := 2) (v := ?_) 16 rfl rfl (by kernel_rfl) (by kernel_rfl) (by kernel_rfl) (fun _ _ _ h => h) (Or.inl ⟨by rfl, ?_⟩) (by assumption) ?_
  rotate_left
  · intro w hSw
    go_simp
    try with_reducible rfl
  (try simp only [Act.put, List.setIfInBounds_toArray, List.set_cons_zero, List.set_cons_succ])
  refine take_dst (i := 3) (v := ?_) 17 rfl rfl (by kernel_rfl) (by kernel_rfl) (by kernel_rfl) (fun _ _ _ h => h) (Or.inl ⟨by rfl, ?_⟩) (by assumption) ?_
  rotate_left
  · intro w hSw
    have q0 := blk_cell (hSw.mem List.mem_cons_self) 0
    have q1 := blk_cell (hSw.mem List.mem_cons_self) 1
    go_simp
    try with_reducible rfl
  (try simp only [Act.put, List.setIfInBounds_toArray, List.set_cons_zero, List.set_cons_succ])
  refine wpAnyH_ready (rs := [1]) (by kernel_rfl) (by simp) ?_
  refine AllReadyH.cons rfl (fun K hK => ?_) (AllReadyH.nil)
  go_simp
  refine (Image_st HG.out.img HSD.out).mono ?_
  rintro e w3 ⟨v, rfl, hR, hb⟩
  obtain ⟨Ai, ci, ei⟩ := Kd.R_slice hR
  subst ei
  have HRI := Aside0.mk hR
  have HM3 := Aside0.mk (HMD2.out.step hb)
  replace HRD := Aside0.mk (Kd.R_below HRD.out hb)
  replace HZW := Aside0.mk (show w2.heap.size ≤ w3.heap.size from Nat.le_trans HZW.out hb.size)
  clear hR hb
  go_simp
  refine hK.out _ _ HM3.out (fun hHeld => ?_)
  (try simp only [Act.put, List.setIfInBounds_toArray, List.set_cons_zero, List.set_cons_succ])
  clear hK K
  refine wpAnyH_ready (rs := [4]) (by kernel_rfl) (by simp) ?_
  refine AllReadyH.cons rfl (fun K hK => ?_) (AllReadyH.nil)
  go_simp
  refine (slices_Equal_byte_byte.calls KF Ai ci s.img A0 c0 s.img true w3 (Kd.R_reads' HRI.out).2.2 (Kd.R_reads' HRI.out).2.1 (Kd.F_now (Kd.F_below HI.out.2.2.1 HM3.out.below)) HI.out.1 (HK.out.rd.eq s.img (by have := HG.out.img; omega))).mono ?_
  rintro e w4 ⟨rfl, k4, rfl⟩
  have HM4 := Aside0.mk (HM3.out.drewN k4)
  replace HRD := Aside0.mk (Kd.R_drewN HRD.out k4)
  replace HZW := Aside0.mk (show w2.heap.size ≤ (w3.drewN k4).heap.size from HZW.out)
  generalize w3.drewN k4 = w4 at HM4 HRD HZW ⊢
  go_simp
  refine hK.out _ _ HM4.out (fun hHeld => ?_)
  (try simp only [Act.put, List.setIfInBounds_toArray, List.set_cons_zero, List.set_cons_succ])
  clear hK K
  refine take_dst (i := 5) (v := ?_) 19 rfl rfl (by kernel_rfl) (by kernel_rfl) (by kernel_rfl) (fun _ _ _ h => h) (Or.inl ⟨by rfl, ?_⟩) (by assumption) ?_
  rotate_left
  · intro w hSw
    go_simp
    try with_reducible rfl
  (try simp only [Act.put, List.setIfInBounds_toArray, List.set_cons_zero, List.set_cons_succ])
  refine take_dst (i := 6) (v := ?_) 20 rfl rfl (by kernel_rfl) (by kernel_rfl) (by kernel_rfl) (fun _ _ _ h => h) (Or.inl ⟨by rfl, ?_⟩) (by assumption) ?_
  rotate_left
  · intro w hSw
    go_simp
    try with_reducible rfl
  (try simp only [Act.put, List.setIfInBounds_toArray, List.set_cons_zero, List.set_cons_succ])
  refine take_dst (i := 7) (v := ?_) 21 rfl rfl (by kernel_rfl) (by kernel_rfl) (by kernel_rfl) (fun _ _ _ h => h) (Or.inl ⟨by rfl, ?_⟩) (by assumption) ?_
  rotate_left
  · intro w hSw
    go_simp
    try with_reducible rfl
  (try simp only [Act.put, List.setIfInBounds_toArray, List.set_cons_zero, List.set_cons_succ])
  refine take_dst (i := 8) (v := ?_) 22 rfl rfl (by kernel_rfl) (by kernel_rfl) (by kernel_rfl) (fun _ _ _ h => h) (Or.inl ⟨by rfl, ?_⟩) (by assumption) ?_
  rotate_left
  · intro w hSw
    go_simp
    try with_reducible rfl
  (try simp only [Act.put, List.setIfInBounds_toArray, List.set_cons_zero, List.set_cons_succ])
  refine take_dst (i := 9) (v := ?_) 23 rfl rfl (by kernel_rfl) (by kernel_rfl) (by kernel_rfl) (fun _ _ _ h => h) (Or.inl ⟨by rfl, ?_⟩) (by assumption) ?_
  rotate_left
  · intro w hSw
    go_simp
    try with_reducible rfl
  (try simp only [Act.put, List.setIfInBounds_toArray, List.set_cons_zero, List.set_cons_succ])
  refine take_dst (i := 10) (v := ?_) 24 rfl rfl (by kernel_rfl) (by kernel_rfl) (by kernel_rfl) (fun _ _ _ h => h) (Or.inl ⟨by rfl, ?_⟩) (by assumption) ?_
  rotate_left
  · intro w hSw
    have q0 := blk_cell (hSw.mem List.mem_cons_self) 0
    have q1 := blk_cell (hSw.mem List.mem_cons_self) 1
    go_simp
    try with_reducible rfl
  (try simp only [Act.put, List.setIfInBounds_toArray, List.set_cons_zero, List.set_cons_succ])
  refine take_dst (i := 11) (v := ?_) 25 rfl rfl (by kernel_rfl) (by kernel_rfl) (by kernel_rfl) (fun _ _ _ h => h) (Or.inl ⟨by rfl, ?_⟩) (by assumption) ?_
  rotate_left
  · intro w hSw
    go_simp
    try with_reducible rfl
  (try simp only [Act.put, List.setIfInBounds_toArray, List.set_cons_zero, List.set_cons_succ])
  refine take_dst (i := 12) (v := ?_) 26 rfl rfl (by kernel_rfl) (by kernel_rfl) (by kernel_rfl) (fun _ _ _ h => h) (Or.inl ⟨by rfl, ?_⟩) (by assumption) ?_
  rotate_left
  · intro w hSw
    go_simp
    try with_reducible rfl
  (try simp only [Act.put, List.setIfInBounds_toArray, List.set_cons_zero, List.set_cons_succ])
  refine take_dst (i := 13) (v := ?_) 27 rfl rfl (by kernel_rfl) (by kernel_rfl) (by kernel_rfl) (fun _ _ _ h => h) (Or.inl ⟨by rfl, ?_⟩) (by assumption) ?_
  rotate_left
  · intro w hSw
    go_simp
    try with_reducible rfl
  (try simp only [Act.put, List.setIfInBounds_toArray, List.set_cons_zero, List.set_cons_succ])
  refine wpAnyH_done (by kernel_rfl) ?_ _
  have hc1 := blk_cell (HM4.out.mem List.mem_cons_self) 1
  go_wp2_with fail
  clear hc1
  have HRR0 := Aside0.mk (Kd.R_mono HRD.out (ok' := fun k => k < w2.heap.size) (fun k q => q.2.2.1))
  have HZ4 := Aside0.mk (show w2.heap.size ≤ w4.heap.size from HZW.out)
  go_loopw [31] (fun v31 wr => ∃ i : Nat, v31 = .int .i64 (i : Int) ∧ i ≤ s.L.length ∧ Aside0 (Rws w [(b3, 29, #[.slice A0 s.img.length c0, .slice B1 s.L.length d1])] wr) ∧ Aside0 (Kd.R Kd.string 9 wr w1.heap.size (fun k => k < w2.heap.size) (.slice An s.L.length cn) (s.L.map (·.f0))) ∧ Aside0 (w2.heap.size ≤ wr.heap.size)) (fun v31 _ => ((s.L.length : Int) - intOf v31).toNat)
  case atStart => exact ⟨0, rfl, Nat.zero_le _, HM4, HRR0, HZ4⟩
  case round =>
    clear HRR0 HZ4 HRD HM4 HM3 HMD2 HM2 HR
    obtain ⟨i, rfl, hi, HMR, HRR, HZR⟩ := hrel
    by_cases c2_ : i < s.L.length
    · have c2b : decide ((i : Int) < (s.L.length : Int)) = true := decide_eq_true (by omega)
      have c2c : decide (i < s.L.length) = true := decide_eq_true c2_
      have p5 : (0 ≤ (i : Int)) = True := eq_true (by omega)
      have p6 : ((i : Int) < (s.L.length : Int)) = True := eq_true (by omega)
      have hsl := HG.out.len
      have HRW : Aside0 (wrap64 ((i : Int) + 1) = ((i + 1 : Nat) : Int)) := ⟨by unfold wrap64; omega⟩
      obtain ⟨gA, e1⟩ : ∃ gA, An = some ⟨gA, 0, none⟩ := by
        obtain ⟨gb, cb, e, _⟩ := Kd.R_form HRR.out (by rw [List.length_map]; omega)
        injection e with e
        exact ⟨gb, e⟩
      subst e1
      have hFL := Kd.F_below (Kd.F_bound HI.out.2.2.2) HMR.out.below
      obtain ⟨ad, cs, eA, _, hFK, hcc, _⟩ := Kd.F_get hFL z101 (i : Int) (by omega) (by omega)
      obtain ⟨A2, c2, e2, q3, q4⟩ := k101_openF hFK
      subst e2
      have hrd : s.L.getD (i : Int).toNat z101 = s.L[i] := by rw [Int.toNat_natCast, List.getD_eq_getElem?_getD, List.getElem?_eq_getElem c2_]; rfl
      rw [hrd] at q3 q4 hcc
      rw [Int.toNat_natCast] at hcc
      have q1 : wr.cell? (ad.add (i * 2)) = some (.string s.L[i].f0) := hcc 0 _ rfl
      have q2 : wr.cell? ⟨(ad.add (i * 2)).block, (ad.add (i * 2)).off + 1, none⟩ = some (.slice A2 s.L[i].f1.length c2) := by
        have h9 := hcc 1 _ rfl
        rw [show k101.sz = 2 from rfl, ← Addr.add_add] at h9
        exact h9
      have hmem := List.getElem_mem c2_
      have hget : getS nm s s.L[i].f0 = (s.L[i].f1, 0) := by
        unfold getS
        rw [if_neg (by rw [HG.out.nam _ hmem]; decide), lk_at HG.out.srt i c2_]
      have hxs := (HK.out.siz _ (HG.out.nam _ hmem)).2
      have HS46 := Aside0.mk (HG.out.val _ hmem).1
      obtain ⟨x, hx⟩ : ∃ x, x = s.L[i].f0 := ⟨_, rfl⟩
      obtain ⟨b, hb⟩ : ∃ b, b = s.L[i].f1 := ⟨_, rfl⟩
      rw [← hx] at q1 hget hxs
      rw [← hb] at q2 q3 q4 hget HS46
      subst eA
      have HCB0 := Aside0.mk (And.intro q3 q4)
      have HGT := Aside0.mk hget
      have HXM := Aside0.mk (show x.size ≤ maxLen by unfold maxLen; omega)
      clear q3 q4 hFL hFK hcc hrd hmem hb hget hxs
      have HXE := Aside0.mk hx
      clear hx
      go_wp2_with (first | ((with_reducible refine gate_dst (N := 7) rfl ?_); refine rw_allocS rfl 101 rfl (cs := #[.string ⟨#[]⟩, .slice none 0 0]) (by kernel_rfl) HMR.out ?_; intro b7 w6 hg6 hM hb6; have HM6 := Aside0.mk hM; have HB6 := Aside0.mk hb6; have HE7 := Aside0.mk hg6; clear hg6 hM hb6) | (refine rw_storeS rfl 101 rfl rfl (cs' := #[.string x, .slice A2 b.length c2]) rfl [] HM6.out (by kernel_rfl) rfl (by show _ = _; simp [Value.oneCell']) ?_; intro w7 hM hk3; have HM7 := Aside0.mk hM; have HK7 := Aside0.mk hk3; have hc70 := blk_cell (hM.mem List.mem_cons_self) 0; clear hM hk3))
      refine (Get_st KF nm HK.out HG.out x HXM.out (HS.out.step HM7.out.below)).mono ?_
      rintro e w8 ⟨v8, rfl, hR, hb⟩
      rw [HGT.out] at hR ⊢
      simp only at hR ⊢
      obtain ⟨A8, c8, e8⟩ := Kd.R_slice hR
      subst e8
      have HR8 := Aside0.mk hR
      have HM8 := Aside0.mk (HM7.out.step hb)
      have HRR8 := Aside0.mk (Kd.R_below (Kd.R_kept (Kd.R_below HRR.out HB6.out) HK7.out (fun k q e => by have := HZR.out; have := HE7.out; omega)) hb)
      have HZ8 := Aside0.mk (show w2.heap.size ≤ w8.heap.size from Nat.le_trans HZR.out (Nat.le_trans HB6.out.size (Nat.le_trans HK7.out.1 hb.size)))
      have hcl := name_cell HRR8.out i c2_
      rw [← HXE.out] at hcl
      clear hR hb hc70
      go_wp2_with fail
      have HMD := Aside0.mk (HM8.out.drewN 1)
      (try simp only [Act.put, List.setIfInBounds_toArray, List.set_cons_zero, List.set_cons_succ])
      refine wp_region_held_drew (S := fun w' => (Rws w [(b7, 101, #[.string x, .slice A2 b.length c2]), (b3, 29, #[.slice A0 s.img.length c0, .slice (some ad) s.L.length d1])] w') ∧ w'.cell? ⟨gA, i, none⟩ = some (.string x)) (by kernel_rfl) ?_ (fun hHeld => ?_)
      · exact ⟨HMD.out, hcl⟩
      have HMD2 := Aside0.mk (show Rws w [(b7, 101, #[.string x, .slice A2 b.length c2]), (b3, 29, #[.slice A0 s.img.length c0, .slice (some ad) s.L.length d1])] (World.drew _) from HMD.out)
      have HRD8 := Aside0.mk (show Kd.R (Kd.int .u8) 5 (World.drew _) _ _ _ b from Kd.R_drewN HR8.out 1)
      replace HRR8 := Aside0.mk (show Kd.R Kd.string 9 (World.drew _) _ _ _ (s.L.map (·.f0)) from Kd.R_drewN HRR8.out 1)
      replace HZ8 := Aside0.mk (show w2.heap.size ≤ (World.drew _).heap.size from HZ8.out)
      clear HMD hcl
      generalize World.drew _ = wd at HMD2 HRD8 HRR8 HZ8 hHeld ⊢
      refine take_dst (i := 0) (v := ?_) 43 rfl rfl (by kernel_rfl) (by kernel_rfl) (by kernel_rfl) (fun _ _ _ h => h) (Or.inl ⟨by rfl, ?_⟩) (by assumption) ?_
      rotate_left
      · intro w hSw
        go_simp
        try with_reducible rfl
      (try simp only [Act.put, List.setIfInBounds_toArray, List.set_cons_zero, List.set_cons_succ])
      refine take_dst (i := 1) (v := ?_) 44 rfl rfl (by kernel_rfl) (by kernel_rfl) (by kernel_rfl) (fun _ _ _ h => h) (Or.inl ⟨by rfl, ?_⟩) (by assumption) ?_
      rotate_left
      · intro w hSw
        go_simp
        try with_reducible rfl
      (try simp only [Act.put, List.setIfInBounds_toArray, List.set_cons_zero, List.set_cons_succ])
      refine take_dst (i := 2) (v := ?_) 45 rfl rfl (by kernel_rfl) (by kernel_rfl) (by kernel_rfl) (fun _ _ _ h => h) (Or.inl ⟨by rfl, ?_⟩) (by assumption) ?_
      rotate_left
      · intro w hSw
        go_simp
        try with_reducible rfl
      (try simp only [Act.put, List.setIfInBounds_toArray, List.set_cons_zero, List.set_cons_succ])
      refine take_dst (i := 3) (v := ?_) 46 rfl rfl (by kernel_rfl) (by kernel_rfl) (by kernel_rfl) (fun _ _ _ h => h) (Or.inl ⟨by rfl, ?_⟩) (by assumption) ?_
      rotate_left
      · intro w hSw
        have q0 := blk_cell (hSw.1.mem List.mem_cons_self) 0
        have q1 := blk_cell (hSw.1.mem List.mem_cons_self) 1
        have q2 := hSw.2
        go_simp
        try with_reducible rfl
      (try simp only [Act.put, List.setIfInBounds_toArray, List.set_cons_zero, List.set_cons_succ])
      refine take_dst (i := 4) (v := ?_) 47 rfl rfl (by kernel_rfl) (by kernel_rfl) (by kernel_rfl) (fun _ _ _ h => h) (Or.inl ⟨by rfl, ?_⟩) (by assumption) ?_
      rotate_left
      · intro w hSw
        go_simp
        try with_reducible rfl
      (try simp only [Act.put, List.setIfInBounds_toArray, List.set_cons_zero, List.set_cons_succ])
      refine take_dst (i := 5) (v := ?_) 48 rfl rfl (by kernel_rfl) (by kernel_rfl) (by kernel_rfl) (fun _ _ _ h => h) (Or.inl ⟨by rfl, ?_⟩) (by assumption) ?_
      rotate_left
      · intro w hSw
        have q0 := blk_cell (hSw.1.mem List.mem_cons_self) 0
        have q1 := blk_cell (hSw.1.mem List.mem_cons_self) 1
        have q2 := hSw.2
        go_simp
        try with_reducible rfl
      (try simp only [Act.put, List.setIfInBounds_toArray, List.set_cons_zero, List.set_cons_succ])
      refine take_dst (i := 6) (v := ?_) 49 rfl rfl (by kernel_rfl) (by kernel_rfl) (by kernel_rfl) (fun _ _ _ h => h) (Or.inl ⟨by rfl, ?_⟩) (by assumption) ?_
      rotate_left
      · intro w hSw
        go_simp
        try with_reducible rfl
      (try simp only [Act.put, List.setIfInBounds_toArray, List.set_cons_zero, List.set_cons_succ])
      refine take_dst (i := 7) (v := ?_) 50 rfl rfl (by kernel_rfl) (by kernel_rfl) (by kernel_rfl) (fun _ _ _ h => h) (Or.inl ⟨by rfl, ?_⟩) (by assumption) ?_
      rotate_left
      · intro w hSw
        go_simp
        try with_reducible rfl
      (try simp only [Act.put, List.setIfInBounds_toArray, List.set_cons_zero, List.set_cons_succ])
      refine take_dst (i := 8) (v := ?_) 51 rfl rfl (by kernel_rfl) (by kernel_rfl) (by kernel_rfl) (fun _ _ _ h => h) (Or.inl ⟨by rfl, ?_⟩) (by assumption) ?_
      rotate_left
      · intro w hSw
        go_simp
        try with_reducible rfl
      (try simp only [Act.put, List.setIfInBounds_toArray, List.set_cons_zero, List.set_cons_succ])
      refine take_dst (i := 9) (v := ?_) 52 rfl rfl (by kernel_rfl) (by kernel_rfl) (by kernel_rfl) (fun _ _ _ h => h) (Or.inl ⟨by rfl, ?_⟩) (by assumption) ?_
      rotate_left
      · intro w hSw
        go_simp
        try with_reducible rfl
      (try simp only [Act.put, List.setIfInBounds_toArray, List.set_cons_zero, List.set_cons_succ])
      refine take_dst (i := 10) (v := ?_) 53 rfl rfl (by kernel_rfl) (by kernel_rfl) (by kernel_rfl) (fun _ _ _ h => h) (Or.inl ⟨by rfl, ?_⟩) (by assumption) ?_
      rotate_left
      · intro w hSw
        go_simp
        try with_reducible rfl
      (try simp only [Act.put, List.setIfInBounds_toArray, List.set_cons_zero, List.set_cons_succ])
      refine take_dst (i := 11) (v := ?_) 54 rfl rfl (by kernel_rfl) (by kernel_rfl) (by kernel_rfl) (fun _ _ _ h => h) (Or.inl ⟨by rfl, ?_⟩) (by assumption) ?_
      rotate_left
      · intro w hSw
        go_simp
        try with_reducible rfl
      (try simp only [Act.put, List.setIfInBounds_toArray, List.set_cons_zero, List.set_cons_succ])
      refine take_dst (i := 12) (v := ?_) 55 rfl rfl (by kernel_rfl) (by kernel_rfl) (by kernel_rfl) (fun _ _ _ h => h) (Or.inl ⟨by rfl, ?_⟩) (by assumption) ?_
      rotate_left
      · intro w hSw
        go_simp
        try with_reducible rfl
      (try simp only [Act.put, List.setIfInBounds_toArray, List.set_cons_zero, List.set_cons_succ])
      refine take_dst (i := 13) (v := ?_) 56 rfl rfl (by kernel_rfl) (by kernel_rfl) (by kernel_rfl) (fun _ _ _ h => h) (Or.inl ⟨by rfl, ?_⟩) (by assumption) ?_
      rotate_left
      · intro w hSw
        go_simp
        try with_reducible rfl
      (try simp only [Act.put, List.setIfInBounds_toArray, List.set_cons_zero, List.set_cons_succ])
      refine take_dst (i := 14) (v := ?_) 57 rfl rfl (by kernel_rfl) (by kernel_rfl) (by kernel_rfl) (fun _ _ _ h => h) (Or.inl ⟨by rfl, ?_⟩) (by assumption) ?_
      rotate_left
      · intro w hSw
        have q0 := blk_cell (hSw.1.mem List.mem_cons_self) 0
        have q1 := blk_cell (hSw.1.mem List.mem_cons_self) 1
        have q2 := hSw.2
        go_simp
        try with_reducible rfl
      (try simp only [Act.put, List.setIfInBounds_toArray, List.set_cons_zero, List.set_cons_succ])
      refine wpAnyH_ready (rs := [15]) (by kernel_rfl) (by simp) ?_
      refine AllReadyH.cons rfl (fun K hK => ?_) (AllReadyH.nil)
      go_simp
      have hCB := Kd.F_now (Kd.F_step HCB0.out.2 (fun k q _ => (HMD2.out.below.block k q.2).trans (HMR.out.below.block k q.2).symm))
      refine (slices_Equal_byte_byte.calls KF A8 c8 b A2 c2 b true wd (Kd.R_reads' HRD8.out).2.2 (Kd.R_reads' HRD8.out).2.1 hCB HCB0.out.1 (HK.out.rd.eq b (by have := HS46.out; omega))).mono ?_
      rintro e w9 ⟨rfl, k9, rfl⟩
      have HM9 := Aside0.mk (HMD2.out.drewN k9)
      have HRR9 := Aside0.mk (Kd.R_drewN HRR8.out k9)
      have HZ9 := Aside0.mk (show w2.heap.size ≤ (wd.drewN k9).heap.size from HZ8.out)
      generalize wd.drewN k9 = w9 at HM9 HRR9 HZ9 ⊢
      have hcl := name_cell HRR9.out i c2_
      rw [← HXE.out] at hcl
      go_simp
      refine hK.out _ _ ⟨HM9.out, hcl⟩ (fun hHeld => ?_)
      (try simp only [Act.put, List.setIfInBounds_toArray, List.set_cons_zero, List.set_cons_succ])
      clear hK K hcl hCB
      refine take_dst (i := 16) (v := ?_) 59 rfl rfl (by kernel_rfl) (by kernel_rfl) (by kernel_rfl) (fun _ _ _ h => h) (Or.inl ⟨by rfl, ?_⟩) (by assumption) ?_
      rotate_left
      · intro w hSw
        go_simp
        try with_reducible rfl
      (try simp only [Act.put, List.setIfInBounds_toArray, List.set_cons_zero, List.set_cons_succ])
      refine take_dst (i := 17) (v := ?_) 60 rfl rfl (by kernel_rfl) (by kernel_rfl) (by kernel_rfl) (fun _ _ _ h => h) (Or.inl ⟨by rfl, ?_⟩) (by assumption) ?_
      rotate_left
      · intro w hSw
        go_simp
        try with_reducible rfl
      (try simp only [Act.put, List.setIfInBounds_toArray, List.set_cons_zero, List.set_cons_succ])
      refine wpAnyH_done (by kernel_rfl) ?_ _
      go_wp2_with fail
      go_roundw
      case rel => exact ⟨i + 1, by have e9 := HRW.out; first | (rw [e9]; done) | (simp; done), c2_, HM9.out.tail |> Aside0.mk, HRR9, HZ9⟩
      case measure => have e9 := HRW.out; first | omega | (simp only [intOf] at *; omega)
    · have c2b : decide ((i : Int) < (s.L.length : Int)) = false := decide_eq_false (by omega)
      have c2c : decide (i < s.L.length) = false := decide_eq_false c2_
      go_wp2_with fail
      go_ret
      exact ⟨rfl, HMR.out.below⟩
end
end Go.Proofs.Ytfakdphkklclgaa.P

end

section
namespace Go.Proofs.Ytfakdphkklclgaa.P
open Go.RowKit Go.Proofs.YtfakdphkklclgaaW.PrintWords Go.Proofs.YtfakdphkklclgaaW.PrintLast Go.Proofs.YtfakdphkklclgaaW.PrintMore
attribute [local go_sem] max2_int min2_int max_two min_two max_three min_three max_four min_four
set_option linter.unusedVariables false
set_option linter.unusedSimpArgs false
section
open Go.ChangeMaps Go.MapKept
set_option linter.unusedVariables false
theorem kept_at1 {W W1 : World} {S : Nat → Prop} (hk : Kept W W1 S) {p : Addr} (hp : S p.block) (v : Value) : Kept W (W1.setCell p v) S := ⟨by have := hk.1; simpa [World.setCell] using this, fun k h1 hn => (Below.heap_setCell W1 p v k (fun e => hn (e ▸ hp))).trans (hk.2 k h1 hn)⟩
theorem Wrs.now {S1 S2 : Nat} {A : Option Addr} {c : Nat} {ws : List S52} {W : World} (h : Wrs S1 S2 (.slice A ws.length c) ws W) : Kd.C k52 W A ws.length ws := by
  obtain ⟨A', c', e, _, h2⟩ := h.reads
  injection e with e
  rw [e]; exact h2
theorem DWr.now {Z : Nat → Prop} {A : Option Addr} {c : Nat} {ws : List S52} {W : World} (h : DWr Z (.slice A ws.length c) ws W) : Kd.C k52 W A ws.length ws := by
  obtain ⟨A', c', e, _, h2⟩ := h
  injection e with e
  rw [e]; exact Kd.F_now h2
end
end Go.Proofs.Ytfakdphkklclgaa.P

end

section
namespace Go.Proofs.Ytfakdphkklclgaa.P
open Go.RowKit Go.Proofs.YtfakdphkklclgaaW.PrintWords Go.Proofs.YtfakdphkklclgaaW.PrintLast Go.Proofs.YtfakdphkklclgaaW.PrintMore
attribute [local go_sem] max2_int min2_int max_two min_two max_three min_three max_four min_four
set_option linter.unusedVariables false
set_option linter.unusedSimpArgs false
section
inductive Par (nm : ByteArray → Bool) (bs : List Int) : List S101 → Nat → List S101 → Nat → Prop
  | refl (L : List S101) (a : Nat) : Par nm bs L a L a
  | step {L : List S101} {a : Nat} {q : List S101 × Nat} {L' : List S101} {a' : Nat} (ha : a < bs.length) (hz : rd bs (a : Int) ≠ 0) (hq : recS nm bs L a = some q) (h : Par nm bs q.1 q.2 L' a') : Par nm bs L a L' a'
theorem Par.trans {nm : ByteArray → Bool} {bs : List Int} {L L' L2 : List S101} {a a' a2 : Nat} (h : Par nm bs L a L' a') (h2 : Par nm bs L' a' L2 a2) : Par nm bs L a L2 a2 := by
  induction h with
  | refl L a => exact h2
  | step ha hz hq _ ih => exact .step ha hz hq (ih h2)
end
end Go.Proofs.Ytfakdphkklclgaa.P

end

section
namespace Go.Proofs.Ytfakdphkklclgaa.P
open Go.RowKit Go.Proofs.YtfakdphkklclgaaW.PrintWords Go.Proofs.YtfakdphkklclgaaW.PrintLast Go.Proofs.YtfakdphkklclgaaW.PrintMore
attribute [local go_sem] max2_int min2_int max_two min_two max_three min_three max_four min_four
set_option linter.unusedVariables false
set_option linter.unusedSimpArgs false
section
open Go.ChangeMaps Go.MapKept
set_option linter.unusedVariables false
structure LFacts (K : Nat) (nm : ByteArray → Bool) : Prop where
  st : StFacts K nm
  un : ∀ l : List Int, l.length ≤ 140737488351232 → provisoplain_Untouched.f K (l ++ [165, 90, 195, 60]) l = some true
end
end Go.Proofs.Ytfakdphkklclgaa.P

end

section
namespace Go.Proofs.Ytfakdphkklclgaa.P
open Go.RowKit Go.Proofs.YtfakdphkklclgaaW.PrintWords Go.Proofs.YtfakdphkklclgaaW.PrintLast Go.Proofs.YtfakdphkklclgaaW.PrintMore
attribute [local go_sem] max2_int min2_int max_two min_two max_three min_three max_four min_four
set_option linter.unusedVariables false
set_option linter.unusedSimpArgs false
section
open Go.ChangeMaps Go.MapKept
set_option linter.unusedVariables false
def provisolaw21_StoreOpens.Facts (l0 : List Int) : Prop := (∃ (K : Nat) (nm : ByteArray → Bool), LFacts K nm) ∧ l0.length ≤ 140737488351232 ∧ ∀ x ∈ l0, 0 ≤ x ∧ x ≤ 255
set_option maxHeartbeats 12800000 in
set_option maxRecDepth 100000 in
theorem provisolaw21_StoreOpens.calls (A0 : Option Addr) (c0 : Nat) (l0 : List Int) (w : World) (hr0 : Kd.C (Kd.int .u8) w A0 l0.length l0) (hc0 : l0.length ≤ c0) (h : provisolaw21_StoreOpens.Facts l0) :
    Calls Try.prog 6 #[.slice A0 l0.length c0] w fun e w' => e = .returned (.bool true) ∧ Below w.heap.size w w' := by
  obtain ⟨⟨KK, nm, hK⟩, hlim, hby⟩ := h
  have HK := Aside0.mk hK
  have HLIM := Aside0.mk hlim
  have HBY := Aside0.mk hby
  have HR0 := Aside0.mk hr0
  have HC0 := Aside0.mk hc0
  clear hK hlim hby hr0 hc0
  go_enter Try.func6, Try.ntmps6
  go_wp2_with fail
  refine (Roomy_calls A0 c0 l0 w HR0.out HC0.out HLIM.out).mono ?_
  rintro e_ w2 ⟨A, c, rfl, hcap, hR, hb⟩
  obtain ⟨adr, hAd, _⟩ := Kd.at_int (Kd.R_reads' hR).2.2 0 (by omega) (by simp; omega)
  subst hAd
  obtain ⟨ga, rfl⟩ := Kd.R_head hR
  have HR := Aside0.mk (Kd.R_bound hR)
  have HCAP := Aside0.mk hcap
  have HB2 := Aside0.mk hb
  have HGA := Aside0.mk (show w.heap.size ≤ ga ∧ ga < w2.heap.size from ⟨Kd.R_base_ hR ga rfl, Kd.R_lt hR ga rfl⟩)
  have hgv : Kd.C (Kd.int .u8) w2 (some ⟨ga, 0, none⟩) l0.length l0 := by
    have h9 := Kd.C_take (Kd.R_reads' hR).2.2 (m := l0.length) (by simp)
    rwa [List.take_left] at h9
  have HGV := Aside0.mk hgv
  clear hcap hR hb hgv
  go_wp2_with fail
  refine (Open_st KK nm HK.out.st (some ⟨ga, 0, none⟩) c l0 w2 HGV.out (by have := HCAP.out; omega) HBY.out).mono ?_
  rintro e_ w3 ⟨hb, hp⟩
  have HB3 := Aside0.mk (below_step HB2.out hb)
  have HR3 := Aside0.mk (Kd.R_below HR.out hb)
  clear hb HGV
  have hlen4 : (l0 ++ ([165, 90, 195, 60] : List Int)).length = l0.length + 4 := by simp
  have hun := provisoplain_Untouched.calls KK (some ⟨ga, 0, none⟩) c (l0 ++ [165, 90, 195, 60]) A0 c0 l0 true w3 (Kd.R_reads' HR3.out).2.2 (by rw [hlen4]; exact HCAP.out) (Kd.C_below HR0.out HB3.out) HC0.out (HK.out.un l0 HLIM.out)
  rw [hlen4] at hun
  have HUN := Aside0.mk hun
  clear hun hlen4
  cases hos : openS nm l0 with
  | none =>
    rw [hos] at hp
    simp only at hp
    subst hp
    have HOS := Aside0.mk hos
    clear hos
    go_wp2_with fail
    refine HUN.out.mono ?_
    rintro e_ w4 ⟨rfl, k4, rfl⟩
    have HB4 := Aside0.mk (pw_below_drewN HB3.out k4)
    have HR4 := Aside0.mk (Kd.R_drewN HR3.out k4)
    clear HUN HR3
    generalize w3.drewN k4 = w4 at HB4 HR4 ⊢
    go_wp2_with fail
    have HB0 := Aside0.mk HB4.out
    have HKG := Aside0.mk (Kept.refl w4 (fun k => k = ga))
    have HRW0 := Aside0.mk (show ∃ ys : List Int, Kd.R (Kd.int .u8) 5 w4 w.heap.size (fun k => w.heap.size ≤ k ∧ k < w2.heap.size) (.slice (some ⟨ga, 0, none⟩) (l0.length + 4) c) ys from ⟨_, Kd.R_mono HR4.out (fun k q => ⟨q.2.1, q.2.2.1⟩)⟩)
    go_loopw [26] (fun v58 wr => ∃ i : Nat, v58 = .int .i64 (i : Int) ∧ i ≤ l0.length ∧ Aside0 (Below w.heap.size w wr) ∧ Aside0 (Kept w4 wr (fun k => k = ga)) ∧ Aside0 (∃ ys : List Int, Kd.R (Kd.int .u8) 5 wr w.heap.size (fun k => w.heap.size ≤ k ∧ k < w2.heap.size) (.slice (some ⟨ga, 0, none⟩) (l0.length + 4) c) ys)) (fun v58 _ => ((l0.length : Int) - intOf v58).toNat)
    case atStart => exact ⟨0, rfl, Nat.zero_le _, HB0, HKG, HRW0⟩
    case round =>
      clear HB0 HKG HRW0
      obtain ⟨i, rfl, hi, HB0, HKG, HRW0⟩ := hrel
      by_cases c1_ : i < l0.length
      · have c1b : decide ((i : Int) < (l0.length : Int)) = true := decide_eq_true (by omega)
        have p1 : (0 ≤ (i : Int)) = True := eq_true (by omega)
        have p2 : ((i : Int) < (l0.length : Int)) = True := eq_true (by omega)
        have HI : Aside0 (i < l0.length) := ⟨c1_⟩
        obtain ⟨ys, hR⟩ := HRW0.out
        obtain ⟨hc1, hf1⟩ := Kd.R_celln 0 hR (i : Int) (by omega) (by omega)
        rw [Int.toNat_natCast] at hc1 hf1
        have HR := Aside0.mk hR
        obtain ⟨z, hz⟩ : ∃ z, rdOf 0 ys (i : Int) = z := ⟨_, rfl⟩
        rw [hz] at hc1
        have HW9 : Aside0 (wrap64 ((i : Int) + 1) = ((i + 1 : Nat) : Int)) := ⟨by have := HLIM.out; unfold wrap64; omega⟩
        clear hR hz HRW0 c1_
        go_wp2_with fail
        have hrow := Kd.R_putn HR.out (i : Int) (bits BinOp.xor IntKind.u8 z 255)
        rw [Int.toNat_natCast] at hrow
        have HROW := Aside0.mk hrow
        have HB1 := Aside0.mk (HB0.out.setCell (p := ⟨ga, i, none⟩) (show w.heap.size ≤ ga from HGA.out.1) (.int .u8 (bits BinOp.xor IntKind.u8 z 255)))
        have HKG1 := Aside0.mk (kept_at1 HKG.out (p := ⟨ga, i, none⟩) rfl (.int .u8 (bits BinOp.xor IntKind.u8 z 255)))
        clear hrow
        go_roundw
        case rel => exact ⟨i + 1, (by rw [HW9.out]), HI.out, HB1, HKG1, ⟨_, HROW.out⟩⟩
        case measure => rw [HW9.out]; have := HI.out; show ((l0.length : Int) - ((i + 1 : Nat) : Int)).toNat < ((l0.length : Int) - (i : Int)).toNat; omega
      · have c1b : decide ((i : Int) < (l0.length : Int)) = false := decide_eq_false (by omega)
        have c1n : decide (i < l0.length) = false := decide_eq_false c1_
        go_wp2_with fail
        refine (Open_d KK nm HK.out.st A0 c0 l0 _ (Kd.C_below HR0.out HB0.out) HC0.out HBY.out).mono ?_
        rintro e_ w6 ⟨y, rfl, hy, hb⟩
        rw [HOS.out] at hy ⊢
        have HY := Aside0.mk hy
        have HB6 := Aside0.mk hb
        obtain ⟨A15, c15, A16, c16, e15, _⟩ := hy
        subst e15
        have HN6 := Aside0.mk (show Rws w [] w6 from ⟨fun _ q => (by simp at q), by simp, below_step HB0.out hb⟩)
        clear hb
        go_wp2_with (first | ((with_reducible refine gate_dst (N := 8) rfl ?_); refine rw_allocS rfl 29 rfl (cs := #[.slice none 0 0, .slice none 0 0]) (by kernel_rfl) HN6.out ?_; intro b8 w7 hg6 hM hb6; have HM7 := Aside0.mk hM; have HB7 := Aside0.mk hb6; have HE8 := Aside0.mk hg6; clear hg6 hM hb6) | (refine rw_storeS rfl 29 rfl rfl (cs' := #[.slice A15 ((none : Option Sto).getD ⟨[], []⟩).img.length c15, .slice A16 ((none : Option Sto).getD ⟨[], []⟩).L.length c16]) rfl [] HM7.out (by kernel_rfl) rfl (by show _ = _; simp [Value.oneCell']) ?_; intro w8 hM hk3; have HM8 := Aside0.mk hM; have HK8 := Aside0.mk hk3; have hc80 := blk_cell (hM.mem List.mem_cons_self) 0; have hc81 := blk_cell (hM.mem List.mem_cons_self) 1; clear hM hk3))
        go_ret
        exact ⟨rfl, HM8.out.below⟩
  | some s =>
    rw [hos] at hp
    obtain ⟨g, rfl, hs⟩ := hp
    have HOS := Aside0.mk hos
    have HS := Aside0.mk hs
    have HG := Aside0.mk (good_open HBY.out hos)
    clear hos hs
    go_wp2_with fail
    refine HUN.out.mono ?_
    rintro e_ w4 ⟨rfl, k4, rfl⟩
    have HB4 := Aside0.mk (pw_below_drewN HB3.out k4)
    have HR4 := Aside0.mk (Kd.R_drewN HR3.out k4)
    replace HS := Aside0.mk (HS.out.step (pw_below_drewN (Below.refl w3.heap.size w3) k4))
    clear HUN HR3
    generalize w3.drewN k4 = w4 at HB4 HR4 HS ⊢
    go_wp2_with fail
    have HB0 := Aside0.mk HB4.out
    have HKG := Aside0.mk (Kept.refl w4 (fun k => k = ga))
    have HRW0 := Aside0.mk (show ∃ ys : List Int, Kd.R (Kd.int .u8) 5 w4 w.heap.size (fun k => w.heap.size ≤ k ∧ k < w2.heap.size) (.slice (some ⟨ga, 0, none⟩) (l0.length + 4) c) ys from ⟨_, Kd.R_mono HR4.out (fun k q => ⟨q.2.1, q.2.2.1⟩)⟩)
    go_loopw [26] (fun v58 wr => ∃ i : Nat, v58 = .int .i64 (i : Int) ∧ i ≤ l0.length ∧ Aside0 (Below w.heap.size w wr) ∧ Aside0 (Kept w4 wr (fun k => k = ga)) ∧ Aside0 (∃ ys : List Int, Kd.R (Kd.int .u8) 5 wr w.heap.size (fun k => w.heap.size ≤ k ∧ k < w2.heap.size) (.slice (some ⟨ga, 0, none⟩) (l0.length + 4) c) ys)) (fun v58 _ => ((l0.length : Int) - intOf v58).toNat)
    case atStart => exact ⟨0, rfl, Nat.zero_le _, HB0, HKG, HRW0⟩
    case round =>
      clear HB0 HKG HRW0
      obtain ⟨i, rfl, hi, HB0, HKG, HRW0⟩ := hrel
      by_cases c1_ : i < l0.length
      · have c1b : decide ((i : Int) < (l0.length : Int)) = true := decide_eq_true (by omega)
        have p1 : (0 ≤ (i : Int)) = True := eq_true (by omega)
        have p2 : ((i : Int) < (l0.length : Int)) = True := eq_true (by omega)
        have HI : Aside0 (i < l0.length) := ⟨c1_⟩
        obtain ⟨ys, hR⟩ := HRW0.out
        obtain ⟨hc1, hf1⟩ := Kd.R_celln 0 hR (i : Int) (by omega) (by omega)
        rw [Int.toNat_natCast] at hc1 hf1
        have HR := Aside0.mk hR
        obtain ⟨z, hz⟩ : ∃ z, rdOf 0 ys (i : Int) = z := ⟨_, rfl⟩
        rw [hz] at hc1
        have HW9 : Aside0 (wrap64 ((i : Int) + 1) = ((i + 1 : Nat) : Int)) := ⟨by have := HLIM.out; unfold wrap64; omega⟩
        clear hR hz HRW0 c1_
        go_wp2_with fail
        have hrow := Kd.R_putn HR.out (i : Int) (bits BinOp.xor IntKind.u8 z 255)
        rw [Int.toNat_natCast] at hrow
        have HROW := Aside0.mk hrow
        have HB1 := Aside0.mk (HB0.out.setCell (p := ⟨ga, i, none⟩) (show w.heap.size ≤ ga from HGA.out.1) (.int .u8 (bits BinOp.xor IntKind.u8 z 255)))
        have HKG1 := Aside0.mk (kept_at1 HKG.out (p := ⟨ga, i, none⟩) rfl (.int .u8 (bits BinOp.xor IntKind.u8 z 255)))
        clear hrow
        go_roundw
        case rel => exact ⟨i + 1, (by rw [HW9.out]), HI.out, HB1, HKG1, ⟨_, HROW.out⟩⟩
        case measure => rw [HW9.out]; have := HI.out; show ((l0.length : Int) - ((i + 1 : Nat) : Int)).toNat < ((l0.length : Int) - (i : Int)).toNat; omega
      · have c1b : decide ((i : Int) < (l0.length : Int)) = false := decide_eq_false (by omega)
        have c1n : decide (i < l0.length) = false := decide_eq_false c1_
        go_wp2_with fail
        refine (Open_d KK nm HK.out.st A0 c0 l0 _ (Kd.C_below HR0.out HB0.out) HC0.out HBY.out).mono ?_
        rintro e_ w6 ⟨y, rfl, hy, hb⟩
        rw [HOS.out] at hy ⊢
        have HY := Aside0.mk hy
        have HB6 := Aside0.mk hb
        obtain ⟨A15, c15, A16, c16, e15, _⟩ := hy
        subst e15
        have HN6 := Aside0.mk (show Rws w [] w6 from ⟨fun _ q => (by simp at q), by simp, below_step HB0.out hb⟩)
        clear hb
        go_wp2_with (first | ((with_reducible refine gate_dst (N := 8) rfl ?_); refine rw_allocS rfl 29 rfl (cs := #[.slice none 0 0, .slice none 0 0]) (by kernel_rfl) HN6.out ?_; intro b8 w7 hg6 hM hb6; have HM7 := Aside0.mk hM; have HB7 := Aside0.mk hb6; have HE8 := Aside0.mk hg6; clear hg6 hM hb6) | (refine rw_storeS rfl 29 rfl rfl (cs' := #[.slice A15 ((some s).getD ⟨[], []⟩).img.length c15, .slice A16 ((some s).getD ⟨[], []⟩).L.length c16]) rfl [] HM7.out (by kernel_rfl) rfl (by show _ = _; simp [Value.oneCell']) ?_; intro w8 hM hk3; have HM8 := Aside0.mk hM; have HK8 := Aside0.mk hk3; have hc80 := blk_cell (hM.mem List.mem_cons_self) 0; have hc81 := blk_cell (hM.mem List.mem_cons_self) 1; clear hM hk3))
        have HSr := Aside0.mk (HS.out.kept HKG.out (fun k q e => by have := HGA.out.2; have := q.1; omega))
        have hk68 : Kept w6 w8 (fun _ => False) := ⟨Nat.le_trans HB7.out.size HK8.out.1, fun k hk _ => (HK8.out.2 k (by have := HB7.out.size; omega) (by have := HE8.out; omega)).trans (HB7.out.block k hk)⟩
        refine (alike_st KK nm HK.out.st HG.out ((HSr.out.step HB6.out).kept hk68 (fun k q e => e)) (HY.out.kept hk68 (fun k q e => e))).mono ?_
        rintro e_ w9 ⟨rfl, hb⟩
        have HB9 := Aside0.mk (below_step HM8.out.below hb)
        clear hb hk68
        go_wp2_with fail
        go_ret
        exact ⟨rfl, HB9.out⟩
end
end Go.Proofs.Ytfakdphkklclgaa.P

end

section
namespace Go.Proofs.Ytfakdphkklclgaa.P
open Go.RowKit Go.Proofs.YtfakdphkklclgaaW.PrintWords
def provisolaw21_StoreOpens.Pure : Prop := ∀ (l0 : List (Int)), (fun l : List (Int) => l.length ≤ 9223372036854775807 ∧ l.length * 1 ≤ 140737488351232 ∧ ∀ x ∈ l, (fun n : Int => (Lit.int .u8 n).wf = true) x) l0 → provisolaw21_StoreOpens.Facts l0
end Go.Proofs.Ytfakdphkklclgaa.P

end

section
namespace Go.Proofs.Ytfakdphkklclgaa.P
open Go.RowKit Go.Proofs.YtfakdphkklclgaaW.PrintWords Go.Proofs.YtfakdphkklclgaaW.PrintLast Go.Proofs.YtfakdphkklclgaaW.PrintMore
set_option linter.unusedVariables false
set_option linter.unusedSimpArgs false
def sgn (i c : Int) : Bool :=
  (decide (97 ≤ c) && decide (c ≤ 122)) || (decide (65 ≤ c) && decide (c ≤ 90)) || (decide (0 < i) && ((decide (48 ≤ c) && decide (c ≤ 57)) || decide (c = 95)))
def tailName (s : ByteArray) : Nat → Bool
  | 0 => true
  | d + 1 => sgn ((s.size : Int) - (d + 1)) (bt s ((s.size : Int) - (d + 1))) && tailName s d
def isNameB (s : ByteArray) : Bool := decide (1 ≤ s.size) && decide (s.size ≤ 24) && tailName s s.size
theorem name_tells (s : ByteArray) (hn : s.size ≤ 140737488351232) (d : Nat) : ∀ (k : Nat) (i : Int), 0 ≤ i → i ≤ s.size → (s.size : Int) - i = d → 3 * d < k → wire_IsName.l0 k s (s.size : Int) i = some (tailName s d) := by
  induction d with
  | zero =>
    intro k i h0 h1 hd hk
    obtain ⟨k, rfl⟩ : ∃ m, k = m + 1 := ⟨k - 1, by omega⟩
    simp only [wire_IsName.l0]; rw [if_neg (by omega)]; rfl
  | succ d ih =>
    intro k i h0 h1 hd hk
    obtain ⟨k, rfl⟩ : ∃ m, k = m + 3 := ⟨k - 3, by omega⟩
    have hlt : i < (s.size : Int) := by omega
    have hi : (s.size : Int) - (d + 1) = i := by omega
    have hw : wrap64 (i + 1) = i + 1 := by unfold wrap64; omega
    have h := ih k (i + 1) (by omega) (by omega) (by omega) (by omega)
    simp only [wire_IsName.l0, wire_IsName.j2, wire_IsName.j3, tailName, hi]
    rw [if_pos hlt, if_pos h0, if_pos hlt, hw]
    have h' : wire_IsName.l0 k s (s.size : Int) (i + 1) = some (tailName s d) := h
    rw [h']
    generalize bt s i = c
    generalize tailName s d = t
    by_cases a1 : 97 ≤ c <;> by_cases a2 : c ≤ 122 <;> by_cases a3 : 65 ≤ c <;> by_cases a4 : c ≤ 90 <;> by_cases a5 : 0 < i <;> by_cases a6 : 48 ≤ c <;> by_cases a7 : c ≤ 57 <;> by_cases a8 : c = 95 <;> (try omega) <;> simp [sgn, a1, a2, a3, a4, a5, a6, a7, a8]
theorem name_100 (s : ByteArray) : wire_IsName.f 100 s = some (isNameB s) := by
  unfold wire_IsName.f isNameB
  by_cases a1 : (s.size : Int) = 0
  · rw [if_pos a1, decide_eq_false (by omega)]
    simp [wire_IsName.j0]
  · rw [if_neg a1, decide_eq_true (by omega : 1 ≤ s.size)]
    by_cases a3 : (s.size : Int) > 24
    · rw [decide_eq_true a3, decide_eq_false (by omega : ¬ s.size ≤ 24)]
      simp [wire_IsName.j0]
    · rw [decide_eq_false a3, decide_eq_true (by omega : s.size ≤ 24)]
      have h1 := name_tells s (by omega) s.size 99 0 (by omega) (by omega) (by omega) (by omega)
      simp only [wire_IsName.j0]
      rw [if_neg (by simp)]
      rw [show wire_IsName.l0 99 s (s.size : Int) 0 = some (tailName s s.size) from h1]
      simp
theorem equal_self (xs : List Int) (hl : xs.length ≤ 9223372036854775807) : ∀ (d i k : Nat), i + d = xs.length → d < k → slices_Equal_byte_byte.l0 k xs xs (xs.length : Int) (i : Int) = some true
  | 0, i, k, hd, hk => by
    obtain ⟨k, rfl⟩ : ∃ m, k = m + 1 := ⟨k - 1, by omega⟩
    simp only [slices_Equal_byte_byte.l0]
    rw [if_neg (by omega)]
  | d + 1, i, k, hd, hk => by
    obtain ⟨k, rfl⟩ : ∃ m, k = m + 1 := ⟨k - 1, by omega⟩
    have hw : wrap64 ((i : Int) + 1) = ((i + 1 : Nat) : Int) := by unfold wrap64; omega
    have ih := equal_self xs hl d (i + 1) k (by omega) (by omega)
    simp only [slices_Equal_byte_byte.l0]
    rw [if_pos (by omega), if_pos (by omega), if_pos (by omega), if_pos (by omega), if_pos trivial, hw]
    exact ih
theorem equal_is (xs : List Int) (hl : xs.length ≤ 9223372036854775807) (k : Nat) (hk : xs.length < k) : slices_Equal_byte_byte.f k xs xs = some true := by
  unfold slices_Equal_byte_byte.f
  rw [if_pos rfl]
  exact equal_self xs hl xs.length 0 k (by omega) hk
end Go.Proofs.Ytfakdphkklclgaa.P


end

section
namespace Go.Proofs.Ytfakdphkklclgaa.Pure
open Go.RowKit Go.Proofs.Ytfakdphkklclgaa.P Go.Proofs.YtfakdphkklclgaaW.PrintWords Go.Proofs.YtfakdphkklclgaaW.PrintLast Go.Proofs.YtfakdphkklclgaaW.PrintMore
set_option linter.unusedSimpArgs false
set_option linter.unusedVariables false
theorem ref_tells (s : ByteArray) (hn : s.size ≤ 140737488351232) (d : Nat) : ∀ (k : Nat) (i : Int), 0 ≤ i → i ≤ s.size → (s.size : Int) - i = d → d < k →
    provisoref01_IsName.l0 k s i = some (tailName s d) := by
  induction d with
  | zero =>
    intro k i h0 h1 hd hk
    obtain ⟨k, rfl⟩ : ∃ m, k = m + 1 := ⟨k - 1, by omega⟩
    simp only [provisoref01_IsName.l0]; rw [if_neg (by omega)]; rfl
  | succ d ih =>
    intro k i h0 h1 hd hk
    obtain ⟨k, rfl⟩ : ∃ m, k = m + 1 := ⟨k - 1, by omega⟩
    have hlt : i < (s.size : Int) := by omega
    have hi : (s.size : Int) - (d + 1) = i := by omega
    have hw : wrap64 (i + 1) = i + 1 := by unfold wrap64; omega
    have h := ih k (i + 1) (by omega) (by omega) (by omega) (by omega)
    simp only [provisoref01_IsName.l0, tailName, hi]
    rw [if_pos hlt, if_pos h0, hw, h]
    generalize bt s i = c
    generalize tailName s d = t
    by_cases a1 : 97 ≤ c <;> by_cases a2 : c ≤ 122 <;> by_cases a3 : 65 ≤ c <;> by_cases a4 : c ≤ 90 <;> by_cases a5 : i = 0 <;> by_cases a6 : c < 48 <;> by_cases a7 : 57 < c <;> by_cases a8 : c = 95 <;> (try omega) <;> simp [sgn, a1, a2, a3, a4, a5, a6, a7, a8] <;> omega
theorem ref_100 (s : ByteArray) : provisoref01_IsName.f 100 s = some (isNameB s) := by
  unfold provisoref01_IsName.f isNameB
  by_cases a1 : (s.size : Int) < 1
  · rw [if_pos a1, decide_eq_false (by omega : ¬ 1 ≤ s.size)]
    simp [provisoref01_IsName.j0]
  · rw [if_neg a1, decide_eq_true (by omega : 1 ≤ s.size)]
    by_cases a3 : (s.size : Int) > 24
    · rw [decide_eq_true a3, decide_eq_false (by omega : ¬ s.size ≤ 24)]
      simp [provisoref01_IsName.j0]
    · rw [decide_eq_false a3, decide_eq_true (by omega : s.size ≤ 24)]
      have h1 := ref_tells s (by omega) s.size 99 0 (by omega) (by omega) (by omega) (by omega)
      simp only [provisoref01_IsName.j0]
      rw [if_neg (by simp), h1]
      simp
theorem name_K (s : ByteArray) (K : Nat) (h : 100 ≤ K) : wire_IsName.f K s = some (isNameB s) := at_rounds (wire_IsName.mono s) h (name_100 s)
theorem ref_K (s : ByteArray) (K : Nat) (h : 100 ≤ K) : provisoref01_IsName.f K s = some (isNameB s) := at_rounds (provisoref01_IsName.mono s) h (ref_100 s)
theorem seg_zero (bs : List Int) (a : Nat) : seg bs a 0 = [] := by
  unfold seg
  rw [Nat.add_zero]
  exact List.drop_of_length_le (by rw [List.length_take]; omega)
theorem seg_succ (bs : List Int) (a j : Nat) (h : a + j < bs.length) : seg bs a (j + 1) = seg bs a j ++ [rd bs ((a + j : Nat) : Int)] := by
  have hr : rd bs ((a + j : Nat) : Int) = bs[a + j] := by
    unfold rd
    rw [Int.toNat_natCast, List.getD_eq_getElem?_getD, List.getElem?_eq_getElem h]
    rfl
  unfold seg
  rw [hr, show a + (j + 1) = a + j + 1 by omega, List.take_succ_eq_append_getElem h, List.drop_append_of_le_length (by rw [List.length_take]; omega)]
theorem rd_in (bs : List Int) (h : ∀ x ∈ bs, 0 ≤ x ∧ x ≤ 255) (a : Nat) (ha : a < bs.length) : 0 ≤ rd bs (a : Int) ∧ rd bs (a : Int) ≤ 255 := by
  have hr : rd bs (a : Int) = bs[a] := by simp [rd, List.getD_eq_getElem?_getD, ha]
  rw [hr]
  exact h _ (List.getElem_mem ha)
theorem numOf_snoc (xs : List Int) (x : Int) : numOf (xs ++ [x]) = numOf xs * 256 + x := by
  unfold numOf
  rw [List.foldl_append]
  rfl
theorem num_loop (bs : List Int) (hby : ∀ x ∈ bs, 0 ≤ x ∧ x ≤ 255) (hl : bs.length ≤ 140737488351232) (a k : Nat) (hk4 : k ≤ 4) (ha : a + k ≤ bs.length) : ∀ (d j K : Nat), j + d = k → 0 ≤ numOf (seg bs a j) → numOf (seg bs a j) < 256 ^ j → provisoref01_Number.l0 (K + d + 1) bs (a : Int) (k : Int) (numOf (seg bs a j)) (j : Int) = some (valR k (seg bs a k), ((a + k : Nat) : Int), 0)
  | 0, j, K, hj, h0, h1 => by
    obtain rfl : j = k := by omega
    have w1 : wrap64 ((a : Int) + (j : Int)) = ((a + j : Nat) : Int) := by unfold wrap64; omega
    simp only [provisoref01_Number.l0]
    rw [if_neg (by omega), w1]
    unfold valR signOf
    by_cases c : j = 4
    · subst c
      rw [if_pos (by rfl), if_pos rfl]
      by_cases c2 : numOf (seg bs a 4) < 2147483648
      · rw [if_neg (by omega), if_pos c2]
      · have h2 : numOf (seg bs a 4) < 4294967296 := h1
        have w2 : wrap64 (numOf (seg bs a 4) - 4294967296) = numOf (seg bs a 4) - 4294967296 := by unfold wrap64; omega
        rw [if_pos (by omega), if_neg c2, w2]
    · rw [if_neg (by omega), if_neg c]
  | d + 1, j, K, hj, h0, h1 => by
    have hlt : a + j < bs.length := by omega
    have hr := rd_in bs hby (a + j) hlt
    have hp : (256 : Int) ^ j ≤ 16777216 := by
      have h3 : j = 0 ∨ j = 1 ∨ j = 2 ∨ j = 3 := by omega
      rcases h3 with rfl | rfl | rfl | rfl <;> decide
    have hs : numOf (seg bs a (j + 1)) = numOf (seg bs a j) * 256 + rd bs ((a + j : Nat) : Int) := by rw [seg_succ bs a j hlt, numOf_snoc]
    have h2 : 0 ≤ numOf (seg bs a (j + 1)) ∧ numOf (seg bs a (j + 1)) < 256 ^ (j + 1) := by rw [hs, Int.pow_succ]; omega
    have ih := num_loop bs hby hl a k hk4 ha d (j + 1) K (by omega) h2.1 h2.2
    have w1 : wrap64 ((a : Int) + (j : Int)) = ((a + j : Nat) : Int) := by unfold wrap64; omega
    have w2 : wrap64 ((j : Int) + 1) = ((j + 1 : Nat) : Int) := by unfold wrap64; omega
    generalize hq : numOf (seg bs a j) = q at h0 h1 hs ⊢
    generalize hz : rd bs ((a + j : Nat) : Int) = z at hr hs
    have w3 : wrap64 (q * 256) = q * 256 := by unfold wrap64; omega
    have w4 : wrap64 z = z := by unfold wrap64; omega
    have w5 : wrap64 (q * 256 + z) = q * 256 + z := by unfold wrap64; omega
    rw [show K + (d + 1) + 1 = (K + d + 1) + 1 by omega]
    unfold provisoref01_Number.l0
    rw [if_pos (by omega), w1, if_pos (by omega), if_pos (by omega), hz, w4, w3, w5, w2, ← hs]
    exact ih
theorem num_is (K k : Nat) (bs : List Int) (a : Nat) (hk : k = 1 ∨ k = 2 ∨ k = 4) (hK : 6 ≤ K) (hby : ∀ x ∈ bs, 0 ≤ x ∧ x ≤ 255) (hl : bs.length ≤ 140737488351232) (ha : a ≤ bs.length) : provisoref01_Number.f K bs (a : Int) (k : Int) = some ((numR k bs a).1, ((numR k bs a).2.1 : Int), (numR k bs a).2.2) := by
  have w1 : wrap64 ((bs.length : Int) - (a : Int)) = (bs.length : Int) - (a : Int) := by unfold wrap64; omega
  unfold provisoref01_Number.f numR
  rw [w1]
  by_cases c : bs.length < a + k
  · rw [if_pos (by omega), if_pos c]
  · rw [if_neg (by omega), if_neg c]
    obtain ⟨m, rfl⟩ : ∃ m, K = m + k + 1 := ⟨K - k - 1, by omega⟩
    have h := num_loop bs hby hl a k (by omega) (by omega) k 0 m (by omega)
    rw [seg_zero] at h
    exact h (by decide) (by decide)
theorem take_loop (bs : List Int) (hl : bs.length ≤ 140737488351232) (a n : Nat) (ha : a + n ≤ bs.length) : ∀ (d j K : Nat), j + d = n → provisoref01_Take.l0 (K + d + 1) bs (a : Int) (n : Int) (seg bs a j) (j : Int) = some (seg bs a n, ((a + n : Nat) : Int), 0)
  | 0, j, K, hj => by
    obtain rfl : j = n := by omega
    have w1 : wrap64 ((a : Int) + (j : Int)) = ((a + j : Nat) : Int) := by unfold wrap64; omega
    simp only [provisoref01_Take.l0]
    rw [if_neg (by omega), w1]
  | d + 1, j, K, hj => by
    have hlt : a + j < bs.length := by omega
    have hs := seg_succ bs a j hlt
    have ih := take_loop bs hl a n ha d (j + 1) K (by omega)
    have w1 : wrap64 ((a : Int) + (j : Int)) = ((a + j : Nat) : Int) := by unfold wrap64; omega
    have w2 : wrap64 ((j : Int) + 1) = ((j + 1 : Nat) : Int) := by unfold wrap64; omega
    have hsl : (seg bs a j).length = j := seg_len bs a j (by omega)
    rw [show K + (d + 1) + 1 = (K + d + 1) + 1 by omega]
    unfold provisoref01_Take.l0
    rw [if_pos (by omega), w1, if_pos (by omega), if_pos (by omega), hsl, if_pos (by omega), w2, ← hs]
    exact ih
theorem take_is (K : Nat) (bs : List Int) (a : Nat) (n : Int) (hK : 140737488355328 ≤ K) (hl : bs.length ≤ 140737488351232) (ha : a ≤ bs.length) : provisoref01_Take.f K bs (a : Int) n = some ((takeR bs a n).1, ((takeR bs a n).2.1 : Int), (takeR bs a n).2.2) := by
  have w1 : wrap64 ((bs.length : Int) - (a : Int)) = (bs.length : Int) - (a : Int) := by unfold wrap64; omega
  unfold provisoref01_Take.f takeR
  by_cases c : n < 0
  · rw [if_pos c, if_pos c]
  · rw [if_neg c, if_neg c, w1]
    by_cases c2 : n > (bs.length : Int) - (a : Int)
    · rw [if_pos (by omega), if_pos c2]
    · rw [if_neg (by omega), if_neg c2]
      obtain ⟨k, rfl⟩ : ∃ k : Nat, n = (k : Int) := ⟨n.toNat, by omega⟩
      rw [Int.toNat_natCast]
      obtain ⟨m, rfl⟩ : ∃ m, K = m + k + 1 := ⟨K - k - 1, by omega⟩
      have h := take_loop bs hl a k (by omega) k 0 m (by omega)
      rw [seg_zero] at h
      exact h
theorem rd_facts (K : Nat) (hK : 140737488355328 ≤ K) : RdFacts K isNameB := ⟨fun k bs a hk hby hl ha => num_is K k bs a hk (by omega) hby hl ha, fun bs a n _ hl ha => take_is K bs a n hK hl ha, fun s => name_K s K (by omega), fun s => ref_K s K (by omega), fun xs hl => equal_is xs (by omega) K (by omega)⟩

theorem isName_siz (x : ByteArray) (h : isNameB x = true) : 1 ≤ x.size ∧ x.size ≤ 24 := by
  unfold isNameB at h
  simp only [Bool.and_eq_true, decide_eq_true_eq] at h
  omega
theorem pos_le (x : ByteArray) (L : List S101) : posL x L ≤ L.length := by unfold posL; exact (List.takeWhile_sublist _).length_le
theorem place_step (x : ByteArray) (k : S101) (l : List S101) (h : lessB k.f0 x = true) : posL x (k :: l) = posL x l + 1 := by
  unfold posL
  rw [List.takeWhile_cons_of_pos (p := fun k : S101 => lessB k.f0 x) h]
  rfl
theorem place_stop (x : ByteArray) (k : S101) (l : List S101) (h : ¬ lessB k.f0 x = true) : posL x (k :: l) = 0 := by
  unfold posL
  rw [List.takeWhile_cons_of_neg (p := fun k : S101 => lessB k.f0 x) h]
  rfl
theorem place_loop (x : ByteArray) : ∀ (d : Nat) (pre L : List S101) (k : Nat), L.length = d → (pre ++ L).length ≤ 1000 → d < k → Srt L → provisoref21_place.l0 k (pre ++ L) x (pre.length : Int) = some (((pre.length + posL x L : Nat) : Int), (lkL L x).isSome) := by
  intro d
  induction d with
  | zero =>
    intro pre L k hd hl hk _
    obtain ⟨k, rfl⟩ : ∃ m, k = m + 1 := ⟨k - 1, by omega⟩
    have e : L = [] := List.length_eq_zero_iff.1 hd
    subst e
    simp only [provisoref21_place.l0]
    rw [if_neg (by simp)]
    simp [posL, lkL]
  | succ d ih =>
    intro pre L k hd hl hk hs
    obtain ⟨k, rfl⟩ : ∃ m, k = m + 1 := ⟨k - 1, by omega⟩
    cases L with
    | nil => cases hd
    | cons a l =>
      have hl' : l.length = d := by simpa using hd
      rw [List.length_append, List.length_cons] at hl
      have hrd : rd_T101 (pre ++ a :: l) (pre.length : Int) = a := by
        unfold rd_T101
        rw [Int.toNat_natCast, List.getD_eq_getElem?_getD, List.getElem?_append_right (Nat.le_refl _), Nat.sub_self]
        rfl
      simp only [provisoref21_place.l0]
      rw [if_pos (by simp; omega), if_pos (by omega), hrd]
      by_cases c : lessB a.f0 x = true
      · rw [if_pos (show Op.bytesLess a.f0.toList x.toList = true from c)]
        have hw : wrap64 ((pre.length : Int) + 1) = ((pre ++ [a]).length : Int) := by
          rw [List.length_append, List.length_singleton]
          unfold wrap64
          omega
        have h := ih (pre ++ [a]) l k hl' (by simp; omega) (by omega) (List.pairwise_cons.1 hs).2
        rw [List.append_assoc, List.singleton_append] at h
        rw [hw, h, place_step x a l c]
        have hne : a.f0 ≠ x := fun e => by rw [e, lessB_irr] at c; cases c
        conv => rhs; unfold lkL
        rw [if_neg hne]
        simp; omega
      · rw [if_neg (show ¬ Op.bytesLess a.f0.toList x.toList = true from c), place_stop x a l c]
        by_cases c2 : a.f0 = x
        · rw [c2]
          conv => rhs; unfold lkL
          rw [if_pos c2]
          simp
        · rw [srt_head hs c c2]
          have : (a.f0.toList == x.toList) = false := beq_eq_false_iff_ne.mpr (fun e => c2 (data_inj (by rw [← Lib.toList_data, ← Lib.toList_data]; exact e)))
          rw [this]
          rfl
theorem place_is (K : Nat) (hK : 2000 ≤ K) (L : List S101) (x : ByteArray) (hl : L.length ≤ 17) (hs : Srt L) : provisoref21_place.f K L x = some ((posL x L : Int), (lkL L x).isSome) := by
  have h := place_loop x L.length [] L K rfl (by simpa using by omega) (by omega) hs
  unfold provisoref21_place.f
  simpa using h
theorem put_take (x : ByteArray) (b : List Int) (L : List S101) : putL x b L = L.take (posL x L) ++ [⟨x, b⟩] ++ (match L.drop (posL x L) with | [] => [] | k :: l => if k.f0 = x then l else k :: l) := by
  induction L with
  | nil => rfl
  | cons k l ih =>
    unfold putL
    by_cases c : lessB k.f0 x = true
    · rw [if_pos c, place_step x k l c, ih]
      simp
    · rw [if_neg c, place_stop x k l c]
      simp only [List.take_zero, List.drop_zero, List.nil_append, List.singleton_append]
      split <;> rfl
theorem cut_take (x : ByteArray) (L : List S101) : cutL x L = L.take (posL x L) ++ (match L.drop (posL x L) with | [] => [] | k :: l => if k.f0 = x then l else k :: l) := by
  induction L with
  | nil => rfl
  | cons k l ih =>
    unfold cutL
    by_cases c : lessB k.f0 x = true
    · rw [if_pos c, place_step x k l c, ih]
      simp
    · rw [if_neg c, place_stop x k l c]
      simp only [List.take_zero, List.drop_zero, List.nil_append]
      try (split <;> rfl)
theorem drop_pos (x : ByteArray) (L : List S101) (hs : Srt L) : (match L.drop (posL x L) with | [] => [] | k :: l => if k.f0 = x then l else k :: l) = if (lkL L x).isSome = true then L.drop (posL x L + 1) else L.drop (posL x L) := by
  induction L with
  | nil => simp [posL, lkL]
  | cons k l ih =>
    by_cases c : lessB k.f0 x = true
    · rw [place_step x k l c]
      have hne : k.f0 ≠ x := fun e => by rw [e, lessB_irr] at c; cases c
      have h := ih (List.pairwise_cons.1 hs).2
      conv => rhs; unfold lkL
      rw [if_neg hne]
      simpa using h
    · rw [place_stop x k l c]
      by_cases c2 : k.f0 = x
      · conv => rhs; unfold lkL
        rw [if_pos c2]
        simp [c2]
      · rw [srt_head hs c c2]
        simp [c2]
theorem there_lt (x : ByteArray) (L : List S101) (h : (lkL L x).isSome = true) (hs : Srt L) : posL x L < L.length := by
  induction L with
  | nil => cases h
  | cons k l ih =>
    by_cases c : lessB k.f0 x = true
    · have hne : k.f0 ≠ x := fun e => by rw [e, lessB_irr] at c; cases c
      unfold lkL at h
      rw [if_neg hne] at h
      rw [place_step x k l c]
      have := ih h (List.pairwise_cons.1 hs).2
      simpa using this
    · rw [place_stop x k l c]
      simp
theorem with_is (K : Nat) (hK : 2000 ≤ K) (L : List S101) (x : ByteArray) (b : List Int) (hl : L.length ≤ 17) (hs : Srt L) : provisoref21_with.f K L x b = some (putL x b L) := by
  have hp := pos_le x L
  have hw : wrap64 ((posL x L : Int) + 1) = ((posL x L + 1 : Nat) : Int) := by unfold wrap64; omega
  unfold provisoref21_with.f
  rw [place_is K hK L x hl hs, put_take x b L, drop_pos x L hs]
  simp only [Option.bind_some, hw, Int.toNat_natCast]
  rw [if_pos (by omega), if_pos (by omega), if_pos (by simp; omega), if_pos (by simp; omega)]
  by_cases c : (lkL L x).isSome = true
  · have := there_lt x L c hs
    rw [if_pos c, if_pos c, if_pos (by omega), if_pos (by omega), if_pos (by simp; omega)]
    simp
  · rw [if_neg c, if_neg c, if_pos (by simp; omega)]
    simp
theorem without_is (K : Nat) (hK : 2000 ≤ K) (L : List S101) (x : ByteArray) (hl : L.length ≤ 17) (hs : Srt L) : provisoref21_without.f K L x = some (cutL x L) := by
  have hp := pos_le x L
  have hw : wrap64 ((posL x L : Int) + 1) = ((posL x L + 1 : Nat) : Int) := by unfold wrap64; omega
  unfold provisoref21_without.f
  rw [place_is K hK L x hl hs, cut_take x L, drop_pos x L hs]
  simp only [Option.bind_some, hw, Int.toNat_natCast]
  rw [if_pos (by omega), if_pos (by omega), if_pos (by simp; omega)]
  by_cases c : (lkL L x).isSome = true
  · have := there_lt x L c hs
    rw [if_pos c, if_pos c, if_pos (by omega), if_pos (by omega), if_pos (by simp; omega)]
    simp
  · rw [if_neg c, if_neg c, if_pos (by simp; omega)]
    simp
theorem eqs_loop (xs : List ByteArray) (hl : xs.length ≤ 1000) : ∀ (d i k : Nat), xs.length - i = d → i ≤ xs.length → d < k → slices_Equal_string_string.l0 k xs xs (xs.length : Int) (i : Int) = some true := by
  intro d
  induction d with
  | zero =>
    intro i k hd hi hk
    obtain ⟨k, rfl⟩ : ∃ m, k = m + 1 := ⟨k - 1, by omega⟩
    simp only [slices_Equal_string_string.l0]
    rw [if_neg (by omega)]
  | succ d ih =>
    intro i k hd hi hk
    obtain ⟨k, rfl⟩ : ∃ m, k = m + 1 := ⟨k - 1, by omega⟩
    have hw : wrap64 ((i : Int) + 1) = ((i + 1 : Nat) : Int) := by unfold wrap64; omega
    simp only [slices_Equal_string_string.l0]
    rw [if_pos (by omega), if_pos (by omega), if_pos (by omega), if_pos (by omega), hw]
    simpa using ih (i + 1) k (by omega) (by omega) (by omega)
theorem eqs_is (K : Nat) (hK : 2000 ≤ K) (xs : List ByteArray) (hl : xs.length ≤ 17) : slices_Equal_string_string.f K xs xs = some true := by
  unfold slices_Equal_string_string.f
  rw [if_pos rfl]
  exact eqs_loop xs (by omega) xs.length 0 K (by omega) (by omega) (by omega)
theorem wr_loop (xs : List S52) (hl : xs.length ≤ 2) (hx : ∀ x ∈ xs, x.f1.length ≤ 2097152) : ∀ (d i k : Nat), xs.length - i = d → i ≤ xs.length → d + 2097160 < k → provisoplain_SameWrites.l0 k xs xs (xs.length : Int) (i : Int) = some true := by
  intro d
  induction d with
  | zero =>
    intro i k hd hi hk
    obtain ⟨k, rfl⟩ : ∃ m, k = m + 1 := ⟨k - 1, by omega⟩
    simp only [provisoplain_SameWrites.l0]
    rw [if_neg (by omega)]
  | succ d ih =>
    intro i k hd hi hk
    obtain ⟨k, rfl⟩ : ∃ m, k = m + 1 := ⟨k - 1, by omega⟩
    have hw : wrap64 ((i : Int) + 1) = ((i + 1 : Nat) : Int) := by unfold wrap64; omega
    have hm : (rd_T52 xs (i : Int)).f1.length ≤ 2097152 := by
      unfold rd_T52
      rw [Int.toNat_natCast, List.getD_eq_getElem?_getD, List.getElem?_eq_getElem (by omega)]
      exact hx _ (List.getElem_mem _)
    simp only [provisoplain_SameWrites.l0]
    rw [if_pos (by omega), if_pos (by omega), if_pos (by omega), if_pos (by omega), equal_is _ (by omega) k (by omega), hw]
    simpa using ih (i + 1) k (by omega) (by omega) (by omega)
theorem wr_is (K : Nat) (hK : 2097200 ≤ K) (xs : List S52) (hl : xs.length ≤ 2) (hx : ∀ x ∈ xs, x.f1.length ≤ 2097152) : provisoplain_SameWrites.f K xs xs = some true := by
  unfold provisoplain_SameWrites.f
  rw [if_pos rfl]
  exact wr_loop xs hl hx xs.length 0 K (by omega) (by omega) (by omega)
theorem st_facts : StFacts 140737488355328 isNameB := ⟨rd_facts _ (Nat.le_refl _), isName_siz, fun L x h1 h2 => place_is _ (by omega) L x h1 h2, fun L x b h1 h2 => with_is _ (by omega) L x b h1 h2, fun L x h1 h2 => without_is _ (by omega) L x h1 h2, fun xs h => eqs_is _ (by omega) xs h, fun ws h1 h2 => wr_is _ (by omega) ws h1 h2⟩
theorem l_facts : LFacts 140737488355328 isNameB := ⟨st_facts, fun l hl => untouched_is l (by omega) _ (by omega)⟩
end Go.Proofs.Ytfakdphkklclgaa.Pure

end

section
namespace Go.Proofs.Ytfakdphkklclgaa.Pure
open Go.RowKit Go.Proofs.Ytfakdphkklclgaa.P Go.Proofs.YtfakdphkklclgaaW.PrintWords Go.Proofs.YtfakdphkklclgaaW.PrintLast Go.Proofs.YtfakdphkklclgaaW.PrintMore
set_option linter.unusedSimpArgs false
set_option linter.unusedVariables false
theorem StoreOpens : provisolaw21_StoreOpens.Pure := by
  intro l0 h0
  refine ⟨⟨140737488355328, isNameB, l_facts⟩, by have := h0.2.1; omega, fun x hx => ?_⟩
  have := h0.2.2 x hx
  simp [Lit.wf, IntKind.min, IntKind.max, IntKind.signed, IntKind.bits] at this
  omega
end Go.Proofs.Ytfakdphkklclgaa.Pure

end

section
namespace Go.Proofs.Ytfakdphkklclgaa.storeOpens
open Go.ChangeShapes Go.WideShapes Go.ChangeAt Go.RowKit Go.Proofs.YtfakdphkklclgaaW.PrintWords Go.Proofs.Ytfakdphkklclgaa.Sees Go.Proofs.Ytfakdphkklclgaa.P
open Go.ChangeMaps (open_string shut_string)
set_option linter.unusedVariables false
set_option linter.unusedSimpArgs false
theorem own : ownKnob Try.prog.godebug = none := by kernel_rfl
theorem laidOut : laidOutB Try.prog = true := by kernel_rfl
set_option maxRecDepth 100000 in
theorem lifted (os : Os) (started : os.Started) (H : Type) (enc : TypeId × Value → H) :
    ReturnsInHanded {} Try.checked os 6 .any (Rows.storeOpensSpec.pre6 enc Try.prog Try.f6 Rows.storeOpensRow.domain false) (Rows.storeOpensSpec.post enc Try.prog Try.f6 false true false false) := by
  refine returnsInHanded_of_change_sized (C := Try.checked) own started (by kernel_rfl) Try.func6
    (ChangeSpec.witness6 (enc := enc) (C := Try.checked) false ⟨#[], #[.slice none 0 0], []⟩ 8 (by kernel_rfl) (by kernel_rfl) (by kernel_rfl) (by kernel_rfl)) ?_
  intro W base args ds gs before hval0 hW hcnd hsz0 _
  have hsz : (DataW.weightsEach Try.prog (Try.f6.params.toList ++ Rows.storeOpensSpec.plain.varTypes Try.prog) (ds ++ gs)).all (· ≤ reachBytes) = true := hsz0
  have hval : ∀ (j : Nat) t v, Try.f6.params[j]? = some t → args[j]? = some v → Value.okWide Try.prog W .any base t v := hval0
  have hW' := hW
  obtain ⟨p, q, hA0, hV, rfl, hfz, hnd⟩ := hW
  have hA : DataW.TrodAll enc Try.prog W 0 (fun _ => true) true Try.f6.params.toList args.toList ds p := hA0
  rw [Try.params6] at hA hval hsz
  obtain ⟨v0, vs0, d0, ds0, p0, q0, hargs, rfl, rfl, h0, r0⟩ := trodAll_cons hA
  obtain ⟨rfl, rfl, rfl⟩ := trodAll_nil r0
  obtain rfl : args = #[v0] := by cases args; simp_all
  obtain ⟨rfl, rfl⟩ := trodVars_none hV
  have k0 := h0
  have lt0 : ∀ x ∈ p0, x.block < W.heap.size := by obtain ⟨m, hm⟩ := k0; exact DataW.trod_lt m _ _ _ hm
  obtain ⟨y0, hy0, oy0⟩ := see_arg (j := 0) (t := 23) (sees_slice (B := 1) Try.underlying23 (by kernel_rfl) (by kernel_rfl) (sees_int Try.underlying5)) hsz rfl rfl h0
  obtain ⟨a0, len0, cap0, rfl⟩ := okWide_slice Try.underlying23 (hval 0 23 v0 rfl rfl)
  obtain ⟨rfl, hc0, hr0⟩ := see_slice rfl hy0
  clear hA0 hval0 hsz0 hsz
  have hk := Pure.StoreOpens y0 oy0
  refine (provisolaw21_StoreOpens.calls _ _ y0 W hr0 hc0 hk).mono ?_
  rintro e W' ⟨rfl, bel0⟩
  have bel : Below W.heap.size W W' := bel0
  exact ⟨_, rfl, _, _, _, [], _, [], hW', trodAll_mk1 (shut_bool Try.underlying4 _), (trodAll_cons_mk (Below.trod laidOut (by kernel_rfl) (of_decide_eq_true (by kernel_rfl)) k0 bel lt0) trodAll_mk0), rfl, bel.frame _, fun h => by cases h⟩
theorem over : Rows.storeOpensRow.holds Try.pinned (OpenSpec.ofChange Rows.storeOpensSpec) :=
  OpenClaim.holds_of_wide 6 Try.f6 rfl rfl rfl rfl rfl rfl rfl ⟨rfl, rfl, rfl, rfl, rfl⟩ rfl rfl rfl rfl rfl (by kernel_rfl) Try.func6 (by kernel_rfl)
    (of_decide_eq_true (by kernel_rfl)) (by unfold Func.isWrapper; first | (rw [if_pos (by decide +kernel)]; kernel_rfl) | (rw [if_neg (by decide +kernel)]; exact ⟨rfl, rfl⟩))
    (fun os started H enc _ => lifted os started H enc)
theorem proved : Rows.StoreOpensSaid := over
end Go.Proofs.Ytfakdphkklclgaa.storeOpens
namespace Go.Proofs.Ytfakdphkklclgaa
theorem storeOpens_holds : Rows.StoreOpensSaid := storeOpens.proved
end Go.Proofs.Ytfakdphkklclgaa

end

