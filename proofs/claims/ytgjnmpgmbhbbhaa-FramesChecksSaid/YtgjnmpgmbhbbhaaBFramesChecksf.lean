/- Proved: the law FramesChecks holds for every input that the row lets in. No condition of ours. -/
import Derived.Test.YtgjnmpgmbhbbhaaBFramesCheckse
import Derived.Test.YtgjnmpgmbhbbhaaRows
import Derived.ShutString
import Derived.ChangeOld
import Derived.Lib.SmallJoins
section
namespace Go.Proofs.Ytgjnmpgmbhbbhaa.P
open Go.RowKit Go.Proofs.YtgjnmpgmbhbbhaaW.PrintWords Go.Proofs.YtgjnmpgmbhbbhaaW.PrintLast Go.Proofs.YtgjnmpgmbhbbhaaW.PrintMore
attribute [local go_sem] max2_int min2_int max_two min_two max_three min_three max_four min_four   -- for this text's walks alone
set_option linter.unusedVariables false
set_option linter.unusedSimpArgs false

open Go.Shelf
theorem Try.lays156 : Go.Proofs.Lays.n156 Try.prog Try.lays156_ren := {
  mixed := by kernel_rfl
  f156 := Try.func58.trans (congrArg some (by kernel_rfl))
  f165 := Try.func71.trans (congrArg some (by kernel_rfl))
  f166 := Try.func72.trans (congrArg some (by kernel_rfl))
  f169 := Try.func73.trans (congrArg some (by kernel_rfl))
  f240 := Try.func82.trans (congrArg some (by kernel_rfl))
  f241 := Try.func83.trans (congrArg some (by kernel_rfl))
  f276 := Try.func84.trans (congrArg some (by kernel_rfl))
  f277 := Try.func85.trans (congrArg some (by kernel_rfl))
  t0 := Try.underlying0
  a0 := Try.isAgg0
  z0 := Try.sizeOf0
  v0 := Try.zeroValue0
  t3 := Try.underlying3
  a3 := Try.isAgg3
  z3 := Try.sizeOf3
  v3 := Try.zeroValue3
  t4 := Try.underlying4
  a4 := Try.isAgg4
  z4 := Try.sizeOf4
  v4 := Try.zeroValue4
  t9 := Try.underlying9
  a9 := Try.isAgg9
  z9 := Try.sizeOf9
  v9 := Try.zeroValue9
  t20 := Try.underlying20
  a20 := Try.isAgg20
  z20 := Try.sizeOf20
  v20 := Try.zeroValue20
  t31 := Try.underlying71
  a31 := Try.isAgg71
  z31 := Try.sizeOf71
  v31 := Try.zeroValue71
  t37 := Try.underlying85
  a37 := Try.isAgg85
  z37 := Try.sizeOf85
  v37 := Try.zeroValue85
  t70 := Try.underlying84
  a70 := Try.isAgg84
  z70 := Try.sizeOf84
  v70 := Try.zeroValue84
  t72 := Try.underlying87
  a72 := Try.isAgg87
  z72 := Try.sizeOf87
  v72 := Try.zeroValue87
  t75 := Try.underlying90
  a75 := Try.isAgg90
  z75 := Try.sizeOf90
  v75 := Try.zeroValue90
  t76 := Try.underlying91
  a76 := Try.isAgg91
  z76 := Try.sizeOf91
  v76 := Try.zeroValue91
  t127 := Try.underlying98
  a127 := Try.isAgg98
  z127 := Try.sizeOf98
  v127 := Try.zeroValue98
  t164 := Try.underlying99
  a164 := Try.isAgg99
  z164 := Try.sizeOf99
  v164 := Try.zeroValue99 }
theorem Try.Builder_Extra_156 : Builder.Extra Try.prog Try.lays156_ren := {
  sizeBuilder := by kernel_rfl
  liesBuilder := by kernel_rfl
  t5 := Try.underlying5
  a5 := Try.isAgg5
  z5 := Try.sizeOf5
  v5 := Try.zeroValue5
  infoByte := by kernel_rfl
  cellsByte := by kernel_rfl
  sizeByte := by kernel_rfl
  neB5 := by decide }
open Go.RowKit in
theorem Try.strings_Join_none (a : Option Addr) (c : Nat) (sep : ByteArray) (w : World) :
    Calls Try.prog 58 #[.slice a 0 c, .string sep] w fun e w' => e = .returned (.string ⟨#[]⟩) ∧ w' = w := Any.strings_Join_none Try.lays156 Try.Builder_Extra_156 a c sep w
open Go.RowKit in
theorem Try.strings_Join (bk o c : Nat) (xs : List ByteArray) (sep : ByteArray) (w : World) (hcells : ∀ (j : Nat) x, xs[j]? = some x → w.cell? ⟨bk, o + j, none⟩ = some (.string x)) (hbk : bk < w.heap.size) (hN : xs.length ≤ 140737488355328) (hcap : xs.length ≤ c) (hlen : (Lib.join (xs.map (·.data.toList)) sep.data.toList).length ≤ 140737488355328) :
    Calls Try.prog 58 #[.slice (some ⟨bk, o, none⟩) xs.length c, .string sep] w fun e w' => e = .returned (.string ⟨(Lib.join (xs.map (·.data.toList)) sep.data.toList).toArray⟩) ∧ Below w.heap.size w w' := Any.strings_Join Try.lays156 Try.Builder_Extra_156 bk o c xs sep w hcells hbk hN hcap hlen
def joinB (xs : List ByteArray) : ByteArray := ⟨(Lib.join (xs.map (·.data.toList)) (ByteArray.mk #[32]).data.toList).toArray⟩
theorem join_small (xs : List ByteArray) (hN : xs.length ≤ 24) (h : ∀ x ∈ xs, x.size ≤ 24) : (Lib.join (xs.map (·.data.toList)) (ByteArray.mk #[32]).data.toList).length ≤ 600 := by
  have key : ∀ r : List ByteArray, (∀ x ∈ r, x.size ≤ 24) → Lib.lens (r.map (·.data.toList)) ≤ 24 * r.length := by
    intro r
    induction r with
    | nil => intro _; simp [Lib.lens]
    | cons y r ih =>
      intro hr
      have h1 := ih (fun x hx => hr x (List.mem_cons_of_mem _ hx))
      have h2 := hr y List.mem_cons_self
      have h3 : y.data.toList.length = y.size := by rw [Array.length_toList]; rfl
      simp only [Lib.lens, List.map_cons, List.sum_cons, List.length_cons] at h1 ⊢
      omega
  cases xs with
  | nil => simp [Lib.join_nil]
  | cons y r =>
    have h1 := key r (fun x hx => h x (List.mem_cons_of_mem _ hx))
    have h2 := h y List.mem_cons_self
    have h3 : y.data.toList.length = y.size := by rw [Array.length_toList]; rfl
    have h4 : (ByteArray.mk #[32]).data.toList.length = 1 := rfl
    rw [List.map_cons, Lib.join_cons, List.length_append, Lib.joinTail_length, h4, List.length_map]
    simp only [List.length_cons] at hN
    omega
theorem join_at (A : Option Addr) (m c : Nat) (xs : List ByteArray) (w : World) (hm : xs.length = m) (hA : xs ≠ [] → ∃ b o, A = some ⟨b, o, none⟩ ∧ b < w.heap.size ∧ ∀ (j : Nat) x, xs[j]? = some x → w.cell? ⟨b, o + j, none⟩ = some (.string x)) (hc : m ≤ c) (hN : m ≤ 24) (h : ∀ x ∈ xs, x.size ≤ 24) :
    Calls Try.prog 58 #[.slice A m c, .string ⟨#[32]⟩] w fun e w' => e = .returned (.string (joinB xs)) ∧ Below w.heap.size w w' := by
  subst hm
  cases xs with
  | nil => exact (Try.strings_Join_none A c _ w).mono (by rintro e w' ⟨he, rfl⟩; exact ⟨he, Below.refl _ _⟩)
  | cons y r =>
    obtain ⟨b, o, rfl, hb, hcell⟩ := hA (by simp)
    exact Try.strings_Join b o c (y :: r) ⟨#[32]⟩ w hcell hb (by omega) hc (Nat.le_trans (join_small _ hN h) (by decide))

end Go.Proofs.Ytgjnmpgmbhbbhaa.P

end

section
namespace Go.Proofs.Ytgjnmpgmbhbbhaa.P
open Go.RowKit Go.Proofs.YtgjnmpgmbhbbhaaW.PrintWords Go.Proofs.YtgjnmpgmbhbbhaaW.PrintLast Go.Proofs.YtgjnmpgmbhbbhaaW.PrintMore
attribute [local go_sem] max2_int min2_int max_two min_two max_three min_three max_four min_four   -- for this text's walks alone
set_option linter.unusedVariables false
set_option linter.unusedSimpArgs false

def printS (vb : Int → Bool) (ps : Int → ByteArray) (f : Fr) : ByteArray × Int := if checkS vb f = 0 then (⟨#[91]⟩ ++ joinB (((f.sl.take (f.loc + f.hgt).toNat).map ps).take f.loc.toNat) ++ ⟨#[32, 124, 32]⟩ ++ joinB (((f.sl.take (f.loc + f.hgt).toNat).map ps).drop f.loc.toNat) ++ ⟨#[93]⟩, 0) else (⟨#[]⟩, checkS vb f)
theorem joinB_small (xs : List ByteArray) (hN : xs.length ≤ 24) (h : ∀ x ∈ xs, x.size ≤ 24) : (joinB xs).size ≤ 600 := join_small xs hN h
theorem words_at {W : World} {base n c : Nat} {A : Option Addr} {ws : List ByteArray} (h : Kd.R Kd.string 9 W base (fun _ => True) (.slice A n c) ws) : (ws = [] ∧ n = 0 ∧ A = none ∧ c = 0) ∨ ∃ b, A = some ⟨b, 0, none⟩ ∧ b < W.heap.size ∧ n ≤ c ∧ ∀ (j : Nat) x, ws[j]? = some x → W.cell? ⟨b, j, none⟩ = some (.string x) := by
  obtain ⟨inner, h1⟩ := Kd.R_own h
  obtain ⟨hn, hc, hC⟩ := Kd.R_reads' h
  rcases h1.2 with ⟨he, hx⟩ | ⟨g, cap, cur, he, hg, hh, r⟩
  · injection he with e1 e2 e3
    subst e1 e2 e3
    exact .inl ⟨List.length_eq_zero_iff.1 hn.symm, rfl, rfl, rfl⟩
  · injection he with e1 e2 e3
    subst e1 e3
    refine .inr ⟨g, rfl, (by have := Array.getElem?_eq_some_iff.1 hh; exact this.1), hc, fun j x hj => ?_⟩
    have hl : j < ws.length := (List.getElem?_eq_some_iff.1 hj).1
    obtain ⟨ad, e4, hcell⟩ := hC.2.2 (by omega)
    injection e4 with e4
    subst e4
    obtain ⟨cs, hcl, hK, hu⟩ := hcell j x hj
    have hK : cs = [.string x] := hK
    have := hu 0 (.string x) (by rw [hK]; rfl)
    simp [Addr.add, Kd.string, Kd.scalar] at this
    by_cases hj0 : j = 0
    · subst hj0; exact this
    · rw [if_neg hj0] at this; exact this
set_option maxHeartbeats 3200000 in
set_option maxRecDepth 100000 in
theorem Print_calls (A0 : Option Addr) (c0 : Nat) (l0 : List S59) (f : Fr) (hf : f.ok) (vb : Int → Bool) (ps : Int → ByteArray) (w : World) (hr0 : Kd.C k59 w A0 l0.length l0) (hc0 : l0.length ≤ c0) (hv : ∀ t ∈ f.sl, types_Valid.f l0 t = some (vb t)) (hps : ∀ t ∈ f.sl, types_Print.f l0 t = some (ps t) ∧ (ps t).size ≤ 24) : Calls Try.prog 38 #[.slice A0 l0.length c0, .agg f.a] w fun e w' => e = .returned (.tuple #[.string (printS vb ps f).1, .int .i64 (printS vb ps f).2]) ∧ Below w.heap.size w w' := by
  have HF := Aside0.mk hf
  have HR0 := Aside0.mk hr0
  have HC0 := Aside0.mk hc0
  have HV := Aside0.mk hv
  have HPS := Aside0.mk hps
  have HA := Aside0.mk (Frs.nil w)
  obtain ⟨ea, hea⟩ : ∃ ea, checkS vb f = ea := ⟨_, rfl⟩
  have HEA := Aside0.mk hea
  clear hf hr0 hc0 hv hps hea
  by_cases z1 : ea = 0
  · subst z1
    obtain ⟨L, H, sl, rfl, hL, hLH⟩ := Fr.shp_nat (checkS_shp HEA.out)
    have HLEN : Aside0 (sl.length = 24) := ⟨HF.out⟩
    obtain ⟨n, hnn⟩ : ∃ n, n = L + H := ⟨_, rfl⟩
    have hs1 : (L : Int) + (H : Int) = (n : Int) := by omega
    have hw1 : wrap64 (n : Int) = (n : Int) := by unfold wrap64; omega
    have q1 : (0 ≤ (n : Int)) = True := eq_true (by omega)
    have q2 : ((n : Int) ≤ 24) = True := eq_true (by omega)
    have HN := Aside0.mk hnn
    have HLE : Aside0 (n ≤ 24) := ⟨by omega⟩
    clear hnn
    go_enter Try.func38, Try.ntmps38
    go_wp2_with (first | ((with_reducible refine gate_dst (N := 3) rfl ?_); refine fr_box rfl rfl (f := (⟨(L : Int), (H : Int), sl⟩ : Fr)) rfl HF.out HA.out ?_; intro gp w_ hA; (try simp only [List.cons_append, List.nil_append] at hA); replace HA := Aside0.mk hA; clear hA) | (refine fr_load rfl rfl rfl HA.out List.mem_cons_self ?_))
    have hcall := Check_calls A0 c0 l0 (⟨(L : Int), (H : Int), sl⟩ : Fr) HF.out vb w_ (Kd.C_below HR0.out HA.out.below) HC0.out HV.out
    rw [HEA.out] at hcall
    refine hcall.mono ?_
    clear hcall
    rintro e w_ ⟨rfl, hb⟩
    replace HA := Aside0.mk (HA.out.step hb)
    clear hb
    go_wp2_with (first | (refine fr_load0 rfl rfl rfl HA.out List.mem_cons_self ?_) | (refine fr_load1 rfl rfl rfl HA.out List.mem_cons_self ?_))
    have HB := Aside0.mk (Below.refl w_.heap.size w_)
    have HO := Aside0.mk (Kd.R_nil Kd.string 9 w_ w_.heap.size (fun _ => True))
    go_loopw [24, 7, 9] (fun v24 v7 v9 wr => ∃ (i : Nat) (A : Option Addr) (c : Nat), v24 = .int .i64 (i : Int) ∧ i ≤ n ∧ v7 = .slice A i c ∧ Aside0 (Kd.R Kd.string 9 wr w_.heap.size (fun _ => True) (.slice A i c) ((sl.take i).map ps)) ∧ Aside0 (Below w_.heap.size w_ wr)) (fun v24 _ _ _ => ((n : Int) - intOf v24).toNat)
    case atStart => exact ⟨0, none, 0, rfl, Nat.zero_le _, rfl, HO, HB⟩
    case round =>
      obtain ⟨i, Av, cv, rfl, hi, rfl, HO, HB⟩ := hrel
      replace HA := Aside0.mk (HA.out.step HB.out)
      by_cases c1 : i < n
      · have c1c : decide (i < n) = true := decide_eq_true c1
        have c1b : decide ((i : Int) < (n : Int)) = true := decide_eq_true (by omega)
        have p1 : (0 ≤ (i : Int)) = True := eq_true (by omega)
        have p2 : ((i : Int) < 24) = True := eq_true (by have := HLE.out; omega)
        have p3 : ((i : Int) < (n : Int)) = True := eq_true (by omega)
        have HI : Aside0 (i < 24) := ⟨by have := HLE.out; omega⟩
        have HIN : Aside0 (i < n) := ⟨c1⟩
        have hil : i < sl.length := by have := HLEN.out; have := HLE.out; omega
        have hg : sl.getD i 0 = sl[i] := by rw [List.getD_eq_getElem?_getD, List.getElem?_eq_getElem hil]; rfl
        have hpp := HPS.out sl[i] (List.getElem_mem hil)
        rw [← hg] at hpp
        have hts : (sl.take (i + 1)).map ps = (sl.take i).map ps ++ [ps (sl.getD i 0)] := by rw [List.take_succ_eq_append_getElem hil, List.map_append, hg]; rfl
        have hlt : ((sl.take i).map ps).length = i := by rw [List.length_map, List.length_take]; omega
        obtain ⟨t, htt⟩ : ∃ t, sl.getD i 0 = t := ⟨_, rfl⟩
        rw [htt] at hpp hts
        have HTT := Aside0.mk htt
        have HPP := Aside0.mk hpp.1
        obtain ⟨ws, hws⟩ : ∃ ws, (sl.take i).map ps = ws := ⟨_, rfl⟩
        obtain ⟨s, hs⟩ : ∃ s, ps t = s := ⟨_, rfl⟩
        rw [hws, hs] at hts
        rw [hws] at hlt HO
        rw [hs] at HPP
        have HTS := Aside0.mk hts
        have HWL := Aside0.mk hlt
        have HW9 : Aside0 (wrap64 ((i : Int) + 1) = ((i + 1 : Nat) : Int)) := ⟨by have := HLE.out; unfold wrap64; omega⟩
        clear hpp hts hlt hg hil htt hs hws
        go_wp2_with (first | (refine fr_loadt rfl rfl (i := i) rfl HA.out List.mem_cons_self HI.out HTT.out ?_))
        refine (types_Print.calls A0 c0 l0 t s _ (Kd.C_below HR0.out HA.out.below) HC0.out HPP.out).mono ?_
        rintro e w2_ ⟨rfl, hb⟩
        replace HO := Aside0.mk (Kd.R_below HO.out hb)
        replace HB := Aside0.mk (below_step HB.out hb)
        clear hb
        go_wp2_with (first | ((with_reducible refine gate_builtin (b := .append) (xs := #[.tmp 28, .tmp 32]) rfl ?_); at_builtin; refine Kd.R_append Kd.string (w0 := w_) w_.heap.size rfl (.tmp 28) (.tmp 32) 71 9 (.string ⟨#[]⟩) 16 rfl Try.underlying71 info9 rfl (by decide) (by omega) (.slice Av i cv) ws s [.string s] (fun _ => True) (fun _ => False) rfl rfl ?aP (fun _ hk => hk.elim) ?aF ?aO ?aB ?aS ?aL ?_; (case aP => exact rfl); (case aB => exact HB.out); (case aF => exact (fun _ _ => trivial)); (case aO => exact HO.out); (case aS => exact HB.out.size); (case aL => have := HWL.out; have := HLE.out; have := HIN.out; omega); intro v1 w1 ho hb hg hat; obtain ⟨Aw, cw, e7⟩ := Kd.R_slice ho; subst e7; rw [List.length_append, List.length_singleton, HWL.out] at ho; replace HO := Aside0.mk ho; replace HB := Aside0.mk hb; clear ho hb hg hat))
        exact ⟨⟨i + 1, Aw, cw, (by first | rfl | rw [HW9.out]), HIN.out, (by rw [HWL.out]), (by rw [HTS.out]; exact HO), HB⟩, by have := HIN.out; simp [intOf]; omega⟩
      · have c1c : decide (i < n) = false := decide_eq_false c1
        have c1b : decide ((i : Int) < (n : Int)) = false := decide_eq_false (by omega)
        obtain rfl : i = n := by omega
        obtain ⟨ws, hws⟩ : ∃ ws, (sl.take i).map ps = ws := ⟨_, rfl⟩
        have HWL : Aside0 (ws.length = i) := ⟨by rw [← hws, List.length_map, List.length_take]; have := HLEN.out; have := HLE.out; omega⟩
        have HWS := Aside0.mk hws
        rw [hws] at HO
        clear hws
        have HWA := Aside0.mk (words_at HO.out)
        have HSZ : Aside0 (∀ x ∈ ws, x.size ≤ 24) := ⟨by
          rw [← HWS.out]
          intro x hx
          obtain ⟨t, ht, rfl⟩ := List.mem_map.1 hx
          exact (HPS.out t (List.mem_of_mem_take ht)).2⟩
        go_wp2
        rcases HWA.out with ⟨rfl, hi0, rfl, rfl⟩ | ⟨b, rfl, hb, hic, hcell⟩
        · subst hi0
          obtain rfl : L = 0 := by have := HN.out; omega
          obtain rfl : H = 0 := by have := HN.out; omega
          obtain ⟨j1, hj1⟩ : ∃ j, joinB [] = j := ⟨_, rfl⟩
          have HJ1 := Aside0.mk hj1
          have z91 : (ByteArray.mk #[91]).size = 1 := rfl
          have z3 : (ByteArray.mk #[32, 124, 32]).size = 3 := rfl
          have z93 : (ByteArray.mk #[93]).size = 1 := rfl
          have HS1 : Aside0 (j1.size ≤ 600) := ⟨by rw [← hj1]; exact joinB_small _ (by simp) (by simp)⟩
          have HFIN : Aside0 (printS vb ps (⟨0, 0, sl⟩ : Fr) = (⟨#[91]⟩ ++ j1 ++ ⟨#[32, 124, 32]⟩ ++ j1 ++ ⟨#[93]⟩, 0)) := ⟨by
            have h0 : checkS vb (⟨0, 0, sl⟩ : Fr) = 0 := HEA.out
            unfold printS
            rw [if_pos h0, ← hj1]
            rfl⟩
          clear hj1
          go_upto_region 10 with (fail)
          have hA : (fun w' => Frs w [(gp, (⟨((0 : Nat) : Int), ((0 : Nat) : Int), sl⟩ : Fr))] w' ∧ True) wr := ⟨HA.out, trivial⟩
          refine wp_region_held_drew (S := (fun w' => Frs w [(gp, (⟨((0 : Nat) : Int), ((0 : Nat) : Int), sl⟩ : Fr))] w' ∧ True)) (by kernel_rfl) ?_ (fun hHeld => ?_)
          · exact ⟨hA.1.drewN 1, trivial⟩
          refine take_dst (i := 0) (v := ?_) 35 rfl rfl (by kernel_rfl) (by kernel_rfl) (by kernel_rfl) (fun _ _ _ h => h) (Or.inl ⟨by rfl, ?_⟩) (by assumption) ?_
          rotate_left
          · intro w hSw
            go_simp
            try with_reducible rfl
          (try simp only [Act.put, List.setIfInBounds_toArray, List.set_cons_zero, List.set_cons_succ])
          refine take_dst (i := 1) (v := ?_) 36 rfl rfl (by kernel_rfl) (by kernel_rfl) (by kernel_rfl) (fun _ _ _ h => h) (Or.inl ⟨by rfl, ?_⟩) (by assumption) ?_
          rotate_left
          · intro w hSw
            go_simp
            try with_reducible rfl
          (try simp only [Act.put, List.setIfInBounds_toArray, List.set_cons_zero, List.set_cons_succ])
          refine take_dst (i := 2) (v := ?_) 37 rfl rfl (by kernel_rfl) (by kernel_rfl) (by kernel_rfl) (fun _ _ _ h => h) (Or.inl ⟨by rfl, ?_⟩) (by assumption) ?_
          rotate_left
          · intro w hSw
            have hc0 := hSw.1.at0.c0
            go_simp
            try with_reducible rfl
          (try simp only [Act.put, List.setIfInBounds_toArray, List.set_cons_zero, List.set_cons_succ])
          refine take_dst (i := 3) (v := ?_) 38 rfl rfl (by kernel_rfl) (by kernel_rfl) (by kernel_rfl) (fun _ _ _ h => h) (Or.inl ⟨by rfl, ?_⟩) (by assumption) ?_
          rotate_left
          · intro w hSw
            go_simp
            try with_reducible rfl
          (try simp only [Act.put, List.setIfInBounds_toArray, List.set_cons_zero, List.set_cons_succ])
          refine take_dst (i := 7) (v := ?_) 42 rfl rfl (by kernel_rfl) (by kernel_rfl) (by kernel_rfl) (fun _ _ _ h => h) (Or.inl ⟨by rfl, ?_⟩) (by assumption) ?_
          rotate_left
          · intro w hSw
            go_simp
            try with_reducible rfl
          (try simp only [Act.put, List.setIfInBounds_toArray, List.set_cons_zero, List.set_cons_succ])
          refine take_dst (i := 8) (v := ?_) 43 rfl rfl (by kernel_rfl) (by kernel_rfl) (by kernel_rfl) (fun _ _ _ h => h) (Or.inl ⟨by rfl, ?_⟩) (by assumption) ?_
          rotate_left
          · intro w hSw
            go_simp
            try with_reducible rfl
          (try simp only [Act.put, List.setIfInBounds_toArray, List.set_cons_zero, List.set_cons_succ])
          refine take_dst (i := 9) (v := ?_) 44 rfl rfl (by kernel_rfl) (by kernel_rfl) (by kernel_rfl) (fun _ _ _ h => h) (Or.inl ⟨by rfl, ?_⟩) (by assumption) ?_
          rotate_left
          · intro w hSw
            have hc0 := hSw.1.at0.c0
            go_simp
            try with_reducible rfl
          (try simp only [Act.put, List.setIfInBounds_toArray, List.set_cons_zero, List.set_cons_succ])
          refine take_dst (i := 10) (v := ?_) 45 rfl rfl (by kernel_rfl) (by kernel_rfl) (by kernel_rfl) (fun _ _ _ h => h) (Or.inl ⟨by rfl, ?_⟩) (by assumption) ?_
          rotate_left
          · intro w hSw
            go_simp
            try with_reducible rfl
          (try simp only [Act.put, List.setIfInBounds_toArray, List.set_cons_zero, List.set_cons_succ])
          refine wpAnyH_ready (rs := [4]) (by kernel_rfl) (by simp) ?_
          refine AllReadyH.cons rfl (fun K hK => ?_) AllReadyH.nil
          go_simp
          have hcall := fun (W : World) => join_at none 0 0 ([] : List ByteArray) W rfl (fun h => absurd rfl h) (Nat.le_refl 0) (by decide) (by simp)
          rw [HJ1.out] at hcall
          refine (hcall _).mono ?_
          clear hcall
          rintro e w9 ⟨rfl, hb⟩
          have h9 : (fun w' => Frs w [(gp, (⟨((0 : Nat) : Int), ((0 : Nat) : Int), sl⟩ : Fr))] w' ∧ True) w9 := ⟨hHeld.1.step hb, trivial⟩
          go_simp
          refine hK.out _ _ h9 (fun hHeld => ?_)
          (try simp only [Act.put, List.setIfInBounds_toArray, List.set_cons_zero, List.set_cons_succ])
          clear hK K h9 hb
          refine take_dst (i := 5) (v := ?_) 40 rfl rfl (by kernel_rfl) (by kernel_rfl) (by kernel_rfl) (fun _ _ _ h => h) (Or.inl ⟨by rfl, ?_⟩) (by assumption) ?_
          rotate_left
          · intro w hSw
            go_simp
            rw [if_neg (by have := HS1.out; first | omega | (simp only [ByteArray.size_append, z91, z3, z93]; omega))]
          (try simp only [Act.put, List.setIfInBounds_toArray, List.set_cons_zero, List.set_cons_succ])
          refine take_dst (i := 6) (v := ?_) 41 rfl rfl (by kernel_rfl) (by kernel_rfl) (by kernel_rfl) (fun _ _ _ h => h) (Or.inl ⟨by rfl, ?_⟩) (by assumption) ?_
          rotate_left
          · intro w hSw
            go_simp
            rw [if_neg (by have := HS1.out; first | omega | (simp only [ByteArray.size_append, z91, z3, z93]; omega))]
          (try simp only [Act.put, List.setIfInBounds_toArray, List.set_cons_zero, List.set_cons_succ])
          refine wpAnyH_ready (rs := [11]) (by kernel_rfl) (by simp) ?_
          refine AllReadyH.cons rfl (fun K hK => ?_) AllReadyH.nil
          go_simp
          have hcall := fun (W : World) => join_at none 0 0 ([] : List ByteArray) W rfl (fun h => absurd rfl h) (Nat.le_refl 0) (by decide) (by simp)
          rw [HJ1.out] at hcall
          refine (hcall _).mono ?_
          clear hcall
          rintro e w9 ⟨rfl, hb⟩
          have h9 : (fun w' => Frs w [(gp, (⟨((0 : Nat) : Int), ((0 : Nat) : Int), sl⟩ : Fr))] w' ∧ True) w9 := ⟨hHeld.1.step hb, trivial⟩
          go_simp
          refine hK.out _ _ h9 (fun hHeld => ?_)
          (try simp only [Act.put, List.setIfInBounds_toArray, List.set_cons_zero, List.set_cons_succ])
          clear hK K h9 hb
          refine take_dst (i := 12) (v := ?_) 47 rfl rfl (by kernel_rfl) (by kernel_rfl) (by kernel_rfl) (fun _ _ _ h => h) (Or.inl ⟨by rfl, ?_⟩) (by assumption) ?_
          rotate_left
          · intro w hSw
            go_simp
            rw [if_neg (by have := HS1.out; first | omega | (simp only [ByteArray.size_append, z91, z3, z93]; omega))]
          (try simp only [Act.put, List.setIfInBounds_toArray, List.set_cons_zero, List.set_cons_succ])
          refine take_dst (i := 13) (v := ?_) 48 rfl rfl (by kernel_rfl) (by kernel_rfl) (by kernel_rfl) (fun _ _ _ h => h) (Or.inl ⟨by rfl, ?_⟩) (by assumption) ?_
          rotate_left
          · intro w hSw
            go_simp
            rw [if_neg (by have := HS1.out; first | omega | (simp only [ByteArray.size_append, z91, z3, z93]; omega))]
          (try simp only [Act.put, List.setIfInBounds_toArray, List.set_cons_zero, List.set_cons_succ])
          refine take_dst (i := 14) (v := ?_) 4 rfl rfl (by kernel_rfl) (by kernel_rfl) (by kernel_rfl) (fun _ _ _ h => h) (Or.inl ⟨by rfl, ?_⟩) (by assumption) ?_
          rotate_left
          · intro w hSw
            go_simp
            try with_reducible rfl
          (try simp only [Act.put, List.setIfInBounds_toArray, List.set_cons_zero, List.set_cons_succ])
          refine take_dst (i := 15) (v := ?_) 5 rfl rfl (by kernel_rfl) (by kernel_rfl) (by kernel_rfl) (fun _ _ _ h => h) (Or.inl ⟨by rfl, ?_⟩) (by assumption) ?_
          rotate_left
          · intro w hSw
            go_simp
            try with_reducible rfl
          (try simp only [Act.put, List.setIfInBounds_toArray, List.set_cons_zero, List.set_cons_succ])
          refine wpAnyH_done (by kernel_rfl) ?_ _
          have HA9 := Aside0.mk (And.left hHeld)
          clear hHeld
          go_wp2
          all_goals (go_ret2; exact ⟨by rw [HFIN.out]; rfl, HA9.out.below⟩)
        · have HCB := Aside0.mk hb
          have HCELL := Aside0.mk hcell
          have HIC := Aside0.mk hic
          have r1 : (0 ≤ (L : Int)) = True := eq_true (by omega)
          have r2 : ((L : Int) ≤ (cv : Int)) = True := eq_true (by have := HN.out; omega)
          have r3 : ((L : Int) ≤ (i : Int)) = True := eq_true (by have := HN.out; omega)
          have r4 : ((i : Int) ≤ (cv : Int)) = True := eq_true (by omega)
          clear hb hic hcell
          have HT1 : Aside0 ((ws.take L).length = L) := ⟨by rw [List.length_take]; have := HWL.out; have := HN.out; omega⟩
          obtain ⟨j1, hj1⟩ : ∃ j, joinB (ws.take L) = j := ⟨_, rfl⟩
          obtain ⟨j2, hj2⟩ : ∃ j, joinB (ws.drop L) = j := ⟨_, rfl⟩
          have HJ1 := Aside0.mk hj1
          have HJ2 := Aside0.mk hj2
          clear hj1 hj2
          have HFIN : Aside0 (printS vb ps (⟨(L : Int), (H : Int), sl⟩ : Fr) = (⟨#[91]⟩ ++ j1 ++ ⟨#[32, 124, 32]⟩ ++ j2 ++ ⟨#[93]⟩, 0)) := ⟨by
            unfold printS
            rw [if_pos HEA.out]
            show (_ ++ joinB (((sl.take ((L : Int) + (H : Int)).toNat).map ps).take (L : Int).toNat) ++ _ ++ joinB (((sl.take ((L : Int) + (H : Int)).toNat).map ps).drop (L : Int).toNat) ++ _, (0 : Int)) = _
            rw [show ((L : Int) + (H : Int)).toNat = i by have := HN.out; omega, HWS.out, Int.toNat_natCast, HJ1.out, HJ2.out]⟩
          have z91 : (ByteArray.mk #[91]).size = 1 := rfl
          have z3 : (ByteArray.mk #[32, 124, 32]).size = 3 := rfl
          have z93 : (ByteArray.mk #[93]).size = 1 := rfl
          have HS1 : Aside0 (j1.size ≤ 600) := ⟨by rw [← HJ1.out]; exact joinB_small _ (by rw [List.length_take]; have := HLE.out; have := HN.out; omega) (fun x hx => HSZ.out x (List.mem_of_mem_take hx))⟩
          have HS2 : Aside0 (j2.size ≤ 600) := ⟨by rw [← HJ2.out]; exact joinB_small _ (by rw [List.length_drop]; have := HLE.out; have := HWL.out; omega) (fun x hx => HSZ.out x (List.mem_of_mem_drop hx))⟩
          have HD1 : Aside0 ((ws.drop L).length = i - L) := ⟨by rw [List.length_drop, HWL.out]⟩
          have HD2 : Aside0 (i - L ≤ cv - L) := ⟨by have := HIC.out; omega⟩
          have HD3 : Aside0 (i - L ≤ 24) := ⟨by have := HLE.out; omega⟩
          have HD4 : Aside0 (∀ x ∈ ws.drop L, x.size ≤ 24) := ⟨fun x hx => HSZ.out x (List.mem_of_mem_drop hx)⟩
          have HD5 : Aside0 (ws.drop L ≠ [] → ¬ cv = L) := ⟨fun h e => h (List.drop_eq_nil_of_le (by have := HIC.out; have := HWL.out; omega))⟩
          have HT2 : Aside0 (L ≤ cv) := ⟨by have := HIC.out; have := HN.out; omega⟩
          have HT3 : Aside0 (L ≤ 24) := ⟨by have := HLE.out; have := HN.out; omega⟩
          have HT4 : Aside0 (∀ x ∈ ws.take L, x.size ≤ 24) := ⟨fun x hx => HSZ.out x (List.mem_of_mem_take hx)⟩
          go_upto_region 10 with (fail)
          have hA : (fun w' => Frs w [(gp, (⟨(L : Int), (H : Int), sl⟩ : Fr))] w' ∧ b < w'.heap.size ∧ ∀ (j : Nat) x, ws[j]? = some x → w'.cell? ⟨b, j, none⟩ = some (.string x)) wr := ⟨HA.out, HCB.out, HCELL.out⟩
          refine wp_region_held_drew (S := (fun w' => Frs w [(gp, (⟨(L : Int), (H : Int), sl⟩ : Fr))] w' ∧ b < w'.heap.size ∧ ∀ (j : Nat) x, ws[j]? = some x → w'.cell? ⟨b, j, none⟩ = some (.string x))) (by kernel_rfl) ?_ (fun hHeld => ?_)
          · exact ⟨hA.1.drewN 1, hA.2.1, hA.2.2⟩
          refine take_dst (i := 0) (v := ?_) 35 rfl rfl (by kernel_rfl) (by kernel_rfl) (by kernel_rfl) (fun _ _ _ h => h) (Or.inl ⟨by rfl, ?_⟩) (by assumption) ?_
          rotate_left
          · intro w hSw
            go_simp
            try with_reducible rfl
          (try simp only [Act.put, List.setIfInBounds_toArray, List.set_cons_zero, List.set_cons_succ])
          refine take_dst (i := 1) (v := ?_) 36 rfl rfl (by kernel_rfl) (by kernel_rfl) (by kernel_rfl) (fun _ _ _ h => h) (Or.inl ⟨by rfl, ?_⟩) (by assumption) ?_
          rotate_left
          · intro w hSw
            go_simp
            try with_reducible rfl
          (try simp only [Act.put, List.setIfInBounds_toArray, List.set_cons_zero, List.set_cons_succ])
          refine take_dst (i := 2) (v := ?_) 37 rfl rfl (by kernel_rfl) (by kernel_rfl) (by kernel_rfl) (fun _ _ _ h => h) (Or.inl ⟨by rfl, ?_⟩) (by assumption) ?_
          rotate_left
          · intro w hSw
            have hc0 := hSw.1.at0.c0
            go_simp
            try with_reducible rfl
          (try simp only [Act.put, List.setIfInBounds_toArray, List.set_cons_zero, List.set_cons_succ])
          refine take_dst (i := 3) (v := ?_) 38 rfl rfl (by kernel_rfl) (by kernel_rfl) (by kernel_rfl) (fun _ _ _ h => h) (Or.inl ⟨by rfl, ?_⟩) (by assumption) ?_
          rotate_left
          · intro w hSw
            go_simp
            try with_reducible rfl
          (try simp only [Act.put, List.setIfInBounds_toArray, List.set_cons_zero, List.set_cons_succ])
          refine take_dst (i := 7) (v := ?_) 42 rfl rfl (by kernel_rfl) (by kernel_rfl) (by kernel_rfl) (fun _ _ _ h => h) (Or.inl ⟨by rfl, ?_⟩) (by assumption) ?_
          rotate_left
          · intro w hSw
            go_simp
            try with_reducible rfl
          (try simp only [Act.put, List.setIfInBounds_toArray, List.set_cons_zero, List.set_cons_succ])
          refine take_dst (i := 8) (v := ?_) 43 rfl rfl (by kernel_rfl) (by kernel_rfl) (by kernel_rfl) (fun _ _ _ h => h) (Or.inl ⟨by rfl, ?_⟩) (by assumption) ?_
          rotate_left
          · intro w hSw
            go_simp
            try with_reducible rfl
          (try simp only [Act.put, List.setIfInBounds_toArray, List.set_cons_zero, List.set_cons_succ])
          refine take_dst (i := 9) (v := ?_) 44 rfl rfl (by kernel_rfl) (by kernel_rfl) (by kernel_rfl) (fun _ _ _ h => h) (Or.inl ⟨by rfl, ?_⟩) (by assumption) ?_
          rotate_left
          · intro w hSw
            have hc0 := hSw.1.at0.c0
            go_simp
            try with_reducible rfl
          (try simp only [Act.put, List.setIfInBounds_toArray, List.set_cons_zero, List.set_cons_succ])
          refine take_dst (i := 10) (v := ?_) 45 rfl rfl (by kernel_rfl) (by kernel_rfl) (by kernel_rfl) (fun _ _ _ h => h) (Or.inl ⟨by rfl, ?_⟩) (by assumption) ?_
          rotate_left
          · intro w hSw
            go_simp
            try with_reducible rfl
          (try simp only [Act.put, List.setIfInBounds_toArray, List.set_cons_zero, List.set_cons_succ])
          refine wpAnyH_ready (rs := [4]) (by kernel_rfl) (by simp) ?_
          refine AllReadyH.cons rfl (fun K hK => ?_) AllReadyH.nil
          go_simp
          have hcall := join_at (some ⟨b, 0, none⟩) L cv (ws.take L) _ HT1.out (fun _ => ⟨b, 0, rfl, hHeld.2.1, fun j x hj => by rw [Nat.zero_add]; exact hHeld.2.2 j x (by rw [List.getElem?_take] at hj; split at hj; exact hj; cases hj)⟩) HT2.out HT3.out HT4.out
          rw [HJ1.out] at hcall
          refine hcall.mono ?_
          clear hcall
          rintro e w9 ⟨rfl, hb⟩
          have h9 : (fun w' => Frs w [(gp, (⟨(L : Int), (H : Int), sl⟩ : Fr))] w' ∧ b < w'.heap.size ∧ ∀ (j : Nat) x, ws[j]? = some x → w'.cell? ⟨b, j, none⟩ = some (.string x)) w9 := ⟨hHeld.1.step hb, Nat.lt_of_lt_of_le hHeld.2.1 hb.size, fun j x hj => pw_cell_below hb (hHeld.2.2 j x hj)⟩
          go_simp
          refine hK.out _ _ h9 (fun hHeld => ?_)
          (try simp only [Act.put, List.setIfInBounds_toArray, List.set_cons_zero, List.set_cons_succ])
          clear hK K h9 hb
          refine take_dst (i := 5) (v := ?_) 40 rfl rfl (by kernel_rfl) (by kernel_rfl) (by kernel_rfl) (fun _ _ _ h => h) (Or.inl ⟨by rfl, ?_⟩) (by assumption) ?_
          rotate_left
          · intro w hSw
            go_simp
            rw [if_neg (by have := HS1.out; have := HS2.out; first | omega | (simp only [ByteArray.size_append, z91, z3, z93]; omega))]
          (try simp only [Act.put, List.setIfInBounds_toArray, List.set_cons_zero, List.set_cons_succ])
          refine take_dst (i := 6) (v := ?_) 41 rfl rfl (by kernel_rfl) (by kernel_rfl) (by kernel_rfl) (fun _ _ _ h => h) (Or.inl ⟨by rfl, ?_⟩) (by assumption) ?_
          rotate_left
          · intro w hSw
            go_simp
            rw [if_neg (by have := HS1.out; have := HS2.out; first | omega | (simp only [ByteArray.size_append, z91, z3, z93]; omega))]
          (try simp only [Act.put, List.setIfInBounds_toArray, List.set_cons_zero, List.set_cons_succ])
          refine wpAnyH_ready (rs := [11]) (by kernel_rfl) (by simp) ?_
          refine AllReadyH.cons rfl (fun K hK => ?_) AllReadyH.nil
          go_simp
          have hcall := join_at (if cv = L then some ⟨b, 0, none⟩ else some ⟨b, L, none⟩) (i - L) (cv - L) (ws.drop L) _ HD1.out (fun hne => ⟨b, L, by rw [if_neg (HD5.out hne)], hHeld.2.1, fun j x hj => hHeld.2.2 (L + j) x (by rw [List.getElem?_drop] at hj; exact hj)⟩) HD2.out HD3.out HD4.out
          rw [HJ2.out] at hcall
          refine hcall.mono ?_
          clear hcall
          rintro e w9 ⟨rfl, hb⟩
          have h9 : (fun w' => Frs w [(gp, (⟨(L : Int), (H : Int), sl⟩ : Fr))] w' ∧ b < w'.heap.size ∧ ∀ (j : Nat) x, ws[j]? = some x → w'.cell? ⟨b, j, none⟩ = some (.string x)) w9 := ⟨hHeld.1.step hb, Nat.lt_of_lt_of_le hHeld.2.1 hb.size, fun j x hj => pw_cell_below hb (hHeld.2.2 j x hj)⟩
          go_simp
          refine hK.out _ _ h9 (fun hHeld => ?_)
          (try simp only [Act.put, List.setIfInBounds_toArray, List.set_cons_zero, List.set_cons_succ])
          clear hK K h9 hb
          refine take_dst (i := 12) (v := ?_) 47 rfl rfl (by kernel_rfl) (by kernel_rfl) (by kernel_rfl) (fun _ _ _ h => h) (Or.inl ⟨by rfl, ?_⟩) (by assumption) ?_
          rotate_left
          · intro w hSw
            go_simp
            rw [if_neg (by have := HS1.out; have := HS2.out; first | omega | (simp only [ByteArray.size_append, z91, z3, z93]; omega))]
          (try simp only [Act.put, List.setIfInBounds_toArray, List.set_cons_zero, List.set_cons_succ])
          refine take_dst (i := 13) (v := ?_) 48 rfl rfl (by kernel_rfl) (by kernel_rfl) (by kernel_rfl) (fun _ _ _ h => h) (Or.inl ⟨by rfl, ?_⟩) (by assumption) ?_
          rotate_left
          · intro w hSw
            go_simp
            rw [if_neg (by have := HS1.out; have := HS2.out; first | omega | (simp only [ByteArray.size_append, z91, z3, z93]; omega))]
          (try simp only [Act.put, List.setIfInBounds_toArray, List.set_cons_zero, List.set_cons_succ])
          refine take_dst (i := 14) (v := ?_) 4 rfl rfl (by kernel_rfl) (by kernel_rfl) (by kernel_rfl) (fun _ _ _ h => h) (Or.inl ⟨by rfl, ?_⟩) (by assumption) ?_
          rotate_left
          · intro w hSw
            go_simp
            try with_reducible rfl
          (try simp only [Act.put, List.setIfInBounds_toArray, List.set_cons_zero, List.set_cons_succ])
          refine take_dst (i := 15) (v := ?_) 5 rfl rfl (by kernel_rfl) (by kernel_rfl) (by kernel_rfl) (fun _ _ _ h => h) (Or.inl ⟨by rfl, ?_⟩) (by assumption) ?_
          rotate_left
          · intro w hSw
            go_simp
            try with_reducible rfl
          (try simp only [Act.put, List.setIfInBounds_toArray, List.set_cons_zero, List.set_cons_succ])
          refine wpAnyH_done (by kernel_rfl) ?_ _
          have HA9 := Aside0.mk (And.left hHeld)
          clear hHeld
          go_wp2
          all_goals (go_ret2; exact ⟨by rw [HFIN.out]; rfl, HA9.out.below⟩)
  · have z1b : (ea != 0) = true := by rw [bne_iff_ne]; exact z1
    have Z1 := Aside0.mk z1
    clear z1
    go_enter Try.func38, Try.ntmps38
    go_wp2_with (first | ((with_reducible refine gate_dst (N := 3) rfl ?_); refine fr_box rfl rfl (f := f) rfl HF.out HA.out ?_; intro gp w_ hA; (try simp only [List.cons_append, List.nil_append] at hA); replace HA := Aside0.mk hA; clear hA) | (refine fr_load rfl rfl rfl HA.out List.mem_cons_self ?_))
    have hcall := Check_calls A0 c0 l0 f HF.out vb w_ (Kd.C_below HR0.out HA.out.below) HC0.out HV.out
    rw [HEA.out] at hcall
    refine hcall.mono ?_
    clear hcall
    rintro e w_ ⟨rfl, hb⟩
    replace HA := Aside0.mk (HA.out.step hb)
    clear hb
    go_wp2
    go_ret2
    exact ⟨by unfold printS; rw [HEA.out, if_neg Z1.out]; rfl, HA.out.below⟩

def provisoref02_Print.f (l0 : List (S59)) (a1 : Int) : Option (ByteArray) := if a1 ≥ 16 then ((provisoref02_Valid.f l0 a1).bind fun t205 => (if t205 = true then (if 0 ≤ ((a1 - 16) % 256) then (if ((a1 - 16) % 256) < (l0.length : Int) then (some ((rd_T59 l0 ((a1 - 16) % 256)).f0)) else (none)) else (none)) else ((provisoref02_word.f a1).bind fun t207 => (some t207)))) else ((provisoref02_word.f a1).bind fun t208 => (some t208))
set_option maxHeartbeats 8000000 in
set_option maxRecDepth 100000 in
theorem provisoref02_Print.calls (A0 : Option Addr) (c0 : Nat) (l0 : List (S59)) (a1 : Int) (r : ByteArray) (w : World) (hr0 : Kd.C k59 w A0 l0.length l0) (hc0 : l0.length ≤ c0) (h : provisoref02_Print.f l0 a1 = some r) :
    Calls Try.prog 59 #[.slice A0 l0.length c0, .int .u8 a1] w fun e w' => e = .returned (.string r) ∧ Drawn0 w w' := by
  have HR0 := Aside0.mk hr0
  have HC0 := Aside0.mk hc0
  clear hr0 hc0
  have H : (if a1 ≥ 16 then ((provisoref02_Valid.f l0 a1).bind fun t205 => (if t205 = true then (if 0 ≤ ((a1 - 16) % 256) then (if ((a1 - 16) % 256) < (l0.length : Int) then (some ((rd_T59 l0 ((a1 - 16) % 256)).f0)) else (none)) else (none)) else ((provisoref02_word.f a1).bind fun t207 => (some t207)))) else ((provisoref02_word.f a1).bind fun t208 => (some t208))) = some r := h
  clear h
  by_cases c3 : a1 ≥ 16
  · rw [if_pos c3] at H
    have c3b0 : decide (16 ≤ a1) = true := decide_eq_true c3
    clear c3
    replace H := Option.bind_eq_some_iff.mp H
    obtain ⟨t205, A40, H⟩ := H
    replace H : (if t205 = true then (if 0 ≤ ((a1 - 16) % 256) then (if ((a1 - 16) % 256) < (l0.length : Int) then (some ((rd_T59 l0 ((a1 - 16) % 256)).f0)) else (none)) else (none)) else ((provisoref02_word.f a1).bind fun t207 => (some t207))) = some r := H
    have A4 := Aside0.mk A40
    clear A40
    by_cases c5 : t205 = true
    · subst c5
      have H1 : (if 0 ≤ ((a1 - 16) % 256) then (if ((a1 - 16) % 256) < (l0.length : Int) then (some ((rd_T59 l0 ((a1 - 16) % 256)).f0)) else (none)) else (none)) = some r := by rw [if_pos rfl] at H; exact H
      clear H
      have H := H1
      clear H1
      obtain ⟨ji6, hji6⟩ : ∃ j_ : Int, ((a1 - 16) % 256) = j_ := ⟨_, rfl⟩
      replace H : (if 0 ≤ (ji6) then (if (ji6) < (l0.length : Int) then (some ((rd_T59 l0 (ji6)).f0)) else (none)) else (none)) = some r := by first | (rw [hji6] at H; exact H) | (simp only [hji6] at H ⊢; exact H)
      (try rw [hji6] at A4)
      by_cases c7 : 0 ≤ (ji6)
      · rw [if_pos c7] at H
        have c7b0 : decide (0 ≤ (ji6)) = true := decide_eq_true c7
        clear c7
        by_cases c8 : (ji6) < (l0.length : Int)
        · rw [if_pos c8] at H
          have c8b0 : decide ((ji6) < (l0.length : Int)) = true := decide_eq_true c8
          clear c8
          obtain rfl := Option.some.inj H
          go_enter Try.func59, Try.ntmps59
          go_wp2_with (first | (go_at_call 51; (with_reducible refine (provisoref02_Valid.calls _ _ l0 a1 true _ ?side1 ?side2 A4.out).mono ?_); (case side1 => repeat (first | exact HR0.out | (with_reducible refine Kd.C_alloc ?_ _) | (with_reducible refine Kd.C_drewN ?_ _) | (with_reducible refine Kd.C_drew ?_))); (case side2 => exact HC0.out); rintro e w' ⟨rfl, ⟨nd, rfl⟩⟩; have p206 : 0 ≤ ((ji6) : Int) := of_decide_eq_true (by first | (with_reducible assumption) | assumption); have q206 : (ji6) < (l0.length : Int) := of_decide_eq_true (by first | (with_reducible assumption) | assumption); obtain ⟨ad206, A206_2, c206_2, e206, hx206_0, hx206_1, hx206_2, hl206_2, hi206_2⟩ := at_T59 HR0.out (ji6) p206 q206; cases e206; have HR206_2 := Aside0.mk hi206_2; have HC206_2 := Aside0.mk hl206_2; clear hi206_2 hl206_2; replace p206 := eq_true p206; replace q206 := eq_true q206))
          go_ret
          exact ⟨by first | rfl | (simp; done) | (simp only [← hji6] <;> (first | rfl | simp)) | (simp [*]; done), by repeat (first | exact Drawn0.refl _ | apply Drawn0.step)⟩
        · rw [if_neg c8] at H
          exact absurd H (by simp)
      · rw [if_neg c7] at H
        exact absurd H (by simp)
    · replace c5 := Bool.eq_false_iff.mpr c5
      subst c5
      have H1 : ((provisoref02_word.f a1).bind fun t207 => (some t207)) = some r := by rw [if_neg (show ¬ (false = true) by decide)] at H; exact H
      clear H
      have H := H1
      clear H1
      replace H := Option.bind_eq_some_iff.mp H
      obtain ⟨t207, A90, H⟩ := H
      replace H : (some t207) = some r := H
      have A9 := Aside0.mk A90
      clear A90
      obtain rfl := Option.some.inj H
      go_enter Try.func59, Try.ntmps59
      go_wp2_with (first | (go_at_call 51; (with_reducible refine (provisoref02_Valid.calls _ _ l0 a1 false _ ?side1 ?side2 A4.out).mono ?_); (case side1 => repeat (first | exact HR0.out | (with_reducible refine Kd.C_alloc ?_ _) | (with_reducible refine Kd.C_drewN ?_ _) | (with_reducible refine Kd.C_drew ?_))); (case side2 => exact HC0.out); rintro e w' ⟨rfl, ⟨nd, rfl⟩⟩) | ((with_reducible refine gate_callee (f := 74) rfl ?_); refine goesL_ (some 19) rfl rfl Try.func74 (by kernel_rfl) rfl #[.int .u8 a1] rfl (by (try simp only [List.map_toArray, List.map_cons, List.map_nil]); first | done | rfl | (simp only [List.length_drop, List.length_take]; rfl)) ?_; (with_reducible refine (provisoref02_word.calls a1 t207 _ A9.out).mono ?_); rintro e w' ⟨rfl, ⟨nd, rfl⟩⟩; refine ⟨_, rfl, ?_⟩))
      go_ret
      exact ⟨by first | rfl | (simp; done) | (simp [*]; done), by repeat (first | exact Drawn0.refl _ | apply Drawn0.step)⟩
  · rw [if_neg c3] at H
    have c3b0 : decide (16 ≤ a1) = false := decide_eq_false c3
    clear c3
    replace H := Option.bind_eq_some_iff.mp H
    obtain ⟨t208, A100, H⟩ := H
    replace H : (some t208) = some r := H
    have A10 := Aside0.mk A100
    clear A100
    obtain rfl := Option.some.inj H
    go_enter Try.func59, Try.ntmps59
    go_wp2_with (first | ((with_reducible refine gate_callee (f := 74) rfl ?_); refine goesL_ (some 19) rfl rfl Try.func74 (by kernel_rfl) rfl #[.int .u8 a1] rfl (by (try simp only [List.map_toArray, List.map_cons, List.map_nil]); first | done | rfl | (simp only [List.length_drop, List.length_take]; rfl)) ?_; (with_reducible refine (provisoref02_word.calls a1 t208 _ A10.out).mono ?_); rintro e w' ⟨rfl, ⟨nd, rfl⟩⟩; refine ⟨_, rfl, ?_⟩))
    go_ret
    exact ⟨by first | rfl | (simp; done) | (simp [*]; done), by repeat (first | exact Drawn0.refl _ | apply Drawn0.step)⟩

def accS (ps : Int → ByteArray) (L : Nat) (sl : List Int) : Nat → ByteArray
  | 0 => ⟨#[91]⟩
  | i + 1 => (if i = L then accS ps L sl i ++ ⟨#[32, 124, 32]⟩ else if 0 < i then accS ps L sl i ++ ⟨#[32]⟩ else accS ps L sl i) ++ ps (sl.getD i 0)
theorem accS_size {ps : Int → ByteArray} {L : Nat} {sl : List Int} (h : ∀ t ∈ sl, (ps t).size ≤ 24) : ∀ i, i ≤ sl.length → (accS ps L sl i).size ≤ 1 + 27 * i
  | 0, _ => by show (ByteArray.mk #[91]).size ≤ _; exact Nat.le_refl 1
  | i + 1, hi => by
    have h1 := accS_size (L := L) h i (by omega)
    have hg : sl.getD i 0 = sl[i] := by rw [List.getD_eq_getElem?_getD, List.getElem?_eq_getElem (by omega)]; rfl
    have h2 := h _ (List.getElem_mem (show i < sl.length by omega))
    rw [← hg] at h2
    have z3 : (ByteArray.mk #[32, 124, 32]).size = 3 := rfl
    have z1 : (ByteArray.mk #[32]).size = 1 := rfl
    unfold accS
    rw [ByteArray.size_append]
    split
    · rw [ByteArray.size_append]; omega
    · split
      · rw [ByteArray.size_append]; omega
      · omega
def refprintS (vb : Int → Bool) (ps : Int → ByteArray) (f : Fr) : ByteArray × Int := if checkS vb f = 0 then ((if f.hgt = 0 then accS ps f.loc.toNat f.sl (f.loc + f.hgt).toNat ++ ⟨#[32, 124, 32]⟩ else accS ps f.loc.toNat f.sl (f.loc + f.hgt).toNat) ++ ⟨#[93]⟩, 0) else (⟨#[]⟩, checkS vb f)
set_option maxHeartbeats 3200000 in
set_option maxRecDepth 100000 in
theorem refPrint_calls (A0 : Option Addr) (c0 : Nat) (l0 : List S59) (f : Fr) (hf : f.ok) (vb : Int → Bool) (ps : Int → ByteArray) (w : World) (hr0 : Kd.C k59 w A0 l0.length l0) (hc0 : l0.length ≤ c0) (h0 : vb 0 = true) (hv : ∀ t ∈ f.sl, provisoref02_Valid.f l0 t = some (vb t)) (hps : ∀ t ∈ f.sl, provisoref02_Print.f l0 t = some (ps t) ∧ (ps t).size ≤ 24) : Calls Try.prog 39 #[.slice A0 l0.length c0, .agg f.a] w fun e w' => e = .returned (.tuple #[.string (refprintS vb ps f).1, .int .i64 (refprintS vb ps f).2]) ∧ Below w.heap.size w w' := by
  have HF := Aside0.mk hf
  have HR0 := Aside0.mk hr0
  have HC0 := Aside0.mk hc0
  have HV := Aside0.mk hv
  have HV0 := Aside0.mk h0
  have HPS := Aside0.mk hps
  have HA := Aside0.mk (Frs.nil w)
  obtain ⟨ea, hea⟩ : ∃ ea, checkS vb f = ea := ⟨_, rfl⟩
  have HEA := Aside0.mk hea
  clear hf hr0 hc0 hv hps hea h0
  by_cases z1 : ea = 0
  · subst z1
    obtain ⟨L, H, sl, rfl, hL, hLH⟩ := Fr.shp_nat (checkS_shp HEA.out)
    have HLEN : Aside0 (sl.length = 24) := ⟨HF.out⟩
    obtain ⟨n, hnn⟩ : ∃ n, n = L + H := ⟨_, rfl⟩
    have hs1 : (L : Int) + (H : Int) = (n : Int) := by omega
    have hw1 : wrap64 (n : Int) = (n : Int) := by unfold wrap64; omega
    have HN := Aside0.mk hnn
    have HLE : Aside0 (n ≤ 24) := ⟨by omega⟩
    have HSZ : Aside0 (∀ i, i ≤ 24 → (accS ps L sl i).size ≤ 1 + 27 * i) := ⟨fun i h => accS_size (L := L) (sl := sl) (fun t ht => (HPS.out t ht).2) i (by have := HLEN.out; omega)⟩
    clear hnn
    go_enter Try.func39, Try.ntmps39
    go_wp2_with (first | ((with_reducible refine gate_dst (N := 3) rfl ?_); refine fr_box rfl rfl (f := (⟨(L : Int), (H : Int), sl⟩ : Fr)) rfl HF.out HA.out ?_; intro gp w_ hA; (try simp only [List.cons_append, List.nil_append] at hA); replace HA := Aside0.mk hA; clear hA) | (refine fr_load rfl rfl rfl HA.out List.mem_cons_self ?_))
    have hcall := refCheck_calls A0 c0 l0 (⟨(L : Int), (H : Int), sl⟩ : Fr) HF.out vb w_ (Kd.C_below HR0.out HA.out.below) HC0.out HV0.out HV.out
    rw [HEA.out] at hcall
    refine hcall.mono ?_
    clear hcall
    rintro e w_ ⟨rfl, hb⟩
    replace HA := Aside0.mk (HA.out.step hb)
    clear hb
    go_wp2
    go_loopw [8, 7] (fun v8 v7 wr => ∃ i : Nat, v8 = .int .i64 (i : Int) ∧ i ≤ n ∧ v7 = .string (accS ps L sl i) ∧ Aside0 (Frs w [(gp, (⟨(L : Int), (H : Int), sl⟩ : Fr))] wr)) (fun v8 _ _ => ((n : Int) - intOf v8).toNat)
    case atStart => exact ⟨0, rfl, Nat.zero_le _, rfl, HA⟩
    case round =>
      obtain ⟨i, rfl, hi, rfl, HA⟩ := hrel
      have HSS0 := HSZ.out i (by have := HLE.out; omega)
      by_cases c1 : i < n
      · have c1c : decide (i < n) = true := decide_eq_true c1
        have c1b : decide ((i : Int) < (n : Int)) = true := decide_eq_true (by omega)
        have p1 : (0 ≤ (i : Int)) = True := eq_true (by omega)
        have p2 : ((i : Int) < 24) = True := eq_true (by have := HLE.out; omega)
        have HI : Aside0 (i < 24) := ⟨by have := HLE.out; omega⟩
        have HIN : Aside0 (i < n) := ⟨c1⟩
        have hil : i < sl.length := by have := HLEN.out; have := HLE.out; omega
        have hg : sl.getD i 0 = sl[i] := by rw [List.getD_eq_getElem?_getD, List.getElem?_eq_getElem hil]; rfl
        have hpp := HPS.out sl[i] (List.getElem_mem hil)
        rw [← hg] at hpp
        have hts : accS ps L sl (i + 1) = (if i = L then accS ps L sl i ++ ⟨#[32, 124, 32]⟩ else if 0 < i then accS ps L sl i ++ ⟨#[32]⟩ else accS ps L sl i) ++ ps (sl.getD i 0) := rfl
        obtain ⟨t, htt⟩ : ∃ t, sl.getD i 0 = t := ⟨_, rfl⟩
        rw [htt] at hpp hts
        have HTT := Aside0.mk htt
        obtain ⟨s, hs⟩ : ∃ s, accS ps L sl i = s := ⟨_, rfl⟩
        obtain ⟨q, hq⟩ : ∃ q, ps t = q := ⟨_, rfl⟩
        rw [hs, hq] at hts
        rw [hq] at hpp
        rw [hs] at HSS0 ⊢
        have HPP := Aside0.mk hpp.1
        have HQS := Aside0.mk hpp.2
        have HSS : Aside0 (s.size ≤ 700) := ⟨by have := HI.out; omega⟩
        have HW9 : Aside0 (wrap64 ((i : Int) + 1) = ((i + 1 : Nat) : Int)) := ⟨by have := HLE.out; unfold wrap64; omega⟩
        clear hpp hg hil htt hs hq HSS0
        by_cases e1 : i = L
        · rw [if_pos e1] at hts
          have HTS := Aside0.mk hts
          have e1b : ((i : Int) == (L : Int)) = true := by rw [beq_iff_eq]; omega
          clear hts e1
          have g1 : (9223372036854775807 < s.size + 3) = False := eq_false (by have := HSS.out; omega)
          have g2 : (9223372036854775807 < s.size + 1) = False := eq_false (by have := HSS.out; omega)
          have g3 : (9223372036854775807 < (s ++ ⟨#[32, 124, 32]⟩).size + q.size) = False := eq_false (by have := HSS.out; have := HQS.out; have z3 : (ByteArray.mk #[32, 124, 32]).size = 3 := rfl; have z1 : (ByteArray.mk #[32]).size = 1 := rfl; first | omega | (rw [ByteArray.size_append]; omega))
          have g4 : (9223372036854775807 < s.size + 3 + q.size) = False := eq_false (by have := HSS.out; have := HQS.out; omega)
          have g5 : (9223372036854775807 < s.size + 1 + q.size) = False := eq_false (by have := HSS.out; have := HQS.out; omega)
          go_wp2_with (first | (refine fr_load0 rfl rfl rfl HA.out List.mem_cons_self ?_) | (refine fr_load1 rfl rfl rfl HA.out List.mem_cons_self ?_) | (refine fr_loadt rfl rfl (i := i) rfl HA.out List.mem_cons_self HI.out HTT.out ?_))
          refine (provisoref02_Print.calls A0 c0 l0 t q _ (Kd.C_below HR0.out HA.out.below) HC0.out HPP.out).mono ?_
          rintro e w_ ⟨rfl, m, rfl⟩
          replace HA := Aside0.mk (HA.out.drewN m)
          generalize World.drewN _ m = w_ at HA ⊢
          go_wp2
          exact ⟨⟨i + 1, (by first | rfl | rw [HW9.out]), HIN.out, by rw [HTS.out], HA⟩, by have := HIN.out; simp [intOf]; omega⟩
        · rw [if_neg e1] at hts
          have e1b : ((i : Int) == (L : Int)) = false := by rw [beq_eq_false_iff_ne]; omega
          by_cases e2 : 0 < i
          · rw [if_pos e2] at hts
            have HTS := Aside0.mk hts
            have e2b : decide ((i : Int) > 0) = true := decide_eq_true (by omega)
            have e2c : decide (0 < (i : Int)) = true := decide_eq_true (by omega)
            have e2d : (0 < (i : Int)) = True := eq_true (by omega)
            have e2e : (0 < i) = True := eq_true (by omega)
            have e2f : decide (0 < i) = true := decide_eq_true (by omega)
            clear hts e1 e2
            have g1 : (9223372036854775807 < s.size + 3) = False := eq_false (by have := HSS.out; omega)
            have g2 : (9223372036854775807 < s.size + 1) = False := eq_false (by have := HSS.out; omega)
            have g3 : (9223372036854775807 < (s ++ ⟨#[32]⟩).size + q.size) = False := eq_false (by have := HSS.out; have := HQS.out; have z3 : (ByteArray.mk #[32, 124, 32]).size = 3 := rfl; have z1 : (ByteArray.mk #[32]).size = 1 := rfl; first | omega | (rw [ByteArray.size_append]; omega))
            have g4 : (9223372036854775807 < s.size + 3 + q.size) = False := eq_false (by have := HSS.out; have := HQS.out; omega)
            have g5 : (9223372036854775807 < s.size + 1 + q.size) = False := eq_false (by have := HSS.out; have := HQS.out; omega)
            go_wp2_with (first | (refine fr_load0 rfl rfl rfl HA.out List.mem_cons_self ?_) | (refine fr_load1 rfl rfl rfl HA.out List.mem_cons_self ?_) | (refine fr_loadt rfl rfl (i := i) rfl HA.out List.mem_cons_self HI.out HTT.out ?_))
            refine (provisoref02_Print.calls A0 c0 l0 t q _ (Kd.C_below HR0.out HA.out.below) HC0.out HPP.out).mono ?_
            rintro e w_ ⟨rfl, m, rfl⟩
            replace HA := Aside0.mk (HA.out.drewN m)
            generalize World.drewN _ m = w_ at HA ⊢
            go_wp2
            exact ⟨⟨i + 1, (by first | rfl | rw [HW9.out]), HIN.out, by rw [HTS.out], HA⟩, by have := HIN.out; simp [intOf]; omega⟩
          · rw [if_neg e2] at hts
            have HTS := Aside0.mk hts
            have e2b : decide ((i : Int) > 0) = false := decide_eq_false (by omega)
            have e2c : decide (0 < (i : Int)) = false := decide_eq_false (by omega)
            have e2d : (0 < (i : Int)) = False := eq_false (by omega)
            have e2e : (0 < i) = False := eq_false (by omega)
            have e2f : decide (0 < i) = false := decide_eq_false (by omega)
            clear hts e1 e2
            have g1 : (9223372036854775807 < s.size + 3) = False := eq_false (by have := HSS.out; omega)
            have g2 : (9223372036854775807 < s.size + 1) = False := eq_false (by have := HSS.out; omega)
            have g3 : (9223372036854775807 < s.size + q.size) = False := eq_false (by have := HSS.out; have := HQS.out; have z3 : (ByteArray.mk #[32, 124, 32]).size = 3 := rfl; have z1 : (ByteArray.mk #[32]).size = 1 := rfl; first | omega | (rw [ByteArray.size_append]; omega))
            have g4 : (9223372036854775807 < s.size + 3 + q.size) = False := eq_false (by have := HSS.out; have := HQS.out; omega)
            have g5 : (9223372036854775807 < s.size + 1 + q.size) = False := eq_false (by have := HSS.out; have := HQS.out; omega)
            go_wp2_with (first | (refine fr_load0 rfl rfl rfl HA.out List.mem_cons_self ?_) | (refine fr_load1 rfl rfl rfl HA.out List.mem_cons_self ?_) | (refine fr_loadt rfl rfl (i := i) rfl HA.out List.mem_cons_self HI.out HTT.out ?_))
            refine (provisoref02_Print.calls A0 c0 l0 t q _ (Kd.C_below HR0.out HA.out.below) HC0.out HPP.out).mono ?_
            rintro e w_ ⟨rfl, m, rfl⟩
            replace HA := Aside0.mk (HA.out.drewN m)
            generalize World.drewN _ m = w_ at HA ⊢
            go_wp2
            exact ⟨⟨i + 1, (by first | rfl | rw [HW9.out]), HIN.out, by rw [HTS.out], HA⟩, by have := HIN.out; simp [intOf]; omega⟩
      · have c1c : decide (i < n) = false := decide_eq_false c1
        have c1b : decide ((i : Int) < (n : Int)) = false := decide_eq_false (by omega)
        obtain rfl : i = n := by omega
        obtain ⟨s, hs⟩ : ∃ s, accS ps L sl i = s := ⟨_, rfl⟩
        have HS := Aside0.mk hs
        rw [hs] at HSS0 ⊢
        have HSS : Aside0 (s.size ≤ 700) := ⟨by have := HLE.out; omega⟩
        have HFIN : Aside0 (refprintS vb ps (⟨(L : Int), (H : Int), sl⟩ : Fr) = ((if H = 0 then s ++ ⟨#[32, 124, 32]⟩ else s) ++ ⟨#[93]⟩, 0)) := ⟨by
          unfold refprintS
          rw [if_pos HEA.out]
          show ((if (H : Int) = 0 then accS ps (L : Int).toNat sl ((L : Int) + (H : Int)).toNat ++ _ else accS ps (L : Int).toNat sl ((L : Int) + (H : Int)).toNat) ++ _, (0 : Int)) = _
          rw [show ((L : Int) + (H : Int)).toNat = i by have := HN.out; omega, Int.toNat_natCast, hs]
          by_cases e : H = 0
          · rw [if_pos e, if_pos (by omega)]
          · rw [if_neg e, if_neg (by omega)]⟩
        clear hs HSS0
        have g1 : (9223372036854775807 < s.size + 3) = False := eq_false (by have := HSS.out; omega)
        have g2 : (9223372036854775807 < s.size + 1) = False := eq_false (by have := HSS.out; omega)
        have g3 : (9223372036854775807 < (s ++ ⟨#[32, 124, 32]⟩).size + 1) = False := eq_false (by have := HSS.out; have z3 : (ByteArray.mk #[32, 124, 32]).size = 3 := rfl; rw [ByteArray.size_append]; omega)
        have g4 : (9223372036854775807 < s.size + 3 + 1) = False := eq_false (by have := HSS.out; omega)
        have g5 : (9223372036854775807 < s.size + 4) = False := eq_false (by have := HSS.out; omega)
        by_cases e : H = 0
        · have eb : ((H : Int) == 0) = true := by rw [beq_iff_eq]; omega
          have ec : ((H : Int) = 0) = True := eq_true (by omega)
          have ed : (H = 0) = True := eq_true e
          have HE := Aside0.mk e
          clear e
          go_wp2_with (first | (refine fr_load0 rfl rfl rfl HA.out List.mem_cons_self ?_) | (refine fr_load1 rfl rfl rfl HA.out List.mem_cons_self ?_))
          go_ret2
          exact ⟨by rw [HFIN.out, if_pos HE.out]; rfl, HA.out.below⟩
        · have eb : ((H : Int) == 0) = false := by rw [beq_eq_false_iff_ne]; omega
          have ec : ((H : Int) = 0) = False := eq_false (by omega)
          have ed : (H = 0) = False := eq_false e
          have HE := Aside0.mk e
          clear e
          go_wp2_with (first | (refine fr_load0 rfl rfl rfl HA.out List.mem_cons_self ?_) | (refine fr_load1 rfl rfl rfl HA.out List.mem_cons_self ?_))
          go_ret2
          exact ⟨by rw [HFIN.out, if_neg HE.out]; rfl, HA.out.below⟩
  · have z1b : (ea != 0) = true := by rw [bne_iff_ne]; exact z1
    have Z1 := Aside0.mk z1
    clear z1
    go_enter Try.func39, Try.ntmps39
    go_wp2_with (first | ((with_reducible refine gate_dst (N := 3) rfl ?_); refine fr_box rfl rfl (f := f) rfl HF.out HA.out ?_; intro gp w_ hA; (try simp only [List.cons_append, List.nil_append] at hA); replace HA := Aside0.mk hA; clear hA) | (refine fr_load rfl rfl rfl HA.out List.mem_cons_self ?_))
    have hcall := refCheck_calls A0 c0 l0 f HF.out vb w_ (Kd.C_below HR0.out HA.out.below) HC0.out HV0.out HV.out
    rw [HEA.out] at hcall
    refine hcall.mono ?_
    clear hcall
    rintro e w_ ⟨rfl, hb⟩
    replace HA := Aside0.mk (HA.out.step hb)
    clear hb
    go_wp2
    go_ret2
    exact ⟨by unfold refprintS; rw [HEA.out, if_neg Z1.out]; rfl, HA.out.below⟩

def provisolaw03_FramesChecks.Facts (l0 : List S59) (a0 a1 : Int) (a2 : List Int) : Prop :=
  a2.length = 24 ∧ ∃ (k : Nat) (tb : Bool), provisolaw03_table.f k l0 = some tb ∧ (tb = true → ∃ (vb : Int → Bool) (rb : Int → Int) (ps : Int → ByteArray),
    provisoplain_Classes.f k l0 = some l0 ∧ provisoplain_SameClasses.f k l0 l0 = some true ∧ vb 0 = true ∧ rb 0 = 0 ∧
    (∀ t, t ∈ a2 → types_Valid.f l0 t = some (vb t) ∧ provisoref02_Valid.f l0 t = some (vb t) ∧ types_Rank.f k l0 t = some (rb t) ∧ provisoref02_Rank.f k l0 t = some (rb t) ∧ (0 ≤ rb t ∧ rb t ≤ 1000) ∧ types_Print.f l0 t = some (ps t) ∧ provisoref02_Print.f l0 t = some (ps t) ∧ (ps t).size ≤ 24) ∧
    refrankS vb rb ⟨a0, a1, a2⟩ = rankS vb rb ⟨a0, a1, a2⟩ ∧ refprintS vb ps ⟨a0, a1, a2⟩ = printS vb ps ⟨a0, a1, a2⟩)
set_option maxHeartbeats 6400000 in
set_option maxRecDepth 100000 in
theorem provisolaw03_FramesChecks.calls (A0 : Option Addr) (c0 : Nat) (l0 : List S59) (a0 a1 : Int) (a2 : List Int) (w : World) (hr0 : Kd.C k59 w A0 l0.length l0) (hc0 : l0.length ≤ c0) (h : provisolaw03_FramesChecks.Facts l0 a0 a1 a2) :
    Calls Try.prog 10 #[.slice A0 l0.length c0, .agg (⟨a0, a1, a2⟩ : Fr).a] w fun e w' => e = .returned (.bool true) ∧ Below w.heap.size w w' := by
  obtain ⟨hla, k, tb, htb, h⟩ := h
  obtain ⟨a, hae⟩ : ∃ a : Fr, a = ⟨a0, a1, a2⟩ := ⟨_, rfl⟩
  have ea2 : a2 = a.sl := by rw [hae]
  rw [← hae]
  rw [← hae, ea2] at h
  have HFA : Aside0 (a.ok) := ⟨by unfold Fr.ok; rw [← ea2]; exact hla⟩
  clear ea2 hla hae
  have HR0 := Aside0.mk hr0
  have HC0 := Aside0.mk hc0
  have HTB := Aside0.mk htb
  have HFACT := Aside0.mk h
  have HA := Aside0.mk (Frs.nil w)
  clear hr0 hc0 htb h
  go_enter Try.func10, Try.ntmps10
  go_wp2_with (first | ((with_reducible refine gate_dst (N := 3) rfl ?_); refine fr_box rfl rfl (f := a) rfl HFA.out HA.out ?_; intro ga w_ hA; (try simp only [List.cons_append, List.nil_append] at hA); replace HA := Aside0.mk hA; clear hA))
  refine (provisolaw03_table.calls k A0 c0 l0 tb w_ (Kd.C_below HR0.out HA.out.below) HC0.out HTB.out).mono ?_
  rintro e w_ ⟨rfl, hb⟩
  replace HA := Aside0.mk (HA.out.step hb)
  clear hb
  cases tb with
  | false =>
    go_wp2
    go_ret
    exact ⟨rfl, HA.out.below⟩
  | true =>
    obtain ⟨vb, rb, ps, hcls, hsame, hv0, hr0, hval, hrs, hpt⟩ := HFACT.out rfl
    have HCLS := Aside0.mk hcls
    have HSAME := Aside0.mk hsame
    have HV0 := Aside0.mk hv0
    have HVI : Aside0 (∀ t ∈ a.sl, types_Valid.f l0 t = some (vb t)) := ⟨fun t ht => (hval t ht).1⟩
    have HVR : Aside0 (∀ t ∈ a.sl, provisoref02_Valid.f l0 t = some (vb t)) := ⟨fun t ht => (hval t ht).2.1⟩
    have HRI : Aside0 (∀ t ∈ a.sl, types_Rank.f k l0 t = some (rb t) ∧ 0 ≤ rb t ∧ rb t ≤ 1000) := ⟨fun t ht => ⟨(hval t ht).2.2.1, (hval t ht).2.2.2.2.1⟩⟩
    have HRR : Aside0 (∀ t ∈ a.sl, provisoref02_Rank.f k l0 t = some (rb t) ∧ 0 ≤ rb t ∧ rb t ≤ 1000) := ⟨fun t ht => ⟨(hval t ht).2.2.2.1, (hval t ht).2.2.2.2.1⟩⟩
    have HPI : Aside0 (∀ t ∈ a.sl, types_Print.f l0 t = some (ps t) ∧ (ps t).size ≤ 24) := ⟨fun t ht => ⟨(hval t ht).2.2.2.2.2.1, (hval t ht).2.2.2.2.2.2.2⟩⟩
    have HPR : Aside0 (∀ t ∈ a.sl, provisoref02_Print.f l0 t = some (ps t) ∧ (ps t).size ≤ 24) := ⟨fun t ht => ⟨(hval t ht).2.2.2.2.2.2.1, (hval t ht).2.2.2.2.2.2.2⟩⟩
    obtain ⟨u, hu⟩ : ∃ u : Int, checkS vb a = u := ⟨_, rfl⟩
    obtain ⟨rk, hrk⟩ : ∃ r : Int × Int, rankS vb rb a = r := ⟨_, rfl⟩
    obtain ⟨pr, hpr⟩ : ∃ p : ByteArray × Int, printS vb ps a = p := ⟨_, rfl⟩
    rw [hrk] at hrs
    rw [hpr] at hpt
    obtain ⟨r1, r2⟩ := rk
    obtain ⟨q1, q2⟩ := pr
    have HU := Aside0.mk hu
    have HRK := Aside0.mk hrk
    have HRS := Aside0.mk hrs
    have HPK := Aside0.mk hpr
    have HPT := Aside0.mk hpt
    clear hcls hsame hv0 hr0 hval HFACT HTB hu hrk hpr hrs hpt
    go_wp2_with fail
    refine (provisoplain_Classes.calls k A0 c0 l0 l0 _ (Kd.C_below HR0.out HA.out.below) HC0.out HCLS.out).mono ?_
    rintro e_ wc ⟨v2, rfl, hS, hb⟩
    obtain ⟨A2, c2, rfl, hc2, hC2⟩ := Kd.R_reads (Kd.S_R hS)
    replace HA := Aside0.mk (HA.out.step hb)
    have HC2 := Aside0.mk hc2
    have HG := Aside0.mk hC2
    have HB := Aside0.mk (Frs.nil wc)
    clear hS hc2 hC2 hb
    go_upto_region 4 with (fail)
    have hA := HA.out
    have hB := HB.out
    refine wp_region_held_drew (S := (fun w' => Frs w [(ga, a)] w' ∧ Frs wc [] w')) (by kernel_rfl) ?_ (fun hHeld => ?_)
    · exact ⟨hA.drewN 1, hB.drewN 1⟩
    clear hA hB
    refine take_dst (i := 0) (v := ?_) 19 rfl rfl (by kernel_rfl) (by kernel_rfl) (by kernel_rfl) (fun _ _ _ h => h) (Or.inl ⟨by rfl, ?_⟩) (by assumption) ?_
    rotate_left
    · intro w hSw
      go_simp
      try with_reducible rfl
    (try simp only [Act.put, List.setIfInBounds_toArray, List.set_cons_zero, List.set_cons_succ])
    refine take_dst (i := 1) 20 rfl rfl (by kernel_rfl) (by kernel_rfl) (by kernel_rfl) (fun _ _ _ h => h) (fr_yields rfl rfl rfl (fun _ h => h.1) List.mem_cons_self) (by assumption) ?_
    (try simp only [Act.put, List.setIfInBounds_toArray, List.set_cons_zero, List.set_cons_succ])
    refine take_dst (i := 3) (v := ?_) 22 rfl rfl (by kernel_rfl) (by kernel_rfl) (by kernel_rfl) (fun _ _ _ h => h) (Or.inl ⟨by rfl, ?_⟩) (by assumption) ?_
    rotate_left
    · intro w hSw
      go_simp
      try with_reducible rfl
    (try simp only [Act.put, List.setIfInBounds_toArray, List.set_cons_zero, List.set_cons_succ])
    refine take_dst (i := 4) 23 rfl rfl (by kernel_rfl) (by kernel_rfl) (by kernel_rfl) (fun _ _ _ h => h) (fr_yields rfl rfl rfl (fun _ h => h.1) List.mem_cons_self) (by assumption) ?_
    (try simp only [Act.put, List.setIfInBounds_toArray, List.set_cons_zero, List.set_cons_succ])
    refine wpAnyH_ready (rs := [2]) (by kernel_rfl) (by simp) ?_
    refine AllReadyH.cons rfl (fun K hK => ?_) AllReadyH.nil
    go_simp
    have hcall := Check_calls A2 c2 l0 a HFA.out vb _ (Kd.C_below HG.out hHeld.2.below) HC2.out HVI.out
    rw [HU.out] at hcall
    refine hcall.mono ?_
    clear hcall
    rintro e w9 ⟨rfl, hb⟩
    have h9 : Frs w [(ga, a)] w9 ∧ Frs wc [] w9 := ⟨hHeld.1.step hb, hHeld.2.step hb⟩
    go_simp
    refine hK.out _ _ h9 (fun hHeld => ?_)
    (try simp only [Act.put, List.setIfInBounds_toArray, List.set_cons_zero, List.set_cons_succ])
    clear hK K h9 hb
    refine wpAnyH_ready (rs := [5]) (by kernel_rfl) (by simp) ?_
    refine AllReadyH.cons rfl (fun K hK => ?_) AllReadyH.nil
    go_simp
    have hcall := refCheck_calls A0 c0 l0 a HFA.out vb _ (Kd.C_below HR0.out hHeld.1.below) HC0.out HV0.out HVR.out
    rw [HU.out] at hcall
    refine hcall.mono ?_
    clear hcall
    rintro e w9 ⟨rfl, hb⟩
    have h9 : Frs w [(ga, a)] w9 ∧ Frs wc [] w9 := ⟨hHeld.1.step hb, hHeld.2.step hb⟩
    go_simp
    refine hK.out _ _ h9 (fun hHeld => ?_)
    (try simp only [Act.put, List.setIfInBounds_toArray, List.set_cons_zero, List.set_cons_succ])
    clear hK K h9 hb
    refine take_dst (i := 6) (v := ?_) 25 rfl rfl (by kernel_rfl) (by kernel_rfl) (by kernel_rfl) (fun _ _ _ h => h) (Or.inl ⟨by rfl, ?_⟩) (by assumption) ?_
    rotate_left
    · intro w hSw
      go_simp
      try with_reducible rfl
    (try simp only [Act.put, List.setIfInBounds_toArray, List.set_cons_zero, List.set_cons_succ])
    refine wpAnyH_done (by kernel_rfl) ?_ _
    have HA := Aside0.mk hHeld.1
    have HB := Aside0.mk hHeld.2
    clear hHeld
    go_wp2_with (first | ((with_reducible refine gate_dst (N := 28) rfl ?_); refine fr_load rfl rfl rfl HA.out (by first | exact List.mem_cons_self | exact List.mem_cons_of_mem _ List.mem_cons_self | exact List.mem_cons_of_mem _ (List.mem_cons_of_mem _ List.mem_cons_self) | exact List.mem_cons_of_mem _ (List.mem_cons_of_mem _ (List.mem_cons_of_mem _ List.mem_cons_self))) ?_))
    have hcall := Rank_calls k A2 c2 l0 a HFA.out vb rb _ (Kd.C_below HG.out HB.out.below) HC2.out HVI.out HRI.out
    rw [HRK.out] at hcall
    refine hcall.mono ?_
    clear hcall
    rintro e w_ ⟨rfl, hb⟩
    replace HA := Aside0.mk (HA.out.step hb)
    replace HB := Aside0.mk (HB.out.step hb)
    clear hb
    go_wp2_with (first | ((with_reducible refine gate_dst (N := 34) rfl ?_); refine fr_load rfl rfl rfl HA.out (by first | exact List.mem_cons_self | exact List.mem_cons_of_mem _ List.mem_cons_self | exact List.mem_cons_of_mem _ (List.mem_cons_of_mem _ List.mem_cons_self) | exact List.mem_cons_of_mem _ (List.mem_cons_of_mem _ (List.mem_cons_of_mem _ List.mem_cons_self))) ?_))
    have hcall := refRank_calls k A0 c0 l0 a HFA.out vb rb _ (Kd.C_below HR0.out HA.out.below) HC0.out HV0.out HVR.out HRR.out
    rw [HRS.out] at hcall
    refine hcall.mono ?_
    clear hcall
    rintro e w_ ⟨rfl, hb⟩
    replace HA := Aside0.mk (HA.out.step hb)
    replace HB := Aside0.mk (HB.out.step hb)
    clear hb
    go_wp2_with (first | ((with_reducible refine gate_dst (N := 40) rfl ?_); refine fr_load rfl rfl rfl HA.out (by first | exact List.mem_cons_self | exact List.mem_cons_of_mem _ List.mem_cons_self | exact List.mem_cons_of_mem _ (List.mem_cons_of_mem _ List.mem_cons_self) | exact List.mem_cons_of_mem _ (List.mem_cons_of_mem _ (List.mem_cons_of_mem _ List.mem_cons_self))) ?_))
    have hcall := Print_calls A2 c2 l0 a HFA.out vb ps _ (Kd.C_below HG.out HB.out.below) HC2.out HVI.out HPI.out
    rw [HPK.out] at hcall
    refine hcall.mono ?_
    clear hcall
    rintro e w_ ⟨rfl, hb⟩
    replace HA := Aside0.mk (HA.out.step hb)
    replace HB := Aside0.mk (HB.out.step hb)
    clear hb
    go_wp2_with (first | ((with_reducible refine gate_dst (N := 46) rfl ?_); refine fr_load rfl rfl rfl HA.out (by first | exact List.mem_cons_self | exact List.mem_cons_of_mem _ List.mem_cons_self | exact List.mem_cons_of_mem _ (List.mem_cons_of_mem _ List.mem_cons_self) | exact List.mem_cons_of_mem _ (List.mem_cons_of_mem _ (List.mem_cons_of_mem _ List.mem_cons_self))) ?_))
    have hcall := refPrint_calls A0 c0 l0 a HFA.out vb ps _ (Kd.C_below HR0.out HA.out.below) HC0.out HV0.out HVR.out HPR.out
    rw [HPT.out] at hcall
    refine hcall.mono ?_
    clear hcall
    rintro e w_ ⟨rfl, hb⟩
    replace HA := Aside0.mk (HA.out.step hb)
    replace HB := Aside0.mk (HB.out.step hb)
    clear hb
    go_wp2_with fail
    refine (provisoplain_SameClasses.calls k A2 c2 l0 A0 c0 l0 true _ (Kd.C_below HG.out HB.out.below) HC2.out (Kd.C_below HR0.out HA.out.below) HC0.out HSAME.out).mono ?_
    rintro e_ w_ ⟨rfl, hb⟩
    replace HA := Aside0.mk (HA.out.step hb)
    clear hb
    go_wp2
    go_ret
    exact ⟨rfl, HA.out.below⟩

end Go.Proofs.Ytgjnmpgmbhbbhaa.P

end

section
namespace Go.Proofs.Ytgjnmpgmbhbbhaa.P
open Go.RowKit Go.Proofs.YtgjnmpgmbhbbhaaW.PrintWords
def provisolaw03_FramesChecks.Pure : Prop := ∀ (l0 : List (S59)) (a1_0 : Int) (a1_1 : Int) (a1_2 : List (Int)), (fun l : List (S59) => l.length ≤ 9223372036854775807 ∧ l.length * 48 ≤ 140737488351232 ∧ ∀ x ∈ l, Ok59 x) l0 → (fun n : Int => (Lit.int .i64 n).wf = true) a1_0 → (fun n : Int => (Lit.int .i64 n).wf = true) a1_1 → (fun l : List (Int) => l.length = 24 ∧ ∀ x ∈ l, (fun n : Int => (Lit.int .u8 n).wf = true) x) a1_2 → provisolaw03_FramesChecks.Facts l0 a1_0 a1_1 a1_2
end Go.Proofs.Ytgjnmpgmbhbbhaa.P

end

section
namespace Go.Proofs.Ytgjnmpgmbhbbhaa.P
open Go.RowKit Go.Proofs.YtgjnmpgmbhbbhaaW.PrintWords Go.Proofs.YtgjnmpgmbhbbhaaW.PrintLast Go.Proofs.YtgjnmpgmbhbbhaaW.PrintMore
set_option linter.unusedVariables false
set_option linter.unusedSimpArgs false

theorem w_next {i : Int} {n : Nat} (h0 : 0 ≤ i) (h : i < (n : Int)) (hn : n ≤ 9223372036854775807) : wrap64 (i + 1) = i + 1 := by
  unfold wrap64
  omega

def sign (i c : Int) : Bool :=
  (decide (97 ≤ c) && decide (c ≤ 122)) || (decide (65 ≤ c) && decide (c ≤ 90)) || (decide (0 < i) && ((decide (48 ≤ c) && decide (c ≤ 57)) || decide (c = 95)))
def tailOk (s : ByteArray) : Nat → Bool
  | 0 => true
  | d + 1 => sign ((s.size : Int) - (d + 1)) (bt s ((s.size : Int) - (d + 1))) && tailOk s d
def nameOk (s : ByteArray) : Bool := decide (1 ≤ s.size) && decide (s.size ≤ 24) && tailOk s s.size
theorem ref_name_tail (s : ByteArray) (hn : s.size ≤ 140737488351232) (d : Nat) : ∀ (i : Int), 0 ≤ i → i ≤ s.size → (s.size : Int) - i = d → Ev (fun k => provisoref02_IsName.l0 k s i) (tailOk s d) := by
  induction d with
  | zero =>
    intro i h0 h1 hd
    exact Ev.step (f := fun _ => some true) (fun k => by simp only [provisoref02_IsName.l0]; rw [if_neg (by omega)]) (Ev.now _)
  | succ d ih =>
    intro i h0 h1 hd
    have hlt : i < (s.size : Int) := by omega
    have hi : (s.size : Int) - (d + 1) = i := by omega
    have h := ih (i + 1) (by omega) (by omega) (by omega)
    cases hs : sign i (bt s i) with
    | true =>
      refine Ev.step (fun k => ?_) (show Ev _ (tailOk s (d + 1)) from by simp only [tailOk, hi, hs, Bool.true_and]; exact h)
      simp only [provisoref02_IsName.l0]
      rw [if_pos hlt, if_pos h0, w_next h0 hlt (by omega)]
      revert hs
      generalize bt s i = c
      intro hs
      by_cases a1 : 97 ≤ c <;> by_cases a2 : c ≤ 122 <;> by_cases a3 : 65 ≤ c <;> by_cases a4 : c ≤ 90 <;> by_cases a5 : i = 0 <;> by_cases a6 : c < 48 <;> by_cases a7 : 57 < c <;> by_cases a8 : c = 95 <;> (try omega) <;> (have a9 : 0 < i ∨ i = 0 := by omega) <;> simp [sign, a1, a2, a3, a4, a5, a6, a7, a8] at hs ⊢ <;> omega
    | false =>
      refine Ev.step (f := fun _ => some false) (fun k => ?_) (show Ev _ (tailOk s (d + 1)) from by simp only [tailOk, hi, hs, Bool.false_and]; exact Ev.now _)
      simp only [provisoref02_IsName.l0]
      rw [if_pos hlt, if_pos h0, w_next h0 hlt (by omega)]
      revert hs
      generalize bt s i = c
      intro hs
      by_cases a1 : 97 ≤ c <;> by_cases a2 : c ≤ 122 <;> by_cases a3 : 65 ≤ c <;> by_cases a4 : c ≤ 90 <;> by_cases a5 : i = 0 <;> by_cases a6 : c < 48 <;> by_cases a7 : 57 < c <;> by_cases a8 : c = 95 <;> (try omega) <;> (have a9 : 0 < i ∨ i = 0 := by omega) <;> simp [sign, a1, a2, a3, a4, a5, a6, a7, a8] at hs ⊢ <;> omega
theorem ref_name (s : ByteArray) (hn : s.size ≤ 140737488351232) : Ev (fun k => provisoref02_IsName.f k s) (nameOk s) := by
  have h := ref_name_tail s hn s.size 0 (by omega) (by omega) (by omega)
  by_cases a1 : (s.size : Int) < 1
  · have e : nameOk s = false := by unfold nameOk; rw [decide_eq_false (by omega)]; simp
    rw [e]
    refine Ev.congr (f := fun k => provisoref02_IsName.j0 k s true) (fun k => by unfold provisoref02_IsName.f; rw [if_pos a1]) ?_
    exact Ev.step (f := fun _ => some false) (fun k => by simp only [provisoref02_IsName.j0]; rfl) (Ev.now _)
  · refine Ev.congr (f := fun k => provisoref02_IsName.j0 k s (decide ((s.size : Int) > 24))) (fun k => by unfold provisoref02_IsName.f; rw [if_neg a1]) ?_
    by_cases a2 : (s.size : Int) > 24
    · have e : nameOk s = false := by unfold nameOk; rw [decide_eq_false (p := s.size ≤ 24) (by omega)]; simp
      rw [e]
      exact Ev.step (f := fun _ => some false) (fun k => by simp only [provisoref02_IsName.j0]; simp [a2]) (Ev.now _)
    · have e : nameOk s = tailOk s s.size := by unfold nameOk; rw [decide_eq_true (p := s.size ≤ 24) (by omega), decide_eq_true (p := 1 ≤ s.size) (by omega)]; simp
      rw [e]
      exact Ev.step (fun k => by simp only [provisoref02_IsName.j0]; simp [a2]) h

theorem str_eq (a b : ByteArray) : a.toList = b.toList ↔ a = b :=
  ⟨fun h => by rw [ByteArray.toList_eq, ByteArray.toList_eq] at h; exact Go.WideShapes.bytes_inj h, fun h => by rw [h]⟩
def words6 : List ByteArray := [⟨#[116, 111, 112]⟩, ⟨#[105, 110, 116]⟩, ⟨#[98, 111, 111, 108]⟩, ⟨#[110, 117, 108, 108]⟩, ⟨#[105, 110, 116, 115]⟩, ⟨#[97, 110, 121]⟩]
def isWordB (s : ByteArray) : Bool := words6.any fun t => decide (t = s)
theorem ref_word (s : ByteArray) : Ev (fun k => provisoref02_isWord.f k s) (isWordB s) := by
  have step : ∀ (x : Int) (t : ByteArray) (r : Bool), 0 ≤ x → x ≤ 5 → provisoref02_word.f x = some t → Ev (fun k => provisoref02_isWord.l0 k s (x + 1)) r → Ev (fun k => provisoref02_isWord.l0 k s x) (decide (t = s) || r) := by
    intro x t r h0 h5 ht h
    by_cases e : t = s
    · rw [decide_eq_true e, Bool.true_or]
      exact Ev.step (f := fun _ => some true) (fun k => by simp only [provisoref02_isWord.l0]; rw [if_pos (by omega), ht]; simp [e]) (Ev.now _)
    · rw [decide_eq_false e, Bool.false_or]
      refine Ev.step (fun k => ?_) h
      simp only [provisoref02_isWord.l0]
      rw [if_pos (by omega), ht]
      simp only [Option.bind_some, str_eq]
      rw [if_neg e, show (x + 1) % 256 = x + 1 from by omega]
  have h6 : Ev (fun k => provisoref02_isWord.l0 k s 6) false := Ev.step (f := fun _ => some false) (fun k => by simp only [provisoref02_isWord.l0]; rw [if_neg (by omega)]) (Ev.now _)
  have h := step 0 _ _ (by omega) (by omega) rfl (step 1 _ _ (by omega) (by omega) rfl (step 2 _ _ (by omega) (by omega) rfl (step 3 _ _ (by omega) (by omega) rfl (step 4 _ _ (by omega) (by omega) rfl (step 5 _ _ (by omega) (by omega) rfl h6)))))
  exact h

abbrev Tbl := List S59
def par (l : Tbl) (c : Int) : Int := (rd_T59 l c).f1
def nam (l : Tbl) (c : Int) : ByteArray := (rd_T59 l c).f0
def own (l : Tbl) (c : Int) : List S62 := (rd_T59 l c).f2
def Dec (l : Tbl) (n : Int) : Prop := ∀ i : Int, 0 ≤ i → i < n → par l i < i
def fieldsOf (l : Tbl) (c : Int) : List S62 := (climbL l c).reverse.flatMap fun i => own l i
theorem line_tells (l : Tbl) (n : Int) (hn : n ≤ l.length) (hl : l.length * 48 ≤ 140737488351232) (hd : Dec l n) : ∀ (d : Nat) (c : Int) (acc : List Int), c < n → (c + 1).toNat ≤ d → (acc.length : Int) + c < l.length → acc.length ≤ l.length →
    Ev (fun k => provisoref02_Line.l0 k l c acc) (acc ++ climbL l c)
  | 0, c, acc, _, h, _, _ => by
    rw [climbL_out l c (by omega), List.append_nil]
    exact Ev.step (f := fun _ => some acc) (fun k => by simp only [provisoref02_Line.l0]; rw [if_neg (by omega)]) (Ev.now _)
  | d + 1, c, acc, hc, hcd, ha, ha2 => by
    by_cases h0 : 0 ≤ c
    · have hp := hd c h0 hc
      have hcl : c < (l.length : Int) := by omega
      rw [climbL_in l c h0 hcl hp]
      have hx := line_tells l n hn hl hd d (par l c) (acc ++ [c]) (by omega) (by omega) (by simp; omega) (by simp; omega)
      rw [List.append_assoc] at hx
      refine Ev.step (fun k => ?_) hx
      simp only [provisoref02_Line.l0]
      rw [if_pos h0, if_pos hcl, if_pos (by omega), if_pos (by omega), if_pos h0]
      rfl
    · rw [climbL_out l c (by omega), List.append_nil]
      exact Ev.step (f := fun _ => some acc) (fun k => by simp only [provisoref02_Line.l0]; rw [if_neg (by omega)]) (Ev.now _)
theorem ref_line (l : Tbl) (n : Int) (hn : n ≤ l.length) (hl : l.length * 48 ≤ 140737488351232) (hd : Dec l n) (c : Int) (hc : c < n) : Ev (fun k => provisoref02_Line.f k l c) (climbL l c) := by
  by_cases h0 : l.length = 0
  · rw [climbL_out l c (by omega)]
    refine Ev.congr (f := fun k => provisoref02_Line.l0 k l c []) (fun k => rfl) ?_
    exact Ev.step (f := fun _ => some []) (fun k => by simp only [provisoref02_Line.l0]; rw [if_neg (by omega)]) (Ev.now _)
  · have := line_tells l n hn hl hd (c + 1).toNat c [] hc (Nat.le_refl _) (by simp; omega) (by simp)
    rw [List.nil_append] at this
    exact this
theorem fields_tells (l : Tbl) (line : List Int) (hm : ∀ x ∈ line, 0 ≤ x ∧ x < (l.length : Int)) (hl : l.length * 48 ≤ 140737488351232) (hll : line.length ≤ l.length) (hlim : (line.reverse.flatMap fun i => own l i).length < 5864062014805) : ∀ (d : Nat), d ≤ line.length →
    Ev (fun k => provisoref02_Fields.l0 k l line ((line.drop d).reverse.flatMap fun i => own l i) ((d : Int) - 1)) (line.reverse.flatMap fun i => own l i)
  | 0, _ => by
    rw [List.drop_zero]
    exact Ev.step (f := fun _ => some _) (fun k => by simp only [provisoref02_Fields.l0]; rw [if_neg (by omega)]) (Ev.now _)
  | d + 1, hd => by
    have ih := fields_tells l line hm hl hll hlim d (by omega)
    have hrd : rd line ((d : Nat) : Int) = line[d]'(by omega) := by simp [rd, List.getD_eq_getElem?_getD, show d < line.length by omega]
    have hmd := hm (line[d]'(by omega)) (List.getElem_mem _)
    have e1 : ((line.drop d).reverse.flatMap fun i => own l i) = ((line.drop (d + 1)).reverse.flatMap fun i => own l i) ++ own l (line[d]'(by omega)) := by
      rw [List.drop_eq_getElem_cons (by omega), List.reverse_cons, List.flatMap_append]
      simp
    have hle : ((line.drop d).reverse.flatMap fun i => own l i).length ≤ (line.reverse.flatMap fun i => own l i).length := by
      have : line = line.take d ++ line.drop d := by simp
      conv => rhs; rw [this, List.reverse_append, List.flatMap_append, List.length_append]
      omega
    rw [e1] at ih hle
    rw [List.length_append] at hle
    refine Ev.step (fun k => ?_) ih
    simp only [provisoref02_Fields.l0]
    rw [show ((d + 1 : Nat) : Int) - 1 = (d : Int) by omega, hrd, if_pos (by omega), if_pos (by omega), if_pos (by omega), if_pos hmd.1, if_pos hmd.2]
    rw [if_pos (by unfold own at hle hlim ⊢; omega), show wrap64 ((d : Int) - 1) = (d : Int) - 1 by unfold wrap64; omega]
    rfl
theorem ref_fields (l : Tbl) (n : Int) (hn : n ≤ l.length) (hl : l.length * 48 ≤ 140737488351232) (hd : Dec l n) (c : Int) (hc : c < n) (hlim : (fieldsOf l c).length < 5864062014805) : Ev (fun k => provisoref02_Fields.f k l c) (fieldsOf l c) := by
  have hll := climbL_length l c
  have h := fields_tells l (climbL l c) (climbL_mem l c) hl hll hlim (climbL l c).length (Nat.le_refl _)
  rw [List.drop_length, List.reverse_nil, List.flatMap_nil] at h
  refine Ev.congr (fun k => rfl) (Ev.bind (ref_line l n hn hl hd c hc) (f := fun k t => provisoref02_Fields.l0 k l t [] (wrap64 ((t.length : Int) - 1))) ?_)
  rw [show wrap64 (((climbL l c).length : Int) - 1) = ((climbL l c).length : Int) - 1 by unfold wrap64; omega]
  exact h

def hasB (fs : List S62) (s : ByteArray) : Bool := fs.any fun f => decide (f.f0 = s)
theorem has_tells (fs : List S62) (s : ByteArray) (hl : fs.length ≤ 9223372036854775807) : ∀ (d i : Nat), fs.length - i = d → i ≤ fs.length → Ev (fun k => provisoref02_has.l0 k fs s (i : Int)) (hasB (fs.drop i) s)
  | 0, i, hd, hi => by
    rw [List.drop_of_length_le (by omega)]
    exact Ev.step (f := fun _ => some false) (fun k => by simp only [provisoref02_has.l0]; rw [if_neg (by omega)]) (Ev.now _)
  | d + 1, i, hd, hi => by
    have ih := has_tells fs s hl d (i + 1) (by omega) (by omega)
    have hlt : i < fs.length := by omega
    have hrd : rd_T62 fs ((i : Nat) : Int) = fs[i] := by simp [rd_T62, List.getD_eq_getElem?_getD, hlt]
    rw [List.drop_eq_getElem_cons hlt]
    by_cases e : fs[i].f0 = s
    · have e2 : hasB (fs[i] :: fs.drop (i + 1)) s = true := by unfold hasB; rw [List.any_cons, decide_eq_true e, Bool.true_or]
      rw [e2]
      exact Ev.step (f := fun _ => some true) (fun k => by simp only [provisoref02_has.l0]; rw [if_pos (by omega), if_pos (by omega), hrd]; simp [e]) (Ev.now _)
    · have e2 : hasB (fs[i] :: fs.drop (i + 1)) s = hasB (fs.drop (i + 1)) s := by unfold hasB; rw [List.any_cons, decide_eq_false e, Bool.false_or]
      rw [e2]
      refine Ev.step (fun k => ?_) ih
      simp only [provisoref02_has.l0]
      rw [if_pos (by omega), if_pos (by omega), hrd, if_neg (by rw [str_eq]; exact e), w_next (n := fs.length) (by omega) (by omega) hl]
      rfl
theorem ref_has (fs : List S62) (s : ByteArray) (hl : fs.length ≤ 9223372036854775807) : Ev (fun k => provisoref02_has.f k fs s) (hasB fs s) := by
  have := has_tells fs s hl fs.length 0 (by omega) (by omega)
  rw [List.drop_zero] at this
  exact this
def validB (l : Tbl) (a : Int) : Bool := decide (a ≤ 5) || (decide (16 ≤ a) && decide (a - 16 < (l.length : Int)))
theorem ref_valid (l : Tbl) (a : Int) (ha : 0 ≤ a ∧ a ≤ 255) : provisoref02_Valid.f l a = some (validB l a) := by
  unfold provisoref02_Valid.f validB
  by_cases h1 : a ≤ 5
  · simp [h1]
  · by_cases h2 : a ≥ 16
    · rw [if_neg h1, if_pos h2, show (a - 16) % 256 = a - 16 by omega]
      simp [h1, h2]
    · rw [if_neg h1, if_neg h2]
      simp [h1, h2]
def storedB (l : Tbl) (a : Int) : Bool := validB l a && decide (a ≠ 0) && decide (a ≠ 3)
theorem ref_stored (l : Tbl) (a : Int) (ha : 0 ≤ a ∧ a ≤ 255) : provisoref02_Stored.f l a = some (storedB l a) := by
  unfold provisoref02_Stored.f storedB
  rw [ref_valid l a ha]
  simp only [Option.bind_some]
  cases validB l a <;> by_cases h0 : a = 0 <;> by_cases h3 : a = 3 <;> simp [h0, h3]
end Go.Proofs.Ytgjnmpgmbhbbhaa.P


end

section
namespace Go.Proofs.Ytgjnmpgmbhbbhaa.P
open Go.RowKit Go.Proofs.YtgjnmpgmbhbbhaaW.PrintWords Go.Proofs.YtgjnmpgmbhbbhaaW.PrintLast Go.Proofs.YtgjnmpgmbhbbhaaW.PrintMore
set_option linter.unusedVariables false
set_option linter.unusedSimpArgs false

def Sane (l : Tbl) : Prop := l.length ≤ 9223372036854775807 ∧ l.length * 48 ≤ 140737488351232 ∧ ∀ x ∈ l, Ok59 x
theorem rd_mem (l : Tbl) (c : Int) (h0 : 0 ≤ c) (h1 : c < (l.length : Int)) : rd_T59 l c ∈ l := by
  have h : c.toNat < l.length := by omega
  simp [rd_T59, List.getD_eq_getElem?_getD, h]
theorem Sane.size {l : Tbl} (h : Sane l) : l.length ≤ 2932031007320 := by have := h.2.1; omega
theorem Sane.nam {l : Tbl} (h : Sane l) {c : Int} (h0 : 0 ≤ c) (h1 : c < (l.length : Int)) : (nam l c).size ≤ 140737488351232 := (h.2.2 _ (rd_mem l c h0 h1)).1
theorem Sane.par {l : Tbl} (h : Sane l) {c : Int} (h0 : 0 ≤ c) (h1 : c < (l.length : Int)) : -9223372036854775808 ≤ par l c ∧ par l c ≤ 9223372036854775807 := by
  have := (h.2.2 _ (rd_mem l c h0 h1)).2.1
  simp [Lit.wf, IntKind.min, IntKind.max, IntKind.signed, IntKind.bits] at this
  exact this
theorem Sane.own {l : Tbl} (h : Sane l) {c : Int} (h0 : 0 ≤ c) (h1 : c < (l.length : Int)) : (own l c).length * 24 ≤ 140737488351232 ∧ ∀ x ∈ own l c, x.f0.size ≤ 140737488351232 ∧ (0 ≤ x.f1 ∧ x.f1 ≤ 255) := by
  obtain ⟨_, h2, h3⟩ := (h.2.2 _ (rd_mem l c h0 h1)).2.2
  refine ⟨h2, fun x hx => ⟨(h3 x hx).1, ?_⟩⟩
  have := (h3 x hx).2
  simp [Lit.wf, IntKind.min, IntKind.max, IntKind.signed, IntKind.bits] at this
  exact this

theorem nam_eq (l : Tbl) (i : Int) (s : ByteArray) : (rd_T59 l i).f0.toList = s.toList ↔ nam l i = s := str_eq _ _

def fieldFaultFrom (l : Tbl) (all fs : List S62) : Nat → Nat → Int
  | 0, _ => if (fs.length : Int) > 32 - (all.length : Int) then 4 else 0
  | d + 1, i => if nameOk (rd_T62 fs i).f0 = true then (if hasB all (rd_T62 fs i).f0 = true then 20 else if hasB (fs.take i) (rd_T62 fs i).f0 = true then 20 else if storedB l (rd_T62 fs i).f1 = true then fieldFaultFrom l all fs d (i + 1) else 22) else 6
def fieldFault (l : Tbl) (all fs : List S62) : Int := fieldFaultFrom l all fs fs.length 0
def aheadFrom (l : Tbl) (c : Int) : Nat → Bool
  | 0 => false
  | d + 1 => decide (nam l (c - (d + 1)) = nam l c) || aheadFrom l c d
def aheadB (l : Tbl) (c : Int) : Bool := aheadFrom l c c.toNat
def parFault (l : Tbl) (c : Int) : Int := if par l c < -1 then 21 else if par l c ≥ c then 21 else fieldFault l (fieldsOf l (par l c)) (own l c)
def faultB (l : Tbl) (c : Int) : Int :=
  if c ≥ 32 then 4 else if nameOk (nam l c) = true then (if isWordB (nam l c) = true then 6 else if aheadB l c = true then 20 else parFault l c) else 6

theorem fields_fault (l : Tbl) (all fs : List S62) (h1 : all.length ≤ 5864062014805) (h2 : fs.length * 24 ≤ 140737488351232) (h3 : ∀ x ∈ fs, x.f0.size ≤ 140737488351232 ∧ (0 ≤ x.f1 ∧ x.f1 ≤ 255)) (nm : ByteArray) (pr : Int) : ∀ (d i : Nat), fs.length - i = d → i ≤ fs.length →
    Ev (fun k => provisoref02_fault.l1 k l all (i : Int) nm pr fs) (fieldFaultFrom l all fs d i)
  | 0, i, hd, hi => by
    unfold fieldFaultFrom
    refine Ev.step (f := fun _ => some _) (fun k => ?_) (Ev.now _)
    simp only [provisoref02_fault.l1]
    rw [if_neg (by omega), show wrap64 (32 - (all.length : Int)) = 32 - (all.length : Int) by unfold wrap64; omega]
    split <;> rfl
  | d + 1, i, hd, hi => by
    have hlt : i < fs.length := by omega
    have hrd : rd_T62 fs ((i : Nat) : Int) = fs[i] := by simp [rd_T62, List.getD_eq_getElem?_getD, hlt]
    obtain ⟨hs, ht⟩ := h3 fs[i] (List.getElem_mem _)
    have ih := fields_fault l all fs h1 h2 h3 nm pr d (i + 1) (by omega) (by omega)
    unfold fieldFaultFrom
    rw [hrd]
    refine Ev.step (fun k => by simp only [provisoref02_fault.l1]; rw [if_pos (by omega), if_pos (by omega), hrd]) ?_
    refine Ev.bind (f := fun k t => if t = true then _ else _) (ref_name _ hs) ?_
    cases nameOk fs[i].f0 with
    | false => exact Ev.now _
    | true =>
      refine Ev.bind (f := fun k t => if t = true then _ else _) (ref_has all _ (by omega)) ?_
      cases hasB all fs[i].f0 with
      | true => exact Ev.now _
      | false =>
        refine Ev.congr (f := fun k => (provisoref02_has.f k (fs.take i) fs[i].f0).bind _) (fun k => by
          show (if (i : Int) ≤ (fs.length : Int) then _ else _) = _
          rw [if_pos (by omega), Int.toNat_natCast]) ?_
        refine Ev.bind (f := fun k t => if t = true then _ else _) (ref_has (fs.take i) _ (by simp; omega)) ?_
        cases hasB (fs.take i) fs[i].f0 with
        | true => exact Ev.now _
        | false =>
          refine Ev.congr (f := fun k => if storedB l fs[i].f1 = true then _ else _) (fun k => by
            show (provisoref02_Stored.f l fs[i].f1).bind _ = _
            rw [ref_stored l _ ht]
            rfl) ?_
          cases storedB l fs[i].f1 with
          | false => exact Ev.now _
          | true =>
            refine Ev.congr (fun k => ?_) ih
            show provisoref02_fault.l1 k l all (wrap64 ((i : Int) + 1)) nm pr fs = _
            rw [w_next (n := fs.length) (by omega) (by omega) (by omega)]
            rfl
theorem par_fault (l : Tbl) (hs : Sane l) (c : Int) (h0 : 0 ≤ c) (h1 : c < (l.length : Int)) (hd : Dec l c) (hlim : ∀ p : Int, -1 ≤ p → p < c → (fieldsOf l p).length ≤ 32) :
    Ev (fun k => provisoref02_fault.l0 k l c c (nam l c) (par l c) (own l c)) (parFault l c) := by
  unfold parFault
  have hj : Ev (fun k => provisoref02_fault.j2 k l true (nam l c) (par l c) (own l c)) 21 := Ev.step (f := fun _ => some 21) (fun k => by simp only [provisoref02_fault.j2]; rfl) (Ev.now _)
  by_cases p1 : par l c < -1
  · rw [if_pos p1]
    exact Ev.step (fun k => by simp only [provisoref02_fault.l0]; rw [if_neg (by omega), if_pos p1]) hj
  · rw [if_neg p1]
    by_cases p2 : par l c ≥ c
    · rw [if_pos p2]
      exact Ev.step (fun k => by simp only [provisoref02_fault.l0]; rw [if_neg (by omega), if_neg p1, decide_eq_true p2]) hj
    · rw [if_neg p2]
      refine Ev.step (f := fun k => provisoref02_fault.j2 k l false (nam l c) (par l c) (own l c)) (fun k => by simp only [provisoref02_fault.l0]; rw [if_neg (by omega), if_neg p1, decide_eq_false p2]) ?_
      have hlp := hlim (par l c) (by omega) (by omega)
      refine Ev.step (f := fun k => (provisoref02_Fields.f k l (par l c)).bind fun t => provisoref02_fault.l1 k l t 0 (nam l c) (par l c) (own l c)) (fun k => by simp only [provisoref02_fault.j2]; rfl) ?_
      refine Ev.bind (f := fun k t => provisoref02_fault.l1 k l t 0 (nam l c) (par l c) (own l c)) (ref_fields l c (by omega) hs.2.1 hd (par l c) (by omega) (by omega)) ?_
      exact fields_fault l _ (own l c) (by omega) (hs.own h0 h1).1 (hs.own h0 h1).2 _ _ _ 0 (by omega) (by omega)
theorem ahead_fault (l : Tbl) (hs : Sane l) (c : Int) (h0 : 0 ≤ c) (h1 : c < (l.length : Int)) (hd : Dec l c) (hlim : ∀ p : Int, -1 ≤ p → p < c → (fieldsOf l p).length ≤ 32) : ∀ (d : Nat), (d : Int) ≤ c →
    Ev (fun k => provisoref02_fault.l0 k l c (c - d) (nam l c) (par l c) (own l c)) (if aheadFrom l c d = true then 20 else parFault l c)
  | 0, _ => by
    have := par_fault l hs c h0 h1 hd hlim
    simpa [aheadFrom] using this
  | d + 1, hdc => by
    have ih := ahead_fault l hs c h0 h1 hd hlim d (by omega)
    have hsz := hs.size
    have e1 : c - ((d : Int) + 1) + 1 = c - d := by omega
    by_cases e : nam l (c - ((d : Int) + 1)) = nam l c
    · have e2 : aheadFrom l c (d + 1) = true := by unfold aheadFrom; rw [decide_eq_true e, Bool.true_or]
      rw [e2, if_pos rfl]
      refine Ev.step (f := fun _ => some 20) (fun k => ?_) (Ev.now _)
      show provisoref02_fault.l0 (k + 1) l c (c - ((d : Int) + 1)) (nam l c) (par l c) (own l c) = _
      simp only [provisoref02_fault.l0]
      rw [if_pos (by omega), if_pos (by omega), if_pos (by omega), if_pos ((nam_eq l _ _).mpr e)]
    · have e2 : aheadFrom l c (d + 1) = aheadFrom l c d := by conv => lhs; unfold aheadFrom
                                                              rw [decide_eq_false e, Bool.false_or]
      rw [e2]
      refine Ev.step (fun k => ?_) ih
      show provisoref02_fault.l0 (k + 1) l c (c - ((d : Int) + 1)) (nam l c) (par l c) (own l c) = _
      simp only [provisoref02_fault.l0]
      rw [if_pos (by omega), if_pos (by omega), if_pos (by omega), if_neg (fun h9 => e ((nam_eq l _ _).mp h9)), show wrap64 (c - ((d : Int) + 1) + 1) = c - d by rw [e1]; unfold wrap64; omega]
theorem ref_fault (l : Tbl) (hs : Sane l) (c : Int) (h0 : 0 ≤ c) (h1 : c < (l.length : Int)) (hd : Dec l c) (hlim : ∀ p : Int, -1 ≤ p → p < c → (fieldsOf l p).length ≤ 32) : Ev (fun k => provisoref02_fault.f k l c) (faultB l c) := by
  unfold faultB
  have ha := ahead_fault l hs c h0 h1 hd hlim c.toNat (by omega)
  rw [show c - (c.toNat : Int) = 0 by omega] at ha
  have hj : ∀ b : Bool, Ev (fun k => provisoref02_fault.j0 k l c b (nam l c) (par l c) (own l c)) (if b = true then 6 else if aheadB l c = true then 20 else parFault l c) := by
    intro b
    cases b with
    | true => exact Ev.step (f := fun _ => some 6) (fun k => by simp only [provisoref02_fault.j0]; rfl) (Ev.now _)
    | false => exact Ev.step (fun k => by simp only [provisoref02_fault.j0]; rfl) ha
  by_cases h32 : c ≥ 32
  · rw [if_pos h32]
    exact Ev.congr (f := fun _ => some 4) (fun k => by unfold provisoref02_fault.f; rw [if_pos h0, if_pos h1, if_pos h32]) (Ev.now _)
  · rw [if_neg h32]
    refine Ev.congr (fun k => by unfold provisoref02_fault.f; rw [if_pos h0, if_pos h1, if_neg h32]; rfl) (Ev.bind (f := fun k t => if t = true then ((provisoref02_isWord.f k (nam l c)).bind fun t119 => provisoref02_fault.j0 k l c t119 (nam l c) (par l c) (own l c)) else provisoref02_fault.j0 k l c true (nam l c) (par l c) (own l c)) (ref_name _ (hs.nam h0 h1)) ?_)
    have hjt := hj true
    cases nameOk (nam l c) with
    | false => exact hjt
    | true => exact Ev.bind (f := fun k t => provisoref02_fault.j0 k l c t (nam l c) (par l c) (own l c)) (ref_word _) (hj _)

def GoodTo (l : Tbl) (n : Int) : Prop := ∀ c : Int, 0 ≤ c → c < n → faultB l c = 0
theorem field_fault_long (l : Tbl) (all fs : List S62) : ∀ (d i : Nat), fieldFaultFrom l all fs d i = 0 → (fs.length : Int) ≤ 32 - all.length
  | 0, i, h => by
    unfold fieldFaultFrom at h
    split at h <;> omega
  | d + 1, i, h => by
    unfold fieldFaultFrom at h
    split at h
    · split at h
      · omega
      · split at h
        · omega
        · split at h
          · exact field_fault_long l all fs d (i + 1) h
          · omega
    · omega
theorem fault_zero {l : Tbl} {c : Int} (h : faultB l c = 0) : c < 32 ∧ nameOk (nam l c) = true ∧ isWordB (nam l c) = false ∧ aheadB l c = false ∧ -1 ≤ par l c ∧ par l c < c ∧ fieldFault l (fieldsOf l (par l c)) (own l c) = 0 := by
  unfold faultB parFault at h
  split at h
  · omega
  · split at h
    · split at h
      · omega
      · split at h
        · omega
        · split at h
          · omega
          · split at h
            · omega
            · rename_i h1 h2 h3 h4 h5 h6
              exact ⟨by omega, h2, by simpa using h3, by simpa using h4, by omega, by omega, h⟩
    · omega
theorem GoodTo.dec {l : Tbl} {n : Int} (h : GoodTo l n) : Dec l n := fun i h0 h1 => (fault_zero (h i h0 h1)).2.2.2.2.2.1
theorem fieldsOf_in (l : Tbl) (c : Int) (h0 : 0 ≤ c) (h1 : c < (l.length : Int)) (h2 : par l c < c) : fieldsOf l c = fieldsOf l (par l c) ++ own l c := by
  unfold fieldsOf
  rw [climbL_in l c h0 h1 h2, List.reverse_cons, List.flatMap_append]
  simp [par]
theorem fieldsOf_out (l : Tbl) (c : Int) (h : ¬ (0 ≤ c ∧ c < (l.length : Int))) : fieldsOf l c = [] := by
  unfold fieldsOf
  rw [climbL_out l c h]
  rfl
theorem GoodTo.fields {l : Tbl} {n : Int} (hn : n ≤ l.length) (h : GoodTo l n) (c : Int) (hc : c < n) : (fieldsOf l c).length ≤ 32 := by
  by_cases h0 : 0 ≤ c
  · obtain ⟨_, _, _, _, h5, h6, h7⟩ := fault_zero (h c h0 hc)
    have := field_fault_long l _ _ _ _ h7
    rw [fieldsOf_in l c h0 (by omega) h6, List.length_append]
    omega
  · rw [fieldsOf_out l c (by omega)]
    simp
def checkFrom (l : Tbl) : Nat → Int → Int × Int
  | 0, _ => (0, 0)
  | d + 1, c => if faultB l c = 0 then checkFrom l d (c + 1) else (c, faultB l c)
def checkB (l : Tbl) : Int × Int := checkFrom l l.length 0
theorem check_tells (l : Tbl) (hs : Sane l) : ∀ (d : Nat) (c : Int), 0 ≤ c → (l.length : Int) - c = d → GoodTo l c → Ev (fun k => provisoref02_Check.l0 k l c) (checkFrom l d c)
  | 0, c, h0, hd, hg => by
    unfold checkFrom
    exact Ev.step (f := fun _ => some _) (fun k => by simp only [provisoref02_Check.l0]; rw [if_neg (by omega)]) (Ev.now _)
  | d + 1, c, h0, hd, hg => by
    have hf := ref_fault l hs c h0 (by omega) hg.dec (fun p hp1 hp2 => hg.fields (by omega) p hp2)
    unfold checkFrom
    refine Ev.step (fun k => by simp only [provisoref02_Check.l0]; rw [if_pos (by omega)]) (Ev.bind (f := fun k t => if t = 0 then _ else _) hf ?_)
    by_cases e : faultB l c = 0
    · rw [if_pos e]
      have hsz := hs.size
      refine Ev.congr (fun k => ?_) (check_tells l hs d (c + 1) (by omega) (by omega) (fun i hi0 hi1 => if hi : i < c then hg i hi0 hi else by rw [show i = c by omega]; exact e))
      rw [if_pos e, show wrap64 (c + 1) = c + 1 by unfold wrap64; omega]
    · rw [if_neg e]
      exact Ev.congr (f := fun _ => some _) (fun k => by rw [if_neg e]) (Ev.now _)
theorem ref_check (l : Tbl) (hs : Sane l) : Ev (fun k => provisoref02_Check.f k l) (checkB l) :=
  check_tells l hs l.length 0 (by omega) (by omega) (fun i h0 h1 => by omega)
theorem checkFrom_zero (l : Tbl) : ∀ (d : Nat) (c : Int), (checkFrom l d c).2 = 0 ↔ ∀ i : Int, c ≤ i → i < c + d → faultB l i = 0
  | 0, c => by
    constructor
    · intro _ i h1 h2; omega
    · intro _; rfl
  | d + 1, c => by
    unfold checkFrom
    split
    · rename_i e
      rw [checkFrom_zero l d (c + 1)]
      constructor
      · intro h i h1 h2
        by_cases hi : i = c
        · rw [hi]; exact e
        · exact h i (by omega) (by omega)
      · intro h i h1 h2
        exact h i (by omega) (by omega)
    · rename_i e
      constructor
      · intro h; exact absurd h e
      · intro h; exact h c (by omega) (by omega)
def Good (l : Tbl) : Prop := GoodTo l l.length
theorem good_iff (l : Tbl) : (checkB l).2 = 0 ↔ Good l := by
  unfold checkB
  rw [checkFrom_zero l l.length 0]
  unfold Good GoodTo
  simp
theorem Good.short {l : Tbl} (h : Good l) : l.length ≤ 32 := by
  rcases Nat.lt_or_ge 32 l.length with h1 | h1
  · have := (fault_zero (h 32 (by omega) (by omega))).1
    omega
  · exact h1
theorem Good.dec {l : Tbl} (h : Good l) : Dec l l.length := GoodTo.dec h
end Go.Proofs.Ytgjnmpgmbhbbhaa.P


end

section
namespace Go.Proofs.Ytgjnmpgmbhbbhaa.P
open Go.RowKit Go.Proofs.YtgjnmpgmbhbbhaaW.PrintWords Go.Proofs.YtgjnmpgmbhbbhaaW.PrintLast Go.Proofs.YtgjnmpgmbhbbhaaW.PrintMore
set_option linter.unusedVariables false
set_option linter.unusedSimpArgs false

theorem u8_of {a : Int} (h : (Lit.int .u8 a).wf = true) : 0 ≤ a ∧ a ≤ 255 := by
  simp [Lit.wf, IntKind.min, IntKind.max, IntKind.signed, IntKind.bits] at h
  exact h
theorem words_is : types_words.f = some words6 := rfl
def printB (l : Tbl) (a : Int) : ByteArray := if a ≤ 5 then words6.getD a.toNat ByteArray.empty else if validB l a = true then nam l (a - 16) else ⟨#[]⟩
theorem impl_print (l : Tbl) (a : Int) (ha : 0 ≤ a ∧ a ≤ 255) : types_Print.f l a = some (printB l a) := by
  unfold types_Print.f printB
  by_cases h1 : a ≤ 5
  · rw [if_pos h1, if_pos h1, words_is]
    show (if 0 ≤ a then (if a < (6 : Int) then some (rdOf ByteArray.empty words6 a) else none) else none) = _
    rw [if_pos ha.1, if_pos (by omega)]
    rfl
  · rw [if_neg h1, if_neg h1]
    unfold types_class.f validB
    by_cases h2 : a < 16
    · rw [if_pos h2]
      simp [h1, show ¬ 16 ≤ a by omega]
    · rw [if_neg h2, show (a - 16) % 256 = a - 16 by omega]
      by_cases h3 : a - 16 ≥ (l.length : Int)
      · rw [if_pos h3]
        simp [h1, show ¬ a - 16 < (l.length : Int) by omega]
      · rw [if_neg h3]
        simp only [Option.bind_some]
        rw [if_pos (by omega), if_pos (by omega), if_pos (by omega)]
        simp [h1, show 16 ≤ a by omega, show a - 16 < (l.length : Int) by omega]
        rfl
theorem Good.nameOk {l : Tbl} (h : Good l) {c : Int} (h0 : 0 ≤ c) (h1 : c < (l.length : Int)) : nameOk (nam l c) = true ∧ isWordB (nam l c) = false :=
  ⟨(fault_zero (h c h0 h1)).2.1, (fault_zero (h c h0 h1)).2.2.1⟩
end Go.Proofs.Ytgjnmpgmbhbbhaa.P


end

section
namespace Go.Proofs.Ytgjnmpgmbhbbhaa.P
open Go.RowKit Go.Proofs.YtgjnmpgmbhbbhaaW.PrintWords Go.Proofs.YtgjnmpgmbhbbhaaW.PrintLast Go.Proofs.YtgjnmpgmbhbbhaaW.PrintMore
attribute [local go_sem] max2_int min2_int max_two min_two max_three min_three max_four min_four   -- for this text's walks alone
set_option linter.unusedVariables false
set_option linter.unusedSimpArgs false

section
variable {ops : Array Oper} {rest : List Oper} {o : Oper} {a : Act} {Q : Exit → Act → World → Prop}
end
def classOf (l : List S59) (a : Int) : Int := if a < 16 then -1 else if (a - 16) % 256 ≥ (l.length : Int) then -1 else (a - 16) % 256
theorem class_is (l : List S59) (a : Int) : types_class.f l a = some (classOf l a) := by
  unfold types_class.f classOf
  split
  · rfl
  · split <;> rfl
structure MergeHeld (W0 : World) (Bo : Nat) (A0 : Option Addr) (c0 : Nat) (l : List S59) (W : World) : Prop where
  reads : Kd.C k59 W A0 l.length l
  below : Below W0.heap.size W0 W
  lies : W.heap[W0.heap.size]? = some (.cells #[.slice A0 l.length c0] 22 (0, 0))
  out : W.heap[Bo]? = some (.cells #[.int .u8 5] 24 (0, 0))
theorem MergeHeld.drew {W0 : World} {Bo : Nat} {A0 : Option Addr} {c0 : Nat} {l : List S59} {W : World} (h : MergeHeld W0 Bo A0 c0 l W) : MergeHeld W0 Bo A0 c0 l W.drew := ⟨Kd.C_drew h.reads, below_drew1 h.below, blk_drew h.lies, blk_drew h.out⟩
theorem MergeHeld.drewN {W0 : World} {Bo : Nat} {A0 : Option Addr} {c0 : Nat} {l : List S59} {W : World} (h : MergeHeld W0 Bo A0 c0 l W) (m : Nat) : MergeHeld W0 Bo A0 c0 l (W.drewN m) := ⟨Kd.C_drewN h.reads m, pw_below_drewN h.below m, blk_drewN h.lies m, blk_drewN h.out m⟩
theorem MergeHeld.alloc {W0 : World} {Bo : Nat} {A0 : Option Addr} {c0 : Nat} {l : List S59} {W : World} (h : MergeHeld W0 Bo A0 c0 l W) (o : Obj) : MergeHeld W0 Bo A0 c0 l (W.alloc o) := ⟨Kd.C_alloc h.reads o, below_alloc h.below o, blk_alloc h.lies o, blk_alloc h.out o⟩
end Go.Proofs.Ytgjnmpgmbhbbhaa.P

end

section
namespace Go.Proofs.Ytgjnmpgmbhbbhaa.P
open Go.RowKit Go.Proofs.YtgjnmpgmbhbbhaaW.PrintWords Go.Proofs.YtgjnmpgmbhbbhaaW.PrintLast Go.Proofs.YtgjnmpgmbhbbhaaW.PrintMore
set_option linter.unusedVariables false
set_option linter.unusedSimpArgs false

theorem class_valid (l : Tbl) (a : Int) (ha : 0 ≤ a ∧ a ≤ 255) : classOf l a = if 16 ≤ a ∧ a - 16 < (l.length : Int) then a - 16 else -1 := by
  unfold classOf
  by_cases h1 : a < 16
  · rw [if_pos h1, if_neg (by omega)]
  · rw [if_neg h1, show (a - 16) % 256 = a - 16 by omega]
    by_cases h2 : a - 16 ≥ (l.length : Int)
    · rw [if_pos h2, if_neg (by omega)]
    · rw [if_neg h2, if_pos (by omega)]
theorem impl_valid (l : Tbl) (a : Int) (ha : 0 ≤ a ∧ a ≤ 255) : types_Valid.f l a = some (validB l a) := by
  unfold types_Valid.f validB
  by_cases h1 : a ≤ 5
  · simp [h1]
  · rw [if_neg h1, class_is, class_valid l a ha]
    by_cases h2 : 16 ≤ a ∧ a - 16 < (l.length : Int)
    · rw [if_pos h2]
      simp [h1, h2.1, h2.2]
    · rw [if_neg h2]
      simp [h1]
      omega
theorem valid_cases {l : Tbl} {a : Int} (ha : 0 ≤ a ∧ a ≤ 255) (h : validB l a = true) : (a ≤ 5 ∧ classOf l a = -1) ∨ (16 ≤ a ∧ a - 16 < (l.length : Int) ∧ classOf l a = a - 16) := by
  unfold validB at h
  rw [class_valid l a ha]
  simp at h
  rcases h with h | ⟨h1, h2⟩
  · exact .inl ⟨h, by rw [if_neg (by omega)]⟩
  · exact .inr ⟨h1, by omega, by rw [if_pos (by omega)]⟩
end Go.Proofs.Ytgjnmpgmbhbbhaa.P


end

section
namespace Go.Proofs.Ytgjnmpgmbhbbhaa.P
open Go.RowKit Go.Proofs.YtgjnmpgmbhbbhaaW.PrintWords Go.Proofs.YtgjnmpgmbhbbhaaW.PrintLast Go.Proofs.YtgjnmpgmbhbbhaaW.PrintMore
set_option linter.unusedVariables false
set_option linter.unusedSimpArgs false

theorem top_valid (l : Tbl) : validB l 0 = true := by simp [validB]
end Go.Proofs.Ytgjnmpgmbhbbhaa.P


end

section
namespace Go.Proofs.Ytgjnmpgmbhbbhaa.P
open Go.RowKit Go.Proofs.YtgjnmpgmbhbbhaaW.PrintWords Go.Proofs.YtgjnmpgmbhbbhaaW.PrintLast Go.Proofs.YtgjnmpgmbhbbhaaW.PrintMore
set_option linter.unusedVariables false
set_option linter.unusedSimpArgs false

def deepOf (l : Tbl) (c : Int) : Int := 1 + ((climbL l c).length : Int)
def deepFrom (l : Tbl) : Nat → Int → Int → Int
  | 0, _, n => n
  | d + 1, i, n => deepFrom l d (i + 1) (mx n (deepOf l i))
def rankB (l : Tbl) (a : Int) : Int :=
  if validB l a = true ∧ a ≠ 0 then (if a = 4 then 2 else if a = 3 then deepFrom l l.length 0 2 + 1 else if a ≥ 16 then deepOf l (classOf l a) else 1) else 0
theorem deepOf_le (l : Tbl) (c : Int) : 1 ≤ deepOf l c ∧ deepOf l c ≤ 1 + l.length := by
  have := climbL_length l c
  unfold deepOf
  omega
theorem mx_le (a b : Int) : a ≤ mx a b ∧ b ≤ mx a b := by unfold mx; split <;> omega
theorem mx_is (a b : Int) : mx a b = a ∨ mx a b = b := by unfold mx; split <;> simp
theorem deepFrom_ge (l : Tbl) : ∀ (d : Nat) (i n : Int), n ≤ deepFrom l d i n ∧ ∀ c : Int, i ≤ c → c < i + d → deepOf l c ≤ deepFrom l d i n
  | 0, i, n => ⟨Int.le_refl _, fun c h1 h2 => by omega⟩
  | d + 1, i, n => by
    obtain ⟨h1, h2⟩ := deepFrom_ge l d (i + 1) (mx n (deepOf l i))
    have hm := mx_le n (deepOf l i)
    unfold deepFrom
    refine ⟨by omega, fun c g1 g2 => ?_⟩
    by_cases e : c = i
    · rw [e]; omega
    · exact h2 c (by omega) (by omega)
theorem deepFrom_le (l : Tbl) (b : Int) (hb : 1 + (l.length : Int) ≤ b) : ∀ (d : Nat) (i n : Int), n ≤ b → deepFrom l d i n ≤ b
  | 0, i, n, h => h
  | d + 1, i, n, h => by
    unfold deepFrom
    refine deepFrom_le l b hb d (i + 1) _ ?_
    have := deepOf_le l i
    rcases mx_is n (deepOf l i) with e | e <;> omega
theorem rank_tells (l : Tbl) (hl : l.length ≤ 2932031007320) (k : Nat) : ∀ (d : Nat) (i n : Int), 0 ≤ i → (l.length : Int) - i = d → 0 ≤ n → n ≤ 2932031007321 + 2 → types_Rank.l0 (k + d + 1) l n (l.length : Int) i = some (deepFrom l d i n + 1)
  | 0, i, n, h0, hd, hn, hn2 => by
    simp only [types_Rank.l0]
    rw [if_neg (by omega)]
    unfold deepFrom
    rw [show wrap64 (n + 1) = n + 1 by unfold wrap64; omega]
  | d + 1, i, n, h0, hd, hn, hn2 => by
    have hdl := deepOf_le l i
    have hm := mx_is n (deepOf l i)
    have ih := rank_tells l hl k d (i + 1) (mx n (deepOf l i)) (by omega) (by omega) (by omega) (by omega)
    rw [show k + (d + 1) + 1 = (k + d + 1) + 1 by omega]
    show (if i < (l.length : Int) then ((types_deep.f l i).bind fun t201 => (types_Rank.l0 (k + d + 1) l (mx n (wrap64 (1 + t201))) (l.length : Int) (wrap64 (i + 1)))) else (some (wrap64 (n + 1)))) = _
    rw [if_pos (by omega)]
    simp only [types_deep.f, Option.bind_some]
    rw [show wrap64 (1 + ((climbL l i).length : Int)) = deepOf l i by unfold deepOf wrap64; unfold deepOf at hdl; omega, show wrap64 (i + 1) = i + 1 by unfold wrap64; omega, ih]
    rfl
theorem impl_rank (l : Tbl) (hl : l.length ≤ 2932031007320) (a : Int) (ha : 0 ≤ a ∧ a ≤ 255) (k : Nat) : types_Rank.f (k + l.length + 2) l a = some (rankB l a) := by
  have hk : k + l.length + 2 = (k + l.length + 1) + 1 := by omega
  unfold types_Rank.f rankB
  rw [impl_valid l a ha]
  have h3 := rank_tells l hl k l.length 0 2 (by omega) (by omega) (by omega) (by omega)
  rw [hk]
  simp only [Option.bind_some, types_Rank.j0, class_is, types_deep.f, h3]
  cases hv : validB l a with
  | false => simp
  | true =>
    by_cases e0 : a = 0
    · simp [e0]
    · by_cases e4 : a = 4
      · simp [e4]
      · by_cases e3 : a = 3
        · simp [e3]
        · by_cases e16 : a ≥ 16
          · have := deepOf_le l (classOf l a)
            have hw : wrap64 (1 + ((climbL l (classOf l a)).length : Int)) = deepOf l (classOf l a) := by unfold deepOf wrap64; unfold deepOf at this; omega
            simp [e0, e4, e3, e16, hw]
          · simp [e0, e4, e3, e16]
theorem rank_bounds (l : Tbl) (hg : Good l) (a : Int) : 0 ≤ rankB l a ∧ rankB l a ≤ 34 := by
  have hs := hg.short
  have h1 := deepFrom_ge l l.length 0 2
  have h2 := deepFrom_le l 33 (by omega) l.length 0 2 (by omega)
  have h3 := deepOf_le l (classOf l a)
  unfold rankB
  split
  · split
    · omega
    · split
      · omega
      · split <;> omega
  · omega
end Go.Proofs.Ytgjnmpgmbhbbhaa.P


end

section
namespace Go.Proofs.Ytgjnmpgmbhbbhaa.P
open Go.RowKit Go.Proofs.YtgjnmpgmbhbbhaaW.PrintWords Go.Proofs.YtgjnmpgmbhbbhaaW.PrintLast Go.Proofs.YtgjnmpgmbhbbhaaW.PrintMore
set_option linter.unusedVariables false
set_option linter.unusedSimpArgs false

theorem rd_class (l : Tbl) (i : Nat) (h : i < l.length) : rd_T59 l (i : Int) = l[i] := by simp [rd_T59, List.getD_eq_getElem?_getD, h]
theorem classes_tells (l : Tbl) (hs : Sane l) : ∀ (d i : Nat), l.length - i = d → i ≤ l.length → Ev (fun k => provisoplain_Classes.l0 k (l.take i) l (l.length : Int) (i : Int)) l
  | 0, i, hd, hi => by
    have e : l.take i = l := List.take_of_length_le (by omega)
    rw [e]
    exact Ev.step (f := fun _ => some l) (fun k => by simp only [provisoplain_Classes.l0]; rw [if_neg (by omega)]) (Ev.now _)
  | d + 1, i, hd, hi => by
    have hlt : i < l.length := by omega
    have ih := classes_tells l hs d (i + 1) (by omega) (by omega)
    have hsz := hs.size
    have ho := (hs.own (c := (i : Int)) (by omega) (by omega)).1
    unfold own at ho
    refine Ev.step (fun k => ?_) ih
    simp only [provisoplain_Classes.l0]
    rw [if_pos (by omega), if_pos (by omega), if_pos (by omega)]
    unfold api_Field_41.f
    rw [if_pos (by omega)]
    simp only [Option.bind_some]
    rw [if_pos (by rw [List.length_take]; omega), rd_class l i hlt, show wrap64 ((i : Int) + 1) = ((i + 1 : Nat) : Int) by unfold wrap64; omega, List.take_succ_eq_append_getElem hlt]
theorem impl_classes (l : Tbl) (hs : Sane l) : Ev (fun k => provisoplain_Classes.f k l) l := by
  have := classes_tells l hs l.length 0 (by omega) (by omega)
  rw [List.take_zero] at this
  exact this
theorem equal_fields_self (xs : List S62) (hl : xs.length ≤ 9223372036854775807) : ∀ (d i : Nat), xs.length - i = d → i ≤ xs.length → Ev (fun k => api_Field_44.l0 k xs xs (xs.length : Int) (i : Int)) true
  | 0, i, hd, hi => Ev.step (f := fun _ => some true) (fun k => by simp only [api_Field_44.l0]; rw [if_neg (by omega)]) (Ev.now _)
  | d + 1, i, hd, hi => by
    refine Ev.step (fun k => ?_) (equal_fields_self xs hl d (i + 1) (by omega) (by omega))
    simp only [api_Field_44.l0]
    rw [if_pos (by omega), if_pos (by omega), if_pos (by omega), if_pos (by omega), if_neg (by simp), show wrap64 ((i : Int) + 1) = ((i + 1 : Nat) : Int) by unfold wrap64; omega]
theorem impl_equal_fields_self (xs : List S62) (hl : xs.length ≤ 9223372036854775807) : Ev (fun k => api_Field_44.f k xs xs) true :=
  Ev.congr (fun k => by unfold api_Field_44.f; rw [if_pos rfl]; rfl) (equal_fields_self xs hl xs.length 0 (by omega) (by omega))
theorem same_classes_self (l : Tbl) (hs : Sane l) : ∀ (d i : Nat), l.length - i = d → i ≤ l.length → Ev (fun k => provisoplain_SameClasses.l0 k l l (l.length : Int) (i : Int)) true
  | 0, i, hd, hi => Ev.step (f := fun _ => some true) (fun k => by simp only [provisoplain_SameClasses.l0]; rw [if_neg (by omega)]) (Ev.now _)
  | d + 1, i, hd, hi => by
    have hsz := hs.size
    have ho := (hs.own (c := (i : Int)) (by omega) (by omega)).1
    unfold own at ho
    refine Ev.step (fun k => by
      simp only [provisoplain_SameClasses.l0]
      rw [if_pos (by omega), if_pos (by omega), if_pos (by omega), if_pos (by omega)]
      simp only [if_true]) (Ev.bind (f := fun k t => if t = true then provisoplain_SameClasses.l0 k l l (l.length : Int) (wrap64 ((i : Int) + 1)) else some false) (impl_equal_fields_self (rd_T59 l (i : Int)).f2 (by omega)) ?_)
    refine Ev.congr (fun k => ?_) (same_classes_self l hs d (i + 1) (by omega) (by omega))
    rw [if_pos rfl, show wrap64 ((i : Int) + 1) = ((i + 1 : Nat) : Int) by unfold wrap64; omega]
theorem impl_same_classes (l : Tbl) (hs : Sane l) : Ev (fun k => provisoplain_SameClasses.f k l l) true :=
  Ev.congr (fun k => by unfold provisoplain_SameClasses.f; rw [if_pos rfl]; rfl) (same_classes_self l hs l.length 0 (by omega) (by omega))

theorem rank_ref_tells (l : Tbl) (hs : Sane l) (hg : Good l) : ∀ (d : Nat) (i n : Int), 0 ≤ i → (l.length : Int) - i = d → 0 ≤ n → n ≤ 2932031007321 + 2 → Ev (fun k => provisoref02_Rank.l0 k l n i) (deepFrom l d i n + 1)
  | 0, i, n, h0, hd, hn, hn2 => by
    unfold deepFrom
    exact Ev.step (f := fun _ => some _) (fun k => by simp only [provisoref02_Rank.l0]; rw [if_neg (by omega), show wrap64 (1 + n) = n + 1 by unfold wrap64; omega]) (Ev.now _)
  | d + 1, i, n, h0, hd, hn, hn2 => by
    have hdl := deepOf_le l i
    have hsz := hs.size
    have hm := mx_is n (deepOf l i)
    have ih := rank_ref_tells l hs hg d (i + 1) (mx n (deepOf l i)) (by omega) (by omega) (by omega) (by omega)
    have hw : wrap64 (1 + ((climbL l i).length : Int)) = deepOf l i := by unfold deepOf wrap64; unfold deepOf at hdl; omega
    unfold deepFrom
    refine Ev.step (fun k => by simp only [provisoref02_Rank.l0]; rw [if_pos (by omega)]) (Ev.bind (f := fun k t => if (wrap64 (1 + (t.length : Int))) > n then _ else _) (ref_line l l.length (Int.le_refl _) hs.2.1 hg.dec i (by omega)) ?_)
    refine Ev.congr (fun k => ?_) ih
    rw [hw, show wrap64 (i + 1) = i + 1 by unfold wrap64; omega]
    unfold mx
    by_cases h : deepOf l i > n
    · rw [if_pos h, if_pos (show n < deepOf l i from h)]
    · rw [if_neg h, if_neg (show ¬ n < deepOf l i from h)]
theorem ref_rank (l : Tbl) (hs : Sane l) (hg : Good l) (a : Int) (ha : 0 ≤ a ∧ a ≤ 255) : Ev (fun k => provisoref02_Rank.f k l a) (rankB l a) := by
  have h3 := rank_ref_tells l hs hg l.length 0 2 (by omega) (by omega) (by omega) (by omega)
  have hj1 : ∀ x : Bool, Ev (fun k => provisoref02_Rank.j1 k l a x) (if x = true then 1 else if a = 4 then 2 else if a = 3 then deepFrom l l.length 0 2 + 1 else 0) := by
    intro x
    cases x with
    | true => exact Ev.step (f := fun _ => some 1) (fun k => by simp only [provisoref02_Rank.j1]; rfl) (Ev.now _)
    | false =>
      by_cases e4 : a = 4
      · exact Ev.step (f := fun _ => some 2) (fun k => by simp only [provisoref02_Rank.j1]; rw [if_neg (by simp), if_pos e4]) (by rw [if_neg (by simp), if_pos e4]; exact Ev.now _)
      · by_cases e3 : a = 3
        · rw [if_neg (by simp), if_neg e4, if_pos e3]
          exact Ev.step (fun k => by simp only [provisoref02_Rank.j1]; rw [if_neg (by simp), if_neg e4, if_pos e3]) h3
        · rw [if_neg (by simp), if_neg e4, if_neg e3]
          exact Ev.step (f := fun _ => some 0) (fun k => by simp only [provisoref02_Rank.j1]; rw [if_neg (by simp), if_neg e4, if_neg e3]) (Ev.now _)
  have hj0 : Ev (fun k => provisoref02_Rank.j0 k l a false) (if a = 1 ∨ a = 2 ∨ a = 5 then 1 else if a = 4 then 2 else if a = 3 then deepFrom l l.length 0 2 + 1 else 0) := by
    by_cases e1 : a = 1
    · rw [if_pos (.inl e1)]
      exact Ev.step (fun k => by simp only [provisoref02_Rank.j0]; rw [if_neg (by simp), if_pos e1, show (a == 1) = true by simp [e1]]) (hj1 true)
    · by_cases e2 : a = 2
      · rw [if_pos (.inr (.inl e2))]
        exact Ev.step (fun k => by simp only [provisoref02_Rank.j0]; rw [if_neg (by simp), if_neg e1, if_pos e2, show (a == 2) = true by simp [e2]]) (hj1 true)
      · by_cases e5 : a = 5
        · rw [if_pos (.inr (.inr e5))]
          exact Ev.step (fun k => by simp only [provisoref02_Rank.j0]; rw [if_neg (by simp), if_neg e1, if_neg e2, show (a == 5) = true by simp [e5]]) (hj1 true)
        · rw [if_neg (by omega)]
          exact Ev.step (fun k => by simp only [provisoref02_Rank.j0]; rw [if_neg (by simp), if_neg e1, if_neg e2, show (a == 5) = false by simp [e5]]) (hj1 false)
  by_cases e16 : a ≥ 16
  · refine Ev.congr (f := fun k => provisoref02_Rank.j0 k l a (validB l a)) (fun k => by unfold provisoref02_Rank.f; rw [if_pos e16, ref_valid l a ha]; rfl) ?_
    unfold rankB
    cases hv : validB l a with
    | false =>
      rw [if_neg (by simp)]
      rw [if_neg (by omega), if_neg (by omega), if_neg (by omega)] at hj0
      exact hj0
    | true =>
      have ka := valid_cases ha hv
      have hdl := deepOf_le l (classOf l a)
      have hsz := hs.size
      rw [if_pos ⟨rfl, by omega⟩, if_neg (by omega), if_neg (by omega), if_pos e16]
      refine Ev.step (fun k => by simp only [provisoref02_Rank.j0]; rw [if_pos trivial, show (a - 16) % 256 = a - 16 by omega]) (Ev.bind (f := fun k t => some (wrap64 (1 + (t.length : Int)))) (ref_line l l.length (Int.le_refl _) hs.2.1 hg.dec (a - 16) (by omega)) ?_)
      rw [show a - 16 = classOf l a by omega, show wrap64 (1 + ((climbL l (classOf l a)).length : Int)) = deepOf l (classOf l a) by unfold deepOf wrap64; unfold deepOf at hdl; omega]
      exact Ev.now _
  · refine Ev.congr (f := fun k => provisoref02_Rank.j0 k l a false) (fun k => by unfold provisoref02_Rank.f; rw [if_neg e16]) ?_
    have : rankB l a = (if a = 1 ∨ a = 2 ∨ a = 5 then 1 else if a = 4 then 2 else if a = 3 then deepFrom l l.length 0 2 + 1 else 0) := by
      unfold rankB validB
      by_cases h5 : a ≤ 5
      · by_cases h0 : a = 0
        · simp [h0]
        · by_cases h4 : a = 4
          · simp [h4]
          · by_cases h3 : a = 3
            · simp [h3]
            · rw [if_pos ⟨by simp [h5], h0⟩, if_neg h4, if_neg h3, if_neg e16, if_pos (by omega)]
      · rw [if_neg (by simp; omega), if_neg (by omega), if_neg (by omega), if_neg (by omega)]
    rw [this]
    exact hj0
theorem ref_print (l : Tbl) (a : Int) (ha : 0 ≤ a ∧ a ≤ 255) : provisoref02_Print.f l a = some (printB l a) := by
  have hw : ∀ a : Int, 0 ≤ a → a ≤ 5 → provisoref02_word.f a = some (words6.getD a.toNat ByteArray.empty) := by
    intro a h0 h5
    have : a = 0 ∨ a = 1 ∨ a = 2 ∨ a = 3 ∨ a = 4 ∨ a = 5 := by omega
    rcases this with rfl | rfl | rfl | rfl | rfl | rfl <;> rfl
  have hw2 : ∀ a : Int, 5 < a → provisoref02_word.f a = some ⟨#[]⟩ := by
    intro a h
    unfold provisoref02_word.f
    rw [if_neg (by omega), if_neg (by omega), if_neg (by omega), if_neg (by omega), if_neg (by omega), if_neg (by omega)]
  unfold provisoref02_Print.f printB
  by_cases h5 : a ≤ 5
  · rw [if_neg (by omega), if_pos h5, hw a ha.1 h5]
    rfl
  · rw [if_neg h5, ref_valid l a ha]
    by_cases h16 : a ≥ 16
    · rw [if_pos h16, show (a - 16) % 256 = a - 16 by omega]
      simp only [Option.bind_some]
      cases hv : validB l a with
      | false =>
        rw [if_neg (by simp), if_neg (by simp), hw2 a (by omega)]
        rfl
      | true =>
        have ka := valid_cases ha hv
        rw [if_pos rfl, if_pos rfl, if_pos (by omega), if_pos (by omega)]
        rfl
    · have hv : validB l a = false := by unfold validB; simp; omega
      rw [if_neg h16, hw2 a (by omega), hv]
      rfl
end Go.Proofs.Ytgjnmpgmbhbbhaa.P


end

section
namespace Go.Proofs.Ytgjnmpgmbhbbhaa.Pure
open Go.RowKit Go.Proofs.Ytgjnmpgmbhbbhaa.P Go.Proofs.YtgjnmpgmbhbbhaaW.PrintWords
set_option linter.unusedSimpArgs false
set_option linter.unusedVariables false
theorem ev_list {α : Type} (f : Int → Nat → Option α) (r : Int → α) : ∀ (l : List Int), (∀ t ∈ l, Ev (f t) (r t)) → ∃ K, ∀ k, K ≤ k → ∀ t ∈ l, f t k = some (r t)
  | [], _ => ⟨0, fun _ _ _ h => by simp at h⟩
  | t :: l, h => by
    obtain ⟨K1, h1⟩ := h t List.mem_cons_self
    obtain ⟨K2, h2⟩ := ev_list f r l (fun u hu => h u (List.mem_cons_of_mem _ hu))
    exact ⟨K1 + K2, fun k hk u hu => by
      rcases List.mem_cons.1 hu with rfl | hu
      · exact h1 k (by omega)
      · exact h2 k (by omega) u hu⟩
theorem ev_pairs {α : Type} (f : Int → Int → Nat → Option α) (r : Int → Int → α) (m : List Int) : ∀ (l : List Int), (∀ t ∈ l, ∀ u ∈ m, Ev (f t u) (r t u)) → ∃ K, ∀ k, K ≤ k → ∀ t ∈ l, ∀ u ∈ m, f t u k = some (r t u)
  | [], _ => ⟨0, fun _ _ _ h => by simp at h⟩
  | t :: l, h => by
    obtain ⟨K1, h1⟩ := ev_list (f t) (r t) m (h t List.mem_cons_self)
    obtain ⟨K2, h2⟩ := ev_pairs f r m l (fun u hu => h u (List.mem_cons_of_mem _ hu))
    exact ⟨K1 + K2, fun k hk u hu => by
      rcases List.mem_cons.1 hu with rfl | hu
      · exact h1 k (by omega)
      · exact h2 k (by omega) u hu⟩
end Go.Proofs.Ytgjnmpgmbhbbhaa.Pure

end

section
namespace Go.Proofs.Ytgjnmpgmbhbbhaa.Pure
open Go.RowKit Go.Proofs.Ytgjnmpgmbhbbhaa.P Go.Proofs.YtgjnmpgmbhbbhaaW.PrintWords
set_option linter.unusedSimpArgs false
def By (l : List UInt8) : ByteArray := ⟨l.toArray⟩
theorem By_app (a b : List UInt8) : By a ++ By b = By (a ++ b) := by
  apply ByteArray.ext
  rw [ByteArray.data_append]
  simp [By]
theorem By_of (x : ByteArray) : x = By x.data.toList := by
  apply ByteArray.ext
  simp [By]
theorem tail_snoc (sep : List UInt8) (r : List (List UInt8)) (x : List UInt8) : Lib.joinTail sep (r ++ [x]) = Lib.joinTail sep r ++ (sep ++ x) := by
  simp [Lib.joinTail]
theorem joinB_nil : joinB [] = By [] := rfl
theorem joinB_snoc (xs : List ByteArray) (x : ByteArray) : joinB (xs ++ [x]) = if xs = [] then x else joinB xs ++ By [32] ++ x := by
  have h32 : (ByteArray.mk #[32]).data.toList = [32] := rfl
  cases xs with
  | nil =>
    rw [if_pos rfl]
    show By (Lib.join [x.data.toList] _) = x
    rw [Lib.join_one, ← By_of]
  | cons y r =>
    rw [if_neg (by simp)]
    show By (Lib.join (((y :: r) ++ [x]).map (·.data.toList)) (ByteArray.mk #[32]).data.toList) = By (Lib.join ((y :: r).map (·.data.toList)) (ByteArray.mk #[32]).data.toList) ++ By [32] ++ x
    rw [h32]
    conv => rhs; rw [By_of x]
    rw [By_app, By_app]
    congr 1
    simp only [List.cons_append, List.map_cons, List.map_append, List.map_nil, Lib.join_cons, tail_snoc, List.append_assoc]
theorem take_snoc {sl : List Int} {i : Nat} (h : i < sl.length) : sl.take (i + 1) = sl.take i ++ [sl.getD i 0] := by
  rw [List.take_succ_eq_append_getElem h, List.getD_eq_getElem?_getD, List.getElem?_eq_getElem h]
  rfl
theorem acc_low (ps : Int → ByteArray) (L : Nat) (sl : List Int) : ∀ i, i ≤ L → i ≤ sl.length → accS ps L sl i = By [91] ++ joinB ((sl.take i).map ps)
  | 0, _, _ => by
    show By [91] = _
    rw [List.take_zero, List.map_nil, joinB_nil, By_app]
    rfl
  | i + 1, h, hl => by
    have ih := acc_low ps L sl i (by omega) (by omega)
    show (if i = L then _ else if 0 < i then accS ps L sl i ++ By [32] else accS ps L sl i) ++ ps (sl.getD i 0) = _
    rw [if_neg (by omega), take_snoc (by omega), List.map_append, List.map_cons, List.map_nil, joinB_snoc, ih]
    by_cases h0 : 0 < i
    · rw [if_pos h0, if_neg (by
        intro e
        have := congrArg List.length e
        rw [List.length_map, List.length_take, List.length_nil] at this
        omega)]
      simp only [ByteArray.append_assoc]
    · obtain rfl : i = 0 := by omega
      rw [if_neg h0, List.take_zero, List.map_nil, if_pos rfl, joinB_nil, By_app]
      rfl
theorem acc_high (ps : Int → ByteArray) (L : Nat) (sl : List Int) : ∀ d, L + (d + 1) ≤ sl.length → accS ps L sl (L + (d + 1)) = By [91] ++ joinB ((sl.take L).map ps) ++ By [32, 124, 32] ++ joinB (((sl.take (L + (d + 1))).map ps).drop L)
  | 0, h => by
    have hL : ((sl.take L).map ps).length = L := by rw [List.length_map, List.length_take]; omega
    show (if L = L then accS ps L sl L ++ By [32, 124, 32] else _) ++ ps (sl.getD L 0) = _
    rw [if_pos rfl, acc_low ps L sl L (Nat.le_refl _) (by omega), show L + (0 + 1) = L + 1 from rfl, take_snoc (by omega), List.map_append, List.drop_append_of_le_length (by omega), List.drop_of_length_le (by omega), List.nil_append]
    have h1 := joinB_snoc [] (ps (sl.getD L 0))
    rw [if_pos rfl, List.nil_append] at h1
    rw [List.map_cons, List.map_nil, h1]
  | d + 1, h => by
    have ih := acc_high ps L sl d (by omega)
    have hL : ((sl.take (L + (d + 1))).map ps).length = L + (d + 1) := by rw [List.length_map, List.length_take]; omega
    show (if L + (d + 1) = L then _ else if 0 < L + (d + 1) then accS ps L sl (L + (d + 1)) ++ By [32] else accS ps L sl (L + (d + 1))) ++ ps (sl.getD (L + (d + 1)) 0) = _
    rw [if_neg (by omega), if_pos (by omega), ih, show L + (d + 1 + 1) = (L + (d + 1)) + 1 from rfl, take_snoc (by omega), List.map_append, List.drop_append_of_le_length (by omega), List.map_cons, List.map_nil, joinB_snoc, if_neg (by
      intro e
      have := congrArg List.length e
      rw [List.length_drop, hL] at this
      simp at this)]
    simp only [ByteArray.append_assoc]
theorem print_same (vb : Int → Bool) (ps : Int → ByteArray) (f : Fr) (hf : f.ok) : refprintS vb ps f = printS vb ps f := by
  unfold refprintS printS
  by_cases hc : checkS vb f = 0
  · rw [if_pos hc, if_pos hc]
    obtain ⟨L, H, sl, rfl, hL, hLH⟩ := Fr.shp_nat (checkS_shp hc)
    have hlen : sl.length = 24 := hf
    show ((if (H : Int) = 0 then accS ps (L : Int).toNat sl ((L : Int) + (H : Int)).toNat ++ By [32, 124, 32] else accS ps (L : Int).toNat sl ((L : Int) + (H : Int)).toNat) ++ By [93], (0 : Int)) = (By [91] ++ joinB (((sl.take ((L : Int) + (H : Int)).toNat).map ps).take (L : Int).toNat) ++ By [32, 124, 32] ++ joinB (((sl.take ((L : Int) + (H : Int)).toNat).map ps).drop (L : Int).toNat) ++ By [93], 0)
    rw [show ((L : Int) + (H : Int)).toNat = L + H by omega, Int.toNat_natCast]
    have htk : ((sl.take (L + H)).map ps).take L = (sl.take L).map ps := by rw [← List.map_take, List.take_take, show min L (L + H) = L by omega]
    rw [htk]
    cases H with
    | zero =>
      have hd : ((sl.take (L + 0)).map ps).drop L = [] := List.drop_of_length_le (by rw [List.length_map, List.length_take]; omega)
      rw [if_pos (by omega), hd, joinB_nil, show L + 0 = L from rfl, acc_low ps L sl L (Nat.le_refl _) (by omega)]
      congr 2
      rw [show By [] = ByteArray.empty from rfl, ByteArray.append_empty]
    | succ d =>
      rw [if_neg (by omega), acc_high ps L sl d (by omega)]
  · rw [if_neg hc, if_neg hc]
theorem sum_take (rb : Int → Int) (h0 : rb 0 = 0) (sl : List Int) (n : Nat) : ∀ d, n + d ≤ sl.length → (∀ j, n ≤ j → j < sl.length → sl.getD j 0 = 0) → sumS rb (sl.take (n + d)) = sumS rb (sl.take n)
  | 0, _, _ => rfl
  | d + 1, h, hz => by
    rw [show n + (d + 1) = (n + d) + 1 from rfl, take_snoc (by omega), sumS_snoc, sum_take rb h0 sl n d (by omega) hz, hz (n + d) (by omega) (by omega), h0]
    omega
theorem rank_same (vb : Int → Bool) (rb : Int → Int) (h0 : rb 0 = 0) (f : Fr) (hf : f.ok) : refrankS vb rb f = rankS vb rb f := by
  unfold refrankS rankS
  by_cases hc : checkS vb f = 0
  · rw [if_pos hc, if_pos hc]
    have hs := checkS_shp hc
    have hb : frEq (bareF f) f = true := by
      unfold checkS at hc
      rw [if_pos hs] at hc
      by_cases hb : frEq (bareF f) f = true
      · exact hb
      · rw [if_neg hb] at hc; cases hc
    obtain ⟨L, H, sl, rfl, hL, hLH⟩ := Fr.shp_nat hs
    have hlen : sl.length = 24 := hf
    rw [bareF_nat] at hb
    have hz := (bare_zero hlen hLH).1 hb
    show (sumS rb (sl.take ((L : Int) + (H : Int)).toNat), (0 : Int)) = (sumS rb sl, 0)
    rw [show ((L : Int) + (H : Int)).toNat = L + H by omega]
    have h1 := sum_take rb h0 sl (L + H) (24 - (L + H)) (by omega) (fun j h1 h2 => hz j h1 (by omega))
    rw [show L + H + (24 - (L + H)) = 24 by omega, List.take_of_length_le (by omega)] at h1
    rw [h1]
  · rw [if_neg hc, if_neg hc]
theorem rank_zero (l : Tbl) : rankB l 0 = 0 := by
  unfold rankB
  rw [if_neg (by simp)]
theorem print_small (l : Tbl) (hg : Go.Proofs.Ytgjnmpgmbhbbhaa.P.Good l) (t : Int) (ht : 0 ≤ t ∧ t ≤ 255) : (printB l t).size ≤ 24 := by
  unfold printB
  by_cases h5 : t ≤ 5
  · rw [if_pos h5]
    obtain rfl | rfl | rfl | rfl | rfl | rfl : t = 0 ∨ t = 1 ∨ t = 2 ∨ t = 3 ∨ t = 4 ∨ t = 5 := by omega
    all_goals decide
  · rw [if_neg h5]
    by_cases hv : validB l t = true
    · rw [if_pos hv]
      have h2 : 16 ≤ t ∧ t - 16 < (l.length : Int) := by
        unfold validB at hv
        simp only [Bool.or_eq_true, Bool.and_eq_true, decide_eq_true_eq] at hv
        omega
      have hf := hg (t - 16) (by omega) h2.2
      unfold faultB at hf
      have hn : nameOk (nam l (t - 16)) = true := by
        by_cases h32 : t - 16 ≥ 32
        · rw [if_pos h32] at hf; cases hf
        · rw [if_neg h32] at hf
          by_cases hn : nameOk (nam l (t - 16)) = true
          · exact hn
          · rw [if_neg hn] at hf; cases hf
      unfold nameOk at hn
      simp only [Bool.and_eq_true, decide_eq_true_eq] at hn
      omega
    · rw [if_neg hv]
      decide
theorem FramesChecks : provisolaw03_FramesChecks.Pure := by
  intro l0 a0 a1 a2 hl _ _ ha
  have hs : Sane l0 := hl
  have ra : ∀ t ∈ a2, 0 ≤ t ∧ t ≤ 255 := fun t ht => u8_of (ha.2 t ht)
  obtain ⟨K1, h1⟩ := ref_check l0 hs
  obtain ⟨K2, h2⟩ := impl_classes l0 hs
  obtain ⟨K3, h3⟩ := impl_same_classes l0 hs
  by_cases hc : (checkB l0).2 = 0
  · have hg := (good_iff l0).1 hc
    obtain ⟨K4, h4⟩ := ev_pairs (fun t _ k => provisoref02_Rank.f k l0 t) (fun t _ => rankB l0 t) a2 a2 (fun t ht u hu => ref_rank l0 hs hg t (ra t ht))
    refine ⟨ha.1, (K1 + K2 + K3 + K4 + 3) + l0.length + 2, true, ?_, fun _ => ⟨validB l0, rankB l0, printB l0, h2 _ (by omega), h3 _ (by omega), top_valid l0, rank_zero l0, fun t ht => ⟨impl_valid l0 t (ra t ht), ref_valid l0 t (ra t ht), impl_rank l0 hs.size t (ra t ht) (K1 + K2 + K3 + K4 + 3), h4 _ (by omega) t ht t ht, ⟨(rank_bounds l0 hg t).1, Int.le_trans (rank_bounds l0 hg t).2 (by decide)⟩, impl_print l0 t (ra t ht), ref_print l0 t (ra t ht), print_small l0 hg t (ra t ht)⟩, rank_same _ _ (rank_zero l0) _ ha.1, print_same _ _ _ ha.1⟩⟩
    unfold provisolaw03_table.f
    have h1 : provisoref02_Check.f ((K1 + K2 + K3 + K4 + 3) + l0.length + 2) l0 = some (checkB l0) := h1 _ (by omega)
    rw [h1]
    show some ((checkB l0).2 == 0) = some true
    rw [hc]
    rfl
  · refine ⟨ha.1, K1, false, ?_, fun h => by cases h⟩
    unfold provisolaw03_table.f
    have h1 : provisoref02_Check.f K1 l0 = some (checkB l0) := h1 _ (by omega)
    rw [h1]
    show some ((checkB l0).2 == 0) = some false
    rw [beq_eq_false_iff_ne.2 hc]
end Go.Proofs.Ytgjnmpgmbhbbhaa.Pure

end

section
namespace Go.Proofs.Ytgjnmpgmbhbbhaa.framesChecks
open Go.ChangeShapes Go.WideShapes Go.ChangeAt Go.RowKit Go.Proofs.YtgjnmpgmbhbbhaaW.PrintWords Go.Proofs.Ytgjnmpgmbhbbhaa.Sees Go.Proofs.Ytgjnmpgmbhbbhaa.P
open Go.ChangeMaps (open_string shut_string)
set_option linter.unusedVariables false
set_option linter.unusedSimpArgs false
theorem own : ownKnob Try.prog.godebug = none := by kernel_rfl
theorem laidOut : laidOutB Try.prog = true := by kernel_rfl
set_option maxRecDepth 100000 in
theorem lifted (os : Os) (started : os.Started) (H : Type) (enc : TypeId × Value → H) :
    ReturnsInHanded {} Try.checked os 10 .any (Rows.framesChecksSpec.pre6 enc Try.prog Try.f10 Rows.framesChecksRow.domain false) (Rows.framesChecksSpec.post enc Try.prog Try.f10 false true false false) := by
  refine returnsInHanded_of_change_sized (C := Try.checked) own started (by kernel_rfl) Try.func10
    (ChangeSpec.witness6 (enc := enc) (C := Try.checked) false ⟨#[], #[.slice none 0 0, .agg #[.int .i64 0, .int .i64 0, .int .u8 0, .int .u8 0, .int .u8 0, .int .u8 0, .int .u8 0, .int .u8 0, .int .u8 0, .int .u8 0, .int .u8 0, .int .u8 0, .int .u8 0, .int .u8 0, .int .u8 0, .int .u8 0, .int .u8 0, .int .u8 0, .int .u8 0, .int .u8 0, .int .u8 0, .int .u8 0, .int .u8 0, .int .u8 0, .int .u8 0, .int .u8 0]], []⟩ 8 (by kernel_rfl) (by kernel_rfl) (by kernel_rfl) (by kernel_rfl)) ?_
  intro W base args ds gs before hval0 hW hcnd hsz0 _
  have hsz : (DataW.weightsEach Try.prog (Try.f10.params.toList ++ Rows.framesChecksSpec.plain.varTypes Try.prog) (ds ++ gs)).all (· ≤ reachBytes) = true := hsz0
  have hval : ∀ (j : Nat) t v, Try.f10.params[j]? = some t → args[j]? = some v → Value.okWide Try.prog W .any base t v := hval0
  have hW' := hW
  obtain ⟨p, q, hA0, hV, rfl, hfz, hnd⟩ := hW
  have hA : DataW.TrodAll enc Try.prog W 0 (fun _ => true) true Try.f10.params.toList args.toList ds p := hA0
  rw [Try.params10] at hA hval hsz
  obtain ⟨v0, vs0, d0, ds0, p0, q0, hargs, rfl, rfl, h0, r0⟩ := trodAll_cons hA
  obtain ⟨v1, vs1, d1, ds1, p1, q1, rfl, rfl, rfl, h1, r1⟩ := trodAll_cons r0
  obtain ⟨rfl, rfl, rfl⟩ := trodAll_nil r1
  obtain rfl : args = #[v0, v1] := by cases args; simp_all
  obtain ⟨rfl, rfl⟩ := trodVars_none hV
  have k0 := h0
  have lt0 : ∀ x ∈ p0, x.block < W.heap.size := by obtain ⟨m, hm⟩ := k0; exact DataW.trod_lt m _ _ _ hm
  obtain ⟨y0, hy0, oy0⟩ := see_arg (j := 0) (t := 22) (sees_slice (B := 48) Try.underlying22 (by kernel_rfl) (by kernel_rfl) sees59) hsz rfl rfl h0
  obtain ⟨a0, len0, cap0, rfl⟩ := okWide_slice Try.underlying22 (hval 0 22 v0 rfl rfl)
  obtain ⟨rfl, hc0, hr0⟩ := see_slice rfl hy0
  have k1 := h1
  have lt1 : ∀ x ∈ p1, x.block < W.heap.size := by obtain ⟨m, hm⟩ := k1; exact DataW.trod_lt m _ _ _ hm
  obtain ⟨y1, hy1, oy1⟩ := see_arg (j := 1) (t := 27) (sees_struct (fun y => y) (fun y => y) (fun _ => rfl) Try.underlying27 (by kernel_rfl) (sees_more rfl (by kernel_rfl) (sees_int Try.underlying3) (sees_more rfl (by kernel_rfl) (sees_int Try.underlying3) (sees_last rfl (by kernel_rfl) (sees_array (by decide) Try.underlying25 (by kernel_rfl) (by kernel_rfl) (sees_int Try.underlying24)))))) hsz rfl rfl h1
  obtain ⟨cs1, rfl, hcs1⟩ := okWide_struct Try.underlying27 (hval 1 27 v1 rfl rfl)
  obtain rfl : cs1 = (⟨y1.1, y1.2.1, y1.2.2⟩ : Fr).a := Array.ext' (by have e_ := (frame_cells hy1).1; simpa [Value.cells, Fr.a] using e_)
  clear hA0 hval0 hsz0 hsz
  have hk := Pure.FramesChecks y0 y1.1 y1.2.1 y1.2.2 oy0 oy1.1 oy1.2.1 oy1.2.2
  refine (provisolaw03_FramesChecks.calls _ _ y0 (y1.1) (y1.2.1) (y1.2.2) W hr0 hc0 hk).mono ?_
  rintro e W' ⟨rfl, bel0⟩
  have bel : Below W.heap.size W W' := bel0
  exact ⟨_, rfl, _, _, _, [], _, [], hW', trodAll_mk1 (shut_bool Try.underlying4 _), (trodAll_cons_mk (Below.trod laidOut (by kernel_rfl) (of_decide_eq_true (by kernel_rfl)) k0 bel lt0) (trodAll_cons_mk (Below.trod laidOut (by kernel_rfl) (of_decide_eq_true (by kernel_rfl)) k1 bel lt1) trodAll_mk0)), rfl, bel.frame _, fun h => by cases h⟩
theorem over : Rows.framesChecksRow.holds Try.pinned (OpenSpec.ofChange Rows.framesChecksSpec) :=
  OpenClaim.holds_of_wide 10 Try.f10 rfl rfl rfl rfl rfl rfl rfl ⟨rfl, rfl, rfl, rfl, rfl⟩ rfl rfl rfl rfl rfl (by kernel_rfl) Try.func10 (by kernel_rfl)
    (of_decide_eq_true (by kernel_rfl)) (by unfold Func.isWrapper; first | (rw [if_pos (by decide +kernel)]; kernel_rfl) | (rw [if_neg (by decide +kernel)]; exact ⟨rfl, rfl⟩))
    (fun os started H enc _ => lifted os started H enc)
theorem proved : Rows.FramesChecksSaid := over
end Go.Proofs.Ytgjnmpgmbhbbhaa.framesChecks
namespace Go.Proofs.Ytgjnmpgmbhbbhaa
theorem framesChecks_holds : Rows.FramesChecksSaid := framesChecks.proved
end Go.Proofs.Ytgjnmpgmbhbbhaa

end

