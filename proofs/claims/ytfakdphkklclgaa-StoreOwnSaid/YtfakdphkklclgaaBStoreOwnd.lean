/- Proved: the law StoreOwn holds for every input that the row lets in. No condition of ours. -/
import Derived.Test.YtfakdphkklclgaaBStoreOwnc
import Derived.Deep.DeepAppendWide
section
namespace Go.Proofs.Ytfakdphkklclgaa.P
open Go.RowKit Go.Proofs.YtfakdphkklclgaaW.PrintWords Go.Proofs.YtfakdphkklclgaaW.PrintLast Go.Proofs.YtfakdphkklclgaaW.PrintMore
attribute [local go_sem] max2_int min2_int max_two min_two max_three min_three max_four min_four
set_option linter.unusedVariables false
set_option linter.unusedSimpArgs false
section
open Go.ChangeMaps Go.MapKept
set_option linter.unusedVariables false
set_option maxHeartbeats 6400000 in
set_option maxRecDepth 100000 in
theorem laid_fits {base g : Nat} {F : Nat → Prop} {s : Sto} {w : World} (K : Nat) (nm : ByteArray → Bool) (hK : StFacts K nm) (hg : Good nm s) (kind : Int) (hkind : kind = 1 ∨ kind = 2) (x : ByteArray) (hx : nm x = true) (ex : List Int) (hex : ex.length ≤ 5000) (fid : FuncId) (fr : Array Value) (hcf : ∀ (vs : Array Value) (w : World), Sem.run Try.prog (callFunc fid vs) w = .ok (.enter fid vs) w) (hput : ∀ (g2 : Nat) (W1 : World), Below w.heap.size w W1 → WtAt w.heap.size g2 (fun _ => True) ([0] ++ nameBytes x) W1 → Calls Try.prog fid (#[.pointer (some ⟨g2, 0, none⟩)] ++ fr) W1 fun e w' => e = .returned (.tuple #[]) ∧ WtAt w.heap.size g2 (fun _ => True) ([0] ++ nameBytes x ++ ex) w' ∧ Below w.heap.size W1 w') (h : SAt base F g s w) (hf : s.img.length + ([0] ++ nameBytes x ++ ex).length + 1 ≤ 1048576) : Calls Try.prog 36 #[.pointer (some ⟨g, 0, none⟩), .int .u8 kind, .string x, .func (.func fid) #[] fr] w fun e w' => StPost base F g w (⟨s.img ++ ([0] ++ nameBytes x ++ ex).set 0 kind, s.L⟩, [⟨(s.img.length : Int), ([0] ++ nameBytes x ++ ex) ++ [0]⟩, ⟨(s.img.length : Int), [kind]⟩], 0) e w' := by
  have hsz := (hK.siz x hx).2
  have hN : wire_IsName.f K x = some true := by rw [hK.rd.name x, hx]
  have himg := hg.img
  have H := Aside0.mk h
  have HPUT := Aside0.mk hput
  have HNM := Aside0.mk hN
  have hnl : (nameBytes x).length = x.size + 1 := by unfold nameBytes bytesOf; simp [Lib.toList_data]
  obtain ⟨R, hR⟩ : ∃ R, R = [0] ++ nameBytes x ++ ex := ⟨_, rfl⟩
  have hRl : R.length = x.size + 2 + ex.length := by rw [hR]; simp [hnl]; omega
  have HRE := Aside0.mk hR
  have HRL := Aside0.mk hRl
  have HH := Aside0.mk h
  rw [← hR] at hf
  rw [← hR]
  clear hR hRl hnl
  have hsh := h.now
  clear h hput hK hg hN hx
  go_enter Try.func36, Try.ntmps36
  go_wp2_with fail
  refine (New_calls w).mono ?_
  rintro e w1 ⟨gw, rfl, hwt, hb⟩
  have HWT := Aside0.mk hwt
  have HB := Aside0.mk hb
  clear hwt hb
  go_wp2_with fail
  refine (wByte_good HWT.out 0 (by decide) (by decide)).mono ?_
  rintro e w2 ⟨q, _⟩
  obtain ⟨rfl, hwt, hb, _⟩ := q (by simp)
  replace HWT := Aside0.mk (show WtAt w.heap.size gw (fun _ => True) [0] w2 from hwt.mono (fun _ _ => trivial))
  replace HB := Aside0.mk (HB.out.trans hb)
  clear hwt hb q
  go_wp2_with fail
  refine (wName_good HWT.out K x HNM.out hsz).mono ?_
  rintro e w3 ⟨q, _⟩
  obtain ⟨rfl, hwt, hb, _⟩ := q (by simp; omega)
  replace HWT := Aside0.mk (show WtAt w.heap.size gw (fun _ => True) ([0] ++ nameBytes x) w3 from hwt.mono (fun _ _ => trivial))
  replace HB := Aside0.mk (HB.out.trans hb)
  clear hwt hb q
  go_wp2_with fail
  refine (HPUT.out gw w3 HB.out HWT.out).mono ?_
  rintro e w4 ⟨rfl, hwt, hb⟩
  rw [← HRE.out] at hwt
  replace HWT := Aside0.mk hwt
  replace HB := Aside0.mk (HB.out.trans hb)
  clear hwt hb
  go_wp2_with fail
  refine (Bytes_wt HWT.out).mono ?_
  have HW4 := Aside0.mk HB.out.size
  rintro e w5 ⟨vb, rfl, hrb, hb⟩
  replace HB := Aside0.mk (below_step HB.out hb)
  obtain ⟨gb, cb, evb, hgb0, hgb, cells, hgc⟩ := Kd.R_form hrb (by have := HRL.out; omega)
  subst evb
  replace H := Aside0.mk (H.out.step HB.out)
  have HS5 := Aside0.mk H.out
  obtain ⟨Ai, ci, B, m, h1, h2, h3, h4, h5, h6⟩ := H.out.cells
  have hfg := H.out.fs
  have hlt := H.out.lt
  have hc0 := blk_cell h1 0
  have hf0 := blk_frozen h1 0
  have hw1 : wrap64 ((1048576 : Int) - (s.img.length : Int)) = (1048576 : Int) - (s.img.length : Int) := by unfold wrap64; omega
  have c1 : decide ((R.length : Int) ≥ (1048576 : Int) - (s.img.length : Int)) = false := decide_eq_false (by omega)
  have HI1 := Aside0.mk h1
  have HI2 := Aside0.mk h2
  have HRB := Aside0.mk hrb
  have HGC := Aside0.mk hgc
  have hpos : 0 < R.length := by have := HRL.out; omega
  have hcp := cells_pos hrb (by have := HRL.out; omega) hgc
  have HGB := Aside0.mk hgb
  have HGB0 := Aside0.mk hgb0
  have HREST := Aside0.mk (And.intro h3 (And.intro h4 (And.intro h5 (And.intro h6 (And.intro hfg hlt)))))
  clear h1 h2 h3 h4 h5 h6 hfg hlt hrb hgc hb hsh hgb0 hgb
  go_wp2_with fail
  refine (cloned_calls _ cb R _ (Kd.R_reads' HRB.out).2.2 (by omega)).mono ?_
  rintro e w6 ⟨vc, rfl, hR6, hb6⟩
  have HB6 := Aside0.mk hb6
  obtain ⟨Ac, cc, e6⟩ := Kd.R_slice hR6
  subst e6
  have HR6 := Aside0.mk hR6
  clear hR6 hb6
  go_wp2_with (first | (at_builtin; refine R_append1 (Kd.int .u8) (w0 := w6) w5.heap.size rfl (.tmp 37) (.tmp 38) 23 5 (.int .u8 0) 1 rfl Try.underlying23 info5 rfl (by decide) (by decide) (.slice Ac R.length cc) (R) ((0 : Int)) [.int .u8 0] (fun _ => True) (fun _ => False) rfl rfl rfl (fun _ hk => hk.elim) (fun _ _ => trivial) HR6.out (Below.refl _ _) HB6.out.size (by unfold maxLen; omega) (byte_fits (by omega)) ?_; intro v7 w7 ho hb7 hg7 hat7; obtain ⟨A7, c7, e7⟩ := Kd.R_slice ho; rw [List.length_append, List.length_singleton] at e7; subst e7; have HR7 := Aside0.mk ho; have HB7 := Aside0.mk hb7; clear ho hb7 hg7 hat7) | ((with_reducible refine gate_store (t := 5) (p := 48) rfl ?_); refine halt_at ?_))
  refine halt_go ?_
  have hs67 := (HB6.out.trans HB7.out).size
  have h8 := (HB7.out.alloc hs67 (.cells #[.int .u8 kind] 5)).alloc (by simp; omega) (.cells #[.int .i64 (s.img.length : Int), .slice A7 (R.length + 1) c7, .int .i64 (s.img.length : Int), .slice (some ⟨w7.heap.size, 0, none⟩) 1 1] 52)
  have hwr := WrAt.made HR7.out (HB6.out.trans HB7.out).size kind (s.img.length : Int)
  have hsz8 : ((w7.alloc (.cells #[.int .u8 kind] 5)).alloc (.cells #[.int .i64 (s.img.length : Int), .slice A7 (R.length + 1) c7, .int .i64 (s.img.length : Int), .slice (some ⟨w7.heap.size, 0, none⟩) 1 1] 52)).heap.size = w7.heap.size + 2 := (by simp)
  generalize ((w7.alloc (.cells #[.int .u8 kind] 5)).alloc (.cells #[.int .i64 (s.img.length : Int), .slice A7 (R.length + 1) c7, .int .i64 (s.img.length : Int), .slice (some ⟨w7.heap.size, 0, none⟩) 1 1] 52)) = w8 at h8 hwr hsz8 ⊢
  have h58 : Below w5.heap.size w5 w8 := HB6.out.trans h8
  have hgX := blk_below HGC.out h58
  refine st_store1 (g := gb) (i := 0) (u := .int .u8 kind) rfl 5 rfl rfl rfl rfl hgX hcp (by kernel_rfl) ?_
  have hR9 : Kd.R (Kd.int .u8) 5 (w8.setCell ⟨gb, 0, none⟩ (.int .u8 kind)) w4.heap.size (fun _ => True) (.slice (some ⟨gb, 0, none⟩) R.length cb) (R.set 0 kind) := Kd.R_putn (Kd.R_below HRB.out h58) 0 kind
  have hk9 : Kept w5 (w8.setCell ⟨gb, 0, none⟩ (.int .u8 kind)) (fun k => k = gb) := Kept.setCell (Kept.of_below h58 (fun k => k = gb)) (.inl rfl) _
  have hs9 := setCell_size w8 ⟨gb, 0, none⟩ (.int .u8 kind)
  have hwr9 := WrAt.kept hwr (set_kept w8 gb 0 (.int .u8 kind)) (fun b q1 _ q2 => by have := HGB.out; omega)
  have hB9 : Below w.heap.size w (w8.setCell ⟨gb, 0, none⟩ (.int .u8 kind)) := (HB.out.trans (h58.mono HB.out.size)).setCell (by show w.heap.size ≤ gb; have := HGB0.out; have := HW4.out; omega) _
  generalize (w8.setCell ⟨gb, 0, none⟩ (.int .u8 kind)) = w9 at hR9 hk9 hs9 hwr9 hB9 ⊢
  have hlt9 : ∀ b, F b → ¬ (b = gb) := fun b q e => (by have := (HH.out.lt b q).2; have := HGB0.out; have := HW4.out; omega)
  have HS9 := Aside0.mk (HS5.out.kept hk9 hlt9)
  obtain ⟨Ai9, ci9, B9, m9, g1, g2, g3, g4, g5, g6⟩ := HS9.out.cells
  have hc9 := blk_cell g1 0
  have HR9 := Aside0.mk hR9
  have HWR9 := Aside0.mk hwr9
  have HB9 := Aside0.mk hB9
  have HK9 := Aside0.mk hk9
  have HG1 := Aside0.mk g1
  have HG2 := Aside0.mk (Kd.R_mono g2 (fun k hk => (.inl hk : F k ∨ (w9.heap.size ≤ k))))
  have HGR := Aside0.mk (And.intro g2 (And.intro g3 (And.intro g4 (And.intro g5 g6))))
  have hrl9 : (R.set 0 kind).length = R.length := List.length_set
  have hbw : base ≤ w9.heap.size := by
    have h3 := HS9.out.lt g HS9.out.fs
    omega
  clear g1 g2 g3 g4 g5 g6 hR9 hwr9 hB9 hk9 h8 hwr h58 hgX hlt9 hc0 hf0
  go_wp2_with ((with_reducible refine gate_builtin (b := .append) (xs := #[.tmp 53, .tmp 54]) rfl ?_); at_builtin; refine halt_at ?_)
  unfold Halt_
  refine Kd.R_append_rows (Kd.int .u8) (w0 := w9) base rfl (.tmp 53) (.tmp 54) 23 5 (.int .u8 0) 1 rfl Try.underlying23 info5 rfl (by decide) (by omega) (.slice Ai9 s.img.length ci9) s.img (R.set 0 kind) (some ⟨gb, 0, none⟩) R.length cb (fun k => F k ∨ w9.heap.size ≤ k) (fun _ => False) rfl rfl HG2.out (by rw [← hrl9]; exact (Kd.R_reads' HR9.out).2.2) (fun _ _ h => h) (fun _ h => h.elim) (fun k hk => .inr hk) (Below.refl _ _) (by omega) (by omega) ?_
  intro v10 w10 ho hb hg hat
  obtain ⟨A10, c10, e10⟩ := Kd.R_slice ho
  rw [List.length_append, hrl9] at e10
  subst e10
  have hG10 := blk_grown HG1.out hg (Kd.R_ne HG2.out HG1.out (by decide))
  have hcI := blk_cell hG10 0
  have hfI := blk_frozen hG10 0
  have HO := Aside0.mk ho
  have HB10 := Aside0.mk hb
  have HGW := Aside0.mk hg
  have HAT := Aside0.mk hat
  clear ho hb hg hat hG10 hc9
  go_wp2
  have hFl := fun b (q : F b) => HH.out.lt b q
  have hw5 : w.heap.size ≤ w5.heap.size := HB.out.size
  have hown : ∀ k, (Value.slice Ai9 s.img.length ci9).ownBlock = some k → F k := HGR.out.1.1
  have hs10 := setCell_size w10 ⟨g, 0, none⟩ (.slice A10 (s.img.length + R.length) c10)
  have hg10 : w9.heap.size ≤ w10.heap.size := HB10.out.size
  have hk10 : Kept w9 (w10.setCell ⟨g, 0, none⟩ (.slice A10 (s.img.length + R.length) c10)) F := ⟨by rw [hs10]; exact hg10, fun k hk hn => (Below.heap_setCell _ _ _ k (fun e => hn (by rw [e]; exact HH.out.fs))).trans (HGW.out.block k hk (fun e => hn (hown k e.symm)))⟩
  have hsz9 : w9.heap.size = w7.heap.size + 2 := by rw [hs9]; exact hsz8
  go_ret2
  refine ⟨_, w5.heap.size, w7.heap.size + 2, rfl, hw5, by omega, by rw [hs10]; omega, .inr ⟨_, _, _, rfl, HWR9.out.kept hk10 (fun b q1 _ q => by have := (hFl b q).2; omega)⟩, ?_, ?_, fun B w0 hB hw => ?_⟩
  · refine SAt.image HG1.out HGR.out.1 HGR.out.2.1 HGR.out.2.2.1 HGR.out.2.2.2.1 HGR.out.2.2.2.2 HH.out.fs (fun b q => ⟨(hFl b q).1, Nat.lt_of_lt_of_le (hFl b q).2 (by omega)⟩) HGW.out HAT.out (Kd.R_mono (Kd.R_bound HO.out) (fun b q => ?_)) (fun b q => .inl q) (fun b q => ?_) rfl
    · rw [hs10]
      rcases q.1 with q1 | q1
      · exact .inl q1
      · exact .inr ⟨by omega, q.2.2.1⟩
    · rw [hs10] at q
      rcases q with q1 | q1
      · exact ⟨(hFl b q1).1, by have := (hFl b q1).2; omega⟩
      · exact ⟨by omega, q1.2⟩
  · exact ⟨by rw [hs10]; omega, fun k hk hn => (hk10.2 k (by omega) hn).trans (HB9.out.block k hk)⟩
  · have h1 := (hFl g HH.out.fs)
    exact ((hw.trans (HB9.out.mono (by omega))).trans (HB10.out.mono hB)).setCell (show B ≤ g by omega) _
end
end Go.Proofs.Ytfakdphkklclgaa.P

end

section
namespace Go.Proofs.Ytfakdphkklclgaa.P
open Go.RowKit Go.Proofs.YtfakdphkklclgaaW.PrintWords Go.Proofs.YtfakdphkklclgaaW.PrintLast Go.Proofs.YtfakdphkklclgaaW.PrintMore
attribute [local go_sem] max2_int min2_int max_two min_two max_three min_three max_four min_four
set_option linter.unusedVariables false
set_option linter.unusedSimpArgs false
section
theorem lessB_irr (a : ByteArray) : lessB a a = false := by
  rw [Bool.eq_false_iff]
  intro h
  exact List.lt_irrefl _ ((lessB_iff a a).1 h)
theorem lessB_trans {a b c : ByteArray} (h1 : lessB a b = true) (h2 : lessB b c = true) : lessB a c = true := (lessB_iff a c).2 (List.lt_trans ((lessB_iff a b).1 h1) ((lessB_iff b c).1 h2))
theorem lessB_tot {a b : ByteArray} (h1 : lessB a b = false) (h2 : a ≠ b) : lessB b a = true := by
  rw [lessB_iff]
  rcases Decidable.em (b.data.toList < a.data.toList) with h | h
  · exact h
  · exfalso
    have h3 : ¬ a.data.toList < b.data.toList := fun q => by rw [(lessB_iff a b).2 q] at h1; cases h1
    exact h2 (data_inj (List.le_antisymm (List.not_lt.1 h) (List.not_lt.1 h3)))
theorem lk_put (x : ByteArray) (b : List Int) (L : List S101) (y : ByteArray) : lkL (putL x b L) y = if y = x then some b else lkL L y := by
  induction L with
  | nil =>
    unfold putL lkL
    by_cases e : y = x
    · rw [if_pos e, if_pos e.symm]
    · rw [if_neg e, if_neg (fun q => e q.symm)]; rfl
  | cons k l ih =>
    unfold putL
    by_cases c1 : lessB k.f0 x = true
    · rw [if_pos c1]
      have hne : k.f0 ≠ x := fun e => by rw [e, lessB_irr] at c1; cases c1
      conv => lhs; unfold lkL
      conv => rhs; unfold lkL
      by_cases e : k.f0 = y
      · rw [if_pos e, if_pos e, if_neg (fun q => hne (e.trans q))]
      · rw [if_neg e, if_neg e, ih]
    · rw [if_neg c1]
      by_cases c2 : k.f0 = x
      · rw [if_pos c2]
        conv => lhs; unfold lkL
        conv => rhs; unfold lkL
        by_cases e : y = x
        · rw [if_pos e, if_pos e.symm]
        · rw [if_neg e, if_neg (fun q => e q.symm), if_neg (fun q => e (q.symm.trans c2))]
      · rw [if_neg c2]
        conv => lhs; unfold lkL
        by_cases e : y = x
        · rw [if_pos e, if_pos e.symm]
        · rw [if_neg e, if_neg (fun q => e q.symm)]
theorem lk_none_of {L : List S101} {x : ByteArray} (h : ∀ k ∈ L, lessB x k.f0 = true) : lkL L x = none := by
  induction L with
  | nil => rfl
  | cons k l ih =>
    unfold lkL
    rw [if_neg, ih (fun k' hk => h k' (List.mem_cons_of_mem _ hk))]
    intro e
    have := h k List.mem_cons_self
    rw [e, lessB_irr] at this
    cases this
theorem srt_head {k : S101} {l : List S101} {x : ByteArray} (h : Srt (k :: l)) (c1 : ¬ lessB k.f0 x = true) (c2 : k.f0 ≠ x) : lkL (k :: l) x = none := by
  have h1 : lessB x k.f0 = true := lessB_tot (by simpa using c1) c2
  refine lk_none_of fun k' hk => ?_
  rcases List.mem_cons.1 hk with rfl | hk
  · exact h1
  · exact lessB_trans h1 ((List.pairwise_cons.1 h).1 k' hk)
theorem put_len (x : ByteArray) (b : List Int) {L : List S101} (h : Srt L) : (putL x b L).length = if (lkL L x).isSome = true then L.length else L.length + 1 := by
  induction L with
  | nil => rfl
  | cons k l ih =>
    unfold putL
    by_cases c1 : lessB k.f0 x = true
    · have hne : k.f0 ≠ x := fun e => by rw [e, lessB_irr] at c1; cases c1
      rw [if_pos c1, List.length_cons, ih (List.pairwise_cons.1 h).2]
      conv => rhs; unfold lkL
      rw [if_neg hne]
      split <;> simp
    · rw [if_neg c1]
      by_cases c2 : k.f0 = x
      · rw [if_pos c2]
        conv => rhs; unfold lkL
        rw [if_pos c2]
        simp
      · rw [if_neg c2, srt_head h c1 c2]
        simp
theorem put_srt (x : ByteArray) (b : List Int) {L : List S101} (h : Srt L) : Srt (putL x b L) := by
  induction L with
  | nil => exact List.pairwise_singleton _ _
  | cons k l ih =>
    obtain ⟨h1, h2⟩ := List.pairwise_cons.1 h
    unfold putL
    by_cases c1 : lessB k.f0 x = true
    · rw [if_pos c1]
      refine List.pairwise_cons.2 ⟨fun k' hk => ?_, ih h2⟩
      have hm : ∀ L : List S101, k' ∈ putL x b L → k' = ⟨x, b⟩ ∨ k' ∈ L := by
        intro L
        induction L with
        | nil => intro q; exact .inl (List.mem_singleton.1 q)
        | cons a t ih =>
          intro q
          unfold putL at q
          split at q
          · rcases List.mem_cons.1 q with rfl | q
            · exact .inr List.mem_cons_self
            · exact (ih q).imp id (List.mem_cons_of_mem _)
          · split at q
            · exact (List.mem_cons.1 q).imp id (List.mem_cons_of_mem _)
            · exact List.mem_cons.1 q
      rcases hm l hk with rfl | q
      · exact c1
      · exact h1 k' q
    · rw [if_neg c1]
      by_cases c2 : k.f0 = x
      · rw [if_pos c2]
        exact List.pairwise_cons.2 ⟨fun k' hk => by rw [← c2]; exact h1 k' hk, h2⟩
      · rw [if_neg c2]
        have h3 : lessB x k.f0 = true := lessB_tot (by simpa using c1) c2
        exact List.pairwise_cons.2 ⟨fun k' hk => by
          rcases List.mem_cons.1 hk with rfl | hk
          · exact h3
          · exact lessB_trans h3 (h1 k' hk), h⟩
theorem put_mem {x : ByteArray} {b : List Int} {L : List S101} {k : S101} (h : k ∈ putL x b L) : k = ⟨x, b⟩ ∨ k ∈ L := by
  induction L with
  | nil => exact .inl (List.mem_singleton.1 h)
  | cons a t ih =>
    unfold putL at h
    split at h
    · rcases List.mem_cons.1 h with rfl | q
      · exact .inr List.mem_cons_self
      · exact (ih q).imp id (List.mem_cons_of_mem _)
    · split at h
      · exact (List.mem_cons.1 h).imp id (List.mem_cons_of_mem _)
      · exact List.mem_cons.1 h
end
end Go.Proofs.Ytfakdphkklclgaa.P

end

section
namespace Go.Proofs.Ytfakdphkklclgaa.P
open Go.RowKit Go.Proofs.YtfakdphkklclgaaW.PrintWords Go.Proofs.YtfakdphkklclgaaW.PrintLast Go.Proofs.YtfakdphkklclgaaW.PrintMore
attribute [local go_sem] max2_int min2_int max_two min_two max_three min_three max_four min_four
set_option linter.unusedVariables false
set_option linter.unusedSimpArgs false
section
open Go.ChangeMaps Go.MapKept
set_option linter.unusedVariables false
theorem SAt.put {base g : Nat} {F : Nat → Prop} {s : Sto} {W W1 : World} {v : Value} {B : Nat} {m : ByteArray → Option Hd} (x : ByteArray) (b : List Int) (d : Hd) (hs : Srt s.L)
    (h1 : W.heap[g]? = some (.cells #[v, .map (some B), .bool true] 62 (0, 0))) (h2 : Kd.R (Kd.int .u8) 5 W base F v s.img) (h3 : HMap W B s.L.length m s.L.length) (h4 : F B) (h5 : ∀ x, (m x).isSome = (lkL s.L x).isSome)
    (h6 : ∀ x d, m x = some d → ∀ xs, lkL s.L x = some xs → d.n = xs.length ∧ xs.length ≤ d.c ∧ Kd.F (Kd.int .u8) W (fun b => F b ∧ v.ownBlock ≠ some b ∧ b ≠ B ∧ b ≠ g) d.A xs.length xs) (hf : F g) (hl : ∀ b, F b → base ≤ b ∧ b < W.heap.size)
    (hd1 : d.n = b.length) (hd2 : b.length ≤ d.c) (hd3 : Kd.F (Kd.int .u8) W (fun b => F b ∧ v.ownBlock ≠ some b ∧ b ≠ B ∧ b ≠ g) d.A b.length b)
    (hm : HMap W1 B (s.L.length + 1) (updH m x d) (if (m x).isSome then s.L.length else s.L.length + 1)) (hg : W.grownBy W1 (some B)) : SAt base F g ⟨s.img, putL x b s.L⟩ W1 := by
  have hk : Kept W W1 (fun k => k = B) := ⟨hg.size, fun k hk hn => hg.block k hk (fun e => hn (by injection e))⟩
  have n3 : v.ownBlock ≠ some B := fun q => by
    obtain ⟨cs, h7⟩ := Kd.R_typed h2 B q
    exact h3.ne h7 rfl
  have hm2 : HMap W1 B (putL x b s.L).length (updH m x d) (putL x b s.L).length := by
    rw [put_len x b hs, ← h5 x]
    exact hm_tight hm
  refine ⟨⟨v, B, updH m x d, blk_kept h1 hk (fun e => h3.ne h1 e.symm), Kd.R_mono (Kd.R_kept (Kd.R_tight2 rfl h2) hk (fun k q e => n3 (by rw [← e]; exact q.1.symm))) (fun k q => q.2), hm2, h4, fun y => ?_, fun y d' hy xs hx => ?_⟩, hf, fun b q => ⟨(hl b q).1, Nat.lt_of_lt_of_le (hl b q).2 hg.size⟩⟩
  · show (updH m x d y).isSome = (lkL (putL x b s.L) y).isSome
    rw [lk_put]
    unfold updH
    split
    · rfl
    · exact h5 y
  · rw [lk_put] at hx
    unfold updH at hy
    by_cases e : y = x
    · rw [if_pos e] at hy hx
      cases hy
      cases hx
      exact ⟨hd1, hd2, Kd.F_kept hd3 hk (fun k q => q.2.2.1)⟩
    · rw [if_neg e] at hy hx
      obtain ⟨q1, q2, q3⟩ := h6 y d' hy xs hx
      exact ⟨q1, q2, Kd.F_kept q3 hk (fun k q => q.2.2.1)⟩
set_option maxHeartbeats 3200000 in
set_option maxRecDepth 100000 in
theorem Put1_calls {base g2 bx : Nat} {bs b : List Int} {w : World} (h : WtAt base g2 (fun _ => True) bs w) (A : Option Addr) (c : Nat) (hx : w.heap[bx]? = some (.cells #[.slice A b.length c] 23 (0, 0))) (hr : Kd.C (Kd.int .u8) w A b.length b) (hb : b.length ≤ 4096) (hbx : bx < base) (hba : ∀ W', Below base w W' → Kd.C (Kd.int .u8) W' A b.length b) (hl : bs.length ≤ 4096) : Calls Try.prog 37 #[.pointer (some ⟨g2, 0, none⟩), .pointer (some ⟨bx, 0, none⟩)] w fun e w' => e = .returned (.tuple #[]) ∧ WtAt base g2 (fun _ => True) (bs ++ ([byt (b.length : Int) 256, byt (b.length : Int) 1] ++ b)) w' ∧ Below base w w' := by
  have H := Aside0.mk h
  have HX := Aside0.mk hx
  have HBA := Aside0.mk hba
  have hcx := blk_cell hx 0
  clear h hx hba hr
  go_enter Try.func37, Try.ntmps37
  go_wp2_with fail
  refine (wWord_good H.out (b.length : Int) (by omega) (by omega)).mono ?_
  rintro e w1 ⟨q, _⟩
  obtain ⟨rfl, hwt, hb1, _⟩ := q (by omega)
  have HWT := Aside0.mk (show WtAt base g2 (fun _ => True) (bs ++ [byt (b.length : Int) 256, byt (b.length : Int) 1]) w1 from hwt.mono (fun _ _ => trivial))
  have HB := Aside0.mk hb1
  clear hwt hb1 q hcx
  have hcx := blk_cell ((HB.out.block bx hbx).trans HX.out) 0
  go_wp2_with fail
  refine (Put_good HWT.out A c (HBA.out _ HB.out) (by rw [List.length_append]; simp; omega)).mono ?_
  rintro e w2 ⟨rfl, hwt, hb1, _⟩
  have HWT2 := Aside0.mk (show WtAt base g2 (fun _ => True) (bs ++ [byt (b.length : Int) 256, byt (b.length : Int) 1] ++ b) w2 from hwt.mono (fun _ _ => trivial))
  have HB2 := Aside0.mk (HB.out.trans hb1)
  clear hwt hb1 hcx
  go_wp2_with fail
  go_end0
  exact ⟨rfl, by simpa using HWT2.out, HB2.out⟩
end
end Go.Proofs.Ytfakdphkklclgaa.P

end

section
namespace Go.Proofs.Ytfakdphkklclgaa.P
open Go.RowKit Go.Proofs.YtfakdphkklclgaaW.PrintWords Go.Proofs.YtfakdphkklclgaaW.PrintLast Go.Proofs.YtfakdphkklclgaaW.PrintMore
attribute [local go_sem] max2_int min2_int max_two min_two max_three min_three max_four min_four
set_option linter.unusedVariables false
set_option linter.unusedSimpArgs false
section
open Go.ChangeMaps Go.MapKept
set_option linter.unusedVariables false
theorem callFunc_st {f : Nat} {fn : Func} (hf : Try.prog.funcs[f]? = some fn) (hname : (fn.name == "runtime.NumGoroutine") = false) (hb : fn.body.isSome = true) (vs : Array Value) (w : World) : Sem.run Try.prog (callFunc f vs) w = .ok (.enter f vs) w := enters_ hf hname hb vs w
theorem StPost.since {base : Nat} {F : Nat → Prop} {g : Nat} {w w1 w' : World} {out : Sto × List S52 × Int} {e : Ending} (h : StPost base F g w1 out e w') (hb : Below w.heap.size w w1) (hbs : base ≤ w.heap.size) : StPost base F g w out e w' := by
  obtain ⟨v, S1, S2, h1, h2, h3, h4, h5, h6, h7, h8⟩ := h
  exact ⟨v, S1, S2, h1, Nat.le_trans hb.size h2, h3, h4, h5, h6, ⟨Nat.le_trans hb.size h7.1, fun k hk hn => (h7.2 k (Nat.lt_of_lt_of_le hk hb.size) hn).trans (hb.block k hk)⟩, fun B w0 hB hw => h8 B w0 hB (hw.trans (hb.mono (Nat.le_trans hB hbs)))⟩
theorem byt_256 {n : Nat} (h : n ≤ 4096) : byt (n : Int) 256 = (n : Int) / 256 % 256 := by unfold byt; omega
theorem byt_1 {n : Nat} (h : n ≤ 4096) : byt (n : Int) 1 = (n : Int) % 256 := by unfold byt; omega
theorem rec_put (x : ByteArray) (b : List Int) (h : b.length ≤ 4096) : ([0] ++ nameBytes x ++ ([byt (b.length : Int) 256, byt (b.length : Int) 1] ++ b)).set 0 1 = recB 1 x b := by
  rw [byt_256 h, byt_1 h]
  unfold recB nameBytes
  simp
theorem laidS_of (s : Sto) (l : List S101) (kind : Int) (t : List Int) : laidS s l (([0] ++ t).set 0 kind) = if 1048576 < s.img.length + ([0] ++ t).length + 1 then (s, [], 7) else (⟨s.img ++ ([0] ++ t).set 0 kind, l⟩, [⟨(s.img.length : Int), ([0] ++ t) ++ [0]⟩, ⟨(s.img.length : Int), [kind]⟩], 0) := by
  unfold laidS
  simp only [List.length_set]
  congr 1
theorem hd_ok {W : World} {base n c : Nat} {ok : Nat → Prop} {A : Option Addr} {xs : List Int} (h : Kd.R (Kd.int .u8) 5 W base ok (.slice A n c) xs) : Hd.ok ⟨A, n, c⟩ := by
  obtain ⟨_, inner, ⟨h1, h2⟩, _⟩ := h
  rcases h2 with ⟨e, _⟩ | ⟨g, cap, cur, e, _⟩
  · injection e with e1 e2 e3
    exact .inl ⟨e1, e2, e3⟩
  · injection e with e1 e2 e3
    exact .inr ⟨g, e1⟩
set_option maxHeartbeats 6400000 in
set_option maxRecDepth 100000 in
theorem Put_st {base g : Nat} {F : Nat → Prop} {s : Sto} {w : World} (K : Nat) (nm : ByteArray → Bool) (hK : StFacts K nm) (hg : Good nm s) (x : ByteArray) (hx : x.size ≤ maxLen) (b : List Int) (A : Option Addr) (c : Nat) (P : Nat → Prop) (hr : Kd.F (Kd.int .u8) w P A b.length b) (hP : ∀ k, P k → ¬ F k) (h : SAt base F g s w) : Calls Try.prog 11 #[.pointer (some ⟨g, 0, none⟩), .string x, .slice A b.length c] w fun e w' => StPost base F g w (putS nm s x b) e w' := by
  have HH := Aside0.mk h
  have H := Aside0.mk h
  have HX := Aside0.mk hx
  have HK := Aside0.mk hK
  have HG := Aside0.mk hg
  have HC := Aside0.mk hr
  have HP := Aside0.mk hP
  have HN := Aside0.mk (hK.rd.name x)
  clear h hx hK hg hr hP
  by_cases c1 : nm x = false
  · rw [c1] at HN
    go_enter Try.func11, Try.ntmps11
    go_wp2_with fail
    have hb1 := below_alloc (Below.refl w.heap.size w) (.cells #[.slice A b.length c] 23)
    have hbx := blk_new w (.cells #[.slice A b.length c] 23)
    obtain ⟨bx, hbxe⟩ : ∃ bx, bx = w.heap.size := ⟨_, rfl⟩
    rw [← hbxe] at hbx
    simp only [← hbxe]
    generalize (w.alloc (.cells #[.slice A b.length c] 23)) = w1 at hb1 hbx ⊢
    have HB1 := Aside0.mk hb1
    have HBX := Aside0.mk hbx
    have HBE := Aside0.mk hbxe
    replace H := Aside0.mk (HH.out.step hb1)
    obtain ⟨Ai, ci, B, m, h1, h2, h3, h4, h5, h6⟩ := H.out.cells
    have hc1 := blk_cell h1 1
    have H3 := Aside0.mk h3
    have hlk := lk_hd h5 x
    clear h1 h2 h3 h4 h5 h6 hb1 hbx hbxe
    refine (ready_st H.out).mono ?_
    rintro e w2 ⟨rfl, k1, rfl⟩
    replace hc1 := show (w1.drewN k1).cell? ⟨g, 1, none⟩ = _ from hc1
    replace H3 := Aside0.mk (H3.out.block (W1 := w1.drewN k1) rfl)
    go_wp2_with (first | ((with_reducible refine gate_dst (N := 21) rfl ?_); refine hm_look_ok rfl rfl rfl H3.out rfl HX.out ?_))
    go_wp2_with fail
    refine (wire_IsName.calls K x _ _ HN.out).mono ?_
    rintro e w3 ⟨rfl, k2, rfl⟩
    have hcx := blk_cell (blk_drewN HBX.out (k1 + k2)) 0
    replace hc1 := show (w1.drewN (k1 + k2)).cell? ⟨g, 1, none⟩ = _ from hc1
    replace H3 := Aside0.mk (H3.out.block (W1 := w1.drewN (k1 + k2)) rfl)
    go_wp2_with fail
    unfold putS
    rw [if_pos c1]
    go_ret2
    exact StPost.same HH.out (pw_below_drewN HB1.out _) 6
  · rw [Bool.not_eq_false] at c1
    rw [c1] at HN
    by_cases c2 : 4096 < b.length
    · have c2b : decide ((4096 : Int) < (b.length : Int)) = true := decide_eq_true (by omega)
      go_enter Try.func11, Try.ntmps11
      go_wp2_with fail
      have hb1 := below_alloc (Below.refl w.heap.size w) (.cells #[.slice A b.length c] 23)
      have hbx := blk_new w (.cells #[.slice A b.length c] 23)
      obtain ⟨bx, hbxe⟩ : ∃ bx, bx = w.heap.size := ⟨_, rfl⟩
      rw [← hbxe] at hbx
      simp only [← hbxe]
      generalize (w.alloc (.cells #[.slice A b.length c] 23)) = w1 at hb1 hbx ⊢
      have HB1 := Aside0.mk hb1
      have HBX := Aside0.mk hbx
      have HBE := Aside0.mk hbxe
      replace H := Aside0.mk (HH.out.step hb1)
      obtain ⟨Ai, ci, B, m, h1, h2, h3, h4, h5, h6⟩ := H.out.cells
      have hc1 := blk_cell h1 1
      have H3 := Aside0.mk h3
      have hlk := lk_hd h5 x
      clear h1 h2 h3 h4 h5 h6 hb1 hbx hbxe
      refine (ready_st H.out).mono ?_
      rintro e w2 ⟨rfl, k1, rfl⟩
      replace hc1 := show (w1.drewN k1).cell? ⟨g, 1, none⟩ = _ from hc1
      replace H3 := Aside0.mk (H3.out.block (W1 := w1.drewN k1) rfl)
      go_wp2_with (first | ((with_reducible refine gate_dst (N := 21) rfl ?_); refine hm_look_ok rfl rfl rfl H3.out rfl HX.out ?_))
      go_wp2_with fail
      refine (wire_IsName.calls K x _ _ HN.out).mono ?_
      rintro e w3 ⟨rfl, k2, rfl⟩
      have hcx := blk_cell (blk_drewN HBX.out (k1 + k2)) 0
      replace hc1 := show (w1.drewN (k1 + k2)).cell? ⟨g, 1, none⟩ = _ from hc1
      replace H3 := Aside0.mk (H3.out.block (W1 := w1.drewN (k1 + k2)) rfl)
      go_wp2_with fail
      unfold putS
      rw [if_neg (by rw [c1]; decide), if_pos c2]
      go_ret2
      exact StPost.same HH.out (pw_below_drewN HB1.out _) 4
    · have c2b : decide ((4096 : Int) < (b.length : Int)) = false := decide_eq_false (by omega)
      by_cases c3 : lkL s.L x = none
      · by_cases c4 : 16 ≤ s.L.length
        · have c4b : decide ((16 : Int) ≤ (s.L.length : Int)) = true := decide_eq_true (by omega)
          go_enter Try.func11, Try.ntmps11
          go_wp2_with fail
          have hb1 := below_alloc (Below.refl w.heap.size w) (.cells #[.slice A b.length c] 23)
          have hbx := blk_new w (.cells #[.slice A b.length c] 23)
          obtain ⟨bx, hbxe⟩ : ∃ bx, bx = w.heap.size := ⟨_, rfl⟩
          rw [← hbxe] at hbx
          simp only [← hbxe]
          generalize (w.alloc (.cells #[.slice A b.length c] 23)) = w1 at hb1 hbx ⊢
          have HB1 := Aside0.mk hb1
          have HBX := Aside0.mk hbx
          have HBE := Aside0.mk hbxe
          replace H := Aside0.mk (HH.out.step hb1)
          obtain ⟨Ai, ci, B, m, h1, h2, h3, h4, h5, h6⟩ := H.out.cells
          have hc1 := blk_cell h1 1
          have H3 := Aside0.mk h3
          have hlk := lk_hd h5 x
          clear h1 h2 h3 h4 h5 h6 hb1 hbx hbxe
          refine (ready_st H.out).mono ?_
          rintro e w2 ⟨rfl, k1, rfl⟩
          replace hc1 := show (w1.drewN k1).cell? ⟨g, 1, none⟩ = _ from hc1
          replace H3 := Aside0.mk (H3.out.block (W1 := w1.drewN k1) rfl)
          have g3 : (m x).isSome = false := by
            rcases hlk with ⟨_, q⟩ | ⟨d, xs, _, q⟩
            · rw [q]; rfl
            · rw [c3] at q; cases q
          go_wp2_with (first | ((with_reducible refine gate_dst (N := 21) rfl ?_); refine hm_look_ok rfl rfl rfl H3.out rfl HX.out ?_))
          go_wp2_with fail
          refine (wire_IsName.calls K x _ _ HN.out).mono ?_
          rintro e w3 ⟨rfl, k2, rfl⟩
          have hcx := blk_cell (blk_drewN HBX.out (k1 + k2)) 0
          replace hc1 := show (w1.drewN (k1 + k2)).cell? ⟨g, 1, none⟩ = _ from hc1
          replace H3 := Aside0.mk (H3.out.block (W1 := w1.drewN (k1 + k2)) rfl)
          go_wp2_with (first | ((with_reducible refine gate_dst (N := 40) rfl ?_); refine gate_guard rfl ?_; refine hm_len rfl rfl rfl H3.out ?_))
          unfold putS
          rw [if_neg (by rw [c1]; decide), if_neg c2, if_pos ⟨c3, c4⟩]
          go_ret2
          exact StPost.same HH.out (pw_below_drewN HB1.out _) 7
        · have c4b : decide ((16 : Int) ≤ (s.L.length : Int)) = false := decide_eq_false (by omega)
          have hput : putS nm s x b = laidS s (putL x b s.L) (recB 1 x b) := by
            unfold putS
            rw [if_neg (by rw [c1]; decide), if_neg c2, if_neg (fun q => c4 q.2)]
          rw [hput, ← rec_put x b (by omega), List.append_assoc, laidS_of, ← List.append_assoc]
          clear hput
          by_cases c5 : 1048576 < s.img.length + ([0] ++ nameBytes x ++ ([byt (b.length : Int) 256, byt (b.length : Int) 1] ++ b)).length + 1
          · rw [if_pos c5]
            go_enter Try.func11, Try.ntmps11
            go_wp2_with fail
            have hb1 := below_alloc (Below.refl w.heap.size w) (.cells #[.slice A b.length c] 23)
            have hbx := blk_new w (.cells #[.slice A b.length c] 23)
            obtain ⟨bx, hbxe⟩ : ∃ bx, bx = w.heap.size := ⟨_, rfl⟩
            rw [← hbxe] at hbx
            simp only [← hbxe]
            generalize (w.alloc (.cells #[.slice A b.length c] 23)) = w1 at hb1 hbx ⊢
            have HB1 := Aside0.mk hb1
            have HBX := Aside0.mk hbx
            have HBE := Aside0.mk hbxe
            replace H := Aside0.mk (HH.out.step hb1)
            obtain ⟨Ai, ci, B, m, h1, h2, h3, h4, h5, h6⟩ := H.out.cells
            have hc1 := blk_cell h1 1
            have H3 := Aside0.mk h3
            have hlk := lk_hd h5 x
            clear h1 h2 h3 h4 h5 h6 hb1 hbx hbxe
            refine (ready_st H.out).mono ?_
            rintro e w2 ⟨rfl, k1, rfl⟩
            replace hc1 := show (w1.drewN k1).cell? ⟨g, 1, none⟩ = _ from hc1
            replace H3 := Aside0.mk (H3.out.block (W1 := w1.drewN k1) rfl)
            have g3 : (m x).isSome = false := by
              rcases hlk with ⟨_, q⟩ | ⟨d, xs, _, q⟩
              · rw [q]; rfl
              · rw [c3] at q; cases q
            go_wp2_with (first | ((with_reducible refine gate_dst (N := 21) rfl ?_); refine hm_look_ok rfl rfl rfl H3.out rfl HX.out ?_))
            go_wp2_with fail
            refine (wire_IsName.calls K x _ _ HN.out).mono ?_
            rintro e w3 ⟨rfl, k2, rfl⟩
            have hcx := blk_cell (blk_drewN HBX.out (k1 + k2)) 0
            replace hc1 := show (w1.drewN (k1 + k2)).cell? ⟨g, 1, none⟩ = _ from hc1
            replace H3 := Aside0.mk (H3.out.block (W1 := w1.drewN (k1 + k2)) rfl)
            go_wp2_with (first | ((with_reducible refine gate_dst (N := 40) rfl ?_); refine gate_guard rfl ?_; refine hm_len rfl rfl rfl H3.out ?_))
            have hlx := H.out.lt g H.out.fs
            have hbxl := blk_lt HBX.out
            refine (laid_full (w := w1.drewN (k1 + k2)) K nm HK.out HG.out 1 (.inl rfl) x c1 ([byt (b.length : Int) 256, byt (b.length : Int) 1] ++ b) (by simp; omega) 37 #[.pointer (some ⟨bx, 0, none⟩)] (callFunc_st Try.func37 (by kernel_rfl) (by kernel_rfl)) (fun g2 W1 hb hwt => ?hp) (show SAt base F g s (w1.drewN (k1 + k2)) from H.out.step (pw_below_drewN (Below.refl _ _) _)) (by omega)).mono ?_
            case hp =>
              have hB : Below w1.heap.size w1 W1 := below_step (pw_below_drewN (Below.refl _ _) (k1 + k2)) hb
              exact Put1_calls hwt A c (blk_below HBX.out hB) (Kd.F_now (Kd.F_below (Kd.F_below HC.out HB1.out) hB)) (by omega) hbxl (fun W' hW => Kd.F_now (Kd.F_below (Kd.F_below HC.out HB1.out) (hB.trans hW))) (by have := (HK.out.siz x c1).2; unfold nameBytes bytesOf; simp [Lib.toList_data]; omega)
            rintro e w4 ⟨v, S1, S2, rfl, q⟩
            have HQ := Aside0.mk (StPost.since ⟨v, S1, S2, rfl, q⟩ (pw_below_drewN HB1.out (k1 + k2)) (by have := HH.out.lt g HH.out.fs; omega))
            clear q
            go_wp2_with fail
            go_ret2
            exact HQ.out
          · rw [if_neg c5]
            go_enter Try.func11, Try.ntmps11
            go_wp2_with fail
            have hb1 := below_alloc (Below.refl w.heap.size w) (.cells #[.slice A b.length c] 23)
            have hbx := blk_new w (.cells #[.slice A b.length c] 23)
            obtain ⟨bx, hbxe⟩ : ∃ bx, bx = w.heap.size := ⟨_, rfl⟩
            rw [← hbxe] at hbx
            simp only [← hbxe]
            generalize (w.alloc (.cells #[.slice A b.length c] 23)) = w1 at hb1 hbx ⊢
            have HB1 := Aside0.mk hb1
            have HBX := Aside0.mk hbx
            have HBE := Aside0.mk hbxe
            replace H := Aside0.mk (HH.out.step hb1)
            obtain ⟨Ai, ci, B, m, h1, h2, h3, h4, h5, h6⟩ := H.out.cells
            have hc1 := blk_cell h1 1
            have H3 := Aside0.mk h3
            have hlk := lk_hd h5 x
            clear h1 h2 h3 h4 h5 h6 hb1 hbx hbxe
            refine (ready_st H.out).mono ?_
            rintro e w2 ⟨rfl, k1, rfl⟩
            replace hc1 := show (w1.drewN k1).cell? ⟨g, 1, none⟩ = _ from hc1
            replace H3 := Aside0.mk (H3.out.block (W1 := w1.drewN k1) rfl)
            have g3 : (m x).isSome = false := by
              rcases hlk with ⟨_, q⟩ | ⟨d, xs, _, q⟩
              · rw [q]; rfl
              · rw [c3] at q; cases q
            go_wp2_with (first | ((with_reducible refine gate_dst (N := 21) rfl ?_); refine hm_look_ok rfl rfl rfl H3.out rfl HX.out ?_))
            go_wp2_with fail
            refine (wire_IsName.calls K x _ _ HN.out).mono ?_
            rintro e w3 ⟨rfl, k2, rfl⟩
            have hcx := blk_cell (blk_drewN HBX.out (k1 + k2)) 0
            replace hc1 := show (w1.drewN (k1 + k2)).cell? ⟨g, 1, none⟩ = _ from hc1
            replace H3 := Aside0.mk (H3.out.block (W1 := w1.drewN (k1 + k2)) rfl)
            go_wp2_with (first | ((with_reducible refine gate_dst (N := 40) rfl ?_); refine gate_guard rfl ?_; refine hm_len rfl rfl rfl H3.out ?_))
            have hlx := H.out.lt g H.out.fs
            have hbxl := blk_lt HBX.out
            refine (laid_fits (w := w1.drewN (k1 + k2)) K nm HK.out HG.out 1 (.inl rfl) x c1 ([byt (b.length : Int) 256, byt (b.length : Int) 1] ++ b) (by simp; omega) 37 #[.pointer (some ⟨bx, 0, none⟩)] (callFunc_st Try.func37 (by kernel_rfl) (by kernel_rfl)) (fun g2 W1 hb hwt => ?hp) (show SAt base F g s (w1.drewN (k1 + k2)) from H.out.step (pw_below_drewN (Below.refl _ _) _)) (by omega)).mono ?_
            case hp =>
              have hB : Below w1.heap.size w1 W1 := below_step (pw_below_drewN (Below.refl _ _) (k1 + k2)) hb
              exact Put1_calls hwt A c (blk_below HBX.out hB) (Kd.F_now (Kd.F_below (Kd.F_below HC.out HB1.out) hB)) (by omega) hbxl (fun W' hW => Kd.F_now (Kd.F_below (Kd.F_below HC.out HB1.out) (hB.trans hW))) (by have := (HK.out.siz x c1).2; unfold nameBytes bytesOf; simp [Lib.toList_data]; omega)
            rintro e w4 ⟨v, S1, S2, rfl, q1, q2, q3, q4, q5, q6, q7⟩
            have HQ := Aside0.mk (And.intro q1 (And.intro q2 (And.intro q3 (And.intro q4 (And.intro q6 q7)))))
            have H4 := Aside0.mk q5
            obtain ⟨A4, c4, B4, m4, h1, h2, h3, h4, h5, h6⟩ := q5.cells
            have HX4 := Aside0.mk ((q6.2 bx hbxl (fun q => by have := (HH.out.lt bx q).2; have := HBE.out; omega)).trans (blk_drewN HBX.out (k1 + k2)))
            have hcm := blk_cell h1 1
            have hcx4 := blk_cell HX4.out 0
            have HHM := Aside0.mk (And.intro h1 (And.intro h2 (And.intro h3 (And.intro h4 (And.intro h5 h6)))))
            have HC4 := Aside0.mk (Kd.F_now (Kd.F_kept (Kd.F_drewN (Kd.F_below HC.out HB1.out) (k1 + k2)) q6 HP.out))
            clear q1 q2 q3 q4 q5 q6 q7 h1 h2 h3 h4 h5 h6 hcx hc1
            go_wp2_with fail
            have HSS := Aside0.mk (show ∀ W' : World, Below w4.heap.size w4 W' → W'.cell? ⟨g, 1, none⟩ = some (.map (some B4)) ∧ W'.cell? ⟨bx, 0, none⟩ = some (.slice A b.length c) from fun W' hW => ⟨blk_cell (blk_below HHM.out.1 hW) 1, blk_cell (blk_below HX4.out hW) 0⟩)
            have HB := Aside0.mk (Below.refl w4.heap.size w4)
            (try simp only [Act.put, List.setIfInBounds_toArray, List.set_cons_zero, List.set_cons_succ])
            refine wp_region_held_drew (S := fun w' => w'.cell? ⟨g, 1, none⟩ = some (.map (some B4)) ∧ w'.cell? ⟨bx, 0, none⟩ = some (.slice A b.length c)) (by kernel_rfl) ?_ (fun hHeld => ?_)
            · exact HSS.out _ (pw_below_drewN HB.out 1)
            replace HB := Aside0.mk (show Below w4.heap.size w4 w4.drew from pw_below_drewN HB.out 1)
            generalize w4.drew = wd at HB hHeld ⊢
            refine take_dst (i := 0) (v := ?_) 52 rfl rfl (by kernel_rfl) (by kernel_rfl) (by kernel_rfl) (fun _ _ _ h => h) (Or.inl ⟨by rfl, ?_⟩) (by assumption) ?_
            rotate_left
            · intro w hSw
              obtain ⟨q1, q2⟩ := hSw
              go_simp
              try with_reducible rfl
            (try simp only [Act.put, List.setIfInBounds_toArray, List.set_cons_zero, List.set_cons_succ])
            refine take_dst (i := 1) (v := ?_) 53 rfl rfl (by kernel_rfl) (by kernel_rfl) (by kernel_rfl) (fun _ _ _ h => h) (Or.inl ⟨by rfl, ?_⟩) (by assumption) ?_
            rotate_left
            · intro w hSw
              obtain ⟨q1, q2⟩ := hSw
              go_simp
              try with_reducible rfl
            (try simp only [Act.put, List.setIfInBounds_toArray, List.set_cons_zero, List.set_cons_succ])
            refine take_dst (i := 2) (v := ?_) 54 rfl rfl (by kernel_rfl) (by kernel_rfl) (by kernel_rfl) (fun _ _ _ h => h) (Or.inl ⟨by rfl, ?_⟩) (by assumption) ?_
            rotate_left
            · intro w hSw
              obtain ⟨q1, q2⟩ := hSw
              go_simp
              try with_reducible rfl
            (try simp only [Act.put, List.setIfInBounds_toArray, List.set_cons_zero, List.set_cons_succ])
            refine take_dst (i := 3) (v := ?_) 55 rfl rfl (by kernel_rfl) (by kernel_rfl) (by kernel_rfl) (fun _ _ _ h => h) (Or.inl ⟨by rfl, ?_⟩) (by assumption) ?_
            rotate_left
            · intro w hSw
              obtain ⟨q1, q2⟩ := hSw
              go_simp
              try with_reducible rfl
            (try simp only [Act.put, List.setIfInBounds_toArray, List.set_cons_zero, List.set_cons_succ])
            refine take_dst (i := 4) (v := ?_) 56 rfl rfl (by kernel_rfl) (by kernel_rfl) (by kernel_rfl) (fun _ _ _ h => h) (Or.inl ⟨by rfl, ?_⟩) (by assumption) ?_
            rotate_left
            · intro w hSw
              obtain ⟨q1, q2⟩ := hSw
              go_simp
              try with_reducible rfl
            (try simp only [Act.put, List.setIfInBounds_toArray, List.set_cons_zero, List.set_cons_succ])
            refine take_dst (i := 5) (v := ?_) 57 rfl rfl (by kernel_rfl) (by kernel_rfl) (by kernel_rfl) (fun _ _ _ h => h) (Or.inl ⟨by rfl, ?_⟩) (by assumption) ?_
            rotate_left
            · intro w hSw
              obtain ⟨q1, q2⟩ := hSw
              go_simp
              try with_reducible rfl
            (try simp only [Act.put, List.setIfInBounds_toArray, List.set_cons_zero, List.set_cons_succ])
            refine wpAnyH_ready (rs := [6]) (by kernel_rfl) (by simp) ?_
            refine AllReadyH.cons rfl (fun K hK => ?_) AllReadyH.nil
            go_simp
            refine (cloned_calls A c b _ (Kd.C_below HC4.out HB.out) (by omega)).mono ?_
            have HS6 := Aside0.mk HB.out.size
            rintro e w6 ⟨v3, rfl, hR6, hb6⟩
            obtain ⟨A6, c6, e6⟩ := Kd.R_slice hR6
            subst e6
            replace HB := Aside0.mk (below_step HB.out hb6)
            have HR6 := Aside0.mk hR6
            clear hR6 hb6
            go_simp
            refine hK.out _ _ (HSS.out _ HB.out) (fun hHeld => ?_)
            (try simp only [Act.put, List.setIfInBounds_toArray, List.set_cons_zero, List.set_cons_succ])
            clear hK K
            refine wpAnyH_ready (rs := [7]) (by kernel_rfl) (by simp) ?_
            refine AllReadyH.cons rfl (fun K hK => ?_) AllReadyH.nil
            have hB4 := HHM.out.2.2.1
            refine hm_store_wp (m := .tmp 55) (x := .tmp 56) (v := .tmp 58) (k := x) (c := ⟨A6, b.length, c6⟩) rfl rfl (hB4.block (HB.out.block B4 hB4.lt)) (by show s.L.length < maxLen; unfold maxLen; omega) rfl rfl HX.out (hd_ok HR6.out) ?_
            intro w7 hm7 hg7
            have HM7 := Aside0.mk hm7
            have HG7 := Aside0.mk hg7
            have hne4 : some g ≠ some B4 := fun q => hB4.ne HHM.out.1 (by injection q with q; exact q.symm)
            have hne5 : some bx ≠ some B4 := fun q => hB4.ne HX4.out (by injection q with q; exact q.symm)
            have hgl := blk_lt HHM.out.1
            have hxl4 := blk_lt HX4.out
            refine hK.out _ _ ⟨blk_cell ((hg7.block g (Nat.lt_of_lt_of_le hgl HB.out.size) hne4).trans (blk_below HHM.out.1 HB.out)) 1, blk_cell ((hg7.block bx (Nat.lt_of_lt_of_le hxl4 HB.out.size) hne5).trans (blk_below HX4.out HB.out)) 0⟩ (fun hHeld => ?_)
            (try simp only [Act.put, List.setIfInBounds_toArray, List.set_cons_zero, List.set_cons_succ])
            clear hK K hm7 hg7
            refine wpAnyH_done (by kernel_rfl) ?_ _
            clear hcm hcx4
            go_wp2_with fail
            have hsr := HG.out.srt
            have hlt4 := H4.out.lt
            have hfs4 := H4.out.fs
            have hbase : base ≤ w4.heap.size := by have := hlt4 g hfs4; omega
            have hsz6 := HB.out.size
            have hsz7 := HG7.out.size
            have hS6 := HS6.out
            have hQ := HQ.out
            have hq1 : w1.heap.size ≤ S1 := hQ.1
            have hq5 : w1.heap.size ≤ w4.heap.size := hQ.2.2.2.2.1.1
            have hq2 := hQ.2.1
            have hb1s : w.heap.size ≤ w1.heap.size := HB1.out.size
            have hp := SAt.put (s := ⟨s.img ++ ([0] ++ nameBytes x ++ ([byt (b.length : Int) 256, byt (b.length : Int) 1] ++ b)).set 0 1, s.L⟩) (F := fun b => (F b ∨ (S2 ≤ b ∧ b < w4.heap.size)) ∨ (w4.heap.size ≤ b ∧ b < w6.heap.size)) (W1 := w7) x b ⟨A6, b.length, c6⟩ hsr (blk_below HHM.out.1 HB.out) (Kd.R_mono (Kd.R_below HHM.out.2.1 HB.out) (fun k q => .inl q)) (hB4.block (HB.out.block B4 hB4.lt)) (.inl HHM.out.2.2.2.1) HHM.out.2.2.2.2.1 (fun y d hd xs hx => ⟨(HHM.out.2.2.2.2.2 y d hd xs hx).1, (HHM.out.2.2.2.2.2 y d hd xs hx).2.1, Kd.F_mono (Kd.F_below (HHM.out.2.2.2.2.2 y d hd xs hx).2.2 HB.out) (fun k q => ⟨.inl q.1, q.2⟩)⟩) (.inl hfs4) (fun k q => q.elim (fun q => ⟨(hlt4 k q).1, Nat.lt_of_lt_of_le (hlt4 k q).2 hsz6⟩) (fun q => ⟨Nat.le_trans hbase q.1, q.2⟩)) rfl (Kd.R_reads' HR6.out).2.1 (Kd.F_mono (Kd.R_F (Kd.R_bound HR6.out)) (fun k q => by
              have h9 : w4.heap.size ≤ k := Nat.le_trans hS6 q.2.1
              refine ⟨.inr ⟨h9, q.2.2.1⟩, fun e => ?_, fun e => ?_, fun e => ?_⟩
              · have := Kd.R_lt HHM.out.2.1 k e
                omega
              · have := hB4.lt
                omega
              · omega)) HM7.out HG7.out
            go_ret2
            refine ⟨v, S1, S2, rfl, ?_, hQ.2.1, ?_, ?_, hp.more (fun k q => ?_) (fun k q => ?_), ?_, fun B0 w0 hB0 hw0 => ?_⟩
            · exact Nat.le_trans HB1.out.size hQ.1
            · omega
            · exact (hQ.2.2.2.1.step HB.out).kept (S := fun k => k = B4) ⟨hsz7, fun k hk hn => HG7.out.block k hk (fun e => hn (by injection e))⟩ (fun k q1 q2 q3 => by
                subst q3
                rcases HHM.out.2.2.2.1 with q4 | q4
                · have := (HH.out.lt _ q4).2
                  omega
                · omega)
            · rcases q with (q | q) | q
              · exact .inl q
              · exact .inr ⟨q.1, by omega⟩
              · exact .inr ⟨by omega, by omega⟩
            · rcases q with q | q
              · exact ⟨(HH.out.lt k q).1, by have := (hlt4 k (.inl q)).2; omega⟩
              · exact ⟨by have := HH.out.lt g HH.out.fs; omega, q.2⟩
            · refine ⟨by omega, fun k hk hn => ?_⟩
              have hk4 : k < w4.heap.size := by omega
              refine (HG7.out.block k (by omega) (fun e => ?_)).trans ((HB.out.block k hk4).trans ((hQ.2.2.2.2.1.2 k (show k < w1.heap.size by omega) hn).trans (HB1.out.block k hk)))
              injection e with e
              subst e
              rcases HHM.out.2.2.2.1 with q4 | q4
              · exact hn q4
              · omega
            · have hb9 : base ≤ w.heap.size := by have := HH.out.lt g HH.out.fs; omega
              have h7 := hQ.2.2.2.2.2 B0 w0 hB0 (pw_below_drewN (hw0.trans (HB1.out.mono (Nat.le_trans hB0 hb9))) _)
              have h8 := h7.trans (HB.out.mono (Nat.le_trans hB0 hbase))
              exact h8.grown HG7.out (Nat.le_trans hB0 (by omega)) (fun k hk => by
                injection hk with hk
                subst hk
                have := (hlt4 _ HHM.out.2.2.2.1).1
                omega)
      · have hput : putS nm s x b = laidS s (putL x b s.L) (recB 1 x b) := by
          unfold putS
          rw [if_neg (by rw [c1]; decide), if_neg c2, if_neg (fun q => c3 q.1)]
        rw [hput, ← rec_put x b (by omega), List.append_assoc, laidS_of, ← List.append_assoc]
        clear hput
        by_cases c5 : 1048576 < s.img.length + ([0] ++ nameBytes x ++ ([byt (b.length : Int) 256, byt (b.length : Int) 1] ++ b)).length + 1
        · rw [if_pos c5]
          go_enter Try.func11, Try.ntmps11
          go_wp2_with fail
          have hb1 := below_alloc (Below.refl w.heap.size w) (.cells #[.slice A b.length c] 23)
          have hbx := blk_new w (.cells #[.slice A b.length c] 23)
          obtain ⟨bx, hbxe⟩ : ∃ bx, bx = w.heap.size := ⟨_, rfl⟩
          rw [← hbxe] at hbx
          simp only [← hbxe]
          generalize (w.alloc (.cells #[.slice A b.length c] 23)) = w1 at hb1 hbx ⊢
          have HB1 := Aside0.mk hb1
          have HBX := Aside0.mk hbx
          have HBE := Aside0.mk hbxe
          replace H := Aside0.mk (HH.out.step hb1)
          obtain ⟨Ai, ci, B, m, h1, h2, h3, h4, h5, h6⟩ := H.out.cells
          have hc1 := blk_cell h1 1
          have H3 := Aside0.mk h3
          have hlk := lk_hd h5 x
          clear h1 h2 h3 h4 h5 h6 hb1 hbx hbxe
          refine (ready_st H.out).mono ?_
          rintro e w2 ⟨rfl, k1, rfl⟩
          replace hc1 := show (w1.drewN k1).cell? ⟨g, 1, none⟩ = _ from hc1
          replace H3 := Aside0.mk (H3.out.block (W1 := w1.drewN k1) rfl)
          have g3 : (m x).isSome = true := by
            rcases hlk with ⟨q, _⟩ | ⟨d, xs, q, _⟩
            · exact absurd q c3
            · rw [q]; rfl
          go_wp2_with (first | ((with_reducible refine gate_dst (N := 21) rfl ?_); refine hm_look_ok rfl rfl rfl H3.out rfl HX.out ?_))
          go_wp2_with fail
          refine (wire_IsName.calls K x _ _ HN.out).mono ?_
          rintro e w3 ⟨rfl, k2, rfl⟩
          have hcx := blk_cell (blk_drewN HBX.out (k1 + k2)) 0
          replace hc1 := show (w1.drewN (k1 + k2)).cell? ⟨g, 1, none⟩ = _ from hc1
          replace H3 := Aside0.mk (H3.out.block (W1 := w1.drewN (k1 + k2)) rfl)
          go_wp2_with fail
          have hlx := H.out.lt g H.out.fs
          have hbxl := blk_lt HBX.out
          refine (laid_full (w := w1.drewN (k1 + k2)) K nm HK.out HG.out 1 (.inl rfl) x c1 ([byt (b.length : Int) 256, byt (b.length : Int) 1] ++ b) (by simp; omega) 37 #[.pointer (some ⟨bx, 0, none⟩)] (callFunc_st Try.func37 (by kernel_rfl) (by kernel_rfl)) (fun g2 W1 hb hwt => ?hp) (show SAt base F g s (w1.drewN (k1 + k2)) from H.out.step (pw_below_drewN (Below.refl _ _) _)) (by omega)).mono ?_
          case hp =>
            have hB : Below w1.heap.size w1 W1 := below_step (pw_below_drewN (Below.refl _ _) (k1 + k2)) hb
            exact Put1_calls hwt A c (blk_below HBX.out hB) (Kd.F_now (Kd.F_below (Kd.F_below HC.out HB1.out) hB)) (by omega) hbxl (fun W' hW => Kd.F_now (Kd.F_below (Kd.F_below HC.out HB1.out) (hB.trans hW))) (by have := (HK.out.siz x c1).2; unfold nameBytes bytesOf; simp [Lib.toList_data]; omega)
          rintro e w4 ⟨v, S1, S2, rfl, q⟩
          have HQ := Aside0.mk (StPost.since ⟨v, S1, S2, rfl, q⟩ (pw_below_drewN HB1.out (k1 + k2)) (by have := HH.out.lt g HH.out.fs; omega))
          clear q
          go_wp2_with fail
          go_ret2
          exact HQ.out
        · rw [if_neg c5]
          go_enter Try.func11, Try.ntmps11
          go_wp2_with fail
          have hb1 := below_alloc (Below.refl w.heap.size w) (.cells #[.slice A b.length c] 23)
          have hbx := blk_new w (.cells #[.slice A b.length c] 23)
          obtain ⟨bx, hbxe⟩ : ∃ bx, bx = w.heap.size := ⟨_, rfl⟩
          rw [← hbxe] at hbx
          simp only [← hbxe]
          generalize (w.alloc (.cells #[.slice A b.length c] 23)) = w1 at hb1 hbx ⊢
          have HB1 := Aside0.mk hb1
          have HBX := Aside0.mk hbx
          have HBE := Aside0.mk hbxe
          replace H := Aside0.mk (HH.out.step hb1)
          obtain ⟨Ai, ci, B, m, h1, h2, h3, h4, h5, h6⟩ := H.out.cells
          have hc1 := blk_cell h1 1
          have H3 := Aside0.mk h3
          have hlk := lk_hd h5 x
          clear h1 h2 h3 h4 h5 h6 hb1 hbx hbxe
          refine (ready_st H.out).mono ?_
          rintro e w2 ⟨rfl, k1, rfl⟩
          replace hc1 := show (w1.drewN k1).cell? ⟨g, 1, none⟩ = _ from hc1
          replace H3 := Aside0.mk (H3.out.block (W1 := w1.drewN k1) rfl)
          have g3 : (m x).isSome = true := by
            rcases hlk with ⟨q, _⟩ | ⟨d, xs, q, _⟩
            · exact absurd q c3
            · rw [q]; rfl
          go_wp2_with (first | ((with_reducible refine gate_dst (N := 21) rfl ?_); refine hm_look_ok rfl rfl rfl H3.out rfl HX.out ?_))
          go_wp2_with fail
          refine (wire_IsName.calls K x _ _ HN.out).mono ?_
          rintro e w3 ⟨rfl, k2, rfl⟩
          have hcx := blk_cell (blk_drewN HBX.out (k1 + k2)) 0
          replace hc1 := show (w1.drewN (k1 + k2)).cell? ⟨g, 1, none⟩ = _ from hc1
          replace H3 := Aside0.mk (H3.out.block (W1 := w1.drewN (k1 + k2)) rfl)
          go_wp2_with fail
          have hlx := H.out.lt g H.out.fs
          have hbxl := blk_lt HBX.out
          refine (laid_fits (w := w1.drewN (k1 + k2)) K nm HK.out HG.out 1 (.inl rfl) x c1 ([byt (b.length : Int) 256, byt (b.length : Int) 1] ++ b) (by simp; omega) 37 #[.pointer (some ⟨bx, 0, none⟩)] (callFunc_st Try.func37 (by kernel_rfl) (by kernel_rfl)) (fun g2 W1 hb hwt => ?hp) (show SAt base F g s (w1.drewN (k1 + k2)) from H.out.step (pw_below_drewN (Below.refl _ _) _)) (by omega)).mono ?_
          case hp =>
            have hB : Below w1.heap.size w1 W1 := below_step (pw_below_drewN (Below.refl _ _) (k1 + k2)) hb
            exact Put1_calls hwt A c (blk_below HBX.out hB) (Kd.F_now (Kd.F_below (Kd.F_below HC.out HB1.out) hB)) (by omega) hbxl (fun W' hW => Kd.F_now (Kd.F_below (Kd.F_below HC.out HB1.out) (hB.trans hW))) (by have := (HK.out.siz x c1).2; unfold nameBytes bytesOf; simp [Lib.toList_data]; omega)
          rintro e w4 ⟨v, S1, S2, rfl, q1, q2, q3, q4, q5, q6, q7⟩
          have HQ := Aside0.mk (And.intro q1 (And.intro q2 (And.intro q3 (And.intro q4 (And.intro q6 q7)))))
          have H4 := Aside0.mk q5
          obtain ⟨A4, c4, B4, m4, h1, h2, h3, h4, h5, h6⟩ := q5.cells
          have HX4 := Aside0.mk ((q6.2 bx hbxl (fun q => by have := (HH.out.lt bx q).2; have := HBE.out; omega)).trans (blk_drewN HBX.out (k1 + k2)))
          have hcm := blk_cell h1 1
          have hcx4 := blk_cell HX4.out 0
          have HHM := Aside0.mk (And.intro h1 (And.intro h2 (And.intro h3 (And.intro h4 (And.intro h5 h6)))))
          have HC4 := Aside0.mk (Kd.F_now (Kd.F_kept (Kd.F_drewN (Kd.F_below HC.out HB1.out) (k1 + k2)) q6 HP.out))
          clear q1 q2 q3 q4 q5 q6 q7 h1 h2 h3 h4 h5 h6 hcx hc1
          go_wp2_with fail
          have HSS := Aside0.mk (show ∀ W' : World, Below w4.heap.size w4 W' → W'.cell? ⟨g, 1, none⟩ = some (.map (some B4)) ∧ W'.cell? ⟨bx, 0, none⟩ = some (.slice A b.length c) from fun W' hW => ⟨blk_cell (blk_below HHM.out.1 hW) 1, blk_cell (blk_below HX4.out hW) 0⟩)
          have HB := Aside0.mk (Below.refl w4.heap.size w4)
          (try simp only [Act.put, List.setIfInBounds_toArray, List.set_cons_zero, List.set_cons_succ])
          refine wp_region_held_drew (S := fun w' => w'.cell? ⟨g, 1, none⟩ = some (.map (some B4)) ∧ w'.cell? ⟨bx, 0, none⟩ = some (.slice A b.length c)) (by kernel_rfl) ?_ (fun hHeld => ?_)
          · exact HSS.out _ (pw_below_drewN HB.out 1)
          replace HB := Aside0.mk (show Below w4.heap.size w4 w4.drew from pw_below_drewN HB.out 1)
          generalize w4.drew = wd at HB hHeld ⊢
          refine take_dst (i := 0) (v := ?_) 52 rfl rfl (by kernel_rfl) (by kernel_rfl) (by kernel_rfl) (fun _ _ _ h => h) (Or.inl ⟨by rfl, ?_⟩) (by assumption) ?_
          rotate_left
          · intro w hSw
            obtain ⟨q1, q2⟩ := hSw
            go_simp
            try with_reducible rfl
          (try simp only [Act.put, List.setIfInBounds_toArray, List.set_cons_zero, List.set_cons_succ])
          refine take_dst (i := 1) (v := ?_) 53 rfl rfl (by kernel_rfl) (by kernel_rfl) (by kernel_rfl) (fun _ _ _ h => h) (Or.inl ⟨by rfl, ?_⟩) (by assumption) ?_
          rotate_left
          · intro w hSw
            obtain ⟨q1, q2⟩ := hSw
            go_simp
            try with_reducible rfl
          (try simp only [Act.put, List.setIfInBounds_toArray, List.set_cons_zero, List.set_cons_succ])
          refine take_dst (i := 2) (v := ?_) 54 rfl rfl (by kernel_rfl) (by kernel_rfl) (by kernel_rfl) (fun _ _ _ h => h) (Or.inl ⟨by rfl, ?_⟩) (by assumption) ?_
          rotate_left
          · intro w hSw
            obtain ⟨q1, q2⟩ := hSw
            go_simp
            try with_reducible rfl
          (try simp only [Act.put, List.setIfInBounds_toArray, List.set_cons_zero, List.set_cons_succ])
          refine take_dst (i := 3) (v := ?_) 55 rfl rfl (by kernel_rfl) (by kernel_rfl) (by kernel_rfl) (fun _ _ _ h => h) (Or.inl ⟨by rfl, ?_⟩) (by assumption) ?_
          rotate_left
          · intro w hSw
            obtain ⟨q1, q2⟩ := hSw
            go_simp
            try with_reducible rfl
          (try simp only [Act.put, List.setIfInBounds_toArray, List.set_cons_zero, List.set_cons_succ])
          refine take_dst (i := 4) (v := ?_) 56 rfl rfl (by kernel_rfl) (by kernel_rfl) (by kernel_rfl) (fun _ _ _ h => h) (Or.inl ⟨by rfl, ?_⟩) (by assumption) ?_
          rotate_left
          · intro w hSw
            obtain ⟨q1, q2⟩ := hSw
            go_simp
            try with_reducible rfl
          (try simp only [Act.put, List.setIfInBounds_toArray, List.set_cons_zero, List.set_cons_succ])
          refine take_dst (i := 5) (v := ?_) 57 rfl rfl (by kernel_rfl) (by kernel_rfl) (by kernel_rfl) (fun _ _ _ h => h) (Or.inl ⟨by rfl, ?_⟩) (by assumption) ?_
          rotate_left
          · intro w hSw
            obtain ⟨q1, q2⟩ := hSw
            go_simp
            try with_reducible rfl
          (try simp only [Act.put, List.setIfInBounds_toArray, List.set_cons_zero, List.set_cons_succ])
          refine wpAnyH_ready (rs := [6]) (by kernel_rfl) (by simp) ?_
          refine AllReadyH.cons rfl (fun K hK => ?_) AllReadyH.nil
          go_simp
          refine (cloned_calls A c b _ (Kd.C_below HC4.out HB.out) (by omega)).mono ?_
          have HS6 := Aside0.mk HB.out.size
          rintro e w6 ⟨v3, rfl, hR6, hb6⟩
          obtain ⟨A6, c6, e6⟩ := Kd.R_slice hR6
          subst e6
          replace HB := Aside0.mk (below_step HB.out hb6)
          have HR6 := Aside0.mk hR6
          clear hR6 hb6
          go_simp
          refine hK.out _ _ (HSS.out _ HB.out) (fun hHeld => ?_)
          (try simp only [Act.put, List.setIfInBounds_toArray, List.set_cons_zero, List.set_cons_succ])
          clear hK K
          refine wpAnyH_ready (rs := [7]) (by kernel_rfl) (by simp) ?_
          refine AllReadyH.cons rfl (fun K hK => ?_) AllReadyH.nil
          have hB4 := HHM.out.2.2.1
          refine hm_store_wp (m := .tmp 55) (x := .tmp 56) (v := .tmp 58) (k := x) (c := ⟨A6, b.length, c6⟩) rfl rfl (hB4.block (HB.out.block B4 hB4.lt)) (by have := HG.out.len; show s.L.length < maxLen; unfold maxLen; omega) rfl rfl HX.out (hd_ok HR6.out) ?_
          intro w7 hm7 hg7
          have HM7 := Aside0.mk hm7
          have HG7 := Aside0.mk hg7
          have hne4 : some g ≠ some B4 := fun q => hB4.ne HHM.out.1 (by injection q with q; exact q.symm)
          have hne5 : some bx ≠ some B4 := fun q => hB4.ne HX4.out (by injection q with q; exact q.symm)
          have hgl := blk_lt HHM.out.1
          have hxl4 := blk_lt HX4.out
          refine hK.out _ _ ⟨blk_cell ((hg7.block g (Nat.lt_of_lt_of_le hgl HB.out.size) hne4).trans (blk_below HHM.out.1 HB.out)) 1, blk_cell ((hg7.block bx (Nat.lt_of_lt_of_le hxl4 HB.out.size) hne5).trans (blk_below HX4.out HB.out)) 0⟩ (fun hHeld => ?_)
          (try simp only [Act.put, List.setIfInBounds_toArray, List.set_cons_zero, List.set_cons_succ])
          clear hK K hm7 hg7
          refine wpAnyH_done (by kernel_rfl) ?_ _
          clear hcm hcx4
          go_wp2_with fail
          have hsr := HG.out.srt
          have hlt4 := H4.out.lt
          have hfs4 := H4.out.fs
          have hbase : base ≤ w4.heap.size := by have := hlt4 g hfs4; omega
          have hsz6 := HB.out.size
          have hsz7 := HG7.out.size
          have hS6 := HS6.out
          have hQ := HQ.out
          have hq1 : w1.heap.size ≤ S1 := hQ.1
          have hq5 : w1.heap.size ≤ w4.heap.size := hQ.2.2.2.2.1.1
          have hq2 := hQ.2.1
          have hb1s : w.heap.size ≤ w1.heap.size := HB1.out.size
          have hp := SAt.put (s := ⟨s.img ++ ([0] ++ nameBytes x ++ ([byt (b.length : Int) 256, byt (b.length : Int) 1] ++ b)).set 0 1, s.L⟩) (F := fun b => (F b ∨ (S2 ≤ b ∧ b < w4.heap.size)) ∨ (w4.heap.size ≤ b ∧ b < w6.heap.size)) (W1 := w7) x b ⟨A6, b.length, c6⟩ hsr (blk_below HHM.out.1 HB.out) (Kd.R_mono (Kd.R_below HHM.out.2.1 HB.out) (fun k q => .inl q)) (hB4.block (HB.out.block B4 hB4.lt)) (.inl HHM.out.2.2.2.1) HHM.out.2.2.2.2.1 (fun y d hd xs hx => ⟨(HHM.out.2.2.2.2.2 y d hd xs hx).1, (HHM.out.2.2.2.2.2 y d hd xs hx).2.1, Kd.F_mono (Kd.F_below (HHM.out.2.2.2.2.2 y d hd xs hx).2.2 HB.out) (fun k q => ⟨.inl q.1, q.2⟩)⟩) (.inl hfs4) (fun k q => q.elim (fun q => ⟨(hlt4 k q).1, Nat.lt_of_lt_of_le (hlt4 k q).2 hsz6⟩) (fun q => ⟨Nat.le_trans hbase q.1, q.2⟩)) rfl (Kd.R_reads' HR6.out).2.1 (Kd.F_mono (Kd.R_F (Kd.R_bound HR6.out)) (fun k q => by
            have h9 : w4.heap.size ≤ k := Nat.le_trans hS6 q.2.1
            refine ⟨.inr ⟨h9, q.2.2.1⟩, fun e => ?_, fun e => ?_, fun e => ?_⟩
            · have := Kd.R_lt HHM.out.2.1 k e
              omega
            · have := hB4.lt
              omega
            · omega)) HM7.out HG7.out
          go_ret2
          refine ⟨v, S1, S2, rfl, ?_, hQ.2.1, ?_, ?_, hp.more (fun k q => ?_) (fun k q => ?_), ?_, fun B0 w0 hB0 hw0 => ?_⟩
          · exact Nat.le_trans HB1.out.size hQ.1
          · omega
          · exact (hQ.2.2.2.1.step HB.out).kept (S := fun k => k = B4) ⟨hsz7, fun k hk hn => HG7.out.block k hk (fun e => hn (by injection e))⟩ (fun k q1 q2 q3 => by
              subst q3
              rcases HHM.out.2.2.2.1 with q4 | q4
              · have := (HH.out.lt _ q4).2
                omega
              · omega)
          · rcases q with (q | q) | q
            · exact .inl q
            · exact .inr ⟨q.1, by omega⟩
            · exact .inr ⟨by omega, by omega⟩
          · rcases q with q | q
            · exact ⟨(HH.out.lt k q).1, by have := (hlt4 k (.inl q)).2; omega⟩
            · exact ⟨by have := HH.out.lt g HH.out.fs; omega, q.2⟩
          · refine ⟨by omega, fun k hk hn => ?_⟩
            have hk4 : k < w4.heap.size := by omega
            refine (HG7.out.block k (by omega) (fun e => ?_)).trans ((HB.out.block k hk4).trans ((hQ.2.2.2.2.1.2 k (show k < w1.heap.size by omega) hn).trans (HB1.out.block k hk)))
            injection e with e
            subst e
            rcases HHM.out.2.2.2.1 with q4 | q4
            · exact hn q4
            · omega
          · have hb9 : base ≤ w.heap.size := by have := HH.out.lt g HH.out.fs; omega
            have h7 := hQ.2.2.2.2.2 B0 w0 hB0 (pw_below_drewN (hw0.trans (HB1.out.mono (Nat.le_trans hB0 hb9))) _)
            have h8 := h7.trans (HB.out.mono (Nat.le_trans hB0 hbase))
            exact h8.grown HG7.out (Nat.le_trans hB0 (by omega)) (fun k hk => by
              injection hk with hk
              subst hk
              have := (hlt4 _ HHM.out.2.2.2.1).1
              omega)
end
end Go.Proofs.Ytfakdphkklclgaa.P

end

section
namespace Go.Proofs.Ytfakdphkklclgaa.P
open Go.RowKit Go.Proofs.YtfakdphkklclgaaW.PrintWords Go.Proofs.YtfakdphkklclgaaW.PrintLast Go.Proofs.YtfakdphkklclgaaW.PrintMore
attribute [local go_sem] max2_int min2_int max_two min_two max_three min_three max_four min_four
set_option linter.unusedVariables false
set_option linter.unusedSimpArgs false
section
open Go.ChangeMaps Go.MapKept
set_option linter.unusedVariables false
def recS (nm : ByteArray → Bool) (bs : List Int) (L : List S101) (a : Nat) : Option (List S101 × Nat) :=
  match nameR nm bs (a + 1) with
  | (x, p, e) => if e ≠ 0 then none else
    if rd bs (a : Int) = 2 ∧ (lkL L x).isSome = true then some (cutL x L, p) else
    if rd bs (a : Int) ≠ 1 then none else
    match numR 2 bs p with
    | (n, p2, e2) => if e2 ≠ 0 ∨ 4096 < n then none else
      match takeR bs p2 n with
      | (b, p3, e3) => if e3 ≠ 0 then none else if 16 < (putL x b L).length then none else some (putL x b L, p3)
theorem Rd1.map {base2 rb a B n sz : Nat} {bs : List Int} {W W1 : World} {m : ByteArray → Option Hd} (h : Rd1 base2 rb bs a W) (hm : HMap W B n m sz) (hg : W.grownBy W1 (some B)) : Rd1 base2 rb bs a W1 := by
  obtain ⟨⟨h1, h2, v, h3, h4⟩, h5, h6⟩ := h
  exact ⟨⟨h1, h2, v, (hg.block rb (blk_lt h3) (fun e => hm.ne h3 (by injection e with e; exact e.symm))).trans h3, Kd.R_grown1 h4 rfl hg (fun e => by
    obtain ⟨cs, h7⟩ := Kd.R_typed h4 B e.symm
    exact hm.ne h7 rfl)⟩, h5, h6⟩
end
end Go.Proofs.Ytfakdphkklclgaa.P

end

section
namespace Go.Proofs.Ytfakdphkklclgaa.P
open Go.RowKit Go.Proofs.YtfakdphkklclgaaW.PrintWords Go.Proofs.YtfakdphkklclgaaW.PrintLast Go.Proofs.YtfakdphkklclgaaW.PrintMore
attribute [local go_sem] max2_int min2_int max_two min_two max_three min_three max_four min_four
set_option linter.unusedVariables false
set_option linter.unusedSimpArgs false
section
open Go.ChangeMaps Go.MapKept
set_option linter.unusedVariables false
theorem nameR_go (nm : ByteArray → Bool) (bs : List Int) (a : Nat) (h : (nameR nm bs a).2.2 = 0) : a < (nameR nm bs a).2.1 ∧ (nameR nm bs a).2.1 ≤ bs.length := by
  unfold nameR at h ⊢
  split
  · rename_i c; rw [if_pos c] at h; cases h
  · rename_i c; rw [if_neg c] at h
    split
    · rename_i c2; rw [if_pos c2] at h; cases h
    · rename_i c2; rw [if_neg c2] at h
      split
      · rename_i c3; rw [if_pos c3] at h; cases h
      · rename_i c3; rw [if_neg c3] at h
        split
        · simp only; omega
        · rename_i c4; rw [if_neg c4] at h; cases h
theorem numR_go (k : Nat) (bs : List Int) (a : Nat) (h : (numR k bs a).2.2 = 0) : (numR k bs a).2.1 = a + k ∧ a + k ≤ bs.length := by
  unfold numR at h ⊢
  split
  · rename_i c; rw [if_pos c] at h; cases h
  · exact ⟨rfl, by omega⟩
end
end Go.Proofs.Ytfakdphkklclgaa.P

end

section
namespace Go.Proofs.Ytfakdphkklclgaa.P
open Go.RowKit Go.Proofs.YtfakdphkklclgaaW.PrintWords Go.Proofs.YtfakdphkklclgaaW.PrintLast Go.Proofs.YtfakdphkklclgaaW.PrintMore
attribute [local go_sem] max2_int min2_int max_two min_two max_three min_three max_four min_four
set_option linter.unusedVariables false
set_option linter.unusedSimpArgs false
section
theorem bytes_rng (s : ByteArray) : ∀ z ∈ bytesOf s, 0 ≤ z ∧ z ≤ 255 := by
  intro z hz
  unfold bytesOf at hz
  obtain ⟨u, _, rfl⟩ := List.mem_map.1 hz
  have := u.toNat_lt
  omega
theorem bytes_len (s : ByteArray) : (bytesOf s).length = s.size := by unfold bytesOf; simp [Lib.toList_data]
theorem rec_rng (kind : Int) (hk : 0 ≤ kind ∧ kind ≤ 255) (x : ByteArray) (b : List Int) (hb : ∀ z ∈ b, 0 ≤ z ∧ z ≤ 255) : ∀ z ∈ recB kind x b, 0 ≤ z ∧ z ≤ 255 := by
  intro z hz
  unfold recB at hz
  rcases List.mem_append.1 hz with hz | hz
  · rcases List.mem_append.1 hz with hz | hz
    · rcases List.mem_cons.1 hz with rfl | hz
      · exact hk
      · rw [List.mem_singleton.1 hz]; omega
    · exact bytes_rng x z hz
  · split at hz
    · rcases List.mem_append.1 hz with hz | hz
      · rcases List.mem_cons.1 hz with rfl | hz
        · omega
        · rw [List.mem_singleton.1 hz]; omega
      · exact hb z hz
    · cases hz
theorem laid_cases (s : Sto) (l : List S101) (r : List Int) : (laidS s l r).1 = s ∨ (s.img.length + r.length + 1 ≤ 1048576 ∧ (laidS s l r).1 = ⟨s.img ++ r, l⟩) := by
  unfold laidS
  split
  · exact .inl rfl
  · exact .inr ⟨by omega, rfl⟩
theorem good_put {nm : ByteArray → Bool} {s : Sto} (h : Good nm s) (x : ByteArray) (b : List Int) (hb : ∀ z ∈ b, 0 ≤ z ∧ z ≤ 255) : Good nm (putS nm s x b).1 := by
  unfold putS
  by_cases c1 : nm x = false
  · rw [if_pos c1]; exact h
  rw [if_neg c1]
  by_cases c2 : 4096 < b.length
  · rw [if_pos c2]; exact h
  rw [if_neg c2]
  by_cases c3 : lkL s.L x = none ∧ 16 ≤ s.L.length
  · rw [if_pos c3]; exact h
  rw [if_neg c3]
  rcases laid_cases s (putL x b s.L) (recB 1 x b) with e | ⟨hl, e⟩
  · rw [e]; exact h
  rw [e]
  refine ⟨by show (s.img ++ _).length ≤ _; rw [List.length_append]; omega, fun z hz => ?_, ?_, put_srt x b h.srt, fun k hk => ?_, fun k hk => ?_⟩
  · rcases List.mem_append.1 hz with hz | hz
    · exact h.by_ z hz
    · exact rec_rng 1 (by decide) x b hb z hz
  · show (putL x b s.L).length ≤ 16
    rw [put_len x b h.srt]
    have := h.len
    split
    · omega
    · rename_i c4
      have : lkL s.L x = none := by cases hq : lkL s.L x with
        | none => rfl
        | some y => rw [hq] at c4; exact absurd rfl c4
      have : ¬ 16 ≤ s.L.length := fun q => c3 ⟨this, q⟩
      omega
  · rcases put_mem hk with rfl | hk
    · simpa using c1
    · exact h.nam k hk
  · rcases put_mem hk with rfl | hk
    · exact ⟨by show b.length ≤ 4096; omega, hb⟩
    · exact h.val k hk
theorem good_new (nm : ByteArray → Bool) : Good nm ⟨[], []⟩ := ⟨by decide, fun _ h => (by cases h), by decide, List.Pairwise.nil, fun _ h => (by cases h), fun _ h => (by cases h)⟩
theorem lk_at {L : List S101} (h : Srt L) (i : Nat) (hi : i < L.length) : lkL L L[i].f0 = some L[i].f1 := by
  induction L generalizing i with
  | nil => cases hi
  | cons k l ih =>
    obtain ⟨h1, h2⟩ := List.pairwise_cons.1 h
    cases i with
    | zero => show (if k.f0 = k.f0 then _ else _) = _; rw [if_pos rfl]; rfl
    | succ i =>
      unfold lkL
      rw [if_neg]
      · exact ih h2 i (by simpa using hi)
      · intro e
        have hi' : i < l.length := by simpa using hi
        have := h1 (l[i]'hi') (List.getElem_mem _)
        rw [e] at this
        simp only [List.getElem_cons_succ] at this
        rw [lessB_irr] at this
        cases this
end
end Go.Proofs.Ytfakdphkklclgaa.P

end

section
namespace Go.Proofs.Ytfakdphkklclgaa.P
open Go.RowKit Go.Proofs.YtfakdphkklclgaaW.PrintWords Go.Proofs.YtfakdphkklclgaaW.PrintLast Go.Proofs.YtfakdphkklclgaaW.PrintMore
attribute [local go_sem] max2_int min2_int max_two min_two max_three min_three max_four min_four
set_option linter.unusedVariables false
set_option linter.unusedSimpArgs false
section
open Go.ChangeMaps Go.MapKept
set_option linter.unusedVariables false
section
variable {ops : Array Oper} {rest : List Oper} {o : Oper} {a : Act} {Q : Exit → Act → World → Prop}
theorem below_bytes (W : World) (e : TypeId) (s : ByteArray) : Below W.heap.size W (Lib.bytesWorld W e s) := by
  have h1 : Below W.heap.size W (W.drew.alloc (.cells (Lib.bytesCells W e s) e)) := by
    have := below_alloc (w := W.drew) (W := W.drew) (Below.refl _ _) (.cells (Lib.bytesCells W e s) e)
    exact below_step (below_drew (Below.refl _ _)) this
  refine ⟨h1.os, h1.tape, h1.output, ?_, fun k hk => ?_⟩
  · rw [Lib.bytesWorld_size]; omega
  · exact Lib.bytesWorld_at_old W e s k hk
theorem conv_str (hgd : o.guard = none) {x : Operand} (ho : o.op = .convert 9 23 x) {s : ByteArray} (hx : a.eval x = .string s) {W : World} (hl : s.size ≤ 9223372036854775807)
    (h : ∀ g c w1, g = W.heap.size → Kd.C (Kd.int .u8) w1 (some ⟨g, 0, none⟩) s.size (bytesOf s) → Below W.heap.size W w1 → wpList Try.prog ops Q rest (a.put o.dst (.slice (some ⟨g, 0, none⟩) s.size c)) w1) : wpList Try.prog ops Q (o :: rest) a W :=
  Kd.event_run hgd (by
    unfold execOp
    simp only [ho, hx, Sem.run_bind, Lib.run_convert_string_bytes (P := Try.prog) W 9 23 5 s Try.underlying9 Try.underlying23 Try.underlying5, Result.andThen_ok, Sem.run_pure]) (h W.heap.size (grownCap W s.size 0 5) _ rfl ⟨bytesOf_length s, hl, fun _ => ⟨⟨W.heap.size, 0, none⟩, rfl, fun j p hj => ⟨[.int .u8 p], rfl, rfl, fun i u hu => by
      cases i with
      | zero =>
        obtain rfl := Option.some.inj hu
        have hj1 : j < s.size := by
          have := (List.getElem?_eq_some_iff.1 hj).1
          rw [bytesOf_length] at this
          exact this
        have hc := Lib.bytesWorld_cell W 5 s j hj1
        have hp : p = ((s.data.toList.getD j 0).toNat : Int) := by
          unfold bytesOf at hj
          rw [List.getElem?_map] at hj
          rw [List.getD_eq_getElem?_getD]
          cases hq : s.data.toList[j]? with
          | none => rw [hq] at hj; cases hj
          | some b => rw [hq] at hj; exact (Option.some.inj hj).symm
        rw [← hp] at hc
        rcases Nat.eq_zero_or_pos j with rfl | hj0
        · simpa [Addr.add, show (Kd.int .u8).sz = 1 from rfl] using hc
        · have : ¬ j = 0 := by omega
          simpa [Addr.add, show (Kd.int .u8).sz = 1 from rfl, this] using hc
      | succ i => cases hu⟩⟩⟩ (below_bytes W 5 s))
end
theorem two_own (W : World) (x y : Int) (base : Nat) (hb : base ≤ W.heap.size) : Kd.R (Kd.int .u8) 5 (W.alloc (.cells #[.int .u8 x, .int .u8 y] 5)) base (fun _ => True) (.slice (some ⟨W.heap.size, 0, none⟩) 2 2) [x, y] :=
  ⟨fun _ _ => trivial, nums .u8 [x, y], ⟨rfl, .inr ⟨W.heap.size, 2, #[.int .u8 x, .int .u8 y], rfl, hb, blk_new _ _, Nat.le_refl 2, by decide, rfl, rfl⟩⟩, Kd.reps_scalar (enc := Value.int .u8) [x, y]⟩
theorem one_own2 (W : World) (x : Int) (base : Nat) (hb : base ≤ W.heap.size) : Kd.R (Kd.int .u8) 5 (W.alloc (.cells #[.int .u8 x] 5)) base (fun _ => True) (.slice (some ⟨W.heap.size, 0, none⟩) 1 1) [x] := Kd.R_lower (R_of_nums (one_own W x)) hb
theorem nil_own (W : World) (base : Nat) (hb : base ≤ W.heap.size) : Kd.R (Kd.int .u8) 5 (W.alloc (.cells #[] 5)) base (fun _ => True) (.slice (some ⟨W.heap.size, 0, none⟩) 0 0) [] :=
  ⟨fun _ _ => trivial, nums .u8 [], ⟨rfl, .inr ⟨W.heap.size, 0, #[], rfl, hb, blk_new _ _, by decide, by decide, rfl, rfl⟩⟩, Kd.reps_scalar (enc := Value.int .u8) []⟩
set_option maxHeartbeats 6400000 in
set_option maxRecDepth 100000 in
theorem record_d (kind : Int) (hkind : kind = 1 ∨ kind = 2) (x : ByteArray) (hx : x.size ≤ 24) (b : List Int) (hb : b.length ≤ 4096) (A : Option Addr) (c : Nat) (w : World) (hr : Kd.C (Kd.int .u8) w A b.length b) : Calls Try.prog 45 #[.int .u8 kind, .string x, .slice A b.length c] w fun e w' => ∃ v, e = .returned v ∧ Kd.R (Kd.int .u8) 5 w' w.heap.size (fun _ => True) v (recB kind x b) ∧ Below w.heap.size w w' := by
  have HC := Aside0.mk hr
  have hwr : IntKind.u8.wrap (x.size : Int) = (x.size : Int) % 256 := by simp [IntKind.wrap, IntKind.signed, IntKind.bits]
  clear hr
  obtain ⟨out, hout⟩ : ∃ out, out = recB kind x b := ⟨_, rfl⟩
  rw [← hout]
  unfold recB at hout
  have HT0 := Aside0.mk (two_own w kind ((x.size : Int) % 256) w.heap.size (Nat.le_refl _))
  have HB0 := Aside0.mk (below_alloc (Below.refl w.heap.size w) (.cells #[.int .u8 kind, .int .u8 ((x.size : Int) % 256)] 5))
  by_cases c1 : kind = 1
  · subst c1
    rw [if_pos rfl] at hout
    go_enter Try.func45, Try.ntmps45
    go_wp2_with (first | (refine conv_str rfl rfl rfl (by omega) ?_; refine halt_at ?_))
    unfold Halt_
    intro g1 cg w1 hg1 hC1 hb1
    replace hb1 := show Below (w.alloc (.cells #[.int .u8 1, .int .u8 ((x.size : Int) % 256)] 5)).heap.size (w.alloc (.cells #[.int .u8 1, .int .u8 ((x.size : Int) % 256)] 5)) w1 by simpa using hb1
    have HR1 := Aside0.mk (Kd.R_below HT0.out hb1)
    have HB1 := Aside0.mk (below_step HB0.out hb1)
    have HC1 := Aside0.mk hC1
    clear hb1 hC1
    have hbl := bytesOf_length x
    go_wp2_with ((with_reducible refine gate_builtin (b := .append) (xs := #[.tmp 12, .tmp 14]) rfl ?_); at_builtin; refine halt_at ?_)
    unfold Halt_
    refine Kd.R_append_rows (Kd.int .u8) (w0 := w1) w.heap.size rfl (.tmp 12) (.tmp 14) 23 5 (.int .u8 0) 1 rfl Try.underlying23 info5 rfl (by decide) (by omega) (.slice (some ⟨w.heap.size, 0, none⟩) 2 2) ([1, (x.size : Int) % 256]) (bytesOf x) (some ⟨g1, 0, none⟩) (x.size) (cg) (fun _ => True) (fun _ => False) rfl rfl HR1.out HC1.out (fun _ _ h => h) (fun _ h => h.elim) (fun _ _ => trivial) (Below.refl _ _) (HB1.out.size) (by simp; omega) ?_
    intro v2 w2 ho hb2 hg hat
    obtain ⟨A2, c2, e2⟩ := Kd.R_slice ho
    have hl2 : ([1, (x.size : Int) % 256] ++ bytesOf x).length = x.size + 2 := by rw [List.length_append, hbl]; simp; omega
    rw [hl2] at e2
    subst e2
    have HR2 := Aside0.mk ho
    have HB2 := Aside0.mk (HB1.out.trans hb2)
    clear ho hb2 hg hat
    have hw1 : IntKind.u8.wrap ((b.length : Int) / 256) = (b.length : Int) / 256 % 256 := by simp [IntKind.wrap, IntKind.signed, IntKind.bits]
    have hw2 : IntKind.u8.wrap (b.length : Int) = (b.length : Int) % 256 := by simp [IntKind.wrap, IntKind.signed, IntKind.bits]
    go_wp2_with ((with_reducible refine gate_builtin (b := .append) (xs := #[.tmp 18, .tmp 26]) rfl ?_); at_builtin; refine halt_at ?_)
    unfold Halt_
    have ht3 := two_own w2 ((b.length : Int) / 256 % 256) ((b.length : Int) % 256) w2.heap.size (Nat.le_refl _)
    have hb3 := below_alloc (Below.refl w2.heap.size w2) (.cells #[.int .u8 ((b.length : Int) / 256 % 256), .int .u8 ((b.length : Int) % 256)] 5)
    have hR3 := Kd.R_alloc HR2.out (.cells #[.int .u8 ((b.length : Int) / 256 % 256), .int .u8 ((b.length : Int) % 256)] 5)
    generalize (w2.alloc (.cells #[.int .u8 ((b.length : Int) / 256 % 256), .int .u8 ((b.length : Int) % 256)] 5)) = w3 at ht3 hb3 hR3 ⊢
    have HC3 := Aside0.mk (Kd.R_reads' ht3).2.2
    have HR3 := Aside0.mk hR3
    have HB3 := Aside0.mk (below_step HB2.out hb3)
    clear ht3 hb3 hR3
    refine Kd.R_append_rows (Kd.int .u8) (w0 := w3) w.heap.size rfl (.tmp 18) (.tmp 26) 23 5 (.int .u8 0) 1 rfl Try.underlying23 info5 rfl (by decide) (by omega) (.slice A2 (x.size + 2) c2) ([1, (x.size : Int) % 256] ++ bytesOf x) ([(b.length : Int) / 256 % 256, (b.length : Int) % 256]) (some ⟨w2.heap.size, 0, none⟩) (2) (2) (fun _ => True) (fun _ => False) rfl rfl HR3.out HC3.out (fun _ _ h => h) (fun _ h => h.elim) (fun _ _ => trivial) (Below.refl _ _) (HB3.out.size) (by rw [hl2]; omega) ?_
    intro v4 w4 ho hb4 hg hat
    obtain ⟨A4, c4, e4⟩ := Kd.R_slice ho
    have hl4 : ([1, (x.size : Int) % 256] ++ bytesOf x ++ [(b.length : Int) / 256 % 256, (b.length : Int) % 256]).length = x.size + 4 := by rw [List.length_append, hl2]; simp
    rw [hl4] at e4
    subst e4
    have HR4 := Aside0.mk ho
    have HB4 := Aside0.mk (HB3.out.trans hb4)
    clear ho hb4 hg hat
    go_wp2_with ((with_reducible refine gate_builtin (b := .append) (xs := #[.tmp 28, .tmp 29]) rfl ?_); at_builtin; refine halt_at ?_)
    unfold Halt_
    refine Kd.R_append_rows (Kd.int .u8) (w0 := w4) w.heap.size rfl (.tmp 28) (.tmp 29) 23 5 (.int .u8 0) 1 rfl Try.underlying23 info5 rfl (by decide) (by omega) (.slice A4 (x.size + 4) c4) ([1, (x.size : Int) % 256] ++ bytesOf x ++ [(b.length : Int) / 256 % 256, (b.length : Int) % 256]) (b) (A) (b.length) (c) (fun _ => True) (fun _ => False) rfl rfl HR4.out (Kd.C_below HC.out HB4.out) (fun _ _ h => h) (fun _ h => h.elim) (fun _ _ => trivial) (Below.refl _ _) (HB4.out.size) (by rw [hl4]; omega) ?_
    intro v5 w5 ho hb5 hg hat
    have HR5 := Aside0.mk ho
    have HB5 := Aside0.mk (HB4.out.trans hb5)
    clear ho hb5 hg hat
    go_wp2_with fail
    go_ret
    subst hout
    exact ⟨_, rfl, by rw [← List.append_assoc]; exact HR5.out, HB5.out⟩
  · have c2 : kind = 2 := by omega
    subst c2
    rw [if_neg (by decide)] at hout
    go_enter Try.func45, Try.ntmps45
    go_wp2_with (first | (refine conv_str rfl rfl rfl (by omega) ?_; refine halt_at ?_))
    unfold Halt_
    intro g1 cg w1 hg1 hC1 hb1
    replace hb1 := show Below (w.alloc (.cells #[.int .u8 2, .int .u8 ((x.size : Int) % 256)] 5)).heap.size (w.alloc (.cells #[.int .u8 2, .int .u8 ((x.size : Int) % 256)] 5)) w1 by simpa using hb1
    have HR1 := Aside0.mk (Kd.R_below HT0.out hb1)
    have HB1 := Aside0.mk (below_step HB0.out hb1)
    have HC1 := Aside0.mk hC1
    clear hb1 hC1
    have hbl := bytesOf_length x
    go_wp2_with ((with_reducible refine gate_builtin (b := .append) (xs := #[.tmp 12, .tmp 14]) rfl ?_); at_builtin; refine halt_at ?_)
    unfold Halt_
    refine Kd.R_append_rows (Kd.int .u8) (w0 := w1) w.heap.size rfl (.tmp 12) (.tmp 14) 23 5 (.int .u8 0) 1 rfl Try.underlying23 info5 rfl (by decide) (by omega) (.slice (some ⟨w.heap.size, 0, none⟩) 2 2) ([2, (x.size : Int) % 256]) (bytesOf x) (some ⟨g1, 0, none⟩) (x.size) (cg) (fun _ => True) (fun _ => False) rfl rfl HR1.out HC1.out (fun _ _ h => h) (fun _ h => h.elim) (fun _ _ => trivial) (Below.refl _ _) (HB1.out.size) (by simp; omega) ?_
    intro v2 w2 ho hb2 hg hat
    obtain ⟨A2, c2, e2⟩ := Kd.R_slice ho
    have hl2 : ([2, (x.size : Int) % 256] ++ bytesOf x).length = x.size + 2 := by rw [List.length_append, hbl]; simp; omega
    rw [hl2] at e2
    subst e2
    have HR2 := Aside0.mk ho
    have HB2 := Aside0.mk (HB1.out.trans hb2)
    clear ho hb2 hg hat
    go_wp2_with fail
    go_ret
    subst hout
    rw [List.append_nil]
    exact ⟨_, rfl, HR2.out, HB2.out⟩
end
end Go.Proofs.Ytfakdphkklclgaa.P

end

section
namespace Go.Proofs.Ytfakdphkklclgaa.P
open Go.RowKit Go.Proofs.YtfakdphkklclgaaW.PrintWords Go.Proofs.YtfakdphkklclgaaW.PrintLast Go.Proofs.YtfakdphkklclgaaW.PrintMore
attribute [local go_sem] max2_int min2_int max_two min_two max_three min_three max_four min_four
set_option linter.unusedVariables false
set_option linter.unusedSimpArgs false
section
open Go.ChangeMaps Go.MapKept
set_option linter.unusedVariables false
structure DAt (Z : Nat → Prop) (x : Value) (s : Sto) (W : World) : Prop where
  now : ∃ (A0 : Option Addr) (c0 : Nat) (A1 : Option Addr) (c1 : Nat), x = .agg #[.slice A0 s.img.length c0, .slice A1 s.L.length c1] ∧ s.img.length ≤ c0 ∧ s.L.length ≤ c1 ∧ Kd.F (Kd.int .u8) W Z A0 s.img.length s.img ∧ Kd.F k101 W Z A1 s.L.length s.L
section
variable {Z Z' S : Nat → Prop} {x : Value} {s : Sto} {W W1 : World}
theorem DAt.step (h : DAt Z x s W) (hb : Below W.heap.size W W1) : DAt Z x s W1 := by
  obtain ⟨A0, c0, A1, c1, h1, h2, h3, h4, h5⟩ := h
  exact ⟨A0, c0, A1, c1, h1, h2, h3, Kd.F_below h4 hb, Kd.F_below h5 hb⟩
theorem DAt.kept (h : DAt Z x s W) (hk : Kept W W1 S) (hS : ∀ b, Z b → ¬ S b) : DAt Z x s W1 := by
  obtain ⟨A0, c0, A1, c1, h1, h2, h3, h4, h5⟩ := h
  exact ⟨A0, c0, A1, c1, h1, h2, h3, Kd.F_kept h4 hk hS, Kd.F_kept h5 hk hS⟩
theorem DAt.mono (h : DAt Z x s W) (hZ : ∀ b, Z b → Z' b) : DAt Z' x s W := by
  obtain ⟨A0, c0, A1, c1, h1, h2, h3, h4, h5⟩ := h
  exact ⟨A0, c0, A1, c1, h1, h2, h3, Kd.F_mono h4 hZ, Kd.F_mono h5 hZ⟩
theorem DAt.bound (h : DAt Z x s W) : DAt (fun b => Z b ∧ b < W.heap.size) x s W := by
  obtain ⟨A0, c0, A1, c1, h1, h2, h3, h4, h5⟩ := h
  exact ⟨A0, c0, A1, c1, h1, h2, h3, Kd.F_bound h4, Kd.F_bound h5⟩
theorem DAt.zero (Z : Nat → Prop) (W : World) : DAt Z (.agg #[.slice none 0 0, .slice none 0 0]) ⟨[], []⟩ W := ⟨none, 0, none, 0, rfl, Nat.le_refl _, Nat.le_refl _, Kd.F_nil _ _ _, Kd.F_nil _ _ _⟩
end
def DWr (Z : Nat → Prop) (m : Value) (ws : List S52) (W : World) : Prop := ∃ A c, m = .slice A ws.length c ∧ ws.length ≤ c ∧ Kd.F k52 W Z A ws.length ws
theorem DWr.kept {Z S : Nat → Prop} {m : Value} {ws : List S52} {W W1 : World} (h : DWr Z m ws W) (hk : Kept W W1 S) (hS : ∀ b, Z b → ¬ S b) : DWr Z m ws W1 := by
  obtain ⟨A, c, h1, h2, h3⟩ := h
  exact ⟨A, c, h1, h2, Kd.F_kept h3 hk hS⟩
theorem DWr.step {Z : Nat → Prop} {m : Value} {ws : List S52} {W W1 : World} (h : DWr Z m ws W) (hb : Below W.heap.size W W1) : DWr Z m ws W1 := by
  obtain ⟨A, c, h1, h2, h3⟩ := h
  exact ⟨A, c, h1, h2, Kd.F_below h3 hb⟩
theorem DWr.mono {Z Z' : Nat → Prop} {m : Value} {ws : List S52} {W : World} (h : DWr Z m ws W) (hZ : ∀ b, Z b → Z' b) : DWr Z' m ws W := by
  obtain ⟨A, c, h1, h2, h3⟩ := h
  exact ⟨A, c, h1, h2, Kd.F_mono h3 hZ⟩
theorem DWr.nil (Z : Nat → Prop) (W : World) : DWr Z (.slice none 0 0) [] W := ⟨none, 0, rfl, Nat.le_refl _, Kd.F_nil _ _ _⟩
def DPost (Z : Nat → Prop) (w : World) (out : Sto × List S52 × Int) (e : Ending) (w' : World) : Prop := ∃ (y m : Value), e = .returned (.tuple #[y, m, .int .i64 out.2.2]) ∧ DAt (fun k => Z k ∨ (w.heap.size ≤ k ∧ k < w'.heap.size)) y out.1 w' ∧ DWr (fun k => w.heap.size ≤ k ∧ k < w'.heap.size) m out.2.1 w' ∧ Below w.heap.size w w'
theorem Rws.old {w0 W W1 : World} {l : List (Nat × TypeId × Array Value)} (h : Rws w0 l W) {B : Nat} (hB : ∀ p ∈ l, p.1 < B) (hb : Below B W W1) (hw : w0.heap.size ≤ B) : Rws w0 l W1 := ⟨fun p hp => ⟨(hb.block _ (hB p hp)).trans (h.lies p hp).1, (h.lies p hp).2⟩, h.ne, h.below.trans (hb.mono hw)⟩
theorem rw_allocS {P : Program} {ops : Array Oper} {rest : List Oper} {o : Oper} {a : Act} {Q : Exit → Act → World → Prop} (hgd : o.guard = none) (ty : TypeId) (ho : o.op = .alloc ty) {cs : Array Value} (hz : (P.info? ty).map (·.zero) = some (some (.agg cs))) {w0 W : World} {l : List (Nat × TypeId × Array Value)} (hl : Rws w0 l W)
    (h : ∀ g w1, g = W.heap.size → Rws w0 ((g, ty, cs) :: l) w1 → Below W.heap.size W w1 → wpList P ops Q rest (a.put o.dst (.pointer (some ⟨g, 0, none⟩))) w1) : wpList P ops Q (o :: rest) a W :=
  wpList_plain hgd fun _ hK => rw_alloc_wp ty ho hz hl (fun g w1 h1 h2 h3 => hK _ _ (h g w1 h1 h2 h3))
theorem rw_storeS {P : Program} {ops : Array Oper} {rest : List Oper} {o : Oper} {a : Act} {Q : Exit → Act → World → Prop} (hgd : o.guard = none) (ty : TypeId) {x y : Operand} (ho : o.op = .store ty x y) {g : Nat} (hx : a.eval x = .pointer (some ⟨g, 0, none⟩)) {cs' : Array Value} (hy : a.eval y = .agg cs') {w0 W : World} (l1 : List (Nat × TypeId × Array Value)) {l2 : List (Nat × TypeId × Array Value)} {cs : Array Value} (hl : Rws w0 (l1 ++ (g, ty, cs) :: l2) W) (hi : (P.info? ty).map (·.size) = some cs'.size) (hs : cs.size = cs'.size) (h1 : cs'.all (·.oneCell') = true)
    (h : ∀ w1, Rws w0 (l1 ++ (g, ty, cs') :: l2) w1 → Kept W w1 (fun k => k = g) → wpList P ops Q rest (a.put o.dst undef) w1) : wpList P ops Q (o :: rest) a W :=
  wpList_plain hgd fun _ hK => rw_store_wp ty ho hx hy l1 hl hi hs h1 (fun w1 h2 h3 => hK _ _ (h w1 h2 h3))
theorem WrAt.foot {S1 S2 : Nat} {v : Value} {at_ : Int} {r0 r1 : List Int} {W W' : World} (h : WrAt S1 S2 v at_ r0 r1 W) (hW : ∀ k, (S1 ≤ k ∧ k < S2) → k < W.heap.size → W'.heap[k]? = W.heap[k]?) : WrAt S1 S2 v at_ r0 r1 W' := by
  obtain ⟨b0, v1, v2, h1, h2, h3, h4, h5, h6, h7⟩ := h
  exact ⟨b0, v1, v2, h1, (hW b0 ⟨h6, h7⟩ (blk_lt h2)).trans h2, Kd.R_step h3 hW, Kd.R_step h4 hW, h5, h6, h7⟩
theorem DWr_of {S1 S2 : Nat} {v : Value} {at_ : Int} {r0 r1 : List Int} {W : World} (h : WrAt S1 S2 v at_ r0 r1 W) : DWr (fun k => S1 ≤ k ∧ k < S2) v [⟨at_, r0⟩, ⟨at_, r1⟩] W := by
  obtain ⟨b0, h1, _⟩ := h.reads
  refine ⟨_, 2, h1, Nat.le_refl _, fun W' hW => ?_⟩
  obtain ⟨b1, h2, h3⟩ := (h.foot hW).reads
  rw [h1] at h2
  injection h2 with h2
  injection h2 with h2
  injection h2 with h2
  subst h2
  exact h3
theorem one_at {W : World} {gk : Nat} {z : Int} (h : W.heap[gk]? = some (.cells #[.int .u8 z] 5 (0, 0))) {base : Nat} (hb : base ≤ gk) {ok : Nat → Prop} (hok : ok gk) : Kd.R (Kd.int .u8) 5 W base ok (.slice (some ⟨gk, 0, none⟩) 1 1) [z] :=
  ⟨fun k hk => by injection hk with hk; rw [← hk]; exact hok, nums .u8 [z], ⟨rfl, .inr ⟨gk, 1, #[.int .u8 z], rfl, hb, h, Nat.le_refl 1, by decide, rfl, rfl⟩⟩, Kd.reps_scalar (enc := Value.int .u8) [z]⟩
theorem laid_end {Z : Nat → Prop} {s : Sto} {w w2 w9 W : World} {l : List S101} {A1 A6 A9 : Option Addr} {c1 c6 c9 : Nat} {r rr : List Int} {b3 b6 gk gm : Nat} {cs3 : Array Value} (hL : Kd.F k101 w Z A1 l.length l) (hc1 : l.length ≤ c1) (hM : Rws w [(b6, 29, #[.slice A9 (s.img.length + r.length) c9, .slice A1 l.length c1]), (b3, 29, cs3)] W) (hK : Kept w9 W (fun k => k = b6)) (hl9 : b6 < w2.heap.size ∧ w2.heap.size ≤ w9.heap.size)
    (hgk : W.heap[gk]? = some (.cells #[.int .u8 (rd r 0)] 5 (0, 0))) (hgm : W.heap[gm]? = some (.cells #[.int .i64 (s.img.length : Int), .slice A6 (r.length + 1) c6, .int .i64 (s.img.length : Int), .slice (some ⟨gk, 0, none⟩) 1 1] 52 (0, 0))) (he1 : w9.heap.size ≤ gk) (he2 : w9.heap.size ≤ gm)
    (h6 : Kd.R (Kd.int .u8) 5 w9 w2.heap.size (fun _ => True) (.slice A6 (r.length + 1) c6) rr) (h9 : Kd.R (Kd.int .u8) 5 w9 w2.heap.size (fun _ => True) (.slice A9 (s.img.length + r.length) c9) (s.img ++ r)) (hz : w.heap.size ≤ w2.heap.size) :
    DPost Z w (⟨s.img ++ r, l⟩, [⟨(s.img.length : Int), rr⟩, ⟨(s.img.length : Int), [rd r 0]⟩], 0) (.returned (.tuple #[.agg #[.slice A9 (s.img.length + r.length) c9, .slice A1 l.length c1], .slice (some ⟨gm, 0, none⟩) 2 2, .int .i64 0])) W := by
  have hb := hM.below
  have hg1 := blk_lt hgk
  have hg2 := blk_lt hgm
  have hR9 := Kd.R_kept (Kd.R_bound h9) hK (fun k q e => by have := q.2.1; omega)
  have hR6 := Kd.R_kept (Kd.R_bound h6) hK (fun k q e => by have := q.2.1; omega)
  have hlen : (s.img ++ r).length = s.img.length + r.length := List.length_append
  have hw : WrAt w.heap.size W.heap.size (.slice (some ⟨gm, 0, none⟩) 2 2) (s.img.length : Int) rr [rd r 0] W := by
    refine ⟨gm, _, _, rfl, hgm, Kd.R_lower (Kd.R_mono hR6 (fun k q => ⟨Nat.le_trans hz q.2.1, ?_⟩)) hz, one_at hgk (by omega) ⟨by omega, hg1⟩, fun b e e2 => ?_, by omega, hg2⟩
    · have h8 : k < w9.heap.size := q.2.2.1
      have := hK.1
      omega
    · have h8 := Kd.R_lt h6 b e
      have e3 : some gk = some b := e2
      injection e3 with e3
      omega
  refine ⟨_, _, rfl, ⟨A9, c9, A1, c1, by rw [hlen], by rw [hlen]; exact (Kd.R_reads' h9).2.1, hc1, ?_, Kd.F_mono (Kd.F_below hL hb) (fun k q => .inl q)⟩, DWr_of hw, hb⟩
  have hF := Kd.R_F (Kd.R_bound hR9)
  rw [hlen]
  exact Kd.F_mono hF (fun k q => .inr ⟨Nat.le_trans hz q.2.1, q.2.2.1⟩)
set_option maxHeartbeats 6400000 in
set_option maxRecDepth 100000 in
theorem laid_d {Z : Nat → Prop} {x : Value} {s : Sto} {w : World} (h : DAt Z x s w) (hi : s.img.length ≤ 1048576) (l : List S101) (A1 : Option Addr) (c1 : Nat) (hl : Kd.F k101 w Z A1 l.length l) (hc1 : l.length ≤ c1) (r : List Int) (Ar : Option Addr) (cr : Nat) (hr : Kd.C (Kd.int .u8) w Ar r.length r) (hcr : r.length ≤ cr) (hr1 : 2 ≤ r.length) (hr2 : r.length ≤ 5000) : Calls Try.prog 43 #[x, .slice A1 l.length c1, .slice Ar r.length cr] w fun e w' => DPost Z w (laidS s l r) e w' := by
  obtain ⟨A0, c0, B1, d1, rfl, g1, g2, g3, g4⟩ := h
  have HI := Aside0.mk (And.intro g1 (And.intro g2 (And.intro g3 g4)))
  have HL := Aside0.mk hl
  have HR := Aside0.mk hr
  clear g1 g2 g3 g4 hl hr
  have hw1 : wrap64 ((s.img.length : Int) + (r.length : Int)) = (s.img.length : Int) + (r.length : Int) := by unfold wrap64; omega
  have hw2 : wrap64 ((s.img.length : Int) + (r.length : Int) + 1) = (s.img.length : Int) + (r.length : Int) + 1 := by unfold wrap64; omega
  by_cases c9 : 1048576 < s.img.length + r.length + 1
  · have c9b : decide ((1048576 : Int) < (s.img.length : Int) + (r.length : Int) + 1) = true := decide_eq_true (by omega)
    go_enter Try.func43, Try.ntmps43
    go_wp2_with (first | ((with_reducible refine gate_dst (N := 3) rfl ?_); refine rw_box rfl 29 rfl (cs := #[.slice A0 s.img.length c0, .slice B1 s.L.length d1]) rfl (Rws.nil w) ?_; intro b3 w1 hX; have HM := Aside0.mk hX; clear hX) | ((with_reducible refine gate_dst (N := 6) rfl ?_); refine rw_allocS rfl 29 rfl (cs := #[.slice none 0 0, .slice none 0 0]) (by kernel_rfl) HM.out ?_; intro b6 w2 hg6 hM hb6; have HM2 := Aside0.mk hM; have hc30 := blk_cell (hM.mem (List.mem_cons_of_mem _ List.mem_cons_self)) 0; have hc31 := blk_cell (hM.mem (List.mem_cons_of_mem _ List.mem_cons_self)) 1; clear hg6 hM hb6) | ((with_reducible refine gate_dst (N := 20) rfl ?_); refine rw_load rfl 29 rfl rfl HM2.out (List.mem_cons_of_mem _ List.mem_cons_self) _ Try.underlying29 rfl (by kernel_rfl) ?_) | (refine rw_storeS rfl 29 rfl rfl (cs' := #[.slice A0 s.img.length c0, .slice B1 s.L.length d1]) rfl [] HM2.out (by kernel_rfl) rfl (by show _ = _; simp [Value.oneCell']) ?_; intro w3 hM hk3; have HM3 := Aside0.mk hM; clear hM hk3))
    unfold laidS
    rw [if_pos c9]
    refine bodyPost_ret (results_ctt rfl _ _ b6 29 #[.slice A0 s.img.length c0, .slice B1 s.L.length d1] (0, 0) _ rfl (HM3.out.mem List.mem_cons_self) Try.underlying29 rfl (by kernel_rfl)) rfl ?_
    have hb := HM3.out.below
    exact ⟨_, _, rfl, ⟨A0, c0, B1, d1, rfl, HI.out.1, HI.out.2.1, Kd.F_mono (Kd.F_below HI.out.2.2.1 hb) (fun k q => .inl q), Kd.F_mono (Kd.F_below HI.out.2.2.2 hb) (fun k q => .inl q)⟩, DWr.nil _ _, hb⟩
  · have c9b : decide ((1048576 : Int) < (s.img.length : Int) + (r.length : Int) + 1) = false := decide_eq_false (by omega)
    have HCF := Aside0.mk c9
    have hcr1 : (cr = 1) = False := eq_false (by omega)
    obtain ⟨ad, e9, _⟩ := HR.out.2.2 (by omega)
    subst e9
    go_enter Try.func43, Try.ntmps43
    go_wp2_with (first | ((with_reducible refine gate_dst (N := 3) rfl ?_); refine rw_box rfl 29 rfl (cs := #[.slice A0 s.img.length c0, .slice B1 s.L.length d1]) rfl (Rws.nil w) ?_; intro b3 w1 hX; have HM := Aside0.mk hX; clear hX) | ((with_reducible refine gate_dst (N := 6) rfl ?_); refine rw_allocS rfl 29 rfl (cs := #[.slice none 0 0, .slice none 0 0]) (by kernel_rfl) HM.out ?_; intro b6 w2 hg6 hM hb6; have HM2 := Aside0.mk hM; have hc30 := blk_cell (hM.mem (List.mem_cons_of_mem _ List.mem_cons_self)) 0; have hc31 := blk_cell (hM.mem (List.mem_cons_of_mem _ List.mem_cons_self)) 1; clear hg6 hM hb6) | ((with_reducible refine gate_builtin (b := .append) (xs := #[.tmp 21, .tmp 23]) rfl ?_); at_builtin; refine halt_at ?_))
    unfold Halt_
    have hlb : b3 < w2.heap.size ∧ b6 < w2.heap.size := ⟨blk_lt (HM2.out.mem (List.mem_cons_of_mem _ List.mem_cons_self)), blk_lt (HM2.out.mem List.mem_cons_self)⟩
    have HB2 := Aside0.mk (Below.refl w2.heap.size w2)
    have hwz := HM2.out.below.size
    clear hc30 hc31
    have ht := one_own2 w2 0 w2.heap.size HB2.out.size
    have hb := below_alloc (Below.refl w2.heap.size w2) (.cells #[.int .u8 0] 5)
    generalize (w2.alloc (.cells #[.int .u8 0] 5)) = w3 at ht hb ⊢
    have HR3 := Aside0.mk ht
    have HB3 := Aside0.mk (below_step HB2.out hb)
    have HD3 := Aside0.mk hb
    clear ht hb
    have hCd : Kd.C (Kd.int .u8) w3 (some (ad.add 1)) (r.length - 1) (r.drop 1) := by
      have h9 := Kd.C_drop (m := 1) (Kd.C_below HR.out (HM2.out.below.trans (HB3.out.mono hwz))) (by omega) hcr
      rw [if_neg (by omega), List.length_drop] at h9
      exact h9
    have HCD := Aside0.mk hCd
    clear hCd
    refine Kd.R_append_rows (Kd.int .u8) (w0 := w3) w2.heap.size rfl (.tmp 21) (.tmp 23) 23 5 (.int .u8 0) 1 rfl Try.underlying23 info5 rfl (by decide) (by omega) (.slice (some ⟨w2.heap.size, 0, none⟩) 1 1) ([(0 : Int)]) (r.drop 1) (some (ad.add 1)) (r.length - 1) (cr - 1) (fun _ => True) (fun _ => False) rfl rfl HR3.out HCD.out (fun _ _ h => h) (fun _ h => h.elim) (fun _ _ => trivial) (Below.refl _ _) (by have := HB3.out.size; omega) (by simp; omega) ?_
    intro v4 w4 ho hb hg hat
    obtain ⟨A4, c4, e4⟩ := Kd.R_slice ho
    have hl4 : ([(0 : Int)] ++ r.drop 1).length = r.length := by simp; try omega
    rw [hl4] at e4
    subst e4
    have HR4 := Aside0.mk ho
    have HB4 := Aside0.mk (HB3.out.trans hb)
    clear ho hb hg hat
    go_wp2_with ((with_reducible refine gate_builtin (b := .append) (xs := #[.tmp 25, .tmp 26]) rfl ?_); at_builtin; refine halt_at ?_)
    unfold Halt_
    have ht := one_own2 w4 0 w2.heap.size HB4.out.size
    have hb := below_alloc (Below.refl w4.heap.size w4) (.cells #[.int .u8 0] 5)
    generalize (w4.alloc (.cells #[.int .u8 0] 5)) = w5 at ht hb ⊢
    have HR5 := Aside0.mk ht
    have HB5 := Aside0.mk (below_step HB4.out hb)
    have HD5 := Aside0.mk hb
    clear ht hb
    refine Kd.R_append_rows (Kd.int .u8) (w0 := w5) w2.heap.size rfl (.tmp 25) (.tmp 26) 23 5 (.int .u8 0) 1 rfl Try.underlying23 info5 rfl (by decide) (by omega) (.slice A4 r.length c4) ([(0 : Int)] ++ r.drop 1) ([(0 : Int)]) (some ⟨w4.heap.size, 0, none⟩) (1) (1) (fun _ => True) (fun _ => False) rfl rfl (Kd.R_below HR4.out HD5.out) (Kd.R_reads' HR5.out).2.2 (fun _ _ h => h) (fun _ h => h.elim) (fun _ _ => trivial) (Below.refl _ _) (by have := HB5.out.size; omega) (by rw [hl4]; omega) ?_
    intro v6 w6 ho hb hg hat
    obtain ⟨A6, c6, e6⟩ := Kd.R_slice ho
    have hl6 : ([(0 : Int)] ++ r.drop 1 ++ [(0 : Int)]).length = r.length + 1 := by simp; try omega
    rw [hl6] at e6
    subst e6
    have HR6 := Aside0.mk ho
    have HB6 := Aside0.mk (HB5.out.trans hb)
    clear ho hb hg hat
    have HM6 := Aside0.mk (HM2.out.old (fun p hp => blk_lt (HM2.out.lies p hp).1) HB6.out hwz)
    have hc30 := blk_cell (HM6.out.mem (List.mem_cons_of_mem _ List.mem_cons_self)) 0
    have hc30b := blk_cell (blk_below (HM6.out.mem (List.mem_cons_of_mem _ List.mem_cons_self)) (below_alloc (Below.refl w6.heap.size w6) (.cells #[] 5))) 0
    go_wp2_with ((with_reducible refine gate_builtin (b := .append) (xs := #[.tmp 31, .tmp 33]) rfl ?_); at_builtin; refine halt_at ?_)
    unfold Halt_
    clear hc30b
    have HQ6 := Aside0.mk (Below.refl w6.heap.size w6)
    have HM6W := Aside0.mk HM6.out.below
    have ht := nil_own w6 w6.heap.size HQ6.out.size
    have hb := below_alloc (Below.refl w6.heap.size w6) (.cells #[] 5)
    generalize (w6.alloc (.cells #[] 5)) = w7 at ht hb ⊢
    have HR7 := Aside0.mk ht
    have HQ7 := Aside0.mk (below_step HQ6.out hb)
    have HD7 := Aside0.mk hb
    clear ht hb
    refine Kd.R_append_rows (Kd.int .u8) (w0 := w7) w6.heap.size rfl (.tmp 31) (.tmp 33) 23 5 (.int .u8 0) 1 rfl Try.underlying23 info5 rfl (by decide) (by omega) (.slice (some ⟨w6.heap.size, 0, none⟩) 0 0) (([] : List Int)) (s.img) (A0) (s.img.length) (c0) (fun _ => True) (fun _ => False) rfl rfl HR7.out (Kd.C_below (Kd.F_now HI.out.2.2.1) (HM6W.out.trans (HQ7.out.mono HM6W.out.size))) (fun _ _ h => h) (fun _ h => h.elim) (fun _ _ => trivial) (Below.refl _ _) (by have := HQ7.out.size; omega) (by simp; omega) ?_
    intro v8 w8 ho hb hg hat
    obtain ⟨A8, c8, e8⟩ := Kd.R_slice ho
    have hl8 : (([] : List Int) ++ s.img).length = s.img.length := by simp; try omega
    rw [hl8] at e8
    subst e8
    have HR8 := Aside0.mk ho
    have HQ8 := Aside0.mk (HQ7.out.trans hb)
    clear ho hb hg hat
    go_wp2_with ((with_reducible refine gate_builtin (b := .append) (xs := #[.tmp 35, .tmp 36]) rfl ?_); at_builtin; refine halt_at ?_)
    unfold Halt_
    refine Kd.R_append_rows (Kd.int .u8) (w0 := w8) w6.heap.size rfl (.tmp 35) (.tmp 36) 23 5 (.int .u8 0) 1 rfl Try.underlying23 info5 rfl (by decide) (by omega) (.slice A8 s.img.length c8) (([] : List Int) ++ s.img) (r) (some ad) (r.length) (cr) (fun _ => True) (fun _ => False) rfl rfl HR8.out (Kd.C_below HR.out (HM6W.out.trans (HQ8.out.mono HM6W.out.size))) (fun _ _ h => h) (fun _ h => h.elim) (fun _ _ => trivial) (Below.refl _ _) (by have := HQ8.out.size; omega) (by rw [hl8]; omega) ?_
    intro v9 w9 ho hb hg hat
    obtain ⟨A9, c9, e9⟩ := Kd.R_slice ho
    have hl9 : (([] : List Int) ++ s.img ++ r).length = s.img.length + r.length := by simp; try omega
    rw [hl9] at e9
    subst e9
    have HR9 := Aside0.mk ho
    have HQ9 := Aside0.mk (HQ8.out.trans hb)
    clear ho hb hg hat
    have HB9 := Aside0.mk (HB6.out.trans (HQ9.out.mono HB6.out.size))
    replace HR9 := Aside0.mk (show Kd.R (Kd.int .u8) 5 w9 w2.heap.size (fun _ => True) (.slice A9 (s.img.length + r.length) c9) (s.img ++ r) from Kd.R_lower HR9.out HB6.out.size)
    replace HR6 := Aside0.mk (Kd.R_below HR6.out HQ9.out)
    have HM9 := Aside0.mk (HM2.out.old (fun p hp => blk_lt (HM2.out.lies p hp).1) HB9.out hwz)
    clear hc30
    go_wp2_with fail
    have hpos : 0 < r.length := by omega
    have HL9 := Aside0.mk (show b6 < w2.heap.size ∧ w2.heap.size ≤ w9.heap.size from ⟨hlb.2, HB9.out.size⟩)
    have HZ9 := Aside0.mk hwz
    have HK9 := Aside0.mk (Kept.refl w9 (fun k => k = b6))
    have HSS := Aside0.mk (show ∀ W' : World, Below w.heap.size w W' → W'.cell? ad = some (.int .u8 (rd r 0)) from fun W' hW => by
      have h9 := Kd.foot_int (Kd.C_below HR.out hW) 0 (by decide) (by omega)
      simpa [Addr.add] using h9)
    (try simp only [Act.put, List.setIfInBounds_toArray, List.set_cons_zero, List.set_cons_succ])
    refine wp_region_held_drew (S := fun w' => w'.cell? ad = some (.int .u8 (rd r 0))) (by kernel_rfl) ?_ (fun hHeld => ?_)
    · exact HSS.out _ (pw_below_drewN HM9.out.below 1)
    have HM10 := Aside0.mk (HM9.out.drewN 1)
    have HK10 := Aside0.mk (HK9.out.drewN 1)
    replace HM10 := Aside0.mk (show Rws w _ w9.drew from HM10.out)
    replace HK10 := Aside0.mk (show Kept w9 w9.drew (fun k => k = b6) from HK10.out)
    generalize w9.drew = w10 at HM10 HK10 hHeld ⊢
    refine take_dst (i := 0) (v := ?_) 38 rfl rfl (by kernel_rfl) (by kernel_rfl) (by kernel_rfl) (fun _ _ _ h => h) (Or.inl ⟨by rfl, ?_⟩) (by assumption) ?_
    rotate_left
    · intro w hSw
      obtain q1 := hSw
      go_simp
      try with_reducible rfl
    (try simp only [Act.put, List.setIfInBounds_toArray, List.set_cons_zero, List.set_cons_succ])
    refine take_dst (i := 1) (v := ?_) 39 rfl rfl (by kernel_rfl) (by kernel_rfl) (by kernel_rfl) (fun _ _ _ h => h) (Or.inl ⟨by rfl, ?_⟩) (by assumption) ?_
    rotate_left
    · intro w hSw
      obtain q1 := hSw
      go_simp
      try with_reducible rfl
    (try simp only [Act.put, List.setIfInBounds_toArray, List.set_cons_zero, List.set_cons_succ])
    refine take_dst (i := 2) (v := ?_) 40 rfl rfl (by kernel_rfl) (by kernel_rfl) (by kernel_rfl) (fun _ _ _ h => h) (Or.inl ⟨by rfl, ?_⟩) (by assumption) ?_
    rotate_left
    · intro w hSw
      obtain q1 := hSw
      go_simp
      try with_reducible rfl
    (try simp only [Act.put, List.setIfInBounds_toArray, List.set_cons_zero, List.set_cons_succ])
    refine take_dst (i := 3) (v := ?_) 41 rfl rfl (by kernel_rfl) (by kernel_rfl) (by kernel_rfl) (fun _ _ _ h => h) (Or.inl ⟨by rfl, ?_⟩) (by assumption) ?_
    rotate_left
    · intro w hSw
      obtain q1 := hSw
      go_simp
      try with_reducible rfl
    (try simp only [Act.put, List.setIfInBounds_toArray, List.set_cons_zero, List.set_cons_succ])
    refine take_dst (i := 4) (v := ?_) 42 rfl rfl (by kernel_rfl) (by kernel_rfl) (by kernel_rfl) (fun _ _ _ h => h) (Or.inl ⟨by rfl, ?_⟩) (by assumption) ?_
    rotate_left
    · intro w hSw
      obtain q1 := hSw
      go_simp
      try with_reducible rfl
    (try simp only [Act.put, List.setIfInBounds_toArray, List.set_cons_zero, List.set_cons_succ])
    refine take_dst (i := 5) (v := ?_) 43 rfl rfl (by kernel_rfl) (by kernel_rfl) (by kernel_rfl) (fun _ _ _ h => h) (Or.inl ⟨by rfl, ?_⟩) (by assumption) ?_
    rotate_left
    · intro w hSw
      obtain q1 := hSw
      go_simp
      try with_reducible rfl
    (try simp only [Act.put, List.setIfInBounds_toArray, List.set_cons_zero, List.set_cons_succ])
    refine take_dst (i := 6) (v := ?_) 44 rfl rfl (by kernel_rfl) (by kernel_rfl) (by kernel_rfl) (fun _ _ _ h => h) (Or.inl ⟨by rfl, ?_⟩) (by assumption) ?_
    rotate_left
    · intro w hSw
      obtain q1 := hSw
      go_simp
      try with_reducible rfl
    (try simp only [Act.put, List.setIfInBounds_toArray, List.set_cons_zero, List.set_cons_succ])
    refine take_dst (i := 7) (v := ?_) 45 rfl rfl (by kernel_rfl) (by kernel_rfl) (by kernel_rfl) (fun _ _ _ h => h) (Or.inl ⟨by rfl, ?_⟩) (by assumption) ?_
    rotate_left
    · intro w hSw
      obtain q1 := hSw
      go_simp
      try with_reducible rfl
    (try simp only [Act.put, List.setIfInBounds_toArray, List.set_cons_zero, List.set_cons_succ])
    refine take_dst (i := 8) (v := ?_) 46 rfl rfl (by kernel_rfl) (by kernel_rfl) (by kernel_rfl) (fun _ _ _ h => h) (Or.inl ⟨by rfl, ?_⟩) (by assumption) ?_
    rotate_left
    · intro w hSw
      obtain q1 := hSw
      go_simp
      try with_reducible rfl
    (try simp only [Act.put, List.setIfInBounds_toArray, List.set_cons_zero, List.set_cons_succ])
    refine take_dst (i := 9) (v := ?_) 47 rfl rfl (by kernel_rfl) (by kernel_rfl) (by kernel_rfl) (fun _ _ _ h => h) (Or.inl ⟨by rfl, ?_⟩) (by assumption) ?_
    rotate_left
    · intro w hSw
      obtain q1 := hSw
      go_simp
      try with_reducible rfl
    (try simp only [Act.put, List.setIfInBounds_toArray, List.set_cons_zero, List.set_cons_succ])
    refine wpAnyH_ready (rs := [10, 13]) (by kernel_rfl) (by simp) ?_
    refine AllReadyH.cons rfl (fun K hK => ?_) (AllReadyH.cons rfl (fun K hK => ?_) (AllReadyH.nil))
    · go_simp
      have hb := below_alloc (Below.refl w10.heap.size w10) (.cells #[.int .u8 (rd r 0)] 5)
      have hk := blk_new w10 (.cells #[.int .u8 (rd r 0)] 5)
      refine hK.out _ _ (HSS.out _ (below_step HM10.out.below hb)) (fun hHeld => ?_)
      (try simp only [Act.put, List.setIfInBounds_toArray, List.set_cons_zero, List.set_cons_succ])
      clear hK K
      obtain ⟨gk, hgk⟩ : ∃ gk, gk = w10.heap.size := ⟨_, rfl⟩
      rw [← hgk] at hk ⊢
      generalize (w10.alloc (.cells #[.int .u8 (rd r 0)] 5)) = w11 at hb hk hHeld ⊢
      have HM11 := Aside0.mk (HM10.out.step hb)
      have HK11 := Aside0.mk (HK10.out.below hb)
      have HGK := Aside0.mk hk
      have HGE := Aside0.mk (show w9.heap.size ≤ gk by have := HK10.out.1; omega)
      clear hb hk hgk
      refine take_dst (i := 11) (v := ?_) 49 rfl rfl (by kernel_rfl) (by kernel_rfl) (by kernel_rfl) (fun _ _ _ h => h) (Or.inl ⟨by rfl, ?_⟩) (by assumption) ?_
      rotate_left
      · intro w hSw
        obtain q1 := hSw
        go_simp
        try with_reducible rfl
      (try simp only [Act.put, List.setIfInBounds_toArray, List.set_cons_zero, List.set_cons_succ])
      refine wpAnyH_ready (rs := [12, 13]) (by kernel_rfl) (by simp) ?_
      refine AllReadyH.cons rfl (fun K hK => ?_) (AllReadyH.cons rfl (fun K hK => ?_) (AllReadyH.nil))
      · go_simp
        have hb := below_alloc (Below.refl w11.heap.size w11) (.cells #[.int .i64 (s.img.length : Int), .slice A6 (r.length + 1) c6, .int .i64 (s.img.length : Int), .slice (some ⟨gk, 0, none⟩) 1 1] 52)
        have hk := blk_new w11 (.cells #[.int .i64 (s.img.length : Int), .slice A6 (r.length + 1) c6, .int .i64 (s.img.length : Int), .slice (some ⟨gk, 0, none⟩) 1 1] 52)
        refine hK.out _ _ (HSS.out _ (below_step HM11.out.below hb)) (fun hHeld => ?_)
        (try simp only [Act.put, List.setIfInBounds_toArray, List.set_cons_zero, List.set_cons_succ])
        clear hK K
        obtain ⟨gm, hgm⟩ : ∃ gm, gm = w11.heap.size := ⟨_, rfl⟩
        rw [← hgm] at hk ⊢
        generalize (w11.alloc (.cells #[.int .i64 (s.img.length : Int), .slice A6 (r.length + 1) c6, .int .i64 (s.img.length : Int), .slice (some ⟨gk, 0, none⟩) 1 1] 52)) = w12 at hb hk hHeld ⊢
        have HM12 := Aside0.mk (HM11.out.step hb)
        have HK12 := Aside0.mk (HK11.out.below hb)
        replace HGK := Aside0.mk (blk_below HGK.out hb)
        have HGM := Aside0.mk hk
        have HGE2 := Aside0.mk (show w9.heap.size ≤ gm by have := HK11.out.1; omega)
        clear hb hk hgm
        refine wpAnyH_ready (rs := [13]) (by kernel_rfl) (by simp) ?_
        refine AllReadyH.cons rfl (fun K hK => ?_) (AllReadyH.nil)
        refine rw_store_wp 29 rfl rfl (cs' := #[.slice A9 (s.img.length + r.length) c9, .slice A1 l.length c1]) rfl [] HM12.out (by kernel_rfl) rfl (by show _ = _; simp [Value.oneCell']) ?_
        intro w13 hM hkp
        refine hK.out _ _ (HSS.out _ hM.below) (fun hHeld => ?_)
        (try simp only [Act.put, List.setIfInBounds_toArray, List.set_cons_zero, List.set_cons_succ])
        clear hK K
        have HM13 := Aside0.mk hM
        have HK13 := Aside0.mk (show Kept w9 w13 (fun k => k = b6) from ⟨Nat.le_trans HK12.out.1 hkp.1, fun k hk hn => (hkp.2 k (Nat.lt_of_lt_of_le hk HK12.out.1) hn).trans (HK12.out.2 k hk hn)⟩)
        replace HGK := Aside0.mk ((hkp.2 gk (blk_lt HGK.out) (fun e => by have := HGE.out; have := HL9.out; omega)).trans HGK.out)
        replace HGM := Aside0.mk ((hkp.2 gm (blk_lt HGM.out) (fun e => by have := HGE2.out; have := HL9.out; omega)).trans HGM.out)
        clear hM hkp
        refine take_dst (i := 14) (v := ?_) 7 rfl rfl (by kernel_rfl) (by kernel_rfl) (by kernel_rfl) (fun _ _ _ h => h) (Or.inl ⟨by rfl, ?_⟩) (by assumption) ?_
        rotate_left
        · intro w hSw
          obtain q1 := hSw
          go_simp
          try with_reducible rfl
        (try simp only [Act.put, List.setIfInBounds_toArray, List.set_cons_zero, List.set_cons_succ])
        refine take_dst (i := 15) (v := ?_) 8 rfl rfl (by kernel_rfl) (by kernel_rfl) (by kernel_rfl) (fun _ _ _ h => h) (Or.inl ⟨by rfl, ?_⟩) (by assumption) ?_
        rotate_left
        · intro w hSw
          obtain q1 := hSw
          go_simp
          try with_reducible rfl
        (try simp only [Act.put, List.setIfInBounds_toArray, List.set_cons_zero, List.set_cons_succ])
        refine wpAnyH_done (by kernel_rfl) ?_ _
        go_wp2_with fail
        unfold laidS
        rw [if_neg HCF.out]
        refine bodyPost_ret (results_ctt rfl _ _ b6 29 #[.slice A9 (s.img.length + r.length) c9, .slice A1 l.length c1] (0, 0) _ rfl (HM13.out.mem List.mem_cons_self) Try.underlying29 rfl (by kernel_rfl)) rfl ?_
        exact laid_end HL.out hc1 HM13.out HK13.out HL9.out HGK.out HGM.out HGE.out HGE2.out HR6.out HR9.out HZ9.out
      · refine rw_store_wp 29 rfl rfl (cs' := #[.slice A9 (s.img.length + r.length) c9, .slice A1 l.length c1]) rfl [] HM11.out (by kernel_rfl) rfl (by show _ = _; simp [Value.oneCell']) ?_
        intro w12 hM hkp
        refine hK.out _ _ (HSS.out _ hM.below) (fun hHeld => ?_)
        (try simp only [Act.put, List.setIfInBounds_toArray, List.set_cons_zero, List.set_cons_succ])
        clear hK K
        have HM12 := Aside0.mk hM
        have HK12 := Aside0.mk (show Kept w9 w12 (fun k => k = b6) from ⟨Nat.le_trans HK11.out.1 hkp.1, fun k hk hn => (hkp.2 k (Nat.lt_of_lt_of_le hk HK11.out.1) hn).trans (HK11.out.2 k hk hn)⟩)
        replace HGK := Aside0.mk ((hkp.2 gk (blk_lt HGK.out) (fun e => by have := HGE.out; have := HL9.out; omega)).trans HGK.out)
        clear hM hkp
        refine wpAnyH_ready (rs := [12]) (by kernel_rfl) (by simp) ?_
        refine AllReadyH.cons rfl (fun K hK => ?_) (AllReadyH.nil)
        go_simp
        have hb := below_alloc (Below.refl w12.heap.size w12) (.cells #[.int .i64 (s.img.length : Int), .slice A6 (r.length + 1) c6, .int .i64 (s.img.length : Int), .slice (some ⟨gk, 0, none⟩) 1 1] 52)
        have hk := blk_new w12 (.cells #[.int .i64 (s.img.length : Int), .slice A6 (r.length + 1) c6, .int .i64 (s.img.length : Int), .slice (some ⟨gk, 0, none⟩) 1 1] 52)
        refine hK.out _ _ (HSS.out _ (below_step HM12.out.below hb)) (fun hHeld => ?_)
        (try simp only [Act.put, List.setIfInBounds_toArray, List.set_cons_zero, List.set_cons_succ])
        clear hK K
        obtain ⟨gm, hgm⟩ : ∃ gm, gm = w12.heap.size := ⟨_, rfl⟩
        rw [← hgm] at hk ⊢
        generalize (w12.alloc (.cells #[.int .i64 (s.img.length : Int), .slice A6 (r.length + 1) c6, .int .i64 (s.img.length : Int), .slice (some ⟨gk, 0, none⟩) 1 1] 52)) = w13 at hb hk hHeld ⊢
        have HM13 := Aside0.mk (HM12.out.step hb)
        have HK13 := Aside0.mk (HK12.out.below hb)
        replace HGK := Aside0.mk (blk_below HGK.out hb)
        have HGM := Aside0.mk hk
        have HGE2 := Aside0.mk (show w9.heap.size ≤ gm by have := HK12.out.1; omega)
        clear hb hk hgm
        refine take_dst (i := 14) (v := ?_) 7 rfl rfl (by kernel_rfl) (by kernel_rfl) (by kernel_rfl) (fun _ _ _ h => h) (Or.inl ⟨by rfl, ?_⟩) (by assumption) ?_
        rotate_left
        · intro w hSw
          obtain q1 := hSw
          go_simp
          try with_reducible rfl
        (try simp only [Act.put, List.setIfInBounds_toArray, List.set_cons_zero, List.set_cons_succ])
        refine take_dst (i := 15) (v := ?_) 8 rfl rfl (by kernel_rfl) (by kernel_rfl) (by kernel_rfl) (fun _ _ _ h => h) (Or.inl ⟨by rfl, ?_⟩) (by assumption) ?_
        rotate_left
        · intro w hSw
          obtain q1 := hSw
          go_simp
          try with_reducible rfl
        (try simp only [Act.put, List.setIfInBounds_toArray, List.set_cons_zero, List.set_cons_succ])
        refine wpAnyH_done (by kernel_rfl) ?_ _
        go_wp2_with fail
        unfold laidS
        rw [if_neg HCF.out]
        refine bodyPost_ret (results_ctt rfl _ _ b6 29 #[.slice A9 (s.img.length + r.length) c9, .slice A1 l.length c1] (0, 0) _ rfl (HM13.out.mem List.mem_cons_self) Try.underlying29 rfl (by kernel_rfl)) rfl ?_
        exact laid_end HL.out hc1 HM13.out HK13.out HL9.out HGK.out HGM.out HGE.out HGE2.out HR6.out HR9.out HZ9.out
    · refine rw_store_wp 29 rfl rfl (cs' := #[.slice A9 (s.img.length + r.length) c9, .slice A1 l.length c1]) rfl [] HM10.out (by kernel_rfl) rfl (by show _ = _; simp [Value.oneCell']) ?_
      intro w11 hM hkp
      refine hK.out _ _ (HSS.out _ hM.below) (fun hHeld => ?_)
      (try simp only [Act.put, List.setIfInBounds_toArray, List.set_cons_zero, List.set_cons_succ])
      clear hK K
      have HM11 := Aside0.mk hM
      have HK11 := Aside0.mk (show Kept w9 w11 (fun k => k = b6) from ⟨Nat.le_trans HK10.out.1 hkp.1, fun k hk hn => (hkp.2 k (Nat.lt_of_lt_of_le hk HK10.out.1) hn).trans (HK10.out.2 k hk hn)⟩)
      clear hM hkp
      refine wpAnyH_ready (rs := [10]) (by kernel_rfl) (by simp) ?_
      refine AllReadyH.cons rfl (fun K hK => ?_) (AllReadyH.nil)
      go_simp
      have hb := below_alloc (Below.refl w11.heap.size w11) (.cells #[.int .u8 (rd r 0)] 5)
      have hk := blk_new w11 (.cells #[.int .u8 (rd r 0)] 5)
      refine hK.out _ _ (HSS.out _ (below_step HM11.out.below hb)) (fun hHeld => ?_)
      (try simp only [Act.put, List.setIfInBounds_toArray, List.set_cons_zero, List.set_cons_succ])
      clear hK K
      obtain ⟨gk, hgk⟩ : ∃ gk, gk = w11.heap.size := ⟨_, rfl⟩
      rw [← hgk] at hk ⊢
      generalize (w11.alloc (.cells #[.int .u8 (rd r 0)] 5)) = w12 at hb hk hHeld ⊢
      have HM12 := Aside0.mk (HM11.out.step hb)
      have HK12 := Aside0.mk (HK11.out.below hb)
      have HGK := Aside0.mk hk
      have HGE := Aside0.mk (show w9.heap.size ≤ gk by have := HK11.out.1; omega)
      clear hb hk hgk
      refine take_dst (i := 11) (v := ?_) 49 rfl rfl (by kernel_rfl) (by kernel_rfl) (by kernel_rfl) (fun _ _ _ h => h) (Or.inl ⟨by rfl, ?_⟩) (by assumption) ?_
      rotate_left
      · intro w hSw
        obtain q1 := hSw
        go_simp
        try with_reducible rfl
      (try simp only [Act.put, List.setIfInBounds_toArray, List.set_cons_zero, List.set_cons_succ])
      refine wpAnyH_ready (rs := [12]) (by kernel_rfl) (by simp) ?_
      refine AllReadyH.cons rfl (fun K hK => ?_) (AllReadyH.nil)
      go_simp
      have hb := below_alloc (Below.refl w12.heap.size w12) (.cells #[.int .i64 (s.img.length : Int), .slice A6 (r.length + 1) c6, .int .i64 (s.img.length : Int), .slice (some ⟨gk, 0, none⟩) 1 1] 52)
      have hk := blk_new w12 (.cells #[.int .i64 (s.img.length : Int), .slice A6 (r.length + 1) c6, .int .i64 (s.img.length : Int), .slice (some ⟨gk, 0, none⟩) 1 1] 52)
      refine hK.out _ _ (HSS.out _ (below_step HM12.out.below hb)) (fun hHeld => ?_)
      (try simp only [Act.put, List.setIfInBounds_toArray, List.set_cons_zero, List.set_cons_succ])
      clear hK K
      obtain ⟨gm, hgm⟩ : ∃ gm, gm = w12.heap.size := ⟨_, rfl⟩
      rw [← hgm] at hk ⊢
      generalize (w12.alloc (.cells #[.int .i64 (s.img.length : Int), .slice A6 (r.length + 1) c6, .int .i64 (s.img.length : Int), .slice (some ⟨gk, 0, none⟩) 1 1] 52)) = w13 at hb hk hHeld ⊢
      have HM13 := Aside0.mk (HM12.out.step hb)
      have HK13 := Aside0.mk (HK12.out.below hb)
      replace HGK := Aside0.mk (blk_below HGK.out hb)
      have HGM := Aside0.mk hk
      have HGE2 := Aside0.mk (show w9.heap.size ≤ gm by have := HK12.out.1; omega)
      clear hb hk hgm
      refine take_dst (i := 14) (v := ?_) 7 rfl rfl (by kernel_rfl) (by kernel_rfl) (by kernel_rfl) (fun _ _ _ h => h) (Or.inl ⟨by rfl, ?_⟩) (by assumption) ?_
      rotate_left
      · intro w hSw
        obtain q1 := hSw
        go_simp
        try with_reducible rfl
      (try simp only [Act.put, List.setIfInBounds_toArray, List.set_cons_zero, List.set_cons_succ])
      refine take_dst (i := 15) (v := ?_) 8 rfl rfl (by kernel_rfl) (by kernel_rfl) (by kernel_rfl) (fun _ _ _ h => h) (Or.inl ⟨by rfl, ?_⟩) (by assumption) ?_
      rotate_left
      · intro w hSw
        obtain q1 := hSw
        go_simp
        try with_reducible rfl
      (try simp only [Act.put, List.setIfInBounds_toArray, List.set_cons_zero, List.set_cons_succ])
      refine wpAnyH_done (by kernel_rfl) ?_ _
      go_wp2_with fail
      unfold laidS
      rw [if_neg HCF.out]
      refine bodyPost_ret (results_ctt rfl _ _ b6 29 #[.slice A9 (s.img.length + r.length) c9, .slice A1 l.length c1] (0, 0) _ rfl (HM13.out.mem List.mem_cons_self) Try.underlying29 rfl (by kernel_rfl)) rfl ?_
      exact laid_end HL.out hc1 HM13.out HK13.out HL9.out HGK.out HGM.out HGE.out HGE2.out HR6.out HR9.out HZ9.out
end
end Go.Proofs.Ytfakdphkklclgaa.P

end

section
namespace Go.Proofs.Ytfakdphkklclgaa.P
open Go.RowKit Go.Proofs.YtfakdphkklclgaaW.PrintWords Go.Proofs.YtfakdphkklclgaaW.PrintLast Go.Proofs.YtfakdphkklclgaaW.PrintMore
attribute [local go_sem] max2_int min2_int max_two min_two max_three min_three max_four min_four
set_option linter.unusedVariables false
set_option linter.unusedSimpArgs false
section
open Go.ChangeMaps Go.MapKept
set_option linter.unusedVariables false
theorem Rws.grownT {w0 W W1 : World} {l : List (Nat × TypeId × Array Value)} {base : Nat} {ok : Nat → Prop} {v : Value} {xs : List Int} (h : Rws w0 l W) (hR : Kd.R (Kd.int .u8) 5 W base ok v xs) (hg : W.grownBy W1 v.ownBlock) (ht : ∀ p ∈ l, p.2.1 ≠ 5) (hb : Below w0.heap.size w0 W1) : Rws w0 l W1 :=
  ⟨fun p hp => ⟨(hg.block _ (blk_lt (h.lies p hp).1) (fun e => by
    obtain ⟨cs, h7⟩ := Kd.R_typed hR p.1 e.symm
    exact typ_nst (h.lies p hp).1 h7 (ht p hp) rfl)).trans (h.lies p hp).1, (h.lies p hp).2⟩, h.ne, hb⟩
set_option maxHeartbeats 12800000 in
set_option maxRecDepth 100000 in
theorem Put_d {Z : Nat → Prop} {xv : Value} {s : Sto} {w : World} (KF : Nat) (nm : ByteArray → Bool) (hK : StFacts KF nm) (hg : Good nm s) (h : DAt Z xv s w) (x : ByteArray) (b : List Int) (A : Option Addr) (c : Nat) (hr : Kd.C (Kd.int .u8) w A b.length b) (hc : b.length ≤ c) : Calls Try.prog 13 #[xv, .string x, .slice A b.length c] w fun e w' => DPost Z w (putS nm s x b) e w' := by
  have HX := Aside0.mk h
  obtain ⟨A0, c0, B1, d1, rfl, g1, g2, g3, g4⟩ := h
  have HI := Aside0.mk (And.intro g1 (And.intro g2 (And.intro g3 g4)))
  have HK := Aside0.mk hK
  have HG := Aside0.mk hg
  have HN := Aside0.mk (hK.rd.rname x)
  clear g1 g2 g3 g4 hK hg
  have HC := Aside0.mk hr
  clear hr
  by_cases c1 : nm x = false
  · rw [c1] at HN
    unfold putS
    rw [if_pos c1]
    go_enter Try.func13, Try.ntmps13
    go_wp2_with (first | ((with_reducible refine gate_dst (N := 3) rfl ?_); refine rw_box rfl 29 rfl (cs := #[.slice A0 s.img.length c0, .slice B1 s.L.length d1]) rfl (Rws.nil w) ?_; intro b3 w1 hX; have HM := Aside0.mk hX; clear hX) | ((with_reducible refine gate_dst (N := 6) rfl ?_); refine rw_allocS rfl 29 rfl (cs := #[.slice none 0 0, .slice none 0 0]) (by kernel_rfl) HM.out ?_; intro b6 w2 hg6 hM hb6; have HM2 := Aside0.mk hM; clear hg6 hM hb6 HM))
    refine (provisoref01_IsName.calls KF x _ _ HN.out).mono ?_
    rintro e w3 ⟨rfl, k1, rfl⟩
    have HM3 := Aside0.mk (HM2.out.drewN k1)
    have hc0 := blk_cell (HM3.out.mem (List.mem_cons_of_mem _ List.mem_cons_self)) 0
    have hc1 := blk_cell (HM3.out.mem (List.mem_cons_of_mem _ List.mem_cons_self)) 1
    go_wp2_with (first | ((with_reducible refine gate_dst (N := 14) rfl ?_); refine rw_load rfl 29 rfl rfl HM3.out (List.mem_cons_of_mem _ List.mem_cons_self) _ Try.underlying29 rfl (by kernel_rfl) ?_) | (refine rw_storeS rfl 29 rfl rfl (cs' := #[.slice A0 s.img.length c0, .slice B1 s.L.length d1]) rfl [] HM3.out (by kernel_rfl) rfl (by show _ = _; simp [Value.oneCell']) ?_; intro w9 hM hk3; have HM9 := Aside0.mk hM; clear hM hk3))
    refine bodyPost_ret (results_ctt rfl _ _ b6 29 #[.slice A0 s.img.length c0, .slice B1 s.L.length d1] (0, 0) _ rfl (HM9.out.mem List.mem_cons_self) Try.underlying29 rfl (by kernel_rfl)) rfl ?_
    exact ⟨_, _, rfl, (DAt.mono (DAt.step HX.out HM9.out.below) (fun k q => .inl q)), DWr.nil _ _, HM9.out.below⟩
  · rw [Bool.not_eq_false] at c1
    rw [c1] at HN
    unfold putS
    rw [if_neg (by rw [c1]; decide)]
    by_cases c2 : 4096 < b.length
    · have c2b : decide ((4096 : Int) < (b.length : Int)) = true := decide_eq_true (by omega)
      rw [if_pos c2]
      go_enter Try.func13, Try.ntmps13
      go_wp2_with (first | ((with_reducible refine gate_dst (N := 3) rfl ?_); refine rw_box rfl 29 rfl (cs := #[.slice A0 s.img.length c0, .slice B1 s.L.length d1]) rfl (Rws.nil w) ?_; intro b3 w1 hX; have HM := Aside0.mk hX; clear hX) | ((with_reducible refine gate_dst (N := 6) rfl ?_); refine rw_allocS rfl 29 rfl (cs := #[.slice none 0 0, .slice none 0 0]) (by kernel_rfl) HM.out ?_; intro b6 w2 hg6 hM hb6; have HM2 := Aside0.mk hM; clear hg6 hM hb6 HM))
      refine (provisoref01_IsName.calls KF x _ _ HN.out).mono ?_
      rintro e w3 ⟨rfl, k1, rfl⟩
      have HM3 := Aside0.mk (HM2.out.drewN k1)
      have hc0 := blk_cell (HM3.out.mem (List.mem_cons_of_mem _ List.mem_cons_self)) 0
      have hc1 := blk_cell (HM3.out.mem (List.mem_cons_of_mem _ List.mem_cons_self)) 1
      go_wp2_with (first | ((with_reducible refine gate_dst (N := 18) rfl ?_); refine rw_load rfl 29 rfl rfl HM3.out (List.mem_cons_of_mem _ List.mem_cons_self) _ Try.underlying29 rfl (by kernel_rfl) ?_) | (refine rw_storeS rfl 29 rfl rfl (cs' := #[.slice A0 s.img.length c0, .slice B1 s.L.length d1]) rfl [] HM3.out (by kernel_rfl) rfl (by show _ = _; simp [Value.oneCell']) ?_; intro w9 hM hk3; have HM9 := Aside0.mk hM; clear hM hk3))
      refine bodyPost_ret (results_ctt rfl _ _ b6 29 #[.slice A0 s.img.length c0, .slice B1 s.L.length d1] (0, 0) _ rfl (HM9.out.mem List.mem_cons_self) Try.underlying29 rfl (by kernel_rfl)) rfl ?_
      exact ⟨_, _, rfl, (DAt.mono (DAt.step HX.out HM9.out.below) (fun k q => .inl q)), DWr.nil _ _, HM9.out.below⟩
    · have c2b : decide ((4096 : Int) < (b.length : Int)) = false := decide_eq_false (by omega)
      rw [if_neg c2]
      have hlen := HG.out.len
      by_cases c3 : lkL s.L x = none
      · have c3b : (lkL s.L x).isSome = false := by rw [c3]; rfl
        by_cases c4 : 16 ≤ s.L.length
        · have c4b : ((s.L.length : Int) == 16) = true := by rw [beq_iff_eq]; omega
          rw [if_pos ⟨c3, c4⟩]
          go_enter Try.func13, Try.ntmps13
          go_wp2_with (first | ((with_reducible refine gate_dst (N := 3) rfl ?_); refine rw_box rfl 29 rfl (cs := #[.slice A0 s.img.length c0, .slice B1 s.L.length d1]) rfl (Rws.nil w) ?_; intro b3 w1 hX; have HM := Aside0.mk hX; clear hX) | ((with_reducible refine gate_dst (N := 6) rfl ?_); refine rw_allocS rfl 29 rfl (cs := #[.slice none 0 0, .slice none 0 0]) (by kernel_rfl) HM.out ?_; intro b6 w2 hg6 hM hb6; have HM2 := Aside0.mk hM; clear hg6 hM hb6 HM))
          refine (provisoref01_IsName.calls KF x _ _ HN.out).mono ?_
          rintro e w3 ⟨rfl, k1, rfl⟩
          have HM3 := Aside0.mk (HM2.out.drewN k1)
          have hc0 := blk_cell (HM3.out.mem (List.mem_cons_of_mem _ List.mem_cons_self)) 0
          have hc1 := blk_cell (HM3.out.mem (List.mem_cons_of_mem _ List.mem_cons_self)) 1
          go_wp2_with fail
          refine (provisoref21_place.calls KF B1 d1 s.L x _ _ _ (Kd.F_now (Kd.F_below HI.out.2.2.2 HM3.out.below)) HI.out.2.1 (HK.out.place s.L x (by have := HG.out.len; omega) HG.out.srt)).mono ?_
          rintro e w4 ⟨rfl, k2, rfl⟩
          have HM4 := Aside0.mk (HM2.out.drewN (k1 + k2))
          clear hc0 hc1
          have hc0 := blk_cell (HM4.out.mem (List.mem_cons_of_mem _ List.mem_cons_self)) 0
          have hc1 := blk_cell (HM4.out.mem (List.mem_cons_of_mem _ List.mem_cons_self)) 1
          go_wp2_with (first | ((with_reducible refine gate_dst (N := 34) rfl ?_); refine rw_load rfl 29 rfl rfl HM4.out (List.mem_cons_of_mem _ List.mem_cons_self) _ Try.underlying29 rfl (by kernel_rfl) ?_) | (refine rw_storeS rfl 29 rfl rfl (cs' := #[.slice A0 s.img.length c0, .slice B1 s.L.length d1]) rfl [] HM4.out (by kernel_rfl) rfl (by show _ = _; simp [Value.oneCell']) ?_; intro w9 hM hk3; have HM9 := Aside0.mk hM; clear hM hk3))
          refine bodyPost_ret (results_ctt rfl _ _ b6 29 #[.slice A0 s.img.length c0, .slice B1 s.L.length d1] (0, 0) _ rfl (HM9.out.mem List.mem_cons_self) Try.underlying29 rfl (by kernel_rfl)) rfl ?_
          exact ⟨_, _, rfl, (DAt.mono (DAt.step HX.out HM9.out.below) (fun k q => .inl q)), DWr.nil _ _, HM9.out.below⟩
        · have c4b : ((s.L.length : Int) == 16) = false := beq_eq_false_iff_ne.mpr (by omega)
          rw [if_neg (fun q => c4 q.2)]
          go_enter Try.func13, Try.ntmps13
          go_wp2_with (first | ((with_reducible refine gate_dst (N := 3) rfl ?_); refine rw_box rfl 29 rfl (cs := #[.slice A0 s.img.length c0, .slice B1 s.L.length d1]) rfl (Rws.nil w) ?_; intro b3 w1 hX; have HM := Aside0.mk hX; clear hX) | ((with_reducible refine gate_dst (N := 6) rfl ?_); refine rw_allocS rfl 29 rfl (cs := #[.slice none 0 0, .slice none 0 0]) (by kernel_rfl) HM.out ?_; intro b6 w2 hg6 hM hb6; have HM2 := Aside0.mk hM; clear hg6 hM hb6 HM))
          refine (provisoref01_IsName.calls KF x _ _ HN.out).mono ?_
          rintro e w3 ⟨rfl, k1, rfl⟩
          have HM3 := Aside0.mk (HM2.out.drewN k1)
          have hc0 := blk_cell (HM3.out.mem (List.mem_cons_of_mem _ List.mem_cons_self)) 0
          have hc1 := blk_cell (HM3.out.mem (List.mem_cons_of_mem _ List.mem_cons_self)) 1
          go_wp2_with fail
          refine (provisoref21_place.calls KF B1 d1 s.L x _ _ _ (Kd.F_now (Kd.F_below HI.out.2.2.2 HM3.out.below)) HI.out.2.1 (HK.out.place s.L x (by have := HG.out.len; omega) HG.out.srt)).mono ?_
          rintro e w4 ⟨rfl, k2, rfl⟩
          have HM4 := Aside0.mk (HM2.out.drewN (k1 + k2))
          clear hc0 hc1
          have hc0 := blk_cell (HM4.out.mem (List.mem_cons_of_mem _ List.mem_cons_self)) 0
          have hc1 := blk_cell (HM4.out.mem (List.mem_cons_of_mem _ List.mem_cons_self)) 1
          go_wp2_with fail
          have HMD := Aside0.mk (HM4.out.drewN 1)
          (try simp only [Act.put, List.setIfInBounds_toArray, List.set_cons_zero, List.set_cons_succ])
          refine wp_region_held_drew (S := fun w' => Rws w [(b3, 29, #[.slice A0 s.img.length c0, .slice B1 s.L.length d1])] w') (by kernel_rfl) ?_ (fun hHeld => ?_)
          · exact HMD.out.tail
          have HM10 := Aside0.mk (show Rws w _ (World.drew _) from HMD.out)
          clear HMD hc0 hc1
          generalize World.drew _ = w10 at HM10 hHeld ⊢
          refine take_dst (i := 0) (v := .agg #[.slice A0 s.img.length c0, .slice B1 s.L.length d1]) 35 rfl rfl (by kernel_rfl) (by kernel_rfl) (by kernel_rfl) (fun _ _ _ h => h) (rw_yields (by rfl) 29 rfl rfl (fun _ h => h) List.mem_cons_self _ Try.underlying29 rfl (by kernel_rfl)) (by assumption) ?_
          (try simp only [Act.put, List.setIfInBounds_toArray, List.set_cons_zero, List.set_cons_succ])
          refine take_dst (i := 1) (v := ?_) 36 rfl rfl (by kernel_rfl) (by kernel_rfl) (by kernel_rfl) (fun _ _ _ h => h) (Or.inl ⟨by rfl, ?_⟩) (by assumption) ?_
          rotate_left
          · intro w hSw
            go_simp
            try with_reducible rfl
          (try simp only [Act.put, List.setIfInBounds_toArray, List.set_cons_zero, List.set_cons_succ])
          refine take_dst (i := 2) (v := ?_) 37 rfl rfl (by kernel_rfl) (by kernel_rfl) (by kernel_rfl) (fun _ _ _ h => h) (Or.inl ⟨by rfl, ?_⟩) (by assumption) ?_
          rotate_left
          · intro w hSw
            have q0 := blk_cell (hSw.mem List.mem_cons_self) 0
            have q1 := blk_cell (hSw.mem List.mem_cons_self) 1
            go_simp
            try with_reducible rfl
          (try simp only [Act.put, List.setIfInBounds_toArray, List.set_cons_zero, List.set_cons_succ])
          refine take_dst (i := 3) (v := ?_) 38 rfl rfl (by kernel_rfl) (by kernel_rfl) (by kernel_rfl) (fun _ _ _ h => h) (Or.inl ⟨by rfl, ?_⟩) (by assumption) ?_
          rotate_left
          · intro w hSw
            go_simp
            try with_reducible rfl
          (try simp only [Act.put, List.setIfInBounds_toArray, List.set_cons_zero, List.set_cons_succ])
          refine take_dst (i := 5) (v := ?_) 40 rfl rfl (by kernel_rfl) (by kernel_rfl) (by kernel_rfl) (fun _ _ _ h => h) (Or.inl ⟨by rfl, ?_⟩) (by assumption) ?_
          rotate_left
          · intro w hSw
            go_simp
            try with_reducible rfl
          (try simp only [Act.put, List.setIfInBounds_toArray, List.set_cons_zero, List.set_cons_succ])
          refine take_dst (i := 8) (v := ?_) 43 rfl rfl (by kernel_rfl) (by kernel_rfl) (by kernel_rfl) (fun _ _ _ h => h) (Or.inl ⟨by rfl, ?_⟩) (by assumption) ?_
          rotate_left
          · intro w hSw
            go_simp
            try with_reducible rfl
          (try simp only [Act.put, List.setIfInBounds_toArray, List.set_cons_zero, List.set_cons_succ])
          refine take_dst (i := 9) (v := ?_) 44 rfl rfl (by kernel_rfl) (by kernel_rfl) (by kernel_rfl) (fun _ _ _ h => h) (Or.inl ⟨by rfl, ?_⟩) (by assumption) ?_
          rotate_left
          · intro w hSw
            go_simp
            try with_reducible rfl
          (try simp only [Act.put, List.setIfInBounds_toArray, List.set_cons_zero, List.set_cons_succ])
          refine wpAnyH_ready (rs := [4]) (by kernel_rfl) (by simp) ?_
          refine AllReadyH.cons rfl (fun K hK => ?_) (AllReadyH.nil)
          go_simp
          have hb := below_alloc (Below.refl w10.heap.size w10) (.cells #[] 5)
          have ho := nil_own w10 w10.heap.size (Nat.le_refl _)
          have HM11 := Aside0.mk (HM10.out.step hb)
          refine hK.out _ _ (HM10.out.step hb).tail (fun hHeld => ?_)
          (try simp only [Act.put, List.setIfInBounds_toArray, List.set_cons_zero, List.set_cons_succ])
          clear hK K
          obtain ⟨gk, hgk⟩ : ∃ gk, gk = w10.heap.size := ⟨_, rfl⟩
          rw [← hgk] at ho ⊢
          generalize (w10.alloc (.cells #[] 5)) = w11 at hb ho HM11 hHeld ⊢
          have HO := Aside0.mk ho
          have HB11 := Aside0.mk hb
          have HZK := Aside0.mk (show w.heap.size ≤ gk by have := HM10.out.below.size; omega)
          have HL6 := Aside0.mk (show w.heap.size ≤ b6 ∧ b6 < gk from ⟨(HM10.out.lies _ List.mem_cons_self).2, by have := blk_lt (HM10.out.mem List.mem_cons_self); omega⟩)
          have hgl : gk ≤ w11.heap.size := by have := hb.size; omega
          clear hb ho hgk
          refine wpAnyH_ready (rs := [6]) (by kernel_rfl) (by simp) ?_
          refine AllReadyH.cons rfl (fun K hK => ?_) (AllReadyH.nil)
          refine Kd.R_append_rows_step (Kd.int .u8) (w0 := w11) gk rfl (.tmp 39) (.tmp 40) 23 5 (.int .u8 0) 1 rfl Try.underlying23 info5 rfl (by decide) (by omega) (.slice (some ⟨gk, 0, none⟩) 0 0) ([] : List Int) b A b.length c (fun _ => True) (fun _ => False) rfl rfl HO.out (Kd.C_below HC.out HM11.out.below) (fun _ _ h => h) (fun _ h => h.elim) (fun _ _ => trivial) (Below.refl _ _) hgl (by simp; omega) ?_
          intro v12 w12 ho hb hg hat
          have HM12 := Aside0.mk (HM11.out.grownT HO.out hg (by intro p hp; rcases List.mem_cons.1 hp with rfl | hp; exact (show 29 ≠ 5 by decide); rw [List.mem_singleton.1 hp]; exact (show 29 ≠ 5 by decide)) (HM11.out.below.trans (hb.mono HZK.out)))
          obtain ⟨A12, c12, e12⟩ := Kd.R_slice ho
          rw [List.nil_append] at e12 ho
          subst e12
          have HO2 := Aside0.mk ho
          have HG12 := Aside0.mk (show gk ≤ w12.heap.size from Nat.le_trans hgl hb.size)
          have HB12 := Aside0.mk hb
          clear ho hb hg hat
          go_simp
          refine hK.out _ _ HM12.out.tail (fun hHeld => ?_)
          (try simp only [Act.put, List.setIfInBounds_toArray, List.set_cons_zero, List.set_cons_succ])
          clear hK K
          refine wpAnyH_ready (rs := [7]) (by kernel_rfl) (by simp) ?_
          refine AllReadyH.cons rfl (fun K hK => ?_) (AllReadyH.nil)
          go_simp
          refine (provisoref21_with.calls KF (fun k => Z k ∧ k < w.heap.size) B1 d1 s.L x (fun k => gk ≤ k) A12 c12 b (putL x b s.L) w12 (Kd.V_mk HI.out.2.1 (Kd.F_below (Kd.F_bound HI.out.2.2.2) HM12.out.below)) (Kd.V_mono (Kd.R_V (Kd.R_bound HO2.out)) (fun k q => q.2.1)) (HK.out.with_ s.L x b (by have := HG.out.len; omega) HG.out.srt)).mono ?_
          rintro e w13 ⟨v13, rfl, hN, hb⟩
          have hV := Kd.N_V (base' := 0) hN
          obtain ⟨A13, c13, e13⟩ := Kd.V_slice hV
          subst e13
          have HV := Aside0.mk (Kd.V_at hV).2
          have HM13 := Aside0.mk (HM12.out.step hb)
          have HS13 := Aside0.mk hb.size
          clear hN hb hV
          go_simp
          refine hK.out _ _ HM13.out.tail (fun hHeld => ?_)
          (try simp only [Act.put, List.setIfInBounds_toArray, List.set_cons_zero, List.set_cons_succ])
          clear hK K
          refine wpAnyH_ready (rs := [10]) (by kernel_rfl) (by simp) ?_
          refine AllReadyH.cons rfl (fun K hK => ?_) (AllReadyH.nil)
          go_simp
          refine (record_d 1 (.inl rfl) x (HK.out.siz x c1).2 b (by omega) A c w13 (Kd.C_below HC.out HM13.out.below)).mono ?_
          rintro e w14 ⟨v14, rfl, hR, hb⟩
          obtain ⟨A14, c14, e14⟩ := Kd.R_slice hR
          subst e14
          have HR14 := Aside0.mk hR
          have HM14 := Aside0.mk (HM13.out.step hb)
          have HS14 := Aside0.mk hb.size
          replace HV := Aside0.mk (And.intro HV.out.1 (Kd.F_below HV.out.2 hb))
          clear hR hb
          go_simp
          refine hK.out _ _ HM14.out.tail (fun hHeld => ?_)
          (try simp only [Act.put, List.setIfInBounds_toArray, List.set_cons_zero, List.set_cons_succ])
          clear hK K
          refine wpAnyH_ready (rs := [11]) (by kernel_rfl) (by simp) ?_
          refine AllReadyH.cons rfl (fun K hK => ?_) (AllReadyH.nil)
          go_simp
          have hrl : (recB 1 x b).length = x.size + 4 + b.length := by unfold recB; simp [bytes_len]; omega
          have hxs := HK.out.siz x c1
          refine (laid_d (Z := fun k => (Z k ∧ k < w.heap.size) ∨ gk ≤ k) (DAt.mono (DAt.step HX.out.bound HM14.out.below) (fun k q => .inl q)) HG.out.img (putL x b s.L) A13 c13 (Kd.F_mono HV.out.2 (fun k q => ?hz)) HV.out.1 (recB 1 x b) A14 c14 (Kd.R_reads' HR14.out).2.2 (Kd.R_reads' HR14.out).2.1 (by omega) (by omega)).mono ?_
          case hz =>
            rcases q with (q | q) | q
            · exact .inl q
            · exact .inr q
            · exact .inr (Nat.le_trans HG12.out q)
          rintro e w15 ⟨y, m, rfl, hy, hm, hb⟩
          have HY := Aside0.mk hy
          have HW := Aside0.mk hm
          have HB15 := Aside0.mk hb
          have HM15 := Aside0.mk (HM14.out.step hb)
          have HZ14 := Aside0.mk (show gk ≤ w14.heap.size from Nat.le_trans HG12.out (Nat.le_trans HS13.out HS14.out))
          obtain ⟨A15, c15, A16, c16, e15, _⟩ := hy
          subst e15
          clear hm hb hrl hxs
          go_simp
          refine hK.out _ _ HM15.out.tail (fun hHeld => ?_)
          (try simp only [Act.put, List.setIfInBounds_toArray, List.set_cons_zero, List.set_cons_succ])
          clear hK K
          refine take_dst (i := 12) (v := ?_) 47 rfl rfl (by kernel_rfl) (by kernel_rfl) (by kernel_rfl) (fun _ _ _ h => h) (Or.inl ⟨by rfl, ?_⟩) (by assumption) ?_
          rotate_left
          · intro w hSw
            go_simp
            try with_reducible rfl
          (try simp only [Act.put, List.setIfInBounds_toArray, List.set_cons_zero, List.set_cons_succ])
          refine take_dst (i := 13) (v := ?_) 48 rfl rfl (by kernel_rfl) (by kernel_rfl) (by kernel_rfl) (fun _ _ _ h => h) (Or.inl ⟨by rfl, ?_⟩) (by assumption) ?_
          rotate_left
          · intro w hSw
            go_simp
            try with_reducible rfl
          (try simp only [Act.put, List.setIfInBounds_toArray, List.set_cons_zero, List.set_cons_succ])
          refine take_dst (i := 14) (v := ?_) 49 rfl rfl (by kernel_rfl) (by kernel_rfl) (by kernel_rfl) (fun _ _ _ h => h) (Or.inl ⟨by rfl, ?_⟩) (by assumption) ?_
          rotate_left
          · intro w hSw
            go_simp
            try with_reducible rfl
          (try simp only [Act.put, List.setIfInBounds_toArray, List.set_cons_zero, List.set_cons_succ])
          refine wpAnyH_ready (rs := [15]) (by kernel_rfl) (by simp) ?_
          refine AllReadyH.cons rfl (fun K hK => ?_) (AllReadyH.nil)
          refine rw_store_wp 29 rfl rfl (cs' := #[.slice A15 (laidS s (putL x b s.L) (recB 1 x b)).1.img.length c15, .slice A16 (laidS s (putL x b s.L) (recB 1 x b)).1.L.length c16]) rfl [] HM15.out (by kernel_rfl) rfl (by show _ = _; simp [Value.oneCell']) ?_
          intro w16 hM hkp
          refine hK.out _ _ hM.tail (fun hHeld => ?_)
          (try simp only [Act.put, List.setIfInBounds_toArray, List.set_cons_zero, List.set_cons_succ])
          clear hK K
          have HM16 := Aside0.mk hM
          have HKP := Aside0.mk hkp
          clear hM hkp
          refine take_dst (i := 16) (v := ?_) 7 rfl rfl (by kernel_rfl) (by kernel_rfl) (by kernel_rfl) (fun _ _ _ h => h) (Or.inl ⟨by rfl, ?_⟩) (by assumption) ?_
          rotate_left
          · intro w hSw
            go_simp
            try with_reducible rfl
          (try simp only [Act.put, List.setIfInBounds_toArray, List.set_cons_zero, List.set_cons_succ])
          refine take_dst (i := 17) (v := ?_) 8 rfl rfl (by kernel_rfl) (by kernel_rfl) (by kernel_rfl) (fun _ _ _ h => h) (Or.inl ⟨by rfl, ?_⟩) (by assumption) ?_
          rotate_left
          · intro w hSw
            go_simp
            try with_reducible rfl
          (try simp only [Act.put, List.setIfInBounds_toArray, List.set_cons_zero, List.set_cons_succ])
          refine wpAnyH_done (by kernel_rfl) ?_ _
          go_wp2_with fail
          refine bodyPost_ret (results_ctt rfl _ _ b6 29 #[.slice A15 (laidS s (putL x b s.L) (recB 1 x b)).1.img.length c15, .slice A16 (laidS s (putL x b s.L) (recB 1 x b)).1.L.length c16] (0, 0) _ rfl (HM16.out.mem List.mem_cons_self) Try.underlying29 rfl (by kernel_rfl)) rfl ?_
          have hs15 : w14.heap.size ≤ w15.heap.size := HB15.out.size
          have hs16 : w15.heap.size ≤ w16.heap.size := HKP.out.1
          have hl6 := HL6.out
          have hzk := HZK.out
          have hz14 := HZ14.out
          refine ⟨_, _, rfl, (HY.out.bound.kept HKP.out (fun k q e => ?_)).mono (fun k q => ?_), (HW.out.kept HKP.out (fun k q e => ?_)).mono (fun k q => ⟨by omega, by omega⟩), HM16.out.below⟩
          · subst e
            rcases q.1 with (q1 | q1) | q1
            · omega
            · omega
            · omega
          · have q2 : k < w15.heap.size := q.2
            rcases q.1 with (q1 | q1) | q1
            · exact .inl q1.1
            · exact .inr ⟨by omega, by omega⟩
            · exact .inr ⟨by omega, by omega⟩
          · omega
      · have c3b : (lkL s.L x).isSome = true := by
          cases hq : lkL s.L x with
          | none => exact absurd hq c3
          | some y => rfl
        rw [if_neg (fun q => c3 q.1)]
        go_enter Try.func13, Try.ntmps13
        go_wp2_with (first | ((with_reducible refine gate_dst (N := 3) rfl ?_); refine rw_box rfl 29 rfl (cs := #[.slice A0 s.img.length c0, .slice B1 s.L.length d1]) rfl (Rws.nil w) ?_; intro b3 w1 hX; have HM := Aside0.mk hX; clear hX) | ((with_reducible refine gate_dst (N := 6) rfl ?_); refine rw_allocS rfl 29 rfl (cs := #[.slice none 0 0, .slice none 0 0]) (by kernel_rfl) HM.out ?_; intro b6 w2 hg6 hM hb6; have HM2 := Aside0.mk hM; clear hg6 hM hb6 HM))
        refine (provisoref01_IsName.calls KF x _ _ HN.out).mono ?_
        rintro e w3 ⟨rfl, k1, rfl⟩
        have HM3 := Aside0.mk (HM2.out.drewN k1)
        have hc0 := blk_cell (HM3.out.mem (List.mem_cons_of_mem _ List.mem_cons_self)) 0
        have hc1 := blk_cell (HM3.out.mem (List.mem_cons_of_mem _ List.mem_cons_self)) 1
        go_wp2_with fail
        refine (provisoref21_place.calls KF B1 d1 s.L x _ _ _ (Kd.F_now (Kd.F_below HI.out.2.2.2 HM3.out.below)) HI.out.2.1 (HK.out.place s.L x (by have := HG.out.len; omega) HG.out.srt)).mono ?_
        rintro e w4 ⟨rfl, k2, rfl⟩
        have HM4 := Aside0.mk (HM2.out.drewN (k1 + k2))
        clear hc0 hc1
        have hc0 := blk_cell (HM4.out.mem (List.mem_cons_of_mem _ List.mem_cons_self)) 0
        have hc1 := blk_cell (HM4.out.mem (List.mem_cons_of_mem _ List.mem_cons_self)) 1
        go_wp2_with fail
        have HMD := Aside0.mk (HM4.out.drewN 1)
        (try simp only [Act.put, List.setIfInBounds_toArray, List.set_cons_zero, List.set_cons_succ])
        refine wp_region_held_drew (S := fun w' => Rws w [(b3, 29, #[.slice A0 s.img.length c0, .slice B1 s.L.length d1])] w') (by kernel_rfl) ?_ (fun hHeld => ?_)
        · exact HMD.out.tail
        have HM10 := Aside0.mk (show Rws w _ (World.drew _) from HMD.out)
        clear HMD hc0 hc1
        generalize World.drew _ = w10 at HM10 hHeld ⊢
        refine take_dst (i := 0) (v := .agg #[.slice A0 s.img.length c0, .slice B1 s.L.length d1]) 35 rfl rfl (by kernel_rfl) (by kernel_rfl) (by kernel_rfl) (fun _ _ _ h => h) (rw_yields (by rfl) 29 rfl rfl (fun _ h => h) List.mem_cons_self _ Try.underlying29 rfl (by kernel_rfl)) (by assumption) ?_
        (try simp only [Act.put, List.setIfInBounds_toArray, List.set_cons_zero, List.set_cons_succ])
        refine take_dst (i := 1) (v := ?_) 36 rfl rfl (by kernel_rfl) (by kernel_rfl) (by kernel_rfl) (fun _ _ _ h => h) (Or.inl ⟨by rfl, ?_⟩) (by assumption) ?_
        rotate_left
        · intro w hSw
          go_simp
          try with_reducible rfl
        (try simp only [Act.put, List.setIfInBounds_toArray, List.set_cons_zero, List.set_cons_succ])
        refine take_dst (i := 2) (v := ?_) 37 rfl rfl (by kernel_rfl) (by kernel_rfl) (by kernel_rfl) (fun _ _ _ h => h) (Or.inl ⟨by rfl, ?_⟩) (by assumption) ?_
        rotate_left
        · intro w hSw
          have q0 := blk_cell (hSw.mem List.mem_cons_self) 0
          have q1 := blk_cell (hSw.mem List.mem_cons_self) 1
          go_simp
          try with_reducible rfl
        (try simp only [Act.put, List.setIfInBounds_toArray, List.set_cons_zero, List.set_cons_succ])
        refine take_dst (i := 3) (v := ?_) 38 rfl rfl (by kernel_rfl) (by kernel_rfl) (by kernel_rfl) (fun _ _ _ h => h) (Or.inl ⟨by rfl, ?_⟩) (by assumption) ?_
        rotate_left
        · intro w hSw
          go_simp
          try with_reducible rfl
        (try simp only [Act.put, List.setIfInBounds_toArray, List.set_cons_zero, List.set_cons_succ])
        refine take_dst (i := 5) (v := ?_) 40 rfl rfl (by kernel_rfl) (by kernel_rfl) (by kernel_rfl) (fun _ _ _ h => h) (Or.inl ⟨by rfl, ?_⟩) (by assumption) ?_
        rotate_left
        · intro w hSw
          go_simp
          try with_reducible rfl
        (try simp only [Act.put, List.setIfInBounds_toArray, List.set_cons_zero, List.set_cons_succ])
        refine take_dst (i := 8) (v := ?_) 43 rfl rfl (by kernel_rfl) (by kernel_rfl) (by kernel_rfl) (fun _ _ _ h => h) (Or.inl ⟨by rfl, ?_⟩) (by assumption) ?_
        rotate_left
        · intro w hSw
          go_simp
          try with_reducible rfl
        (try simp only [Act.put, List.setIfInBounds_toArray, List.set_cons_zero, List.set_cons_succ])
        refine take_dst (i := 9) (v := ?_) 44 rfl rfl (by kernel_rfl) (by kernel_rfl) (by kernel_rfl) (fun _ _ _ h => h) (Or.inl ⟨by rfl, ?_⟩) (by assumption) ?_
        rotate_left
        · intro w hSw
          go_simp
          try with_reducible rfl
        (try simp only [Act.put, List.setIfInBounds_toArray, List.set_cons_zero, List.set_cons_succ])
        refine wpAnyH_ready (rs := [4]) (by kernel_rfl) (by simp) ?_
        refine AllReadyH.cons rfl (fun K hK => ?_) (AllReadyH.nil)
        go_simp
        have hb := below_alloc (Below.refl w10.heap.size w10) (.cells #[] 5)
        have ho := nil_own w10 w10.heap.size (Nat.le_refl _)
        have HM11 := Aside0.mk (HM10.out.step hb)
        refine hK.out _ _ (HM10.out.step hb).tail (fun hHeld => ?_)
        (try simp only [Act.put, List.setIfInBounds_toArray, List.set_cons_zero, List.set_cons_succ])
        clear hK K
        obtain ⟨gk, hgk⟩ : ∃ gk, gk = w10.heap.size := ⟨_, rfl⟩
        rw [← hgk] at ho ⊢
        generalize (w10.alloc (.cells #[] 5)) = w11 at hb ho HM11 hHeld ⊢
        have HO := Aside0.mk ho
        have HB11 := Aside0.mk hb
        have HZK := Aside0.mk (show w.heap.size ≤ gk by have := HM10.out.below.size; omega)
        have HL6 := Aside0.mk (show w.heap.size ≤ b6 ∧ b6 < gk from ⟨(HM10.out.lies _ List.mem_cons_self).2, by have := blk_lt (HM10.out.mem List.mem_cons_self); omega⟩)
        have hgl : gk ≤ w11.heap.size := by have := hb.size; omega
        clear hb ho hgk
        refine wpAnyH_ready (rs := [6]) (by kernel_rfl) (by simp) ?_
        refine AllReadyH.cons rfl (fun K hK => ?_) (AllReadyH.nil)
        refine Kd.R_append_rows_step (Kd.int .u8) (w0 := w11) gk rfl (.tmp 39) (.tmp 40) 23 5 (.int .u8 0) 1 rfl Try.underlying23 info5 rfl (by decide) (by omega) (.slice (some ⟨gk, 0, none⟩) 0 0) ([] : List Int) b A b.length c (fun _ => True) (fun _ => False) rfl rfl HO.out (Kd.C_below HC.out HM11.out.below) (fun _ _ h => h) (fun _ h => h.elim) (fun _ _ => trivial) (Below.refl _ _) hgl (by simp; omega) ?_
        intro v12 w12 ho hb hg hat
        have HM12 := Aside0.mk (HM11.out.grownT HO.out hg (by intro p hp; rcases List.mem_cons.1 hp with rfl | hp; exact (show 29 ≠ 5 by decide); rw [List.mem_singleton.1 hp]; exact (show 29 ≠ 5 by decide)) (HM11.out.below.trans (hb.mono HZK.out)))
        obtain ⟨A12, c12, e12⟩ := Kd.R_slice ho
        rw [List.nil_append] at e12 ho
        subst e12
        have HO2 := Aside0.mk ho
        have HG12 := Aside0.mk (show gk ≤ w12.heap.size from Nat.le_trans hgl hb.size)
        have HB12 := Aside0.mk hb
        clear ho hb hg hat
        go_simp
        refine hK.out _ _ HM12.out.tail (fun hHeld => ?_)
        (try simp only [Act.put, List.setIfInBounds_toArray, List.set_cons_zero, List.set_cons_succ])
        clear hK K
        refine wpAnyH_ready (rs := [7]) (by kernel_rfl) (by simp) ?_
        refine AllReadyH.cons rfl (fun K hK => ?_) (AllReadyH.nil)
        go_simp
        refine (provisoref21_with.calls KF (fun k => Z k ∧ k < w.heap.size) B1 d1 s.L x (fun k => gk ≤ k) A12 c12 b (putL x b s.L) w12 (Kd.V_mk HI.out.2.1 (Kd.F_below (Kd.F_bound HI.out.2.2.2) HM12.out.below)) (Kd.V_mono (Kd.R_V (Kd.R_bound HO2.out)) (fun k q => q.2.1)) (HK.out.with_ s.L x b (by have := HG.out.len; omega) HG.out.srt)).mono ?_
        rintro e w13 ⟨v13, rfl, hN, hb⟩
        have hV := Kd.N_V (base' := 0) hN
        obtain ⟨A13, c13, e13⟩ := Kd.V_slice hV
        subst e13
        have HV := Aside0.mk (Kd.V_at hV).2
        have HM13 := Aside0.mk (HM12.out.step hb)
        have HS13 := Aside0.mk hb.size
        clear hN hb hV
        go_simp
        refine hK.out _ _ HM13.out.tail (fun hHeld => ?_)
        (try simp only [Act.put, List.setIfInBounds_toArray, List.set_cons_zero, List.set_cons_succ])
        clear hK K
        refine wpAnyH_ready (rs := [10]) (by kernel_rfl) (by simp) ?_
        refine AllReadyH.cons rfl (fun K hK => ?_) (AllReadyH.nil)
        go_simp
        refine (record_d 1 (.inl rfl) x (HK.out.siz x c1).2 b (by omega) A c w13 (Kd.C_below HC.out HM13.out.below)).mono ?_
        rintro e w14 ⟨v14, rfl, hR, hb⟩
        obtain ⟨A14, c14, e14⟩ := Kd.R_slice hR
        subst e14
        have HR14 := Aside0.mk hR
        have HM14 := Aside0.mk (HM13.out.step hb)
        have HS14 := Aside0.mk hb.size
        replace HV := Aside0.mk (And.intro HV.out.1 (Kd.F_below HV.out.2 hb))
        clear hR hb
        go_simp
        refine hK.out _ _ HM14.out.tail (fun hHeld => ?_)
        (try simp only [Act.put, List.setIfInBounds_toArray, List.set_cons_zero, List.set_cons_succ])
        clear hK K
        refine wpAnyH_ready (rs := [11]) (by kernel_rfl) (by simp) ?_
        refine AllReadyH.cons rfl (fun K hK => ?_) (AllReadyH.nil)
        go_simp
        have hrl : (recB 1 x b).length = x.size + 4 + b.length := by unfold recB; simp [bytes_len]; omega
        have hxs := HK.out.siz x c1
        refine (laid_d (Z := fun k => (Z k ∧ k < w.heap.size) ∨ gk ≤ k) (DAt.mono (DAt.step HX.out.bound HM14.out.below) (fun k q => .inl q)) HG.out.img (putL x b s.L) A13 c13 (Kd.F_mono HV.out.2 (fun k q => ?hz)) HV.out.1 (recB 1 x b) A14 c14 (Kd.R_reads' HR14.out).2.2 (Kd.R_reads' HR14.out).2.1 (by omega) (by omega)).mono ?_
        case hz =>
          rcases q with (q | q) | q
          · exact .inl q
          · exact .inr q
          · exact .inr (Nat.le_trans HG12.out q)
        rintro e w15 ⟨y, m, rfl, hy, hm, hb⟩
        have HY := Aside0.mk hy
        have HW := Aside0.mk hm
        have HB15 := Aside0.mk hb
        have HM15 := Aside0.mk (HM14.out.step hb)
        have HZ14 := Aside0.mk (show gk ≤ w14.heap.size from Nat.le_trans HG12.out (Nat.le_trans HS13.out HS14.out))
        obtain ⟨A15, c15, A16, c16, e15, _⟩ := hy
        subst e15
        clear hm hb hrl hxs
        go_simp
        refine hK.out _ _ HM15.out.tail (fun hHeld => ?_)
        (try simp only [Act.put, List.setIfInBounds_toArray, List.set_cons_zero, List.set_cons_succ])
        clear hK K
        refine take_dst (i := 12) (v := ?_) 47 rfl rfl (by kernel_rfl) (by kernel_rfl) (by kernel_rfl) (fun _ _ _ h => h) (Or.inl ⟨by rfl, ?_⟩) (by assumption) ?_
        rotate_left
        · intro w hSw
          go_simp
          try with_reducible rfl
        (try simp only [Act.put, List.setIfInBounds_toArray, List.set_cons_zero, List.set_cons_succ])
        refine take_dst (i := 13) (v := ?_) 48 rfl rfl (by kernel_rfl) (by kernel_rfl) (by kernel_rfl) (fun _ _ _ h => h) (Or.inl ⟨by rfl, ?_⟩) (by assumption) ?_
        rotate_left
        · intro w hSw
          go_simp
          try with_reducible rfl
        (try simp only [Act.put, List.setIfInBounds_toArray, List.set_cons_zero, List.set_cons_succ])
        refine take_dst (i := 14) (v := ?_) 49 rfl rfl (by kernel_rfl) (by kernel_rfl) (by kernel_rfl) (fun _ _ _ h => h) (Or.inl ⟨by rfl, ?_⟩) (by assumption) ?_
        rotate_left
        · intro w hSw
          go_simp
          try with_reducible rfl
        (try simp only [Act.put, List.setIfInBounds_toArray, List.set_cons_zero, List.set_cons_succ])
        refine wpAnyH_ready (rs := [15]) (by kernel_rfl) (by simp) ?_
        refine AllReadyH.cons rfl (fun K hK => ?_) (AllReadyH.nil)
        refine rw_store_wp 29 rfl rfl (cs' := #[.slice A15 (laidS s (putL x b s.L) (recB 1 x b)).1.img.length c15, .slice A16 (laidS s (putL x b s.L) (recB 1 x b)).1.L.length c16]) rfl [] HM15.out (by kernel_rfl) rfl (by show _ = _; simp [Value.oneCell']) ?_
        intro w16 hM hkp
        refine hK.out _ _ hM.tail (fun hHeld => ?_)
        (try simp only [Act.put, List.setIfInBounds_toArray, List.set_cons_zero, List.set_cons_succ])
        clear hK K
        have HM16 := Aside0.mk hM
        have HKP := Aside0.mk hkp
        clear hM hkp
        refine take_dst (i := 16) (v := ?_) 7 rfl rfl (by kernel_rfl) (by kernel_rfl) (by kernel_rfl) (fun _ _ _ h => h) (Or.inl ⟨by rfl, ?_⟩) (by assumption) ?_
        rotate_left
        · intro w hSw
          go_simp
          try with_reducible rfl
        (try simp only [Act.put, List.setIfInBounds_toArray, List.set_cons_zero, List.set_cons_succ])
        refine take_dst (i := 17) (v := ?_) 8 rfl rfl (by kernel_rfl) (by kernel_rfl) (by kernel_rfl) (fun _ _ _ h => h) (Or.inl ⟨by rfl, ?_⟩) (by assumption) ?_
        rotate_left
        · intro w hSw
          go_simp
          try with_reducible rfl
        (try simp only [Act.put, List.setIfInBounds_toArray, List.set_cons_zero, List.set_cons_succ])
        refine wpAnyH_done (by kernel_rfl) ?_ _
        go_wp2_with fail
        refine bodyPost_ret (results_ctt rfl _ _ b6 29 #[.slice A15 (laidS s (putL x b s.L) (recB 1 x b)).1.img.length c15, .slice A16 (laidS s (putL x b s.L) (recB 1 x b)).1.L.length c16] (0, 0) _ rfl (HM16.out.mem List.mem_cons_self) Try.underlying29 rfl (by kernel_rfl)) rfl ?_
        have hs15 : w14.heap.size ≤ w15.heap.size := HB15.out.size
        have hs16 : w15.heap.size ≤ w16.heap.size := HKP.out.1
        have hl6 := HL6.out
        have hzk := HZK.out
        have hz14 := HZ14.out
        refine ⟨_, _, rfl, (HY.out.bound.kept HKP.out (fun k q e => ?_)).mono (fun k q => ?_), (HW.out.kept HKP.out (fun k q e => ?_)).mono (fun k q => ⟨by omega, by omega⟩), HM16.out.below⟩
        · subst e
          rcases q.1 with (q1 | q1) | q1
          · omega
          · omega
          · omega
        · have q2 : k < w15.heap.size := q.2
          rcases q.1 with (q1 | q1) | q1
          · exact .inl q1.1
          · exact .inr ⟨by omega, by omega⟩
          · exact .inr ⟨by omega, by omega⟩
        · omega
end
end Go.Proofs.Ytfakdphkklclgaa.P

end

section
namespace Go.Proofs.Ytfakdphkklclgaa.P
open Go.RowKit Go.Proofs.YtfakdphkklclgaaW.PrintWords Go.Proofs.YtfakdphkklclgaaW.PrintLast Go.Proofs.YtfakdphkklclgaaW.PrintMore
attribute [local go_sem] max2_int min2_int max_two min_two max_three min_three max_four min_four
set_option linter.unusedVariables false
set_option linter.unusedSimpArgs false
section
open Go.ChangeMaps Go.MapKept
set_option linter.unusedVariables false
theorem Rws.first {w0 W : World} {p : Nat × TypeId × Array Value} {l : List (Nat × TypeId × Array Value)} (h : Rws w0 (p :: l) W) : Rws w0 [p] W := ⟨fun q hq => h.lies q (by rw [List.mem_singleton.1 hq]; exact List.mem_cons_self), by simp, h.below⟩
end
end Go.Proofs.Ytfakdphkklclgaa.P

end

section
namespace Go.Proofs.Ytfakdphkklclgaa.P
open Go.RowKit Go.Proofs.YtfakdphkklclgaaW.PrintWords Go.Proofs.YtfakdphkklclgaaW.PrintLast Go.Proofs.YtfakdphkklclgaaW.PrintMore
attribute [local go_sem] max2_int min2_int max_two min_two max_three min_three max_four min_four
set_option linter.unusedVariables false
set_option linter.unusedSimpArgs false
section
open Go.ChangeMaps Go.MapKept
set_option linter.unusedVariables false
theorem name_cell {W : World} {base gA n c : Nat} {ok : Nat → Prop} {L : List S101} (h : Kd.R Kd.string 9 W base ok (.slice (some ⟨gA, 0, none⟩) n c) (L.map (·.f0))) (i : Nat) (hi : i < L.length) : W.cell? ⟨gA, i, none⟩ = some (.string L[i].f0) := by
  have hmi : (L.map (fun k => k.f0)).length = L.length := List.length_map _
  have hrdi : rdOf ByteArray.empty (L.map (fun k => k.f0)) (i : Int) = L[i].f0 := by
    simp [rdOf, List.getD_eq_getElem?_getD, hi]
  have hcell := Kd.foot_string (Kd.R_reads' h).2.2 (i : Int) (by omega) (by rw [hmi]; omega)
  rw [Int.toNat_natCast, hrdi] at hcell
  rcases Nat.eq_zero_or_pos i with e | e
  · subst e; simpa [Addr.add] using hcell
  · simpa [Addr.add, Nat.pos_iff_ne_zero.1 e] using hcell
set_option maxHeartbeats 12800000 in
set_option maxRecDepth 100000 in
theorem alike_st {base g : Nat} {F Z : Nat → Prop} {xv : Value} {s : Sto} {w : World} (KF : Nat) (nm : ByteArray → Bool) (hK : StFacts KF nm) (hg : Good nm s) (h : SAt base F g s w) (hd : DAt Z xv s w) : Calls Try.prog 22 #[.pointer (some ⟨g, 0, none⟩), xv] w fun e w' => e = .returned (.bool true) ∧ Below w.heap.size w w' := by
  obtain ⟨A0, c0, B1, d1, rfl, g1, g2, g3, g4⟩ := hd
  have HI := Aside0.mk (And.intro g1 (And.intro g2 (And.intro g3 g4)))
  have HK := Aside0.mk hK
  have HG := Aside0.mk hg
  have HS := Aside0.mk h
  have hu101 := Try.underlying101
  clear g1 g2 g3 g4 hK hg h
  go_enter Try.func22, Try.ntmps22
  go_wp2_with (first | ((with_reducible refine gate_dst (N := 3) rfl ?_); refine rw_box rfl 29 rfl (cs := #[.slice A0 s.img.length c0, .slice B1 s.L.length d1]) rfl (Rws.nil w) ?_; intro b3 w1 hX; have HM := Aside0.mk hX; clear hX))
  refine (Names_st HG.out.srt HG.out.len (HS.out.step HM.out.below)).mono ?_
  rintro e w2 ⟨vn, rfl, hR, hb⟩
  obtain ⟨An, cn, en⟩ := Kd.R_slice hR
  rw [List.length_map] at en
  subst en
  have HR := Aside0.mk (Kd.R_bound hR)
  have HM2 := Aside0.mk (HM.out.step hb)
  have HZW := Aside0.mk (Nat.le_refl w2.heap.size)
  clear hR hb
  go_wp2_with fail
  have HMD := Aside0.mk (HM2.out.drewN 1)
  (try simp only [Act.put, List.setIfInBounds_toArray, List.set_cons_zero, List.set_cons_succ])
  refine wp_region_held_drew (S := fun w' => Rws w [(b3, 29, #[.slice A0 s.img.length c0, .slice B1 s.L.length d1])] w') (by kernel_rfl) ?_ (fun hHeld => ?_)
  · exact HMD.out
  have HMD2 := Aside0.mk (show Rws w [(b3, 29, #[.slice A0 s.img.length c0, .slice B1 s.L.length d1])] (World.drew _) from HMD.out)
  have HRD := Aside0.mk (show Kd.R Kd.string 9 (World.drew _) _ _ _ (s.L.map (·.f0)) from Kd.R_drewN HR.out 1)
  have HSD := Aside0.mk (HS.out.step HMD2.out.below)
  replace HZW := Aside0.mk (show w2.heap.size ≤ (World.drew _).heap.size from HZW.out)
  clear HMD
  generalize World.drew _ = wd at HMD2 HRD HSD HZW hHeld ⊢
  refine take_dst (i := 0) (v := ?_) 14 rfl rfl (by kernel_rfl) (by kernel_rfl) (by kernel_rfl) (fun _ _ _ h => h) (Or.inl ⟨by rfl, ?_⟩) (by assumption) ?_
  rotate_left
  · intro w hSw
    go_simp
    try with_reducible rfl
  (try simp only [Act.put, List.setIfInBounds_toArray, List.set_cons_zero, List.set_cons_succ])
  refine take_dst (i := 2) (v := ?_) 16 rfl rfl (by kernel_rfl) (by kernel_rfl) (by kernel_rfl) (fun _ _ _ h => h) (Or.inl ⟨by rfl, ?_⟩) (by assumption) ?_
  rotate_left
  · intro w hSw
    go_simp
    try with_reducible rfl
  (try simp only [Act.put, List.setIfInBounds_toArray, List.set_cons_zero, List.set_cons_succ])
  refine take_dst (i := 3) (v := ?_) 17 rfl rfl (by kernel_rfl) (by kernel_rfl) (by kernel_rfl) (fun _ _ _ h => h) (Or.inl ⟨by rfl, ?_⟩) (by assumption) ?_
  rotate_left
  · intro w hSw
    have q0 := blk_cell (hSw.mem List.mem_cons_self) 0
    have q1 := blk_cell (hSw.mem List.mem_cons_self) 1
    go_simp
    try with_reducible rfl
  (try simp only [Act.put, List.setIfInBounds_toArray, List.set_cons_zero, List.set_cons_succ])
  refine wpAnyH_ready (rs := [1]) (by kernel_rfl) (by simp) ?_
  refine AllReadyH.cons rfl (fun K hK => ?_) (AllReadyH.nil)
  go_simp
  refine (Image_st HG.out.img HSD.out).mono ?_
  rintro e w3 ⟨v, rfl, hR, hb⟩
  obtain ⟨Ai, ci, ei⟩ := Kd.R_slice hR
  subst ei
  have HRI := Aside0.mk hR
  have HM3 := Aside0.mk (HMD2.out.step hb)
  replace HRD := Aside0.mk (Kd.R_below HRD.out hb)
  replace HZW := Aside0.mk (show w2.heap.size ≤ w3.heap.size from Nat.le_trans HZW.out hb.size)
  clear hR hb
  go_simp
  refine hK.out _ _ HM3.out (fun hHeld => ?_)
  (try simp only [Act.put, List.setIfInBounds_toArray, List.set_cons_zero, List.set_cons_succ])
  clear hK K
  refine wpAnyH_ready (rs := [4]) (by kernel_rfl) (by simp) ?_
  refine AllReadyH.cons rfl (fun K hK => ?_) (AllReadyH.nil)
  go_simp
  refine (slices_Equal_byte_byte.calls KF Ai ci s.img A0 c0 s.img true w3 (Kd.R_reads' HRI.out).2.2 (Kd.R_reads' HRI.out).2.1 (Kd.F_now (Kd.F_below HI.out.2.2.1 HM3.out.below)) HI.out.1 (HK.out.rd.eq s.img (by have := HG.out.img; omega))).mono ?_
  rintro e w4 ⟨rfl, k4, rfl⟩
  have HM4 := Aside0.mk (HM3.out.drewN k4)
  replace HRD := Aside0.mk (Kd.R_drewN HRD.out k4)
  replace HZW := Aside0.mk (show w2.heap.size ≤ (w3.drewN k4).heap.size from HZW.out)
  generalize w3.drewN k4 = w4 at HM4 HRD HZW ⊢
  go_simp
  refine hK.out _ _ HM4.out (fun hHeld => ?_)
  (try simp only [Act.put, List.setIfInBounds_toArray, List.set_cons_zero, List.set_cons_succ])
  clear hK K
  refine take_dst (i := 5) (v := ?_) 19 rfl rfl (by kernel_rfl) (by kernel_rfl) (by kernel_rfl) (fun _ _ _ h => h) (Or.inl ⟨by rfl, ?_⟩) (by assumption) ?_
  rotate_left
  · intro w hSw
    go_simp
    try with_reducible rfl
  (try simp only [Act.put, List.setIfInBounds_toArray, List.set_cons_zero, List.set_cons_succ])
  refine take_dst (i := 6) (v := ?_) 20 rfl rfl (by kernel_rfl) (by kernel_rfl) (by kernel_rfl) (fun _ _ _ h => h) (Or.inl ⟨by rfl, ?_⟩) (by assumption) ?_
  rotate_left
  · intro w hSw
    go_simp
    try with_reducible rfl
  (try simp only [Act.put, List.setIfInBounds_toArray, List.set_cons_zero, List.set_cons_succ])
  refine take_dst (i := 7) (v := ?_) 21 rfl rfl (by kernel_rfl) (by kernel_rfl) (by kernel_rfl) (fun _ _ _ h => h) (Or.inl ⟨by rfl, ?_⟩) (by assumption) ?_
  rotate_left
  · intro w hSw
    go_simp
    try with_reducible rfl
  (try simp only [Act.put, List.setIfInBounds_toArray, List.set_cons_zero, List.set_cons_succ])
  refine take_dst (i := 8) (v := ?_) 22 rfl rfl (by kernel_rfl) (by kernel_rfl) (by kernel_rfl) (fun _ _ _ h => h) (Or.inl ⟨by rfl, ?_⟩) (by assumption) ?_
  rotate_left
  · intro w hSw
    go_simp
    try with_reducible rfl
  (try simp only [Act.put, List.setIfInBounds_toArray, List.set_cons_zero, List.set_cons_succ])
  refine take_dst (i := 9) (v := ?_) 23 rfl rfl (by kernel_rfl) (by kernel_rfl) (by kernel_rfl) (fun _ _ _ h => h) (Or.inl ⟨by rfl, ?_⟩) (by assumption) ?_
  rotate_left
  · intro w hSw
    go_simp
    try with_reducible rfl
  (try simp only [Act.put, List.setIfInBounds_toArray, List.set_cons_zero, List.set_cons_succ])
  refine take_dst (i := 10) (v := ?_) 24 rfl rfl (by kernel_rfl) (by kernel_rfl) (by kernel_rfl) (fun _ _ _ h => h) (Or.inl ⟨by rfl, ?_⟩) (by assumption) ?_
  rotate_left
  · intro w hSw
    have q0 := blk_cell (hSw.mem List.mem_cons_self) 0
    have q1 := blk_cell (hSw.mem List.mem_cons_self) 1
    go_simp
    try with_reducible rfl
  (try simp only [Act.put, List.setIfInBounds_toArray, List.set_cons_zero, List.set_cons_succ])
  refine take_dst (i := 11) (v := ?_) 25 rfl rfl (by kernel_rfl) (by kernel_rfl) (by kernel_rfl) (fun _ _ _ h => h) (Or.inl ⟨by rfl, ?_⟩) (by assumption) ?_
  rotate_left
  · intro w hSw
    go_simp
    try with_reducible rfl
  (try simp only [Act.put, List.setIfInBounds_toArray, List.set_cons_zero, List.set_cons_succ])
  refine take_dst (i := 12) (v := ?_) 26 rfl rfl (by kernel_rfl) (by kernel_rfl) (by kernel_rfl) (fun _ _ _ h => h) (Or.inl ⟨by rfl, ?_⟩) (by assumption) ?_
  rotate_left
  · intro w hSw
    go_simp
    try with_reducible rfl
  (try simp only [Act.put, List.setIfInBounds_toArray, List.set_cons_zero, List.set_cons_succ])
  refine take_dst (i := 13) (v := ?_) 27 rfl rfl (by kernel_rfl) (by kernel_rfl) (by kernel_rfl) (fun _ _ _ h => h) (Or.inl ⟨by rfl, ?_⟩) (by assumption) ?_
  rotate_left
  · intro w hSw
    go_simp
    try with_reducible rfl
  (try simp only [Act.put, List.setIfInBounds_toArray, List.set_cons_zero, List.set_cons_succ])
  refine wpAnyH_done (by kernel_rfl) ?_ _
  have hc1 := blk_cell (HM4.out.mem List.mem_cons_self) 1
  go_wp2_with fail
  clear hc1
  have HRR0 := Aside0.mk (Kd.R_mono HRD.out (ok' := fun k => k < w2.heap.size) (fun k q => q.2.2.1))
  have HZ4 := Aside0.mk (show w2.heap.size ≤ w4.heap.size from HZW.out)
  go_loopw [31] (fun v31 wr => ∃ i : Nat, v31 = .int .i64 (i : Int) ∧ i ≤ s.L.length ∧ Aside0 (Rws w [(b3, 29, #[.slice A0 s.img.length c0, .slice B1 s.L.length d1])] wr) ∧ Aside0 (Kd.R Kd.string 9 wr w1.heap.size (fun k => k < w2.heap.size) (.slice An s.L.length cn) (s.L.map (·.f0))) ∧ Aside0 (w2.heap.size ≤ wr.heap.size)) (fun v31 _ => ((s.L.length : Int) - intOf v31).toNat)
  case atStart => exact ⟨0, rfl, Nat.zero_le _, HM4, HRR0, HZ4⟩
  case round =>
    clear HRR0 HZ4 HRD HM4 HM3 HMD2 HM2 HR
    obtain ⟨i, rfl, hi, HMR, HRR, HZR⟩ := hrel
    by_cases c2_ : i < s.L.length
    · have c2b : decide ((i : Int) < (s.L.length : Int)) = true := decide_eq_true (by omega)
      have c2c : decide (i < s.L.length) = true := decide_eq_true c2_
      have p5 : (0 ≤ (i : Int)) = True := eq_true (by omega)
      have p6 : ((i : Int) < (s.L.length : Int)) = True := eq_true (by omega)
      have hsl := HG.out.len
      have HRW : Aside0 (wrap64 ((i : Int) + 1) = ((i + 1 : Nat) : Int)) := ⟨by unfold wrap64; omega⟩
      obtain ⟨gA, e1⟩ : ∃ gA, An = some ⟨gA, 0, none⟩ := by
        obtain ⟨gb, cb, e, _⟩ := Kd.R_form HRR.out (by rw [List.length_map]; omega)
        injection e with e
        exact ⟨gb, e⟩
      subst e1
      have hFL := Kd.F_below (Kd.F_bound HI.out.2.2.2) HMR.out.below
      obtain ⟨ad, cs, eA, _, hFK, hcc, _⟩ := Kd.F_get hFL z101 (i : Int) (by omega) (by omega)
      obtain ⟨A2, c2, e2, q3, q4⟩ := k101_openF hFK
      subst e2
      have hrd : s.L.getD (i : Int).toNat z101 = s.L[i] := by rw [Int.toNat_natCast, List.getD_eq_getElem?_getD, List.getElem?_eq_getElem c2_]; rfl
      rw [hrd] at q3 q4 hcc
      rw [Int.toNat_natCast] at hcc
      have q1 : wr.cell? (ad.add (i * 2)) = some (.string s.L[i].f0) := hcc 0 _ rfl
      have q2 : wr.cell? ⟨(ad.add (i * 2)).block, (ad.add (i * 2)).off + 1, none⟩ = some (.slice A2 s.L[i].f1.length c2) := by
        have h9 := hcc 1 _ rfl
        rw [show k101.sz = 2 from rfl, ← Addr.add_add] at h9
        exact h9
      have hmem := List.getElem_mem c2_
      have hget : getS nm s s.L[i].f0 = (s.L[i].f1, 0) := by
        unfold getS
        rw [if_neg (by rw [HG.out.nam _ hmem]; decide), lk_at HG.out.srt i c2_]
      have hxs := (HK.out.siz _ (HG.out.nam _ hmem)).2
      have HS46 := Aside0.mk (HG.out.val _ hmem).1
      obtain ⟨x, hx⟩ : ∃ x, x = s.L[i].f0 := ⟨_, rfl⟩
      obtain ⟨b, hb⟩ : ∃ b, b = s.L[i].f1 := ⟨_, rfl⟩
      rw [← hx] at q1 hget hxs
      rw [← hb] at q2 q3 q4 hget HS46
      subst eA
      have HCB0 := Aside0.mk (And.intro q3 q4)
      have HGT := Aside0.mk hget
      have HXM := Aside0.mk (show x.size ≤ maxLen by unfold maxLen; omega)
      clear q3 q4 hFL hFK hcc hrd hmem hb hget hxs
      have HXE := Aside0.mk hx
      clear hx
      go_wp2_with (first | ((with_reducible refine gate_dst (N := 7) rfl ?_); refine rw_allocS rfl 101 rfl (cs := #[.string ⟨#[]⟩, .slice none 0 0]) (by kernel_rfl) HMR.out ?_; intro b7 w6 hg6 hM hb6; have HM6 := Aside0.mk hM; have HB6 := Aside0.mk hb6; have HE7 := Aside0.mk hg6; clear hg6 hM hb6) | (refine rw_storeS rfl 101 rfl rfl (cs' := #[.string x, .slice A2 b.length c2]) rfl [] HM6.out (by kernel_rfl) rfl (by show _ = _; simp [Value.oneCell']) ?_; intro w7 hM hk3; have HM7 := Aside0.mk hM; have HK7 := Aside0.mk hk3; have hc70 := blk_cell (hM.mem List.mem_cons_self) 0; clear hM hk3))
      refine (Get_st KF nm HK.out HG.out x HXM.out (HS.out.step HM7.out.below)).mono ?_
      rintro e w8 ⟨v8, rfl, hR, hb⟩
      rw [HGT.out] at hR ⊢
      simp only at hR ⊢
      obtain ⟨A8, c8, e8⟩ := Kd.R_slice hR
      subst e8
      have HR8 := Aside0.mk hR
      have HM8 := Aside0.mk (HM7.out.step hb)
      have HRR8 := Aside0.mk (Kd.R_below (Kd.R_kept (Kd.R_below HRR.out HB6.out) HK7.out (fun k q e => by have := HZR.out; have := HE7.out; omega)) hb)
      have HZ8 := Aside0.mk (show w2.heap.size ≤ w8.heap.size from Nat.le_trans HZR.out (Nat.le_trans HB6.out.size (Nat.le_trans HK7.out.1 hb.size)))
      have hcl := name_cell HRR8.out i c2_
      rw [← HXE.out] at hcl
      clear hR hb hc70
      go_wp2_with fail
      have HMD := Aside0.mk (HM8.out.drewN 1)
      (try simp only [Act.put, List.setIfInBounds_toArray, List.set_cons_zero, List.set_cons_succ])
      refine wp_region_held_drew (S := fun w' => (Rws w [(b7, 101, #[.string x, .slice A2 b.length c2]), (b3, 29, #[.slice A0 s.img.length c0, .slice (some ad) s.L.length d1])] w') ∧ w'.cell? ⟨gA, i, none⟩ = some (.string x)) (by kernel_rfl) ?_ (fun hHeld => ?_)
      · exact ⟨HMD.out, hcl⟩
      have HMD2 := Aside0.mk (show Rws w [(b7, 101, #[.string x, .slice A2 b.length c2]), (b3, 29, #[.slice A0 s.img.length c0, .slice (some ad) s.L.length d1])] (World.drew _) from HMD.out)
      have HRD8 := Aside0.mk (show Kd.R (Kd.int .u8) 5 (World.drew _) _ _ _ b from Kd.R_drewN HR8.out 1)
      replace HRR8 := Aside0.mk (show Kd.R Kd.string 9 (World.drew _) _ _ _ (s.L.map (·.f0)) from Kd.R_drewN HRR8.out 1)
      replace HZ8 := Aside0.mk (show w2.heap.size ≤ (World.drew _).heap.size from HZ8.out)
      clear HMD hcl
      generalize World.drew _ = wd at HMD2 HRD8 HRR8 HZ8 hHeld ⊢
      refine take_dst (i := 0) (v := ?_) 43 rfl rfl (by kernel_rfl) (by kernel_rfl) (by kernel_rfl) (fun _ _ _ h => h) (Or.inl ⟨by rfl, ?_⟩) (by assumption) ?_
      rotate_left
      · intro w hSw
        go_simp
        try with_reducible rfl
      (try simp only [Act.put, List.setIfInBounds_toArray, List.set_cons_zero, List.set_cons_succ])
      refine take_dst (i := 1) (v := ?_) 44 rfl rfl (by kernel_rfl) (by kernel_rfl) (by kernel_rfl) (fun _ _ _ h => h) (Or.inl ⟨by rfl, ?_⟩) (by assumption) ?_
      rotate_left
      · intro w hSw
        go_simp
        try with_reducible rfl
      (try simp only [Act.put, List.setIfInBounds_toArray, List.set_cons_zero, List.set_cons_succ])
      refine take_dst (i := 2) (v := ?_) 45 rfl rfl (by kernel_rfl) (by kernel_rfl) (by kernel_rfl) (fun _ _ _ h => h) (Or.inl ⟨by rfl, ?_⟩) (by assumption) ?_
      rotate_left
      · intro w hSw
        go_simp
        try with_reducible rfl
      (try simp only [Act.put, List.setIfInBounds_toArray, List.set_cons_zero, List.set_cons_succ])
      refine take_dst (i := 3) (v := ?_) 46 rfl rfl (by kernel_rfl) (by kernel_rfl) (by kernel_rfl) (fun _ _ _ h => h) (Or.inl ⟨by rfl, ?_⟩) (by assumption) ?_
      rotate_left
      · intro w hSw
        have q0 := blk_cell (hSw.1.mem List.mem_cons_self) 0
        have q1 := blk_cell (hSw.1.mem List.mem_cons_self) 1
        have q2 := hSw.2
        go_simp
        try with_reducible rfl
      (try simp only [Act.put, List.setIfInBounds_toArray, List.set_cons_zero, List.set_cons_succ])
      refine take_dst (i := 4) (v := ?_) 47 rfl rfl (by kernel_rfl) (by kernel_rfl) (by kernel_rfl) (fun _ _ _ h => h) (Or.inl ⟨by rfl, ?_⟩) (by assumption) ?_
      rotate_left
      · intro w hSw
        go_simp
        try with_reducible rfl
      (try simp only [Act.put, List.setIfInBounds_toArray, List.set_cons_zero, List.set_cons_succ])
      refine take_dst (i := 5) (v := ?_) 48 rfl rfl (by kernel_rfl) (by kernel_rfl) (by kernel_rfl) (fun _ _ _ h => h) (Or.inl ⟨by rfl, ?_⟩) (by assumption) ?_
      rotate_left
      · intro w hSw
        have q0 := blk_cell (hSw.1.mem List.mem_cons_self) 0
        have q1 := blk_cell (hSw.1.mem List.mem_cons_self) 1
        have q2 := hSw.2
        go_simp
        try with_reducible rfl
      (try simp only [Act.put, List.setIfInBounds_toArray, List.set_cons_zero, List.set_cons_succ])
      refine take_dst (i := 6) (v := ?_) 49 rfl rfl (by kernel_rfl) (by kernel_rfl) (by kernel_rfl) (fun _ _ _ h => h) (Or.inl ⟨by rfl, ?_⟩) (by assumption) ?_
      rotate_left
      · intro w hSw
        go_simp
        try with_reducible rfl
      (try simp only [Act.put, List.setIfInBounds_toArray, List.set_cons_zero, List.set_cons_succ])
      refine take_dst (i := 7) (v := ?_) 50 rfl rfl (by kernel_rfl) (by kernel_rfl) (by kernel_rfl) (fun _ _ _ h => h) (Or.inl ⟨by rfl, ?_⟩) (by assumption) ?_
      rotate_left
      · intro w hSw
        go_simp
        try with_reducible rfl
      (try simp only [Act.put, List.setIfInBounds_toArray, List.set_cons_zero, List.set_cons_succ])
      refine take_dst (i := 8) (v := ?_) 51 rfl rfl (by kernel_rfl) (by kernel_rfl) (by kernel_rfl) (fun _ _ _ h => h) (Or.inl ⟨by rfl, ?_⟩) (by assumption) ?_
      rotate_left
      · intro w hSw
        go_simp
        try with_reducible rfl
      (try simp only [Act.put, List.setIfInBounds_toArray, List.set_cons_zero, List.set_cons_succ])
      refine take_dst (i := 9) (v := ?_) 52 rfl rfl (by kernel_rfl) (by kernel_rfl) (by kernel_rfl) (fun _ _ _ h => h) (Or.inl ⟨by rfl, ?_⟩) (by assumption) ?_
      rotate_left
      · intro w hSw
        go_simp
        try with_reducible rfl
      (try simp only [Act.put, List.setIfInBounds_toArray, List.set_cons_zero, List.set_cons_succ])
      refine take_dst (i := 10) (v := ?_) 53 rfl rfl (by kernel_rfl) (by kernel_rfl) (by kernel_rfl) (fun _ _ _ h => h) (Or.inl ⟨by rfl, ?_⟩) (by assumption) ?_
      rotate_left
      · intro w hSw
        go_simp
        try with_reducible rfl
      (try simp only [Act.put, List.setIfInBounds_toArray, List.set_cons_zero, List.set_cons_succ])
      refine take_dst (i := 11) (v := ?_) 54 rfl rfl (by kernel_rfl) (by kernel_rfl) (by kernel_rfl) (fun _ _ _ h => h) (Or.inl ⟨by rfl, ?_⟩) (by assumption) ?_
      rotate_left
      · intro w hSw
        go_simp
        try with_reducible rfl
      (try simp only [Act.put, List.setIfInBounds_toArray, List.set_cons_zero, List.set_cons_succ])
      refine take_dst (i := 12) (v := ?_) 55 rfl rfl (by kernel_rfl) (by kernel_rfl) (by kernel_rfl) (fun _ _ _ h => h) (Or.inl ⟨by rfl, ?_⟩) (by assumption) ?_
      rotate_left
      · intro w hSw
        go_simp
        try with_reducible rfl
      (try simp only [Act.put, List.setIfInBounds_toArray, List.set_cons_zero, List.set_cons_succ])
      refine take_dst (i := 13) (v := ?_) 56 rfl rfl (by kernel_rfl) (by kernel_rfl) (by kernel_rfl) (fun _ _ _ h => h) (Or.inl ⟨by rfl, ?_⟩) (by assumption) ?_
      rotate_left
      · intro w hSw
        go_simp
        try with_reducible rfl
      (try simp only [Act.put, List.setIfInBounds_toArray, List.set_cons_zero, List.set_cons_succ])
      refine take_dst (i := 14) (v := ?_) 57 rfl rfl (by kernel_rfl) (by kernel_rfl) (by kernel_rfl) (fun _ _ _ h => h) (Or.inl ⟨by rfl, ?_⟩) (by assumption) ?_
      rotate_left
      · intro w hSw
        have q0 := blk_cell (hSw.1.mem List.mem_cons_self) 0
        have q1 := blk_cell (hSw.1.mem List.mem_cons_self) 1
        have q2 := hSw.2
        go_simp
        try with_reducible rfl
      (try simp only [Act.put, List.setIfInBounds_toArray, List.set_cons_zero, List.set_cons_succ])
      refine wpAnyH_ready (rs := [15]) (by kernel_rfl) (by simp) ?_
      refine AllReadyH.cons rfl (fun K hK => ?_) (AllReadyH.nil)
      go_simp
      have hCB := Kd.F_now (Kd.F_step HCB0.out.2 (fun k q _ => (HMD2.out.below.block k q.2).trans (HMR.out.below.block k q.2).symm))
      refine (slices_Equal_byte_byte.calls KF A8 c8 b A2 c2 b true wd (Kd.R_reads' HRD8.out).2.2 (Kd.R_reads' HRD8.out).2.1 hCB HCB0.out.1 (HK.out.rd.eq b (by have := HS46.out; omega))).mono ?_
      rintro e w9 ⟨rfl, k9, rfl⟩
      have HM9 := Aside0.mk (HMD2.out.drewN k9)
      have HRR9 := Aside0.mk (Kd.R_drewN HRR8.out k9)
      have HZ9 := Aside0.mk (show w2.heap.size ≤ (wd.drewN k9).heap.size from HZ8.out)
      generalize wd.drewN k9 = w9 at HM9 HRR9 HZ9 ⊢
      have hcl := name_cell HRR9.out i c2_
      rw [← HXE.out] at hcl
      go_simp
      refine hK.out _ _ ⟨HM9.out, hcl⟩ (fun hHeld => ?_)
      (try simp only [Act.put, List.setIfInBounds_toArray, List.set_cons_zero, List.set_cons_succ])
      clear hK K hcl hCB
      refine take_dst (i := 16) (v := ?_) 59 rfl rfl (by kernel_rfl) (by kernel_rfl) (by kernel_rfl) (fun _ _ _ h => h) (Or.inl ⟨by rfl, ?_⟩) (by assumption) ?_
      rotate_left
      · intro w hSw
        go_simp
        try with_reducible rfl
      (try simp only [Act.put, List.setIfInBounds_toArray, List.set_cons_zero, List.set_cons_succ])
      refine take_dst (i := 17) (v := ?_) 60 rfl rfl (by kernel_rfl) (by kernel_rfl) (by kernel_rfl) (fun _ _ _ h => h) (Or.inl ⟨by rfl, ?_⟩) (by assumption) ?_
      rotate_left
      · intro w hSw
        go_simp
        try with_reducible rfl
      (try simp only [Act.put, List.setIfInBounds_toArray, List.set_cons_zero, List.set_cons_succ])
      refine wpAnyH_done (by kernel_rfl) ?_ _
      go_wp2_with fail
      go_roundw
      case rel => exact ⟨i + 1, by have e9 := HRW.out; first | (rw [e9]; done) | (simp; done), c2_, HM9.out.tail |> Aside0.mk, HRR9, HZ9⟩
      case measure => have e9 := HRW.out; first | omega | (simp only [intOf] at *; omega)
    · have c2b : decide ((i : Int) < (s.L.length : Int)) = false := decide_eq_false (by omega)
      have c2c : decide (i < s.L.length) = false := decide_eq_false c2_
      go_wp2_with fail
      go_ret
      exact ⟨rfl, HMR.out.below⟩
end
end Go.Proofs.Ytfakdphkklclgaa.P

end

section
namespace Go.Proofs.Ytfakdphkklclgaa.P
open Go.RowKit Go.Proofs.YtfakdphkklclgaaW.PrintWords Go.Proofs.YtfakdphkklclgaaW.PrintLast Go.Proofs.YtfakdphkklclgaaW.PrintMore
attribute [local go_sem] max2_int min2_int max_two min_two max_three min_three max_four min_four
set_option linter.unusedVariables false
set_option linter.unusedSimpArgs false
section
open Go.ChangeMaps Go.MapKept
set_option linter.unusedVariables false
theorem Rws.keptF {w0 W W1 : World} {l : List (Nat × TypeId × Array Value)} {S : Nat → Prop} (h : Rws w0 l W) (hk : Kept W W1 S) (hS : ∀ p ∈ l, ¬ S p.1) (hb : Below w0.heap.size w0 W1) : Rws w0 l W1 :=
  ⟨fun p hp => ⟨(hk.2 _ (blk_lt (h.lies p hp).1) (hS p hp)).trans (h.lies p hp).1, (h.lies p hp).2⟩, h.ne, hb⟩
theorem kept_at1 {W W1 : World} {S : Nat → Prop} (hk : Kept W W1 S) {p : Addr} (hp : S p.block) (v : Value) : Kept W (W1.setCell p v) S := ⟨by have := hk.1; simpa [World.setCell] using this, fun k h1 hn => (Below.heap_setCell W1 p v k (fun e => hn (e ▸ hp))).trans (hk.2 k h1 hn)⟩
theorem Wrs.now {S1 S2 : Nat} {A : Option Addr} {c : Nat} {ws : List S52} {W : World} (h : Wrs S1 S2 (.slice A ws.length c) ws W) : Kd.C k52 W A ws.length ws := by
  obtain ⟨A', c', e, _, h2⟩ := h.reads
  injection e with e
  rw [e]; exact h2
theorem DWr.now {Z : Nat → Prop} {A : Option Addr} {c : Nat} {ws : List S52} {W : World} (h : DWr Z (.slice A ws.length c) ws W) : Kd.C k52 W A ws.length ws := by
  obtain ⟨A', c', e, _, h2⟩ := h
  injection e with e
  rw [e]; exact Kd.F_now h2
theorem laid_wr (s : Sto) (l : List S101) (r : List Int) (hi : s.img.length ≤ 1048576) : (laidS s l r).2.1.length ≤ 2 ∧ ∀ x ∈ (laidS s l r).2.1, x.f1.length ≤ 2097152 := by
  unfold laidS
  split
  · exact ⟨Nat.zero_le _, fun x hx => by cases hx⟩
  · refine ⟨Nat.le_refl _, fun x hx => ?_⟩
    rcases List.mem_cons.1 hx with rfl | hx
    · simp; omega
    · rw [List.mem_singleton.1 hx]; simp
theorem put_wr (nm : ByteArray → Bool) (s : Sto) (x : ByteArray) (b : List Int) (hi : s.img.length ≤ 1048576) : (putS nm s x b).2.1.length ≤ 2 ∧ ∀ x' ∈ (putS nm s x b).2.1, x'.f1.length ≤ 2097152 := by
  unfold putS
  split
  · exact ⟨Nat.zero_le _, fun x hx => by cases hx⟩
  split
  · exact ⟨Nat.zero_le _, fun x hx => by cases hx⟩
  split
  · exact ⟨Nat.zero_le _, fun x hx => by cases hx⟩
  exact laid_wr _ _ _ hi
end
end Go.Proofs.Ytfakdphkklclgaa.P

end

section
namespace Go.Proofs.Ytfakdphkklclgaa.P
open Go.RowKit Go.Proofs.YtfakdphkklclgaaW.PrintWords Go.Proofs.YtfakdphkklclgaaW.PrintLast Go.Proofs.YtfakdphkklclgaaW.PrintMore
attribute [local go_sem] max2_int min2_int max_two min_two max_three min_three max_four min_four
set_option linter.unusedVariables false
set_option linter.unusedSimpArgs false
section
theorem rd_app {bs t : List Int} {i : Nat} (h : i < bs.length) : rd (bs ++ t) (i : Int) = rd bs (i : Int) := by
  unfold rd
  rw [Int.toNat_natCast, List.getD_eq_getElem?_getD, List.getD_eq_getElem?_getD, List.getElem?_append_left h]
theorem seg_app {bs t : List Int} {a n : Nat} (h : a + n ≤ bs.length) : seg (bs ++ t) a n = seg bs a n := by
  unfold seg
  rw [List.take_append_of_le_length h]
theorem nameR_app {nm : ByteArray → Bool} {bs : List Int} {a : Nat} (t : List Int) (h : (nameR nm bs a).2.2 = 0) : nameR nm (bs ++ t) a = nameR nm bs a := by
  unfold nameR at h ⊢
  by_cases c1 : bs.length < a + 1
  · rw [if_pos c1] at h; cases h
  rw [if_neg c1] at h ⊢
  have hr := rd_app (t := t) (show a < bs.length by omega)
  rw [if_neg (by rw [List.length_append]; omega), hr]
  by_cases c2 : rd bs (a : Int) = 0 ∨ 24 < rd bs (a : Int)
  · rw [if_pos c2] at h; cases h
  rw [if_neg c2] at h
  rw [if_neg c2, if_neg c2]
  by_cases c3 : bs.length < a + 1 + (rd bs (a : Int)).toNat
  · rw [if_pos c3] at h; cases h
  rw [if_neg (by rw [List.length_append]; omega), if_neg c3, seg_app (by omega)]
theorem numR_app {k : Nat} {bs : List Int} {a : Nat} (t : List Int) (h : (numR k bs a).2.2 = 0) : numR k (bs ++ t) a = numR k bs a := by
  unfold numR at h ⊢
  by_cases c1 : bs.length < a + k
  · rw [if_pos c1] at h; cases h
  rw [if_neg c1, if_neg (by rw [List.length_append]; omega), seg_app (by omega)]
theorem takeR_app {bs : List Int} {a : Nat} {n : Int} (t : List Int) (ha : a ≤ bs.length) (h : (takeR bs a n).2.2 = 0) : takeR (bs ++ t) a n = takeR bs a n := by
  unfold takeR at h ⊢
  by_cases c1 : n < 0
  · rw [if_pos c1] at h; cases h
  rw [if_neg c1] at h ⊢
  by_cases c2 : n > (bs.length : Int) - (a : Int)
  · rw [if_pos c2] at h; cases h
  rw [if_neg c1, if_neg c2, if_neg (by rw [List.length_append]; omega), seg_app (by omega)]
theorem recS_app {nm : ByteArray → Bool} {bs : List Int} {L : List S101} {a : Nat} {q : List S101 × Nat} (t : List Int) (ha : a < bs.length) (h : recS nm bs L a = some q) : recS nm (bs ++ t) L a = some q := by
  unfold recS at h ⊢
  have h1 := nameR_app (nm := nm) (bs := bs) (a := a + 1) t
  have g1 := nameR_go nm bs (a + 1)
  rw [rd_app ha]
  obtain ⟨⟨x, p, er⟩, hnr⟩ : ∃ q, q = nameR nm bs (a + 1) := ⟨_, rfl⟩
  rw [← hnr] at h h1 g1
  simp only at h h1 g1
  by_cases c1 : er ≠ 0
  · rw [if_pos c1] at h; cases h
  rw [if_neg c1] at h
  have h1 := h1 (by simpa using c1)
  have g1 := g1 (by simpa using c1)
  rw [h1]
  simp only
  rw [if_neg c1]
  by_cases c2 : rd bs (a : Int) = 2 ∧ (lkL L x).isSome = true
  · rw [if_pos c2] at h ⊢; exact h
  rw [if_neg c2] at h ⊢
  by_cases c3 : rd bs (a : Int) ≠ 1
  · rw [if_pos c3] at h; cases h
  rw [if_neg c3] at h ⊢
  have h2 := numR_app (k := 2) (bs := bs) (a := p) t
  have g2 := numR_go 2 bs p
  obtain ⟨⟨n, p2, e2⟩, hn⟩ : ∃ q, q = numR 2 bs p := ⟨_, rfl⟩
  rw [← hn] at h h2 g2
  simp only at h h2 g2
  by_cases c4 : e2 ≠ 0 ∨ 4096 < n
  · rw [if_pos c4] at h; cases h
  rw [if_neg c4] at h
  have e20 : e2 = 0 := by simpa using fun q => c4 (.inl q)
  rw [h2 e20]
  simp only
  rw [if_neg c4]
  have g2 := g2 e20
  have h3 := takeR_app (bs := bs) (a := p2) (n := n) t (by omega)
  obtain ⟨⟨b, p3, e3⟩, ht⟩ : ∃ q, q = takeR bs p2 n := ⟨_, rfl⟩
  rw [← ht] at h h3
  simp only at h h3
  by_cases c5 : e3 ≠ 0
  · rw [if_pos c5] at h; cases h
  rw [if_neg c5] at h
  rw [h3 (by simpa using c5)]
  simp only
  rw [if_neg c5]
  exact h
inductive Par (nm : ByteArray → Bool) (bs : List Int) : List S101 → Nat → List S101 → Nat → Prop
  | refl (L : List S101) (a : Nat) : Par nm bs L a L a
  | step {L : List S101} {a : Nat} {q : List S101 × Nat} {L' : List S101} {a' : Nat} (ha : a < bs.length) (hz : rd bs (a : Int) ≠ 0) (hq : recS nm bs L a = some q) (h : Par nm bs q.1 q.2 L' a') : Par nm bs L a L' a'
theorem Par.app {nm : ByteArray → Bool} {bs : List Int} {L L' : List S101} {a a' : Nat} (h : Par nm bs L a L' a') (t : List Int) : Par nm (bs ++ t) L a L' a' := by
  induction h with
  | refl L a => exact .refl L a
  | step ha hz hq _ ih => exact .step (by rw [List.length_append]; omega) (by rw [rd_app ha]; exact hz) (recS_app t ha hq) ih
theorem Par.trans {nm : ByteArray → Bool} {bs : List Int} {L L' L2 : List S101} {a a' a2 : Nat} (h : Par nm bs L a L' a') (h2 : Par nm bs L' a' L2 a2) : Par nm bs L a L2 a2 := by
  induction h with
  | refl L a => exact h2
  | step ha hz hq _ ih => exact .step ha hz hq (ih h2)
def sumL : List S101 → Nat
  | [] => 0
  | k :: l => k.f0.size + 4 + k.f1.length + sumL l
theorem sum_put (x : ByteArray) (b : List Int) (L : List S101) : sumL (putL x b L) ≤ sumL L + (x.size + 4 + b.length) := by
  induction L with
  | nil => simp [putL, sumL]
  | cons k l ih =>
    unfold putL
    split
    · simp only [sumL]; omega
    · split
      · rename_i h2; simp only [sumL]; omega
      · simp only [sumL]; omega
theorem rec1_len' (x : ByteArray) (b : List Int) : (recB 1 x b).length = x.size + 4 + b.length := by unfold recB; simp [bytes_len]; omega
structure Inv (nm : ByteArray → Bool) (s : Sto) : Prop where
  good : Good nm s
  par : Par nm s.img [] 0 s.L s.img.length
  sum : sumL s.L ≤ s.img.length
theorem inv_new (nm : ByteArray → Bool) : Inv nm ⟨[], []⟩ := ⟨good_new nm, .refl _ _, Nat.le_refl _⟩
theorem rd_right (bs t : List Int) (i : Nat) : rd (bs ++ t) ((bs.length + i : Nat) : Int) = rd t (i : Int) := by
  unfold rd
  rw [Int.toNat_natCast, Int.toNat_natCast, List.getD_eq_getElem?_getD, List.getD_eq_getElem?_getD, List.getElem?_append_right (by omega)]
  congr 2
  omega
theorem seg_right (bs t : List Int) (i n : Nat) : seg (bs ++ t) (bs.length + i) n = seg t i n := by
  unfold seg
  rw [List.take_append, List.drop_append, List.drop_eq_nil_of_le (by rw [List.length_take]; omega), List.nil_append, List.length_take, Nat.min_eq_right (by omega)]
  congr 2 <;> omega
theorem nameR_rec {nm : ByteArray → Bool} (img : List Int) (k : Int) (x : ByteArray) (post : List Int) (hx : nm x = true) (hs : 1 ≤ x.size ∧ x.size ≤ 24) :
    nameR nm (img ++ ([k, (x.size : Int) % 256] ++ bytesOf x ++ post)) (img.length + 1) = (x, img.length + 2 + x.size, 0) := by
  have hb := bytes_len x
  have hr : rd (img ++ ([k, (x.size : Int) % 256] ++ bytesOf x ++ post)) ((img.length + 1 : Nat) : Int) = (x.size : Int) := by
    rw [rd_right]
    show (x.size : Int) % 256 = _
    omega
  have hseg : seg (img ++ ([k, (x.size : Int) % 256] ++ bytesOf x ++ post)) (img.length + 1 + 1) x.size = bytesOf x := by
    rw [show img.length + 1 + 1 = img.length + 2 from rfl, seg_right]
    unfold seg
    rw [List.append_assoc, show 2 + x.size = ([k, (x.size : Int) % 256] : List Int).length + x.size from rfl, List.take_length_add_append]
    rw [show ([k, (x.size : Int) % 256] ++ List.take x.size (bytesOf x ++ post)).drop 2 = List.take x.size (bytesOf x ++ post) from rfl]
    rw [← hb, List.take_left]
  unfold nameR
  rw [hr, if_neg (by simp; omega), if_neg (by omega), Int.toNat_natCast, if_neg (by simp [hb]; omega), hseg, str_of_bytes, if_pos hx]
theorem rec_step {nm : ByteArray → Bool} {s : Sto} (h : Inv nm s) (hz : ∀ x, nm x = true → 1 ≤ x.size ∧ x.size ≤ 24) (x : ByteArray) (hx : nm x = true) (b : List Int) (hb : b.length ≤ 4096) (hl : (putL x b s.L).length ≤ 16) : recS nm (s.img ++ recB 1 x b) s.L s.img.length = some (putL x b s.L, (s.img ++ recB 1 x b).length) := by
  have hs := hz x hx
  have hn := nameR_rec (nm := nm) s.img 1 x ([(b.length : Int) / 256 % 256, (b.length : Int) % 256] ++ b) hx hs
  have he : recB 1 x b = [1, (x.size : Int) % 256] ++ bytesOf x ++ ([(b.length : Int) / 256 % 256, (b.length : Int) % 256] ++ b) := by unfold recB; rw [if_pos rfl]
  have hbl := bytes_len x
  have hr := rec1_len' x b
  have hk : rd (s.img ++ recB 1 x b) ((s.img.length : Nat) : Int) = 1 := by
    have := rd_right s.img (recB 1 x b) 0
    rw [Nat.add_zero] at this
    rw [this, he]; rfl
  have hseg2 : seg (s.img ++ recB 1 x b) (s.img.length + 2 + x.size) 2 = [(b.length : Int) / 256 % 256, (b.length : Int) % 256] := by
    rw [Nat.add_assoc, seg_right, he]
    unfold seg
    rw [show 2 + x.size + 2 = ([1, (x.size : Int) % 256] ++ bytesOf x : List Int).length + 2 by simp [hbl] <;> omega, List.take_length_add_append, List.drop_append_of_le_length (by simp [hbl] <;> omega), List.drop_eq_nil_of_le (by simp [hbl] <;> omega)]
    rfl
  have hseg3 : seg (s.img ++ recB 1 x b) (s.img.length + 2 + x.size + 2) b.length = b := by
    rw [show s.img.length + 2 + x.size + 2 = s.img.length + (x.size + 4) by omega, seg_right, he]
    unfold seg
    rw [← List.append_assoc, show x.size + 4 + b.length = ([1, (x.size : Int) % 256] ++ bytesOf x ++ [(b.length : Int) / 256 % 256, (b.length : Int) % 256] : List Int).length + b.length by simp [hbl] <;> omega, List.take_length_add_append, List.take_of_length_le (Nat.le_refl _), List.drop_append_of_le_length (by simp [hbl] <;> omega), List.drop_eq_nil_of_le (by simp [hbl] <;> omega)]
    rfl
  rw [← he] at hn
  unfold recS
  rw [hn, hk]
  simp only
  rw [if_neg (by decide), if_neg (by rintro ⟨q, _⟩; cases q), if_neg (by decide)]
  have h2 : numR 2 (s.img ++ recB 1 x b) (s.img.length + 2 + x.size) = ((b.length : Int), s.img.length + 2 + x.size + 2, 0) := by
    unfold numR
    rw [if_neg (by simp [hr]; omega), hseg2]
    simp [valR, numOf]
    omega
  rw [h2]
  simp only
  rw [if_neg (by omega)]
  have h3 : takeR (s.img ++ recB 1 x b) (s.img.length + 2 + x.size + 2) (b.length : Int) = (b, s.img.length + 2 + x.size + 2 + b.length, 0) := by
    unfold takeR
    rw [if_neg (by omega), if_neg (by simp [hr]; omega), Int.toNat_natCast, hseg3]
  rw [h3]
  simp only
  rw [if_neg (by decide), if_neg (by omega), List.length_append, hr]
  congr 2
  omega
theorem inv_put {nm : ByteArray → Bool} (hz : ∀ x, nm x = true → 1 ≤ x.size ∧ x.size ≤ 24) {s : Sto} (h : Inv nm s) (x : ByteArray) (b : List Int) (hb : ∀ z ∈ b, 0 ≤ z ∧ z ≤ 255) : Inv nm (putS nm s x b).1 := by
  have hg := good_put h.good x b hb
  unfold putS at hg ⊢
  by_cases c1 : nm x = false
  · rw [if_pos c1]; exact h
  rw [if_neg c1] at hg ⊢
  by_cases c2 : 4096 < b.length
  · rw [if_pos c2]; exact h
  rw [if_neg c2] at hg ⊢
  by_cases c3 : lkL s.L x = none ∧ 16 ≤ s.L.length
  · rw [if_pos c3]; exact h
  rw [if_neg c3] at hg ⊢
  rcases laid_cases s (putL x b s.L) (recB 1 x b) with e | ⟨hl, e⟩
  · rw [e]; exact h
  rw [e] at hg ⊢
  have hr := rec1_len' x b
  refine ⟨hg, (h.par.app _).trans (.step (by rw [List.length_append]; omega) ?_ (rec_step h hz x (by simpa using c1) b (by omega) hg.len) (.refl _ _)), ?_⟩
  · have := rd_right s.img (recB 1 x b) 0
    rw [Nat.add_zero] at this
    rw [this]; exact (by decide : (1 : Int) ≠ 0)
  · show sumL (putL x b s.L) ≤ (s.img ++ recB 1 x b).length
    have := sum_put x b s.L
    have := h.sum
    rw [List.length_append, hr]
    omega
end
end Go.Proofs.Ytfakdphkklclgaa.P

end

section
namespace Go.Proofs.Ytfakdphkklclgaa.P
open Go.RowKit Go.Proofs.YtfakdphkklclgaaW.PrintWords Go.Proofs.YtfakdphkklclgaaW.PrintLast Go.Proofs.YtfakdphkklclgaaW.PrintMore
attribute [local go_sem] max2_int min2_int max_two min_two max_three min_three max_four min_four
set_option linter.unusedVariables false
set_option linter.unusedSimpArgs false
section
open Go.ChangeMaps Go.MapKept
set_option linter.unusedVariables false
structure LFacts (K : Nat) (nm : ByteArray → Bool) : Prop where
  st : StFacts K nm
  un : ∀ l : List Int, l.length ≤ 140737488351232 → provisoplain_Untouched.f K (l ++ [165, 90, 195, 60]) l = some true
theorem F_of_C {w : World} {A : Option Addr} {n : Nat} {xs : List Int} (h : Kd.C (Kd.int .u8) w A n xs) : Kd.F (Kd.int .u8) w (fun k => k < w.heap.size) A n xs := fun W' hW => by
  have hsz : w.heap.size ≤ W'.heap.size := by
    rcases Nat.eq_zero_or_pos w.heap.size with e | e
    · omega
    · have h1 := hW (w.heap.size - 1) (by omega) (by omega)
      rcases Nat.lt_or_ge (w.heap.size - 1) W'.heap.size with q | q
      · omega
      · rw [Array.getElem?_eq_none q, Array.getElem?_eq_getElem (by omega)] at h1
        cases h1
  have h2 := Kd.C_below h (w1 := { W' with os := w.os, tape := w.tape, output := w.output }) ⟨rfl, rfl, rfl, hsz, fun k hk => hW k hk hk⟩
  exact h2
end
end Go.Proofs.Ytfakdphkklclgaa.P

end

section
namespace Go.Proofs.Ytfakdphkklclgaa.P
open Go.RowKit Go.Proofs.YtfakdphkklclgaaW.PrintWords Go.Proofs.YtfakdphkklclgaaW.PrintLast Go.Proofs.YtfakdphkklclgaaW.PrintMore
attribute [local go_sem] max2_int min2_int max_two min_two max_three min_three max_four min_four
set_option linter.unusedVariables false
set_option linter.unusedSimpArgs false
section
open Go.ChangeMaps Go.MapKept
set_option linter.unusedVariables false
structure LSt (w0 : World) (bx g : Nat) (s : Sto) (cs : Array Value) (F Z : Nat → Prop) (W : World) : Prop where
  rows : Rws w0 [(bx, 29, cs)] W
  st : SAt w0.heap.size F g s W
  dt : DAt Z (.agg cs) s W
  dis : ∀ k, Z k → ¬ F k
  nF : ¬ F bx
  nZ : ¬ Z bx
section
variable {w0 W W1 : World} {bx g : Nat} {s : Sto} {cs : Array Value} {F Z S : Nat → Prop}
theorem LSt.kept (h : LSt w0 bx g s cs F Z W) (hk : Kept W W1 S) (hS : ∀ k, F k ∨ Z k ∨ k = bx → ¬ S k) (hb : Below w0.heap.size w0 W1) : LSt w0 bx g s cs F Z W1 :=
  ⟨h.rows.keptF hk (fun p hp => by rw [List.mem_singleton.1 hp]; exact hS _ (.inr (.inr rfl))) hb, h.st.kept hk (fun k q => hS k (.inl q)), h.dt.kept hk (fun k q => hS k (.inr (.inl q))), h.dis, h.nF, h.nZ⟩
theorem LSt.step (h : LSt w0 bx g s cs F Z W) (hb : Below W.heap.size W W1) : LSt w0 bx g s cs F Z W1 :=
  h.kept (S := fun _ => False) (Kept.of_below hb _) (fun _ _ q => q) (h.rows.step hb).below
theorem LSt.bx_lt (h : LSt w0 bx g s cs F Z W) : bx < W.heap.size := blk_lt (h.rows.mem List.mem_cons_self)
end
theorem new_LSt {w w1 w2 : World} {bx g : Nat} (hs : SAt w.heap.size (fun b => w.heap.size ≤ b ∧ b < w1.heap.size) g ⟨[], []⟩ w1) (hb : Below w1.heap.size w1 w2) (hm : Rws w [(bx, 29, #[.slice none 0 0, .slice none 0 0])] w2) (he : bx = w1.heap.size) : LSt w bx g ⟨[], []⟩ #[.slice none 0 0, .slice none 0 0] (fun b => w.heap.size ≤ b ∧ b < w1.heap.size) (fun _ => False) w2 :=
  ⟨hm, hs.step hb, DAt.zero _ _, fun _ q => q.elim, fun q => by omega, fun q => q⟩
theorem LSt.done {w0 w5 w9 W : World} {bx g : Nat} {s s' : Sto} {cs cs' : Array Value} {F Z F' Z' : Nat → Prop} (h : LSt w0 bx g s cs F Z W) (hF : ∀ k, F' k → F k ∨ W.heap.size ≤ k) (hZ : ∀ k, Z' k → Z k ∨ W.heap.size ≤ k) (hd : ∀ k, Z' k → ¬ F' k) (hS : SAt w0.heap.size F' g s' w5) (hD : DAt Z' (.agg cs') s' w5) (hk : Kept w5 w9 (fun k => k = bx)) (hm : Rws w0 [(bx, 29, cs')] w9) : LSt w0 bx g s' cs' F' Z' w9 := by
  have hl := h.bx_lt
  have n1 : ¬ F' bx := fun q => (hF bx q).elim h.nF (fun q => by omega)
  have n2 : ¬ Z' bx := fun q => (hZ bx q).elim h.nZ (fun q => by omega)
  exact ⟨hm, hS.kept hk (fun k q e => n1 (e ▸ q)), hD.kept hk (fun k q e => n2 (e ▸ q)), hd, n1, n2⟩
theorem Rws.single {w0 W : World} {p : Nat × TypeId × Array Value} {l : List (Nat × TypeId × Array Value)} (h : Rws w0 l W) (hp : p ∈ l) : Rws w0 [p] W := ⟨fun q hq => by rw [List.mem_singleton.1 hq]; exact h.lies p hp, by simp, h.below⟩
end
end Go.Proofs.Ytfakdphkklclgaa.P

end

section
namespace Go.Proofs.Ytfakdphkklclgaa.P
open Go.RowKit Go.Proofs.YtfakdphkklclgaaW.PrintWords Go.Proofs.YtfakdphkklclgaaW.PrintLast Go.Proofs.YtfakdphkklclgaaW.PrintMore
attribute [local go_sem] max2_int min2_int max_two min_two max_three min_three max_four min_four
set_option linter.unusedVariables false
set_option linter.unusedSimpArgs false
theorem below_far {B base : Nat} {w0 W W1 : World} (h : Below B w0 W) (hB : B ≤ base) (k : Below base W W1) : Below B w0 W1 := ⟨k.os.trans h.os, k.tape.trans h.tape, k.output.trans h.output, Nat.le_trans h.size k.size, fun b hb => (k.block b (Nat.lt_of_lt_of_le hb hB)).trans (h.block b hb)⟩
theorem khd_fits {n : Nat} (h : n ≤ 5864063200000) : Builtin.nextslicecap (n + 1) n * 24 ≤ 281474976710656 := growslice_fits_wide (need := n + 1) (old := n) (bytes := 24) (Nat.lt_succ_self n) (by omega)
theorem Grp.add {k : IntKind} {te ts : TypeId} {W W1 : World} {base : Nat} {G G' : Nat → Prop} {v v1 : Value} {n : Nat} {hd : Nat → Hd} {h : Hd} {xs : List Int} (hg : Grp k te ts W base G v n hd 0 0) (hR : Kd.R (Kd.int k) te W1 base G' h.v xs) (hrow : khd.R ts W1 base G' v1 (rowH n hd ++ [h])) (hG : ∀ b, G b → G' b) (hfar : ∀ b, h.v.ownBlock = some b → ¬ G b) (hk : ∀ j, j < n → ∀ xs, Kd.R (Kd.int k) te W base G (hd j).v xs → Kd.R (Kd.int k) te W1 base G (hd j).v xs) : Grp k te ts W1 base G' v1 (n + 1) (fun j => if j = n then h else hd j) 0 0 := by
  have hown : ∀ j, j < n → ∀ b, (hd j).v.ownBlock = some b → G b := fun j hj b q => by
    obtain ⟨ys, h1, _⟩ := hg.own j hj
    exact h1.1 b q
  refine ⟨?_, fun j hj => ?_, fun j j' hj hj' hne b q1 q2 => ?_⟩
  · rw [rowH_succ, rowH_same (f := hd) (fun i hi => if_neg (Nat.ne_of_lt hi))]
    rw [show (if n = n then h else hd n) = h from if_pos rfl]
    exact hrow
  · show ∃ ys, Kd.R (Kd.int k) te W1 base G' (if j = n then h else hd j).v ys ∧ ∀ t, t < ys.length → (j < 0 ∨ (j = 0 ∧ t < 0)) → ys[t]? = some (mrk j)
    by_cases e : j = n
    · rw [if_pos e]
      exact ⟨xs, hR, fun t _ q => by omega⟩
    · rw [if_neg e]
      obtain ⟨ys, h1, h2⟩ := hg.own j (by omega)
      exact ⟨ys, Kd.R_mono (hk j (by omega) ys h1) hG, fun t _ q => by omega⟩
  · have q1 : (if j = n then h else hd j).v.ownBlock = some b := q1
    have q2 : (if j' = n then h else hd j').v.ownBlock = some b := q2
    by_cases e : j = n
    · rw [if_pos e] at q1
      rw [if_neg (by omega)] at q2
      exact hfar b q1 (hown j' (by omega) b q2)
    · rw [if_neg e] at q1
      by_cases e' : j' = n
      · rw [if_pos e'] at q2
        exact hfar b q2 (hown j (by omega) b q1)
      · rw [if_neg e'] at q2
        exact hg.ne j j' (by omega) (by omega) hne b q1 q2
theorem typ_neq {W : World} {a b t u : Nat} {cs ds : Array Value} (h1 : W.heap[a]? = some (.cells cs t (0, 0))) (h2 : W.heap[b]? = some (.cells ds u (0, 0))) (hn : t ≠ u) : a ≠ b := fun e => by
  rw [e, h2] at h1
  injection h1 with h1
  injection h1 with _ h1 _
  exact hn h1.symm
theorem Grp.over {k : IntKind} {te ts : TypeId} {W W1 : World} {base : Nat} {G S : Nat → Prop} {v : Value} {n : Nat} {hd : Nat → Hd} {i m : Nat} (h : Grp k te ts W base G v n hd i m) (hk : Kept W W1 S) (hS : ∀ b, G b → ¬ S b) {sh t : Nat} {cs : Array Value} (hb : W1.heap[sh]? = some (.cells cs t (0, 0))) (h1 : te ≠ t) (h2 : ts ≠ t) (j : Nat) (u : Value) : Grp k te ts (W1.setCell ⟨sh, j, none⟩ u) base G v n hd i m := by
  have h3 := h.kept hk hS
  refine ⟨Kd.R_set h3.row hb (fun z hz => by rw [show khd.E = [] from rfl] at hz; rw [List.mem_singleton.1 hz]; exact h2) _ _, fun j hj => ?_, h3.ne⟩
  obtain ⟨xs, h4, h5⟩ := h3.own j hj
  exact ⟨xs, Kd.R_set h4 hb (fun z hz => by rw [show (Kd.int k).E = [] from rfl] at hz; rw [List.mem_singleton.1 hz]; exact h1) _ _, h5⟩
set_option maxHeartbeats 1600000 in
set_option maxRecDepth 100000 in
theorem Bytes_sh (base : Nat) (F F' : Nat → Prop) (sh nB nI : Nat) (W : World) (h : ShAt base F sh nB nI W) (v : Value) (xs : List Int) (hR : Kd.R (Kd.int .u8) 5 W base F' v xs) (hF : ∀ b, F' b → ¬ F b) (hlim : xs.length + 80 ≤ 140737488351400) (hn : nB ≤ 5864063200000) :
    Calls Try.prog 18 #[.pointer (some ⟨sh, 0, none⟩), v] W fun e w' => e = .returned (.tuple #[]) ∧ ShAt base (fun b => (F b ∨ some b = v.ownBlock ∨ W.heap.size ≤ b) ∧ b < w'.heap.size) sh (nB + 1) nI w' ∧ Kept W w' (fun b => F b ∧ ∃ cs t, W.heap[b]? = some (.cells cs t (0, 0)) ∧ (t = 49 ∨ t = 23)) ∧ ∀ (B : Nat) (w0 : World), B ≤ base → Below B w0 W → Below B w0 w' := by
  obtain ⟨⟨GB, GI, vB, vI, hB, hI, h1, h2, h3, h4, h5, h6, h7, h8⟩, hf, hl⟩ := h
  obtain ⟨A, c, rfl⟩ := Kd.R_slice hR
  have hbase : base ≤ W.heap.size := Nat.le_trans (hl sh hf).1 (Nat.le_of_lt (hl sh hf).2)
  have hc0 := blk_cell h1 0
  have hrow := h2.row
  obtain ⟨Av, cv, ev⟩ := Kd.R_slice hrow
  rw [rowH_len] at ev
  subst ev
  have H1 := Aside0.mk h1
  have H2 := Aside0.mk h2
  have H3 := Aside0.mk h3
  have H4 := Aside0.mk h4
  have H5 := Aside0.mk h5
  have H6 := Aside0.mk h6
  have H7 := Aside0.mk h7
  have H8 := Aside0.mk h8
  have HF0 := Aside0.mk hf
  have HL := Aside0.mk hl
  have HR := Aside0.mk hR
  have HF := Aside0.mk hF
  have HLIM := Aside0.mk hlim
  have HN := Aside0.mk hn
  have HBS := Aside0.mk hbase
  have HROW := Aside0.mk hrow
  clear h1 h2 h3 h4 h5 h6 h7 h8 hf hl hR hF hlim hn hbase hrow
  go_enter Try.func18, Try.ntmps18
  go_wp2_with (first | (at_builtin; refine R_append1 khd (w0 := W) base rfl (.tmp 8) (.tmp 10) 46 23 (.slice none 0 0) 24 rfl Try.underlying46 (by kernel_rfl) rfl (by decide) (by decide) (.slice Av nB cv) (rowH nB hB) (⟨A, xs.length, c⟩ : Hd) [.slice A xs.length c] (fun b => GB b ∨ W.heap.size ≤ b) (fun _ => False) rfl rfl rfl (fun _ hk => hk.elim) (fun _ hk => .inr hk) (Kd.R_mono HROW.out (fun _ q => .inl q)) (Below.refl _ _) HBS.out (by rw [rowH_len]; have := HN.out; unfold maxLen; omega) (by rw [rowH_len]; exact khd_fits HN.out) ?_; intro v1 w1 ho hb hg hat; obtain ⟨A1, c1, e1⟩ := Kd.R_slice ho; rw [List.length_append, rowH_len] at e1; subst e1; have HO := Aside0.mk ho; have HB := Aside0.mk hb; have HG := Aside0.mk hg; have hs1 := (hg.block sh (blk_lt H1.out) (fun q => by obtain ⟨cells, hc⟩ := Kd.R_typed HROW.out sh q.symm; exact typ_neq H1.out hc (by decide) rfl)).trans H1.out; have HS1 := Aside0.mk hs1; clear ho hb hg hat hc0; have hc0 := blk_cell hs1 0; have hf0 := blk_frozen hs1 0; clear hs1))
  go_end0
  obtain ⟨v1, hv1⟩ : ∃ v1, v1 = Value.slice A1 (nB + 1) c1 := ⟨_, rfl⟩
  rw [← hv1]
  replace HO := Aside0.mk (show khd.R 23 w1 base (fun b => GB b ∨ W.heap.size ≤ b) v1 (rowH nB hB ++ [(⟨A, xs.length, c⟩ : Hd)]) by rw [hv1]; exact HO.out)
  have hs2 := blk_set HS1.out 0 v1
  have hkA : Kept W w1 (fun b => some b = (Value.slice Av nB cv).ownBlock) := Kept.of_grown HG.out (Kept.refl W _) (fun k q => .inl (by rw [q]))
  have hkB : Kept w1 (w1.setCell ⟨sh, 0, none⟩ v1) (fun b => b = sh) := (Kept.refl w1 (fun b => b = sh)).setCell (p := ⟨sh, 0, none⟩) (.inl rfl) _
  have hvG : ∀ b, some b = (Value.slice Av nB cv).ownBlock → GB b := fun b q => HROW.out.1 b q.symm
  have hkS : Kept W (w1.setCell ⟨sh, 0, none⟩ v1) (fun b => F b ∧ ∃ cs t, W.heap[b]? = some (.cells cs t (0, 0)) ∧ (t = 49 ∨ t = 23)) := (hkA.mono (fun b q => ⟨H4.out b (hvG b q), by obtain ⟨cs, h9⟩ := Kd.R_typed HROW.out b q.symm; exact ⟨cs, _, h9, .inr rfl⟩⟩)).then_ hkB (fun b q => .inl (by rw [q]; exact ⟨HF0.out, _, _, H1.out, .inl rfl⟩))
  have hsz : (w1.setCell ⟨sh, 0, none⟩ v1).heap.size = w1.heap.size := by simp [World.setCell]
  have hownF : ∀ b, some b = (Value.slice A xs.length c).ownBlock → ¬ F b ∧ base ≤ b ∧ b < W.heap.size := fun b q => ⟨HF.out b (HR.out.1 b q.symm), Kd.R_base HR.out b q.symm, Kd.R_lt HR.out b q.symm⟩
  have hst : ∀ (t : TypeId) {α : Type} (dd : Kd α) (ok : Nat → Prop) (u : Value) (ys : List α), dd.E = [] → t ≠ 49 → dd.R t w1 base ok u ys → dd.R t (w1.setCell ⟨sh, 0, none⟩ v1) base ok u ys := fun t α dd ok u ys hE ht q => Kd.R_set q HS1.out (fun z hz => by rw [hE] at hz; rw [List.mem_singleton.1 hz]; exact ht) _ _
  have hRn := hst _ _ _ _ _ rfl (by decide) (Kd.R_grown (Kd.R_tight2 rfl HR.out) HG.out (fun b q e => HF.out b q.2 (H4.out b (hvG b e))))
  have hrn := hst _ _ _ _ _ rfl (by decide) HO.out
  have hgrp := Grp.add (h := ⟨A, xs.length, c⟩) (G' := fun b => GB b ∨ some b = (Value.slice A xs.length c).ownBlock ∨ W.heap.size ≤ b) H2.out (Kd.R_mono hRn (fun b q => .inr (.inl q.1))) (Kd.R_mono hrn (fun b q => q.elim .inl (fun q => .inr (.inr q)))) (fun b q => .inl q) (fun b q q2 => (hownF b q.symm).1 (H4.out b q2)) (fun j hj ys q => hst _ _ _ _ _ rfl (by decide) (Kd.R_over' q (Kd.R_typed HROW.out) (fun z hz => by rw [show (Kd.int .u8).E = [] from rfl] at hz; rw [List.mem_singleton.1 hz]; decide) HG.out))
  have hoth := (H3.out.kept hkA (fun b q e => H6.out b (hvG b e) q)).kept (S := fun b => b = sh) hkB
  have hoth2 := Grp.over H3.out hkA (fun b q e => H6.out b (hvG b e) q) HS1.out (by decide) (by decide) 0 v1
  clear hoth
  have hgrp2 := hgrp.bound.mono (G' := fun b => (GB b ∨ some b = (Value.slice A xs.length c).ownBlock ∨ W.heap.size ≤ b) ∧ base ≤ b ∧ b < (w1.setCell ⟨sh, 0, none⟩ v1).heap.size) (fun b q => ⟨q.1, q.2.1, q.2.2.1⟩)
  have hin : ∀ b, F b → b < (w1.setCell ⟨sh, 0, none⟩ v1).heap.size := fun b q => Nat.lt_of_lt_of_le (HL.out b q).2 hkS.1
  have hap : ∀ b, ((GB b ∨ some b = (Value.slice A xs.length c).ownBlock ∨ W.heap.size ≤ b) ∧ base ≤ b ∧ b < (w1.setCell ⟨sh, 0, none⟩ v1).heap.size) → GI b → False := fun b q qi => by
    have h9 := H5.out b qi
    rcases q.1 with q1 | q1 | q1
    · exact H6.out b q1 qi
    · exact (hownF b q1).1 h9
    · have := (HL.out b h9).2
      omega
  have hlm : ∀ j, j < nB + 1 → ((if j = nB then (⟨A, xs.length, c⟩ : Hd) else hB j).n + 80 ≤ 140737488351400) := fun j hj => by
    by_cases e : j = nB
    · rw [if_pos e]; exact HLIM.out
    · rw [if_neg e]; exact H7.out j (by omega)
  have hto : ∀ b, ((GB b ∨ some b = (Value.slice A xs.length c).ownBlock ∨ W.heap.size ≤ b) ∧ base ≤ b ∧ b < (w1.setCell ⟨sh, 0, none⟩ v1).heap.size) → (F b ∨ some b = (Value.slice A xs.length c).ownBlock ∨ W.heap.size ≤ b) ∧ b < (w1.setCell ⟨sh, 0, none⟩ v1).heap.size := fun b q => ⟨q.1.imp (H4.out b) id, q.2.2⟩
  have hbs : ∀ b, (F b ∨ some b = (Value.slice A xs.length c).ownBlock ∨ W.heap.size ≤ b) → base ≤ b := fun b q => by
    rcases q with q | q | q
    · exact (HL.out b q).1
    · exact (hownF b q).2.1
    · exact Nat.le_trans HBS.out q
  exact ⟨rfl, ⟨⟨_, GI, v1, vI, _, hI, hs2, hgrp2, hoth2, hto, fun b q => ⟨.inl (H5.out b q), hin b (H5.out b q)⟩, hap, hlm, H8.out⟩, ⟨.inl HF0.out, hin _ HF0.out⟩, fun b q => ⟨hbs b q.1, q.2⟩⟩, hkS, fun B w0 hB hb => (below_far hb hB HB.out).setCell (Nat.le_trans hB (HL.out sh HF0.out).1) _⟩
end Go.Proofs.Ytfakdphkklclgaa.P

end

section
namespace Go.Proofs.Ytfakdphkklclgaa.P
open Go.RowKit Go.Proofs.YtfakdphkklclgaaW.PrintWords Go.Proofs.YtfakdphkklclgaaW.PrintLast Go.Proofs.YtfakdphkklclgaaW.PrintMore
attribute [local go_sem] max2_int min2_int max_two min_two max_three min_three max_four min_four
set_option linter.unusedVariables false
set_option linter.unusedSimpArgs false
theorem R_two {k : IntKind} {te : TypeId} {W : World} {base : Nat} {G : Nat → Prop} {v : Value} {xs : List Int} (h : Kd.R (Kd.int k) te W base G v xs) : Kd.R (Kd.int k) te W base (fun b => v.ownBlock = some b) v xs := Kd.R_mono (Kd.R_tight2 rfl h) (fun b q => q.1.symm)
structure Mor (k : IntKind) (te ts : TypeId) (base S0 : Nat) (G : Nat → Prop) (v : Value) (n : Nat) (hd : Nat → Hd) (i : Nat) (vM : Value) (gh : Nat → Hd) (P : Nat → Nat → Prop) (W : World) : Prop where
  row : khd.R ts W base (fun b => G b ∧ b < S0) v (rowH n hd)
  own : ∀ j, j < n → i ≤ j → Kd.R (Kd.int k) te W base (P j) (hd j).v (List.replicate (hd j).n (mrk j))
  got : ∀ j, j < i → Kd.F (Kd.int k) W (P j) (hd j).A (hd j).n (List.replicate (hd j).n (mrk j)) ∧ Kd.F (Kd.int k) W (P j) (gh j).A (gh j).n (List.replicate ((hd j).n + 80) (mrk j)) ∧ (gh j).n = (hd j).n + 80 ∧ (gh j).n ≤ (gh j).c
  more : khd.R ts W base (fun b => S0 ≤ b) vM (rowH i gh)
  sub : ∀ j b, j < n → P j b → (G b ∨ S0 ≤ b) ∧ b < W.heap.size ∧ vM.ownBlock ≠ some b ∧ v.ownBlock ≠ some b
  ne : ∀ j j' b, j < n → j' < n → P j b → P j' b → j = j'
  le : base ≤ S0 ∧ S0 ≤ W.heap.size
theorem Mor.start {k : IntKind} {te ts : TypeId} {W : World} {base : Nat} {G : Nat → Prop} {v : Value} {n : Nat} {hd : Nat → Hd} {m : Nat} (h : Grp k te ts W base G v n hd n m) (ht : te ≠ ts) (hb : base ≤ W.heap.size) : Mor k te ts base W.heap.size G v n hd 0 (.slice none 0 0) (fun _ => hz) (fun j b => (hd j).v.ownBlock = some b) W := by
  have hown : ∀ j, j < n → ∀ b, (hd j).v.ownBlock = some b → G b ∧ b < W.heap.size ∧ ∃ cs, W.heap[b]? = some (.cells cs te (0, 0)) := fun j hj b q => by
    have h1 := h.marked hj hj
    exact ⟨h1.1 b q, Kd.R_lt h1 b q, Kd.R_typed h1 b q⟩
  refine ⟨Kd.R_mono (Kd.R_bound h.row) (fun b q => ⟨q.1, q.2.2.1⟩), fun j hj _ => R_two (h.marked hj hj), fun j hj => absurd hj (by omega), Kd.R_nil _ _ _ _ _, fun j b hj q => ⟨.inl (hown j hj b q).1, (hown j hj b q).2.1, fun e => by simp [Value.ownBlock] at e, fun e => ?_⟩, fun j j' b hj hj' q q' => ?_, hb, Nat.le_refl _⟩
  · obtain ⟨cs, h1⟩ := (hown j hj b q).2.2
    obtain ⟨ds, h2⟩ := Kd.R_typed h.row b e
    exact typ_neq h1 h2 ht rfl
  · by_cases e : j = j'
    · exact e
    · exact absurd q' (h.ne j j' hj hj' e b q)
structure Inn (k : IntKind) (te ts : TypeId) (base S0 S1 : Nat) (G : Nat → Prop) (v : Value) (n : Nat) (hd : Nat → Hd) (i : Nat) (vM : Value) (gh : Nat → Hd) (P : Nat → Nat → Prop) (t : Nat) (g : Hd) (W : World) : Prop where
  row : khd.R ts W base (fun b => G b ∧ b < S0) v (rowH n hd)
  own : ∀ j, j < n → i + 1 ≤ j → Kd.R (Kd.int k) te W base (P j) (hd j).v (List.replicate (hd j).n (mrk j))
  got : ∀ j, j < i → Kd.F (Kd.int k) W (P j) (hd j).A (hd j).n (List.replicate (hd j).n (mrk j)) ∧ Kd.F (Kd.int k) W (P j) (gh j).A (gh j).n (List.replicate ((hd j).n + 80) (mrk j)) ∧ (gh j).n = (hd j).n + 80 ∧ (gh j).n ≤ (gh j).c
  more : khd.R ts W base (fun b => S0 ≤ b) vM (rowH i gh)
  sub : ∀ j b, j < n → P j b → (G b ∨ S0 ≤ b) ∧ b < S1 ∧ vM.ownBlock ≠ some b ∧ v.ownBlock ≠ some b
  ne : ∀ j j' b, j < n → j' < n → P j b → P j' b → j = j'
  le : base ≤ S0 ∧ S0 ≤ S1 ∧ S1 ≤ W.heap.size
  mlt : ∀ b, vM.ownBlock = some b → b < S1
  cur : Kd.R (Kd.int k) te W base (fun b => P i b ∨ S1 ≤ b) g.v (List.replicate ((hd i).n + t) (mrk i))
  bas : ∃ Pb : Nat → Prop, (∀ b, Pb b → P i b ∨ S1 ≤ b) ∧ (∀ b, Pb b → b < W.heap.size) ∧ Kd.F (Kd.int k) W Pb (hd i).A (hd i).n (List.replicate (hd i).n (mrk i)) ∧ ((∀ b, Pb b → g.v.ownBlock ≠ some b) ∨ (hd i).A = g.A)
theorem Mor.enter {k : IntKind} {te ts : TypeId} {W : World} {base S0 : Nat} {G : Nat → Prop} {v vM : Value} {n i : Nat} {hd gh : Nat → Hd} {P : Nat → Nat → Prop} (h : Mor k te ts base S0 G v n hd i vM gh P W) (hi : i < n) : Inn k te ts base S0 W.heap.size G v n hd i vM gh P 0 (hd i) W :=
  ⟨h.row, fun j hj hij => h.own j hj (by omega), h.got, h.more, fun j b hj q => h.sub j b hj q, h.ne, ⟨h.le.1, h.le.2, Nat.le_refl _⟩, fun b q => Kd.R_lt h.more b q, Kd.R_mono (h.own i hi (Nat.le_refl _)) (fun b q => .inl q), P i, fun b q => .inl q, fun b q => (h.sub i b hi q).2.1, Kd.R_F (h.own i hi (Nat.le_refl _)), .inr rfl⟩
theorem Inn.step {k : IntKind} {te ts : TypeId} {W W1 : World} {base S0 S1 : Nat} {G : Nat → Prop} {v vM : Value} {n i t : Nat} {hd gh : Nat → Hd} {g : Hd} {P : Nat → Nat → Prop} (h : Inn k te ts base S0 S1 G v n hd i vM gh P t g W) (hb : Below W.heap.size W W1) : Inn k te ts base S0 S1 G v n hd i vM gh P t g W1 := by
  obtain ⟨Pb, b1, b2, b3, b4⟩ := h.bas
  exact ⟨Kd.R_below h.row hb, fun j hj hij => Kd.R_below (h.own j hj hij) hb, fun j hj => ⟨Kd.F_below (h.got j hj).1 hb, Kd.F_below (h.got j hj).2.1 hb, (h.got j hj).2.2⟩, Kd.R_below h.more hb, h.sub, h.ne, ⟨h.le.1, h.le.2.1, Nat.le_trans h.le.2.2 hb.size⟩, h.mlt, Kd.R_below h.cur hb, Pb, b1, fun b q => Nat.lt_of_lt_of_le (b2 b q) hb.size, Kd.F_below b3 hb, b4⟩
theorem Inn.more1 {k : IntKind} {te ts : TypeId} {W w1 : World} {base S0 S1 : Nat} {G : Nat → Prop} {v vM v1 : Value} {n i t : Nat} {hd gh : Nat → Hd} {g : Hd} {P : Nat → Nat → Prop} (h : Inn k te ts base S0 S1 G v n hd i vM gh P t g W) (hi : i < n) (ht : te ≠ ts)
    (hR : Kd.R (Kd.int k) te w1 base (fun b => (P i b ∨ S1 ≤ b) ∨ W.heap.size ≤ b) v1 (List.replicate ((hd i).n + t) (mrk i) ++ [mrk i])) (hg : W.grownBy w1 g.v.ownBlock) (hat : v1.ownBlock = g.v.ownBlock ∨ ((∃ b, v1.ownBlock = some b ∧ W.heap.size ≤ b) ∧ W.grownBy w1 none)) :
    ∃ g1 : Hd, v1 = g1.v ∧ g1.n = (hd i).n + (t + 1) ∧ Inn k te ts base S0 S1 G v n hd i vM gh P (t + 1) g1 w1 := by
  obtain ⟨A1, c1, rfl⟩ := Kd.R_slice hR
  have hlen : (List.replicate ((hd i).n + t) (mrk i) ++ [mrk i]).length = (hd i).n + (t + 1) := by simp; omega
  have hrep : List.replicate ((hd i).n + t) (mrk i) ++ [mrk i] = List.replicate ((hd i).n + (t + 1)) (mrk i) := by
    rw [← Nat.add_assoc, List.replicate_succ']
  rw [hlen] at hR hat ⊢
  rw [hrep] at hR
  refine ⟨⟨A1, (hd i).n + (t + 1), c1⟩, rfl, rfl, ?_⟩
  have hcur : Kd.R (Kd.int k) te w1 base (fun b => P i b ∨ S1 ≤ b) (Value.slice A1 ((hd i).n + (t + 1)) c1) (List.replicate ((hd i).n + (t + 1)) (mrk i)) := Kd.R_mono hR (fun b q => q.elim id (fun q => .inr (Nat.le_trans h.le.2.2 q)))
  have hty := Kd.R_typed h.cur
  have hcurlt := h.cur.1
  have hkA : Kept W w1 (fun b => g.v.ownBlock = some b) := Kept.of_grown hg (Kept.refl W _) (fun b q => .inl q)
  have hoff : ∀ j, j < n → j ≠ i → ∀ b, P j b → ¬ g.v.ownBlock = some b := fun j hj hne b q e => by
    rcases hcurlt b e with q2 | q2
    · exact hne (h.ne j i b hj hi q q2)
    · have := (h.sub j b hj q).2.1
      omega
  have hne' : ∀ q, q ∈ ts :: khd.E → q ≠ te := fun q hq => by
    rw [show khd.E = [] from rfl] at hq
    rw [List.mem_singleton.1 hq]
    exact ht.symm
  obtain ⟨Pb, b1, b2, b3, b4⟩ := h.bas
  refine ⟨Kd.R_over' h.row hty hne' hg, fun j hj hij => Kd.R_kept (h.own j hj hij) hkA (fun b q => hoff j hj (by omega) b q), fun j hj => ⟨Kd.F_kept (h.got j hj).1 hkA (fun b q => hoff j (by omega) (by omega) b q), Kd.F_kept (h.got j hj).2.1 hkA (fun b q => hoff j (by omega) (by omega) b q), (h.got j hj).2.2⟩, Kd.R_over' h.more hty hne' hg, h.sub, h.ne, ⟨h.le.1, h.le.2.1, Nat.le_trans h.le.2.2 hkA.1⟩, h.mlt, hcur, ?_⟩
  rcases hat with hat | ⟨⟨b, hb, hge⟩, hgn⟩
  · rcases b4 with b4 | b4
    · exact ⟨Pb, b1, fun b q => Nat.lt_of_lt_of_le (b2 b q) hkA.1, Kd.F_kept b3 hkA (fun b q => b4 b q), .inl (fun b q e => b4 b q (hat ▸ e))⟩
    · have h5 : Kd.F (Kd.int k) w1 (fun b => (Value.slice A1 ((hd i).n + (t + 1)) c1).ownBlock = some b) A1 ((hd i).n + (t + 1)) (List.replicate ((hd i).n + (t + 1)) (mrk i)) := Kd.R_F (R_two hcur)
      have hl1 : (List.replicate ((hd i).n + (t + 1)) (mrk i)).length = (hd i).n + (t + 1) := List.length_replicate
      have h6 : Kd.F (Kd.int k) w1 (fun b => (Value.slice A1 ((hd i).n + (t + 1)) c1).ownBlock = some b) A1 (hd i).n (List.replicate (hd i).n (mrk i)) := Kd.F_imp h5 (fun W' hC => by
        have h9 := Kd.C_take (m := (hd i).n) (show Kd.C (Kd.int k) W' A1 (List.replicate ((hd i).n + (t + 1)) (mrk i)).length (List.replicate ((hd i).n + (t + 1)) (mrk i)) by rw [hl1]; exact hC) (by rw [hl1]; omega)
        rw [List.take_replicate, Nat.min_eq_left (by omega)] at h9
        rw [List.length_replicate] at h9
        exact h9)
      have hA : A1 = g.A := by
        obtain ⟨gb, cap, e, _⟩ := Kd.R_form hcur (by rw [hl1]; omega)
        injection e with e1 _ _
        have e9 : (Value.slice A1 ((hd i).n + (t + 1)) c1).ownBlock = some gb := by rw [e1]; rfl
        rw [hat] at e9
        have e10 : g.v.ownBlock = some gb := e9
        by_cases hz : 0 < (hd i).n + t
        · obtain ⟨gb2, cap2, e2, _⟩ := Kd.R_form h.cur (by rw [List.length_replicate]; exact hz)
          unfold Hd.v at e2 e10
          injection e2 with e3 _ _
          rw [e3] at e10 ⊢
          simp only [Value.ownBlock, Option.some.injEq] at e10
          rw [e1, e10]
        · unfold Hd.v at e10
          cases hgA : g.A with
          | none => rw [hgA] at e10; simp [Value.ownBlock] at e10
          | some ad =>
            rw [hgA] at e10
            simp only [Value.ownBlock, Option.some.injEq] at e10
            have hc := h.cur
            unfold Hd.v at hc
            rw [hgA] at hc
            obtain ⟨g3, e11⟩ := Kd.R_head hc
            subst e11
            rw [e1, ← e10]
      exact ⟨_, fun b q => hcur.1 b q, fun b q => Kd.R_lt hcur b q, by rw [b4, ← hA]; exact h6, .inr (b4.trans hA.symm)⟩
  · have hkN : Kept W w1 (fun _ => False) := Kept.of_grown hgn (Kept.refl W _) (fun b q => by cases q)
    refine ⟨Pb, b1, fun b q => Nat.lt_of_lt_of_le (b2 b q) hkN.1, Kd.F_kept b3 hkN (fun b _ q => q), .inl (fun b' q e => ?_)⟩
    rw [show (Hd.v ⟨A1, (hd i).n + (t + 1), c1⟩).ownBlock = some b from hb] at e
    injection e with e
    have := b2 b' q
    omega
theorem Inn.leave {k : IntKind} {te ts : TypeId} {W w1 : World} {base S0 S1 : Nat} {G : Nat → Prop} {v vM v1 : Value} {n i : Nat} {hd gh : Nat → Hd} {g : Hd} {P : Nat → Nat → Prop} (h : Inn k te ts base S0 S1 G v n hd i vM gh P 80 g W) (hi : i < n) (ht : te ≠ ts)
    (hR : khd.R ts w1 base (fun b => S0 ≤ b ∨ W.heap.size ≤ b) v1 (rowH i gh ++ [g])) (hg : W.grownBy w1 vM.ownBlock) (hat : v1.ownBlock = vM.ownBlock ∨ ∃ b, v1.ownBlock = some b ∧ W.heap.size ≤ b) :
    ∃ (gh' : Nat → Hd) (P' : Nat → Nat → Prop), Mor k te ts base S0 G v n hd (i + 1) v1 gh' P' w1 := by
  obtain ⟨Pb, b1, b2, b3, b4⟩ := h.bas
  have hkA : Kept W w1 (fun b => vM.ownBlock = some b) := Kept.of_grown hg (Kept.refl W _) (fun b q => .inl q)
  have hvM : ∀ b, vM.ownBlock = some b → S0 ≤ b ∧ b < S1 := fun b q => ⟨h.more.1 b q, h.mlt b q⟩
  have hcl := Kd.R_reads' h.cur
  have hn1 : g.n = (hd i).n + 80 := by rw [hcl.1, List.length_replicate]
  have hmt := Kd.R_typed h.more
  have hgt : ∀ b, g.v.ownBlock = some b → ¬ vM.ownBlock = some b := fun b q e => by
    obtain ⟨cs, h1⟩ := Kd.R_typed h.cur b q
    obtain ⟨ds, h2⟩ := hmt b e
    exact typ_neq h1 h2 ht rfl
  have hvt : ∀ b, g.v.ownBlock = some b → ¬ v.ownBlock = some b := fun b q e => by
    obtain ⟨cs, h1⟩ := Kd.R_typed h.cur b q
    obtain ⟨ds, h2⟩ := Kd.R_typed h.row b e
    exact typ_neq h1 h2 ht rfl
  have hP' : ∀ b, (P i b ∨ (S1 ≤ b ∧ (Pb b ∨ g.v.ownBlock = some b))) → vM.ownBlock = some b → False := fun b q e => by
    rcases q with q | ⟨q, q2⟩
    · exact (h.sub i b hi q).2.2.1 e
    · have := (hvM b e).2
      omega
  have hrowlt : ∀ b, v.ownBlock = some b → b < S0 := fun b q => (h.row.1 b q).2
  refine ⟨fun j => if j = i then g else gh j, fun j b => if j = i then P i b ∨ (S1 ≤ b ∧ b < W.heap.size ∧ (Pb b ∨ g.v.ownBlock = some b)) else P j b, ?_⟩
  have hPi : ∀ b, (P i b ∨ (S1 ≤ b ∧ b < W.heap.size ∧ (Pb b ∨ g.v.ownBlock = some b))) → vM.ownBlock ≠ some b := fun b q => fun e => hP' b (q.imp id (fun q => ⟨q.1, q.2.2⟩)) e
  have hcw : ∀ b, (Pb b ∨ g.v.ownBlock = some b) → (P i b ∨ (S1 ≤ b ∧ b < W.heap.size ∧ (Pb b ∨ g.v.ownBlock = some b))) := fun b q => by
    have h1 : P i b ∨ S1 ≤ b := q.elim (b1 b) (fun q => h.cur.1 b q)
    have h2 : b < W.heap.size := q.elim (b2 b) (fun q => Kd.R_lt h.cur b q)
    exact h1.imp id (fun h3 => ⟨h3, h2, q⟩)
  refine ⟨Kd.R_kept h.row hkA (fun b q e => ?_), fun j hj hij => ?_, fun j hj => ?_, ?_, fun j b hj q => ?_, fun j j' b hj hj' q q' => ?_, h.le.1, Nat.le_trans h.le.2.1 (Nat.le_trans h.le.2.2 hkA.1)⟩
  · have := (hvM b e).1
    have := q.2
    omega
  · have hji : ¬ j = i := by omega
    have h1 := Kd.R_kept (h.own j hj (by omega)) hkA (fun b q => (h.sub j b hj q).2.2.1)
    exact Kd.R_mono h1 (fun b q => by simp only [if_neg hji]; exact q)
  · by_cases e : j = i
    · subst e
      simp only [if_pos]
      refine ⟨Kd.F_mono (Kd.F_kept b3 hkA (fun b q => hPi b (hcw b (.inl q)))) (fun b q => hcw b (.inl q)), ?_, hn1, hcl.2.1⟩
      have h5 : Kd.F (Kd.int k) W (fun b => g.v.ownBlock = some b) g.A g.n (List.replicate ((hd j).n + 80) (mrk j)) := Kd.R_F (R_two h.cur)
      exact Kd.F_mono (Kd.F_kept h5 hkA (fun b q => hPi b (hcw b (.inr q)))) (fun b q => hcw b (.inr q))
    · simp only [if_neg e]
      have hji : j < i := by omega
      exact ⟨Kd.F_kept (h.got j hji).1 hkA (fun b q => (h.sub j b (by omega) q).2.2.1), Kd.F_kept (h.got j hji).2.1 hkA (fun b q => (h.sub j b (by omega) q).2.2.1), (h.got j hji).2.2⟩
  · rw [rowH_succ, rowH_same (f := gh) (fun j hj => if_neg (Nat.ne_of_lt hj))]
    rw [show (if i = i then g else gh i) = g from if_pos rfl]
    exact Kd.R_mono hR (fun b q => q.elim id (fun q => Nat.le_trans h.le.2.1 (Nat.le_trans h.le.2.2 q)))
  · have hv1 : ∀ b, v1.ownBlock = some b → vM.ownBlock = some b ∨ W.heap.size ≤ b := fun b e => by
      rcases hat with hat | ⟨b', hb, hge⟩
      · left; rw [← hat]; exact e
      · right
        rw [hb] at e
        injection e with e
        omega
    by_cases e : j = i
    · subst e
      simp only [if_pos] at q
      have h1 : b < W.heap.size := q.elim (fun q => Nat.lt_of_lt_of_le (h.sub j b hj q).2.1 h.le.2.2) (fun q => q.2.1)
      refine ⟨q.elim (fun q => (h.sub j b hj q).1) (fun q => .inr (Nat.le_trans h.le.2.1 q.1)), Nat.lt_of_lt_of_le h1 hkA.1, fun e => (hv1 b e).elim (hPi b q) (fun q2 => by omega), fun e => ?_⟩
      rcases q with q | q
      · exact (h.sub j b hj q).2.2.2 e
      · have := hrowlt b e
        have := h.le.2.1
        omega
    · simp only [if_neg e] at q
      have h1 := h.sub j b hj q
      exact ⟨h1.1, Nat.lt_of_lt_of_le h1.2.1 (Nat.le_trans h.le.2.2 hkA.1), fun e => (hv1 b e).elim h1.2.2.1 (fun q2 => by have := h.le.2.2; omega), h1.2.2.2⟩
  · have hmix : ∀ j, j < n → ¬ j = i → ∀ b, P j b → (P i b ∨ (S1 ≤ b ∧ b < W.heap.size ∧ (Pb b ∨ g.v.ownBlock = some b))) → False := fun j hj hne b q q2 => by
      rcases q2 with q2 | q2
      · exact hne (h.ne j i b hj hi q q2)
      · have := (h.sub j b hj q).2.1
        omega
    by_cases e : j = i
    · by_cases e' : j' = i
      · omega
      · simp only [if_pos e] at q
        simp only [if_neg e'] at q'
        exact (hmix j' hj' e' b q' q).elim
    · simp only [if_neg e] at q
      by_cases e' : j' = i
      · simp only [if_pos e'] at q'
        exact (hmix j hj e b q q').elim
      · simp only [if_neg e'] at q'
        exact h.ne j j' b hj hj' q q'
structure Dun (k : IntKind) (Z : Nat → Prop) (A : Option Addr) (c n : Nat) (hd : Nat → Hd) (AM : Option Addr) (cM : Nat) (gh : Nat → Hd) (W : World) : Prop where
  row : Kd.F khd W Z A n (rowH n hd)
  more : Kd.F khd W Z AM n (rowH n gh)
  got : ∀ j, j < n → Kd.F (Kd.int k) W Z (hd j).A (hd j).n (List.replicate (hd j).n (mrk j)) ∧ Kd.F (Kd.int k) W Z (gh j).A (gh j).n (List.replicate ((hd j).n + 80) (mrk j)) ∧ (gh j).n = (hd j).n + 80
theorem Dun.kept {k : IntKind} {Z S : Nat → Prop} {A AM : Option Addr} {c cM n : Nat} {hd gh : Nat → Hd} {W W1 : World} (h : Dun k Z A c n hd AM cM gh W) (hk : Kept W W1 S) (hZ : ∀ b, Z b → ¬ S b) : Dun k Z A c n hd AM cM gh W1 :=
  ⟨Kd.F_kept h.row hk hZ, Kd.F_kept h.more hk hZ, fun j hj => ⟨Kd.F_kept (h.got j hj).1 hk hZ, Kd.F_kept (h.got j hj).2.1 hk hZ, (h.got j hj).2.2⟩⟩
theorem Dun.step {k : IntKind} {Z : Nat → Prop} {A AM : Option Addr} {c cM n : Nat} {hd gh : Nat → Hd} {W W1 : World} (h : Dun k Z A c n hd AM cM gh W) (hb : Below W.heap.size W W1) : Dun k Z A c n hd AM cM gh W1 := h.kept (S := fun _ => False) (Kept.of_below hb _) (fun _ _ q => q)
theorem Mor.done {k : IntKind} {te ts : TypeId} {W : World} {base S0 : Nat} {G : Nat → Prop} {A AM : Option Addr} {c cM n : Nat} {hd gh : Nat → Hd} {P : Nat → Nat → Prop} (h : Mor k te ts base S0 G (.slice A n c) n hd n (.slice AM n cM) gh P W) : Dun k (fun b => (G b ∨ S0 ≤ b) ∧ b < W.heap.size) A c n hd AM cM gh W := by
  refine ⟨Kd.F_mono (Kd.R_F (Kd.R_bound h.row)) (fun b q => ⟨.inl q.1.1, q.2.2.1⟩), Kd.F_mono (Kd.R_F (Kd.R_bound h.more)) (fun b q => ⟨.inr q.1, q.2.2.1⟩), fun j hj => ?_⟩
  have hs : ∀ b, P j b → (G b ∨ S0 ≤ b) ∧ b < W.heap.size := fun b q => ⟨(h.sub j b hj q).1, (h.sub j b hj q).2.1⟩
  exact ⟨Kd.F_mono (h.got j hj).1 hs, Kd.F_mono (h.got j hj).2.1 hs, (h.got j hj).2.2.1⟩
end Go.Proofs.Ytfakdphkklclgaa.P

end

section
namespace Go.Proofs.Ytfakdphkklclgaa.P
open Go.RowKit Go.Proofs.YtfakdphkklclgaaW.PrintWords Go.Proofs.YtfakdphkklclgaaW.PrintLast Go.Proofs.YtfakdphkklclgaaW.PrintMore
attribute [local go_sem] max2_int min2_int max_two min_two max_three min_three max_four min_four
set_option linter.unusedVariables false
set_option linter.unusedSimpArgs false
theorem at_hd {W : World} {A : Option Addr} {n : Nat} {xs : List Hd} (h : khd.C W A n xs) (i : Int) (h0 : 0 ≤ i) (h1 : i < n) : ∃ ad, A = some ad ∧ W.cell? (ad.add i.toNat) = some (rdOf hz xs i).v :=
  ReadsOf.at_ (Kd.reads_of_C (enc := Hd.v) (d := hz) (h1 := fun _ => rfl) h) i h0 h1
theorem rep_at (n j : Nat) (x : Int) (h : j < n) : rd (List.replicate n x) (j : Int) = x := by
  unfold rd
  rw [Int.toNat_natCast, List.getD_eq_getElem?_getD, List.getElem?_replicate, if_pos h]
  rfl
theorem mrk_u8 (i : Nat) : IntKind.u8.wrap (mrk i) = mrk i := by
  have := mrk_range i
  rw [IntKind.wrap_u8]
  omega
theorem wrap_n {j n : Nat} (h : j < n) (hn : n ≤ 9223372036854775807) : wrap64 ((j : Int) + 1) = ((j + 1 : Nat) : Int) := by unfold wrap64; omega
theorem meas_n {j n : Nat} (h : j < n) (hn : n ≤ 9223372036854775807) : ((n : Int) - intOf (.int .i64 (wrap64 ((j : Int) + 1)))).toNat < ((n : Int) - intOf (.int .i64 (j : Int))).toNat := by
  rw [wrap_n h hn]
  show ((n : Int) - ((j + 1 : Nat) : Int)).toNat < ((n : Int) - (j : Int)).toNat
  omega
set_option maxHeartbeats 3200000 in
set_option maxRecDepth 100000 in
theorem marked_sh (w : World) (sh nB nI : Nat) (AB AI MB MI : Option Addr) (cB cI dB dI : Nat) (hdB ghB hdI ghI : Nat → Hd) (ZB ZI : Nat → Prop) (hblk : w.heap[sh]? = some (.cells #[.slice AB nB cB, .slice AI nI cI] 49 (0, 0))) (hDB : Dun .u8 ZB AB cB nB hdB MB dB ghB w) (hDI : Dun .i64 ZI AI cI nI hdI MI dI ghI w) :
    Calls Try.prog 51 #[.pointer (some ⟨sh, 0, none⟩), .slice MB nB dB, .slice MI nI dI] w fun e w' => e = .returned (.bool true) ∧ Below w.heap.size w w' := by
  have HBLK := Aside0.mk hblk
  have HDB := Aside0.mk hDB
  have HDI := Aside0.mk hDI
  have HB := Aside0.mk (Below.refl w.heap.size w)
  have hc0 := blk_cell hblk 0
  clear hblk hDB hDI
  go_enter Try.func51, Try.ntmps51
  go_wp2_with fail
  go_loopw [24] (fun v24 wr => ∃ i : Nat, v24 = .int .i64 (i : Int) ∧ i ≤ nB ∧ Aside0 (Below w.heap.size w wr)) (fun v24 _ => (nB : Int) - intOf v24 |>.toNat)
  case atStart => exact ⟨0, rfl, Nat.zero_le _, HB⟩
  case round =>
    clear HB
    obtain ⟨i, rfl, hi, HB⟩ := hrel
    by_cases c1 : i < nB
    · have c1b : decide ((i : Int) < (nB : Int)) = true := decide_eq_true (by omega)
      have c1c : decide (i < nB) = true := decide_eq_true c1
      have p5 : (0 ≤ (i : Int)) = True := eq_true (by omega)
      have p6 : ((i : Int) < (nB : Int)) = True := eq_true (by omega)
      obtain ⟨q1, e1, hx1⟩ := at_hd (Kd.F_now (Kd.F_below HDB.out.row HB.out)) (i : Int) (by omega) (by omega)
      cases e1
      rw [rowH_at hdB c1, Int.toNat_natCast] at hx1
      have HNO := Aside0.mk (Kd.F_max HDB.out.row)
      have HMK := Aside0.mk (mrk_is i (by have := HNO.out; omega))
      obtain ⟨hg1, hg2, hg3⟩ := HDB.out.got i c1
      obtain ⟨Ai, ni, ci, hq1⟩ : ∃ Ai ni ci, hdB i = ⟨Ai, ni, ci⟩ := ⟨_, _, _, rfl⟩
      obtain ⟨Ag, ng, cg, hq2⟩ : ∃ Ag ng cg, ghB i = ⟨Ag, ng, cg⟩ := ⟨_, _, _, rfl⟩
      rw [hq1] at hx1 hg1 hg2 hg3
      rw [hq2] at hg2 hg3
      change _ = some (Value.slice Ai ni ci) at hx1
      change ng = ni + 80 at hg3
      have HG1 := Aside0.mk (show Kd.F (Kd.int .u8) w _ Ai ni (List.replicate ni (mrk i)) from hg1)
      have HG2 := Aside0.mk (show Kd.F (Kd.int .u8) w _ Ag ng (List.replicate ng (mrk i)) from by rw [hg3]; have := hg2; rw [hg3] at this; exact this)
      have HQ2 := Aside0.mk hq2
      have HI := Aside0.mk c1
      clear c1 hg1 hg2 hg3 hq1 hq2
      go_wp2_with fail
      go_loopw [31] (fun v31 wr => ∃ j : Nat, v31 = .int .i64 (j : Int) ∧ j ≤ ni ∧ Aside0 (Below w.heap.size w wr)) (fun v31 _ => ((ni : Nat) : Int) - intOf v31 |>.toNat)
      case atStart => exact ⟨0, rfl, Nat.zero_le _, HB⟩
      case round =>
        clear HB
        obtain ⟨j, rfl, hj, HB⟩ := hrel
        by_cases c2 : j < ni
        · have c2b : decide ((j : Int) < ((ni : Nat) : Int)) = true := decide_eq_true (by omega)
          have c2c : decide (j < ni) = true := decide_eq_true c2
          have p5 : (0 ≤ (j : Int)) = True := eq_true (by omega)
          have p6 : ((j : Int) < ((ni : Nat) : Int)) = True := eq_true (by omega)
          obtain ⟨ad2, e2, hx2⟩ := Kd.at_int (Kd.F_now (Kd.F_below HG1.out HB.out)) (j : Int) (by omega) (by omega)
          cases e2
          rw [rep_at _ _ _ c2, Int.toNat_natCast] at hx2
          have HJ := Aside0.mk c2
          have HNM := Aside0.mk (Kd.F_max HG1.out)
          clear c2
          go_wp2_with fail
          refine (provisoplain_mark.calls (i : Int) (mrk i) _ HMK.out).mono ?_
          rintro e_ w2 ⟨rfl, m2, rfl⟩
          replace HB := Aside0.mk (pw_below_drewN HB.out m2)
          clear hx2
          have hcv := mrk_u8 i
          go_wp2_with fail
          go_roundw
          case rel => exact ⟨j + 1, (by rw [wrap_n HJ.out HNM.out]), HJ.out, HB⟩
          case measure => exact meas_n HJ.out HNM.out
        · have c2b : decide ((j : Int) < ((ni : Nat) : Int)) = false := decide_eq_false (by omega)
          have c2c : decide (j < ni) = false := decide_eq_false c2
          clear c2 hj
          obtain ⟨q2, e3, hx3⟩ := at_hd (Kd.F_now (Kd.F_below HDB.out.more HB.out)) (i : Int) (by omega) (by have := HI.out; omega)
          cases e3
          rw [rowH_at ghB HI.out, Int.toNat_natCast] at hx3
          rw [HQ2.out] at hx3
          change _ = some (Value.slice Ag ng cg) at hx3
          have p5 : (0 ≤ (i : Int)) = True := eq_true (by omega)
          have p6 : ((i : Int) < (nB : Int)) = True := eq_true (by have := HI.out; omega)
          go_wp2_with fail
          go_loopw [46] (fun v46 wr => ∃ j : Nat, v46 = .int .i64 (j : Int) ∧ j ≤ ng ∧ Aside0 (Below w.heap.size w wr)) (fun v46 _ => ((ng : Nat) : Int) - intOf v46 |>.toNat)
          case atStart => exact ⟨0, rfl, Nat.zero_le _, HB⟩
          case round =>
            clear HB
            obtain ⟨j, rfl, hj, HB⟩ := hrel
            by_cases c2 : j < ng
            · have c2b : decide ((j : Int) < ((ng : Nat) : Int)) = true := decide_eq_true (by omega)
              have c2c : decide (j < ng) = true := decide_eq_true c2
              have p5 : (0 ≤ (j : Int)) = True := eq_true (by omega)
              have p6 : ((j : Int) < ((ng : Nat) : Int)) = True := eq_true (by omega)
              obtain ⟨ad2, e2, hx2⟩ := Kd.at_int (Kd.F_now (Kd.F_below HG2.out HB.out)) (j : Int) (by omega) (by omega)
              cases e2
              rw [rep_at _ _ _ c2, Int.toNat_natCast] at hx2
              have HJ := Aside0.mk c2
              have HNM := Aside0.mk (Kd.F_max HG2.out)
              clear c2
              go_wp2_with fail
              refine (provisoplain_mark.calls (i : Int) (mrk i) _ HMK.out).mono ?_
              rintro e_ w2 ⟨rfl, m2, rfl⟩
              replace HB := Aside0.mk (pw_below_drewN HB.out m2)
              clear hx2
              have hcv := mrk_u8 i
              go_wp2_with fail
              go_roundw
              case rel => exact ⟨j + 1, (by rw [wrap_n HJ.out HNM.out]), HJ.out, HB⟩
              case measure => exact meas_n HJ.out HNM.out
            · have c2b : decide ((j : Int) < ((ng : Nat) : Int)) = false := decide_eq_false (by omega)
              have c2c : decide (j < ng) = false := decide_eq_false c2
              clear c2 hj
              go_wp2_with fail
              go_roundw
              case rel => exact ⟨i + 1, (by rw [wrap_n HI.out HNO.out]), HI.out, HB⟩
              case measure => exact meas_n HI.out HNO.out
    · have c1b : decide ((i : Int) < (nB : Int)) = false := decide_eq_false (by omega)
      have c1c : decide (i < nB) = false := decide_eq_false c1
      clear c1 hi
      have hc1 := blk_cell (blk_below HBLK.out HB.out) 1
      go_wp2_with fail
      go_loopw [62] (fun v62 wr => ∃ i : Nat, v62 = .int .i64 (i : Int) ∧ i ≤ nI ∧ Aside0 (Below w.heap.size w wr)) (fun v62 _ => (nI : Int) - intOf v62 |>.toNat)
      case atStart => exact ⟨0, rfl, Nat.zero_le _, HB⟩
      case round =>
        clear HB
        obtain ⟨i, rfl, hi, HB⟩ := hrel
        by_cases c1 : i < nI
        · have c1b : decide ((i : Int) < (nI : Int)) = true := decide_eq_true (by omega)
          have c1c : decide (i < nI) = true := decide_eq_true c1
          have p5 : (0 ≤ (i : Int)) = True := eq_true (by omega)
          have p6 : ((i : Int) < (nI : Int)) = True := eq_true (by omega)
          obtain ⟨q1, e1, hx1⟩ := at_hd (Kd.F_now (Kd.F_below HDI.out.row HB.out)) (i : Int) (by omega) (by omega)
          cases e1
          rw [rowH_at hdI c1, Int.toNat_natCast] at hx1
          have HNO := Aside0.mk (Kd.F_max HDI.out.row)
          have HMK := Aside0.mk (mrk_is i (by have := HNO.out; omega))
          obtain ⟨hg1, hg2, hg3⟩ := HDI.out.got i c1
          obtain ⟨Ai, ni, ci, hq1⟩ : ∃ Ai ni ci, hdI i = ⟨Ai, ni, ci⟩ := ⟨_, _, _, rfl⟩
          obtain ⟨Ag, ng, cg, hq2⟩ : ∃ Ag ng cg, ghI i = ⟨Ag, ng, cg⟩ := ⟨_, _, _, rfl⟩
          rw [hq1] at hx1 hg1 hg2 hg3
          rw [hq2] at hg2 hg3
          change _ = some (Value.slice Ai ni ci) at hx1
          change ng = ni + 80 at hg3
          have HG1 := Aside0.mk (show Kd.F (Kd.int .i64) w _ Ai ni (List.replicate ni (mrk i)) from hg1)
          have HG2 := Aside0.mk (show Kd.F (Kd.int .i64) w _ Ag ng (List.replicate ng (mrk i)) from by rw [hg3]; have := hg2; rw [hg3] at this; exact this)
          have HQ2 := Aside0.mk hq2
          have HI := Aside0.mk c1
          clear c1 hg1 hg2 hg3 hq1 hq2
          go_wp2_with fail
          go_loopw [69] (fun v69 wr => ∃ j : Nat, v69 = .int .i64 (j : Int) ∧ j ≤ ni ∧ Aside0 (Below w.heap.size w wr)) (fun v69 _ => ((ni : Nat) : Int) - intOf v69 |>.toNat)
          case atStart => exact ⟨0, rfl, Nat.zero_le _, HB⟩
          case round =>
            clear HB
            obtain ⟨j, rfl, hj, HB⟩ := hrel
            by_cases c2 : j < ni
            · have c2b : decide ((j : Int) < ((ni : Nat) : Int)) = true := decide_eq_true (by omega)
              have c2c : decide (j < ni) = true := decide_eq_true c2
              have p5 : (0 ≤ (j : Int)) = True := eq_true (by omega)
              have p6 : ((j : Int) < ((ni : Nat) : Int)) = True := eq_true (by omega)
              obtain ⟨ad2, e2, hx2⟩ := Kd.at_int (Kd.F_now (Kd.F_below HG1.out HB.out)) (j : Int) (by omega) (by omega)
              cases e2
              rw [rep_at _ _ _ c2, Int.toNat_natCast] at hx2
              have HJ := Aside0.mk c2
              have HNM := Aside0.mk (Kd.F_max HG1.out)
              clear c2
              go_wp2_with fail
              refine (provisoplain_mark.calls (i : Int) (mrk i) _ HMK.out).mono ?_
              rintro e_ w2 ⟨rfl, m2, rfl⟩
              replace HB := Aside0.mk (pw_below_drewN HB.out m2)
              clear hx2
              have hcv := mrk_u8 i
              go_wp2_with fail
              go_roundw
              case rel => exact ⟨j + 1, (by rw [wrap_n HJ.out HNM.out]), HJ.out, HB⟩
              case measure => exact meas_n HJ.out HNM.out
            · have c2b : decide ((j : Int) < ((ni : Nat) : Int)) = false := decide_eq_false (by omega)
              have c2c : decide (j < ni) = false := decide_eq_false c2
              clear c2 hj
              obtain ⟨q2, e3, hx3⟩ := at_hd (Kd.F_now (Kd.F_below HDI.out.more HB.out)) (i : Int) (by omega) (by have := HI.out; omega)
              cases e3
              rw [rowH_at ghI HI.out, Int.toNat_natCast] at hx3
              rw [HQ2.out] at hx3
              change _ = some (Value.slice Ag ng cg) at hx3
              have p5 : (0 ≤ (i : Int)) = True := eq_true (by omega)
              have p6 : ((i : Int) < (nI : Int)) = True := eq_true (by have := HI.out; omega)
              go_wp2_with fail
              go_loopw [83] (fun v83 wr => ∃ j : Nat, v83 = .int .i64 (j : Int) ∧ j ≤ ng ∧ Aside0 (Below w.heap.size w wr)) (fun v83 _ => ((ng : Nat) : Int) - intOf v83 |>.toNat)
              case atStart => exact ⟨0, rfl, Nat.zero_le _, HB⟩
              case round =>
                clear HB
                obtain ⟨j, rfl, hj, HB⟩ := hrel
                by_cases c2 : j < ng
                · have c2b : decide ((j : Int) < ((ng : Nat) : Int)) = true := decide_eq_true (by omega)
                  have c2c : decide (j < ng) = true := decide_eq_true c2
                  have p5 : (0 ≤ (j : Int)) = True := eq_true (by omega)
                  have p6 : ((j : Int) < ((ng : Nat) : Int)) = True := eq_true (by omega)
                  obtain ⟨ad2, e2, hx2⟩ := Kd.at_int (Kd.F_now (Kd.F_below HG2.out HB.out)) (j : Int) (by omega) (by omega)
                  cases e2
                  rw [rep_at _ _ _ c2, Int.toNat_natCast] at hx2
                  have HJ := Aside0.mk c2
                  have HNM := Aside0.mk (Kd.F_max HG2.out)
                  clear c2
                  go_wp2_with fail
                  refine (provisoplain_mark.calls (i : Int) (mrk i) _ HMK.out).mono ?_
                  rintro e_ w2 ⟨rfl, m2, rfl⟩
                  replace HB := Aside0.mk (pw_below_drewN HB.out m2)
                  clear hx2
                  have hcv := mrk_u8 i
                  go_wp2_with fail
                  go_roundw
                  case rel => exact ⟨j + 1, (by rw [wrap_n HJ.out HNM.out]), HJ.out, HB⟩
                  case measure => exact meas_n HJ.out HNM.out
                · have c2b : decide ((j : Int) < ((ng : Nat) : Int)) = false := decide_eq_false (by omega)
                  have c2c : decide (j < ng) = false := decide_eq_false c2
                  clear c2 hj
                  go_wp2_with fail
                  go_roundw
                  case rel => exact ⟨i + 1, (by rw [wrap_n HI.out HNO.out]), HI.out, HB⟩
                  case measure => exact meas_n HI.out HNO.out
        · have c1b : decide ((i : Int) < (nI : Int)) = false := decide_eq_false (by omega)
          have c1c : decide (i < nI) = false := decide_eq_false c1
          clear c1 hi
          go_wp2_with fail
          go_ret
          exact ⟨rfl, HB.out⟩
end Go.Proofs.Ytfakdphkklclgaa.P

end

section
namespace Go.Proofs.Ytfakdphkklclgaa.P
open Go.RowKit Go.Proofs.YtfakdphkklclgaaW.PrintWords Go.Proofs.YtfakdphkklclgaaW.PrintLast Go.Proofs.YtfakdphkklclgaaW.PrintMore
attribute [local go_sem] max2_int min2_int max_two min_two max_three min_three max_four min_four
set_option linter.unusedVariables false
set_option linter.unusedSimpArgs false
structure PhA (w : World) (base : Nat) (F : Nat → Prop) (sh : Nat) (GB GI : Nat → Prop) (vB vI : Value) (nB nI : Nat) (hB hI : Nat → Hd) (iB mB iI mI : Nat) (W : World) : Prop where
  blk : W.heap[sh]? = some (.cells #[vB, vI] 49 (0, 0))
  gB : Grp .u8 5 23 W base GB vB nB hB iB mB
  gI : Grp .i64 3 73 W base GI vI nI hI iI mI
  kept : Kept w W F
  far : ∀ (B : Nat) (w0 : World), B ≤ base → Below B w0 w → Below B w0 W
structure Sta (w : World) (base : Nat) (F : Nat → Prop) (sh : Nat) (GB GI : Nat → Prop) (nB nI : Nat) (hB hI : Nat → Hd) : Prop where
  fB : ∀ b, GB b → F b
  fI : ∀ b, GI b → F b
  ap : ∀ b, GB b → ¬ GI b
  nsB : ¬ GB sh
  nsI : ¬ GI sh
  fs : F sh
  lt : ∀ b, F b → base ≤ b ∧ b < w.heap.size
  lB : ∀ j, j < nB → (hB j).n + 80 ≤ 140737488351400
  lI : ∀ j, j < nI → ((hI j).n + 80) * 8 ≤ 140737488355328
theorem PhA.putB {w : World} {base : Nat} {F : Nat → Prop} {sh : Nat} {GB GI : Nat → Prop} {vB vI : Value} {nB nI : Nat} {hB hI : Nat → Hd} {iB mB iI mI : Nat} {W : World} (h : PhA w base F sh GB GI vB vI nB nI hB hI iB mB iI mI W) (s : Sta w base F sh GB GI nB nI hB hI) (hi : iB < nB) (hm : mB < (hB iB).n) {b : Nat} (hA : (hB iB).A = some ⟨b, 0, none⟩) : PhA w base F sh GB GI vB vI nB nI hB hI iB (mB + 1) iI mI (W.setCell ⟨b, mB, none⟩ (.int .u8 (mrk iB))) := by
  obtain ⟨xs, h1, _⟩ := h.gB.own iB hi
  obtain ⟨b', e1, e2, e3, _⟩ := (own_form h1).2 mB hm
  rw [hA] at e1
  injection e1 with e1
  injection e1 with e1
  subst e1
  have hk : Kept W (W.setCell ⟨b, mB, none⟩ (.int .u8 (mrk iB))) (fun k => k = b) := (Kept.refl W (fun k => k = b)).setCell (p := ⟨b, mB, none⟩) (.inl rfl) _
  exact ⟨blk_kept h.blk hk (fun q => s.nsB (q ▸ e2)), h.gB.put (by decide) hi hm hA, h.gI.kept hk (fun k q e => s.ap k (e ▸ e2) q), h.kept.setCell (p := ⟨b, mB, none⟩) (.inl (s.fB b e2)) _, fun B w0 hB hb => (h.far B w0 hB hb).setCell (p := ⟨b, mB, none⟩) (Nat.le_trans hB e3) _⟩
theorem PhA.putI {w : World} {base : Nat} {F : Nat → Prop} {sh : Nat} {GB GI : Nat → Prop} {vB vI : Value} {nB nI : Nat} {hB hI : Nat → Hd} {iB mB iI mI : Nat} {W : World} (h : PhA w base F sh GB GI vB vI nB nI hB hI iB mB iI mI W) (s : Sta w base F sh GB GI nB nI hB hI) (hi : iI < nI) (hm : mI < (hI iI).n) {b : Nat} (hA : (hI iI).A = some ⟨b, 0, none⟩) : PhA w base F sh GB GI vB vI nB nI hB hI iB mB iI (mI + 1) (W.setCell ⟨b, mI, none⟩ (.int .i64 (mrk iI))) := by
  obtain ⟨xs, h1, _⟩ := h.gI.own iI hi
  obtain ⟨b', e1, e2, e3, _⟩ := (own_form h1).2 mI hm
  rw [hA] at e1
  injection e1 with e1
  injection e1 with e1
  subst e1
  have hk : Kept W (W.setCell ⟨b, mI, none⟩ (.int .i64 (mrk iI))) (fun k => k = b) := (Kept.refl W (fun k => k = b)).setCell (p := ⟨b, mI, none⟩) (.inl rfl) _
  exact ⟨blk_kept h.blk hk (fun q => s.nsI (q ▸ e2)), h.gB.kept hk (fun k q e => s.ap k q (e ▸ e2)), h.gI.put (by decide) hi hm hA, h.kept.setCell (p := ⟨b, mI, none⟩) (.inl (s.fI b e2)) _, fun B w0 hB hb => (h.far B w0 hB hb).setCell (p := ⟨b, mI, none⟩) (Nat.le_trans hB e3) _⟩
theorem PhA.step {w : World} {base : Nat} {F : Nat → Prop} {sh : Nat} {GB GI : Nat → Prop} {vB vI : Value} {nB nI : Nat} {hB hI : Nat → Hd} {iB mB iI mI : Nat} {W W1 : World} (h : PhA w base F sh GB GI vB vI nB nI hB hI iB mB iI mI W) (hb : Below W.heap.size W W1) (hbase : base ≤ W.heap.size) : PhA w base F sh GB GI vB vI nB nI hB hI iB mB iI mI W1 :=
  ⟨blk_below h.blk hb, h.gB.step hb, h.gI.step hb, h.kept.below hb, fun B w0 hB hw => below_far (h.far B w0 hB hw) (Nat.le_trans hB hbase) hb⟩
theorem PhA.drewN {w : World} {base : Nat} {F : Nat → Prop} {sh : Nat} {GB GI : Nat → Prop} {vB vI : Value} {nB nI : Nat} {hB hI : Nat → Hd} {iB mB iI mI : Nat} {W : World} (h : PhA w base F sh GB GI vB vI nB nI hB hI iB mB iI mI W) (m : Nat) : PhA w base F sh GB GI vB vI nB nI hB hI iB mB iI mI (W.drewN m) :=
  ⟨blk_drewN h.blk m, h.gB.step (pw_below_drewN (Below.refl _ _) m), h.gI.step (pw_below_drewN (Below.refl _ _) m), h.kept.drewN m, fun B w0 hB hw => pw_below_drewN (h.far B w0 hB hw) m⟩
theorem PhA.nextB {w : World} {base : Nat} {F : Nat → Prop} {sh : Nat} {GB GI : Nat → Prop} {vB vI : Value} {nB nI : Nat} {hB hI : Nat → Hd} {iB mB iI mI : Nat} {W : World} (h : PhA w base F sh GB GI vB vI nB nI hB hI iB mB iI mI W) (hm : mB = (hB iB).n) : PhA w base F sh GB GI vB vI nB nI hB hI (iB + 1) 0 iI mI W := ⟨h.blk, h.gB.next hm, h.gI, h.kept, h.far⟩
theorem PhA.nextI {w : World} {base : Nat} {F : Nat → Prop} {sh : Nat} {GB GI : Nat → Prop} {vB vI : Value} {nB nI : Nat} {hB hI : Nat → Hd} {iB mB iI mI : Nat} {W : World} (h : PhA w base F sh GB GI vB vI nB nI hB hI iB mB iI mI W) (hm : mI = (hI iI).n) : PhA w base F sh GB GI vB vI nB nI hB hI iB mB (iI + 1) 0 W := ⟨h.blk, h.gB, h.gI.next hm, h.kept, h.far⟩
structure Fra (w : World) (base S0 : Nat) (F : Nat → Prop) (sh : Nat) (cs : Array Value) (G : Nat → Prop) (Pas : World → Prop) (W : World) : Prop where
  blk : W.heap[sh]? = some (.cells cs 49 (0, 0))
  kept : Kept w W F
  far : ∀ (B : Nat) (w0 : World), B ≤ base → Below B w0 w → Below B w0 W
  pas : Pas W
  stab : ∀ (W W1 : World) (X : Nat → Prop), Pas W → Kept W W1 X → (∀ b, X b → G b ∨ S0 ≤ b) → Pas W1
  gf : ∀ b, G b → F b
  ns : ¬ G sh
  sl : sh < S0
  le : w.heap.size ≤ S0 ∧ base ≤ w.heap.size
theorem Fra.move {w : World} {base S0 : Nat} {F : Nat → Prop} {sh : Nat} {cs : Array Value} {G : Nat → Prop} {Pas : World → Prop} {W W1 : World} (h : Fra w base S0 F sh cs G Pas W) (X : Nat → Prop) (hk : Kept W W1 X) (hX : ∀ b, X b → G b ∨ S0 ≤ b) (hb : Below base W W1) : Fra w base S0 F sh cs G Pas W1 :=
  ⟨blk_kept h.blk hk (fun q => (hX sh q).elim h.ns (fun q => by have := h.sl; omega)), h.kept.then_ hk (fun b q => (hX b q).imp (h.gf b) (fun q => Nat.le_trans h.le.1 q)), fun B w0 hB hw => below_far (h.far B w0 hB hw) hB hb, h.stab W W1 X h.pas hk hX, h.stab, h.gf, h.ns, h.sl, h.le⟩
theorem below_less {B base : Nat} {W W1 : World} (h : Below B W W1) (hB : base ≤ B) : Below base W W1 := ⟨h.os, h.tape, h.output, h.size, fun b hb => h.block b (by omega)⟩
theorem Fra.step {w : World} {base S0 : Nat} {F : Nat → Prop} {sh : Nat} {cs : Array Value} {G : Nat → Prop} {Pas : World → Prop} {W W1 : World} (h : Fra w base S0 F sh cs G Pas W) (hb : Below W.heap.size W W1) : Fra w base S0 F sh cs G Pas W1 := h.move (fun _ => False) (Kept.of_below hb _) (fun _ q => q.elim) (below_less hb (Nat.le_trans h.le.2 h.kept.1))
theorem PhA.fraB {w : World} {base : Nat} {F : Nat → Prop} {sh : Nat} {GB GI : Nat → Prop} {vB vI : Value} {nB nI : Nat} {hB hI : Nat → Hd} {iB mB : Nat} {W : World} (h : PhA w base F sh GB GI vB vI nB nI hB hI iB mB nI 0 W) (s : Sta w base F sh GB GI nB nI hB hI) : Fra w base W.heap.size F sh #[vB, vI] GB (fun W' => Grp .i64 3 73 W' base (fun b => GI b ∧ b < W.heap.size) vI nI hI nI 0) W :=
  ⟨h.blk, h.kept, h.far, (h.gI.bound).mono (fun b q => ⟨q.1, q.2.2.1⟩), fun W1 W2 X hp hk hX => hp.kept hk (fun b q hx => (hX b hx).elim (fun g => s.ap b g q.1) (fun g => by omega)), s.fB, s.nsB, Nat.lt_of_lt_of_le (s.lt sh s.fs).2 h.kept.1, h.kept.1, Nat.le_trans (s.lt sh s.fs).1 (Nat.le_of_lt (s.lt sh s.fs).2)⟩
theorem Fra.turn {w : World} {base S0 : Nat} {F : Nat → Prop} {sh : Nat} {cs : Array Value} {GB GI : Nat → Prop} {vI : Value} {nB nI : Nat} {hB hI gh : Nat → Hd} {AB AM : Option Addr} {cB cM : Nat} {W : World} (h : Fra w base S0 F sh cs GB (fun W' => Grp .i64 3 73 W' base (fun b => GI b ∧ b < S0) vI nI hI nI 0) W) (s : Sta w base F sh GB GI nB nI hB hI) (hS : S0 ≤ W.heap.size) (hd : Dun .u8 (fun b => (GB b ∨ S0 ≤ b) ∧ b < W.heap.size) AB cB nB hB AM cM gh W) :
    Fra w base W.heap.size F sh cs (fun b => GI b ∧ b < S0) (fun W' => Dun .u8 (fun b => (GB b ∨ S0 ≤ b) ∧ b < W.heap.size) AB cB nB hB AM cM gh W') W :=
  ⟨h.blk, h.kept, h.far, hd, fun W1 W2 X hp hk hX => hp.kept hk (fun b q hx => by
    rcases hX b hx with g | g
    · rcases q.1 with q1 | q1
      · exact s.ap b q1 g.1
      · omega
    · omega), fun b q => s.fI b q.1, fun q => s.nsI q.1, Nat.lt_of_lt_of_le h.sl hS, Nat.le_trans h.le.1 hS, h.le.2⟩
theorem int1_fits {n : Nat} (h : n + 80 ≤ 140737488351400) {t : Nat} (ht : t < 80) : Builtin.nextslicecap (n + t + 1) (n + t) * 1 ≤ 281474976710656 := growslice_fits (need := n + t + 1) (old := n + t) (bytes := 1) (by omega) (by omega)
theorem int8_fits {n : Nat} (h : (n + 80) * 8 ≤ 140737488355328) {t : Nat} (ht : t < 80) : Builtin.nextslicecap (n + t + 1) (n + t) * 8 ≤ 281474976710656 := growslice_fits (need := n + t + 1) (old := n + t) (bytes := 8) (by omega) (by omega)
end Go.Proofs.Ytfakdphkklclgaa.P

end

section
namespace Go.Proofs.Ytfakdphkklclgaa.P
open Go.RowKit Go.Proofs.YtfakdphkklclgaaW.PrintWords Go.Proofs.YtfakdphkklclgaaW.PrintLast Go.Proofs.YtfakdphkklclgaaW.PrintMore
attribute [local go_sem] max2_int min2_int max_two min_two max_three min_three max_four min_four
set_option linter.unusedVariables false
set_option linter.unusedSimpArgs false
set_option maxHeartbeats 6400000 in
set_option maxRecDepth 100000 in
theorem Own_sh (base : Nat) (F : Nat → Prop) (sh nB nI : Nat) (w : World) (h : ShAt base F sh nB nI w) (hnB : nB ≤ 5864063200000) (hnI : nI ≤ 5864063200000) :
    Calls Try.prog 21 #[.pointer (some ⟨sh, 0, none⟩)] w fun e w' => e = .returned (.bool true) ∧ Kept w w' F ∧ ∀ (B : Nat) (w0 : World), B ≤ base → Below B w0 w → Below B w0 w' := by
  obtain ⟨⟨GB0, GI0, vB, vI, hB, hI, h1, h2, h3, h4, h5, h6, h7, h8⟩, hf, hl⟩ := h
  obtain ⟨AB, cB, ev⟩ := Kd.R_slice h2.row
  obtain ⟨AI, cI, ew⟩ := Kd.R_slice h3.row
  rw [rowH_len] at ev ew
  subst ev ew
  have hsta : Sta w base F sh (fun b => GB0 b ∧ b ≠ sh) (fun b => GI0 b ∧ b ≠ sh) nB nI hB hI := ⟨fun b q => h4 b q.1, fun b q => h5 b q.1, fun b q q2 => h6 b q.1 q2.1, fun q => q.2 rfl, fun q => q.2 rfl, hf, hl, h7, h8⟩
  have hph : PhA w base F sh (fun b => GB0 b ∧ b ≠ sh) (fun b => GI0 b ∧ b ≠ sh) (.slice AB nB cB) (.slice AI nI cI) nB nI hB hI 0 0 0 0 w := ⟨h1, h2.bound.mono (fun b q => ⟨q.1, fun e => by
    obtain ⟨_, _, _, cs, q4⟩ := q
    rw [e] at q4
    rcases q4 with q4 | q4
    · exact typ_neq h1 q4 (by decide) rfl
    · exact typ_neq h1 q4 (by decide) rfl⟩), h3.bound.mono (fun b q => ⟨q.1, fun e => by
    obtain ⟨_, _, _, cs, q4⟩ := q
    rw [e] at q4
    rcases q4 with q4 | q4
    · exact typ_neq h1 q4 (by decide) rfl
    · exact typ_neq h1 q4 (by decide) rfl⟩), Kept.refl w F, fun _ _ _ hb => hb⟩
  obtain ⟨GB, hGB⟩ : ∃ GB, GB = (fun b => GB0 b ∧ b ≠ sh) := ⟨_, rfl⟩
  obtain ⟨GI, hGI⟩ : ∃ GI, GI = (fun b => GI0 b ∧ b ≠ sh) := ⟨_, rfl⟩
  rw [← hGB, ← hGI] at hsta hph
  have S := Aside0.mk hsta
  have HP := Aside0.mk hph
  have HNB := Aside0.mk hnB
  have HNI := Aside0.mk hnI
  have hc0 := blk_cell h1 0
  clear h1 h2 h3 h4 h5 h6 h7 h8 hf hl hsta hph hnB hnI hGB hGI
  go_enter Try.func21, Try.ntmps21
  go_wp2_with fail
  go_loopw [22] (fun v22 wr => ∃ i : Nat, v22 = .int .i64 (i : Int) ∧ i ≤ nB ∧ Aside0 (PhA w base F sh GB GI (.slice AB nB cB) (.slice AI nI cI) nB nI hB hI i 0 0 0 wr)) (fun v22 _ => (nB : Int) - intOf v22 |>.toNat)
  case atStart => exact ⟨0, rfl, Nat.zero_le _, HP⟩
  case round =>
    clear HP
    obtain ⟨i, rfl, hi, HP⟩ := hrel
    by_cases c1 : i < nB
    · have c1b : decide ((i : Int) < (nB : Int)) = true := decide_eq_true (by omega)
      have c1c : decide (i < nB) = true := decide_eq_true c1
      have p5 : (0 ≤ (i : Int)) = True := eq_true (by omega)
      have p6 : ((i : Int) < (nB : Int)) = True := eq_true (by omega)
      obtain ⟨q1, e1, hx1⟩ := at_hd (Kd.R_reads' HP.out.gB.row).2.2 (i : Int) (by omega) (by rw [rowH_len]; omega)
      cases e1
      rw [rowH_at hB c1, Int.toNat_natCast] at hx1
      have HNO := Aside0.mk (show nB ≤ 9223372036854775807 by have := HNB.out; omega)
      have HMK := Aside0.mk (mrk_is i (by have := HNO.out; omega))
      obtain ⟨Ai, ni, ci, hq1⟩ : ∃ Ai ni ci, hB i = ⟨Ai, ni, ci⟩ := ⟨_, _, _, rfl⟩
      rw [hq1] at hx1
      change _ = some (Value.slice Ai ni ci) at hx1
      have HNI2 := Aside0.mk (show ni ≤ 9223372036854775807 by have := S.out.lB i c1; rw [hq1] at this; simp only at this; omega)
      have HQ1 := Aside0.mk hq1
      have HI := Aside0.mk c1
      clear c1 hq1
      go_wp2_with fail
      go_loopw [29] (fun v29 wr => ∃ m : Nat, v29 = .int .i64 (m : Int) ∧ m ≤ ni ∧ Aside0 (PhA w base F sh GB GI (.slice (some q1) nB cB) (.slice AI nI cI) nB nI hB hI i m 0 0 wr)) (fun v29 _ => (ni : Int) - intOf v29 |>.toNat)
      case atStart => exact ⟨0, rfl, Nat.zero_le _, HP⟩
      case round =>
        clear HP
        obtain ⟨m, rfl, hm, HP⟩ := hrel
        by_cases c2 : m < ni
        · have c2b : decide ((m : Int) < (ni : Int)) = true := decide_eq_true (by omega)
          have c2c : decide (m < ni) = true := decide_eq_true c2
          have p5 : (0 ≤ (m : Int)) = True := eq_true (by omega)
          have p6 : ((m : Int) < (ni : Int)) = True := eq_true (by omega)
          obtain ⟨xs, hR, _⟩ := HP.out.gB.own i HI.out
          obtain ⟨b, eA, _⟩ := (own_form hR).2 m (by rw [HQ1.out]; exact c2)
          rw [HQ1.out] at eA
          change Ai = some ⟨b, 0, none⟩ at eA
          subst eA
          rw [HQ1.out] at hR
          change Kd.R _ _ _ _ _ (.slice (some ⟨b, 0, none⟩) ni ci) xs at hR
          obtain ⟨hc1, hf1⟩ := Kd.R_celln 0 hR (m : Int) (by omega) (by omega)
          rw [Int.toNat_natCast] at hc1 hf1
          have HM := Aside0.mk c2
          clear c2 hR
          go_wp2_with fail
          refine (provisoplain_mark.calls (i : Int) (mrk i) _ HMK.out).mono ?_
          rintro e_ w2 ⟨rfl, m2, rfl⟩
          have HP2 := Aside0.mk ((HP.out.drewN m2).putB S.out HI.out (by rw [HQ1.out]; exact HM.out) (b := b) (by rw [HQ1.out]))
          have hcv := mrk_u8 i
          go_wp2_with fail
          go_roundw
          case rel => exact ⟨m + 1, (by rw [wrap_n HM.out HNI2.out]), HM.out, HP2⟩
          case measure => exact meas_n HM.out HNI2.out
        · have c2b : decide ((m : Int) < (ni : Int)) = false := decide_eq_false (by omega)
          have c2c : decide (m < ni) = false := decide_eq_false c2
          obtain rfl : ni = m := by omega
          have HP2 := Aside0.mk (HP.out.nextB (by rw [HQ1.out]))
          clear c2 hm
          go_wp2_with fail
          go_roundw
          case rel => exact ⟨i + 1, (by rw [wrap_n HI.out HNO.out]), HI.out, HP2⟩
          case measure => exact meas_n HI.out HNO.out
    · have c1b : decide ((i : Int) < (nB : Int)) = false := decide_eq_false (by omega)
      have c1c : decide (i < nB) = false := decide_eq_false c1
      obtain rfl : nB = i := by omega
      clear c1 hi
      have hcy := blk_cell HP.out.blk 1
      go_wp2_with fail
      go_loopw [45] (fun v45 wr => ∃ i : Nat, v45 = .int .i64 (i : Int) ∧ i ≤ nI ∧ Aside0 (PhA w base F sh GB GI (.slice AB nB cB) (.slice AI nI cI) nB nI hB hI nB 0 i 0 wr)) (fun v45 _ => (nI : Int) - intOf v45 |>.toNat)
      case atStart => exact ⟨0, rfl, Nat.zero_le _, HP⟩
      case round =>
        clear HP
        obtain ⟨i, rfl, hi, HP⟩ := hrel
        by_cases c1 : i < nI
        · have c1b : decide ((i : Int) < (nI : Int)) = true := decide_eq_true (by omega)
          have c1c : decide (i < nI) = true := decide_eq_true c1
          have p5 : (0 ≤ (i : Int)) = True := eq_true (by omega)
          have p6 : ((i : Int) < (nI : Int)) = True := eq_true (by omega)
          obtain ⟨q1, e1, hx1⟩ := at_hd (Kd.R_reads' HP.out.gI.row).2.2 (i : Int) (by omega) (by rw [rowH_len]; omega)
          cases e1
          rw [rowH_at hI c1, Int.toNat_natCast] at hx1
          have HNO := Aside0.mk (show nI ≤ 9223372036854775807 by have := HNI.out; omega)
          have HMK := Aside0.mk (mrk_is i (by have := HNO.out; omega))
          obtain ⟨Ai, ni, ci, hq1⟩ : ∃ Ai ni ci, hI i = ⟨Ai, ni, ci⟩ := ⟨_, _, _, rfl⟩
          rw [hq1] at hx1
          change _ = some (Value.slice Ai ni ci) at hx1
          have HNI2 := Aside0.mk (show ni ≤ 9223372036854775807 by have := S.out.lI i c1; rw [hq1] at this; simp only at this; omega)
          have HQ1 := Aside0.mk hq1
          have HI := Aside0.mk c1
          clear c1 hq1
          go_wp2_with fail
          go_loopw [52] (fun v52 wr => ∃ m : Nat, v52 = .int .i64 (m : Int) ∧ m ≤ ni ∧ Aside0 (PhA w base F sh GB GI (.slice AB nB cB) (.slice (some q1) nI cI) nB nI hB hI nB 0 i m wr)) (fun v52 _ => (ni : Int) - intOf v52 |>.toNat)
          case atStart => exact ⟨0, rfl, Nat.zero_le _, HP⟩
          case round =>
            clear HP
            obtain ⟨m, rfl, hm, HP⟩ := hrel
            by_cases c2 : m < ni
            · have c2b : decide ((m : Int) < (ni : Int)) = true := decide_eq_true (by omega)
              have c2c : decide (m < ni) = true := decide_eq_true c2
              have p5 : (0 ≤ (m : Int)) = True := eq_true (by omega)
              have p6 : ((m : Int) < (ni : Int)) = True := eq_true (by omega)
              obtain ⟨xs, hR, _⟩ := HP.out.gI.own i HI.out
              obtain ⟨b, eA, _⟩ := (own_form hR).2 m (by rw [HQ1.out]; exact c2)
              rw [HQ1.out] at eA
              change Ai = some ⟨b, 0, none⟩ at eA
              subst eA
              rw [HQ1.out] at hR
              change Kd.R _ _ _ _ _ (.slice (some ⟨b, 0, none⟩) ni ci) xs at hR
              obtain ⟨hc1, hf1⟩ := Kd.R_celln 0 hR (m : Int) (by omega) (by omega)
              rw [Int.toNat_natCast] at hc1 hf1
              have HM := Aside0.mk c2
              clear c2 hR
              go_wp2_with fail
              refine (provisoplain_mark.calls (i : Int) (mrk i) _ HMK.out).mono ?_
              rintro e_ w2 ⟨rfl, m2, rfl⟩
              have HP2 := Aside0.mk ((HP.out.drewN m2).putI S.out HI.out (by rw [HQ1.out]; exact HM.out) (b := b) (by rw [HQ1.out]))
              have hcv := mrk_u8 i
              go_wp2_with fail
              go_roundw
              case rel => exact ⟨m + 1, (by rw [wrap_n HM.out HNI2.out]), HM.out, HP2⟩
              case measure => exact meas_n HM.out HNI2.out
            · have c2b : decide ((m : Int) < (ni : Int)) = false := decide_eq_false (by omega)
              have c2c : decide (m < ni) = false := decide_eq_false c2
              obtain rfl : ni = m := by omega
              have HP2 := Aside0.mk (HP.out.nextI (by rw [HQ1.out]))
              clear c2 hm
              go_wp2_with fail
              go_roundw
              case rel => exact ⟨i + 1, (by rw [wrap_n HI.out HNO.out]), HI.out, HP2⟩
              case measure => exact meas_n HI.out HNO.out
        · have c1b : decide ((i : Int) < (nI : Int)) = false := decide_eq_false (by omega)
          have c1c : decide (i < nI) = false := decide_eq_false c1
          obtain rfl : nI = i := by omega
          clear c1 hi
          have hm0 := Mor.start (HP.out.gB) (by decide) (Nat.le_trans (S.out.lt sh S.out.fs).1 (Nat.le_trans (Nat.le_of_lt (S.out.lt sh S.out.fs).2) HP.out.kept.1))
          have hf0 := HP.out.fraB S.out
          have hcz := blk_cell HP.out.blk 0
          generalize wr.heap.size = S0 at hm0 hf0
          have HMO := Aside0.mk hm0
          have HFR := Aside0.mk hf0
          clear hm0 hf0 HP
          go_wp2_with fail
          go_loopw [67, 9] (fun v67 v9 wr => ∃ (i : Nat), v67 = .int .i64 (i : Int) ∧ i ≤ nB ∧ Aside0 (Fra w base S0 F sh #[.slice AB nB cB, .slice AI nI cI] GB (fun W_ => Grp .i64 3 73 W_ base (fun b => GI b ∧ b < S0) (.slice AI nI cI) nI hI nI 0) wr) ∧ ∃ AM cM, v9 = .slice AM i cM ∧ Aside0 (∃ (gh : Nat → Hd) (P : Nat → Nat → Prop), Mor .u8 5 23 base S0 GB (.slice AB nB cB) nB hB i (.slice AM i cM) gh P wr)) (fun v67 _ _ => (nB : Int) - intOf v67 |>.toNat)
          case atStart => exact ⟨0, rfl, Nat.zero_le _, HFR, _, _, rfl, ⟨_, _, HMO.out⟩⟩
          case round =>
            clear HFR HMO
            obtain ⟨i, rfl, hi, HFR, AM, cM, rfl, HMO⟩ := hrel
            obtain ⟨gh, P, hmo⟩ := HMO.out
            by_cases c1 : i < nB
            · have c1b : decide ((i : Int) < (nB : Int)) = true := decide_eq_true (by omega)
              have c1c : decide (i < nB) = true := decide_eq_true c1
              have p5 : (0 ≤ (i : Int)) = True := eq_true (by omega)
              have p6 : ((i : Int) < (nB : Int)) = True := eq_true (by omega)
              obtain ⟨q1, e1, hx1⟩ := at_hd (Kd.R_reads' hmo.row).2.2 (i : Int) (by omega) (by rw [rowH_len]; omega)
              cases e1
              rw [rowH_at hB c1, Int.toNat_natCast] at hx1
              have HNO := Aside0.mk (show nB ≤ 9223372036854775807 by have := HNB.out; omega)
              have HMK := Aside0.mk (mrk_is i (by have := HNO.out; omega))
              obtain ⟨Ai, ni, ci, hq1⟩ : ∃ Ai ni ci, hB i = ⟨Ai, ni, ci⟩ := ⟨_, _, _, rfl⟩
              rw [hq1] at hx1
              change _ = some (Value.slice Ai ni ci) at hx1
              have HLI := Aside0.mk (show ni + 80 ≤ 140737488351400 by have := S.out.lB i c1; rw [hq1] at this; exact this)
              have HQ1 := Aside0.mk hq1
              have HI := Aside0.mk c1
              have hin := hmo.enter c1
              rw [hq1] at hin
              obtain ⟨wz, hwz⟩ : ∃ wz, wz = wr := ⟨_, rfl⟩
              have HIN0 := Aside0.mk (show Inn .u8 5 23 base S0 wz.heap.size GB (.slice (some q1) nB cB) nB hB i (.slice AM i cM) gh P 0 ⟨Ai, ni, ci⟩ wr by rw [hwz]; exact hin)
              clear c1 hq1 hin hmo HMO hwz
              go_wp2_with fail
              go_loopw [73, 13] (fun v73 v13 wr => ∃ (t : Nat), v73 = .int .i64 (t : Int) ∧ t ≤ 80 ∧ Aside0 (Fra w base S0 F sh #[.slice (some q1) nB cB, .slice AI nI cI] GB (fun W_ => Grp .i64 3 73 W_ base (fun b => GI b ∧ b < S0) (.slice AI nI cI) nI hI nI 0) wr) ∧ ∃ Ag cg, v13 = .slice Ag (ni + t) cg ∧ Aside0 (Inn .u8 5 23 base S0 wz.heap.size GB (.slice (some q1) nB cB) nB hB i (.slice AM i cM) gh P t ⟨Ag, ni + t, cg⟩ wr)) (fun v73 _ _ => ((80 : Nat) : Int) - intOf v73 |>.toNat)
              case atStart => exact ⟨0, rfl, Nat.zero_le _, HFR, Ai, ci, rfl, HIN0⟩
              case round =>
                clear HFR HIN0
                obtain ⟨t, rfl, ht, HFR, Ag, cg, rfl, HIN⟩ := hrel
                by_cases c2 : t < 80
                · have c2b : decide ((t : Int) < 80) = true := decide_eq_true (by omega)
                  have c2c : decide (t < 80) = true := decide_eq_true c2
                  have HT := Aside0.mk c2
                  clear c2
                  go_wp2_with fail
                  refine (provisoplain_mark.calls (i : Int) (mrk i) _ HMK.out).mono ?_
                  rintro e_ w2 ⟨rfl, m2, rfl⟩
                  replace HIN := Aside0.mk (HIN.out.step (pw_below_drewN (Below.refl _ _) m2))
                  replace HFR := Aside0.mk (HFR.out.step (pw_below_drewN (Below.refl _ _) m2))
                  generalize wr.drewN m2 = w3 at HIN HFR ⊢
                  have hcv := mrk_u8 i
                  go_wp2_with (first | (at_builtin; refine R_append2 (Kd.int .u8) base rfl (.tmp 75) (.tmp 79) 23 5 (.int .u8 0) 1 rfl Try.underlying23 (by kernel_rfl) rfl (by decide) (by decide) (.slice Ag (ni + t) cg) (List.replicate (ni + t) (mrk i)) (mrk i) [.int .u8 (mrk i)] (fun b => (P i b ∨ wz.heap.size ≤ b) ∨ w3.heap.size ≤ b) (fun _ => False) rfl rfl rfl (fun _ hk => hk.elim) (fun _ hk => .inr hk) (Kd.R_mono (by have h9 := HIN.out.cur; rw [HQ1.out] at h9; exact h9) (fun _ q => .inl q)) (Nat.le_trans HIN.out.le.1 (Nat.le_trans HIN.out.le.2.1 HIN.out.le.2.2)) (by rw [List.length_replicate]; have := HLI.out; have := HT.out; unfold maxLen; omega) (by rw [List.length_replicate]; exact int1_fits HLI.out HT.out) ?_; intro v1 w4 ho hb hg hat; obtain ⟨g1, e1, hn1, hin1⟩ := HIN.out.more1 HI.out (by decide) (by rw [HQ1.out]; exact ho) hg hat; rw [HQ1.out] at hn1; obtain ⟨A1, n1, c1_⟩ := g1; change n1 = ni + (t + 1) at hn1; subst hn1; change v1 = Value.slice A1 (ni + (t + 1)) c1_ at e1; subst e1; have HFR2 := Aside0.mk (HFR.out.move (fun b => (Value.slice Ag (ni + t) cg).ownBlock = some b) (Kept.of_grown hg (Kept.refl w3 _) (fun b q => .inl q)) (fun b q => (HIN.out.cur.1 b q).elim (fun q2 => (HIN.out.sub i b HI.out q2).1) (fun q2 => .inr (Nat.le_trans HIN.out.le.2.1 q2))) hb); have HIN2 := Aside0.mk hin1; clear ho hb hg hat hin1))
                  go_roundw
                  case rel => exact ⟨t + 1, congrArg (Value.int .i64) (by omega), HT.out, HFR2, A1, c1_, rfl, HIN2⟩
                  case measure => have := HT.out; show ((80 : Int) - ((t : Int) + 1)).toNat < ((80 : Int) - (t : Int)).toNat; omega
                · have c2b : decide ((t : Int) < 80) = false := decide_eq_false (by omega)
                  have c2c : decide (t < 80) = false := decide_eq_false c2
                  obtain rfl : t = 80 := by omega
                  clear c2 ht
                  go_wp2_with (first | (at_builtin; refine R_append2 khd base rfl (.tmp 82) (.tmp 84) 46 23 (.slice none 0 0) 24 rfl Try.underlying46 (by kernel_rfl) rfl (by decide) (by decide) (.slice AM i cM) (rowH i gh) (⟨Ag, ni + 80, cg⟩ : Hd) [.slice Ag (ni + 80) cg] (fun b => S0 ≤ b ∨ wr.heap.size ≤ b) (fun _ => False) rfl rfl rfl (fun _ hk => hk.elim) (fun _ hk => .inr hk) (Kd.R_mono HIN.out.more (fun _ q => .inl q)) (Nat.le_trans HIN.out.le.1 (Nat.le_trans HIN.out.le.2.1 HIN.out.le.2.2)) (by rw [rowH_len]; have := HI.out; have := HNB.out; unfold maxLen; omega) (by rw [rowH_len]; exact khd_fits (by have := HI.out; have := HNB.out; omega)) ?_; intro v1 w4 ho hb hg hat; obtain ⟨gh', P', hm9⟩ := HIN.out.leave HI.out (by decide) ho hg (hat.imp id (fun q => q.1)); have HFR2 := Aside0.mk (HFR.out.move (fun b => (Value.slice AM i cM).ownBlock = some b) (Kept.of_grown hg (Kept.refl wr _) (fun b q => .inl q)) (fun b q => .inr (HIN.out.more.1 b q)) hb); obtain ⟨A1, c1_, e1⟩ := Kd.R_slice ho; rw [List.length_append, rowH_len] at e1; subst e1; have HMO2 := Aside0.mk hm9; clear ho hb hg hat hm9))
                  go_roundw
                  case rel => exact ⟨i + 1, (by rw [wrap_n HI.out HNO.out]), HI.out, HFR2, A1, c1_, rfl, ⟨gh', P', HMO2.out⟩⟩
                  case measure => exact meas_n HI.out HNO.out
            · have c1b : decide ((i : Int) < (nB : Int)) = false := decide_eq_false (by omega)
              have c1c : decide (i < nB) = false := decide_eq_false c1
              obtain rfl : nB = i := by omega
              have HMD := Aside0.mk hmo
              clear c1 hi hmo HMO
              have hdB := HMD.out.done
              have hfi := HFR.out.turn S.out HMD.out.le.2 hdB
              have hm0 := Mor.start HFR.out.pas (by decide) (Nat.le_trans HMD.out.le.1 HMD.out.le.2)
              have hcz := blk_cell HFR.out.blk 1
              clear hcz
              generalize AM = AM2 at *
              generalize cM = cM2 at *
              generalize gh = ghB at *
              have hcz := blk_cell HFR.out.blk 1
              generalize wr.heap.size = S2 at hm0 hfi
              have HMO := Aside0.mk hm0
              clear HFR
              have HFR := Aside0.mk hfi
              clear hm0 hfi HMD hdB
              go_wp2_with fail
              go_loopw [92, 10] (fun v92 v10 wr => ∃ (i : Nat), v92 = .int .i64 (i : Int) ∧ i ≤ nI ∧ Aside0 (Fra w base S2 F sh #[.slice AB nB cB, .slice AI nI cI] (fun b => GI b ∧ b < S0) (fun W_ => Dun .u8 (fun b => (GB b ∨ S0 ≤ b) ∧ b < S2) AB cB nB hB AM2 cM2 ghB W_) wr) ∧ ∃ AM cM, v10 = .slice AM i cM ∧ Aside0 (∃ (gh : Nat → Hd) (P : Nat → Nat → Prop), Mor .i64 3 73 base S2 (fun b => GI b ∧ b < S0) (.slice AI nI cI) nI hI i (.slice AM i cM) gh P wr)) (fun v92 _ _ => (nI : Int) - intOf v92 |>.toNat)
              case atStart => exact ⟨0, rfl, Nat.zero_le _, HFR, _, _, rfl, ⟨_, _, HMO.out⟩⟩
              case round =>
                clear HFR HMO
                obtain ⟨i, rfl, hi, HFR, AM, cM, rfl, HMO⟩ := hrel
                obtain ⟨gh, P, hmo⟩ := HMO.out
                by_cases c1 : i < nI
                · have c1b : decide ((i : Int) < (nI : Int)) = true := decide_eq_true (by omega)
                  have c1c : decide (i < nI) = true := decide_eq_true c1
                  have p5 : (0 ≤ (i : Int)) = True := eq_true (by omega)
                  have p6 : ((i : Int) < (nI : Int)) = True := eq_true (by omega)
                  obtain ⟨q1, e1, hx1⟩ := at_hd (Kd.R_reads' hmo.row).2.2 (i : Int) (by omega) (by rw [rowH_len]; omega)
                  cases e1
                  rw [rowH_at hI c1, Int.toNat_natCast] at hx1
                  have HNO := Aside0.mk (show nI ≤ 9223372036854775807 by have := HNI.out; omega)
                  have HMK := Aside0.mk (mrk_is i (by have := HNO.out; omega))
                  obtain ⟨Ai, ni, ci, hq1⟩ : ∃ Ai ni ci, hI i = ⟨Ai, ni, ci⟩ := ⟨_, _, _, rfl⟩
                  rw [hq1] at hx1
                  change _ = some (Value.slice Ai ni ci) at hx1
                  have HLI := Aside0.mk (show (ni + 80) * 8 ≤ 140737488355328 by have := S.out.lI i c1; rw [hq1] at this; exact this)
                  have HQ1 := Aside0.mk hq1
                  have HI := Aside0.mk c1
                  have hin := hmo.enter c1
                  rw [hq1] at hin
                  obtain ⟨wz, hwz⟩ : ∃ wz, wz = wr := ⟨_, rfl⟩
                  have HIN0 := Aside0.mk (show Inn .i64 3 73 base S2 wz.heap.size (fun b => GI b ∧ b < S0) (.slice (some q1) nI cI) nI hI i (.slice AM i cM) gh P 0 ⟨Ai, ni, ci⟩ wr by rw [hwz]; exact hin)
                  clear c1 hq1 hin hmo HMO hwz
                  go_wp2_with fail
                  go_loopw [98, 16] (fun v98 v16 wr => ∃ (t : Nat), v98 = .int .i64 (t : Int) ∧ t ≤ 80 ∧ Aside0 (Fra w base S2 F sh #[.slice AB nB cB, .slice (some q1) nI cI] (fun b => GI b ∧ b < S0) (fun W_ => Dun .u8 (fun b => (GB b ∨ S0 ≤ b) ∧ b < S2) AB cB nB hB AM2 cM2 ghB W_) wr) ∧ ∃ Ag cg, v16 = .slice Ag (ni + t) cg ∧ Aside0 (Inn .i64 3 73 base S2 wz.heap.size (fun b => GI b ∧ b < S0) (.slice (some q1) nI cI) nI hI i (.slice AM i cM) gh P t ⟨Ag, ni + t, cg⟩ wr)) (fun v98 _ _ => ((80 : Nat) : Int) - intOf v98 |>.toNat)
                  case atStart => exact ⟨0, rfl, Nat.zero_le _, HFR, Ai, ci, rfl, HIN0⟩
                  case round =>
                    clear HFR HIN0
                    obtain ⟨t, rfl, ht, HFR, Ag, cg, rfl, HIN⟩ := hrel
                    by_cases c2 : t < 80
                    · have c2b : decide ((t : Int) < 80) = true := decide_eq_true (by omega)
                      have c2c : decide (t < 80) = true := decide_eq_true c2
                      have HT := Aside0.mk c2
                      clear c2
                      go_wp2_with fail
                      refine (provisoplain_mark.calls (i : Int) (mrk i) _ HMK.out).mono ?_
                      rintro e_ w2 ⟨rfl, m2, rfl⟩
                      replace HIN := Aside0.mk (HIN.out.step (pw_below_drewN (Below.refl _ _) m2))
                      replace HFR := Aside0.mk (HFR.out.step (pw_below_drewN (Below.refl _ _) m2))
                      generalize wr.drewN m2 = w3 at HIN HFR ⊢
                      have hcv := mrk_u8 i
                      go_wp2_with (first | (at_builtin; refine R_append2 (Kd.int .i64) base rfl (.tmp 100) (.tmp 103) 73 3 (.int .i64 0) 8 rfl Try.underlying73 (by kernel_rfl) rfl (by decide) (by decide) (.slice Ag (ni + t) cg) (List.replicate (ni + t) (mrk i)) (mrk i) [.int .i64 (mrk i)] (fun b => (P i b ∨ wz.heap.size ≤ b) ∨ w3.heap.size ≤ b) (fun _ => False) rfl rfl rfl (fun _ hk => hk.elim) (fun _ hk => .inr hk) (Kd.R_mono (by have h9 := HIN.out.cur; rw [HQ1.out] at h9; exact h9) (fun _ q => .inl q)) (Nat.le_trans HIN.out.le.1 (Nat.le_trans HIN.out.le.2.1 HIN.out.le.2.2)) (by rw [List.length_replicate]; have := HLI.out; have := HT.out; unfold maxLen; omega) (by rw [List.length_replicate]; exact int8_fits HLI.out HT.out) ?_; intro v1 w4 ho hb hg hat; obtain ⟨g1, e1, hn1, hin1⟩ := HIN.out.more1 HI.out (by decide) (by rw [HQ1.out]; exact ho) hg hat; rw [HQ1.out] at hn1; obtain ⟨A1, n1, c1_⟩ := g1; change n1 = ni + (t + 1) at hn1; subst hn1; change v1 = Value.slice A1 (ni + (t + 1)) c1_ at e1; subst e1; have HFR2 := Aside0.mk (HFR.out.move (fun b => (Value.slice Ag (ni + t) cg).ownBlock = some b) (Kept.of_grown hg (Kept.refl w3 _) (fun b q => .inl q)) (fun b q => (HIN.out.cur.1 b q).elim (fun q2 => (HIN.out.sub i b HI.out q2).1) (fun q2 => .inr (Nat.le_trans HIN.out.le.2.1 q2))) hb); have HIN2 := Aside0.mk hin1; clear ho hb hg hat hin1))
                      go_roundw
                      case rel => exact ⟨t + 1, congrArg (Value.int .i64) (by omega), HT.out, HFR2, A1, c1_, rfl, HIN2⟩
                      case measure => have := HT.out; show ((80 : Int) - ((t : Int) + 1)).toNat < ((80 : Int) - (t : Int)).toNat; omega
                    · have c2b : decide ((t : Int) < 80) = false := decide_eq_false (by omega)
                      have c2c : decide (t < 80) = false := decide_eq_false c2
                      obtain rfl : t = 80 := by omega
                      clear c2 ht
                      go_wp2_with (first | (at_builtin; refine R_append2 khd base rfl (.tmp 106) (.tmp 108) 47 73 (.slice none 0 0) 24 rfl Try.underlying47 (by kernel_rfl) rfl (by decide) (by decide) (.slice AM i cM) (rowH i gh) (⟨Ag, ni + 80, cg⟩ : Hd) [.slice Ag (ni + 80) cg] (fun b => S2 ≤ b ∨ wr.heap.size ≤ b) (fun _ => False) rfl rfl rfl (fun _ hk => hk.elim) (fun _ hk => .inr hk) (Kd.R_mono HIN.out.more (fun _ q => .inl q)) (Nat.le_trans HIN.out.le.1 (Nat.le_trans HIN.out.le.2.1 HIN.out.le.2.2)) (by rw [rowH_len]; have := HI.out; have := HNI.out; unfold maxLen; omega) (by rw [rowH_len]; exact khd_fits (by have := HI.out; have := HNI.out; omega)) ?_; intro v1 w4 ho hb hg hat; obtain ⟨gh', P', hm9⟩ := HIN.out.leave HI.out (by decide) ho hg (hat.imp id (fun q => q.1)); have HFR2 := Aside0.mk (HFR.out.move (fun b => (Value.slice AM i cM).ownBlock = some b) (Kept.of_grown hg (Kept.refl wr _) (fun b q => .inl q)) (fun b q => .inr (HIN.out.more.1 b q)) hb); obtain ⟨A1, c1_, e1⟩ := Kd.R_slice ho; rw [List.length_append, rowH_len] at e1; subst e1; have HMO2 := Aside0.mk hm9; clear ho hb hg hat hm9))
                      go_roundw
                      case rel => exact ⟨i + 1, (by rw [wrap_n HI.out HNO.out]), HI.out, HFR2, A1, c1_, rfl, ⟨gh', P', HMO2.out⟩⟩
                      case measure => exact meas_n HI.out HNO.out
                · have c1b : decide ((i : Int) < (nI : Int)) = false := decide_eq_false (by omega)
                  have c1c : decide (i < nI) = false := decide_eq_false c1
                  obtain rfl : nI = i := by omega
                  have HMD := Aside0.mk hmo
                  clear c1 hi hmo HMO
                  have hdI := HMD.out.done
                  have HDI := Aside0.mk hdI
                  clear hdI
                  go_wp2_with fail
                  refine (marked_sh _ sh nB nI AB AI AM2 AM cB cI cM2 cM hB ghB hI gh _ _ HFR.out.blk HFR.out.pas HDI.out).mono ?_
                  rintro e_ w9 ⟨rfl, hb⟩
                  have HFR9 := Aside0.mk (HFR.out.step hb)
                  clear hb
                  go_wp2_with fail
                  go_ret
                  exact ⟨rfl, HFR9.out.kept, HFR9.out.far⟩
end Go.Proofs.Ytfakdphkklclgaa.P

end

section
namespace Go.Proofs.Ytfakdphkklclgaa.P
open Go.RowKit Go.Proofs.YtfakdphkklclgaaW.PrintWords Go.Proofs.YtfakdphkklclgaaW.PrintLast Go.Proofs.YtfakdphkklclgaaW.PrintMore
attribute [local go_sem] max2_int min2_int max_two min_two max_three min_three max_four min_four
set_option linter.unusedVariables false
set_option linter.unusedSimpArgs false
section
open Go.ChangeMaps Go.MapKept
set_option linter.unusedVariables false
theorem ShAt.new2 (W : World) (base : Nat) (hb : base ≤ W.heap.size) : ShAt base (fun b => b = W.heap.size) W.heap.size 0 0 (W.alloc (.cells #[.slice none 0 0, .slice none 0 0] 49 (0, 0))) :=
  ⟨⟨fun _ => False, fun _ => False, _, _, fun _ => hz, fun _ => hz, blk_new W _, ⟨Kd.R_nil _ _ _ _ _, fun j hj => absurd hj (by omega), fun j _ hj => absurd hj (by omega)⟩, ⟨Kd.R_nil _ _ _ _ _, fun j hj => absurd hj (by omega), fun j _ hj => absurd hj (by omega)⟩, fun _ q => q.elim, fun _ q => q.elim, fun _ q => q.elim, fun j hj => absurd hj (by omega), fun j hj => absurd hj (by omega)⟩, rfl, fun b q => by subst q; simp; exact hb⟩
theorem w_one (j : Nat) (h : j ≤ 100000000) : wrap64 ((j : Int) + 1) = ((j + 1 : Nat) : Int) := by unfold wrap64; omega
structure OSt (w : World) (bx g sh nB : Nat) (s : Sto) (cs : Array Value) (F Z FS : Nat → Prop) (W : World) : Prop where
  ls : LSt w bx g s cs F Z W
  sh_ : ShAt w.heap.size FS sh nB 0 W
  d1 : ∀ b, FS b → ¬ F b
  d2 : ∀ b, FS b → ¬ Z b
  d3 : ¬ FS bx
  zl : ∀ b, Z b → b < W.heap.size
section
variable {w W W1 : World} {bx g sh nB : Nat} {s : Sto} {cs : Array Value} {F Z FS S : Nat → Prop}
theorem OSt.kept (h : OSt w bx g sh nB s cs F Z FS W) (hk : Kept W W1 S) (hS : ∀ k, F k ∨ Z k ∨ k = bx ∨ FS k → ¬ S k) (hb : Below w.heap.size w W1) : OSt w bx g sh nB s cs F Z FS W1 :=
  ⟨h.ls.kept hk (fun k q => hS k (q.elim .inl (fun q => .inr (q.elim .inl (fun q => .inr (.inl q)))))) hb, h.sh_.kept hk (fun k q => hS k (.inr (.inr (.inr q)))), h.d1, h.d2, h.d3, fun b q => Nat.lt_of_lt_of_le (h.zl b q) hk.1⟩
theorem OSt.step (h : OSt w bx g sh nB s cs F Z FS W) (hb : Below W.heap.size W W1) : OSt w bx g sh nB s cs F Z FS W1 :=
  h.kept (S := fun _ => False) (Kept.of_below hb _) (fun _ _ q => q) (h.ls.rows.step hb).below
theorem OSt.bytes (h : OSt w bx g sh nB s cs F Z FS W) {v : Value} {xs : List Int} {F' : Nat → Prop} (hR : Kd.R (Kd.int .u8) 5 W w.heap.size F' v xs) (hF' : ∀ b, F' b → ¬ FS b ∧ ¬ F b ∧ ¬ Z b ∧ b ≠ bx) (hlim : xs.length + 80 ≤ 140737488351400) (hn : nB ≤ 5864063200000) :
    Calls Try.prog 18 #[.pointer (some ⟨sh, 0, none⟩), v] W fun e w' => e = .returned (.tuple #[]) ∧ OSt w bx g sh (nB + 1) s cs F Z (fun b => (FS b ∨ some b = v.ownBlock ∨ W.heap.size ≤ b) ∧ b < w'.heap.size) w' ∧ Kept W w' (fun b => FS b ∧ ∃ cs t, W.heap[b]? = some (.cells cs t (0, 0)) ∧ (t = 49 ∨ t = 23)) ∧ Below w.heap.size w w' := by
  refine (Bytes_sh w.heap.size FS F' sh nB 0 W h.sh_ v xs hR (fun b q => (hF' b q).1) hlim hn).mono ?_
  rintro e w' ⟨rfl, h1, h2, h3⟩
  have hb := h3 _ w (Nat.le_refl _) h.ls.rows.below
  have hx := h.ls.bx_lt
  refine ⟨rfl, ⟨h.ls.kept h2 (fun k q r => ?_) hb, h1, fun b q r => ?_, fun b q r => ?_, fun q => ?_, fun b q => Nat.lt_of_lt_of_le (h.zl b q) h2.1⟩, h2, hb⟩
  · rcases q with q | q | q
    · exact h.d1 k r.1 q
    · exact h.d2 k r.1 q
    · exact h.d3 (q ▸ r.1)
  · rcases q.1 with q | q | q
    · exact h.d1 b q r
    · exact (hF' b (hR.1 b q.symm)).2.1 r
    · have := (h.ls.st.lt b r).2; omega
  · rcases q.1 with q | q | q
    · exact h.d2 b q r
    · exact (hF' b (hR.1 b q.symm)).2.2.1 r
    · have := h.zl b r; omega
  · rcases q.1 with q | q | q
    · exact h.d3 q
    · exact (hF' bx (hR.1 bx q.symm)).2.2.2 rfl
    · omega
def Rest (S1 S2 : Nat) (Aw : Option Addr) (ws : List S52) (k : Nat) (FSk : Nat → Prop) (W : World) : Prop := k < ws.length → ∃ (b0 : Nat) (at_ : Int) (A1 A2 : Option Addr) (c1 c2 : Nat) (r0 r1 : List Int), Aw = some ⟨b0, 0, none⟩ ∧ ws = [⟨at_, r0⟩, ⟨at_, r1⟩] ∧ W.heap[b0]? = some (.cells #[.int .i64 at_, .slice A1 r0.length c1, .int .i64 at_, .slice A2 r1.length c2] 52 (0, 0)) ∧ Kd.R (Kd.int .u8) 5 W S1 (fun b => (S1 ≤ b ∧ b < S2) ∧ ¬ FSk b) (.slice A2 r1.length c2) r1 ∧ (k = 0 → Kd.R (Kd.int .u8) 5 W S1 (fun b => (S1 ≤ b ∧ b < S2) ∧ ¬ FSk b) (.slice A1 r0.length c1) r0 ∧ ∀ b, (Value.slice A1 r0.length c1).ownBlock = some b → (Value.slice A2 r1.length c2).ownBlock ≠ some b)
theorem rest_start {S1 S2 c : Nat} {Aw : Option Addr} {ws : List S52} {FS : Nat → Prop} {W : World} (h : Wrs S1 S2 (.slice Aw ws.length c) ws W) (hF : ∀ b, FS b → b < S1) : Rest S1 S2 Aw ws 0 FS W := fun hk => by
  rcases h with ⟨rfl, _⟩ | ⟨a, r0, r1, rfl, h⟩
  · cases hk
  · obtain ⟨b0, v1, v2, h1, h2, h3, h4, h5, h6, h7⟩ := h
    obtain ⟨A1, c1, rfl⟩ := Kd.R_slice h3
    obtain ⟨A2, c2, rfl⟩ := Kd.R_slice h4
    injection h1 with h1
    exact ⟨b0, a, A1, A2, c1, c2, r0, r1, h1, rfl, h2, Kd.R_mono h4 (fun b q => ⟨q, fun r => by have := hF b r; omega⟩), fun _ => ⟨Kd.R_mono h3 (fun b q => ⟨q, fun r => by have := hF b r; omega⟩), h5⟩⟩
theorem put_grow (nm : ByteArray → Bool) (s : Sto) (x : ByteArray) (b : List Int) : (putS nm s x b).2.1.length + s.img.length ≤ (putS nm s x b).1.img.length := by
  unfold putS
  split
  · simp
  split
  · simp
  split
  · simp
  unfold laidS
  split
  · simp
  · simp [rec1_len']; omega
theorem kept_row (hk : Kept W W1 (fun b => FS b ∧ ∃ cs t, W.heap[b]? = some (.cells cs t (0, 0)) ∧ (t = 49 ∨ t = 23))) {base : Nat} {ok : Nat → Prop} {v : Value} {xs : List Int} (hR : Kd.R (Kd.int .u8) 5 W base ok v xs) : Kd.R (Kd.int .u8) 5 W1 base ok v xs :=
  Kd.R_mono (Kd.R_kept (Kd.R_tight2 rfl hR) hk (fun k q e => by
    obtain ⟨cs, h7⟩ := Kd.R_typed hR k q.1.symm
    obtain ⟨_, cs', t, h8, h9⟩ := e
    rw [h7] at h8
    injection h8 with h8
    injection h8 with _ h8
    rcases h9 with h9 | h9
    · exact (show 5 ≠ 49 by decide) (h8.trans h9)
    · exact (show 5 ≠ 23 by decide) (h8.trans h9))) (fun _ q => q.2)
theorem kept_blk (hk : Kept W W1 (fun b => FS b ∧ ∃ cs t, W.heap[b]? = some (.cells cs t (0, 0)) ∧ (t = 49 ∨ t = 23))) {k : Nat} {cs : Array Value} {t : TypeId} (h : W.heap[k]? = some (.cells cs t (0, 0))) (h1 : t ≠ 49) (h2 : t ≠ 23) : W1.heap[k]? = some (.cells cs t (0, 0)) :=
  (hk.2 k (blk_lt h) (fun ⟨_, cs', t', h8, h9⟩ => by
    rw [h] at h8
    injection h8 with h8
    injection h8 with _ h8
    rcases h9 with h9 | h9
    · exact h1 (h8.trans h9)
    · exact h2 (h8.trans h9))).trans h
end
theorem rest_view {S1 S2 k : Nat} {Aw : Option Addr} {ws : List S52} {FSk : Nat → Prop} {W : World} (h : Rest S1 S2 Aw ws k FSk W) (hk : k < ws.length) (hwe : ∀ x ∈ ws, x.f1.length ≤ 2097152) (hS : S2 ≤ W.heap.size) :
    ∃ (ad : Addr) (at_ : Int) (Av : Option Addr) (cv : Nat) (rv : List Int), Aw = some ad ∧ W.cell? (ad.add (k * 2)) = some (.int .i64 at_) ∧ W.cell? ⟨(ad.add (k * 2)).block, (ad.add (k * 2)).off + 1, none⟩ = some (.slice Av rv.length cv) ∧ Kd.R (Kd.int .u8) 5 W S1 (fun b => (S1 ≤ b ∧ b < S2) ∧ ¬ FSk b) (.slice Av rv.length cv) rv ∧ rv.length ≤ 2097152 ∧
      ∀ (W3 W' : World) (FS' : Nat → Prop), Kept W W3 (fun _ => False) → Kept W3 W' (fun b => FSk b ∧ ∃ cs t, W3.heap[b]? = some (.cells cs t (0, 0)) ∧ (t = 49 ∨ t = 23)) → (∀ b, FS' b → FSk b ∨ some b = (Value.slice Av rv.length cv).ownBlock ∨ W3.heap.size ≤ b) → Rest S1 S2 Aw ws (k + 1) FS' W' := by
  obtain ⟨b0, at_, A1, A2, c1, c2, r0, r1, hA, hws, hb0, hr2, hr1⟩ := h hk
  subst hws
  have hk2 : k < 2 := hk
  rcases Nat.eq_zero_or_pos k with e | e
  · subst e
    obtain ⟨hr1, hne⟩ := hr1 rfl
    refine ⟨⟨b0, 0, none⟩, at_, A1, c1, r0, hA, blk_cell hb0 0, blk_cell hb0 1, hr1, hwe ⟨at_, r0⟩ List.mem_cons_self, fun W3 W' FS' k1 k2 hF => fun _ => ⟨b0, at_, A1, A2, c1, c2, r0, r1, hA, rfl, kept_blk k2 (blk_kept hb0 k1 (fun q => q)) (show 52 ≠ 49 by decide) (show 52 ≠ 23 by decide), ?_, fun q => absurd q (by decide)⟩⟩
    refine Kd.R_mono (Kd.R_tight2 rfl (kept_row k2 (Kd.R_kept hr2 k1 (fun _ _ q => q)))) (fun b q => ⟨q.2.1, fun r => ?_⟩)
    rcases hF b r with r | r | r
    · exact q.2.2 r
    · exact hne b r.symm q.1.symm
    · have := k1.1; have := q.2.1.2; omega
  · have e1 : k = 1 := by omega
    subst e1
    exact ⟨⟨b0, 0, none⟩, at_, A2, c2, r1, hA, blk_cell hb0 2, blk_cell hb0 3, hr2, hwe ⟨at_, r1⟩ (List.mem_cons_of_mem _ List.mem_cons_self), fun W3 W' FS' k1 k2 hF => fun q => absurd q (by simp)⟩
end
end Go.Proofs.Ytfakdphkklclgaa.P

end

section
namespace Go.Proofs.Ytfakdphkklclgaa.P
open Go.RowKit Go.Proofs.YtfakdphkklclgaaW.PrintWords Go.Proofs.YtfakdphkklclgaaW.PrintLast Go.Proofs.YtfakdphkklclgaaW.PrintMore
attribute [local go_sem] max2_int min2_int max_two min_two max_three min_three max_four min_four
set_option linter.unusedVariables false
set_option linter.unusedSimpArgs false
section
structure WsOK (s : Sto) (out : Sto × List S52 × Int) : Prop where
  len : out.2.1.length ≤ 2
  each : ∀ x ∈ out.2.1, x.f0 = (s.img.length : Int) ∧ x.f1.length ≤ 2097152
  rng : ∀ x ∈ out.2.1, ∀ z ∈ x.f1, 0 ≤ z ∧ z ≤ 255
  how : (out.2.1 = [] ∧ out.1 = s) ∨ ∃ (l : List S101) (k : Int) (t : List Int), out.1 = ⟨s.img ++ k :: t, l⟩ ∧ out.2.1 = [⟨(s.img.length : Int), 0 :: t ++ [0]⟩, ⟨(s.img.length : Int), [k]⟩] ∧ s.img.length + t.length + 2 ≤ 1048576
theorem laid_ws {s : Sto} (l : List S101) (k : Int) (t : List Int) (hi : s.img.length ≤ 1048576) (hr : ∀ z ∈ k :: t, 0 ≤ z ∧ z ≤ 255) : WsOK s (laidS s l (k :: t)) := by
  unfold laidS
  split
  · exact ⟨Nat.zero_le _, fun x hx => (by cases hx), fun x hx => (by cases hx), .inl ⟨rfl, rfl⟩⟩
  · rename_i c
    simp only [List.length_cons] at c
    refine ⟨Nat.le_refl _, fun x hx => ?_, fun x hx => ?_, .inr ⟨l, k, t, rfl, rfl, by omega⟩⟩
    rotate_left
    · rcases List.mem_cons.1 hx with rfl | hx
      · intro z hz
        rcases List.mem_append.1 hz with hz | hz
        · rcases List.mem_cons.1 hz with rfl | hz
          · decide
          · exact hr z (List.mem_cons_of_mem _ hz)
        · rw [List.mem_singleton.1 hz]; decide
      · rw [List.mem_singleton.1 hx]
        intro z hz
        rw [List.mem_singleton.1 hz]
        exact hr k List.mem_cons_self
    rcases List.mem_cons.1 hx with rfl | hx
    · exact ⟨rfl, by simp; omega⟩
    · rw [List.mem_singleton.1 hx]; exact ⟨rfl, by simp⟩
theorem rec_cons (kind : Int) (x : ByteArray) (b : List Int) : ∃ t, recB kind x b = kind :: t := ⟨_, rfl⟩
end
end Go.Proofs.Ytfakdphkklclgaa.P
end

