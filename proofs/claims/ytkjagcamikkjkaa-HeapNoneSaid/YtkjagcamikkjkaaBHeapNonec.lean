/- Proved: the law HeapNone holds for every input that the row lets in. No condition of ours. -/
import Derived.Test.YtkjagcamikkjkaaBHeapNoneb
import Derived.Test.YtkjagcamikkjkaaRows
import Derived.ShutString
import Derived.ChangeOld
import Derived.Lib.SmallJoins
section
namespace Go.Proofs.Ytkjagcamikkjkaa.P
open Go.RowKit Go.Proofs.YtkjagcamikkjkaaW.PrintWords Go.Proofs.YtkjagcamikkjkaaW.PrintLast Go.Proofs.YtkjagcamikkjkaaW.PrintMore
attribute [local go_sem] max2_int min2_int max_two min_two max_three min_three max_four min_four   -- for this text's walks alone
set_option linter.unusedVariables false
set_option linter.unusedSimpArgs false

theorem isTypeOf (v : Value) (w : World) : (Go.Extern.ReflectliteType.typeOf #[.iface 24 v]).run Try.prog w = .ok (.iface 137 (.agg #[.pointer (some ⟨0, 24, none⟩)])) w := by kernel_rfl
def comparableFn : Array Value → Sem Value := Go.Extern.ReflectliteType.method fun t => do Go.Extern.Rtype.noPackHeld "Comparable" t; pure (.bool (← Go.typeInfo t).comparable)
theorem isComparable (w : World) : (comparableFn #[.agg #[.pointer (some ⟨0, 24, none⟩)]]).run Try.prog w = .ok (.bool true) w := by kernel_rfl
theorem isMethodComparable (v : Value) (w : World) : (Go.method 282 137 v "Comparable").run Try.prog w = .ok (107, v) w := by kernel_rfl
theorem isComp : (Try.prog.info? 24).map (·.comparable) = some true := by kernel_rfl
set_option maxHeartbeats 1600000 in
set_option maxRecDepth 100000 in
theorem is_errno (k : Int) (w : World) :
    Calls Try.prog 61 #[.iface 24 (.int .i64 k), .iface 24 (.int .i64 k)] w fun e w' => e = .returned (.bool true) ∧ w' = w := by
  have h8 := @run_callFunc_extern Try.prog 79 _ Go.Extern.ReflectliteType.typeOf Try.func79 (by kernel_rfl) (by kernel_rfl) (by kernel_rfl) (by kernel_rfl)
  have h32 := @run_callFunc_extern Try.prog 107 _ comparableFn Try.func107 (by kernel_rfl) (by kernel_rfl) (by kernel_rfl) (by kernel_rfl)
  have tT := isTypeOf
  have cT := isComparable
  have mR := isMethodComparable
  have heq := Go.Lib.run_eql_iface_int (P := Try.prog) w (t := 91) (k := .i64) k k Try.underlying91 isComp Try.underlying24
  have hkk : (k == k) = true := by simp
  rw [hkk] at heq
  go_enter Try.func61, Try.ntmps61
  go_wp2

  refine wp_loop_rounds 1 ?_
  rw [rounds_succ]
  go_wp2
  go_ret
  exact ⟨rfl, rfl⟩
def HNo (v : Value) (W : World) : Prop := v = .pointer none ∨ ∃ g, v = .pointer (some ⟨g, 0, none⟩) ∧ W.heap[g]? = some (.cells #[.slice none 0 0, .int .i64 0, .int .i64 0, .int .i64 0, .map none] 50 (0, 0))
theorem HNo.step {v : Value} {W W' : World} (h : HNo v W) (hb : Below W.heap.size W W') : HNo v W' := by
  rcases h with h | ⟨g, h1, h2⟩
  · exact .inl h
  · exact .inr ⟨g, h1, blk_below h2 hb⟩
theorem map_none_neq (w : World) : (binOp .neq 48 (.map none) (.map none)).run Try.prog w = .ok (.bool false) w := by kernel_rfl
theorem made_map (w : World) : (Instr.makeMap 48 none).run Try.prog w = .ok (.map (some w.heap.size)) (w.alloc (.map #[] 0)) := by kernel_rfl
set_option maxHeartbeats 1600000 in
set_option maxRecDepth 100000 in
theorem made_hno (v : Value) (w : World) (h : HNo v w) : Calls Try.prog 34 #[v] w fun e w' => e = .returned (.bool false) ∧ Below w.heap.size w w' := by
  rcases h with rfl | ⟨g, rfl, hg⟩
  · go_enter Try.func34, Try.ntmps34
    go_wp2
    go_ret
    exact ⟨rfl, Below.refl _ _⟩
  · have hc := blk_cell hg 4
    have hmn := map_none_neq
    clear hg
    go_enter Try.func34, Try.ntmps34
    go_wp2
    go_ret
    exact ⟨rfl, Below.refl _ _⟩
set_option maxHeartbeats 1600000 in
set_option maxRecDepth 100000 in
theorem number_nil (w : World) : Calls Try.prog 42 #[(.iface 24 (.int .i64 8))] w fun e w' => e = .returned (.int .i64 8) ∧ Below w.heap.size w w' := by
  have HB := Aside0.mk (below_alloc (Below.refl w.heap.size w) (.cells #[.int .i64 8, .int .i64 140, .int .i64 141] 24))
  go_enter Try.func42, Try.ntmps42
  go_wp2
  refine wp_loop_rounds 1 ?_
  rw [rounds_succ]
  go_wp2_with fail
  refine (is_errno 8 _).mono ?_
  rintro e w1 ⟨rfl, rfl⟩
  go_wp2
  go_ret
  exact ⟨rfl, HB.out⟩
set_option maxHeartbeats 1600000 in
set_option maxRecDepth 100000 in
theorem find_hno (v : Value) (a : Int) (w : World) (h : HNo v w) : Calls Try.prog 41 #[v, .int .i64 a] w fun e w' => e = .returned (.tuple #[.pointer none, (.iface 24 (.int .i64 8))]) ∧ Below w.heap.size w w' := by
  have H := Aside0.mk h
  clear h
  go_enter Try.func41, Try.ntmps41
  go_wp2_with fail
  refine (made_hno v _ H.out).mono ?_
  rintro e w1 ⟨rfl, hb⟩
  have HB := Aside0.mk hb
  clear hb
  go_wp2
  go_ret2
  exact ⟨rfl, HB.out⟩
set_option maxHeartbeats 1600000 in
set_option maxRecDepth 100000 in
theorem Record_hno (v : Value) (a : Int) (w : World) (h : HNo v w) : Calls Try.prog 10 #[v, .int .i64 a] w fun e w' => e = .returned (.tuple #[.int .i64 0, .int .i64 8]) ∧ Below w.heap.size w w' := by
  have H := Aside0.mk h
  clear h
  go_enter Try.func10, Try.ntmps10
  go_wp2_with fail
  refine (made_hno v _ H.out).mono ?_
  rintro e w1 ⟨rfl, hb⟩
  have HB := Aside0.mk hb
  clear hb
  go_wp2
  go_ret2
  exact ⟨rfl, HB.out⟩
set_option maxHeartbeats 1600000 in
set_option maxRecDepth 100000 in
theorem Row_hno (v : Value) (a : Int) (w : World) (h : HNo v w) : Calls Try.prog 18 #[v, .int .i64 a] w fun e w' => e = .returned (.tuple #[.int .i64 0, .int .i64 8]) ∧ Below w.heap.size w w' := by
  have H := Aside0.mk h
  clear h
  go_enter Try.func18, Try.ntmps18
  go_wp2_with fail
  refine (made_hno v _ H.out).mono ?_
  rintro e w1 ⟨rfl, hb⟩
  have HB := Aside0.mk hb
  clear hb
  go_wp2
  go_ret2
  exact ⟨rfl, HB.out⟩
set_option maxHeartbeats 1600000 in
set_option maxRecDepth 100000 in
theorem Used_hno (v : Value) (w : World) (h : HNo v w) : Calls Try.prog 17 #[v] w fun e w' => e = .returned (.int .i64 0) ∧ Below w.heap.size w w' := by
  have H := Aside0.mk h
  clear h
  go_enter Try.func17, Try.ntmps17
  go_wp2_with fail
  refine (made_hno v _ H.out).mono ?_
  rintro e w1 ⟨rfl, hb⟩
  have HB := Aside0.mk hb
  clear hb
  go_wp2
  go_ret
  exact ⟨rfl, HB.out⟩
set_option maxHeartbeats 1600000 in
set_option maxRecDepth 100000 in
theorem Live_hno (v : Value) (w : World) (h : HNo v w) : Calls Try.prog 13 #[v] w fun e w' => e = .returned (.slice none 0 0) ∧ Below w.heap.size w w' := by
  have H := Aside0.mk h
  clear h
  go_enter Try.func13, Try.ntmps13
  go_wp2_with fail
  refine (made_hno v _ H.out).mono ?_
  rintro e w1 ⟨rfl, hb⟩
  have HB := Aside0.mk hb
  clear hb
  go_wp2
  go_ret
  exact ⟨rfl, HB.out⟩
set_option maxHeartbeats 1600000 in
set_option maxRecDepth 100000 in
theorem Reach_hno (v : Value) (A : Option Addr) (n c : Nat) (w : World) (h : HNo v w) : Calls Try.prog 20 #[v, .slice A n c] w fun e w' => e = .returned (.tuple #[.slice none 0 0, .int .i64 8]) ∧ Below w.heap.size w w' := by
  have H := Aside0.mk h
  clear h
  go_enter Try.func20, Try.ntmps20
  go_wp2_with fail
  refine (made_hno v _ H.out).mono ?_
  rintro e w1 ⟨rfl, hb⟩
  have HB := Aside0.mk hb
  clear hb
  go_wp2
  go_ret2
  exact ⟨rfl, HB.out⟩
set_option maxHeartbeats 1600000 in
set_option maxRecDepth 100000 in
theorem Collect_hno (v : Value) (A : Option Addr) (n c : Nat) (w : World) (h : HNo v w) : Calls Try.prog 12 #[v, .slice A n c] w fun e w' => e = .returned (.tuple #[.int .i64 0, .int .i64 8]) ∧ Below w.heap.size w w' := by
  have H := Aside0.mk h
  clear h
  go_enter Try.func12, Try.ntmps12
  go_wp2_with fail
  refine (made_hno v _ H.out).mono ?_
  rintro e w1 ⟨rfl, hb⟩
  have HB := Aside0.mk hb
  clear hb
  go_wp2
  go_ret2
  exact ⟨rfl, HB.out⟩
set_option maxHeartbeats 1600000 in
set_option maxRecDepth 100000 in
theorem place_hno (v : Value) (a b : Int) (w : World) (h : HNo v w) : Calls Try.prog 37 #[v, .int .i64 a, .int .i64 b] w fun e w' => e = .returned (.tuple #[.pointer none, .int .i64 8]) ∧ Below w.heap.size w w' := by
  have H := Aside0.mk h
  clear h
  go_enter Try.func37, Try.ntmps37
  go_wp2_with fail
  refine (find_hno v a _ H.out).mono ?_
  rintro e w1 ⟨rfl, hb⟩
  have HB := Aside0.mk hb
  clear hb
  go_wp2_with fail
  refine (number_nil _).mono ?_
  rintro e w2 ⟨rfl, hb⟩
  replace HB := Aside0.mk (below_step HB.out hb)
  clear hb
  go_wp2
  go_ret2
  exact ⟨rfl, HB.out⟩
set_option maxHeartbeats 1600000 in
set_option maxRecDepth 100000 in
theorem Len_hno (v : Value) (a : Int) (w : World) (h : HNo v w) : Calls Try.prog 16 #[v, .int .i64 a] w fun e w' => e = .returned (.tuple #[.int .i64 0, .int .i64 8]) ∧ Below w.heap.size w w' := by
  have H := Aside0.mk h
  clear h
  go_enter Try.func16, Try.ntmps16
  go_wp2_with fail
  refine (find_hno v a _ H.out).mono ?_
  rintro e w1 ⟨rfl, hb⟩
  have HB := Aside0.mk hb
  clear hb
  go_wp2_with fail
  refine (number_nil _).mono ?_
  rintro e w2 ⟨rfl, hb⟩
  replace HB := Aside0.mk (below_step HB.out hb)
  clear hb
  go_wp2
  go_ret2
  exact ⟨rfl, HB.out⟩
set_option maxHeartbeats 1600000 in
set_option maxRecDepth 100000 in
theorem Class_hno (v : Value) (a : Int) (w : World) (h : HNo v w) : Calls Try.prog 21 #[v, .int .i64 a] w fun e w' => e = .returned (.tuple #[.int .i64 0, .bool false]) ∧ Below w.heap.size w w' := by
  have H := Aside0.mk h
  clear h
  go_enter Try.func21, Try.ntmps21
  go_wp2_with fail
  refine (find_hno v a _ H.out).mono ?_
  rintro e w1 ⟨rfl, hb⟩
  have HB := Aside0.mk hb
  clear hb
  go_wp2
  go_ret2
  exact ⟨rfl, HB.out⟩
set_option maxHeartbeats 1600000 in
set_option maxRecDepth 100000 in
theorem Get_hno (v : Value) (a b : Int) (w : World) (h : HNo v w) : Calls Try.prog 19 #[v, .int .i64 a, .int .i64 b] w fun e w' => e = .returned (.tuple #[.int .i64 0, .int .i64 8]) ∧ Below w.heap.size w w' := by
  have H := Aside0.mk h
  clear h
  go_enter Try.func19, Try.ntmps19
  go_wp2_with fail
  refine (place_hno v a b _ H.out).mono ?_
  rintro e w1 ⟨rfl, hb⟩
  have HB := Aside0.mk hb
  clear hb
  go_wp2
  go_ret2
  exact ⟨rfl, HB.out⟩
set_option maxHeartbeats 1600000 in
set_option maxRecDepth 100000 in
theorem Put_hno (v : Value) (a b c : Int) (w : World) (h : HNo v w) : Calls Try.prog 11 #[v, .int .i64 a, .int .i64 b, .int .i64 c] w fun e w' => e = .returned (.int .i64 8) ∧ Below w.heap.size w w' := by
  have H := Aside0.mk h
  clear h
  go_enter Try.func11, Try.ntmps11
  go_wp2_with fail
  refine (place_hno v a b _ H.out).mono ?_
  rintro e w1 ⟨rfl, hb⟩
  have HB := Aside0.mk hb
  clear hb
  go_wp2
  go_ret
  exact ⟨rfl, HB.out⟩
set_option maxHeartbeats 1600000 in
set_option maxRecDepth 100000 in
theorem Check_nil (w : World) : Calls Try.prog 32 #[.slice none 0 0] w fun e w' => e = .returned (.tuple #[.int .i64 0, .int .i64 0]) ∧ Below w.heap.size w w' := by
  go_enter Try.func32, Try.ntmps32
  go_wp2
  refine wp_loop_rounds 1 ?_
  rw [rounds_succ]
  go_wp2
  go_ret2
  exact ⟨rfl, Below.refl _ _⟩
set_option maxHeartbeats 1600000 in
set_option maxRecDepth 100000 in
theorem New_nil (w : World) : Calls Try.prog 9 #[.slice none 0 0, .int .i64 3] w fun e w' => (∃ g, e = .returned (.tuple #[.pointer (some ⟨g, 0, none⟩), .int .i64 0])) ∧ Below w.heap.size w w' := by
  have hmk := made_map
  go_enter Try.func9, Try.ntmps9
  go_wp2_with fail
  refine (Check_nil _).mono ?_
  rintro e w1 ⟨rfl, hb⟩
  have HB := Aside0.mk hb
  clear hb
  go_wp2
  refine wp_loop_rounds 1 ?_
  rw [rounds_succ]
  go_wp2
  go_ret2
  exact ⟨⟨_, rfl⟩, below_alloc (below_alloc HB.out _) _⟩
def provisolaw14_HeapNone.f (a0 a1 : Int) : Option Bool := some true
set_option maxHeartbeats 6400000 in
set_option maxRecDepth 100000 in
theorem provisolaw14_HeapNone.calls (a0 : Int) (a1 : Int) (r : Bool) (w : World) (h : provisolaw14_HeapNone.f a0 a1 = some r) :
    Calls Try.prog 5 #[.int .i64 a0, .int .i64 a1] w fun e w' => e = .returned (.bool r) ∧ Below w.heap.size w w' := by
  obtain rfl : r = true := (Option.some.inj h).symm
  clear h
  go_enter Try.func5, Try.ntmps5
  go_wp2_with fail
  have h1 := blk_alloc (blk_new w (.cells #[.slice none 0 0, .int .i64 0, .int .i64 0, .int .i64 0, .map none] 50)) (.cells #[.pointer none, .pointer (some ⟨w.heap.size, 0, none⟩)] 23)
  have h2 := blk_new (w.alloc (.cells #[.slice none 0 0, .int .i64 0, .int .i64 0, .int .i64 0, .map none] 50)) (.cells #[.pointer none, .pointer (some ⟨w.heap.size, 0, none⟩)] 23)
  have hb := below_alloc (below_alloc (Below.refl w.heap.size w) (.cells #[.slice none 0 0, .int .i64 0, .int .i64 0, .int .i64 0, .map none] 50)) (.cells #[.pointer none, .pointer (some ⟨w.heap.size, 0, none⟩)] 23)
  replace h2 : ((w.alloc (.cells #[.slice none 0 0, .int .i64 0, .int .i64 0, .int .i64 0, .map none] 50)).alloc (.cells #[.pointer none, .pointer (some ⟨w.heap.size, 0, none⟩)] 23)).heap[w.heap.size + 1]? = some (.cells #[.pointer none, .pointer (some ⟨w.heap.size, 0, none⟩)] 23 (0, 0)) := by simpa using h2
  generalize (w.alloc (.cells #[.slice none 0 0, .int .i64 0, .int .i64 0, .int .i64 0, .map none] 50)).alloc (.cells #[.pointer none, .pointer (some ⟨w.heap.size, 0, none⟩)] 23) = w3 at h1 h2 hb ⊢
  generalize hgz : w.heap.size = gz at h1 h2 ⊢
  generalize hgs : gz + 1 = gs at h2 ⊢
  have HB := Aside0.mk hb
  have HGZ := Aside0.mk h1
  have HGS := Aside0.mk h2
  clear h1 h2 hb hgs
  go_loopw [31] (fun v31 wr => ∃ i : Nat, v31 = .int .i64 (i : Int) ∧ i ≤ 2 ∧ Aside0 (Below w.heap.size w wr) ∧ Aside0 (wr.heap[gz]? = some (.cells #[.slice none 0 0, .int .i64 0, .int .i64 0, .int .i64 0, .map none] 50 (0, 0))) ∧ Aside0 (wr.heap[gs]? = some (.cells #[.pointer none, .pointer (some ⟨gz, 0, none⟩)] 23 (0, 0)))) (fun v31 _ => (2 - intOf v31).toNat)
  case atStart => exact ⟨0, rfl, by decide, (by first | exact HB | (rw [hgz]; exact HB) | (rw [← hgz] at HB; exact HB)), HGZ, HGS⟩
  case round =>
    obtain ⟨i, rfl, hi, HB, HGZ, HGS⟩ := hrel
    by_cases c1 : i < 2
    · have c1b : decide ((i : Int) < 2) = true := decide_eq_true (by omega)
      have p1 : (0 ≤ (i : Int)) = True := eq_true (by omega)
      have p2 : ((i : Int) < 2) = True := eq_true (by omega)
      have HI : Aside0 (i < 2) := ⟨c1⟩
      obtain ⟨v, hv, hn⟩ : ∃ v, wr.cell? ⟨gs, i, none⟩ = some v ∧ HNo v wr := by
        obtain rfl | rfl : i = 0 ∨ i = 1 := by omega
        · exact ⟨_, blk_cell HGS.out 0, .inl rfl⟩
        · exact ⟨_, blk_cell HGS.out 1, .inr ⟨gz, rfl, HGZ.out⟩⟩
      have HN := Aside0.mk hn
      clear hn c1
      go_wp2_with fail
      clear hv
      refine (Record_hno v a0 _ HN.out).mono ?_
      rintro e_ w_ ⟨rfl, hb⟩
      replace HN := Aside0.mk (HN.out.step hb)
      replace HB := Aside0.mk (below_step HB.out hb)
      replace HGS := Aside0.mk (blk_below HGS.out hb)
      replace HGZ := Aside0.mk (blk_below HGZ.out hb)
      clear hb
      go_wp2_with fail
      refine (Row_hno v a0 _ HN.out).mono ?_
      rintro e_ w_ ⟨rfl, hb⟩
      replace HN := Aside0.mk (HN.out.step hb)
      replace HB := Aside0.mk (below_step HB.out hb)
      replace HGS := Aside0.mk (blk_below HGS.out hb)
      replace HGZ := Aside0.mk (blk_below HGZ.out hb)
      clear hb
      go_wp2_with fail
      refine (Get_hno v a0 a1 _ HN.out).mono ?_
      rintro e_ w_ ⟨rfl, hb⟩
      replace HN := Aside0.mk (HN.out.step hb)
      replace HB := Aside0.mk (below_step HB.out hb)
      replace HGS := Aside0.mk (blk_below HGS.out hb)
      replace HGZ := Aside0.mk (blk_below HGZ.out hb)
      clear hb
      go_wp2_with fail
      refine (Len_hno v a0 _ HN.out).mono ?_
      rintro e_ w_ ⟨rfl, hb⟩
      replace HN := Aside0.mk (HN.out.step hb)
      replace HB := Aside0.mk (below_step HB.out hb)
      replace HGS := Aside0.mk (blk_below HGS.out hb)
      replace HGZ := Aside0.mk (blk_below HGZ.out hb)
      clear hb
      go_wp2_with fail
      refine (Reach_hno v _ _ _ _ (HN.out.step (below_alloc (Below.refl _ _) _))).mono ?_
      rintro e_ w_ ⟨rfl, hb⟩
      replace HN := Aside0.mk ((HN.out.step (below_alloc (Below.refl _ _) _)).step hb)
      replace HB := Aside0.mk (below_step (below_alloc HB.out _) hb)
      replace HGS := Aside0.mk (blk_below (blk_alloc HGS.out _) hb)
      replace HGZ := Aside0.mk (blk_below (blk_alloc HGZ.out _) hb)
      clear hb
      go_wp2_with fail
      refine (Collect_hno v _ _ _ _ (HN.out.step (below_alloc (Below.refl _ _) _))).mono ?_
      rintro e_ w_ ⟨rfl, hb⟩
      replace HN := Aside0.mk ((HN.out.step (below_alloc (Below.refl _ _) _)).step hb)
      replace HB := Aside0.mk (below_step (below_alloc HB.out _) hb)
      replace HGS := Aside0.mk (blk_below (blk_alloc HGS.out _) hb)
      replace HGZ := Aside0.mk (blk_below (blk_alloc HGZ.out _) hb)
      clear hb
      go_wp2_with fail
      refine (Put_hno v a0 a1 1 _ HN.out).mono ?_
      rintro e_ w_ ⟨rfl, hb⟩
      replace HN := Aside0.mk (HN.out.step hb)
      replace HB := Aside0.mk (below_step HB.out hb)
      replace HGS := Aside0.mk (blk_below HGS.out hb)
      replace HGZ := Aside0.mk (blk_below HGZ.out hb)
      clear hb
      go_wp2
      refine wp_loop_rounds 8 ?_
      rw [rounds_succ]
      go_wp2
      rw [rounds_succ]
      go_wp2
      rw [rounds_succ]
      go_wp2
      rw [rounds_succ]
      go_wp2
      rw [rounds_succ]
      go_wp2
      rw [rounds_succ]
      go_wp2
      rw [rounds_succ]
      go_wp2
      rw [rounds_succ]
      go_wp2_with fail
      refine (Class_hno v a0 _ (HN.out.step (below_alloc (Below.refl _ _) _))).mono ?_
      rintro e_ w_ ⟨rfl, hb⟩
      replace HN := Aside0.mk ((HN.out.step (below_alloc (Below.refl _ _) _)).step hb)
      replace HB := Aside0.mk (below_step (below_alloc HB.out _) hb)
      replace HGS := Aside0.mk (blk_below (blk_alloc HGS.out _) hb)
      replace HGZ := Aside0.mk (blk_below (blk_alloc HGZ.out _) hb)
      clear hb
      go_wp2_with fail
      refine (Used_hno v _ HN.out).mono ?_
      rintro e_ w_ ⟨rfl, hb⟩
      replace HN := Aside0.mk (HN.out.step hb)
      replace HB := Aside0.mk (below_step HB.out hb)
      replace HGS := Aside0.mk (blk_below HGS.out hb)
      replace HGZ := Aside0.mk (blk_below HGZ.out hb)
      clear hb
      go_wp2_with fail
      refine (Live_hno v _ HN.out).mono ?_
      rintro e_ w_ ⟨rfl, hb⟩
      replace HN := Aside0.mk (HN.out.step hb)
      replace HB := Aside0.mk (below_step HB.out hb)
      replace HGS := Aside0.mk (blk_below HGS.out hb)
      replace HGZ := Aside0.mk (blk_below HGZ.out hb)
      clear hb
      go_wp2
      exact ⟨⟨i + 1, rfl, HI.out, HB, HGZ, HGS⟩, by have := HI.out; simp [intOf]; omega⟩
    · have c1b : decide ((i : Int) < 2) = false := decide_eq_false (by omega)
      go_wp2_with fail
      refine (New_nil _).mono ?_
      rintro e_ w_ ⟨⟨gn, rfl⟩, hb⟩
      replace HB := Aside0.mk (below_step HB.out hb)
      clear hb
      go_wp2
      go_ret
      exact ⟨rfl, HB.out⟩





end Go.Proofs.Ytkjagcamikkjkaa.P

end

section
namespace Go.Proofs.Ytkjagcamikkjkaa.P
open Go.RowKit Go.Proofs.YtkjagcamikkjkaaW.PrintWords
def provisolaw14_HeapNone.Pure : Prop := ∀ (a0 : Int) (a1 : Int), (fun n : Int => (Lit.int .i64 n).wf = true) a0 → (fun n : Int => (Lit.int .i64 n).wf = true) a1 → provisolaw14_HeapNone.f a0 a1 = some true
end Go.Proofs.Ytkjagcamikkjkaa.P

end

section
namespace Go.Proofs.Ytkjagcamikkjkaa.Pure
open Go.RowKit Go.Proofs.Ytkjagcamikkjkaa.P Go.Proofs.YtkjagcamikkjkaaW.PrintWords
theorem HeapNone : provisolaw14_HeapNone.Pure := by
  intro a0 a1 _ _
  rfl
end Go.Proofs.Ytkjagcamikkjkaa.Pure

end

section
namespace Go.Proofs.Ytkjagcamikkjkaa.heapNone
open Go.ChangeShapes Go.WideShapes Go.ChangeAt Go.RowKit Go.Proofs.YtkjagcamikkjkaaW.PrintWords Go.Proofs.Ytkjagcamikkjkaa.Sees Go.Proofs.Ytkjagcamikkjkaa.P
open Go.ChangeMaps (open_string shut_string)
set_option linter.unusedVariables false
set_option linter.unusedSimpArgs false
theorem own : ownKnob Try.prog.godebug = none := by kernel_rfl
theorem laidOut : laidOutB Try.prog = true := by kernel_rfl
set_option maxRecDepth 100000 in
theorem lifted (os : Os) (started : os.Started) (H : Type) (enc : TypeId × Value → H) :
    ReturnsInHanded {} Try.checked os 5 .any (Rows.heapNoneSpec.pre6 enc Try.prog Try.f5 Rows.heapNoneRow.domain false) (Rows.heapNoneSpec.post enc Try.prog Try.f5 false true false false) := by
  refine returnsInHanded_of_change_sized (C := Try.checked) own started (by kernel_rfl) Try.func5
    (ChangeSpec.witness6 (enc := enc) (C := Try.checked) false ⟨#[], #[.int .i64 0, .int .i64 0], []⟩ 8 (by kernel_rfl) (by kernel_rfl) (by kernel_rfl) (by kernel_rfl)) ?_
  intro W base args ds gs before hval0 hW hcnd hsz0 _
  have hsz : (DataW.weightsEach Try.prog (Try.f5.params.toList ++ Rows.heapNoneSpec.plain.varTypes Try.prog) (ds ++ gs)).all (· ≤ reachBytes) = true := hsz0
  have hval : ∀ (j : Nat) t v, Try.f5.params[j]? = some t → args[j]? = some v → Value.okWide Try.prog W .any base t v := hval0
  have hW' := hW
  obtain ⟨p, q, hA0, hV, rfl, hfz, hnd⟩ := hW
  have hA : DataW.TrodAll enc Try.prog W 0 (fun _ => true) true Try.f5.params.toList args.toList ds p := hA0
  rw [Try.params5] at hA hval hsz
  obtain ⟨v0, vs0, d0, ds0, p0, q0, hargs, rfl, rfl, h0, r0⟩ := trodAll_cons hA
  obtain ⟨v1, vs1, d1, ds1, p1, q1, rfl, rfl, rfl, h1, r1⟩ := trodAll_cons r0
  obtain ⟨rfl, rfl, rfl⟩ := trodAll_nil r1
  obtain rfl : args = #[v0, v1] := by cases args; simp_all
  obtain ⟨rfl, rfl⟩ := trodVars_none hV
  have k0 := h0
  have lt0 : ∀ x ∈ p0, x.block < W.heap.size := by obtain ⟨m, hm⟩ := k0; exact DataW.trod_lt m _ _ _ hm
  obtain ⟨y0, hy0, oy0⟩ := see_arg (j := 0) (t := 3) (sees_int Try.underlying3) hsz rfl rfl h0
  obtain ⟨z0, rfl, rfl, rfl, _⟩ := open_int Try.underlying3 (hval 0 3 v0 rfl rfl) h0
  obtain rfl : z0 = y0 := by have e_ := hy0; simp [Kd.int, Kd.bool, Kd.string, Kd.scalar, Value.cells] at e_; exact e_
  have k1 := h1
  have lt1 : ∀ x ∈ p1, x.block < W.heap.size := by obtain ⟨m, hm⟩ := k1; exact DataW.trod_lt m _ _ _ hm
  obtain ⟨y1, hy1, oy1⟩ := see_arg (j := 1) (t := 3) (sees_int Try.underlying3) hsz rfl rfl h1
  obtain ⟨z1, rfl, rfl, rfl, _⟩ := open_int Try.underlying3 (hval 1 3 v1 rfl rfl) h1
  obtain rfl : z1 = y1 := by have e_ := hy1; simp [Kd.int, Kd.bool, Kd.string, Kd.scalar, Value.cells] at e_; exact e_
  clear hA0 hval0 hsz0 hsz
  have hk := Pure.HeapNone z0 z1 oy0 oy1
  refine (provisolaw14_HeapNone.calls z0 z1 true W  hk).mono ?_
  rintro e W' ⟨rfl, bel0⟩
  have bel : Below W.heap.size W W' := bel0
  exact ⟨_, rfl, _, _, _, [], _, [], hW', trodAll_mk1 (shut_bool Try.underlying4 _), (trodAll_cons_mk (Below.trod laidOut (by kernel_rfl) (of_decide_eq_true (by kernel_rfl)) k0 bel lt0) (trodAll_cons_mk (Below.trod laidOut (by kernel_rfl) (of_decide_eq_true (by kernel_rfl)) k1 bel lt1) trodAll_mk0)), rfl, bel.frame _, fun h => by cases h⟩
theorem over : Rows.heapNoneRow.holds Try.pinned (OpenSpec.ofChange Rows.heapNoneSpec) :=
  OpenClaim.holds_of_wide 5 Try.f5 rfl rfl rfl rfl rfl rfl rfl ⟨rfl, rfl, rfl, rfl, rfl⟩ rfl rfl rfl rfl rfl (by kernel_rfl) Try.func5 (by kernel_rfl)
    (of_decide_eq_true (by kernel_rfl)) (by unfold Func.isWrapper; first | (rw [if_pos (by decide +kernel)]; kernel_rfl) | (rw [if_neg (by decide +kernel)]; exact ⟨rfl, rfl⟩))
    (fun os started H enc _ => lifted os started H enc)
theorem proved : Rows.HeapNoneSaid := over
end Go.Proofs.Ytkjagcamikkjkaa.heapNone
namespace Go.Proofs.Ytkjagcamikkjkaa
theorem heapNone_holds : Rows.HeapNoneSaid := heapNone.proved
end Go.Proofs.Ytkjagcamikkjkaa

end

