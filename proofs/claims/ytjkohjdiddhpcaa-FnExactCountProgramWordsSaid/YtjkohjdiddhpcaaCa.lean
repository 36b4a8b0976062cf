import Derived.Test.YtjkohjdiddhpcaaSm
import Derived.Test.YtjkohjdiddhpcaaProg
import Derived.Test.YtjkohjdiddhpcaaX7
/- Walks of the given code, and plain lemmas, for the law FnExactCountProgramWords (part Ca). -/
set_option linter.unusedVariables false
namespace Go.Proofs.Ytjkohjdiddhpcaa.My
open Go.Sl
theorem flat2 : flatB Try.prog 2 = true := by kernel_rfl
theorem flat9 : flatB Try.prog 9 = true := by kernel_rfl
theorem flat28 : flatB Try.prog 28 = true := by kernel_rfl
theorem flat34 : flatB Try.prog 34 = true := by kernel_rfl
theorem flat199 : flatB Try.prog 199 = true := by kernel_rfl
theorem agg201 : aggN Try.prog 201 = some 2 := by kernel_rfl
theorem agg204 : aggN Try.prog 204 = some 4 := by kernel_rfl
theorem agg224 : aggN Try.prog 224 = some 5 := by kernel_rfl
theorem zero2 : zeroOf Try.prog 2 = some (.int .i64 0 : Value) := by kernel_rfl
theorem zero201 : zeroOf Try.prog 201 = some (.agg #[.int .i64 0, .slice none 0 0] : Value) := by kernel_rfl
theorem zero204 : zeroOf Try.prog 204 = some (.agg #[.int .i64 0, .int .i64 0, .string ⟨#[]⟩, .int .i64 0] : Value) := by kernel_rfl
theorem zero224 : zeroOf Try.prog 224 = some (.agg #[.slice none 0 0, .slice none 0 0, .slice none 0 0, .slice none 0 0, .slice none 0 0] : Value) := by kernel_rfl
theorem field30_0 : fieldB Try.prog 30 0 = some 0 := by kernel_rfl
theorem field201_0 : fieldB Try.prog 201 0 = some 0 := by kernel_rfl
theorem field201_1 : fieldB Try.prog 201 1 = some 1 := by kernel_rfl
theorem field204_0 : fieldB Try.prog 204 0 = some 0 := by kernel_rfl
theorem field204_1 : fieldB Try.prog 204 1 = some 1 := by kernel_rfl
theorem field204_2 : fieldB Try.prog 204 2 = some 2 := by kernel_rfl
theorem field204_3 : fieldB Try.prog 204 3 = some 3 := by kernel_rfl
theorem field224_0 : fieldB Try.prog 224 0 = some 0 := by kernel_rfl
theorem field224_1 : fieldB Try.prog 224 1 = some 1 := by kernel_rfl
theorem field224_2 : fieldB Try.prog 224 2 = some 2 := by kernel_rfl
theorem field224_3 : fieldB Try.prog 224 3 = some 3 := by kernel_rfl
theorem field224_4 : fieldB Try.prog 224 4 = some 4 := by kernel_rfl
theorem slt28 : SlT Try.prog 28 201 2 32 (.agg #[.int .i64 0, .slice none 0 0]) := ⟨Try.underlying28, by kernel_rfl, zero201, rfl, by decide⟩
theorem slt34 : SlT Try.prog 34 2 1 8 (.int .i64 0) := ⟨Try.underlying34, by kernel_rfl, zero2, rfl, by decide⟩
theorem slt199 : SlT Try.prog 199 204 4 40 (.agg #[.int .i64 0, .int .i64 0, .string ⟨#[]⟩, .int .i64 0]) := ⟨Try.underlying199, by kernel_rfl, zero204, rfl, by decide⟩
theorem enter65 : enterB Try.prog 65 = true := by kernel_rfl
theorem enter71 : enterB Try.prog 71 = true := by kernel_rfl
theorem enter148 : enterB Try.prog 148 = true := by kernel_rfl
theorem enter149 : enterB Try.prog 149 = true := by kernel_rfl
theorem enter154 : enterB Try.prog 154 = true := by kernel_rfl
theorem enter155 : enterB Try.prog 155 = true := by kernel_rfl
theorem enter156 : enterB Try.prog 156 = true := by kernel_rfl
theorem enter157 : enterB Try.prog 157 = true := by kernel_rfl
theorem enter158 : enterB Try.prog 158 = true := by kernel_rfl
theorem enter159 : enterB Try.prog 159 = true := by kernel_rfl
theorem enter160 : enterB Try.prog 160 = true := by kernel_rfl
theorem enter187 : enterB Try.prog 187 = true := by kernel_rfl
theorem enter236 : enterB Try.prog 236 = true := by kernel_rfl
theorem enter237 : enterB Try.prog 237 = true := by kernel_rfl
theorem enter240 : enterB Try.prog 240 = true := by kernel_rfl
theorem enter241 : enterB Try.prog 241 = true := by kernel_rfl
theorem enter242 : enterB Try.prog 242 = true := by kernel_rfl
theorem enter243 : enterB Try.prog 243 = true := by kernel_rfl
theorem arr2 : (Try.prog.info? 2).map (·.size) = some 1 := by kernel_rfl
theorem arr215 : (Try.prog.info? 215).map (·.size) = some 22 := by kernel_rfl
end Go.Proofs.Ytjkohjdiddhpcaa.My
set_option linter.unusedVariables false
set_option linter.unusedSimpArgs false
namespace Go.Proofs.Ytjkohjdiddhpcaa.My
open Go.Sl Go.RowKit Go.Proofs.YtjkohjdiddhpcaaW.PrintWords Go.Proofs.YtjkohjdiddhpcaaW.PrintLast Go.Proofs.YtjkohjdiddhpcaaW.PrintMore Go.Proofs.Ytjkohjdiddhpcaa.PFnExactCountProgramWords
theorem ways_calls (b : Nat) (m d r : Int) (w : World) (hm : m ≤ 20) (hr : (d < 0 ∨ m < d) → r = 0) (hc : 0 ≤ d → d ≤ m → w.cell? ⟨b, 0 + m.toNat * 22 + d.toNat * 1, none⟩ = some (.int .i64 r)) :
    Calls Try.prog 162 #[.pointer (some ⟨b, 0, none⟩), .int .i64 m, .int .i64 d] w fun e w' => e = .returned (.int .i64 r) ∧ w = w' := by
  have s0 := Sat.start w
  refine calls_of_cw (args := [.pointer (some ⟨b, 0, none⟩), .int .i64 m, .int .i64 d]) Try.func162 Try.ntmps162 rfl (by simp) ?_
  refine cw_seq ?_
  refine cw_region ?_
  refine ow_val rfl rfl (by decide) (e_assign rfl) ?_
  refine ow_nil ?_
  refine then_normal ?_
  refine cw_seq ?_
  refine cw_seq ?_
  refine cw_region ?_
  refine ow_val rfl rfl (by decide) (e_move rfl) ?_
  refine ow_val rfl rfl (by decide) (e_lss rfl rfl) ?_
  refine ow_val rfl rfl (by decide) (e_move rfl) ?_
  refine ow_split (g := 9) (by decide) rfl (fun g1 => ?_) (fun g1 => ?_)
  · skip
    try simp only [decide_eq_true_eq, decide_eq_false_iff_not, Bool.not_eq_true', Bool.not_eq_false', beq_iff_eq, beq_eq_false_iff_ne, bne_iff_ne, bne_eq_false_iff_eq, Int.not_lt, Int.not_le, gt_iff_lt, ge_iff_le, ne_eq] at g1
    refine ow_out rfl rfl rfl (by decide) ?_
    refine ow_out rfl rfl rfl (by decide) ?_
    refine ow_out rfl rfl rfl (by decide) ?_
    refine ow_val rfl rfl (by decide) (e_pick rfl) ?_
    refine ow_nil ?_
    refine then_normal ?_
    refine cw_cond_true rfl ?_
    refine cw_seq ?_
    refine cw_region ?_
    refine ow_val rfl rfl (by decide) (e_assign rfl) ?_
    refine ow_nil ?_
    refine then_normal ?_
    refine cw_ret ?_
    refine then_ret ?_
    refine ends1 (v := .int .i64 0) (.inl rfl) Try.results162 rfl ?_
    exact ⟨by rw [hr (by omega)], rfl⟩
  · skip
    try simp only [decide_eq_true_eq, decide_eq_false_iff_not, Bool.not_eq_true', Bool.not_eq_false', beq_iff_eq, beq_eq_false_iff_ne, bne_iff_ne, bne_eq_false_iff_eq, Int.not_lt, Int.not_le, gt_iff_lt, ge_iff_le, ne_eq] at g1
    refine ow_in rfl rfl ?_
    refine ow_val rfl rfl (by decide) (e_move rfl) ?_
    refine ow_in rfl rfl ?_
    refine ow_val rfl rfl (by decide) (e_move rfl) ?_
    refine ow_in rfl rfl ?_
    refine ow_val rfl rfl (by decide) (e_gtr rfl rfl) ?_
    refine ow_val rfl rfl (by decide) (e_pick rfl) ?_
    refine ow_nil ?_
    refine then_normal ?_
    refine cw_cond rfl (fun c3 => ?_) (fun c3 => ?_)
    · skip
      try simp only [decide_eq_true_eq, decide_eq_false_iff_not, Bool.not_eq_true', Bool.not_eq_false', beq_iff_eq, beq_eq_false_iff_ne, bne_iff_ne, bne_eq_false_iff_eq, Int.not_lt, Int.not_le, gt_iff_lt, ge_iff_le, ne_eq, Bool.true_eq_false, Bool.false_eq_true] at c3
      refine cw_seq ?_
      refine cw_region ?_
      refine ow_val rfl rfl (by decide) (e_assign rfl) ?_
      refine ow_nil ?_
      refine then_normal ?_
      refine cw_ret ?_
      refine then_ret ?_
      refine ends1 (v := .int .i64 0) (.inl rfl) Try.results162 rfl ?_
      exact ⟨by rw [hr (by omega)], rfl⟩
    · skip
      try simp only [decide_eq_true_eq, decide_eq_false_iff_not, Bool.not_eq_true', Bool.not_eq_false', beq_iff_eq, beq_eq_false_iff_ne, bne_iff_ne, bne_eq_false_iff_eq, Int.not_lt, Int.not_le, gt_iff_lt, ge_iff_le, ne_eq, Bool.true_eq_false, Bool.false_eq_true] at c3
      refine cw_skip ?_
      refine then_normal ?_
      refine cw_seq ?_
      refine cw_region ?_
      refine ow_val rfl rfl (by decide) (e_move rfl) ?_
      refine ow_val rfl rfl (by decide) (e_move rfl) ?_
      refine ow_val rfl rfl (by decide) (e_move rfl) ?_
      refine ow_val rfl rfl (by decide) (e_nilCheck rfl) ?_
      refine o_idxA rfl rfl Try.underlying216 arr215 (by omega) (by omega) (by decide) ?_
      refine o_idxA rfl rfl Try.underlying215 arr2 (by omega) (by omega) (by decide) ?_
      refine ow_val rfl rfl (by decide) (e_load rfl flat2 (hc (by omega) (by omega))) ?_
      refine ow_val rfl rfl (by decide) (e_assign rfl) ?_
      refine ow_nil ?_
      refine then_normal ?_
      refine cw_ret ?_
      refine ends1 (v := .int .i64 r) (.inl rfl) Try.results162 rfl ?_
      exact ⟨rfl, rfl⟩
end Go.Proofs.Ytjkohjdiddhpcaa.My
set_option linter.unusedVariables false
set_option linter.unusedSimpArgs false
namespace Go.Proofs.Ytjkohjdiddhpcaa.My
open Go.Sl Go.RowKit Go.Proofs.YtjkohjdiddhpcaaW.PrintWords Go.Proofs.YtjkohjdiddhpcaaW.PrintLast Go.Proofs.YtjkohjdiddhpcaaW.PrintMore Go.Proofs.Ytjkohjdiddhpcaa.PFnExactCountProgramWords
theorem take_any_succ {α : Type} {p : α → Bool} {xs : List α} {z : α} {i : Nat} (h : i < xs.length) : (xs.take (i + 1)).any p = ((xs.take i).any p || p (xs.getD ((i : Int).toNat) z)) := by
  rw [List.take_succ_eq_append_getElem h, List.any_append]
  simp [List.getD_eq_getElem?_getD, h]
theorem any_of_get {α : Type} {p : α → Bool} {xs : List α} {z : α} {i : Nat} (h : i < xs.length) (hp : p (xs.getD ((i : Int).toNat) z) = true) : xs.any p = true := by
  rw [List.any_eq_true]
  refine ⟨xs[i], List.getElem_mem h, ?_⟩
  simpa [List.getD_eq_getElem?_getD, h] using hp
theorem index240 {p : S201 → Bool} (g : Nat) (caps : List Value) (hg : enterB Try.prog g = true) (A : Option Addr) (c : Nat) (xs : List S201) (w : World) (hC : Kd.C k201 w A xs.length xs)
    (hp : ∀ x cs w1, Below w.heap.size w w1 → k201.K w1 x cs → Calls Try.prog g ([Value.agg cs.toArray] ++ caps).toArray w1 fun e w' => e = .returned (.bool (p x)) ∧ Below w1.heap.size w1 w') :
    Calls Try.prog 240 #[.slice A xs.length c, .func (.func g) #[] caps.toArray] w fun e w' => ∃ r : Int, e = .returned (.int .i64 r) ∧ decide (0 ≤ r) = xs.any p ∧ Below w.heap.size w w' := by
  have hmax := hC.2.1
  have s0 := Sat.start w
  refine calls_of_cw (args := [.slice A xs.length c, .func (.func g) #[] caps.toArray]) Try.func240 Try.ntmps240 rfl (by simp) ?_
  refine cw_seq ?_
  refine cw_region ?_
  refine ow_val rfl rfl (by decide) (e_assign rfl) ?_
  refine ow_nil ?_
  refine then_normal ?_
  refine cw_seq ?_
  refine cw_seq ?_
  refine cw_region ?_
  refine ow_val rfl rfl (by decide) (e_move rfl) ?_
  refine ow_val rfl rfl (by decide) (e_len_slice rfl Try.underlying28) ?_
  refine ow_val rfl rfl (by decide) (e_move rfl) ?_
  refine ow_nil ?_
  refine then_normal ?_
  refine cw_block ?_
  refine cw_loop (fun μ_ f_ w_ => ∃ i : Nat, μ_ = xs.length - i ∧ f_ 0 = .slice A xs.length c ∧ f_ 1 = .func (.func g) #[] caps.toArray ∧ f_ 7 = .int .i64 (xs.length : Int) ∧ f_ 8 = .int .i64 (i : Int) ∧ (i ≤ xs.length) ∧ ((xs.take i).any p = false) ∧ Sat w w_ [Old w]) xs.length ⟨0, rfl, rfl, rfl, rfl, rfl, Nat.zero_le _, by simp, s0⟩ ?_
  intro k_ f_ w_ h_
  obtain ⟨i, rfl, e1_0, e1_1, e1_7, e1_8, hi, hf, s1⟩ := h_
  skip
  refine cw_seq ?_
  refine cw_region ?_
  refine ow_val rfl rfl (by decide) (e_lss e1_8 e1_7) ?_
  refine ow_nil ?_
  refine then_normal ?_
  refine cw_seq ?_
  refine cw_cond rfl (fun c2 => ?_) (fun c2 => ?_)
  · skip
    have hlt : i < xs.length := by have := of_decide_eq_true c2; omega
    refine cw_skip ?_
    refine then_normal ?_
    refine cw_seq ?_
    refine cw_block ?_
    refine cw_seq ?_
    refine cw_region ?_
    refine ow_val rfl rfl (by decide) (e_move e1_8) ?_
    refine ow_val rfl rfl (by decide) (e_assign rfl) ?_
    refine ow_nil ?_
    refine then_normal ?_
    refine cw_seq ?_
    refine cw_region ?_
    refine ow_val rfl rfl (by decide) (e_move e1_1) ?_
    refine ow_val rfl rfl (by decide) (e_move e1_0) ?_
    refine ow_val rfl rfl (by decide) (e_move rfl) ?_
    have hC1 := Kd.C_below hC (s1.toBelow 0 rfl)
    obtain ⟨ad, cs, eA, hlen, hK, hc⟩ := Kd.C_get hC1 z201 (i : Int) (by omega) (by omega)
    subst eA
    refine o_idxR rfl rfl slt28 (by omega) (by omega) (by decide) ?_
    refine ow_val rfl rfl (by decide) (e_loadN rfl agg201 hlen (cells_add hc)) ?_
    refine o_callV (cs := caps) rfl hg rfl (by decide) ?_
    refine (hp _ cs _ (s1.toBelow 0 rfl) hK).mono ?_
    rintro e_ w3 ⟨rfl, hb⟩
    have s3 := s1.below hb
    refine ⟨_, rfl, ?_⟩
    refine ow_nil ?_
    refine then_normal ?_
    refine cw_cond rfl (fun c4 => ?_) (fun c4 => ?_)
    · skip
      skip
      refine cw_seq ?_
      refine cw_region ?_
      refine ow_val rfl rfl (by decide) (e_move rfl) ?_
      refine ow_val rfl rfl (by decide) (e_assign rfl) ?_
      refine ow_nil ?_
      refine then_normal ?_
      refine cw_ret ?_
      refine inb_ret ?_
      refine then_ret ?_
      refine then_ret ?_
      refine inb_ret ?_
      refine then_ret ?_
      refine ends1 (v := .int .i64 (i : Int)) (.inl rfl) Try.results240 rfl ?_
      exact ⟨_, rfl, by rw [any_of_get (z := z201) hlt c4]; simp, s3.toBelow 0 rfl⟩
    · skip
      skip
      refine cw_skip ?_
      refine inb_normal ?_
      refine then_normal ?_
      refine cw_region ?_
      refine o_addI e1_8 rfl (by omega) (by omega) (by decide) ?_
      refine ow_val rfl rfl (by decide) (e_move rfl) ?_
      refine ow_nil ?_
      refine then_normal ?_
      exact ⟨_, by omega, i + 1, rfl, e1_0, e1_1, e1_7, rfl, by omega, by rw [take_any_succ (z := z201) hlt, hf, c4]; rfl, s3⟩
  · skip
    have hge : i = xs.length := by have := of_decide_eq_false c2; omega
    refine cw_exit ?_
    refine then_exit ?_
    refine then_exit ?_
    refine inb_exit ?_
    refine then_normal ?_
    refine cw_seq ?_
    refine cw_region ?_
    refine ow_val rfl rfl (by decide) (e_assign rfl) ?_
    refine ow_nil ?_
    refine then_normal ?_
    refine cw_ret ?_
    refine ends1 (v := .int .i64 (-1)) (.inl rfl) Try.results240 rfl ?_
    exact ⟨_, rfl, by subst hge; rw [List.take_length] at hf; rw [hf]; rfl, s1.toBelow 0 rfl⟩
theorem contains155 {p : S201 → Bool} (g : Nat) (caps : List Value) (hg : enterB Try.prog g = true) (A : Option Addr) (c : Nat) (xs : List S201) (w : World) (hC : Kd.C k201 w A xs.length xs)
    (hp : ∀ x cs w1, Below w.heap.size w w1 → k201.K w1 x cs → Calls Try.prog g ([Value.agg cs.toArray] ++ caps).toArray w1 fun e w' => e = .returned (.bool (p x)) ∧ Below w1.heap.size w1 w') :
    Calls Try.prog 155 #[.slice A xs.length c, .func (.func g) #[] caps.toArray] w fun e w' => e = .returned (.bool (xs.any p)) ∧ Below w.heap.size w w' := by
  have s0 := Sat.start w
  refine calls_of_cw (args := [.slice A xs.length c, .func (.func g) #[] caps.toArray]) Try.func155 Try.ntmps155 rfl (by simp) ?_
  refine cw_seq ?_
  refine cw_region ?_
  refine ow_val rfl rfl (by decide) (e_assign rfl) ?_
  refine ow_nil ?_
  refine then_normal ?_
  refine cw_seq ?_
  refine cw_region ?_
  refine ow_val rfl rfl (by decide) (e_move rfl) ?_
  refine ow_val rfl rfl (by decide) (e_move rfl) ?_
  refine o_call enter240 rfl (by decide) ?_
  refine (index240 g caps hg A c xs w hC hp).mono ?_
  rintro e_ w1 ⟨r, rfl, hr, hb⟩
  have s1 := s0.below hb
  refine ⟨_, rfl, ?_⟩
  refine ow_val2 rfl rfl (by decide) (e_geq rfl rfl) (congrArg Value.bool hr) ?_
  refine ow_val rfl rfl (by decide) (e_assign rfl) ?_
  refine ow_nil ?_
  refine then_normal ?_
  refine cw_ret ?_
  refine ends1 (v := .bool (xs.any p)) (.inl rfl) Try.results155 rfl ?_
  exact ⟨rfl, hb⟩
theorem index241 {p : S204 → Bool} (g : Nat) (caps : List Value) (hg : enterB Try.prog g = true) (A : Option Addr) (c : Nat) (xs : List S204) (w : World) (hC : Kd.C k204 w A xs.length xs)
    (hp : ∀ x cs w1, Below w.heap.size w w1 → k204.K w1 x cs → Calls Try.prog g ([Value.agg cs.toArray] ++ caps).toArray w1 fun e w' => e = .returned (.bool (p x)) ∧ Below w1.heap.size w1 w') :
    Calls Try.prog 241 #[.slice A xs.length c, .func (.func g) #[] caps.toArray] w fun e w' => ∃ r : Int, e = .returned (.int .i64 r) ∧ decide (0 ≤ r) = xs.any p ∧ Below w.heap.size w w' := by
  have hmax := hC.2.1
  have s0 := Sat.start w
  refine calls_of_cw (args := [.slice A xs.length c, .func (.func g) #[] caps.toArray]) Try.func241 Try.ntmps241 rfl (by simp) ?_
  refine cw_seq ?_
  refine cw_region ?_
  refine ow_val rfl rfl (by decide) (e_assign rfl) ?_
  refine ow_nil ?_
  refine then_normal ?_
  refine cw_seq ?_
  refine cw_seq ?_
  refine cw_region ?_
  refine ow_val rfl rfl (by decide) (e_move rfl) ?_
  refine ow_val rfl rfl (by decide) (e_len_slice rfl Try.underlying199) ?_
  refine ow_val rfl rfl (by decide) (e_move rfl) ?_
  refine ow_nil ?_
  refine then_normal ?_
  refine cw_block ?_
  refine cw_loop (fun μ_ f_ w_ => ∃ i : Nat, μ_ = xs.length - i ∧ f_ 0 = .slice A xs.length c ∧ f_ 1 = .func (.func g) #[] caps.toArray ∧ f_ 7 = .int .i64 (xs.length : Int) ∧ f_ 8 = .int .i64 (i : Int) ∧ (i ≤ xs.length) ∧ ((xs.take i).any p = false) ∧ Sat w w_ [Old w]) xs.length ⟨0, rfl, rfl, rfl, rfl, rfl, Nat.zero_le _, by simp, s0⟩ ?_
  intro k_ f_ w_ h_
  obtain ⟨i, rfl, e1_0, e1_1, e1_7, e1_8, hi, hf, s1⟩ := h_
  skip
  refine cw_seq ?_
  refine cw_region ?_
  refine ow_val rfl rfl (by decide) (e_lss e1_8 e1_7) ?_
  refine ow_nil ?_
  refine then_normal ?_
  refine cw_seq ?_
  refine cw_cond rfl (fun c2 => ?_) (fun c2 => ?_)
  · skip
    have hlt : i < xs.length := by have := of_decide_eq_true c2; omega
    refine cw_skip ?_
    refine then_normal ?_
    refine cw_seq ?_
    refine cw_block ?_
    refine cw_seq ?_
    refine cw_region ?_
    refine ow_val rfl rfl (by decide) (e_move e1_8) ?_
    refine ow_val rfl rfl (by decide) (e_assign rfl) ?_
    refine ow_nil ?_
    refine then_normal ?_
    refine cw_seq ?_
    refine cw_region ?_
    refine ow_val rfl rfl (by decide) (e_move e1_1) ?_
    refine ow_val rfl rfl (by decide) (e_move e1_0) ?_
    refine ow_val rfl rfl (by decide) (e_move rfl) ?_
    have hC1 := Kd.C_below hC (s1.toBelow 0 rfl)
    obtain ⟨ad, cs, eA, hlen, hK, hc⟩ := Kd.C_get hC1 z204 (i : Int) (by omega) (by omega)
    subst eA
    refine o_idxR rfl rfl slt199 (by omega) (by omega) (by decide) ?_
    refine ow_val rfl rfl (by decide) (e_loadN rfl agg204 hlen (cells_add hc)) ?_
    refine o_callV (cs := caps) rfl hg rfl (by decide) ?_
    refine (hp _ cs _ (s1.toBelow 0 rfl) hK).mono ?_
    rintro e_ w3 ⟨rfl, hb⟩
    have s3 := s1.below hb
    refine ⟨_, rfl, ?_⟩
    refine ow_nil ?_
    refine then_normal ?_
    refine cw_cond rfl (fun c4 => ?_) (fun c4 => ?_)
    · skip
      skip
      refine cw_seq ?_
      refine cw_region ?_
      refine ow_val rfl rfl (by decide) (e_move rfl) ?_
      refine ow_val rfl rfl (by decide) (e_assign rfl) ?_
      refine ow_nil ?_
      refine then_normal ?_
      refine cw_ret ?_
      refine inb_ret ?_
      refine then_ret ?_
      refine then_ret ?_
      refine inb_ret ?_
      refine then_ret ?_
      refine ends1 (v := .int .i64 (i : Int)) (.inl rfl) Try.results241 rfl ?_
      exact ⟨_, rfl, by rw [any_of_get (z := z204) hlt c4]; simp, s3.toBelow 0 rfl⟩
    · skip
      skip
      refine cw_skip ?_
      refine inb_normal ?_
      refine then_normal ?_
      refine cw_region ?_
      refine o_addI e1_8 rfl (by omega) (by omega) (by decide) ?_
      refine ow_val rfl rfl (by decide) (e_move rfl) ?_
      refine ow_nil ?_
      refine then_normal ?_
      exact ⟨_, by omega, i + 1, rfl, e1_0, e1_1, e1_7, rfl, by omega, by rw [take_any_succ (z := z204) hlt, hf, c4]; rfl, s3⟩
  · skip
    have hge : i = xs.length := by have := of_decide_eq_false c2; omega
    refine cw_exit ?_
    refine then_exit ?_
    refine then_exit ?_
    refine inb_exit ?_
    refine then_normal ?_
    refine cw_seq ?_
    refine cw_region ?_
    refine ow_val rfl rfl (by decide) (e_assign rfl) ?_
    refine ow_nil ?_
    refine then_normal ?_
    refine cw_ret ?_
    refine ends1 (v := .int .i64 (-1)) (.inl rfl) Try.results241 rfl ?_
    exact ⟨_, rfl, by subst hge; rw [List.take_length] at hf; rw [hf]; rfl, s1.toBelow 0 rfl⟩
theorem contains157 {p : S204 → Bool} (g : Nat) (caps : List Value) (hg : enterB Try.prog g = true) (A : Option Addr) (c : Nat) (xs : List S204) (w : World) (hC : Kd.C k204 w A xs.length xs)
    (hp : ∀ x cs w1, Below w.heap.size w w1 → k204.K w1 x cs → Calls Try.prog g ([Value.agg cs.toArray] ++ caps).toArray w1 fun e w' => e = .returned (.bool (p x)) ∧ Below w1.heap.size w1 w') :
    Calls Try.prog 157 #[.slice A xs.length c, .func (.func g) #[] caps.toArray] w fun e w' => e = .returned (.bool (xs.any p)) ∧ Below w.heap.size w w' := by
  have s0 := Sat.start w
  refine calls_of_cw (args := [.slice A xs.length c, .func (.func g) #[] caps.toArray]) Try.func157 Try.ntmps157 rfl (by simp) ?_
  refine cw_seq ?_
  refine cw_region ?_
  refine ow_val rfl rfl (by decide) (e_assign rfl) ?_
  refine ow_nil ?_
  refine then_normal ?_
  refine cw_seq ?_
  refine cw_region ?_
  refine ow_val rfl rfl (by decide) (e_move rfl) ?_
  refine ow_val rfl rfl (by decide) (e_move rfl) ?_
  refine o_call enter241 rfl (by decide) ?_
  refine (index241 g caps hg A c xs w hC hp).mono ?_
  rintro e_ w1 ⟨r, rfl, hr, hb⟩
  have s1 := s0.below hb
  refine ⟨_, rfl, ?_⟩
  refine ow_val2 rfl rfl (by decide) (e_geq rfl rfl) (congrArg Value.bool hr) ?_
  refine ow_val rfl rfl (by decide) (e_assign rfl) ?_
  refine ow_nil ?_
  refine then_normal ?_
  refine cw_ret ?_
  refine ends1 (v := .bool (xs.any p)) (.inl rfl) Try.results157 rfl ?_
  exact ⟨rfl, hb⟩
end Go.Proofs.Ytjkohjdiddhpcaa.My
set_option linter.unusedVariables false
set_option linter.unusedSimpArgs false
namespace Go.Proofs.Ytjkohjdiddhpcaa.My
open Go.Sl Go.RowKit Go.Proofs.YtjkohjdiddhpcaaW.PrintWords Go.Proofs.YtjkohjdiddhpcaaW.PrintLast Go.Proofs.YtjkohjdiddhpcaaW.PrintMore Go.Proofs.Ytjkohjdiddhpcaa.PFnExactCountProgramWords
def inR (a lo hi : Int) : Bool := decide (a ≥ lo) && decide (a ≤ hi)
def isC (c : Int) : Bool := c == 40 || c == 91
def isR (c : Int) : Bool := c == 41 || c == 93
def brk (s : ByteArray) : Bool := ((s.size : Int) == 2) && (isC (bt s 0) && isR (bt s 1))
def lettr (s : ByteArray) : Bool := (s.toList == (⟨#[97]⟩ : ByteArray).toList) || (s.toList == (⟨#[98]⟩ : ByteArray).toList)
theorem e_idxBt {f : Fr} {w : World} {d : Nat} {ty : TypeId} {pos : String} {after : Array Edge} {gd : Option (Nat × Bool)} {x y : Operand} {t : Nat} {s : ByteArray} {k : IntKind} {i : Int} (hx : fe f x = .string s) (hy : fe f y = .int k i) (ht : Try.prog.underlying t = some .string) (h0 : 0 ≤ i) (h1 : i < s.size) :
    (execOp (fe f) ⟨some d, .index t x y, ty, pos, after, gd⟩).run Try.prog w = .ok (.value (.int .u8 (bt s i))) w := by
  have hlt : i.toNat < s.size := by omega
  have h := e_idxStr (P := Try.prog) (w := w) (d := d) (ty := ty) (pos := pos) (after := after) (gd := gd) (c := s[i.toNat]'hlt) hx hy ht h0 (by simp [hlt])
  rw [h, bt_at s i hlt]
theorem within_calls (a lo hi : Int) (w : World) :
    Calls Try.prog 71 #[.int .i64 a, .int .i64 lo, .int .i64 hi] w fun e w' => e = .returned (.bool (inR a lo hi)) ∧ w = w' := by
  have s0 := Sat.start w
  refine calls_of_cw (args := [.int .i64 a, .int .i64 lo, .int .i64 hi]) Try.func71 Try.ntmps71 rfl (by simp) ?_
  refine cw_seq ?_
  refine cw_region ?_
  refine ow_val rfl rfl (by decide) (e_assign rfl) ?_
  refine ow_nil ?_
  refine then_normal ?_
  refine cw_seq ?_
  refine cw_region ?_
  refine ow_val rfl rfl (by decide) (e_move rfl) ?_
  refine ow_val rfl rfl (by decide) (e_move rfl) ?_
  refine ow_val rfl rfl (by decide) (e_geq rfl rfl) ?_
  refine ow_val rfl rfl (by decide) (e_move rfl) ?_
  refine ow_split (g := 10) (by decide) rfl (fun g1 => ?_) (fun g1 => ?_)
  · skip
    skip
    refine ow_in rfl rfl ?_
    refine ow_val rfl rfl (by decide) (e_move rfl) ?_
    refine ow_in rfl rfl ?_
    refine ow_val rfl rfl (by decide) (e_move rfl) ?_
    refine ow_in rfl rfl ?_
    refine ow_val rfl rfl (by decide) (e_leq rfl rfl) ?_
    refine ow_val rfl rfl (by decide) (e_pick rfl) ?_
    refine ow_val rfl rfl (by decide) (e_assign rfl) ?_
    refine ow_nil ?_
    refine then_normal ?_
    refine cw_ret ?_
    refine ends1 (v := .bool (decide (a ≤ hi))) (.inl rfl) Try.results71 rfl ?_
    exact ⟨congrArg (fun b => Ending.returned (.bool b)) (by first | rfl | (simp only [inR, g1]; done) | (simp only [inR, g1]; rfl) | (simp [inR, g1]; done) | (simp [inR, g1]; omega) | (simp [inR, g1]; intros; omega)), rfl⟩
  · skip
    skip
    refine ow_out rfl rfl rfl (by decide) ?_
    refine ow_out rfl rfl rfl (by decide) ?_
    refine ow_out rfl rfl rfl (by decide) ?_
    refine ow_val rfl rfl (by decide) (e_pick rfl) ?_
    refine ow_val rfl rfl (by decide) (e_assign rfl) ?_
    refine ow_nil ?_
    refine then_normal ?_
    refine cw_ret ?_
    refine ends1 (v := .bool false) (.inl rfl) Try.results71 rfl ?_
    exact ⟨congrArg (fun b => Ending.returned (.bool b)) (by first | rfl | (simp only [inR, g1]; done) | (simp only [inR, g1]; rfl) | (simp [inR, g1]; done) | (simp [inR, g1]; omega) | (simp [inR, g1]; intros; omega)), rfl⟩
theorem isCall_calls (c : Int) (w : World) :
    Calls Try.prog 242 #[.int .u8 c] w fun e w' => e = .returned (.bool (isC c)) ∧ w = w' := by
  have s0 := Sat.start w
  refine calls_of_cw (args := [.int .u8 c]) Try.func242 Try.ntmps242 rfl (by simp) ?_
  refine cw_seq ?_
  refine cw_region ?_
  refine ow_val rfl rfl (by decide) (e_assign rfl) ?_
  refine ow_nil ?_
  refine then_normal ?_
  refine cw_seq ?_
  refine cw_region ?_
  refine ow_val rfl rfl (by decide) (e_move rfl) ?_
  refine ow_val rfl rfl (by decide) (e_eql rfl rfl) ?_
  refine ow_val rfl rfl (by decide) (e_move rfl) ?_
  refine ow_split (g := 5) (by decide) rfl (fun g1 => ?_) (fun g1 => ?_)
  · skip
    skip
    refine ow_out rfl rfl rfl (by decide) ?_
    refine ow_out rfl rfl rfl (by decide) ?_
    refine ow_val rfl rfl (by decide) (e_pick rfl) ?_
    refine ow_val rfl rfl (by decide) (e_assign rfl) ?_
    refine ow_nil ?_
    refine then_normal ?_
    refine cw_ret ?_
    refine ends1 (v := .bool true) (.inl rfl) Try.results242 rfl ?_
    exact ⟨congrArg (fun b => Ending.returned (.bool b)) (by first | rfl | (simp only [isC, g1]; done) | (simp only [isC, g1]; rfl) | (simp [isC, g1]; done) | (simp [isC, g1]; omega) | (simp [isC, g1]; intros; omega)), rfl⟩
  · skip
    skip
    refine ow_in rfl rfl ?_
    refine ow_val rfl rfl (by decide) (e_move rfl) ?_
    refine ow_in rfl rfl ?_
    refine ow_val rfl rfl (by decide) (e_eql rfl rfl) ?_
    refine ow_val rfl rfl (by decide) (e_pick rfl) ?_
    refine ow_val rfl rfl (by decide) (e_assign rfl) ?_
    refine ow_nil ?_
    refine then_normal ?_
    refine cw_ret ?_
    refine ends1 (v := .bool (c == 91)) (.inl rfl) Try.results242 rfl ?_
    exact ⟨congrArg (fun b => Ending.returned (.bool b)) (by first | rfl | (simp only [isC, g1]; done) | (simp only [isC, g1]; rfl) | (simp [isC, g1]; done) | (simp [isC, g1]; omega) | (simp [isC, g1]; intros; omega)), rfl⟩
theorem isReturn_calls (c : Int) (w : World) :
    Calls Try.prog 243 #[.int .u8 c] w fun e w' => e = .returned (.bool (isR c)) ∧ w = w' := by
  have s0 := Sat.start w
  refine calls_of_cw (args := [.int .u8 c]) Try.func243 Try.ntmps243 rfl (by simp) ?_
  refine cw_seq ?_
  refine cw_region ?_
  refine ow_val rfl rfl (by decide) (e_assign rfl) ?_
  refine ow_nil ?_
  refine then_normal ?_
  refine cw_seq ?_
  refine cw_region ?_
  refine ow_val rfl rfl (by decide) (e_move rfl) ?_
  refine ow_val rfl rfl (by decide) (e_eql rfl rfl) ?_
  refine ow_val rfl rfl (by decide) (e_move rfl) ?_
  refine ow_split (g := 5) (by decide) rfl (fun g1 => ?_) (fun g1 => ?_)
  · skip
    skip
    refine ow_out rfl rfl rfl (by decide) ?_
    refine ow_out rfl rfl rfl (by decide) ?_
    refine ow_val rfl rfl (by decide) (e_pick rfl) ?_
    refine ow_val rfl rfl (by decide) (e_assign rfl) ?_
    refine ow_nil ?_
    refine then_normal ?_
    refine cw_ret ?_
    refine ends1 (v := .bool true) (.inl rfl) Try.results243 rfl ?_
    exact ⟨congrArg (fun b => Ending.returned (.bool b)) (by first | rfl | (simp only [isR, g1]; done) | (simp only [isR, g1]; rfl) | (simp [isR, g1]; done) | (simp [isR, g1]; omega) | (simp [isR, g1]; intros; omega)), rfl⟩
  · skip
    skip
    refine ow_in rfl rfl ?_
    refine ow_val rfl rfl (by decide) (e_move rfl) ?_
    refine ow_in rfl rfl ?_
    refine ow_val rfl rfl (by decide) (e_eql rfl rfl) ?_
    refine ow_val rfl rfl (by decide) (e_pick rfl) ?_
    refine ow_val rfl rfl (by decide) (e_assign rfl) ?_
    refine ow_nil ?_
    refine then_normal ?_
    refine cw_ret ?_
    refine ends1 (v := .bool (c == 93)) (.inl rfl) Try.results243 rfl ?_
    exact ⟨congrArg (fun b => Ending.returned (.bool b)) (by first | rfl | (simp only [isR, g1]; done) | (simp only [isR, g1]; rfl) | (simp [isR, g1]; done) | (simp [isR, g1]; omega) | (simp [isR, g1]; intros; omega)), rfl⟩
theorem isBrackets_calls (s : ByteArray) (w : World) :
    Calls Try.prog 159 #[.string s] w fun e w' => e = .returned (.bool (brk s)) ∧ w = w' := by
  have s0 := Sat.start w
  refine calls_of_cw (args := [.string s]) Try.func159 Try.ntmps159 rfl (by simp) ?_
  refine cw_seq ?_
  refine cw_region ?_
  refine ow_val rfl rfl (by decide) (e_assign rfl) ?_
  refine ow_nil ?_
  refine then_normal ?_
  refine cw_seq ?_
  refine cw_region ?_
  refine ow_val rfl rfl (by decide) (e_move rfl) ?_
  refine ow_val rfl rfl (by decide) (e_len_str rfl Try.underlying9) ?_
  refine ow_val rfl rfl (by decide) (e_eql rfl rfl) ?_
  refine ow_val rfl rfl (by decide) (e_move rfl) ?_
  refine ow_split (g := 6) (by decide) rfl (fun g1 => ?_) (fun g1 => ?_)
  · skip
    have hl2 : (s.size : Int) = 2 := beq_iff_eq.1 g1
    refine ow_in rfl rfl ?_
    refine ow_val rfl rfl (by decide) (e_move rfl) ?_
    refine ow_in rfl rfl ?_
    refine ow_val rfl rfl (by decide) (e_idxBt rfl rfl Try.underlying9 (by omega) (by omega)) ?_
    refine ow_in rfl rfl ?_
    refine o_call enter242 rfl (by decide) ?_
    refine (isCall_calls _ _).mono ?_
    rintro e_ w_1 ⟨rfl, rfl⟩
    refine ⟨_, rfl, ?_⟩
    refine ow_val rfl rfl (by decide) (e_pick rfl) ?_
    refine ow_val rfl rfl (by decide) (e_move rfl) ?_
    refine ow_split (g := 11) (by decide) rfl (fun g2 => ?_) (fun g2 => ?_)
    · skip
      skip
      refine ow_in rfl rfl ?_
      refine ow_val rfl rfl (by decide) (e_move rfl) ?_
      refine ow_in rfl rfl ?_
      refine ow_val rfl rfl (by decide) (e_idxBt rfl rfl Try.underlying9 (by omega) (by omega)) ?_
      refine ow_in rfl rfl ?_
      refine o_call enter243 rfl (by decide) ?_
      refine (isReturn_calls _ _).mono ?_
      rintro e_ w_1 ⟨rfl, rfl⟩
      refine ⟨_, rfl, ?_⟩
      refine ow_val rfl rfl (by decide) (e_pick rfl) ?_
      refine ow_val rfl rfl (by decide) (e_assign rfl) ?_
      refine ow_nil ?_
      refine then_normal ?_
      refine cw_ret ?_
      refine ends1 (v := .bool (isR ((bt s 1)))) (.inl rfl) Try.results159 rfl ?_
      exact ⟨congrArg (fun b => Ending.returned (.bool b)) (by first | rfl | (simp only [brk, g1, g2]; done) | (simp only [brk, g1, g2]; rfl) | (simp [brk, g1, g2]; done) | (simp [brk, g1, g2]; omega) | (simp [brk, g1, g2]; intros; omega)), rfl⟩
    · skip
      skip
      refine ow_out rfl rfl rfl (by decide) ?_
      refine ow_out rfl rfl rfl (by decide) ?_
      refine ow_out rfl rfl rfl (by decide) ?_
      refine ow_val rfl rfl (by decide) (e_pick rfl) ?_
      refine ow_val rfl rfl (by decide) (e_assign rfl) ?_
      refine ow_nil ?_
      refine then_normal ?_
      refine cw_ret ?_
      refine ends1 (v := .bool false) (.inl rfl) Try.results159 rfl ?_
      exact ⟨congrArg (fun b => Ending.returned (.bool b)) (by first | rfl | (simp only [brk, g1, g2]; done) | (simp only [brk, g1, g2]; rfl) | (simp [brk, g1, g2]; done) | (simp [brk, g1, g2]; omega) | (simp [brk, g1, g2]; intros; omega)), rfl⟩
  · skip
    skip
    refine ow_out rfl rfl rfl (by decide) ?_
    refine ow_out rfl rfl rfl (by decide) ?_
    refine ow_out rfl rfl rfl (by decide) ?_
    refine ow_val rfl rfl (by decide) (e_pick rfl) ?_
    refine ow_val rfl rfl (by decide) (e_move rfl) ?_
    refine ow_out rfl rfl rfl (by decide) ?_
    refine ow_out rfl rfl rfl (by decide) ?_
    refine ow_out rfl rfl rfl (by decide) ?_
    refine ow_val rfl rfl (by decide) (e_pick rfl) ?_
    refine ow_val rfl rfl (by decide) (e_assign rfl) ?_
    refine ow_nil ?_
    refine then_normal ?_
    refine cw_ret ?_
    refine ends1 (v := .bool false) (.inl rfl) Try.results159 rfl ?_
    exact ⟨congrArg (fun b => Ending.returned (.bool b)) (by first | rfl | (simp only [brk, g1]; done) | (simp only [brk, g1]; rfl) | (simp [brk, g1]; done) | (simp [brk, g1]; omega) | (simp [brk, g1]; intros; omega)), rfl⟩
theorem isLetter_calls (s : ByteArray) (w : World) :
    Calls Try.prog 160 #[.string s] w fun e w' => e = .returned (.bool (lettr s)) ∧ w = w' := by
  have s0 := Sat.start w
  refine calls_of_cw (args := [.string s]) Try.func160 Try.ntmps160 rfl (by simp) ?_
  refine cw_seq ?_
  refine cw_region ?_
  refine ow_val rfl rfl (by decide) (e_assign rfl) ?_
  refine ow_nil ?_
  refine then_normal ?_
  refine cw_seq ?_
  refine cw_region ?_
  refine ow_val rfl rfl (by decide) (e_move rfl) ?_
  refine ow_val rfl rfl (by decide) (e_seql rfl rfl) ?_
  refine ow_val rfl rfl (by decide) (e_move rfl) ?_
  refine ow_split (g := 5) (by decide) rfl (fun g1 => ?_) (fun g1 => ?_)
  · skip
    skip
    refine ow_out rfl rfl rfl (by decide) ?_
    refine ow_out rfl rfl rfl (by decide) ?_
    refine ow_val rfl rfl (by decide) (e_pick rfl) ?_
    refine ow_val rfl rfl (by decide) (e_assign rfl) ?_
    refine ow_nil ?_
    refine then_normal ?_
    refine cw_ret ?_
    refine ends1 (v := .bool true) (.inl rfl) Try.results160 rfl ?_
    exact ⟨congrArg (fun b => Ending.returned (.bool b)) (by first | rfl | (simp only [lettr, g1]; done) | (simp only [lettr, g1]; rfl) | (simp [lettr, g1]; done) | (simp [lettr, g1]; omega) | (simp [lettr, g1]; intros; omega)), rfl⟩
  · skip
    skip
    refine ow_in rfl rfl ?_
    refine ow_val rfl rfl (by decide) (e_move rfl) ?_
    refine ow_in rfl rfl ?_
    refine ow_val rfl rfl (by decide) (e_seql rfl rfl) ?_
    refine ow_val rfl rfl (by decide) (e_pick rfl) ?_
    refine ow_val rfl rfl (by decide) (e_assign rfl) ?_
    refine ow_nil ?_
    refine then_normal ?_
    refine cw_ret ?_
    refine ends1 (v := .bool ((s : ByteArray).toList == (⟨#[98]⟩ : ByteArray).toList)) (.inl rfl) Try.results160 rfl ?_
    exact ⟨congrArg (fun b => Ending.returned (.bool b)) (by first | rfl | (simp only [lettr, g1]; done) | (simp only [lettr, g1]; rfl) | (simp [lettr, g1]; done) | (simp [lettr, g1]; omega) | (simp [lettr, g1]; intros; omega)), rfl⟩
end Go.Proofs.Ytjkohjdiddhpcaa.My
set_option linter.unusedVariables false
set_option linter.unusedSimpArgs false
namespace Go.Proofs.Ytjkohjdiddhpcaa.My
open Go.Sl Go.RowKit Go.Proofs.YtjkohjdiddhpcaaW.PrintWords Go.Proofs.YtjkohjdiddhpcaaW.PrintLast Go.Proofs.YtjkohjdiddhpcaaW.PrintMore Go.Proofs.Ytjkohjdiddhpcaa.PFnExactCountProgramWords
def linkBad (n nodes : Int) (l : S204) : Bool := (!(inR l.f0 0 (nodes - 1)) || (!(inR l.f1 0 (nodes - 1)) || !(inR l.f3 0 (n - 1)))) || (!(brk l.f2) && (!(lettr l.f2) || l.f3 != 0))
def moduleBad (n : Int) (m : S201) : Bool := !(inR m.f0 1 8) || (decide ((m.f1.length : Int) > 12) || m.f1.any (linkBad n m.f0))
def progOk (ms : List S201) : Bool := inR (ms.length : Int) 1 4 && !(ms.any (moduleBad (ms.length : Int)))
theorem linkBad_calls (x : S204) (bm bn : Nat) (nodes n : Int) (w : World) (hm : w.cell? ⟨bm, 0, none⟩ = some (.int .i64 nodes)) (hn : w.cell? ⟨bn, 0, none⟩ = some (.int .i64 n)) (h1 : 1 ≤ nodes) (h2 : nodes ≤ 8) (h3 : 1 ≤ n) (h4 : n ≤ 4) :
    Calls Try.prog 158 #[.agg #[.int .i64 x.f0, .int .i64 x.f1, .string x.f2, .int .i64 x.f3], .pointer (some ⟨bm, 0, none⟩), .pointer (some ⟨bn, 0, none⟩)] w fun e w' => e = .returned (.bool (linkBad n nodes x)) ∧ Below w.heap.size w w' := by
  have s0 := Sat.start w
  refine calls_of_cw (args := [.agg #[.int .i64 x.f0, .int .i64 x.f1, .string x.f2, .int .i64 x.f3], .pointer (some ⟨bm, 0, none⟩), .pointer (some ⟨bn, 0, none⟩)]) Try.func158 Try.ntmps158 rfl (by simp) ?_
  refine cw_seq ?_
  refine cw_region ?_
  refine o_box rfl s0 (by decide) (fun b1 w2 s2 => ?_)
  refine ow_val rfl rfl (by decide) (e_assign rfl) ?_
  refine ow_nil ?_
  refine then_normal ?_
  refine cw_seq ?_
  refine cw_seq ?_
  refine cw_region ?_
  refine ow_val rfl rfl (by decide) (e_fieldAddr rfl field204_0) ?_
  refine ow_val rfl rfl (by decide) (e_load rfl flat2 (s2.cell 0 rfl (Blk.reads rfl))) ?_
  refine ow_val rfl rfl (by decide) (e_fieldA rfl field201_0 rfl) ?_
  refine ow_val rfl rfl (by decide) (e_load rfl flat2 (s2.oldCell 1 rfl hm)) ?_
  refine o_subI rfl rfl (by omega) (by omega) (by decide) ?_
  refine o_call enter71 rfl (by decide) ?_
  refine (within_calls _ _ _ _).mono ?_
  rintro e_ w_1 ⟨rfl, rfl⟩
  refine ⟨_, rfl, ?_⟩
  refine ow_val rfl rfl (by decide) (e_not rfl) ?_
  refine ow_val rfl rfl (by decide) (e_move rfl) ?_
  refine ow_split (g := 12) (by decide) rfl (fun g3 => ?_) (fun g3 => ?_)
  · skip
    skip
    refine ow_out rfl rfl rfl (by decide) ?_
    refine ow_out rfl rfl rfl (by decide) ?_
    refine ow_out rfl rfl rfl (by decide) ?_
    refine ow_out rfl rfl rfl (by decide) ?_
    refine ow_out rfl rfl rfl (by decide) ?_
    refine ow_out rfl rfl rfl (by decide) ?_
    refine ow_out rfl rfl rfl (by decide) ?_
    refine ow_val rfl rfl (by decide) (e_pick rfl) ?_
    refine ow_val rfl rfl (by decide) (e_move rfl) ?_
    refine ow_out rfl rfl rfl (by decide) ?_
    refine ow_out rfl rfl rfl (by decide) ?_
    refine ow_out rfl rfl rfl (by decide) ?_
    refine ow_out rfl rfl rfl (by decide) ?_
    refine ow_out rfl rfl rfl (by decide) ?_
    refine ow_out rfl rfl rfl (by decide) ?_
    refine ow_val rfl rfl (by decide) (e_pick rfl) ?_
    refine ow_nil ?_
    refine then_normal ?_
    refine cw_cond_true rfl ?_
    refine cw_seq ?_
    refine cw_region ?_
    refine ow_val rfl rfl (by decide) (e_assign rfl) ?_
    refine ow_nil ?_
    refine then_normal ?_
    refine cw_ret ?_
    refine then_ret ?_
    refine ends1 (v := .bool true) (.inl rfl) Try.results158 rfl ?_
    exact ⟨congrArg (fun b => Ending.returned (.bool b)) (by first | rfl | (simp only [linkBad, g3]; done) | (simp only [linkBad, g3]; rfl) | (simp [linkBad, g3]; done) | (simp [linkBad, g3]; omega) | (simp [linkBad, g3]; intros; omega)), s2.toBelow 1 rfl⟩
  · skip
    skip
    refine ow_in rfl rfl ?_
    refine ow_val rfl rfl (by decide) (e_fieldAddr rfl field204_1) ?_
    refine ow_in rfl rfl ?_
    refine ow_val rfl rfl (by decide) (e_load rfl flat2 (s2.cell 0 rfl (Blk.reads rfl))) ?_
    refine ow_in rfl rfl ?_
    refine ow_val rfl rfl (by decide) (e_fieldA rfl field201_0 rfl) ?_
    refine ow_in rfl rfl ?_
    refine ow_val rfl rfl (by decide) (e_load rfl flat2 (s2.oldCell 1 rfl hm)) ?_
    refine ow_in rfl rfl ?_
    refine o_subI rfl rfl (by omega) (by omega) (by decide) ?_
    refine ow_in rfl rfl ?_
    refine o_call enter71 rfl (by decide) ?_
    refine (within_calls _ _ _ _).mono ?_
    rintro e_ w_1 ⟨rfl, rfl⟩
    refine ⟨_, rfl, ?_⟩
    refine ow_in rfl rfl ?_
    refine ow_val rfl rfl (by decide) (e_not rfl) ?_
    refine ow_val rfl rfl (by decide) (e_pick rfl) ?_
    refine ow_val rfl rfl (by decide) (e_move rfl) ?_
    refine ow_split (g := 21) (by decide) rfl (fun g5 => ?_) (fun g5 => ?_)
    · skip
      skip
      refine ow_out rfl rfl rfl (by decide) ?_
      refine ow_out rfl rfl rfl (by decide) ?_
      refine ow_out rfl rfl rfl (by decide) ?_
      refine ow_out rfl rfl rfl (by decide) ?_
      refine ow_out rfl rfl rfl (by decide) ?_
      refine ow_out rfl rfl rfl (by decide) ?_
      refine ow_val rfl rfl (by decide) (e_pick rfl) ?_
      refine ow_nil ?_
      refine then_normal ?_
      refine cw_cond_true rfl ?_
      refine cw_seq ?_
      refine cw_region ?_
      refine ow_val rfl rfl (by decide) (e_assign rfl) ?_
      refine ow_nil ?_
      refine then_normal ?_
      refine cw_ret ?_
      refine then_ret ?_
      refine ends1 (v := .bool true) (.inl rfl) Try.results158 rfl ?_
      exact ⟨congrArg (fun b => Ending.returned (.bool b)) (by first | rfl | (simp only [linkBad, g3, g5]; done) | (simp only [linkBad, g3, g5]; rfl) | (simp [linkBad, g3, g5]; done) | (simp [linkBad, g3, g5]; omega) | (simp [linkBad, g3, g5]; intros; omega)), s2.toBelow 1 rfl⟩
    · skip
      skip
      refine ow_in rfl rfl ?_
      refine ow_val rfl rfl (by decide) (e_fieldAddr rfl field204_3) ?_
      refine ow_in rfl rfl ?_
      refine ow_val rfl rfl (by decide) (e_load rfl flat2 (s2.cell 0 rfl (Blk.reads rfl))) ?_
      refine ow_in rfl rfl ?_
      refine ow_val rfl rfl (by decide) (e_load rfl flat2 (s2.oldCell 1 rfl hn)) ?_
      refine ow_in rfl rfl ?_
      refine o_subI rfl rfl (by omega) (by omega) (by decide) ?_
      refine ow_in rfl rfl ?_
      refine o_call enter71 rfl (by decide) ?_
      refine (within_calls _ _ _ _).mono ?_
      rintro e_ w_1 ⟨rfl, rfl⟩
      refine ⟨_, rfl, ?_⟩
      refine ow_in rfl rfl ?_
      refine ow_val rfl rfl (by decide) (e_not rfl) ?_
      refine ow_val rfl rfl (by decide) (e_pick rfl) ?_
      refine ow_nil ?_
      refine then_normal ?_
      refine cw_cond rfl (fun c7 => ?_) (fun c7 => ?_)
      · skip
        skip
        refine cw_seq ?_
        refine cw_region ?_
        refine ow_val rfl rfl (by decide) (e_assign rfl) ?_
        refine ow_nil ?_
        refine then_normal ?_
        refine cw_ret ?_
        refine then_ret ?_
        refine ends1 (v := .bool true) (.inl rfl) Try.results158 rfl ?_
        exact ⟨congrArg (fun b => Ending.returned (.bool b)) (by first | rfl | (simp only [linkBad, g3, g5, c7]; done) | (simp only [linkBad, g3, g5, c7]; rfl) | (simp [linkBad, g3, g5, c7]; done) | (simp [linkBad, g3, g5, c7]; omega) | (simp [linkBad, g3, g5, c7]; intros; omega)), s2.toBelow 1 rfl⟩
      · skip
        skip
        refine cw_skip ?_
        refine then_normal ?_
        refine cw_seq ?_
        refine cw_region ?_
        refine ow_val rfl rfl (by decide) (e_fieldAddr rfl field204_2) ?_
        refine ow_val rfl rfl (by decide) (e_load rfl flat9 (s2.cell 0 rfl (Blk.reads rfl))) ?_
        refine o_call enter159 rfl (by decide) ?_
        refine (isBrackets_calls _ _).mono ?_
        rintro e_ w_1 ⟨rfl, rfl⟩
        refine ⟨_, rfl, ?_⟩
        refine ow_val rfl rfl (by decide) (e_not rfl) ?_
        refine ow_val rfl rfl (by decide) (e_move rfl) ?_
        refine ow_split (g := 33) (by decide) rfl (fun g8 => ?_) (fun g8 => ?_)
        · skip
          skip
          refine ow_in rfl rfl ?_
          refine ow_val rfl rfl (by decide) (e_fieldAddr rfl field204_2) ?_
          refine ow_in rfl rfl ?_
          refine ow_val rfl rfl (by decide) (e_load rfl flat9 (s2.cell 0 rfl (Blk.reads rfl))) ?_
          refine ow_in rfl rfl ?_
          refine o_call enter160 rfl (by decide) ?_
          refine (isLetter_calls _ _).mono ?_
          rintro e_ w_1 ⟨rfl, rfl⟩
          refine ⟨_, rfl, ?_⟩
          refine ow_in rfl rfl ?_
          refine ow_val rfl rfl (by decide) (e_not rfl) ?_
          refine ow_in rfl rfl ?_
          refine ow_val rfl rfl (by decide) (e_move rfl) ?_
          refine ow_split (g := 38) (by decide) rfl (fun g9 => ?_) (fun g9 => ?_)
          · skip
            skip
            refine ow_out rfl rfl rfl (by decide) ?_
            refine ow_out rfl rfl rfl (by decide) ?_
            refine ow_out rfl rfl rfl (by decide) ?_
            refine ow_in rfl rfl ?_
            refine ow_val rfl rfl (by decide) (e_pick rfl) ?_
            refine ow_val rfl rfl (by decide) (e_pick rfl) ?_
            refine ow_val rfl rfl (by decide) (e_assign rfl) ?_
            refine ow_nil ?_
            refine then_normal ?_
            refine cw_ret ?_
            refine ends1 (v := .bool true) (.inl rfl) Try.results158 rfl ?_
            exact ⟨congrArg (fun b => Ending.returned (.bool b)) (by first | rfl | (simp only [linkBad, g3, g5, c7, g8, g9]; done) | (simp only [linkBad, g3, g5, c7, g8, g9]; rfl) | (simp [linkBad, g3, g5, c7, g8, g9]; done) | (simp [linkBad, g3, g5, c7, g8, g9]; omega) | (simp [linkBad, g3, g5, c7, g8, g9]; intros; omega)), s2.toBelow 1 rfl⟩
          · skip
            skip
            refine ow_in rfl rfl ?_
            refine ow_val rfl rfl (by decide) (e_fieldAddr rfl field204_3) ?_
            refine ow_in rfl rfl ?_
            refine ow_val rfl rfl (by decide) (e_load rfl flat2 (s2.cell 0 rfl (Blk.reads rfl))) ?_
            refine ow_in rfl rfl ?_
            refine ow_val rfl rfl (by decide) (e_neq rfl rfl) ?_
            refine ow_in rfl rfl ?_
            refine ow_val rfl rfl (by decide) (e_pick rfl) ?_
            refine ow_val rfl rfl (by decide) (e_pick rfl) ?_
            refine ow_val rfl rfl (by decide) (e_assign rfl) ?_
            refine ow_nil ?_
            refine then_normal ?_
            refine cw_ret ?_
            refine ends1 (v := .bool (x.f3 != 0)) (.inl rfl) Try.results158 rfl ?_
            exact ⟨congrArg (fun b => Ending.returned (.bool b)) (by first | rfl | (simp only [linkBad, g3, g5, c7, g8, g9]; done) | (simp only [linkBad, g3, g5, c7, g8, g9]; rfl) | (simp [linkBad, g3, g5, c7, g8, g9]; done) | (simp [linkBad, g3, g5, c7, g8, g9]; omega) | (simp [linkBad, g3, g5, c7, g8, g9]; intros; omega)), s2.toBelow 1 rfl⟩
        · skip
          skip
          refine ow_out rfl rfl rfl (by decide) ?_
          refine ow_out rfl rfl rfl (by decide) ?_
          refine ow_out rfl rfl rfl (by decide) ?_
          refine ow_out rfl rfl rfl (by decide) ?_
          refine ow_out rfl rfl rfl (by decide) ?_
          refine ow_outU rfl rfl (by decide) ?_
          refine ow_outU rfl rfl (by decide) ?_
          refine ow_outU rfl rfl (by decide) ?_
          refine ow_out rfl rfl rfl (by decide) ?_
          refine ow_val rfl rfl (by decide) (e_pick rfl) ?_
          refine ow_val rfl rfl (by decide) (e_assign rfl) ?_
          refine ow_nil ?_
          refine then_normal ?_
          refine cw_ret ?_
          refine ends1 (v := .bool false) (.inl rfl) Try.results158 rfl ?_
          exact ⟨congrArg (fun b => Ending.returned (.bool b)) (by first | rfl | (simp only [linkBad, g3, g5, c7, g8]; done) | (simp only [linkBad, g3, g5, c7, g8]; rfl) | (simp [linkBad, g3, g5, c7, g8]; done) | (simp [linkBad, g3, g5, c7, g8]; omega) | (simp [linkBad, g3, g5, c7, g8]; intros; omega)), s2.toBelow 1 rfl⟩
end Go.Proofs.Ytjkohjdiddhpcaa.My
set_option linter.unusedVariables false
set_option linter.unusedSimpArgs false
namespace Go.Proofs.Ytjkohjdiddhpcaa.My
open Go.Sl Go.RowKit Go.Proofs.YtjkohjdiddhpcaaW.PrintWords Go.Proofs.YtjkohjdiddhpcaaW.PrintLast Go.Proofs.YtjkohjdiddhpcaaW.PrintMore Go.Proofs.Ytjkohjdiddhpcaa.PFnExactCountProgramWords
theorem moduleBad_calls (x : S201) (A : Option Addr) (c bn : Nat) (n : Int) (w : World) (hC : Kd.C k204 w A x.f1.length x.f1) (hn : w.cell? ⟨bn, 0, none⟩ = some (.int .i64 n)) (h3 : 1 ≤ n) (h4 : n ≤ 4) :
    Calls Try.prog 156 #[.agg #[.int .i64 x.f0, .slice A x.f1.length c], .pointer (some ⟨bn, 0, none⟩)] w fun e w' => e = .returned (.bool (moduleBad n x)) ∧ Below w.heap.size w w' := by
  have s0 := Sat.start w
  refine calls_of_cw (args := [.agg #[.int .i64 x.f0, .slice A x.f1.length c], .pointer (some ⟨bn, 0, none⟩)]) Try.func156 Try.ntmps156 rfl (by simp) ?_
  refine cw_seq ?_
  refine cw_region ?_
  refine o_box rfl s0 (by decide) (fun b1 w2 s2 => ?_)
  refine ow_val rfl rfl (by decide) (e_assign rfl) ?_
  refine ow_nil ?_
  refine then_normal ?_
  refine cw_seq ?_
  refine cw_region ?_
  refine ow_val rfl rfl (by decide) (e_fieldAddr rfl field201_0) ?_
  refine ow_val rfl rfl (by decide) (e_load rfl flat2 (s2.cell 0 rfl (Blk.reads rfl))) ?_
  refine o_call enter71 rfl (by decide) ?_
  refine (within_calls _ _ _ _).mono ?_
  rintro e_ w_1 ⟨rfl, rfl⟩
  refine ⟨_, rfl, ?_⟩
  refine ow_val rfl rfl (by decide) (e_not rfl) ?_
  refine ow_val rfl rfl (by decide) (e_move rfl) ?_
  refine ow_split (g := 8) (by decide) rfl (fun g3 => ?_) (fun g3 => ?_)
  · skip
    skip
    refine ow_out rfl rfl rfl (by decide) ?_
    refine ow_out rfl rfl rfl (by decide) ?_
    refine ow_out rfl rfl rfl (by decide) ?_
    refine ow_out rfl rfl rfl (by decide) ?_
    refine ow_val rfl rfl (by decide) (e_pick rfl) ?_
    refine ow_val rfl rfl (by decide) (e_move rfl) ?_
    refine ow_out rfl rfl rfl (by decide) ?_
    refine ow_out rfl rfl rfl (by decide) ?_
    refine ow_out rfl rfl rfl (by decide) ?_
    refine ow_out rfl rfl rfl (by decide) ?_
    refine ow_val rfl rfl (by decide) (e_pick rfl) ?_
    refine ow_val rfl rfl (by decide) (e_assign rfl) ?_
    refine ow_nil ?_
    refine then_normal ?_
    refine cw_ret ?_
    refine ends1 (v := .bool true) (.inl rfl) Try.results156 rfl ?_
    exact ⟨congrArg (fun b => Ending.returned (.bool b)) (by first | rfl | (simp only [moduleBad, g3]; done) | (simp only [moduleBad, g3]; rfl) | (simp [moduleBad, g3]; done) | (simp [moduleBad, g3]; omega) | (simp [moduleBad, g3]; intros; omega)), s2.toBelow 1 rfl⟩
  · skip
    have hb := g3; simp [inR] at hb
    refine ow_in rfl rfl ?_
    refine ow_val rfl rfl (by decide) (e_fieldAddr rfl field201_1) ?_
    refine ow_in rfl rfl ?_
    refine ow_val rfl rfl (by decide) (e_load rfl flat199 (s2.cell 0 rfl (Blk.reads rfl))) ?_
    refine ow_in rfl rfl ?_
    refine ow_val rfl rfl (by decide) (e_len_slice rfl Try.underlying199) ?_
    refine ow_in rfl rfl ?_
    refine ow_val rfl rfl (by decide) (e_gtr rfl rfl) ?_
    refine ow_val rfl rfl (by decide) (e_pick rfl) ?_
    refine ow_val rfl rfl (by decide) (e_move rfl) ?_
    refine ow_split (g := 14) (by decide) rfl (fun g4 => ?_) (fun g4 => ?_)
    · skip
      skip
      refine ow_out rfl rfl rfl (by decide) ?_
      refine ow_out rfl rfl rfl (by decide) ?_
      refine ow_out rfl rfl rfl (by decide) ?_
      refine ow_out rfl rfl rfl (by decide) ?_
      refine ow_val rfl rfl (by decide) (e_pick rfl) ?_
      refine ow_val rfl rfl (by decide) (e_assign rfl) ?_
      refine ow_nil ?_
      refine then_normal ?_
      refine cw_ret ?_
      refine ends1 (v := .bool true) (.inl rfl) Try.results156 rfl ?_
      exact ⟨congrArg (fun b => Ending.returned (.bool b)) (by first | rfl | (simp only [moduleBad, g3, g4]; done) | (simp only [moduleBad, g3, g4]; rfl) | (simp [moduleBad, g3, g4]; done) | (simp [moduleBad, g3, g4]; omega) | (simp [moduleBad, g3, g4]; intros; omega)), s2.toBelow 1 rfl⟩
    · skip
      skip
      refine ow_in rfl rfl ?_
      refine ow_val rfl rfl (by decide) (e_fieldAddr rfl field201_1) ?_
      refine ow_in rfl rfl ?_
      refine ow_val rfl rfl (by decide) (e_load rfl flat199 (s2.cell 0 rfl (Blk.reads rfl))) ?_
      refine ow_in rfl rfl ?_
      refine ow_val rfl rfl (by decide) (e_mkFunc rfl) ?_
      refine ow_in rfl rfl ?_
      refine o_call enter157 rfl (by decide) ?_
      have hcb := s2.cell 0 rfl (Blk.reads (i := 0) rfl)
      have hcn := s2.oldCell 1 rfl hn
      refine (contains157 (p := linkBad n x.f0) 158 [.pointer (some ⟨b1, 0, none⟩), .pointer (some ⟨bn, 0, none⟩)] enter158 A c x.f1 _ (Kd.C_below hC (s2.toBelow 1 rfl)) (fun y cs w1 hb1 hK => by
        obtain rfl := k204_open hK
        exact linkBad_calls y b1 bn x.f0 n w1 (pw_cell_below hb1 hcb) (pw_cell_below hb1 hcn) (by omega) (by omega) h3 h4)).mono ?_
      rintro e_ w5 ⟨rfl, hb_⟩
      have s5 := s2.below hb_
      refine ⟨_, rfl, ?_⟩
      refine ow_val rfl rfl (by decide) (e_pick rfl) ?_
      refine ow_val rfl rfl (by decide) (e_assign rfl) ?_
      refine ow_nil ?_
      refine then_normal ?_
      refine cw_ret ?_
      refine ends1 (v := .bool (x.f1.any (linkBad n x.f0))) (.inl rfl) Try.results156 rfl ?_
      exact ⟨congrArg (fun b => Ending.returned (.bool b)) (by first | rfl | (simp only [moduleBad, g3, g4]; done) | (simp only [moduleBad, g3, g4]; rfl) | (simp [moduleBad, g3, g4]; done) | (simp [moduleBad, g3, g4]; omega) | (simp [moduleBad, g3, g4]; intros; omega)), s5.toBelow 1 rfl⟩
theorem size154 (A : Option Addr) (m c : Nat) (w : World) :
    Calls Try.prog 154 #[.slice A m c] w fun e w' => e = .returned (.int .i64 (m : Int)) ∧ w = w' := by
  have s0 := Sat.start w
  refine calls_of_cw (args := [.slice A m c]) Try.func154 Try.ntmps154 rfl (by simp) ?_
  refine cw_seq ?_
  refine cw_region ?_
  refine ow_val rfl rfl (by decide) (e_assign rfl) ?_
  refine ow_nil ?_
  refine then_normal ?_
  refine cw_seq ?_
  refine cw_region ?_
  refine ow_val rfl rfl (by decide) (e_move rfl) ?_
  refine ow_val rfl rfl (by decide) (e_len_slice rfl Try.underlying28) ?_
  refine ow_val rfl rfl (by decide) (e_assign rfl) ?_
  refine ow_nil ?_
  refine then_normal ?_
  refine cw_ret ?_
  refine ends1 (v := .int .i64 (m : Int)) (.inl rfl) Try.results154 rfl ?_
  exact ⟨rfl, rfl⟩
theorem validProgram_calls (ms : List S201) (A : Option Addr) (c : Nat) (w : World) (hC : Kd.C k201 w A ms.length ms) :
    Calls Try.prog 70 #[.agg #[.slice A ms.length c]] w fun e w' => e = .returned (.bool (progOk ms)) ∧ Below w.heap.size w w' := by
  have s0 := Sat.start w
  refine calls_of_cw (args := [.agg #[.slice A ms.length c]]) Try.func70 Try.ntmps70 rfl (by simp) ?_
  refine cw_seq ?_
  refine cw_region ?_
  refine o_box rfl s0 (by decide) (fun b1 w2 s2 => ?_)
  refine ow_val rfl rfl (by decide) (e_assign rfl) ?_
  refine ow_nil ?_
  refine then_normal ?_
  refine cw_seq ?_
  refine cw_region ?_
  refine ow_val rfl rfl (by decide) (e_fieldAddr rfl field30_0) ?_
  refine ow_val rfl rfl (by decide) (e_load rfl flat28 (s2.cell 0 rfl (Blk.reads rfl))) ?_
  refine o_call enter154 rfl (by decide) ?_
  refine (size154 _ _ _ _).mono ?_
  rintro e_ w_1 ⟨rfl, rfl⟩
  refine ⟨_, rfl, ?_⟩
  refine o_alloc zero2 s2 (by decide) (fun b3 w4 s4 => ?_)
  refine o_store rfl rfl rfl flat2 s4 (i := 0) rfl (Blk.writes _ (Nat.le_of_ble_eq_true rfl)) (fun w5 s5 => ?_)
  refine ow_nil ?_
  refine then_normal ?_
  refine cw_seq ?_
  refine cw_region ?_
  refine ow_val rfl rfl (by decide) (e_load rfl flat2 (s5.cell 0 rfl (Blk.reads rfl))) ?_
  refine o_call enter71 rfl (by decide) ?_
  refine (within_calls _ _ _ _).mono ?_
  rintro e_ w_1 ⟨rfl, rfl⟩
  refine ⟨_, rfl, ?_⟩
  refine ow_val rfl rfl (by decide) (e_move rfl) ?_
  refine ow_split (g := 9) (by decide) rfl (fun g6 => ?_) (fun g6 => ?_)
  · skip
    have hb := g6; simp [inR] at hb
    refine ow_in rfl rfl ?_
    refine ow_val rfl rfl (by decide) (e_fieldAddr rfl field30_0) ?_
    refine ow_in rfl rfl ?_
    refine ow_val rfl rfl (by decide) (e_load rfl flat28 (s5.cell 1 rfl (Blk.reads rfl))) ?_
    refine ow_in rfl rfl ?_
    refine ow_val rfl rfl (by decide) (e_mkFunc rfl) ?_
    refine ow_in rfl rfl ?_
    refine o_call enter155 rfl (by decide) ?_
    have hcb := s5.cell 0 rfl (Blk.reads (i := 0) rfl)
    refine (contains155 (p := moduleBad (ms.length : Int)) 156 [.pointer (some ⟨b3, 0, none⟩)] enter156 A c ms _ (Kd.C_below hC (s5.toBelow 2 rfl)) (fun y cs w1 hb1 hK => by
      obtain ⟨A1, c1, rfl, hl1, hC1⟩ := k201_open hK
      exact moduleBad_calls y A1 c1 b3 _ w1 hC1 (pw_cell_below hb1 hcb) (by omega) (by omega))).mono ?_
    rintro e_ w7 ⟨rfl, hb_⟩
    have s7 := s5.below hb_
    refine ⟨_, rfl, ?_⟩
    refine ow_in rfl rfl ?_
    refine ow_val rfl rfl (by decide) (e_not rfl) ?_
    refine ow_val rfl rfl (by decide) (e_pick rfl) ?_
    refine ow_val rfl rfl (by decide) (e_assign rfl) ?_
    refine ow_nil ?_
    refine then_normal ?_
    refine cw_ret ?_
    refine ends1 (v := .bool (!(ms.any (moduleBad (ms.length : Int))))) (.inl rfl) Try.results70 rfl ?_
    exact ⟨congrArg (fun b => Ending.returned (.bool b)) (by first | rfl | (simp only [progOk, g6]; done) | (simp only [progOk, g6]; rfl) | (simp [progOk, g6]; done) | (simp [progOk, g6]; omega) | (simp [progOk, g6]; intros; omega)), s7.toBelow 2 rfl⟩
  · skip
    skip
    refine ow_out rfl rfl rfl (by decide) ?_
    refine ow_out rfl rfl rfl (by decide) ?_
    refine ow_out rfl rfl rfl (by decide) ?_
    refine ow_out rfl rfl rfl (by decide) ?_
    refine ow_out rfl rfl rfl (by decide) ?_
    refine ow_val rfl rfl (by decide) (e_pick rfl) ?_
    refine ow_val rfl rfl (by decide) (e_assign rfl) ?_
    refine ow_nil ?_
    refine then_normal ?_
    refine cw_ret ?_
    refine ends1 (v := .bool false) (.inl rfl) Try.results70 rfl ?_
    exact ⟨congrArg (fun b => Ending.returned (.bool b)) (by first | rfl | (simp only [progOk, g6]; done) | (simp only [progOk, g6]; rfl) | (simp [progOk, g6]; done) | (simp [progOk, g6]; omega) | (simp [progOk, g6]; intros; omega)), s5.toBelow 2 rfl⟩
end Go.Proofs.Ytjkohjdiddhpcaa.My
set_option linter.unusedVariables false
set_option linter.unusedSimpArgs false
namespace Go.Proofs.Ytjkohjdiddhpcaa.My
open Go.Sl Go.RowKit Go.Proofs.YtjkohjdiddhpcaaW.PrintWords Go.Proofs.YtjkohjdiddhpcaaW.PrintLast Go.Proofs.YtjkohjdiddhpcaaW.PrintMore Go.Proofs.Ytjkohjdiddhpcaa.PFnExactCountProgramWords
def specLinkBad (n nodes : Int) (l : S204) : Bool := (!(inR l.f0 0 (nodes - 1)) || !(inR l.f1 0 (nodes - 1))) || ((((!(l.f2.toList == (⟨#[97]⟩ : ByteArray).toList) && !(l.f2.toList == (⟨#[98]⟩ : ByteArray).toList)) && !(brk l.f2)) || !(inR l.f3 0 (n - 1))) || (((l.f2.size : Int) == 1) && (l.f3 != 0)))
def specModBad (n : Int) (m : S201) : Bool := !(inR m.f0 1 8) || (decide ((m.f1.length : Int) > 12) || m.f1.any (specLinkBad n m.f0))
def specOk (ms : List S201) : Bool := inR (ms.length : Int) 1 4 && !(ms.any (specModBad (ms.length : Int)))
theorem l00In_calls (a lo hi : Int) (w : World) :
    Calls Try.prog 65 #[.int .i64 a, .int .i64 lo, .int .i64 hi] w fun e w' => e = .returned (.bool (inR a lo hi)) ∧ w = w' := by
  have s0 := Sat.start w
  refine calls_of_cw (args := [.int .i64 a, .int .i64 lo, .int .i64 hi]) Try.func65 Try.ntmps65 rfl (by simp) ?_
  refine cw_seq ?_
  refine cw_region ?_
  refine ow_val rfl rfl (by decide) (e_assign rfl) ?_
  refine ow_nil ?_
  refine then_normal ?_
  refine cw_seq ?_
  refine cw_region ?_
  refine ow_val rfl rfl (by decide) (e_move rfl) ?_
  refine ow_val rfl rfl (by decide) (e_move rfl) ?_
  refine ow_val rfl rfl (by decide) (e_geq rfl rfl) ?_
  refine ow_val rfl rfl (by decide) (e_move rfl) ?_
  refine ow_split (g := 10) (by decide) rfl (fun g1 => ?_) (fun g1 => ?_)
  · skip
    skip
    refine ow_in rfl rfl ?_
    refine ow_val rfl rfl (by decide) (e_move rfl) ?_
    refine ow_in rfl rfl ?_
    refine ow_val rfl rfl (by decide) (e_move rfl) ?_
    refine ow_in rfl rfl ?_
    refine ow_val rfl rfl (by decide) (e_leq rfl rfl) ?_
    refine ow_val rfl rfl (by decide) (e_pick rfl) ?_
    refine ow_val rfl rfl (by decide) (e_assign rfl) ?_
    refine ow_nil ?_
    refine then_normal ?_
    refine cw_ret ?_
    refine ends1 (v := .bool (decide (a ≤ hi))) (.inl rfl) Try.results65 rfl ?_
    exact ⟨congrArg (fun b => Ending.returned (.bool b)) (by first | rfl | (simp only [inR, g1]; done) | (simp only [inR, g1]; rfl) | (simp [inR, g1]; done) | (simp [inR, g1]; omega) | (simp [inR, g1]; intros; omega)), rfl⟩
  · skip
    skip
    refine ow_out rfl rfl rfl (by decide) ?_
    refine ow_out rfl rfl rfl (by decide) ?_
    refine ow_out rfl rfl rfl (by decide) ?_
    refine ow_val rfl rfl (by decide) (e_pick rfl) ?_
    refine ow_val rfl rfl (by decide) (e_assign rfl) ?_
    refine ow_nil ?_
    refine then_normal ?_
    refine cw_ret ?_
    refine ends1 (v := .bool false) (.inl rfl) Try.results65 rfl ?_
    exact ⟨congrArg (fun b => Ending.returned (.bool b)) (by first | rfl | (simp only [inR, g1]; done) | (simp only [inR, g1]; rfl) | (simp [inR, g1]; done) | (simp [inR, g1]; omega) | (simp [inR, g1]; intros; omega)), rfl⟩
theorem l01Call_calls (c : Int) (w : World) :
    Calls Try.prog 236 #[.int .u8 c] w fun e w' => e = .returned (.bool (isC c)) ∧ w = w' := by
  have s0 := Sat.start w
  refine calls_of_cw (args := [.int .u8 c]) Try.func236 Try.ntmps236 rfl (by simp) ?_
  refine cw_seq ?_
  refine cw_region ?_
  refine ow_val rfl rfl (by decide) (e_assign rfl) ?_
  refine ow_nil ?_
  refine then_normal ?_
  refine cw_seq ?_
  refine cw_region ?_
  refine ow_val rfl rfl (by decide) (e_move rfl) ?_
  refine ow_val rfl rfl (by decide) (e_eql rfl rfl) ?_
  refine ow_val rfl rfl (by decide) (e_move rfl) ?_
  refine ow_split (g := 5) (by decide) rfl (fun g1 => ?_) (fun g1 => ?_)
  · skip
    skip
    refine ow_out rfl rfl rfl (by decide) ?_
    refine ow_out rfl rfl rfl (by decide) ?_
    refine ow_val rfl rfl (by decide) (e_pick rfl) ?_
    refine ow_val rfl rfl (by decide) (e_assign rfl) ?_
    refine ow_nil ?_
    refine then_normal ?_
    refine cw_ret ?_
    refine ends1 (v := .bool true) (.inl rfl) Try.results236 rfl ?_
    exact ⟨congrArg (fun b => Ending.returned (.bool b)) (by first | rfl | (simp only [isC, g1]; done) | (simp only [isC, g1]; rfl) | (simp [isC, g1]; done) | (simp [isC, g1]; omega) | (simp [isC, g1]; intros; omega)), rfl⟩
  · skip
    skip
    refine ow_in rfl rfl ?_
    refine ow_val rfl rfl (by decide) (e_move rfl) ?_
    refine ow_in rfl rfl ?_
    refine ow_val rfl rfl (by decide) (e_eql rfl rfl) ?_
    refine ow_val rfl rfl (by decide) (e_pick rfl) ?_
    refine ow_val rfl rfl (by decide) (e_assign rfl) ?_
    refine ow_nil ?_
    refine then_normal ?_
    refine cw_ret ?_
    refine ends1 (v := .bool (c == 91)) (.inl rfl) Try.results236 rfl ?_
    exact ⟨congrArg (fun b => Ending.returned (.bool b)) (by first | rfl | (simp only [isC, g1]; done) | (simp only [isC, g1]; rfl) | (simp [isC, g1]; done) | (simp [isC, g1]; omega) | (simp [isC, g1]; intros; omega)), rfl⟩
theorem l01Return_calls (c : Int) (w : World) :
    Calls Try.prog 237 #[.int .u8 c] w fun e w' => e = .returned (.bool (isR c)) ∧ w = w' := by
  have s0 := Sat.start w
  refine calls_of_cw (args := [.int .u8 c]) Try.func237 Try.ntmps237 rfl (by simp) ?_
  refine cw_seq ?_
  refine cw_region ?_
  refine ow_val rfl rfl (by decide) (e_assign rfl) ?_
  refine ow_nil ?_
  refine then_normal ?_
  refine cw_seq ?_
  refine cw_region ?_
  refine ow_val rfl rfl (by decide) (e_move rfl) ?_
  refine ow_val rfl rfl (by decide) (e_eql rfl rfl) ?_
  refine ow_val rfl rfl (by decide) (e_move rfl) ?_
  refine ow_split (g := 5) (by decide) rfl (fun g1 => ?_) (fun g1 => ?_)
  · skip
    skip
    refine ow_out rfl rfl rfl (by decide) ?_
    refine ow_out rfl rfl rfl (by decide) ?_
    refine ow_val rfl rfl (by decide) (e_pick rfl) ?_
    refine ow_val rfl rfl (by decide) (e_assign rfl) ?_
    refine ow_nil ?_
    refine then_normal ?_
    refine cw_ret ?_
    refine ends1 (v := .bool true) (.inl rfl) Try.results237 rfl ?_
    exact ⟨congrArg (fun b => Ending.returned (.bool b)) (by first | rfl | (simp only [isR, g1]; done) | (simp only [isR, g1]; rfl) | (simp [isR, g1]; done) | (simp [isR, g1]; omega) | (simp [isR, g1]; intros; omega)), rfl⟩
  · skip
    skip
    refine ow_in rfl rfl ?_
    refine ow_val rfl rfl (by decide) (e_move rfl) ?_
    refine ow_in rfl rfl ?_
    refine ow_val rfl rfl (by decide) (e_eql rfl rfl) ?_
    refine ow_val rfl rfl (by decide) (e_pick rfl) ?_
    refine ow_val rfl rfl (by decide) (e_assign rfl) ?_
    refine ow_nil ?_
    refine then_normal ?_
    refine cw_ret ?_
    refine ends1 (v := .bool (c == 93)) (.inl rfl) Try.results237 rfl ?_
    exact ⟨congrArg (fun b => Ending.returned (.bool b)) (by first | rfl | (simp only [isR, g1]; done) | (simp only [isR, g1]; rfl) | (simp [isR, g1]; done) | (simp [isR, g1]; omega) | (simp [isR, g1]; intros; omega)), rfl⟩
theorem l06Brackets_calls (s : ByteArray) (w : World) :
    Calls Try.prog 148 #[.string s] w fun e w' => e = .returned (.bool (brk s)) ∧ w = w' := by
  have s0 := Sat.start w
  refine calls_of_cw (args := [.string s]) Try.func148 Try.ntmps148 rfl (by simp) ?_
  refine cw_seq ?_
  refine cw_region ?_
  refine ow_val rfl rfl (by decide) (e_assign rfl) ?_
  refine ow_nil ?_
  refine then_normal ?_
  refine cw_seq ?_
  refine cw_region ?_
  refine ow_val rfl rfl (by decide) (e_move rfl) ?_
  refine ow_val rfl rfl (by decide) (e_len_str rfl Try.underlying9) ?_
  refine ow_val rfl rfl (by decide) (e_eql rfl rfl) ?_
  refine ow_val rfl rfl (by decide) (e_move rfl) ?_
  refine ow_split (g := 6) (by decide) rfl (fun g1 => ?_) (fun g1 => ?_)
  · skip
    have hl2 : (s.size : Int) = 2 := beq_iff_eq.1 g1
    refine ow_in rfl rfl ?_
    refine ow_val rfl rfl (by decide) (e_move rfl) ?_
    refine ow_in rfl rfl ?_
    refine ow_val rfl rfl (by decide) (e_idxBt rfl rfl Try.underlying9 (by omega) (by omega)) ?_
    refine ow_in rfl rfl ?_
    refine o_call enter236 rfl (by decide) ?_
    refine (l01Call_calls _ _).mono ?_
    rintro e_ w_1 ⟨rfl, rfl⟩
    refine ⟨_, rfl, ?_⟩
    refine ow_val rfl rfl (by decide) (e_pick rfl) ?_
    refine ow_val rfl rfl (by decide) (e_move rfl) ?_
    refine ow_split (g := 11) (by decide) rfl (fun g2 => ?_) (fun g2 => ?_)
    · skip
      skip
      refine ow_in rfl rfl ?_
      refine ow_val rfl rfl (by decide) (e_move rfl) ?_
      refine ow_in rfl rfl ?_
      refine ow_val rfl rfl (by decide) (e_idxBt rfl rfl Try.underlying9 (by omega) (by omega)) ?_
      refine ow_in rfl rfl ?_
      refine o_call enter237 rfl (by decide) ?_
      refine (l01Return_calls _ _).mono ?_
      rintro e_ w_1 ⟨rfl, rfl⟩
      refine ⟨_, rfl, ?_⟩
      refine ow_val rfl rfl (by decide) (e_pick rfl) ?_
      refine ow_val rfl rfl (by decide) (e_assign rfl) ?_
      refine ow_nil ?_
      refine then_normal ?_
      refine cw_ret ?_
      refine ends1 (v := .bool (isR ((bt s 1)))) (.inl rfl) Try.results148 rfl ?_
      exact ⟨congrArg (fun b => Ending.returned (.bool b)) (by first | rfl | (simp only [brk, g1, g2]; done) | (simp only [brk, g1, g2]; rfl) | (simp [brk, g1, g2]; done) | (simp [brk, g1, g2]; omega) | (simp [brk, g1, g2]; intros; omega)), rfl⟩
    · skip
      skip
      refine ow_out rfl rfl rfl (by decide) ?_
      refine ow_out rfl rfl rfl (by decide) ?_
      refine ow_out rfl rfl rfl (by decide) ?_
      refine ow_val rfl rfl (by decide) (e_pick rfl) ?_
      refine ow_val rfl rfl (by decide) (e_assign rfl) ?_
      refine ow_nil ?_
      refine then_normal ?_
      refine cw_ret ?_
      refine ends1 (v := .bool false) (.inl rfl) Try.results148 rfl ?_
      exact ⟨congrArg (fun b => Ending.returned (.bool b)) (by first | rfl | (simp only [brk, g1, g2]; done) | (simp only [brk, g1, g2]; rfl) | (simp [brk, g1, g2]; done) | (simp [brk, g1, g2]; omega) | (simp [brk, g1, g2]; intros; omega)), rfl⟩
  · skip
    skip
    refine ow_out rfl rfl rfl (by decide) ?_
    refine ow_out rfl rfl rfl (by decide) ?_
    refine ow_out rfl rfl rfl (by decide) ?_
    refine ow_val rfl rfl (by decide) (e_pick rfl) ?_
    refine ow_val rfl rfl (by decide) (e_move rfl) ?_
    refine ow_out rfl rfl rfl (by decide) ?_
    refine ow_out rfl rfl rfl (by decide) ?_
    refine ow_out rfl rfl rfl (by decide) ?_
    refine ow_val rfl rfl (by decide) (e_pick rfl) ?_
    refine ow_val rfl rfl (by decide) (e_assign rfl) ?_
    refine ow_nil ?_
    refine then_normal ?_
    refine cw_ret ?_
    refine ends1 (v := .bool false) (.inl rfl) Try.results148 rfl ?_
    exact ⟨congrArg (fun b => Ending.returned (.bool b)) (by first | rfl | (simp only [brk, g1]; done) | (simp only [brk, g1]; rfl) | (simp [brk, g1]; done) | (simp [brk, g1]; omega) | (simp [brk, g1]; intros; omega)), rfl⟩
theorem l07Inner_calls (p : Addr) (act : ByteArray) (w : World) (ha : w.cell? (p.add 2) = some (.string act)) :
    Calls Try.prog 149 #[.pointer (some p)] w fun e w' => e = .returned (.bool (((act.size : Int) == 1))) ∧ w = w' := by
  have s0 := Sat.start w
  refine calls_of_cw (args := [.pointer (some p)]) Try.func149 Try.ntmps149 rfl (by simp) ?_
  refine cw_seq ?_
  refine cw_region ?_
  refine ow_val rfl rfl (by decide) (e_assign rfl) ?_
  refine ow_nil ?_
  refine then_normal ?_
  refine cw_seq ?_
  refine cw_region ?_
  refine ow_val rfl rfl (by decide) (e_move rfl) ?_
  refine ow_val rfl rfl (by decide) (e_nilCheck rfl) ?_
  refine ow_val rfl rfl (by decide) (e_fieldA rfl field204_2 rfl) ?_
  refine ow_val rfl rfl (by decide) (e_load rfl flat9 (s0.oldCell 0 rfl ha)) ?_
  refine ow_val rfl rfl (by decide) (e_len_str rfl Try.underlying9) ?_
  refine ow_val rfl rfl (by decide) (e_eql rfl rfl) ?_
  refine ow_val rfl rfl (by decide) (e_assign rfl) ?_
  refine ow_nil ?_
  refine then_normal ?_
  refine cw_ret ?_
  refine ends1 (v := .bool ((act.size : Int) == 1)) (.inl rfl) Try.results149 rfl ?_
  exact ⟨congrArg (fun b => Ending.returned (.bool b)) (by first | rfl | (simp only [brk, ]; done) | (simp only [brk, ]; rfl) | (simp [brk, ]; done) | (simp [brk, ]; omega) | (simp [brk, ]; intros; omega)), rfl⟩
theorem specOk_of {ms : List S201} {k : Nat} {md : S201} (hk : k < ms.length) (hmd : md = rd_T201 ms (k : Int)) (h : specModBad (ms.length : Int) md = true) : false = specOk ms := by
  have : ms.any (specModBad (ms.length : Int)) = true := any_of_get (z := z201) hk (by show specModBad _ (rd_T201 ms (k : Int)) = true; rw [← hmd]; exact h)
  simp [specOk, this]
theorem l07Ok_calls (ms : List S201) (pa : Addr) (A : Option Addr) (c : Nat) (w : World) (hC : Kd.C k201 w A ms.length ms) (hp : w.cell? (pa.add 0) = some (.slice A ms.length c)) :
    Calls Try.prog 64 #[.pointer (some pa)] w fun e w' => e = .returned (.bool (specOk ms)) ∧ Below w.heap.size w w' := by
  have hmix : Try.prog.follows .mixedOrders = true := by kernel_rfl
  have hmax := hC.2.1
  have s0 := Sat.start w
  refine calls_of_cw (args := [.pointer (some pa)]) Try.func64 Try.ntmps64 rfl (by simp) ?_
  refine cw_seq ?_
  refine cw_region ?_
  refine ow_val rfl rfl (by decide) (e_assign rfl) ?_
  refine ow_nil ?_
  refine then_normal ?_
  refine cw_seq ?_
  refine cw_region ?_
  refine ow_val rfl rfl (by decide) (e_move rfl) ?_
  refine ow_val rfl rfl (by decide) (e_nilCheck rfl) ?_
  refine ow_val rfl rfl (by decide) (e_fieldA rfl field30_0 rfl) ?_
  refine ow_val rfl rfl (by decide) (e_load rfl flat28 (s0.oldCell 0 rfl hp)) ?_
  refine ow_val rfl rfl (by decide) (e_len_slice rfl Try.underlying28) ?_
  refine ow_val rfl rfl (by decide) (e_assign rfl) ?_
  refine ow_nil ?_
  refine then_normal ?_
  refine cw_seq ?_
  refine cw_seq ?_
  refine cw_region ?_
  refine ow_val rfl rfl (by decide) (e_move rfl) ?_
  refine o_call enter65 rfl (by decide) ?_
  refine (l00In_calls _ _ _ _).mono ?_
  rintro e_ w_1 ⟨rfl, rfl⟩
  refine ⟨_, rfl, ?_⟩
  refine ow_val rfl rfl (by decide) (e_not rfl) ?_
  refine ow_nil ?_
  refine then_normal ?_
  refine cw_cond rfl (fun c1 => ?_) (fun c1 => ?_)
  · skip
    skip
    refine cw_seq ?_
    refine cw_region ?_
    refine ow_val rfl rfl (by decide) (e_assign rfl) ?_
    refine ow_nil ?_
    refine then_normal ?_
    refine cw_ret ?_
    refine then_ret ?_
    refine ends1 (v := .bool false) (.inl rfl) Try.results64 rfl ?_
    exact ⟨congrArg (fun b => Ending.returned (.bool b)) (by have h15 : inR (ms.length : Int) 1 4 = false := (by simpa using c1); simp [specOk, h15]), s0.toBelow 0 rfl⟩
  · skip
    have hn4 : 1 ≤ (ms.length : Int) ∧ (ms.length : Int) ≤ 4 := by simpa [inR] using c1
    refine cw_skip ?_
    refine then_normal ?_
    refine cw_seq ?_
    refine cw_seq ?_
    refine cw_region ?_
    refine ow_val rfl rfl (by decide) (e_assign rfl) ?_
    refine ow_nil ?_
    refine then_normal ?_
    refine cw_block ?_
    refine cw_loop (fun μ_ f_ w_ => ∃ k : Nat, μ_ = ms.length - k ∧ f_ 0 = .pointer (some pa) ∧ f_ 3 = .int .i64 (ms.length : Int) ∧ f_ 4 = .int .i64 (k : Int) ∧ (k ≤ ms.length) ∧ ((ms.take k).any (specModBad (ms.length : Int)) = false) ∧ Sat w w_ [Old w]) ms.length ⟨0, rfl, rfl, rfl, rfl, Nat.zero_le _, by simp, s0⟩ ?_
    intro k_ f_ w_ h_
    obtain ⟨k, rfl, e2_0, e2_3, e2_4, hk, hf, s2⟩ := h_
    skip
    refine cw_seq ?_
    refine cw_seq ?_
    refine cw_region ?_
    refine ow_val rfl rfl (by decide) (e_move e2_4) ?_
    refine ow_val rfl rfl (by decide) (e_move e2_3) ?_
    refine ow_val rfl rfl (by decide) (e_lss rfl rfl) ?_
    refine ow_nil ?_
    refine then_normal ?_
    refine cw_cond rfl (fun c3 => ?_) (fun c3 => ?_)
    · skip
      have hlt : k < ms.length := by have := of_decide_eq_true c3; omega
      refine cw_skip ?_
      refine then_normal ?_
      refine cw_seq ?_
      refine cw_block ?_
      refine cw_seq ?_
      refine cw_region ?_
      refine ow_val rfl rfl (by decide) (e_move e2_0) ?_
      refine ow_val rfl rfl (by decide) (e_nilCheck rfl) ?_
      refine ow_val rfl rfl (by decide) (e_fieldA rfl field30_0 rfl) ?_
      refine ow_val rfl rfl (by decide) (e_load rfl flat28 (s2.oldCell 0 rfl hp)) ?_
      refine ow_val rfl rfl (by decide) (e_move e2_4) ?_
      obtain ⟨ad, A1, cm, eA, hx0, hx1, hl1, hC1⟩ := at_T201 hC (k : Int) (by omega) (by omega)
      obtain ⟨md, hmd⟩ : ∃ md, md = rd_T201 ms (k : Int) := ⟨_, rfl⟩
      rw [← hmd] at hx0 hx1 hl1 hC1
      have hmax1 := hC1.2.1
      subst eA
      refine o_idxR rfl rfl slt28 (by omega) (by omega) (by decide) ?_
      refine ow_val rfl rfl (by decide) (e_assign rfl) ?_
      refine ow_nil ?_
      refine then_normal ?_
      refine cw_seq ?_
      refine cw_seq ?_
      refine cw_region ?_
      refine ow_val rfl rfl (by decide) (e_move rfl) ?_
      refine ow_val rfl rfl (by decide) (e_nilCheck rfl) ?_
      refine ow_val rfl rfl (by decide) (e_fieldA rfl field201_0 rfl) ?_
      refine ow_val rfl rfl (by decide) (e_load rfl flat2 (s2.oldCell 0 rfl hx0)) ?_
      refine o_call enter65 rfl (by decide) ?_
      refine (l00In_calls _ _ _ _).mono ?_
      rintro e_ w_1 ⟨rfl, rfl⟩
      refine ⟨_, rfl, ?_⟩
      refine ow_val rfl rfl (by decide) (e_not rfl) ?_
      refine ow_val rfl rfl (by decide) (e_move rfl) ?_
      refine ow_split (g := 33) (by decide) rfl (fun g4 => ?_) (fun g4 => ?_)
      · skip
        skip
        refine ow_out rfl rfl rfl (by decide) ?_
        refine ow_out rfl rfl rfl (by decide) ?_
        refine ow_out rfl rfl rfl (by decide) ?_
        refine ow_out rfl rfl rfl (by decide) ?_
        refine ow_out rfl rfl rfl (by decide) ?_
        refine ow_out rfl rfl rfl (by decide) ?_
        refine ow_val rfl rfl (by decide) (e_pick rfl) ?_
        refine ow_nil ?_
        refine then_normal ?_
        refine cw_cond_true rfl ?_
        refine cw_seq ?_
        refine cw_region ?_
        refine ow_val rfl rfl (by decide) (e_assign rfl) ?_
        refine ow_nil ?_
        refine then_normal ?_
        refine cw_ret ?_
        refine then_ret ?_
        refine inb_ret ?_
        refine then_ret ?_
        refine then_ret ?_
        refine inb_ret ?_
        refine then_ret ?_
        refine ends1 (v := .bool false) (.inl rfl) Try.results64 rfl ?_
        exact ⟨congrArg (fun b => Ending.returned (.bool b)) (specOk_of hlt hmd (by first | (simp only [specModBad, c1, c3, g4]; done) | (simp only [specModBad, c1, c3, g4]; rfl) | (simp [specModBad, c1, c3, g4]; done))), s2.toBelow 0 rfl⟩
      · skip
        have hn8 : 1 ≤ md.f0 ∧ md.f0 ≤ 8 := by simpa [inR] using g4
        refine ow_in rfl rfl ?_
        refine ow_val rfl rfl (by decide) (e_move rfl) ?_
        refine ow_in rfl rfl ?_
        refine ow_val rfl rfl (by decide) (e_nilCheck rfl) ?_
        refine ow_in rfl rfl ?_
        refine ow_val rfl rfl (by decide) (e_fieldA rfl field201_1 rfl) ?_
        refine ow_in rfl rfl ?_
        refine ow_val rfl rfl (by decide) (e_load rfl flat199 (s2.oldCell 0 rfl hx1)) ?_
        refine ow_in rfl rfl ?_
        refine ow_val rfl rfl (by decide) (e_len_slice rfl Try.underlying199) ?_
        refine ow_in rfl rfl ?_
        refine ow_val rfl rfl (by decide) (e_gtr rfl rfl) ?_
        refine ow_val rfl rfl (by decide) (e_pick rfl) ?_
        refine ow_nil ?_
        refine then_normal ?_
        refine cw_cond rfl (fun c6 => ?_) (fun c6 => ?_)
        · skip
          skip
          refine cw_seq ?_
          refine cw_region ?_
          refine ow_val rfl rfl (by decide) (e_assign rfl) ?_
          refine ow_nil ?_
          refine then_normal ?_
          refine cw_ret ?_
          refine then_ret ?_
          refine inb_ret ?_
          refine then_ret ?_
          refine then_ret ?_
          refine inb_ret ?_
          refine then_ret ?_
          refine ends1 (v := .bool false) (.inl rfl) Try.results64 rfl ?_
          exact ⟨congrArg (fun b => Ending.returned (.bool b)) (specOk_of hlt hmd (by first | (simp only [specModBad, c1, c3, g4, c6]; done) | (simp only [specModBad, c1, c3, g4, c6]; rfl) | (simp [specModBad, c1, c3, g4, c6]; done))), s2.toBelow 0 rfl⟩
        · skip
          skip
          refine cw_skip ?_
          refine then_normal ?_
          refine cw_seq ?_
          refine cw_region ?_
          refine ow_val rfl rfl (by decide) (e_assign rfl) ?_
          refine ow_nil ?_
          refine then_normal ?_
          refine cw_block ?_
          refine cw_loop (fun μ_ f_ w_ => ∃ i : Nat, μ_ = md.f1.length - i ∧ f_ 0 = .pointer (some pa) ∧ f_ 3 = .int .i64 (ms.length : Int) ∧ f_ 4 = .int .i64 (k : Int) ∧ f_ 5 = .pointer (some (ad.add ((k : Int).toNat * 2))) ∧ f_ 6 = .int .i64 (i : Int) ∧ (i ≤ md.f1.length) ∧ ((md.f1.take i).any (specLinkBad (ms.length : Int) md.f0) = false) ∧ Sat w w_ [Old w]) md.f1.length ⟨0, rfl, e2_0, e2_3, e2_4, rfl, rfl, Nat.zero_le _, by simp, s2⟩ ?_
          intro k_ f_ w_ h_
          obtain ⟨i, rfl, e7_0, e7_3, e7_4, e7_5, e7_6, hi, hg, s7⟩ := h_
          skip
          refine cw_seq ?_
          refine cw_seq ?_
          refine cw_region ?_
          refine ow_val rfl rfl (by decide) (e_move e7_6) ?_
          refine ow_val rfl rfl (by decide) (e_move e7_5) ?_
          refine ow_val rfl rfl (by decide) (e_nilCheck rfl) ?_
          refine ow_val rfl rfl (by decide) (e_fieldA rfl field201_1 rfl) ?_
          refine ow_val rfl rfl (by decide) (e_load rfl flat199 (s7.oldCell 0 rfl hx1)) ?_
          refine ow_val rfl rfl (by decide) (e_len_slice rfl Try.underlying199) ?_
          refine ow_val rfl rfl (by decide) (e_lss rfl rfl) ?_
          refine ow_nil ?_
          refine then_normal ?_
          refine cw_cond rfl (fun c8 => ?_) (fun c8 => ?_)
          · skip
            have hlti : i < md.f1.length := by have := of_decide_eq_true c8; omega
            refine cw_skip ?_
            refine then_normal ?_
            refine cw_seq ?_
            refine cw_block ?_
            refine cw_seq ?_
            refine cw_region ?_
            refine ow_val rfl rfl (by decide) (e_move e7_5) ?_
            refine ow_val rfl rfl (by decide) (e_nilCheck rfl) ?_
            refine ow_val rfl rfl (by decide) (e_fieldA rfl field201_1 rfl) ?_
            refine ow_val rfl rfl (by decide) (e_load rfl flat199 (s7.oldCell 0 rfl hx1)) ?_
            refine ow_val rfl rfl (by decide) (e_move e7_6) ?_
            obtain ⟨ad2, eA1, hy0, hy1, hy2, hy3⟩ := at_T204 hC1 (i : Int) (by omega) (by omega)
            obtain ⟨ld, hld⟩ : ∃ ld, ld = rd_T204 md.f1 (i : Int) := ⟨_, rfl⟩
            rw [← hld] at hy0 hy1 hy2 hy3
            subst eA1
            refine o_idxR rfl rfl slt199 (by omega) (by omega) (by decide) ?_
            refine ow_val rfl rfl (by decide) (e_assign rfl) ?_
            refine ow_nil ?_
            refine then_normal ?_
            refine cw_seq ?_
            refine cw_seq ?_
            refine al_begin #[false, false, false, false, false, false, false, false, false, false, false, false, false, false, false, false, false, false, false, false, false, false, false, false] [] s7 hmix rfl rfl (fun w9 s9 => ?_)
            refine al_take 0 #[true, false, false, false, false, false, false, false, false, false, false, false, false, false, false, false, false, false, false, false, false, false, false, false] rfl rfl (by decide) (by kernel_rfl) (fun _ _ _ h => h) (ya rfl (fun w_ s_ => e_move rfl)) s9 ?_
            refine al_take 1 #[true, true, false, false, false, false, false, false, false, false, false, false, false, false, false, false, false, false, false, false, false, false, false, false] rfl rfl (by decide) (by kernel_rfl) (fun _ _ _ h => h) (ya rfl (fun w_ s_ => e_nilCheck rfl)) s9 ?_
            refine al_take 2 #[true, true, true, false, false, false, false, false, false, false, false, false, false, false, false, false, false, false, false, false, false, false, false, false] rfl rfl (by decide) (by kernel_rfl) (fun _ _ _ h => h) (ya rfl (fun w_ s_ => e_fieldA rfl field204_0 rfl)) s9 ?_
            refine al_take 3 #[true, true, true, true, false, false, false, false, false, false, false, false, false, false, false, false, false, false, false, false, false, false, false, false] rfl rfl (by decide) (by kernel_rfl) (fun _ _ _ h => h) (ya rfl (fun w_ s_ => e_load rfl flat2 (s_.oldCell 0 rfl hy0))) s9 ?_
            refine al_take 4 #[true, true, true, true, true, false, false, false, false, false, false, false, false, false, false, false, false, false, false, false, false, false, false, false] rfl rfl (by decide) (by kernel_rfl) (fun _ _ _ h => h) (ya rfl (fun w_ s_ => e_move e7_5)) s9 ?_
            refine al_take 5 #[true, true, true, true, true, true, false, false, false, false, false, false, false, false, false, false, false, false, false, false, false, false, false, false] rfl rfl (by decide) (by kernel_rfl) (fun _ _ _ h => h) (ya rfl (fun w_ s_ => e_nilCheck rfl)) s9 ?_
            refine al_take 6 #[true, true, true, true, true, true, true, false, false, false, false, false, false, false, false, false, false, false, false, false, false, false, false, false] rfl rfl (by decide) (by kernel_rfl) (fun _ _ _ h => h) (ya rfl (fun w_ s_ => e_fieldA rfl field201_0 rfl)) s9 ?_
            refine al_take 7 #[true, true, true, true, true, true, true, true, false, false, false, false, false, false, false, false, false, false, false, false, false, false, false, false] rfl rfl (by decide) (by kernel_rfl) (fun _ _ _ h => h) (ya rfl (fun w_ s_ => e_load rfl flat2 (s_.oldCell 0 rfl hx0))) s9 ?_
            refine al_take 8 #[true, true, true, true, true, true, true, true, true, false, false, false, false, false, false, false, false, false, false, false, false, false, false, false] rfl rfl (by decide) (by kernel_rfl) (fun _ _ _ h => h) (ya rfl (fun w_ s_ => e_subI rfl rfl (by omega) (by omega))) s9 ?_
            refine al_one 9 #[true, true, true, true, true, true, true, true, true, true, false, false, false, false, false, false, false, false, false, false, false, false, false, false] (by kernel_rfl) rfl ?_
            refine o_call enter65 rfl (by decide) ?_
            refine (l00In_calls _ _ _ _).mono ?_
            rintro e_ w_1 ⟨rfl, rfl⟩
            refine ⟨_, rfl, ?_⟩
            refine stepL_nil (fun _ => s9) ?_
            refine al_take 10 #[true, true, true, true, true, true, true, true, true, true, true, false, false, false, false, false, false, false, false, false, false, false, false, false] rfl rfl (by decide) (by kernel_rfl) (fun _ _ _ h => h) (ya rfl (fun w_ s_ => e_not rfl)) s9 ?_
            refine al_take 11 #[true, true, true, true, true, true, true, true, true, true, true, true, false, false, false, false, false, false, false, false, false, false, false, false] rfl rfl (by decide) (by kernel_rfl) (fun _ _ _ h => h) (ya rfl (fun w_ s_ => e_move rfl)) s9 ?_
            refine al_split (g := 67) rfl (fun g10 => ?_) (fun g10 => ?_)
            · skip
              skip
              refine al_take 12 #[true, true, true, true, true, true, true, true, true, true, true, true, true, false, false, false, false, false, false, false, false, false, false, false] rfl rfl (by decide) (by kernel_rfl) (fun _ _ _ h => h) (ya_out rfl rfl rfl rfl) s9 ?_
              refine al_take 13 #[true, true, true, true, true, true, true, true, true, true, true, true, true, true, false, false, false, false, false, false, false, false, false, false] rfl rfl (by decide) (by kernel_rfl) (fun _ _ _ h => h) (ya_out rfl rfl rfl rfl) s9 ?_
              refine al_take 14 #[true, true, true, true, true, true, true, true, true, true, true, true, true, true, true, false, false, false, false, false, false, false, false, false] rfl rfl (by decide) (by kernel_rfl) (fun _ _ _ h => h) (ya_out rfl rfl rfl rfl) s9 ?_
              refine al_take 15 #[true, true, true, true, true, true, true, true, true, true, true, true, true, true, true, true, false, false, false, false, false, false, false, false] rfl rfl (by decide) (by kernel_rfl) (fun _ _ _ h => h) (ya_out rfl rfl rfl rfl) s9 ?_
              refine al_take 16 #[true, true, true, true, true, true, true, true, true, true, true, true, true, true, true, true, true, false, false, false, false, false, false, false] rfl rfl (by decide) (by kernel_rfl) (fun _ _ _ h => h) (ya_out rfl rfl rfl rfl) s9 ?_
              refine al_take 17 #[true, true, true, true, true, true, true, true, true, true, true, true, true, true, true, true, true, true, false, false, false, false, false, false] rfl rfl (by decide) (by kernel_rfl) (fun _ _ _ h => h) (ya_out rfl rfl rfl rfl) s9 ?_
              refine al_take 18 #[true, true, true, true, true, true, true, true, true, true, true, true, true, true, true, true, true, true, true, false, false, false, false, false] rfl rfl (by decide) (by kernel_rfl) (fun _ _ _ h => h) (ya_out rfl rfl rfl rfl) s9 ?_
              refine al_take 19 #[true, true, true, true, true, true, true, true, true, true, true, true, true, true, true, true, true, true, true, true, false, false, false, false] rfl rfl (by decide) (by kernel_rfl) (fun _ _ _ h => h) (ya_out rfl rfl rfl rfl) s9 ?_
              refine al_take 20 #[true, true, true, true, true, true, true, true, true, true, true, true, true, true, true, true, true, true, true, true, true, false, false, false] rfl rfl (by decide) (by kernel_rfl) (fun _ _ _ h => h) (ya_out rfl rfl rfl rfl) s9 ?_
              refine al_take 21 #[true, true, true, true, true, true, true, true, true, true, true, true, true, true, true, true, true, true, true, true, true, true, false, false] rfl rfl (by decide) (by kernel_rfl) (fun _ _ _ h => h) (ya_out rfl rfl rfl rfl) s9 ?_
              refine al_take 22 #[true, true, true, true, true, true, true, true, true, true, true, true, true, true, true, true, true, true, true, true, true, true, true, false] rfl rfl (by decide) (by kernel_rfl) (fun _ _ _ h => h) (ya_out rfl rfl rfl rfl) s9 ?_
              refine al_take 23 #[true, true, true, true, true, true, true, true, true, true, true, true, true, true, true, true, true, true, true, true, true, true, true, true] rfl rfl (by decide) (by kernel_rfl) (fun _ _ _ h => h) (ya rfl (fun w_ s_ => e_pick rfl)) s9 ?_
              refine al_done (by kernel_rfl) ?_
              refine then_normal ?_
              refine cw_cond_true rfl ?_
              refine cw_seq ?_
              refine cw_region ?_
              refine ow_val rfl rfl (by decide) (e_assign rfl) ?_
              refine ow_nil ?_
              refine then_normal ?_
              refine cw_ret ?_
              refine then_ret ?_
              refine inb_ret ?_
              refine then_ret ?_
              refine then_ret ?_
              refine inb_ret ?_
              refine inb_ret ?_
              refine then_ret ?_
              refine then_ret ?_
              refine inb_ret ?_
              refine then_ret ?_
              refine ends1 (v := .bool false) (.inl rfl) Try.results64 rfl ?_
              exact ⟨congrArg (fun b => Ending.returned (.bool b)) (specOk_of hlt hmd (by rw [specModBad, any_of_get (z := z204) (i := i) hlti (by show specLinkBad _ _ (rd_T204 md.f1 (i : Int)) = true; rw [← hld]; first | (simp only [specLinkBad, c1, c3, g4, c6, c8, g10]; done) | (simp only [specLinkBad, c1, c3, g4, c6, c8, g10]; rfl) | (simp [specLinkBad, c1, c3, g4, c6, c8, g10]; done))]; simp)), s9.toBelow 0 rfl⟩
            · skip
              skip
              refine al_take 12 #[true, true, true, true, true, true, true, true, true, true, true, true, true, false, false, false, false, false, false, false, false, false, false, false] rfl rfl (by decide) (by kernel_rfl) (fun _ _ _ h => h) (ya_in rfl rfl rfl (fun w_ s_ => e_move rfl)) s9 ?_
              refine al_take 13 #[true, true, true, true, true, true, true, true, true, true, true, true, true, true, false, false, false, false, false, false, false, false, false, false] rfl rfl (by decide) (by kernel_rfl) (fun _ _ _ h => h) (ya_in rfl rfl rfl (fun w_ s_ => e_nilCheck rfl)) s9 ?_
              refine al_take 14 #[true, true, true, true, true, true, true, true, true, true, true, true, true, true, true, false, false, false, false, false, false, false, false, false] rfl rfl (by decide) (by kernel_rfl) (fun _ _ _ h => h) (ya_in rfl rfl rfl (fun w_ s_ => e_fieldA rfl field204_1 rfl)) s9 ?_
              refine al_take 15 #[true, true, true, true, true, true, true, true, true, true, true, true, true, true, true, true, false, false, false, false, false, false, false, false] rfl rfl (by decide) (by kernel_rfl) (fun _ _ _ h => h) (ya_in rfl rfl rfl (fun w_ s_ => e_load rfl flat2 (s_.oldCell 0 rfl hy1))) s9 ?_
              refine al_take 16 #[true, true, true, true, true, true, true, true, true, true, true, true, true, true, true, true, true, false, false, false, false, false, false, false] rfl rfl (by decide) (by kernel_rfl) (fun _ _ _ h => h) (ya_in rfl rfl rfl (fun w_ s_ => e_move e7_5)) s9 ?_
              refine al_take 17 #[true, true, true, true, true, true, true, true, true, true, true, true, true, true, true, true, true, true, false, false, false, false, false, false] rfl rfl (by decide) (by kernel_rfl) (fun _ _ _ h => h) (ya_in rfl rfl rfl (fun w_ s_ => e_nilCheck rfl)) s9 ?_
              refine al_take 18 #[true, true, true, true, true, true, true, true, true, true, true, true, true, true, true, true, true, true, true, false, false, false, false, false] rfl rfl (by decide) (by kernel_rfl) (fun _ _ _ h => h) (ya_in rfl rfl rfl (fun w_ s_ => e_fieldA rfl field201_0 rfl)) s9 ?_
              refine al_take 19 #[true, true, true, true, true, true, true, true, true, true, true, true, true, true, true, true, true, true, true, true, false, false, false, false] rfl rfl (by decide) (by kernel_rfl) (fun _ _ _ h => h) (ya_in rfl rfl rfl (fun w_ s_ => e_load rfl flat2 (s_.oldCell 0 rfl hx0))) s9 ?_
              refine al_take 20 #[true, true, true, true, true, true, true, true, true, true, true, true, true, true, true, true, true, true, true, true, true, false, false, false] rfl rfl (by decide) (by kernel_rfl) (fun _ _ _ h => h) (ya_in rfl rfl rfl (fun w_ s_ => e_subI rfl rfl (by omega) (by omega))) s9 ?_
              refine al_one 21 #[true, true, true, true, true, true, true, true, true, true, true, true, true, true, true, true, true, true, true, true, true, true, false, false] (by kernel_rfl) rfl ?_
              refine ow_in rfl rfl ?_
              refine o_call enter65 rfl (by decide) ?_
              refine (l00In_calls _ _ _ _).mono ?_
              rintro e_ w_1 ⟨rfl, rfl⟩
              refine ⟨_, rfl, ?_⟩
              refine stepL_nil (fun _ => s9) ?_
              refine al_take 22 #[true, true, true, true, true, true, true, true, true, true, true, true, true, true, true, true, true, true, true, true, true, true, true, false] rfl rfl (by decide) (by kernel_rfl) (fun _ _ _ h => h) (ya_in rfl rfl rfl (fun w_ s_ => e_not rfl)) s9 ?_
              refine al_take 23 #[true, true, true, true, true, true, true, true, true, true, true, true, true, true, true, true, true, true, true, true, true, true, true, true] rfl rfl (by decide) (by kernel_rfl) (fun _ _ _ h => h) (ya rfl (fun w_ s_ => e_pick rfl)) s9 ?_
              refine al_done (by kernel_rfl) ?_
              refine then_normal ?_
              refine cw_cond rfl (fun c12 => ?_) (fun c12 => ?_)
              · skip
                skip
                refine cw_seq ?_
                refine cw_region ?_
                refine ow_val rfl rfl (by decide) (e_assign rfl) ?_
                refine ow_nil ?_
                refine then_normal ?_
                refine cw_ret ?_
                refine then_ret ?_
                refine inb_ret ?_
                refine then_ret ?_
                refine then_ret ?_
                refine inb_ret ?_
                refine inb_ret ?_
                refine then_ret ?_
                refine then_ret ?_
                refine inb_ret ?_
                refine then_ret ?_
                refine ends1 (v := .bool false) (.inl rfl) Try.results64 rfl ?_
                exact ⟨congrArg (fun b => Ending.returned (.bool b)) (specOk_of hlt hmd (by rw [specModBad, any_of_get (z := z204) (i := i) hlti (by show specLinkBad _ _ (rd_T204 md.f1 (i : Int)) = true; rw [← hld]; first | (simp only [specLinkBad, c1, c3, g4, c6, c8, g10, c12]; done) | (simp only [specLinkBad, c1, c3, g4, c6, c8, g10, c12]; rfl) | (simp [specLinkBad, c1, c3, g4, c6, c8, g10, c12]; done))]; simp)), s9.toBelow 0 rfl⟩
              · skip
                skip
                refine cw_skip ?_
                refine then_normal ?_
                refine cw_seq ?_
                refine cw_region ?_
                refine ow_val rfl rfl (by decide) (e_move rfl) ?_
                refine ow_val rfl rfl (by decide) (e_nilCheck rfl) ?_
                refine ow_val rfl rfl (by decide) (e_fieldA rfl field204_2 rfl) ?_
                refine ow_val rfl rfl (by decide) (e_load rfl flat9 (s9.oldCell 0 rfl hy2)) ?_
                refine ow_val rfl rfl (by decide) (e_sneq rfl rfl) ?_
                refine ow_val rfl rfl (by decide) (e_move rfl) ?_
                refine ow_split (g := 85) (by decide) rfl (fun g13 => ?_) (fun g13 => ?_)
                · skip
                  skip
                  refine ow_in rfl rfl ?_
                  refine ow_val rfl rfl (by decide) (e_move rfl) ?_
                  refine ow_in rfl rfl ?_
                  refine ow_val rfl rfl (by decide) (e_nilCheck rfl) ?_
                  refine ow_in rfl rfl ?_
                  refine ow_val rfl rfl (by decide) (e_fieldA rfl field204_2 rfl) ?_
                  refine ow_in rfl rfl ?_
                  refine ow_val rfl rfl (by decide) (e_load rfl flat9 (s9.oldCell 0 rfl hy2)) ?_
                  refine ow_in rfl rfl ?_
                  refine ow_val rfl rfl (by decide) (e_sneq rfl rfl) ?_
                  refine ow_val rfl rfl (by decide) (e_pick rfl) ?_
                  refine ow_val rfl rfl (by decide) (e_move rfl) ?_
                  refine ow_split (g := 92) (by decide) rfl (fun g14 => ?_) (fun g14 => ?_)
                  · skip
                    skip
                    refine ow_in rfl rfl ?_
                    refine ow_val rfl rfl (by decide) (e_move rfl) ?_
                    refine ow_in rfl rfl ?_
                    refine ow_val rfl rfl (by decide) (e_nilCheck rfl) ?_
                    refine ow_in rfl rfl ?_
                    refine ow_val rfl rfl (by decide) (e_fieldA rfl field204_2 rfl) ?_
                    refine ow_in rfl rfl ?_
                    refine ow_val rfl rfl (by decide) (e_load rfl flat9 (s9.oldCell 0 rfl hy2)) ?_
                    refine ow_in rfl rfl ?_
                    refine o_call enter148 rfl (by decide) ?_
                    refine (l06Brackets_calls _ _).mono ?_
                    rintro e_ w_1 ⟨rfl, rfl⟩
                    refine ⟨_, rfl, ?_⟩
                    refine ow_in rfl rfl ?_
                    refine ow_val rfl rfl (by decide) (e_not rfl) ?_
                    refine ow_val rfl rfl (by decide) (e_pick rfl) ?_
                    refine ow_val rfl rfl (by decide) (e_move rfl) ?_
                    refine ow_split (g := 100) (by decide) rfl (fun g15 => ?_) (fun g15 => ?_)
                    · skip
                      skip
                      refine ow_out rfl rfl rfl (by decide) ?_
                      refine ow_out rfl rfl rfl (by decide) ?_
                      refine ow_out rfl rfl rfl (by decide) ?_
                      refine ow_out rfl rfl rfl (by decide) ?_
                      refine ow_out rfl rfl rfl (by decide) ?_
                      refine ow_out rfl rfl rfl (by decide) ?_
                      refine ow_out rfl rfl rfl (by decide) ?_
                      refine ow_out rfl rfl rfl (by decide) ?_
                      refine ow_val rfl rfl (by decide) (e_pick rfl) ?_
                      refine ow_val rfl rfl (by decide) (e_move rfl) ?_
                      refine ow_out rfl rfl rfl (by decide) ?_
                      refine ow_out rfl rfl rfl (by decide) ?_
                      refine ow_out rfl rfl rfl (by decide) ?_
                      refine ow_outU rfl rfl (by decide) ?_
                      refine ow_outU rfl rfl (by decide) ?_
                      refine ow_outU rfl rfl (by decide) ?_
                      refine ow_outU rfl rfl (by decide) ?_
                      refine ow_outU rfl rfl (by decide) ?_
                      refine ow_out rfl rfl rfl (by decide) ?_
                      refine ow_val rfl rfl (by decide) (e_pick rfl) ?_
                      refine ow_nil ?_
                      refine then_normal ?_
                      refine cw_cond_true rfl ?_
                      refine cw_seq ?_
                      refine cw_region ?_
                      refine ow_val rfl rfl (by decide) (e_assign rfl) ?_
                      refine ow_nil ?_
                      refine then_normal ?_
                      refine cw_ret ?_
                      refine inb_ret ?_
                      refine then_ret ?_
                      refine then_ret ?_
                      refine inb_ret ?_
                      refine inb_ret ?_
                      refine then_ret ?_
                      refine then_ret ?_
                      refine inb_ret ?_
                      refine then_ret ?_
                      refine ends1 (v := .bool false) (.inl rfl) Try.results64 rfl ?_
                      exact ⟨congrArg (fun b => Ending.returned (.bool b)) (specOk_of hlt hmd (by rw [specModBad, any_of_get (z := z204) (i := i) hlti (by show specLinkBad _ _ (rd_T204 md.f1 (i : Int)) = true; rw [← hld]; first | (simp only [specLinkBad, c1, c3, g4, c6, c8, g10, c12, g13, g14, g15]; done) | (simp only [specLinkBad, c1, c3, g4, c6, c8, g10, c12, g13, g14, g15]; rfl) | (simp [specLinkBad, c1, c3, g4, c6, c8, g10, c12, g13, g14, g15]; done))]; simp)), s9.toBelow 0 rfl⟩
                    · skip
                      skip
                      refine ow_in rfl rfl ?_
                      refine ow_val rfl rfl (by decide) (e_move rfl) ?_
                      refine ow_in rfl rfl ?_
                      refine ow_val rfl rfl (by decide) (e_nilCheck rfl) ?_
                      refine ow_in rfl rfl ?_
                      refine ow_val rfl rfl (by decide) (e_fieldA rfl field204_3 rfl) ?_
                      refine ow_in rfl rfl ?_
                      refine ow_val rfl rfl (by decide) (e_load rfl flat2 (s9.oldCell 0 rfl hy3)) ?_
                      refine ow_in rfl rfl ?_
                      refine ow_val rfl rfl (by decide) (e_move e7_3) ?_
                      refine ow_in rfl rfl ?_
                      refine o_subI rfl rfl (by omega) (by omega) (by decide) ?_
                      refine ow_in rfl rfl ?_
                      refine o_call enter65 rfl (by decide) ?_
                      refine (l00In_calls _ _ _ _).mono ?_
                      rintro e_ w_1 ⟨rfl, rfl⟩
                      refine ⟨_, rfl, ?_⟩
                      refine ow_in rfl rfl ?_
                      refine ow_val rfl rfl (by decide) (e_not rfl) ?_
                      refine ow_val rfl rfl (by decide) (e_pick rfl) ?_
                      refine ow_val rfl rfl (by decide) (e_move rfl) ?_
                      refine ow_split (g := 110) (by decide) rfl (fun g17 => ?_) (fun g17 => ?_)
                      · skip
                        skip
                        refine ow_out rfl rfl rfl (by decide) ?_
                        refine ow_out rfl rfl rfl (by decide) ?_
                        refine ow_out rfl rfl rfl (by decide) ?_
                        refine ow_outU rfl rfl (by decide) ?_
                        refine ow_outU rfl rfl (by decide) ?_
                        refine ow_outU rfl rfl (by decide) ?_
                        refine ow_outU rfl rfl (by decide) ?_
                        refine ow_outU rfl rfl (by decide) ?_
                        refine ow_out rfl rfl rfl (by decide) ?_
                        refine ow_val rfl rfl (by decide) (e_pick rfl) ?_
                        refine ow_nil ?_
                        refine then_normal ?_
                        refine cw_cond_true rfl ?_
                        refine cw_seq ?_
                        refine cw_region ?_
                        refine ow_val rfl rfl (by decide) (e_assign rfl) ?_
                        refine ow_nil ?_
                        refine then_normal ?_
                        refine cw_ret ?_
                        refine inb_ret ?_
                        refine then_ret ?_
                        refine then_ret ?_
                        refine inb_ret ?_
                        refine inb_ret ?_
                        refine then_ret ?_
                        refine then_ret ?_
                        refine inb_ret ?_
                        refine then_ret ?_
                        refine ends1 (v := .bool false) (.inl rfl) Try.results64 rfl ?_
                        exact ⟨congrArg (fun b => Ending.returned (.bool b)) (specOk_of hlt hmd (by rw [specModBad, any_of_get (z := z204) (i := i) hlti (by show specLinkBad _ _ (rd_T204 md.f1 (i : Int)) = true; rw [← hld]; first | (simp only [specLinkBad, c1, c3, g4, c6, c8, g10, c12, g13, g14, g15, g17]; done) | (simp only [specLinkBad, c1, c3, g4, c6, c8, g10, c12, g13, g14, g15, g17]; rfl) | (simp [specLinkBad, c1, c3, g4, c6, c8, g10, c12, g13, g14, g15, g17]; done))]; simp)), s9.toBelow 0 rfl⟩
                      · skip
                        skip
                        refine ow_in rfl rfl ?_
                        refine ow_val rfl rfl (by decide) (e_move rfl) ?_
                        refine ow_in rfl rfl ?_
                        refine o_call enter149 rfl (by decide) ?_
                        refine (l07Inner_calls _ ld.f2 _ (s9.oldCell 0 rfl hy2)).mono ?_
                        rintro e_ w_1 ⟨rfl, rfl⟩
                        refine ⟨_, rfl, ?_⟩
                        refine ow_in rfl rfl ?_
                        refine ow_val rfl rfl (by decide) (e_move rfl) ?_
                        refine ow_split (g := 113) (by decide) rfl (fun g19 => ?_) (fun g19 => ?_)
                        · skip
                          skip
                          refine ow_in rfl rfl ?_
                          refine ow_val rfl rfl (by decide) (e_move rfl) ?_
                          refine ow_in rfl rfl ?_
                          refine ow_val rfl rfl (by decide) (e_nilCheck rfl) ?_
                          refine ow_in rfl rfl ?_
                          refine ow_val rfl rfl (by decide) (e_fieldA rfl field204_3 rfl) ?_
                          refine ow_in rfl rfl ?_
                          refine ow_val rfl rfl (by decide) (e_load rfl flat2 (s9.oldCell 0 rfl hy3)) ?_
                          refine ow_in rfl rfl ?_
                          refine ow_val rfl rfl (by decide) (e_neq rfl rfl) ?_
                          refine ow_in rfl rfl ?_
                          refine ow_val rfl rfl (by decide) (e_pick rfl) ?_
                          refine ow_val rfl rfl (by decide) (e_pick rfl) ?_
                          refine ow_nil ?_
                          refine then_normal ?_
                          refine cw_cond rfl (fun c20 => ?_) (fun c20 => ?_)
                          · skip
                            skip
                            refine cw_seq ?_
                            refine cw_region ?_
                            refine ow_val rfl rfl (by decide) (e_assign rfl) ?_
                            refine ow_nil ?_
                            refine then_normal ?_
                            refine cw_ret ?_
                            refine inb_ret ?_
                            refine then_ret ?_
                            refine then_ret ?_
                            refine inb_ret ?_
                            refine inb_ret ?_
                            refine then_ret ?_
                            refine then_ret ?_
                            refine inb_ret ?_
                            refine then_ret ?_
                            refine ends1 (v := .bool false) (.inl rfl) Try.results64 rfl ?_
                            exact ⟨congrArg (fun b => Ending.returned (.bool b)) (specOk_of hlt hmd (by rw [specModBad, any_of_get (z := z204) (i := i) hlti (by show specLinkBad _ _ (rd_T204 md.f1 (i : Int)) = true; rw [← hld]; first | (simp only [specLinkBad, c1, c3, g4, c6, c8, g10, c12, g13, g14, g15, g17, g19, c20]; done) | (simp only [specLinkBad, c1, c3, g4, c6, c8, g10, c12, g13, g14, g15, g17, g19, c20]; rfl) | (simp [specLinkBad, c1, c3, g4, c6, c8, g10, c12, g13, g14, g15, g17, g19, c20]; done))]; simp)), s9.toBelow 0 rfl⟩
                          · skip
                            skip
                            refine cw_skip ?_
                            refine inb_normal ?_
                            refine then_normal ?_
                            refine cw_region ?_
                            refine ow_val rfl rfl (by decide) (e_move e7_6) ?_
                            refine o_addI rfl rfl (by omega) (by omega) (by decide) ?_
                            refine ow_val rfl rfl (by decide) (e_assign rfl) ?_
                            refine ow_nil ?_
                            refine then_normal ?_
                            exact ⟨_, by omega, i + 1, rfl, e7_0, e7_3, e7_4, e7_5, rfl, by omega, by rw [take_any_succ (z := z204) hlti, hg]; show (false || specLinkBad _ _ (rd_T204 md.f1 (i : Int))) = false; rw [← hld]; first | (simp only [specLinkBad, c1, c3, g4, c6, c8, g10, c12, g13, g14, g15, g17, g19, c20]; rfl) | (simp [specLinkBad, c1, c3, g4, c6, c8, g10, c12, g13, g14, g15, g17, g19, c20]; done), s9⟩
                        · skip
                          skip
                          refine ow_out rfl rfl rfl (by decide) ?_
                          refine ow_out rfl rfl rfl (by decide) ?_
                          refine ow_out rfl rfl rfl (by decide) ?_
                          refine ow_out rfl rfl rfl (by decide) ?_
                          refine ow_out rfl rfl rfl (by decide) ?_
                          refine ow_in rfl rfl ?_
                          refine ow_val rfl rfl (by decide) (e_pick rfl) ?_
                          refine ow_val rfl rfl (by decide) (e_pick rfl) ?_
                          refine ow_nil ?_
                          refine then_normal ?_
                          refine cw_cond_false rfl ?_
                          refine cw_skip ?_
                          refine inb_normal ?_
                          refine then_normal ?_
                          refine cw_region ?_
                          refine ow_val rfl rfl (by decide) (e_move e7_6) ?_
                          refine o_addI rfl rfl (by omega) (by omega) (by decide) ?_
                          refine ow_val rfl rfl (by decide) (e_assign rfl) ?_
                          refine ow_nil ?_
                          refine then_normal ?_
                          exact ⟨_, by omega, i + 1, rfl, e7_0, e7_3, e7_4, e7_5, rfl, by omega, by rw [take_any_succ (z := z204) hlti, hg]; show (false || specLinkBad _ _ (rd_T204 md.f1 (i : Int))) = false; rw [← hld]; first | (simp only [specLinkBad, c1, c3, g4, c6, c8, g10, c12, g13, g14, g15, g17, g19]; rfl) | (simp [specLinkBad, c1, c3, g4, c6, c8, g10, c12, g13, g14, g15, g17, g19]; done), s9⟩
                  · skip
                    skip
                    refine ow_out rfl rfl rfl (by decide) ?_
                    refine ow_out rfl rfl rfl (by decide) ?_
                    refine ow_out rfl rfl rfl (by decide) ?_
                    refine ow_out rfl rfl rfl (by decide) ?_
                    refine ow_out rfl rfl rfl (by decide) ?_
                    refine ow_out rfl rfl rfl (by decide) ?_
                    refine ow_val rfl rfl (by decide) (e_pick rfl) ?_
                    refine ow_val rfl rfl (by decide) (e_move rfl) ?_
                    refine ow_in rfl rfl ?_
                    refine ow_val rfl rfl (by decide) (e_move rfl) ?_
                    refine ow_in rfl rfl ?_
                    refine ow_val rfl rfl (by decide) (e_nilCheck rfl) ?_
                    refine ow_in rfl rfl ?_
                    refine ow_val rfl rfl (by decide) (e_fieldA rfl field204_3 rfl) ?_
                    refine ow_in rfl rfl ?_
                    refine ow_val rfl rfl (by decide) (e_load rfl flat2 (s9.oldCell 0 rfl hy3)) ?_
                    refine ow_in rfl rfl ?_
                    refine ow_val rfl rfl (by decide) (e_move e7_3) ?_
                    refine ow_in rfl rfl ?_
                    refine o_subI rfl rfl (by omega) (by omega) (by decide) ?_
                    refine ow_in rfl rfl ?_
                    refine o_call enter65 rfl (by decide) ?_
                    refine (l00In_calls _ _ _ _).mono ?_
                    rintro e_ w_1 ⟨rfl, rfl⟩
                    refine ⟨_, rfl, ?_⟩
                    refine ow_in rfl rfl ?_
                    refine ow_val rfl rfl (by decide) (e_not rfl) ?_
                    refine ow_val rfl rfl (by decide) (e_pick rfl) ?_
                    refine ow_val rfl rfl (by decide) (e_move rfl) ?_
                    refine ow_split (g := 110) (by decide) rfl (fun g22 => ?_) (fun g22 => ?_)
                    · skip
                      skip
                      refine ow_out rfl rfl rfl (by decide) ?_
                      refine ow_out rfl rfl rfl (by decide) ?_
                      refine ow_out rfl rfl rfl (by decide) ?_
                      refine ow_outU rfl rfl (by decide) ?_
                      refine ow_outU rfl rfl (by decide) ?_
                      refine ow_outU rfl rfl (by decide) ?_
                      refine ow_outU rfl rfl (by decide) ?_
                      refine ow_outU rfl rfl (by decide) ?_
                      refine ow_out rfl rfl rfl (by decide) ?_
                      refine ow_val rfl rfl (by decide) (e_pick rfl) ?_
                      refine ow_nil ?_
                      refine then_normal ?_
                      refine cw_cond_true rfl ?_
                      refine cw_seq ?_
                      refine cw_region ?_
                      refine ow_val rfl rfl (by decide) (e_assign rfl) ?_
                      refine ow_nil ?_
                      refine then_normal ?_
                      refine cw_ret ?_
                      refine inb_ret ?_
                      refine then_ret ?_
                      refine then_ret ?_
                      refine inb_ret ?_
                      refine inb_ret ?_
                      refine then_ret ?_
                      refine then_ret ?_
                      refine inb_ret ?_
                      refine then_ret ?_
                      refine ends1 (v := .bool false) (.inl rfl) Try.results64 rfl ?_
                      exact ⟨congrArg (fun b => Ending.returned (.bool b)) (specOk_of hlt hmd (by rw [specModBad, any_of_get (z := z204) (i := i) hlti (by show specLinkBad _ _ (rd_T204 md.f1 (i : Int)) = true; rw [← hld]; first | (simp only [specLinkBad, c1, c3, g4, c6, c8, g10, c12, g13, g14, g22]; done) | (simp only [specLinkBad, c1, c3, g4, c6, c8, g10, c12, g13, g14, g22]; rfl) | (simp [specLinkBad, c1, c3, g4, c6, c8, g10, c12, g13, g14, g22]; done))]; simp)), s9.toBelow 0 rfl⟩
                    · skip
                      skip
                      refine ow_in rfl rfl ?_
                      refine ow_val rfl rfl (by decide) (e_move rfl) ?_
                      refine ow_in rfl rfl ?_
                      refine o_call enter149 rfl (by decide) ?_
                      refine (l07Inner_calls _ ld.f2 _ (s9.oldCell 0 rfl hy2)).mono ?_
                      rintro e_ w_1 ⟨rfl, rfl⟩
                      refine ⟨_, rfl, ?_⟩
                      refine ow_in rfl rfl ?_
                      refine ow_val rfl rfl (by decide) (e_move rfl) ?_
                      refine ow_split (g := 113) (by decide) rfl (fun g24 => ?_) (fun g24 => ?_)
                      · skip
                        skip
                        refine ow_in rfl rfl ?_
                        refine ow_val rfl rfl (by decide) (e_move rfl) ?_
                        refine ow_in rfl rfl ?_
                        refine ow_val rfl rfl (by decide) (e_nilCheck rfl) ?_
                        refine ow_in rfl rfl ?_
                        refine ow_val rfl rfl (by decide) (e_fieldA rfl field204_3 rfl) ?_
                        refine ow_in rfl rfl ?_
                        refine ow_val rfl rfl (by decide) (e_load rfl flat2 (s9.oldCell 0 rfl hy3)) ?_
                        refine ow_in rfl rfl ?_
                        refine ow_val rfl rfl (by decide) (e_neq rfl rfl) ?_
                        refine ow_in rfl rfl ?_
                        refine ow_val rfl rfl (by decide) (e_pick rfl) ?_
                        refine ow_val rfl rfl (by decide) (e_pick rfl) ?_
                        refine ow_nil ?_
                        refine then_normal ?_
                        refine cw_cond rfl (fun c25 => ?_) (fun c25 => ?_)
                        · skip
                          skip
                          refine cw_seq ?_
                          refine cw_region ?_
                          refine ow_val rfl rfl (by decide) (e_assign rfl) ?_
                          refine ow_nil ?_
                          refine then_normal ?_
                          refine cw_ret ?_
                          refine inb_ret ?_
                          refine then_ret ?_
                          refine then_ret ?_
                          refine inb_ret ?_
                          refine inb_ret ?_
                          refine then_ret ?_
                          refine then_ret ?_
                          refine inb_ret ?_
                          refine then_ret ?_
                          refine ends1 (v := .bool false) (.inl rfl) Try.results64 rfl ?_
                          exact ⟨congrArg (fun b => Ending.returned (.bool b)) (specOk_of hlt hmd (by rw [specModBad, any_of_get (z := z204) (i := i) hlti (by show specLinkBad _ _ (rd_T204 md.f1 (i : Int)) = true; rw [← hld]; first | (simp only [specLinkBad, c1, c3, g4, c6, c8, g10, c12, g13, g14, g22, g24, c25]; done) | (simp only [specLinkBad, c1, c3, g4, c6, c8, g10, c12, g13, g14, g22, g24, c25]; rfl) | (simp [specLinkBad, c1, c3, g4, c6, c8, g10, c12, g13, g14, g22, g24, c25]; done))]; simp)), s9.toBelow 0 rfl⟩
                        · skip
                          skip
                          refine cw_skip ?_
                          refine inb_normal ?_
                          refine then_normal ?_
                          refine cw_region ?_
                          refine ow_val rfl rfl (by decide) (e_move e7_6) ?_
                          refine o_addI rfl rfl (by omega) (by omega) (by decide) ?_
                          refine ow_val rfl rfl (by decide) (e_assign rfl) ?_
                          refine ow_nil ?_
                          refine then_normal ?_
                          exact ⟨_, by omega, i + 1, rfl, e7_0, e7_3, e7_4, e7_5, rfl, by omega, by rw [take_any_succ (z := z204) hlti, hg]; show (false || specLinkBad _ _ (rd_T204 md.f1 (i : Int))) = false; rw [← hld]; first | (simp only [specLinkBad, c1, c3, g4, c6, c8, g10, c12, g13, g14, g22, g24, c25]; rfl) | (simp [specLinkBad, c1, c3, g4, c6, c8, g10, c12, g13, g14, g22, g24, c25]; done), s9⟩
                      · skip
                        skip
                        refine ow_out rfl rfl rfl (by decide) ?_
                        refine ow_out rfl rfl rfl (by decide) ?_
                        refine ow_out rfl rfl rfl (by decide) ?_
                        refine ow_out rfl rfl rfl (by decide) ?_
                        refine ow_out rfl rfl rfl (by decide) ?_
                        refine ow_in rfl rfl ?_
                        refine ow_val rfl rfl (by decide) (e_pick rfl) ?_
                        refine ow_val rfl rfl (by decide) (e_pick rfl) ?_
                        refine ow_nil ?_
                        refine then_normal ?_
                        refine cw_cond_false rfl ?_
                        refine cw_skip ?_
                        refine inb_normal ?_
                        refine then_normal ?_
                        refine cw_region ?_
                        refine ow_val rfl rfl (by decide) (e_move e7_6) ?_
                        refine o_addI rfl rfl (by omega) (by omega) (by decide) ?_
                        refine ow_val rfl rfl (by decide) (e_assign rfl) ?_
                        refine ow_nil ?_
                        refine then_normal ?_
                        exact ⟨_, by omega, i + 1, rfl, e7_0, e7_3, e7_4, e7_5, rfl, by omega, by rw [take_any_succ (z := z204) hlti, hg]; show (false || specLinkBad _ _ (rd_T204 md.f1 (i : Int))) = false; rw [← hld]; first | (simp only [specLinkBad, c1, c3, g4, c6, c8, g10, c12, g13, g14, g22, g24]; rfl) | (simp [specLinkBad, c1, c3, g4, c6, c8, g10, c12, g13, g14, g22, g24]; done), s9⟩
                · skip
                  skip
                  refine ow_out rfl rfl rfl (by decide) ?_
                  refine ow_out rfl rfl rfl (by decide) ?_
                  refine ow_out rfl rfl rfl (by decide) ?_
                  refine ow_out rfl rfl rfl (by decide) ?_
                  refine ow_out rfl rfl rfl (by decide) ?_
                  refine ow_val rfl rfl (by decide) (e_pick rfl) ?_
                  refine ow_val rfl rfl (by decide) (e_move rfl) ?_
                  refine ow_out rfl rfl rfl (by decide) ?_
                  refine ow_out rfl rfl rfl (by decide) ?_
                  refine ow_out rfl rfl rfl (by decide) ?_
                  refine ow_out rfl rfl rfl (by decide) ?_
                  refine ow_out rfl rfl rfl (by decide) ?_
                  refine ow_out rfl rfl rfl (by decide) ?_
                  refine ow_val rfl rfl (by decide) (e_pick rfl) ?_
                  refine ow_val rfl rfl (by decide) (e_move rfl) ?_
                  refine ow_in rfl rfl ?_
                  refine ow_val rfl rfl (by decide) (e_move rfl) ?_
                  refine ow_in rfl rfl ?_
                  refine ow_val rfl rfl (by decide) (e_nilCheck rfl) ?_
                  refine ow_in rfl rfl ?_
                  refine ow_val rfl rfl (by decide) (e_fieldA rfl field204_3 rfl) ?_
                  refine ow_in rfl rfl ?_
                  refine ow_val rfl rfl (by decide) (e_load rfl flat2 (s9.oldCell 0 rfl hy3)) ?_
                  refine ow_in rfl rfl ?_
                  refine ow_val rfl rfl (by decide) (e_move e7_3) ?_
                  refine ow_in rfl rfl ?_
                  refine o_subI rfl rfl (by omega) (by omega) (by decide) ?_
                  refine ow_in rfl rfl ?_
                  refine o_call enter65 rfl (by decide) ?_
                  refine (l00In_calls _ _ _ _).mono ?_
                  rintro e_ w_1 ⟨rfl, rfl⟩
                  refine ⟨_, rfl, ?_⟩
                  refine ow_in rfl rfl ?_
                  refine ow_val rfl rfl (by decide) (e_not rfl) ?_
                  refine ow_val rfl rfl (by decide) (e_pick rfl) ?_
                  refine ow_val rfl rfl (by decide) (e_move rfl) ?_
                  refine ow_split (g := 110) (by decide) rfl (fun g27 => ?_) (fun g27 => ?_)
                  · skip
                    skip
                    refine ow_out rfl rfl rfl (by decide) ?_
                    refine ow_out rfl rfl rfl (by decide) ?_
                    refine ow_out rfl rfl rfl (by decide) ?_
                    refine ow_outU rfl rfl (by decide) ?_
                    refine ow_outU rfl rfl (by decide) ?_
                    refine ow_outU rfl rfl (by decide) ?_
                    refine ow_outU rfl rfl (by decide) ?_
                    refine ow_outU rfl rfl (by decide) ?_
                    refine ow_out rfl rfl rfl (by decide) ?_
                    refine ow_val rfl rfl (by decide) (e_pick rfl) ?_
                    refine ow_nil ?_
                    refine then_normal ?_
                    refine cw_cond_true rfl ?_
                    refine cw_seq ?_
                    refine cw_region ?_
                    refine ow_val rfl rfl (by decide) (e_assign rfl) ?_
                    refine ow_nil ?_
                    refine then_normal ?_
                    refine cw_ret ?_
                    refine inb_ret ?_
                    refine then_ret ?_
                    refine then_ret ?_
                    refine inb_ret ?_
                    refine inb_ret ?_
                    refine then_ret ?_
                    refine then_ret ?_
                    refine inb_ret ?_
                    refine then_ret ?_
                    refine ends1 (v := .bool false) (.inl rfl) Try.results64 rfl ?_
                    exact ⟨congrArg (fun b => Ending.returned (.bool b)) (specOk_of hlt hmd (by rw [specModBad, any_of_get (z := z204) (i := i) hlti (by show specLinkBad _ _ (rd_T204 md.f1 (i : Int)) = true; rw [← hld]; first | (simp only [specLinkBad, c1, c3, g4, c6, c8, g10, c12, g13, g27]; done) | (simp only [specLinkBad, c1, c3, g4, c6, c8, g10, c12, g13, g27]; rfl) | (simp [specLinkBad, c1, c3, g4, c6, c8, g10, c12, g13, g27]; done))]; simp)), s9.toBelow 0 rfl⟩
                  · skip
                    skip
                    refine ow_in rfl rfl ?_
                    refine ow_val rfl rfl (by decide) (e_move rfl) ?_
                    refine ow_in rfl rfl ?_
                    refine o_call enter149 rfl (by decide) ?_
                    refine (l07Inner_calls _ ld.f2 _ (s9.oldCell 0 rfl hy2)).mono ?_
                    rintro e_ w_1 ⟨rfl, rfl⟩
                    refine ⟨_, rfl, ?_⟩
                    refine ow_in rfl rfl ?_
                    refine ow_val rfl rfl (by decide) (e_move rfl) ?_
                    refine ow_split (g := 113) (by decide) rfl (fun g29 => ?_) (fun g29 => ?_)
                    · skip
                      skip
                      refine ow_in rfl rfl ?_
                      refine ow_val rfl rfl (by decide) (e_move rfl) ?_
                      refine ow_in rfl rfl ?_
                      refine ow_val rfl rfl (by decide) (e_nilCheck rfl) ?_
                      refine ow_in rfl rfl ?_
                      refine ow_val rfl rfl (by decide) (e_fieldA rfl field204_3 rfl) ?_
                      refine ow_in rfl rfl ?_
                      refine ow_val rfl rfl (by decide) (e_load rfl flat2 (s9.oldCell 0 rfl hy3)) ?_
                      refine ow_in rfl rfl ?_
                      refine ow_val rfl rfl (by decide) (e_neq rfl rfl) ?_
                      refine ow_in rfl rfl ?_
                      refine ow_val rfl rfl (by decide) (e_pick rfl) ?_
                      refine ow_val rfl rfl (by decide) (e_pick rfl) ?_
                      refine ow_nil ?_
                      refine then_normal ?_
                      refine cw_cond rfl (fun c30 => ?_) (fun c30 => ?_)
                      · skip
                        skip
                        refine cw_seq ?_
                        refine cw_region ?_
                        refine ow_val rfl rfl (by decide) (e_assign rfl) ?_
                        refine ow_nil ?_
                        refine then_normal ?_
                        refine cw_ret ?_
                        refine inb_ret ?_
                        refine then_ret ?_
                        refine then_ret ?_
                        refine inb_ret ?_
                        refine inb_ret ?_
                        refine then_ret ?_
                        refine then_ret ?_
                        refine inb_ret ?_
                        refine then_ret ?_
                        refine ends1 (v := .bool false) (.inl rfl) Try.results64 rfl ?_
                        exact ⟨congrArg (fun b => Ending.returned (.bool b)) (specOk_of hlt hmd (by rw [specModBad, any_of_get (z := z204) (i := i) hlti (by show specLinkBad _ _ (rd_T204 md.f1 (i : Int)) = true; rw [← hld]; first | (simp only [specLinkBad, c1, c3, g4, c6, c8, g10, c12, g13, g27, g29, c30]; done) | (simp only [specLinkBad, c1, c3, g4, c6, c8, g10, c12, g13, g27, g29, c30]; rfl) | (simp [specLinkBad, c1, c3, g4, c6, c8, g10, c12, g13, g27, g29, c30]; done))]; simp)), s9.toBelow 0 rfl⟩
                      · skip
                        skip
                        refine cw_skip ?_
                        refine inb_normal ?_
                        refine then_normal ?_
                        refine cw_region ?_
                        refine ow_val rfl rfl (by decide) (e_move e7_6) ?_
                        refine o_addI rfl rfl (by omega) (by omega) (by decide) ?_
                        refine ow_val rfl rfl (by decide) (e_assign rfl) ?_
                        refine ow_nil ?_
                        refine then_normal ?_
                        exact ⟨_, by omega, i + 1, rfl, e7_0, e7_3, e7_4, e7_5, rfl, by omega, by rw [take_any_succ (z := z204) hlti, hg]; show (false || specLinkBad _ _ (rd_T204 md.f1 (i : Int))) = false; rw [← hld]; first | (simp only [specLinkBad, c1, c3, g4, c6, c8, g10, c12, g13, g27, g29, c30]; rfl) | (simp [specLinkBad, c1, c3, g4, c6, c8, g10, c12, g13, g27, g29, c30]; done), s9⟩
                    · skip
                      skip
                      refine ow_out rfl rfl rfl (by decide) ?_
                      refine ow_out rfl rfl rfl (by decide) ?_
                      refine ow_out rfl rfl rfl (by decide) ?_
                      refine ow_out rfl rfl rfl (by decide) ?_
                      refine ow_out rfl rfl rfl (by decide) ?_
                      refine ow_in rfl rfl ?_
                      refine ow_val rfl rfl (by decide) (e_pick rfl) ?_
                      refine ow_val rfl rfl (by decide) (e_pick rfl) ?_
                      refine ow_nil ?_
                      refine then_normal ?_
                      refine cw_cond_false rfl ?_
                      refine cw_skip ?_
                      refine inb_normal ?_
                      refine then_normal ?_
                      refine cw_region ?_
                      refine ow_val rfl rfl (by decide) (e_move e7_6) ?_
                      refine o_addI rfl rfl (by omega) (by omega) (by decide) ?_
                      refine ow_val rfl rfl (by decide) (e_assign rfl) ?_
                      refine ow_nil ?_
                      refine then_normal ?_
                      exact ⟨_, by omega, i + 1, rfl, e7_0, e7_3, e7_4, e7_5, rfl, by omega, by rw [take_any_succ (z := z204) hlti, hg]; show (false || specLinkBad _ _ (rd_T204 md.f1 (i : Int))) = false; rw [← hld]; first | (simp only [specLinkBad, c1, c3, g4, c6, c8, g10, c12, g13, g27, g29]; rfl) | (simp [specLinkBad, c1, c3, g4, c6, c8, g10, c12, g13, g27, g29]; done), s9⟩
          · skip
            have hgei : i = md.f1.length := by have := of_decide_eq_false c8; omega
            have hfi : md.f1.any (specLinkBad (ms.length : Int) md.f0) = false := by rw [hgei, List.take_length] at hg; exact hg
            refine cw_exit ?_
            refine then_exit ?_
            refine then_exit ?_
            refine inb_exit ?_
            refine inb_normal ?_
            refine then_normal ?_
            refine cw_region ?_
            refine ow_val rfl rfl (by decide) (e_move e7_4) ?_
            refine o_addI rfl rfl (by omega) (by omega) (by decide) ?_
            refine ow_val rfl rfl (by decide) (e_assign rfl) ?_
            refine ow_nil ?_
            refine then_normal ?_
            exact ⟨_, by omega, k + 1, rfl, e7_0, e7_3, rfl, by omega, by rw [take_any_succ (z := z201) hlt, hf]; show (false || specModBad _ (rd_T201 ms (k : Int))) = false; rw [← hmd]; simp only [specModBad, g4, c6, hfi]; rfl, s7⟩
    · skip
      have hge : k = ms.length := by have := of_decide_eq_false c3; omega
      refine cw_exit ?_
      refine then_exit ?_
      refine then_exit ?_
      refine inb_exit ?_
      refine then_normal ?_
      refine cw_seq ?_
      refine cw_region ?_
      refine ow_val rfl rfl (by decide) (e_assign rfl) ?_
      refine ow_nil ?_
      refine then_normal ?_
      refine cw_ret ?_
      refine ends1 (v := .bool true) (.inl rfl) Try.results64 rfl ?_
      exact ⟨congrArg (fun b => Ending.returned (.bool b)) (by rw [hge, List.take_length] at hf; have h15 : inR (ms.length : Int) 1 4 = true := (by simpa using c1); simp only [specOk, hf, h15]; rfl), s2.toBelow 0 rfl⟩
end Go.Proofs.Ytjkohjdiddhpcaa.My
