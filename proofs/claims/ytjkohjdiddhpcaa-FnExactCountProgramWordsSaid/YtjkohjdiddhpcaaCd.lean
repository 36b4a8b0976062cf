import Derived.Test.YtjkohjdiddhpcaaCa
import Derived.Test.YtjkohjdiddhpcaaX7
import Derived.Test.YtjkohjdiddhpcaaCc
import Derived.Test.YtjkohjdiddhpcaaSm
/- Walks of the given code, and plain lemmas, for the law FnExactCountProgramWords (part Cd). -/
set_option linter.unusedVariables false
set_option linter.unusedSimpArgs false
namespace Go.Proofs.Ytjkohjdiddhpcaa.My
open Go.Sl Go.RowKit Go.Proofs.YtjkohjdiddhpcaaW.PrintWords Go.Proofs.YtjkohjdiddhpcaaW.PrintLast Go.Proofs.YtjkohjdiddhpcaaW.PrintMore Go.Proofs.Ytjkohjdiddhpcaa.PFnExactCountProgramWords
theorem enter70 : enterB Try.prog 70 = true := by kernel_rfl
theorem enter73 : enterB Try.prog 73 = true := by kernel_rfl
theorem inR_iff {a lo hi : Int} : inR a lo hi = true ↔ lo ≤ a ∧ a ≤ hi := by simp [inR]
theorem rd201_mem {ms : List S201} {i : Int} (h0 : 0 ≤ i) (h1 : i < ms.length) : rd_T201 ms i ∈ ms := by
  unfold rd_T201
  rw [List.getD_eq_getElem?_getD, List.getElem?_eq_getElem (by omega)]
  exact List.getElem_mem _
theorem rd204_mem {ms : List S204} {i : Int} (h0 : 0 ≤ i) (h1 : i < ms.length) : rd_T204 ms i ∈ ms := by
  unfold rd_T204
  rw [List.getD_eq_getElem?_getD, List.getElem?_eq_getElem (by omega)]
  exact List.getElem_mem _
theorem progOk_len {ms : List S201} (h : progOk ms = true) : 1 ≤ ms.length ∧ ms.length ≤ 4 := by
  unfold progOk at h
  rw [Bool.and_eq_true] at h
  have := inR_iff.1 h.1
  omega
theorem wfm_of {ms : List S201} (h : progOk ms = true) : WFm ms := by
  have hl := progOk_len h
  unfold progOk at h
  rw [Bool.and_eq_true, Bool.not_eq_true'] at h
  have hm : ∀ x ∈ ms, moduleBad (ms.length : Int) x = false := fun x hx => by
    have := List.any_eq_false.1 h.2 x hx
    simpa using this
  have hmod : ∀ x ∈ ms, (1 ≤ x.f0 ∧ x.f0 ≤ 8) ∧ ∀ l ∈ x.f1, linkBad (ms.length : Int) x.f0 l = false := fun x hx => by
    have h1 := hm x hx
    unfold moduleBad at h1
    rw [Bool.or_eq_false_iff, Bool.or_eq_false_iff, Bool.not_eq_false'] at h1
    refine ⟨inR_iff.1 h1.1, fun l hl => ?_⟩
    have := List.any_eq_false.1 h1.2.2 l hl
    simpa using this
  refine ⟨fun i h0 h1 => (hmod _ (rd201_mem h0 h1)).1, fun i h0 h1 j g0 g1 => ?_⟩
  have hb := (hmod _ (rd201_mem h0 h1)).2 _ (rd204_mem g0 g1)
  unfold linkBad at hb
  simp only [Bool.or_eq_false_iff, Bool.not_eq_false'] at hb
  obtain ⟨⟨a1, a2, a3⟩, -⟩ := hb
  have b1 := inR_iff.1 a1
  have b2 := inR_iff.1 a2
  have b3 := inR_iff.1 a3
  omega
theorem matG_len : ∀ m d k, (matG m d k).length ≤ m
  | 0, d, k => by simp [matG]
  | m + 1, d, k => by
    rw [matG]
    split
    · rename_i c d' k' h
      have := matG_len m d' k'
      simp only [List.length_cons]
      omega
    · rename_i k' h
      have := matG_len m d k'
      omega
theorem matM_size (n k : Int) (h : n ≤ 5) : (matM n k).1.size ≤ 5 := by
  unfold matM
  split
  · rw [strOfNums_size]
    have := matG_len n.toNat 0 k
    omega
  · exact Nat.zero_le _
/-- How many of the first words the program takes. -/
def cw (ms : List S201) (n : Int) : Nat → Int
  | 0 => 0
  | i + 1 => if canG (mtc ms 5) ms 0 (facI (matM n (i : Int)).1) = true then cw ms n i + 1 else cw ms n i
theorem cw_bd (ms : List S201) (n : Int) : ∀ i : Nat, 0 ≤ cw ms n i ∧ cw ms n i ≤ i
  | 0 => by simp [cw]
  | i + 1 => by
    have := cw_bd ms n i
    rw [cw]
    split <;> omega
def cpw (ms : List S201) (n : Int) : Int × Int := if progOk ms = true then (if inR n 0 5 = true then (cw ms n (cntM n).1.toNat, 0) else (0, 2)) else (0, 1)
theorem cpw_calls (ms : List S201) (n : Int) (A : Option Addr) (c : Nat) (w : World) (hC : Kd.C k201 w A ms.length ms) :
    Calls Try.prog 18 #[.agg #[.slice A ms.length c], .int .i64 n] w fun e w' => e = .returned (.tuple #[.int .i64 (cpw ms n).1, .int .i64 (cpw ms n).2]) ∧ Below w.heap.size w w' := by
  have hmix : Try.prog.follows .mixedOrders = true := by kernel_rfl
  have s0 := Sat.start w
  refine calls_of_cw (args := [.agg #[.slice A ms.length c], .int .i64 n]) Try.func18 Try.ntmps18 rfl (by simp) ?_
  refine cw_seq ?_
  refine cw_region ?_
  refine o_box rfl s0 (by decide) (fun bp w1 s1 => ?_)
  refine ow_val rfl rfl (by decide) (e_assign rfl) ?_
  refine ow_val rfl rfl (by decide) (e_assign rfl) ?_
  refine ow_nil ?_
  refine then_normal ?_
  refine cw_seq ?_
  refine cw_block ?_
  refine cw_seq ?_
  refine cw_region ?_
  refine ow_val rfl rfl (by decide) (e_loadN rfl agg30 rfl (s1.cellsAt (m := 1) 0 rfl 0)) ?_
  refine o_call enter70 rfl (by decide) ?_
  refine (validProgram_calls ms A c _ (Kd.C_below hC (s1.toBelow 1 rfl))).mono ?_
  rintro e_ w2 ⟨rfl, hb_⟩
  have s2 := s1.below hb_
  refine ⟨_, rfl, ?_⟩
  refine ow_val rfl rfl (by decide) (e_not rfl) ?_
  refine ow_val rfl rfl (by decide) (e_assign rfl) ?_
  refine ow_nil ?_
  refine then_normal ?_
  refine cw_cond rfl (fun c3 => ?_) (fun c3 => ?_)
  · skip
    have hpk : ¬ progOk ms = true := (by simpa using c3)
    refine cw_seq ?_
    refine cw_region ?_
    refine ow_val rfl rfl (by decide) (e_assign rfl) ?_
    refine ow_val rfl rfl (by decide) (e_assign rfl) ?_
    refine ow_nil ?_
    refine then_normal ?_
    refine cw_ret ?_
    refine inb_ret ?_
    refine then_ret ?_
    refine ends2 (v := .int .i64 0) (v' := .int .i64 1) (.inl rfl) Try.results18 rfl rfl ?_
    exact ⟨by rw [cpw, if_neg hpk], s2.toBelow 1 rfl⟩
  · skip
    have hpk : progOk ms = true := (by simpa using c3)
    refine cw_seq ?_
    refine cw_region ?_
    refine ow_val rfl rfl (by decide) (e_move rfl) ?_
    refine o_call enter71 rfl (by decide) ?_
    refine (within_calls _ _ _ _).mono ?_
    rintro e_ w_1 ⟨rfl, rfl⟩
    refine ⟨_, rfl, ?_⟩
    refine ow_val rfl rfl (by decide) (e_not rfl) ?_
    refine ow_val rfl rfl (by decide) (e_assign rfl) ?_
    refine ow_nil ?_
    refine then_normal ?_
    refine cw_cond rfl (fun c4 => ?_) (fun c4 => ?_)
    · skip
      have hin : ¬ inR n 0 5 = true := (by simpa using c4)
      refine cw_seq ?_
      refine cw_region ?_
      refine ow_val rfl rfl (by decide) (e_assign rfl) ?_
      refine ow_val rfl rfl (by decide) (e_assign rfl) ?_
      refine ow_nil ?_
      refine then_normal ?_
      refine cw_ret ?_
      refine inb_ret ?_
      refine then_ret ?_
      refine ends2 (v := .int .i64 0) (v' := .int .i64 2) (.inl rfl) Try.results18 rfl rfl ?_
      exact ⟨by rw [cpw, if_pos hpk, if_neg hin], s2.toBelow 1 rfl⟩
    · skip
      have hin : inR n 0 5 = true := (by simpa using c4)
      have hn5 := inR_iff.1 hin
      have hcb := cntM_bd n
      refine cw_skip ?_
      refine inb_normal ?_
      refine then_normal ?_
      refine cw_seq ?_
      refine cw_region ?_
      refine ow_val rfl rfl (by decide) (e_move rfl) ?_
      refine o_call enter72 rfl (by decide) ?_
      refine (countM_calls n _).mono ?_
      rintro e_ w5 ⟨rfl, hb_⟩
      have s5 := s2.below hb_
      refine ⟨_, rfl, ?_⟩
      refine ow_val rfl rfl (by decide) (e_move rfl) ?_
      refine ow_val rfl rfl (by decide) (e_extract rfl rfl) ?_
      refine ow_val rfl rfl (by decide) (e_extract rfl rfl) ?_
      refine ow_val rfl rfl (by decide) (e_assign rfl) ?_
      refine ow_val rfl rfl (by decide) (e_assign rfl) ?_
      refine ow_nil ?_
      refine then_normal ?_
      refine cw_seq ?_
      refine cw_region ?_
      refine ow_val rfl rfl (by decide) (e_assign rfl) ?_
      refine ow_nil ?_
      refine then_normal ?_
      refine cw_seq ?_
      refine cw_seq ?_
      refine cw_region ?_
      refine ow_val rfl rfl (by decide) (e_move rfl) ?_
      refine ow_val rfl rfl (by decide) (e_move rfl) ?_
      refine ow_nil ?_
      refine then_normal ?_
      refine cw_block ?_
      refine cw_loop (fun μ_ f_ w_ => ∃ i : Nat, μ_ = (cntM n).1.toNat - i ∧ f_ 1 = .int .i64 n ∧ f_ 2 = .pointer (some ⟨bp, 0, none⟩) ∧ f_ 8 = .int .i64 (cw ms n i) ∧ f_ 25 = .int .i64 (cntM n).1 ∧ f_ 26 = .int .i64 (i : Int) ∧ (i ≤ (cntM n).1.toNat) ∧ Sat w w_ [Blk bp 30 [.slice A ms.length c], Old w]) (cntM n).1.toNat ⟨0, rfl, rfl, rfl, rfl, rfl, rfl, Nat.zero_le _, s5⟩ ?_
      intro k_ f_ w_ h_
      obtain ⟨i, rfl, e6_1, e6_2, e6_8, e6_25, e6_26, hi, s6⟩ := h_
      skip
      refine cw_seq ?_
      refine cw_region ?_
      refine ow_val rfl rfl (by decide) (e_lss e6_26 e6_25) ?_
      refine ow_nil ?_
      refine then_normal ?_
      refine cw_seq ?_
      refine cw_cond rfl (fun c7 => ?_) (fun c7 => ?_)
      · skip
        have hlt : (i : Int) < (cntM n).1 := of_decide_eq_true c7
        have hcwb := cw_bd ms n i
        refine cw_skip ?_
        refine then_normal ?_
        refine cw_seq ?_
        refine cw_block ?_
        refine cw_seq ?_
        refine cw_region ?_
        refine ow_val rfl rfl (by decide) (e_move e6_26) ?_
        refine ow_val rfl rfl (by decide) (e_assign rfl) ?_
        refine ow_nil ?_
        refine then_normal ?_
        refine cw_seq ?_
        refine cw_region ?_
        refine ow_val rfl rfl (by decide) (e_move e6_1) ?_
        refine ow_val rfl rfl (by decide) (e_move rfl) ?_
        refine o_call enter73 rfl (by decide) ?_
        refine (matchedAt_calls n (i : Int) _).mono ?_
        rintro e_ w8 ⟨rfl, hb_⟩
        have s8 := s6.below hb_
        refine ⟨_, rfl, ?_⟩
        refine ow_val rfl rfl (by decide) (e_move rfl) ?_
        refine ow_val rfl rfl (by decide) (e_extract rfl rfl) ?_
        refine ow_val rfl rfl (by decide) (e_extract rfl rfl) ?_
        refine ow_val rfl rfl (by decide) (e_assign rfl) ?_
        refine ow_val rfl rfl (by decide) (e_assign rfl) ?_
        refine ow_nil ?_
        refine then_normal ?_
        refine cw_seq ?_
        refine al_begin #[false, false, false, false] [] s8 hmix rfl rfl (fun w9 s9 => ?_)
        refine al_take 0 #[true, false, false, false] rfl rfl (by decide) (by kernel_rfl) (fun _ _ _ h => h) (ya rfl (fun w_ s_ => e_loadN e6_2 agg30 rfl (s_.cellsAt (m := 1) 0 rfl 0))) s9 ?_
        refine al_take 1 #[true, true, false, false] rfl rfl (by decide) (by kernel_rfl) (fun _ _ _ h => h) (ya rfl (fun w_ s_ => e_move rfl)) s9 ?_
        refine al_one 2 #[true, true, true, false] (by kernel_rfl) rfl ?_
        refine o_call enter75 rfl (by decide) ?_
        have hms := matM_size n (i : Int) (by omega)
        refine (factors_calls (matM n (i : Int)).1 _ (by omega)).mono ?_
        rintro e_ w10 ⟨F, cF, nF, XF, hXF, rfl, rfl, hp_, hb_⟩
        have s10 := s9.calledP hb_ hp_
        refine ⟨_, rfl, ?_⟩
        refine stepL_nil (fun _ => (s10.pickN 3 [1, 2] rfl (by decide) rfl)) ?_
        refine al_one 3 #[true, true, true, true] (by kernel_rfl) rfl ?_
        refine o_call enter74 rfl (by decide) ?_
        have hrow_ := s10.rowV 0 rfl
        rw [hXF] at hrow_
        refine (can_all ms (wfm_of hpk) 5 (by decide) 0 (facI (matM n (i : Int)).1) A F c cF _ (Kd.C_below hC (s10.toBelow 2 rfl)) hrow_ (by have := facI_len (matM n (i : Int)).1; omega) (fun x hx => by have h0 := facI_mem hx; omega) (Int.le_refl _) (by have := progOk_len hpk; omega)).mono ?_
        rintro e_ w11 ⟨rfl, hb_⟩
        have s11 := s10.below hb_
        refine ⟨_, rfl, ?_⟩
        refine stepL_nil (fun _ => (s11.pickN 3 [1, 2] rfl (by decide) rfl)) ?_
        refine al_done (by kernel_rfl) ?_
        refine then_normal ?_
        refine cw_cond rfl (fun c12 => ?_) (fun c12 => ?_)
        · skip
          have hcan : (canG (mtc ms 5) ms 0 (facI (matM n (i : Int)).1) = true) = True := (by simpa using c12)
          refine cw_region ?_
          refine ow_val rfl rfl (by decide) (e_move e6_8) ?_
          refine o_addI rfl rfl (by omega) (by omega) (by decide) ?_
          refine ow_val rfl rfl (by decide) (e_assign rfl) ?_
          refine ow_nil ?_
          refine inb_normal ?_
          refine then_normal ?_
          refine cw_region ?_
          refine o_addI e6_26 rfl (by omega) (by omega) (by decide) ?_
          refine ow_val rfl rfl (by decide) (e_move rfl) ?_
          refine ow_nil ?_
          refine then_normal ?_
          exact ⟨_, by omega, i + 1, rfl, e6_1, e6_2, (Eq.trans rfl (congrArg (Value.int .i64) (by rw [cw]; simp only [hcan, if_true, if_false]))), e6_25, rfl, by omega, (s11.pickN 3 [1, 2] rfl (by decide) rfl)⟩
        · skip
          have hcan : (canG (mtc ms 5) ms 0 (facI (matM n (i : Int)).1) = true) = False := (by simpa using c12)
          refine cw_skip ?_
          refine inb_normal ?_
          refine then_normal ?_
          refine cw_region ?_
          refine o_addI e6_26 rfl (by omega) (by omega) (by decide) ?_
          refine ow_val rfl rfl (by decide) (e_move rfl) ?_
          refine ow_nil ?_
          refine then_normal ?_
          exact ⟨_, by omega, i + 1, rfl, e6_1, e6_2, (Eq.trans e6_8 (congrArg (Value.int .i64) (by rw [cw]; simp only [hcan, if_true, if_false]))), e6_25, rfl, by omega, (s11.pickN 3 [1, 2] rfl (by decide) rfl)⟩
      · skip
        have hge : i = (cntM n).1.toNat := (by have := of_decide_eq_false c7; omega)
        refine cw_exit ?_
        refine then_exit ?_
        refine then_exit ?_
        refine inb_exit ?_
        refine then_normal ?_
        refine cw_seq ?_
        refine cw_region ?_
        refine ow_val rfl rfl (by decide) (e_move e6_8) ?_
        refine ow_val rfl rfl (by decide) (e_assign rfl) ?_
        refine ow_val rfl rfl (by decide) (e_assign rfl) ?_
        refine ow_nil ?_
        refine then_normal ?_
        refine cw_ret ?_
        refine ends2 (v := .int .i64 (cw ms n i)) (v' := .int .i64 0) (.inl rfl) Try.results18 rfl rfl ?_
        exact ⟨by rw [cpw, if_pos hpk, if_pos hin, ← hge], s6.toBelow 1 rfl⟩
end Go.Proofs.Ytjkohjdiddhpcaa.My
set_option linter.unusedVariables false
set_option linter.unusedSimpArgs false
namespace Go.Proofs.Ytjkohjdiddhpcaa.My
open Go.Sl Go.RowKit Go.Proofs.YtjkohjdiddhpcaaW.PrintWords Go.Proofs.YtjkohjdiddhpcaaW.PrintLast Go.Proofs.YtjkohjdiddhpcaaW.PrintMore Go.Proofs.Ytjkohjdiddhpcaa.PFnExactCountProgramWords
theorem flat46 : flatB Try.prog 46 = true := by kernel_rfl
theorem zero34 : zeroOf Try.prog 34 = some (.slice none 0 0 : Value) := by kernel_rfl
theorem field288_0 : fieldB Try.prog 288 0 = some 0 := by kernel_rfl
theorem slt46 : SlT Try.prog 46 34 1 24 (.slice none 0 0) := ⟨Try.underlying46, by kernel_rfl, zero34, rfl, by decide⟩
theorem shI_fin : ∀ j : Fin 8, IntKind.i64.wrap (1 * 2 ^ min ((j.val : Int)).toNat IntKind.i64.bits) = ((2 ^ j.val : Nat) : Int) := by decide +kernel
theorem shI {j : Nat} (h : j < 8) : IntKind.i64.wrap (1 * 2 ^ min ((j : Int)).toNat IntKind.i64.bits) = ((2 ^ j : Nat) : Int) := shI_fin ⟨j, h⟩
def pows (n : Nat) : List Int := (List.range n).map fun x => ((2 ^ x : Nat) : Int)
theorem pows_succ (n : Nat) : pows (n + 1) = pows n ++ [((2 ^ n : Nat) : Int)] := by simp [pows, List.range_succ]
theorem pows_len (n : Nat) : (pows n).length = n := by simp [pows]
def nrow (md : S201) : List Int := pows md.f0.toNat
def noneR (ms : List S201) : List (List Int) := ms.map nrow
theorem take_map_succ {α β : Type} {g : α → β} {xs : List α} {z : α} {i : Nat} (h : i < xs.length) : (xs.take (i + 1)).map g = (xs.take i).map g ++ [g (xs.getD ((i : Int).toNat) z)] := by
  rw [List.take_succ_eq_append_getElem h, List.map_append]
  simp [List.getD_eq_getElem?_getD, h]
theorem conv_u {x : Int} {w : World} (h0 : 0 ≤ x) (h1 : x ≤ 1000000) : (convert 2 221 (.int .i64 x)).run Try.prog w = .ok (.int .u64 x) w := by
  have hk : Try.prog.intKind 221 = .u64 := by kernel_rfl
  have h := run_convert_int (P := Try.prog) w 2 221 .i64 x (by rw [Try.underlying2]; rfl) (by rw [hk]; exact Try.underlying221)
  rw [hk] at h
  rw [h]
  have e : IntKind.u64.wrap x = x := by simp only [IntKind.wrap]; simp [IntKind.bits, IntKind.signed]; omega
  rw [e]
theorem conv_u3 {x : Int} {w : World} (h0 : 0 ≤ x) (h1 : x ≤ 1000000) : (convert 3 221 (.int .i64 x)).run Try.prog w = .ok (.int .u64 x) w := by
  have hk : Try.prog.intKind 221 = .u64 := by kernel_rfl
  have h := run_convert_int (P := Try.prog) w 3 221 .i64 x (by rw [Try.underlying3]; rfl) (by rw [hk]; exact Try.underlying221)
  rw [hk] at h
  rw [h]
  have e : IntKind.u64.wrap x = x := by simp only [IntKind.wrap]; simp [IntKind.bits, IntKind.signed]; omega
  rw [e]
theorem sexit_calls (m : Int) (ms : List S201) (pa : Addr) (A : Option Addr) (c : Nat) (w : World) (hC : Kd.C k201 w A ms.length ms) (hp : w.cell? (pa.add 0) = some (.slice A ms.length c)) (hW : WFm ms) (hm0 : 0 ≤ m) (hm1 : m < ms.length) :
    Calls Try.prog 84 #[.pointer (some pa), .int .i64 m] w fun e w' => e = .returned (.int .i64 ((rd_T201 ms m).f0 - 1)) ∧ Below w.heap.size w w' := by
  have s0 := Sat.start w
  refine calls_of_cw (args := [.pointer (some pa), .int .i64 m]) Try.func84 Try.ntmps84 rfl (by simp) ?_
  refine cw_seq ?_
  refine cw_region ?_
  refine ow_val rfl rfl (by decide) (e_assign rfl) ?_
  refine ow_nil ?_
  refine then_normal ?_
  refine cw_seq ?_
  refine cw_region ?_
  refine ow_val rfl rfl (by decide) (e_move rfl) ?_
  refine ow_val rfl rfl (by decide) (e_nilCheck rfl) ?_
  refine ow_val rfl rfl (by decide) (e_fieldA rfl field30_0 rfl) ?_
  refine ow_val rfl rfl (by decide) (e_load rfl flat28 (s0.oldCell 0 rfl hp)) ?_
  refine ow_val rfl rfl (by decide) (e_move rfl) ?_
  obtain ⟨ad, A1, cm, eA, hx0, hx1, hl1, hC1⟩ := at_T201 hC m (hm0) (hm1)
  obtain ⟨md, hmd⟩ : ∃ md, md = rd_T201 ms m := ⟨_, rfl⟩
  rw [← hmd] at hx0 hx1 hl1 hC1
  have hnd := hW.node m (hm0) (hm1)
  rw [← hmd] at hnd
  have hmax1 := hC1.2.1
  subst eA
  refine o_idxR rfl rfl slt28 (by omega) (by omega) (by decide) ?_
  refine ow_val rfl rfl (by decide) (e_fieldA rfl field201_0 rfl) ?_
  refine ow_val rfl rfl (by decide) (e_load rfl flat2 (s0.oldCell 0 rfl hx0)) ?_
  refine o_subI rfl rfl (by omega) (by omega) (by decide) ?_
  refine ow_val rfl rfl (by decide) (e_assign rfl) ?_
  refine ow_nil ?_
  refine then_normal ?_
  refine cw_ret ?_
  refine ends1 (v := .int .i64 (md.f0 - 1)) (.inl rfl) Try.results84 rfl ?_
  exact ⟨by rw [hmd], s0.toBelow 0 rfl⟩
theorem none_calls (ms : List S201) (pa : Addr) (A : Option Addr) (c : Nat) (w : World) (hC : Kd.C k201 w A ms.length ms) (hp : w.cell? (pa.add 0) = some (.slice A ms.length c)) (hW : WFm ms) (hl : ms.length ≤ 4) :
    Calls Try.prog 272 #[.pointer (some pa)] w fun e w' => ∃ b, e = .returned (.pointer (some ⟨b, 0, none⟩)) ∧ Part w w' [RelA b (noneR ms)] ∧ Below w.heap.size w w' := by
  have s0 := Sat.start w
  refine calls_of_cw (args := [.pointer (some pa)]) Try.func272 Try.ntmps272 rfl (by simp) ?_
  refine cw_seq ?_
  refine cw_region ?_
  refine ow_val rfl rfl (by decide) (e_assign rfl) ?_
  refine ow_nil ?_
  refine then_normal ?_
  refine cw_seq ?_
  refine cw_region ?_
  refine o_build (cs := [.slice none 0 0]) rfl (by kernel_rfl) (by decide) ?_
  refine o_box rfl s0 (by decide) (fun bs w1 s1 => ?_)
  refine ow_val rfl rfl (by decide) (e_assign rfl) ?_
  refine ow_nil ?_
  refine then_normal ?_
  refine cw_seq ?_
  refine cw_seq ?_
  refine cw_region ?_
  have s2 := (s1.pushNil 34 1).push (A := NRows [] []) trivial
  refine ow_val rfl rfl (by decide) (e_assign rfl) ?_
  refine ow_nil ?_
  refine then_normal ?_
  refine cw_block ?_
  refine cw_loop (fun μ_ f_ w_ => ∃ i : Nat, ∃ Aq : Option Addr, ∃ nq : Nat, ∃ cq : Nat, ∃ vs : List Value, μ_ = ms.length - i ∧ f_ 0 = .pointer (some pa) ∧ f_ 3 = .pointer (some ⟨bs, 0, none⟩) ∧ f_ 4 = .int .i64 (i : Int) ∧ (i ≤ ms.length) ∧ (nq = i) ∧ Sat w w_ [Blk bs 288 [.slice Aq nq cq], Sl 34 1 (.slice Aq nq cq) nq vs, NRows vs ((ms.take i).map nrow), Old w]) ms.length ⟨0, none, 0, 0, [], rfl, rfl, rfl, rfl, Nat.zero_le _, rfl, (s2.pickN 4 [2, 1, 0, 3] rfl (by decide) rfl)⟩ ?_
  intro k_ f_ w_ h_
  obtain ⟨i, Aq, nq, cq, vs, rfl, e3_0, e3_3, e3_4, hi, hnq, s3⟩ := h_
  skip
  refine cw_seq ?_
  refine cw_seq ?_
  refine cw_region ?_
  refine ow_val rfl rfl (by decide) (e_move e3_4) ?_
  refine ow_val rfl rfl (by decide) (e_move e3_0) ?_
  refine ow_val rfl rfl (by decide) (e_nilCheck rfl) ?_
  refine ow_val rfl rfl (by decide) (e_fieldA rfl field30_0 rfl) ?_
  refine ow_val rfl rfl (by decide) (e_load rfl flat28 (s3.oldCell 3 rfl hp)) ?_
  refine ow_val rfl rfl (by decide) (e_len_slice rfl Try.underlying28) ?_
  refine ow_val rfl rfl (by decide) (e_lss rfl rfl) ?_
  refine ow_nil ?_
  refine then_normal ?_
  refine cw_cond rfl (fun c4 => ?_) (fun c4 => ?_)
  · skip
    have hlt : i < ms.length := (by have := of_decide_eq_true c4; omega)
    refine cw_skip ?_
    refine then_normal ?_
    refine cw_seq ?_
    refine cw_block ?_
    refine cw_seq ?_
    refine cw_region ?_
    refine o_buildSlice0 slt34 s3 (by decide) (fun b6 w5 s5 => ?_)
    refine ow_val rfl rfl (by decide) (e_assign rfl) ?_
    refine ow_nil ?_
    refine then_normal ?_
    refine cw_seq ?_
    refine cw_seq ?_
    refine cw_region ?_
    have hnd0 := hW.node (i : Int) (by omega) (by omega)
    refine ow_val rfl rfl (by decide) (e_assign rfl) ?_
    refine ow_nil ?_
    refine then_normal ?_
    refine cw_block ?_
    refine cw_loop (fun μ_ f_ w_ => ∃ j : Nat, ∃ A5 : Option Addr, ∃ n5 : Nat, ∃ c5 : Nat, ∃ X5 : List Value, μ_ = 8 - j ∧ f_ 0 = .pointer (some pa) ∧ f_ 3 = .pointer (some ⟨bs, 0, none⟩) ∧ f_ 4 = .int .i64 (i : Int) ∧ f_ 5 = .slice A5 n5 c5 ∧ f_ 6 = .int .i64 (j : Int) ∧ ((j : Int) ≤ (rd_T201 ms (i : Int)).f0) ∧ (n5 = j) ∧ (X5 = (pows j).map (Value.int .i64)) ∧ Sat w w_ [Sl 2 1 (.slice A5 n5 c5) n5 X5, Blk bs 288 [.slice Aq nq cq], Sl 34 1 (.slice Aq nq cq) nq vs, NRows vs ((ms.take i).map nrow), Old w]) 8 ⟨0, (some ⟨b6, 0, none⟩), 0, 0, _, rfl, e3_0, e3_3, e3_4, rfl, rfl, by omega, rfl, rfl, s5⟩ ?_
    intro k_ f_ w_ h_
    obtain ⟨j, A5, n5, c5, X5, rfl, e7_0, e7_3, e7_4, e7_5, e7_6, hj, hn5, hX5, s7⟩ := h_
    skip
    refine cw_seq ?_
    refine cw_seq ?_
    refine cw_region ?_
    refine ow_val rfl rfl (by decide) (e_move e7_6) ?_
    refine ow_val rfl rfl (by decide) (e_move e7_0) ?_
    refine ow_val rfl rfl (by decide) (e_nilCheck rfl) ?_
    refine ow_val rfl rfl (by decide) (e_fieldA rfl field30_0 rfl) ?_
    refine ow_val rfl rfl (by decide) (e_load rfl flat28 (s7.oldCell 4 rfl hp)) ?_
    refine ow_val rfl rfl (by decide) (e_move e7_4) ?_
    obtain ⟨ad, A1, cm, eA, hx0, hx1, hl1, hC1⟩ := at_T201 hC (i : Int) (by omega) (by omega)
    obtain ⟨md, hmd⟩ : ∃ md, md = rd_T201 ms (i : Int) := ⟨_, rfl⟩
    rw [← hmd] at hx0 hx1 hl1 hC1
    have hnd := hW.node (i : Int) (by omega) (by omega)
    rw [← hmd] at hnd
    have hmax1 := hC1.2.1
    subst eA
    refine o_idxR rfl rfl slt28 (by omega) (by omega) (by decide) ?_
    refine ow_val rfl rfl (by decide) (e_fieldA rfl field201_0 rfl) ?_
    refine ow_val rfl rfl (by decide) (e_load rfl flat2 (s7.oldCell 4 rfl hx0)) ?_
    refine ow_val rfl rfl (by decide) (e_lss rfl rfl) ?_
    refine ow_nil ?_
    refine then_normal ?_
    refine cw_cond rfl (fun c8 => ?_) (fun c8 => ?_)
    · skip
      have hltj : (j : Int) < md.f0 := of_decide_eq_true c8
      have hj8 : j < 8 := by omega
      refine cw_skip ?_
      refine then_normal ?_
      refine cw_seq ?_
      refine cw_block ?_
      refine cw_region ?_
      refine ow_val rfl rfl (by decide) (e_move e7_5) ?_
      refine ow_val rfl rfl (by decide) (e_move e7_6) ?_
      refine ow_val rfl rfl (by decide) (e_conv rfl (conv_u (by omega) (by omega))) ?_
      refine ow_val2 rfl rfl (by decide) (e_shl rfl rfl (by omega)) (congrArg (Value.int .i64) (shI hj8)) ?_
      refine o_buildSlice1 (v := .int .i64 ((2 ^ j : Nat) : Int)) rfl rfl slt34 s7 (by decide) (fun b9 w10 s10 => ?_)
      refine o_append1 rfl rfl slt34 (s10.rot 1 rfl) (j := 1) rfl rfl (by omega) (by omega) (by decide) (fun A12 c13 w11 s11 => ?_)
      refine ow_val rfl rfl (by decide) (e_assign rfl) ?_
      refine ow_nil ?_
      refine inb_normal ?_
      refine then_normal ?_
      refine cw_region ?_
      refine ow_val rfl rfl (by decide) (e_move e7_6) ?_
      refine o_addI rfl rfl (by omega) (by omega) (by decide) ?_
      refine ow_val rfl rfl (by decide) (e_assign rfl) ?_
      refine ow_nil ?_
      refine then_normal ?_
      exact ⟨_, by omega, j + 1, A12, (n5 + 1), c13, _, rfl, e7_0, e7_3, e7_4, rfl, rfl, by rw [← hmd]; omega, by omega, by rw [hX5, pows_succ]; simp, (s11.pickN 6 [0, 2, 3, 4, 5] rfl (by decide) rfl)⟩
    · skip
      have hgej : (j : Int) = (rd_T201 ms (i : Int)).f0 := (by have := of_decide_eq_false c8; rw [← hmd] at hj ⊢; omega)
      refine cw_exit ?_
      refine then_exit ?_
      refine then_exit ?_
      refine inb_exit ?_
      refine then_normal ?_
      refine cw_region ?_
      refine ow_val rfl rfl (by decide) (e_move e7_3) ?_
      refine ow_val rfl rfl (by decide) (e_move e7_3) ?_
      refine ow_val rfl rfl (by decide) (e_nilCheck rfl) ?_
      refine ow_val rfl rfl (by decide) (e_fieldAddr rfl field288_0) ?_
      refine ow_val rfl rfl (by decide) (e_load rfl flat46 (s7.cell 1 rfl (Blk.reads rfl))) ?_
      refine ow_val rfl rfl (by decide) (e_move e7_5) ?_
      refine o_buildSlice1 (v := .slice A5 n5 c5) rfl rfl slt46 s7 (by decide) (fun b14 w15 s15 => ?_)
      refine o_append1 rfl rfl slt46 (s15.rot 3 rfl) (j := 1) rfl rfl (by omega) (by omega) (by decide) (fun A17 c18 w16 s16 => ?_)
      refine ow_val rfl rfl (by decide) (e_nilCheck rfl) ?_
      refine ow_val rfl rfl (by decide) (e_fieldAddr rfl field288_0) ?_
      refine o_store rfl rfl rfl flat46 s16 (i := 3) rfl (Blk.writes _ (Nat.le_of_ble_eq_true rfl)) (fun w19 s19 => ?_)
      refine ow_nil ?_
      refine inb_normal ?_
      refine then_normal ?_
      refine cw_region ?_
      refine ow_val rfl rfl (by decide) (e_move e7_4) ?_
      refine o_addI rfl rfl (by omega) (by omega) (by decide) ?_
      refine ow_val rfl rfl (by decide) (e_assign rfl) ?_
      refine ow_nil ?_
      refine then_normal ?_
      have s20 := s19.rowsPush (nrow (rd_T201 ms (i : Int))) 2 3 rfl rfl (by rw [nrow, pows_len]; omega) (by rw [hX5, nrow]; congr 2; omega)
      rw [show (ms.take i).map nrow ++ [nrow (rd_T201 ms (i : Int))] = (ms.take (i + 1)).map nrow from (take_map_succ (z := z201) hlt).symm] at s20
      exact ⟨_, by omega, i + 1, A17, (nq + 1), c18, _, rfl, e7_0, e7_3, rfl, by omega, by omega, (s20.pickN 5 [3, 1, 0, 4] rfl (by decide) rfl)⟩
  · skip
    have hge : i = ms.length := (by have := of_decide_eq_false c4; omega)
    refine cw_exit ?_
    refine then_exit ?_
    refine then_exit ?_
    refine inb_exit ?_
    refine then_normal ?_
    refine cw_seq ?_
    refine cw_region ?_
    refine ow_val rfl rfl (by decide) (e_move e3_3) ?_
    refine ow_val rfl rfl (by decide) (e_assign rfl) ?_
    refine ow_nil ?_
    refine then_normal ?_
    refine cw_ret ?_
    refine ends1 (v := .pointer (some ⟨bs, 0, none⟩)) (.inl rfl) Try.results272 rfl ?_
    have sp_ := (s3.pickN 4 [0, 1, 2, 3] rfl (by decide) rfl : Sat w _ [Blk bs 288 [.slice Aq nq cq], Sl 34 1 (.slice Aq nq cq) nq vs, NRows vs ((ms.take i).map nrow), Old w])
    rw [show (ms.take i).map nrow = noneR ms from by rw [hge, List.take_length]; rfl] at sp_
    have sq_ := sp_.relClose (by rw [hnq, hge]; simp [noneR])
    exact ⟨bs, rfl, sq_.part 2 [0] 1 rfl rfl (by decide) rfl, sq_.toBelow 1 rfl⟩
end Go.Proofs.Ytjkohjdiddhpcaa.My
set_option linter.unusedVariables false
set_option linter.unusedSimpArgs false
namespace Go.Proofs.Ytjkohjdiddhpcaa.My
open Go.Sl Go.RowKit Go.Proofs.YtjkohjdiddhpcaaW.PrintWords Go.Proofs.YtjkohjdiddhpcaaW.PrintLast Go.Proofs.YtjkohjdiddhpcaaW.PrintMore Go.Proofs.Ytjkohjdiddhpcaa.PFnExactCountProgramWords
theorem made_one (v : Value) (m : Nat) : (madeCells #[v] (m * 1)).toList = List.replicate m v := by
  rw [Nat.mul_one]
  apply List.ext_getElem?
  intro i
  by_cases h : i < m <;> simp [madeCells, List.getElem?_replicate, h, Nat.mod_one]
theorem row_two {B w : World} {Γ : List Asn} {vs : List Value} {R : List (List Int)} {a : Option Addr} {m c : Nat} (hs : Sat B w Γ) (i : Nat) (hi : Γ[i]? = some (NRows vs R)) {j : Nat} {xs : List Int} (hx : R[j]? = some xs) (hv : vs[j]? = some (.slice a m c)) :
    RowV w a (xs.map (Value.int .i64)) := by
  obtain ⟨a', c', h1, h2⟩ := hs.rowAt i hi hx
  rw [hv] at h1
  injection h1 with h1
  injection h1 with h1 _ _
  subst h1
  exact h2
theorem row_cell {w : World} {ad : Addr} {xs : List Int} (h : RowV w (some ad) (xs.map (Value.int .i64))) {i : Int} {x : Int} (hx : xs[i.toNat]? = some x) : w.cell? (ad.add (i.toNat * 1)) = some (.int .i64 x) := by
  obtain ⟨ad', e, hc⟩ := h i.toNat (.int .i64 x) (by rw [List.getElem?_map, hx]; rfl)
  injection e with e
  subst e
  rw [Nat.mul_one]; exact hc
def bitI (u b : Int) : Int := IntKind.i64.wrap (BitVec.ofInt IntKind.i64.bits (u.fdiv (2 ^ min b.toNat IntKind.i64.bits)) &&& BitVec.ofInt IntKind.i64.bits 1).toNat
theorem bitI_fin : ∀ u : Fin 256, ∀ b : Fin 8, (bitI ((u.val : Int)) (b.val : Int) == 1) = u.val.testBit b.val := by decide +kernel
theorem bitI_eq {u : Nat} {b : Int} (hu : u < 256) (h0 : 0 ≤ b) (h1 : b < 8) : (bitI (u : Int) b == 1) = u.testBit b.toNat := by
  have h := bitI_fin ⟨u, hu⟩ ⟨b.toNat, by omega⟩
  have e : ((b.toNat : Nat) : Int) = b := by omega
  simpa [e] using h
theorem orN {u v : Nat} (hu : u < 256) (hv : v < 256) : u ||| v < 256 := Nat.or_lt_two_pow (n := 8) hu hv
theorem orI_eq {u v : Nat} (hu : u < 256) (hv : v < 256) : IntKind.i64.wrap (BitVec.ofInt IntKind.i64.bits (u : Int) ||| BitVec.ofInt IntKind.i64.bits (v : Int)).toNat = ((u ||| v : Nat) : Int) := by
  have h := orN hu hv
  have e : (BitVec.ofInt IntKind.i64.bits (u : Int) ||| BitVec.ofInt IntKind.i64.bits (v : Int)).toNat = u ||| v := by
    rw [BitVec.toNat_or]
    have e1 : ∀ x : Nat, x < 256 → (BitVec.ofInt IntKind.i64.bits (x : Int)).toNat = x := fun x hx => by
      show (BitVec.ofInt 64 (x : Int)).toNat = x
      rw [BitVec.toNat_ofInt]
      omega
    rw [e1 u hu, e1 v hv]
  rw [e]
  exact wrap_in (by omega) (by omega)
def castL (l : List Nat) : List Int := List.map (fun u : Nat => (u : Int)) l
theorem getD_nil {α : Type} {l : List α} {i : Nat} (d : α) (h : l.length ≤ i) : l.getD i d = d := by rw [List.getD_eq_getElem?_getD, List.getElem?_eq_none h]; rfl
def castR (Q : List (List Nat)) : List (List Int) := Q.map castL
def noneN (ms : List S201) : List (List Nat) := ms.map fun md => (List.range md.f0.toNat).map fun x => 2 ^ x
theorem noneR_cast (ms : List S201) : noneR ms = castR (noneN ms) := by
  simp [noneR, castR, noneN, nrow, pows, castL, List.map_map, Function.comp_def]
structure RelN (ms : List S201) (Q : List (List Nat)) : Prop where
  len : Q.length = ms.length
  row : ∀ i : Nat, i < ms.length → ((Q.getD i []).length : Int) = (rd_T201 ms (i : Int)).f0
  lt : ∀ i : Nat, ∀ u ∈ Q.getD i [], u < 256
def takesL (ms : List S201) (x : ByteArray) (inn : List (List Nat)) (l : S204) : Bool :=
  if l.f2.size = 1 then l.f2.toList == x.toList
  else if x.size > 1 then (l.f2.toList == (x.extract 0 1 ++ x.extract (x.size - 1) x.size).toList) && ((inn.getD l.f3.toNat []).getD 0 0).testBit ((rd_T201 ms l.f3).f0 - 1).toNat
  else false
def rowStepN (ms : List S201) (x : ByteArray) (inn : List (List Nat)) (row : List Nat) (l : S204) : List Nat :=
  if takesL ms x inn l = true then row.set l.f0.toNat (row.getD l.f0.toNat 0 ||| 2 ^ l.f1.toNat) else row
def frowN (ms : List S201) (x : ByteArray) (inn : List (List Nat)) (md : S201) : List Nat := md.f1.foldl (rowStepN ms x inn) (List.replicate md.f0.toNat 0)
def facN (ms : List S201) (x : ByteArray) (inn : List (List Nat)) : List (List Nat) := ms.map (frowN ms x inn)
def orRow (q : Nat) (fr : List Nat) : Nat := (List.range fr.length).foldl (fun acc x => if q.testBit x = true then acc ||| fr.getD x 0 else acc) 0
def compN (Q G : List (List Nat)) : List (List Nat) := (List.range Q.length).map fun m => (Q.getD m []).map fun q => orRow q (G.getD m [])
def ofN (ms : List S201) : Nat → ByteArray → List (List Nat)
  | 0, _ => noneN ms
  | k + 1, s => (facI s).foldl (fun Q x => compN Q (facN ms x (if x.size > 1 then ofN ms k (x.extract 1 (x.size - 1)) else noneN ms))) (noneN ms)
def innN (ms : List S201) (k : Nat) (x : ByteArray) : List (List Nat) := if x.size > 1 then ofN ms k (x.extract 1 (x.size - 1)) else noneN ms
theorem castL_len (l : List Nat) : (castL l).length = l.length := by simp [castL]
theorem castR_get {Q : List (List Nat)} {i : Nat} (h : i < Q.length) : (castR Q)[i]? = some (castL (Q.getD i [])) := by
  simp [castR, List.getD_eq_getElem?_getD, h]
theorem castL_get {l : List Nat} {i : Nat} (h : i < l.length) : (castL l)[i]? = some ((l.getD i 0 : Nat) : Int) := by
  simp [castL, List.getD_eq_getElem?_getD, h]
theorem noneN_rel {ms : List S201} (hW : WFm ms) : RelN ms (noneN ms) := by
  have hg : ∀ i : Nat, i < ms.length → (noneN ms).getD i [] = (List.range (rd_T201 ms (i : Int)).f0.toNat).map fun x => 2 ^ x := fun i h => by
    simp [noneN, rd_T201, List.getD_eq_getElem?_getD, h]
  refine ⟨by simp [noneN], fun i h => ?_, fun i u hu => ?_⟩
  · rw [hg i h]
    have := hW.node (i : Int) (by omega) (by omega)
    simp
    omega
  · by_cases h : i < ms.length
    · rw [hg i h] at hu
      have := hW.node (i : Int) (by omega) (by omega)
      simp at hu
      obtain ⟨a, ha, rfl⟩ := hu
      exact Nat.pow_lt_pow_right (by decide : 1 < 2) (by omega : a < 8)
    · have : (noneN ms).length ≤ i := by simp [noneN]; omega
      rw [getD_nil _ this] at hu
      simp at hu
theorem rowStepN_len (ms : List S201) (x : ByteArray) (inn : List (List Nat)) (row : List Nat) (l : S204) : (rowStepN ms x inn row l).length = row.length := by
  unfold rowStepN
  split <;> simp
theorem rowFold_len (ms : List S201) (x : ByteArray) (inn : List (List Nat)) : ∀ (ls : List S204) (row : List Nat), (ls.foldl (rowStepN ms x inn) row).length = row.length
  | [], row => rfl
  | l :: ls, row => by rw [List.foldl_cons, rowFold_len ms x inn ls, rowStepN_len]
theorem getD_lt {l : List Nat} (h : ∀ u ∈ l, u < 256) (i : Nat) : l.getD i 0 < 256 := by
  by_cases hi : i < l.length
  · rw [List.getD_eq_getElem?_getD, List.getElem?_eq_getElem hi]; exact h _ (List.getElem_mem hi)
  · rw [getD_nil _ (by omega)]; decide
theorem rowFold_lt (ms : List S201) (x : ByteArray) (inn : List (List Nat)) : ∀ (ls : List S204) (row : List Nat), (∀ l ∈ ls, l.f1.toNat < 8) → (∀ u ∈ row, u < 256) → ∀ u ∈ ls.foldl (rowStepN ms x inn) row, u < 256
  | [], row, _, h => h
  | l :: ls, row, hl, h => by
    rw [List.foldl_cons]
    refine rowFold_lt ms x inn ls _ (fun y hy => hl y (List.mem_cons_of_mem _ hy)) fun u hu => ?_
    unfold rowStepN at hu
    split at hu
    · rcases List.mem_or_eq_of_mem_set hu with hu | rfl
      · exact h u hu
      · exact orN (getD_lt h _) (Nat.pow_lt_pow_right (by decide : 1 < 2) (hl l List.mem_cons_self))
    · exact h u hu
theorem facN_get {ms : List S201} {x : ByteArray} {inn : List (List Nat)} {i : Nat} (h : i < ms.length) : (facN ms x inn).getD i [] = frowN ms x inn (rd_T201 ms (i : Int)) := by
  simp [facN, rd_T201, List.getD_eq_getElem?_getD, h]
theorem link_mem {ms : List S201} (hW : WFm ms) {i : Nat} (h : i < ms.length) : ∀ l ∈ (rd_T201 ms (i : Int)).f1, l.f1.toNat < 8 ∧ 0 ≤ l.f0 ∧ l.f0 < (rd_T201 ms (i : Int)).f0 := fun l hl => by
  obtain ⟨j, hj, rfl⟩ := List.getElem_of_mem hl
  have := hW.link (i : Int) (by omega) (by omega) (j : Int) (by omega) (by omega)
  have hn := hW.node (i : Int) (by omega) (by omega)
  simp only [rd_T204, List.getD_eq_getElem?_getD, Int.toNat_natCast, List.getElem?_eq_getElem hj, Option.getD_some] at this
  omega
theorem facN_rel {ms : List S201} (hW : WFm ms) (x : ByteArray) (inn : List (List Nat)) : RelN ms (facN ms x inn) := by
  refine ⟨by simp [facN], fun i h => ?_, fun i u hu => ?_⟩
  · rw [facN_get h, frowN, rowFold_len]
    have := hW.node (i : Int) (by omega) (by omega)
    simp
    omega
  · by_cases h : i < ms.length
    · rw [facN_get h] at hu
      exact rowFold_lt ms x inn _ _ (fun l hl => (link_mem hW h l hl).1) (fun u hu => by rw [List.eq_of_mem_replicate hu]; decide) u hu
    · have : (facN ms x inn).length ≤ i := by simp [facN]; omega
      rw [getD_nil _ this] at hu
      simp at hu
theorem orRow_lt {q : Nat} {fr : List Nat} (h : ∀ u ∈ fr, u < 256) : orRow q fr < 256 := by
  unfold orRow
  have : ∀ (l : List Nat) (a : Nat), a < 256 → l.foldl (fun acc x => if q.testBit x = true then acc ||| fr.getD x 0 else acc) a < 256 := by
    intro l
    induction l with
    | nil => exact fun a h => h
    | cons y l ih =>
      intro a ha
      rw [List.foldl_cons]
      refine ih _ ?_
      split
      · exact orN ha (getD_lt h _)
      · exact ha
  exact this _ _ (by decide)
theorem compN_get {Q G : List (List Nat)} {i : Nat} (h : i < Q.length) : (compN Q G).getD i [] = (Q.getD i []).map fun q => orRow q (G.getD i []) := by
  simp [compN, List.getD_eq_getElem?_getD, h]
theorem compN_rel {ms : List S201} {Q G : List (List Nat)} (hQ : RelN ms Q) (hG : RelN ms G) : RelN ms (compN Q G) := by
  refine ⟨by simp [compN, hQ.len], fun i h => ?_, fun i u hu => ?_⟩
  · rw [compN_get (by rw [hQ.len]; exact h), List.length_map]
    exact hQ.row i h
  · by_cases h : i < Q.length
    · rw [compN_get h] at hu
      simp at hu
      obtain ⟨q, hq, rfl⟩ := hu
      exact orRow_lt (hG.lt i)
    · have : (compN Q G).length ≤ i := by simp [compN]; omega
      rw [getD_nil _ this] at hu
      simp at hu
theorem ofN_rel {ms : List S201} (hW : WFm ms) : ∀ k s, RelN ms (ofN ms k s)
  | 0, s => noneN_rel hW
  | k + 1, s => by
    rw [ofN]
    have : ∀ (l : List ByteArray) (Q : List (List Nat)), RelN ms Q → RelN ms (l.foldl (fun Q x => compN Q (facN ms x (if x.size > 1 then ofN ms k (x.extract 1 (x.size - 1)) else noneN ms))) Q) := by
      intro l
      induction l with
      | nil => exact fun Q h => h
      | cons y l ih =>
        intro Q hQ
        rw [List.foldl_cons]
        exact ih _ (compN_rel hQ (facN_rel hW _ _))
    exact this _ _ (noneN_rel hW)
theorem innN_rel {ms : List S201} (hW : WFm ms) (k : Nat) (x : ByteArray) : RelN ms (innN ms k x) := by
  unfold innN
  split
  · exact ofN_rel hW _ _
  · exact noneN_rel hW
end Go.Proofs.Ytjkohjdiddhpcaa.My
