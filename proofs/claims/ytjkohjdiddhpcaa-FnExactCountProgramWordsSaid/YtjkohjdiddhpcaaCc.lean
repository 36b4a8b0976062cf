import Derived.Test.YtjkohjdiddhpcaaCa
import Derived.Test.YtjkohjdiddhpcaaX7
import Derived.Test.YtjkohjdiddhpcaaCb
/- Walks of the given code, and plain lemmas, for the law FnExactCountProgramWords (part Cc). -/
set_option linter.unusedVariables false
set_option linter.unusedSimpArgs false
namespace Go.Proofs.Ytjkohjdiddhpcaa.My
open Go.Sl Go.RowKit Go.Proofs.YtjkohjdiddhpcaaW.PrintWords Go.Proofs.YtjkohjdiddhpcaaW.PrintLast Go.Proofs.YtjkohjdiddhpcaaW.PrintMore Go.Proofs.Ytjkohjdiddhpcaa.PFnExactCountProgramWords
theorem agg30 : aggN Try.prog 30 = some 1 := by kernel_rfl
theorem enter169 : enterB Try.prog 169 = true := by kernel_rfl
def bitW (u b : Int) : Int := IntKind.u64.wrap (BitVec.ofInt IntKind.u64.bits (u.fdiv (2 ^ min b.toNat IntKind.u64.bits)) &&& BitVec.ofInt IntKind.u64.bits 1).toNat
theorem bitW_fin : ∀ u : Fin 256, ∀ b : Fin 8, (bitW ((u.val : Int)) (b.val : Int) == 1) = u.val.testBit b.val := by decide +kernel
def orW (v b : Int) : Int := IntKind.u64.wrap (BitVec.ofInt IntKind.u64.bits v ||| BitVec.ofInt IntKind.u64.bits (IntKind.u64.wrap (1 * 2 ^ min b.toNat IntKind.u64.bits))).toNat
theorem orW_fin : ∀ u : Fin 256, ∀ b : Fin 8, orW ((u.val : Int)) (b.val : Int) = ((u.val ||| 2 ^ b.val : Nat) : Int) ∧ (u.val ||| 2 ^ b.val) < 256 := by decide +kernel
theorem bitW_eq {u : Nat} {b : Int} (hu : u < 256) (h0 : 0 ≤ b) (h1 : b < 8) : (bitW (u : Int) b == 1) = u.testBit b.toNat := by
  have h := bitW_fin ⟨u, hu⟩ ⟨b.toNat, by omega⟩
  have e : ((b.toNat : Nat) : Int) = b := by omega
  simpa [e] using h
theorem orW_eq {u : Nat} {b : Int} (hu : u < 256) (h0 : 0 ≤ b) (h1 : b < 8) : orW (u : Int) b = ((u ||| 2 ^ b.toNat : Nat) : Int) ∧ u ||| 2 ^ b.toNat < 256 := by
  have h := orW_fin ⟨u, hu⟩ ⟨b.toNat, by omega⟩
  have e : ((b.toNat : Nat) : Int) = b := by omega
  simpa [e] using h
/-- What the walks ask of the modules. -/
structure WFm (ms : List S201) : Prop where
  node : ∀ i : Int, 0 ≤ i → i < ms.length → 1 ≤ (rd_T201 ms i).f0 ∧ (rd_T201 ms i).f0 ≤ 8
  link : ∀ i : Int, 0 ≤ i → i < ms.length → ∀ j : Int, 0 ≤ j → j < (rd_T201 ms i).f1.length → 0 ≤ (rd_T204 (rd_T201 ms i).f1 j).f0 ∧ (rd_T204 (rd_T201 ms i).f1 j).f0 < (rd_T201 ms i).f0 ∧ 0 ≤ (rd_T204 (rd_T201 ms i).f1 j).f1 ∧ (rd_T204 (rd_T201 ms i).f1 j).f1 < (rd_T201 ms i).f0 ∧ 0 ≤ (rd_T204 (rd_T201 ms i).f1 j).f3 ∧ (rd_T204 (rd_T201 ms i).f1 j).f3 < ms.length
def stepG (mt : S204 → ByteArray → Bool) (u : Nat) (f : ByteArray) (v : Nat) (l : S204) : Nat := if u.testBit l.f0.toNat && mt l f then v ||| 2 ^ l.f1.toNat else v
def setG (mt : S204 → ByteArray → Bool) (ls : List S204) (u : Nat) (f : ByteArray) : Nat := ls.foldl (stepG mt u f) 0
def aftG (mt : S204 → ByteArray → Bool) (ms : List S201) (m : Int) (u : Nat) (fs : List ByteArray) : Nat := fs.foldl (setG mt (rd_T201 ms m).f1) u
def canG (mt : S204 → ByteArray → Bool) (ms : List S201) (m : Int) (fs : List ByteArray) : Bool := (aftG mt ms m 1 fs).testBit ((rd_T201 ms m).f0 - 1).toNat
def mtc (ms : List S201) : Nat → S204 → ByteArray → Bool
  | 0 => fun _ _ => false
  | k + 1 => fun l f =>
    if f.size = 1 ∨ ¬ (l.f2.size = 2) then l.f2.toList == f.toList
    else (l.f2.toList == (f.extract 0 1 ++ f.extract (f.size - 1) f.size).toList) && canG (mtc ms k) ms l.f3 (facI (f.extract 1 (f.size - 1)))
theorem cells4 {w : World} {p : Addr} {v0 v1 v2 v3 : Value} (h0 : w.cell? (p.add 0) = some v0) (h1 : w.cell? (p.add 1) = some v1) (h2 : w.cell? (p.add 2) = some v2) (h3 : w.cell? (p.add 3) = some v3) :
    ∀ (j : Nat) v, [v0, v1, v2, v3][j]? = some v → w.cell? (p.add j) = some v
  | 0, v, e => by simp at e; subst e; exact h0
  | 1, v, e => by simp at e; subst e; exact h1
  | 2, v, e => by simp at e; subst e; exact h2
  | 3, v, e => by simp at e; subst e; exact h3
  | j + 4, v, e => by simp at e
theorem take_foldl_succ {α β : Type} {g : β → α → β} {b : β} {xs : List α} {z : α} {i : Nat} (h : i < xs.length) : (xs.take (i + 1)).foldl g b = g ((xs.take i).foldl g b) (xs.getD ((i : Int).toNat) z) := by
  rw [List.take_succ_eq_append_getElem h, List.foldl_append]
  simp [List.getD_eq_getElem?_getD, h]
theorem row_str {w : World} {F : Option Addr} {fs : List ByteArray} (h : RowV w F (fs.map Value.string)) {i : Nat} (hi : i < fs.length) : ∃ ad f, F = some ad ∧ f ∈ fs ∧ f = fs.getD ((i : Int).toNat) ⟨#[]⟩ ∧ w.cell? (ad.add (((i : Int)).toNat * 1)) = some (.string f) := by
  obtain ⟨ad, e, hc⟩ := h.at (i := (i : Int)) (by omega) (by simp; omega)
  refine ⟨ad, fs[i], e, List.getElem_mem hi, by simp [List.getD_eq_getElem?_getD, hi], ?_⟩
  rw [hc]; simp
theorem isCallLink_calls (l : S204) (w : World) :
    Calls Try.prog 170 #[.agg #[.int .i64 l.f0, .int .i64 l.f1, .string l.f2, .int .i64 l.f3]] w fun e w' => e = .returned (.bool ((l.f2.size : Int) == 2)) ∧ Below w.heap.size w w' := by
  have s0 := Sat.start w
  refine calls_of_cw (args := [.agg #[.int .i64 l.f0, .int .i64 l.f1, .string l.f2, .int .i64 l.f3]]) Try.func170 Try.ntmps170 rfl (by simp) ?_
  refine cw_seq ?_
  refine cw_region ?_
  refine o_box rfl s0 (by decide) (fun b1 w2 s2 => ?_)
  refine ow_val rfl rfl (by decide) (e_assign rfl) ?_
  refine ow_nil ?_
  refine then_normal ?_
  refine cw_seq ?_
  refine cw_region ?_
  refine ow_val rfl rfl (by decide) (e_fieldAddr rfl field204_2) ?_
  refine ow_val rfl rfl (by decide) (e_load rfl flat9 (s2.cell 0 rfl (Blk.reads rfl))) ?_
  refine ow_val rfl rfl (by decide) (e_len_str rfl Try.underlying9) ?_
  refine ow_val rfl rfl (by decide) (e_eql rfl rfl) ?_
  refine ow_val rfl rfl (by decide) (e_assign rfl) ?_
  refine ow_nil ?_
  refine then_normal ?_
  refine cw_ret ?_
  refine ends1 (v := .bool ((l.f2.size : Int) == 2)) (.inl rfl) Try.results170 rfl ?_
  exact ⟨rfl, s2.toBelow 1 rfl⟩
theorem exit_calls (ms : List S201) (m : Int) (A : Option Addr) (c : Nat) (w : World) (hC : Kd.C k201 w A ms.length ms) (hm0 : 0 ≤ m) (hm1 : m < ms.length) (hn : 1 ≤ (rd_T201 ms m).f0 ∧ (rd_T201 ms m).f0 ≤ 8) :
    Calls Try.prog 88 #[.agg #[.slice A ms.length c], .int .i64 m] w fun e w' => e = .returned (.int .i64 ((rd_T201 ms m).f0 - 1)) ∧ Below w.heap.size w w' := by
  have s0 := Sat.start w
  refine calls_of_cw (args := [.agg #[.slice A ms.length c], .int .i64 m]) Try.func88 Try.ntmps88 rfl (by simp) ?_
  refine cw_seq ?_
  refine cw_region ?_
  refine o_box rfl s0 (by decide) (fun b1 w2 s2 => ?_)
  refine ow_val rfl rfl (by decide) (e_assign rfl) ?_
  refine ow_nil ?_
  refine then_normal ?_
  refine cw_seq ?_
  refine cw_region ?_
  refine ow_val rfl rfl (by decide) (e_fieldAddr rfl field30_0) ?_
  refine ow_val rfl rfl (by decide) (e_load rfl flat28 (s2.cell 0 rfl (Blk.reads rfl))) ?_
  refine ow_val rfl rfl (by decide) (e_move rfl) ?_
  obtain ⟨ad, A1, cm, eA, hx0, hx1, hl1, hC1⟩ := at_T201 hC m hm0 hm1
  obtain ⟨md, hmd⟩ : ∃ md, md = rd_T201 ms m := ⟨_, rfl⟩
  rw [← hmd] at hx0 hx1 hl1 hC1
  have hmax1 := hC1.2.1
  subst eA
  refine o_idxR rfl rfl slt28 (by omega) (by omega) (by decide) ?_
  refine ow_val rfl rfl (by decide) (e_fieldA rfl field201_0 rfl) ?_
  refine ow_val rfl rfl (by decide) (e_load rfl flat2 (s2.oldCell 1 rfl hx0)) ?_
  rw [← hmd] at hn
  refine o_subI rfl rfl (by omega) (by omega) (by decide) ?_
  refine ow_val rfl rfl (by decide) (e_assign rfl) ?_
  refine ow_nil ?_
  refine then_normal ?_
  refine cw_ret ?_
  refine ends1 (v := .int .i64 (md.f0 - 1)) (.inl rfl) Try.results88 rfl ?_
  exact ⟨by rw [hmd], s2.toBelow 1 rfl⟩
def MatOk (k : Nat) (ms : List S201) : Prop := ∀ (l : S204) (f : ByteArray) (A : Option Addr) (c : Nat) (w : World), Kd.C k201 w A ms.length ms → 1 ≤ f.size → f.size ≤ k → 0 ≤ l.f3 → l.f3 < ms.length →
    Calls Try.prog 169 #[.agg #[.slice A ms.length c], .agg #[.int .i64 l.f0, .int .i64 l.f1, .string l.f2, .int .i64 l.f3], .string f] w fun e w' => e = .returned (.bool (mtc ms k l f)) ∧ Below w.heap.size w w'
def CanOk (k : Nat) (ms : List S201) : Prop := ∀ (m : Int) (fs : List ByteArray) (A F : Option Addr) (c cF : Nat) (w : World), Kd.C k201 w A ms.length ms → RowV w F (fs.map Value.string) → fs.length ≤ 1000000 → (∀ f ∈ fs, 1 ≤ f.size ∧ f.size ≤ k) → 0 ≤ m → m < ms.length →
    Calls Try.prog 74 #[.agg #[.slice A ms.length c], .int .i64 m, .int .i64 0, .slice F fs.length cF] w fun e w' => e = .returned (.bool (canG (mtc ms k) ms m fs)) ∧ Below w.heap.size w w'
theorem after_calls (k : Nat) (ms : List S201) (hM : MatOk k ms) (hW : WFm ms) (m : Int) (u0 : Nat) (fs : List ByteArray) (A F : Option Addr) (c cF : Nat) (w : World) (hC : Kd.C k201 w A ms.length ms) (hF : RowV w F (fs.map Value.string)) (hfl : fs.length ≤ 1000000) (hfs : ∀ f ∈ fs, 1 ≤ f.size ∧ f.size ≤ k) (hm0 : 0 ≤ m) (hm1 : m < ms.length) (hu0 : u0 < 256) :
    Calls Try.prog 164 #[.agg #[.slice A ms.length c], .int .i64 m, .int .u64 (u0 : Int), .slice F fs.length cF] w fun e w' => ∃ u : Nat, u < 256 ∧ u = aftG (mtc ms k) ms m u0 fs ∧ e = .returned (.int .u64 (u : Int)) ∧ Below w.heap.size w w' := by
  have s0 := Sat.start w
  refine calls_of_cw (args := [.agg #[.slice A ms.length c], .int .i64 m, .int .u64 (u0 : Int), .slice F fs.length cF]) Try.func164 Try.ntmps164 rfl (by simp) ?_
  refine cw_seq ?_
  refine cw_region ?_
  refine o_box rfl s0 (by decide) (fun bp w1 s1 => ?_)
  refine ow_val rfl rfl (by decide) (e_assign rfl) ?_
  refine ow_nil ?_
  refine then_normal ?_
  refine cw_seq ?_
  refine cw_seq ?_
  refine cw_region ?_
  refine ow_val rfl rfl (by decide) (e_move rfl) ?_
  refine ow_val rfl rfl (by decide) (e_len_slice rfl Try.underlying102) ?_
  refine ow_val rfl rfl (by decide) (e_move rfl) ?_
  refine ow_nil ?_
  refine then_normal ?_
  refine cw_block ?_
  refine cw_loop (fun μ_ f_ w_ => ∃ i : Nat, ∃ u : Nat, μ_ = fs.length - i ∧ f_ 1 = .int .i64 m ∧ f_ 2 = .int .u64 (u : Int) ∧ f_ 4 = .pointer (some ⟨bp, 0, none⟩) ∧ f_ 14 = .slice F fs.length cF ∧ f_ 15 = .int .i64 (fs.length : Int) ∧ f_ 16 = .int .i64 (i : Int) ∧ (i ≤ fs.length) ∧ (u < 256) ∧ (u = (fs.take i).foldl (setG (mtc ms k) (rd_T201 ms m).f1) u0) ∧ Sat w w_ [Blk bp 30 [.slice A ms.length c], Old w]) fs.length ⟨0, u0, rfl, rfl, rfl, rfl, rfl, rfl, rfl, Nat.zero_le _, hu0, rfl, s1⟩ ?_
  intro k_ f_ w_ h_
  obtain ⟨i, u, rfl, e2_1, e2_2, e2_4, e2_14, e2_15, e2_16, hi, hu, hud, s2⟩ := h_
  skip
  refine cw_seq ?_
  refine cw_region ?_
  refine ow_val rfl rfl (by decide) (e_lss e2_16 e2_15) ?_
  refine ow_nil ?_
  refine then_normal ?_
  refine cw_seq ?_
  refine cw_cond rfl (fun c3 => ?_) (fun c3 => ?_)
  · skip
    have hlt : i < fs.length := by have := of_decide_eq_true c3; omega
    refine cw_skip ?_
    refine then_normal ?_
    refine cw_seq ?_
    refine cw_block ?_
    refine cw_seq ?_
    refine cw_region ?_
    obtain ⟨adf, f, eF, hfm, hfe, hfc⟩ := row_str hF hlt
    subst eF
    refine o_idxR e2_14 e2_16 slt102 (by omega) (by omega) (by decide) ?_
    refine ow_val rfl rfl (by decide) (e_load rfl flat9 (s2.oldCell 1 rfl hfc)) ?_
    refine ow_val rfl rfl (by decide) (e_assign rfl) ?_
    refine ow_nil ?_
    refine then_normal ?_
    refine cw_seq ?_
    refine cw_region ?_
    refine ow_val rfl rfl (by decide) (e_assign rfl) ?_
    refine ow_nil ?_
    refine then_normal ?_
    refine cw_seq ?_
    refine cw_seq ?_
    refine cw_region ?_
    refine ow_val rfl rfl (by decide) (e_fieldAddr e2_4 field30_0) ?_
    refine ow_val rfl rfl (by decide) (e_load rfl flat28 (s2.cell 0 rfl (Blk.reads rfl))) ?_
    refine ow_val rfl rfl (by decide) (e_move e2_1) ?_
    obtain ⟨ad, A1, cm, eA, hx0, hx1, hl1, hC1⟩ := at_T201 hC m hm0 hm1
    obtain ⟨md, hmd⟩ : ∃ md, md = rd_T201 ms m := ⟨_, rfl⟩
    rw [← hmd] at hx0 hx1 hl1 hC1
    have hmax1 := hC1.2.1
    subst eA
    refine o_idxR rfl rfl slt28 (by omega) (by omega) (by decide) ?_
    refine ow_val rfl rfl (by decide) (e_fieldA rfl field201_1 rfl) ?_
    refine ow_val rfl rfl (by decide) (e_load rfl flat199 (s2.oldCell 1 rfl hx1)) ?_
    refine ow_val rfl rfl (by decide) (e_len_slice rfl Try.underlying199) ?_
    refine ow_val rfl rfl (by decide) (e_move rfl) ?_
    refine ow_nil ?_
    refine then_normal ?_
    refine cw_block ?_
    refine cw_loop (fun μ_ f_ w_ => ∃ j : Nat, ∃ v : Nat, μ_ = md.f1.length - j ∧ f_ 1 = .int .i64 m ∧ f_ 2 = .int .u64 (u : Int) ∧ f_ 4 = .pointer (some ⟨bp, 0, none⟩) ∧ f_ 10 = .string f ∧ f_ 11 = .int .u64 (v : Int) ∧ f_ 14 = .slice (some adf) fs.length cF ∧ f_ 15 = .int .i64 (fs.length : Int) ∧ f_ 16 = .int .i64 (i : Int) ∧ f_ 25 = .slice A1 md.f1.length cm ∧ f_ 26 = .int .i64 (md.f1.length : Int) ∧ f_ 27 = .int .i64 (j : Int) ∧ (j ≤ md.f1.length) ∧ (v < 256) ∧ (v = (md.f1.take j).foldl (stepG (mtc ms k) u f) 0) ∧ Sat w w_ [Blk bp 30 [.slice (some ad) ms.length c], Old w]) md.f1.length ⟨0, 0, rfl, e2_1, e2_2, e2_4, rfl, rfl, e2_14, e2_15, e2_16, rfl, rfl, rfl, Nat.zero_le _, by decide, rfl, s2⟩ ?_
    intro k_ f_ w_ h_
    obtain ⟨j, v, rfl, e4_1, e4_2, e4_4, e4_10, e4_11, e4_14, e4_15, e4_16, e4_25, e4_26, e4_27, hj, hv, hvd, s4⟩ := h_
    skip
    refine cw_seq ?_
    refine cw_region ?_
    refine ow_val rfl rfl (by decide) (e_lss e4_27 e4_26) ?_
    refine ow_nil ?_
    refine then_normal ?_
    refine cw_seq ?_
    refine cw_cond rfl (fun c5 => ?_) (fun c5 => ?_)
    · skip
      have hltj : j < md.f1.length := by have := of_decide_eq_true c5; omega
      refine cw_skip ?_
      refine then_normal ?_
      refine cw_seq ?_
      refine cw_block ?_
      refine cw_seq ?_
      refine cw_region ?_
      obtain ⟨ad2, eA1, hy0, hy1, hy2, hy3⟩ := at_T204 hC1 (j : Int) (by omega) (by omega)
      have hlk := hW.link m hm0 hm1 (j : Int) (by omega) (by rw [← hmd]; omega)
      have hnd := hW.node m hm0 hm1
      rw [← hmd] at hlk hnd
      obtain ⟨ld, hld⟩ : ∃ ld, ld = rd_T204 md.f1 (j : Int) := ⟨_, rfl⟩
      rw [← hld] at hy0 hy1 hy2 hy3 hlk
      subst eA1
      refine o_idxR e4_25 e4_27 slt199 (by omega) (by omega) (by decide) ?_
      refine ow_val rfl rfl (by decide) (e_loadN (cs := [.int .i64 ld.f0, .int .i64 ld.f1, .string ld.f2, .int .i64 ld.f3]) rfl agg204 rfl (cells4 (s4.oldCell 1 rfl hy0) (s4.oldCell 1 rfl hy1) (s4.oldCell 1 rfl hy2) (s4.oldCell 1 rfl hy3))) ?_
      refine o_alloc zero204 s4 (by decide) (fun b6 w7 s7 => ?_)
      refine o_storeBlk rfl rfl (by simp [Value.oneCell']) agg204 rfl s7 (i := 0) rfl (Nat.le_of_ble_eq_true rfl) (fun w8 s8 => ?_)
      refine ow_nil ?_
      refine then_normal ?_
      refine cw_seq ?_
      refine cw_region ?_
      refine ow_val rfl rfl (by decide) (e_move e4_2) ?_
      refine ow_val rfl rfl (by decide) (e_fieldAddr rfl field204_0) ?_
      refine ow_val rfl rfl (by decide) (e_load rfl flat2 (s8.cell 0 rfl (Blk.reads rfl))) ?_
      refine ow_val rfl rfl (by decide) (e_shr rfl rfl (by omega)) ?_
      refine ow_val rfl rfl (by decide) (e_and rfl rfl) ?_
      refine ow_val rfl rfl (by decide) ((e_eql (k := .u64) (a := bitW (u : Int) ld.f0) (b := 1) rfl rfl).trans (by rw [bitW_eq hu (by omega) (by omega)])) ?_
      refine ow_val rfl rfl (by decide) (e_move rfl) ?_
      refine ow_split (g := 37) (by decide) rfl (fun g9 => ?_) (fun g9 => ?_)
      · skip
        skip
        refine ow_in rfl rfl ?_
        refine ow_val rfl rfl (by decide) (e_loadN e4_4 agg30 rfl (s8.cellsAt (m := 1) 1 rfl 0)) ?_
        refine ow_in rfl rfl ?_
        refine ow_val rfl rfl (by decide) (e_loadN rfl agg204 rfl (s8.cellsAt (m := 4) 0 rfl 0)) ?_
        refine ow_in rfl rfl ?_
        refine ow_val rfl rfl (by decide) (e_move e4_10) ?_
        refine ow_in rfl rfl ?_
        refine o_call enter169 rfl (by decide) ?_
        have hff := hfs f hfm
        refine (hM ld f _ c _ (Kd.C_below hC (s8.toBelow 2 rfl)) hff.1 hff.2 (by omega) (by omega)).mono ?_
        rintro e_ w10 ⟨rfl, hb_⟩
        have s10 := s8.below hb_
        refine ⟨_, rfl, ?_⟩
        refine ow_val rfl rfl (by decide) (e_pick rfl) ?_
        refine ow_nil ?_
        refine then_normal ?_
        refine cw_cond rfl (fun c11 => ?_) (fun c11 => ?_)
        · skip
          skip
          refine cw_region ?_
          refine ow_val rfl rfl (by decide) (e_move e4_11) ?_
          refine ow_val rfl rfl (by decide) (e_fieldAddr rfl field204_1) ?_
          refine ow_val rfl rfl (by decide) (e_load rfl flat2 (s10.cell 0 rfl (Blk.reads rfl))) ?_
          refine ow_val rfl rfl (by decide) (e_shl rfl rfl (by omega)) ?_
          have hor := orW_eq hv (b := ld.f1) (by omega) (by omega)
          refine ow_val2 rfl rfl (by decide) (e_or rfl rfl) (congrArg (Value.int .u64) hor.1) ?_
          refine ow_val rfl rfl (by decide) (e_assign rfl) ?_
          refine ow_nil ?_
          refine inb_normal ?_
          refine then_normal ?_
          refine cw_region ?_
          refine o_addI e4_27 rfl (by omega) (by omega) (by decide) ?_
          refine ow_val rfl rfl (by decide) (e_move rfl) ?_
          refine ow_nil ?_
          refine then_normal ?_
          exact ⟨_, by omega, j + 1, (v ||| 2 ^ ld.f1.toNat), rfl, e4_1, e4_2, e4_4, e4_10, rfl, e4_14, e4_15, e4_16, e4_25, e4_26, rfl, by omega, hor.2, by rw [take_foldl_succ (z := z204) hltj, ← hvd]; show _ = stepG (mtc ms k) u f v (rd_T204 md.f1 (j : Int)); rw [← hld]; simp [stepG, g9, c11], (s10.pickN 3 [1, 2] rfl (by decide) rfl)⟩
        · skip
          skip
          refine cw_skip ?_
          refine inb_normal ?_
          refine then_normal ?_
          refine cw_region ?_
          refine o_addI e4_27 rfl (by omega) (by omega) (by decide) ?_
          refine ow_val rfl rfl (by decide) (e_move rfl) ?_
          refine ow_nil ?_
          refine then_normal ?_
          exact ⟨_, by omega, j + 1, v, rfl, e4_1, e4_2, e4_4, e4_10, e4_11, e4_14, e4_15, e4_16, e4_25, e4_26, rfl, by omega, hv, by rw [take_foldl_succ (z := z204) hltj, ← hvd]; show _ = stepG (mtc ms k) u f v (rd_T204 md.f1 (j : Int)); rw [← hld]; simp [stepG, c3, c5, g9, c11], (s10.pickN 3 [1, 2] rfl (by decide) rfl)⟩
      · skip
        skip
        refine ow_out rfl rfl rfl (by decide) ?_
        refine ow_out rfl rfl rfl (by decide) ?_
        refine ow_out rfl rfl rfl (by decide) ?_
        refine ow_out rfl rfl rfl (by decide) ?_
        refine ow_val rfl rfl (by decide) (e_pick rfl) ?_
        refine ow_nil ?_
        refine then_normal ?_
        refine cw_cond_false rfl ?_
        refine cw_skip ?_
        refine inb_normal ?_
        refine then_normal ?_
        refine cw_region ?_
        refine o_addI e4_27 rfl (by omega) (by omega) (by decide) ?_
        refine ow_val rfl rfl (by decide) (e_move rfl) ?_
        refine ow_nil ?_
        refine then_normal ?_
        exact ⟨_, by omega, j + 1, v, rfl, e4_1, e4_2, e4_4, e4_10, e4_11, e4_14, e4_15, e4_16, e4_25, e4_26, rfl, by omega, hv, by rw [take_foldl_succ (z := z204) hltj, ← hvd]; show _ = stepG (mtc ms k) u f v (rd_T204 md.f1 (j : Int)); rw [← hld]; simp [stepG, c3, c5, g9], (s8.pickN 3 [1, 2] rfl (by decide) rfl)⟩
    · skip
      have hgej : j = md.f1.length := by have := of_decide_eq_false c5; omega
      have hvd2 : v = setG (mtc ms k) md.f1 u f := by rw [hgej, List.take_length] at hvd; exact hvd
      refine cw_exit ?_
      refine then_exit ?_
      refine then_exit ?_
      refine inb_exit ?_
      refine then_normal ?_
      refine cw_region ?_
      refine ow_val rfl rfl (by decide) (e_move e4_11) ?_
      refine ow_val rfl rfl (by decide) (e_assign rfl) ?_
      refine ow_nil ?_
      refine inb_normal ?_
      refine then_normal ?_
      refine cw_region ?_
      refine o_addI e4_16 rfl (by omega) (by omega) (by decide) ?_
      refine ow_val rfl rfl (by decide) (e_move rfl) ?_
      refine ow_nil ?_
      refine then_normal ?_
      exact ⟨_, by omega, i + 1, v, rfl, e4_1, rfl, e4_4, e4_14, e4_15, rfl, by omega, hv, by rw [take_foldl_succ (z := ⟨#[]⟩) hlt, ← hud, ← hfe, ← hmd]; exact hvd2, s4⟩
  · skip
    have hge : i = fs.length := by have := of_decide_eq_false c3; omega
    refine cw_exit ?_
    refine then_exit ?_
    refine then_exit ?_
    refine inb_exit ?_
    refine then_normal ?_
    refine cw_seq ?_
    refine cw_region ?_
    refine ow_val rfl rfl (by decide) (e_move e2_2) ?_
    refine ow_val rfl rfl (by decide) (e_assign rfl) ?_
    refine ow_nil ?_
    refine then_normal ?_
    refine cw_ret ?_
    refine ends1 (v := .int .u64 (u : Int)) (.inl rfl) Try.results164 rfl ?_
    exact ⟨u, hu, by rw [hud, hge, List.take_length]; rfl, rfl, s2.toBelow 1 rfl⟩
end Go.Proofs.Ytjkohjdiddhpcaa.My
set_option linter.unusedVariables false
set_option linter.unusedSimpArgs false
namespace Go.Proofs.Ytjkohjdiddhpcaa.My
open Go.Sl Go.RowKit Go.Proofs.YtjkohjdiddhpcaaW.PrintWords Go.Proofs.YtjkohjdiddhpcaaW.PrintLast Go.Proofs.YtjkohjdiddhpcaaW.PrintMore Go.Proofs.Ytjkohjdiddhpcaa.PFnExactCountProgramWords
theorem enter74 : enterB Try.prog 74 = true := by kernel_rfl
theorem enter75 : enterB Try.prog 75 = true := by kernel_rfl
theorem enter88 : enterB Try.prog 88 = true := by kernel_rfl
theorem enter164 : enterB Try.prog 164 = true := by kernel_rfl
theorem enter170 : enterB Try.prog 170 = true := by kernel_rfl
theorem facGo_mem (s : ByteArray) : ∀ k i, ∀ x ∈ facGo s (mAt s s.size).p k i, 1 ≤ x.size ∧ x.size ≤ s.size
  | 0, i, x, h => by simp [facGo] at h
  | k + 1, i, x, h => by
    rw [facGo] at h
    split at h
    · rename_i hlt
      obtain ⟨y, h1, h2, h3, h4⟩ := mx_get hlt
      rw [h1] at h
      rcases List.mem_cons.1 h with rfl | h
      · rw [ByteArray.size_extract]; omega
      · exact facGo_mem s k _ x h
    · simp at h
theorem facGo_len (s : ByteArray) : ∀ k i, (facGo s (mAt s s.size).p k i).length ≤ s.size - i
  | 0, i => by simp [facGo]
  | k + 1, i => by
    rw [facGo]
    split
    · rename_i hlt
      obtain ⟨y, h1, h2, h3, h4⟩ := mx_get hlt
      rw [h1]
      have := facGo_len s k ((mx i y).toNat + 1)
      simp only [List.length_cons]
      omega
    · simp
theorem facI_mem {s x : ByteArray} (h : x ∈ facI s) : 1 ≤ x.size ∧ x.size ≤ s.size := facGo_mem s _ _ x h
theorem mtc_eq {ms : List S201} {k : Nat} {l : S204} {f : ByteArray} (h : f.size = 1 ∨ ¬ (l.f2.size = 2)) : mtc ms (k + 1) l f = (l.f2.toList == f.toList) := by
  show (if _ then _ else _) = _
  rw [if_pos h]
theorem mtc_in {ms : List S201} {k : Nat} {l : S204} {f : ByteArray} (h : ¬ (f.size = 1 ∨ ¬ (l.f2.size = 2))) : mtc ms (k + 1) l f = ((l.f2.toList == (f.extract 0 1 ++ f.extract (f.size - 1) f.size).toList) && canG (mtc ms k) ms l.f3 (facI (f.extract 1 (f.size - 1)))) := by
  show (if _ then _ else _) = _
  rw [if_neg h]
theorem facI_len (s : ByteArray) : (facI s).length ≤ s.size := facGo_len s _ _
theorem can_of (k : Nat) (ms : List S201) (hM : MatOk k ms) (hW : WFm ms) : CanOk k ms := fun m fs A F c cF w hC hF hfl hfs hm0 hm1 => by
  have hmix : Try.prog.follows .mixedOrders = true := by kernel_rfl
  have hnd := hW.node m hm0 hm1
  have s0 := Sat.start w
  refine calls_of_cw (args := [.agg #[.slice A ms.length c], .int .i64 m, .int .i64 0, .slice F fs.length cF]) Try.func74 Try.ntmps74 rfl (by simp) ?_
  refine cw_seq ?_
  refine cw_region ?_
  refine o_box rfl s0 (by decide) (fun bp w1 s1 => ?_)
  refine ow_val rfl rfl (by decide) (e_assign rfl) ?_
  refine ow_nil ?_
  refine then_normal ?_
  refine cw_seq ?_
  refine al_begin #[false, false, false, false, false, false, false, false, false, false, false, false, false] [] s1 hmix rfl rfl (fun w2 s2 => ?_)
  refine al_take 0 #[true, false, false, false, false, false, false, false, false, false, false, false, false] rfl rfl (by decide) (by kernel_rfl) (fun _ _ _ h => h) (ya rfl (fun w_ s_ => e_loadN rfl agg30 rfl (s_.cellsAt (m := 1) 0 rfl 0))) s2 ?_
  refine al_take 1 #[true, true, false, false, false, false, false, false, false, false, false, false, false] rfl rfl (by decide) (by kernel_rfl) (fun _ _ _ h => h) (ya rfl (fun w_ s_ => e_move rfl)) s2 ?_
  refine al_take 2 #[true, true, true, false, false, false, false, false, false, false, false, false, false] rfl rfl (by decide) (by kernel_rfl) (fun _ _ _ h => h) (ya rfl (fun w_ s_ => e_move rfl)) s2 ?_
  refine al_take 3 #[true, true, true, true, false, false, false, false, false, false, false, false, false] rfl rfl (by decide) (by kernel_rfl) (fun _ _ _ h => h) (ya rfl (fun w_ s_ => e_shl (k := .u64) (a := 1) (b := 0) rfl rfl (by decide))) s2 ?_
  refine al_take 4 #[true, true, true, true, true, false, false, false, false, false, false, false, false] rfl rfl (by decide) (by kernel_rfl) (fun _ _ _ h => h) (ya rfl (fun w_ s_ => e_move rfl)) s2 ?_
  refine al_take 6 #[true, true, true, true, true, false, true, false, false, false, false, false, false] rfl rfl (by decide) (by kernel_rfl) (fun _ _ _ h => h) (ya rfl (fun w_ s_ => e_loadN rfl agg30 rfl (s_.cellsAt (m := 1) 0 rfl 0))) s2 ?_
  refine al_take 7 #[true, true, true, true, true, false, true, true, false, false, false, false, false] rfl rfl (by decide) (by kernel_rfl) (fun _ _ _ h => h) (ya rfl (fun w_ s_ => e_move rfl)) s2 ?_
  refine al_one 5 #[true, true, true, true, true, true, true, true, false, false, false, false, false] (by kernel_rfl) rfl ?_
  refine o_call enter164 rfl (by decide) ?_
  refine (after_calls k ms hM hW m 1 fs A F c cF _ (Kd.C_below hC (s2.toBelow 1 rfl)) (hF.below (s2.toBelow 1 rfl)) hfl hfs hm0 hm1 (by decide)).mono ?_
  rintro e_ w3 ⟨u, hu, hud, rfl, hb_⟩
  have s3 := s2.below hb_
  refine ⟨_, rfl, ?_⟩
  refine stepL_nil (fun _ => s3) ?_
  refine al_one 8 #[true, true, true, true, true, true, true, true, true, false, false, false, false] (by kernel_rfl) rfl ?_
  refine o_call enter88 rfl (by decide) ?_
  refine (exit_calls ms m A c _ (Kd.C_below hC (s3.toBelow 1 rfl)) hm0 hm1 hnd).mono ?_
  rintro e_ w4 ⟨rfl, hb_⟩
  have s4 := s3.below hb_
  refine ⟨_, rfl, ?_⟩
  refine stepL_nil (fun _ => s4) ?_
  refine al_take 9 #[true, true, true, true, true, true, true, true, true, true, false, false, false] rfl rfl (by decide) (by kernel_rfl) (fun _ _ _ h => h) (ya rfl (fun w_ s_ => e_shr rfl rfl (by omega))) s4 ?_
  refine al_take 10 #[true, true, true, true, true, true, true, true, true, true, true, false, false] rfl rfl (by decide) (by kernel_rfl) (fun _ _ _ h => h) (ya rfl (fun w_ s_ => e_and rfl rfl)) s4 ?_
  refine al_take 11 #[true, true, true, true, true, true, true, true, true, true, true, true, false] rfl rfl (by decide) (by kernel_rfl) (fun _ _ _ h => h) (ya rfl (fun w_ s_ => (e_eql (k := .u64) (a := bitW (u : Int) ((rd_T201 ms m).f0 - 1)) (b := 1) rfl rfl).trans (by rw [bitW_eq hu (by omega) (by omega)]))) s4 ?_
  refine al_take 12 #[true, true, true, true, true, true, true, true, true, true, true, true, true] rfl rfl (by decide) (by kernel_rfl) (fun _ _ _ h => h) (ya rfl (fun w_ s_ => e_assign rfl)) s4 ?_
  refine al_done (by kernel_rfl) ?_
  refine then_normal ?_
  refine cw_ret ?_
  refine ends1 (v := .bool (u.testBit ((rd_T201 ms m).f0 - 1).toNat)) (.inl rfl) Try.results74 rfl ?_
  exact ⟨by rw [hud]; rfl, s4.toBelow 1 rfl⟩
theorem mat_of (k : Nat) (ms : List S201) (hK : CanOk k ms) (hk : k ≤ 1000) : MatOk (k + 1) ms := fun l f A c w hC hf1 hfk hl0 hl1 => by
  have hmix : Try.prog.follows .mixedOrders = true := by kernel_rfl
  have hsz1 : ((f.size : Int) - 1) = ((f.size - 1 : Nat) : Int) := by omega
  have s0 := Sat.start w
  refine calls_of_cw (args := [.agg #[.slice A ms.length c], .agg #[.int .i64 l.f0, .int .i64 l.f1, .string l.f2, .int .i64 l.f3], .string f]) Try.func169 Try.ntmps169 rfl (by simp) ?_
  refine cw_seq ?_
  refine cw_region ?_
  refine o_box rfl s0 (by decide) (fun bp w1 s1 => ?_)
  refine o_box rfl s1 (by decide) (fun bl w2 s2 => ?_)
  refine ow_val rfl rfl (by decide) (e_assign rfl) ?_
  refine ow_nil ?_
  refine then_normal ?_
  refine cw_seq ?_
  refine cw_region ?_
  refine ow_val rfl rfl (by decide) (e_move rfl) ?_
  refine ow_val rfl rfl (by decide) (e_len_str rfl Try.underlying9) ?_
  refine o_subI rfl rfl (by omega) (by omega) (by decide) ?_
  refine ow_val rfl rfl (by decide) (e_assign rfl) ?_
  refine ow_nil ?_
  refine then_normal ?_
  refine cw_seq ?_
  refine cw_seq ?_
  refine cw_region ?_
  refine ow_val rfl rfl (by decide) (e_move rfl) ?_
  refine ow_val rfl rfl (by decide) (e_eql rfl rfl) ?_
  refine ow_val rfl rfl (by decide) (e_move rfl) ?_
  refine ow_split (g := 13) (by decide) rfl (fun g3 => ?_) (fun g3 => ?_)
  · skip
    have h1 : f.size = 1 := by have := eq_of_beq g3; omega
    refine ow_out rfl rfl rfl (by decide) ?_
    refine ow_out rfl rfl rfl (by decide) ?_
    refine ow_out rfl rfl rfl (by decide) ?_
    refine ow_val rfl rfl (by decide) (e_pick rfl) ?_
    refine ow_nil ?_
    refine then_normal ?_
    refine cw_cond_true rfl ?_
    refine cw_seq ?_
    refine cw_region ?_
    refine ow_val rfl rfl (by decide) (e_fieldAddr rfl field204_2) ?_
    refine ow_val rfl rfl (by decide) (e_load rfl flat9 (s2.cell 0 rfl (Blk.reads rfl))) ?_
    refine ow_val rfl rfl (by decide) (e_move rfl) ?_
    refine ow_val rfl rfl (by decide) (e_seql rfl rfl) ?_
    refine ow_val rfl rfl (by decide) (e_assign rfl) ?_
    refine ow_nil ?_
    refine then_normal ?_
    refine cw_ret ?_
    refine then_ret ?_
    refine ends1 (v := .bool ((l.f2 : ByteArray).toList == (f : ByteArray).toList)) (.inl rfl) Try.results169 rfl ?_
    exact ⟨congrArg (fun b => Ending.returned (.bool b)) (by rw [mtc_eq (.inl h1)]), s2.toBelow 2 rfl⟩
  · skip
    have h1 : ¬ f.size = 1 := by have := ne_of_beq_false g3; omega
    refine ow_in rfl rfl ?_
    refine ow_val rfl rfl (by decide) (e_loadN rfl agg204 rfl (s2.cellsAt (m := 4) 0 rfl 0)) ?_
    refine ow_in rfl rfl ?_
    refine o_call enter170 rfl (by decide) ?_
    refine (isCallLink_calls l _).mono ?_
    rintro e_ w5 ⟨rfl, hb_⟩
    have s5 := s2.below hb_
    refine ⟨_, rfl, ?_⟩
    refine ow_in rfl rfl ?_
    refine ow_val rfl rfl (by decide) (e_not rfl) ?_
    refine ow_val rfl rfl (by decide) (e_pick rfl) ?_
    refine ow_nil ?_
    refine then_normal ?_
    refine cw_cond rfl (fun c6 => ?_) (fun c6 => ?_)
    · skip
      have h2 : ¬ (l.f2.size = 2) := by intro h; rw [h] at c6; simp at c6
      refine cw_seq ?_
      refine cw_region ?_
      refine ow_val rfl rfl (by decide) (e_fieldAddr rfl field204_2) ?_
      refine ow_val rfl rfl (by decide) (e_load rfl flat9 (s5.cell 0 rfl (Blk.reads rfl))) ?_
      refine ow_val rfl rfl (by decide) (e_move rfl) ?_
      refine ow_val rfl rfl (by decide) (e_seql rfl rfl) ?_
      refine ow_val rfl rfl (by decide) (e_assign rfl) ?_
      refine ow_nil ?_
      refine then_normal ?_
      refine cw_ret ?_
      refine then_ret ?_
      refine ends1 (v := .bool ((l.f2 : ByteArray).toList == (f : ByteArray).toList)) (.inl rfl) Try.results169 rfl ?_
      exact ⟨congrArg (fun b => Ending.returned (.bool b)) (by rw [mtc_eq (.inr h2)]), s5.toBelow 2 rfl⟩
    · skip
      have h2 : l.f2.size = 2 := Classical.byContradiction fun h => by (have h3 : ((l.f2.size : Int) == 2) = false := beq_false_of_ne (by omega)); rw [h3] at c6; cases c6
      refine cw_skip ?_
      refine then_normal ?_
      refine cw_seq ?_
      refine al_begin #[false, false, false, false, false, false, false, false, false, false, false, false, false, false, false, false, false, false, false, false] [] s5 hmix rfl rfl (fun w7 s7 => ?_)
      refine al_take 0 #[true, false, false, false, false, false, false, false, false, false, false, false, false, false, false, false, false, false, false, false] rfl rfl (by decide) (by kernel_rfl) (fun _ _ _ h => h) (ya rfl (fun w_ s_ => e_fieldAddr rfl field204_2)) s7 ?_
      refine al_take 1 #[true, true, false, false, false, false, false, false, false, false, false, false, false, false, false, false, false, false, false, false] rfl rfl (by decide) (by kernel_rfl) (fun _ _ _ h => h) (ya rfl (fun w_ s_ => e_load rfl flat9 (s_.cell 0 rfl (Blk.reads rfl)))) s7 ?_
      refine al_take 2 #[true, true, true, false, false, false, false, false, false, false, false, false, false, false, false, false, false, false, false, false] rfl rfl (by decide) (by kernel_rfl) (fun _ _ _ h => h) (ya rfl (fun w_ s_ => e_move rfl)) s7 ?_
      refine al_take 3 #[true, true, true, true, false, false, false, false, false, false, false, false, false, false, false, false, false, false, false, false] rfl rfl (by decide) (by kernel_rfl) (fun _ _ _ h => h) (ya rfl (fun w_ s_ => e_sliceS (l := 0) (h := 1) rfl Try.underlying9 (.inl ⟨rfl, rfl⟩) (.inr ⟨.i64, rfl⟩) (by omega) (by omega))) s7 ?_
      refine al_take 4 #[true, true, true, true, true, false, false, false, false, false, false, false, false, false, false, false, false, false, false, false] rfl rfl (by decide) (by kernel_rfl) (fun _ _ _ h => h) (ya rfl (fun w_ s_ => e_move rfl)) s7 ?_
      refine al_take 5 #[true, true, true, true, true, true, false, false, false, false, false, false, false, false, false, false, false, false, false, false] rfl rfl (by decide) (by kernel_rfl) (fun _ _ _ h => h) (ya rfl (fun w_ s_ => e_move rfl)) s7 ?_
      refine al_take 6 #[true, true, true, true, true, true, true, false, false, false, false, false, false, false, false, false, false, false, false, false] rfl rfl (by decide) (by kernel_rfl) (fun _ _ _ h => h) (ya rfl (fun w_ s_ => e_sliceS (l := f.size - 1) (h := f.size) rfl Try.underlying9 (.inr ⟨.i64, congrArg (fun x => some (Value.int .i64 x)) hsz1⟩) (.inl ⟨rfl, rfl⟩) (by omega) (by omega))) s7 ?_
      refine al_take 7 #[true, true, true, true, true, true, true, true, false, false, false, false, false, false, false, false, false, false, false, false] rfl rfl (by decide) (by kernel_rfl) (fun _ _ _ h => h) (ya rfl (fun w_ s_ => e_sadd rfl rfl (by simp only [ByteArray.size_extract]; omega))) s7 ?_
      refine al_take 8 #[true, true, true, true, true, true, true, true, true, false, false, false, false, false, false, false, false, false, false, false] rfl rfl (by decide) (by kernel_rfl) (fun _ _ _ h => h) (ya rfl (fun w_ s_ => e_seql rfl rfl)) s7 ?_
      refine al_take 9 #[true, true, true, true, true, true, true, true, true, true, false, false, false, false, false, false, false, false, false, false] rfl rfl (by decide) (by kernel_rfl) (fun _ _ _ h => h) (ya rfl (fun w_ s_ => e_move rfl)) s7 ?_
      refine al_split (g := 31) rfl (fun g8 => ?_) (fun g8 => ?_)
      · skip
        skip
        refine al_take 10 #[true, true, true, true, true, true, true, true, true, true, true, false, false, false, false, false, false, false, false, false] rfl rfl (by decide) (by kernel_rfl) (fun _ _ _ h => h) (ya_in rfl rfl rfl (fun w_ s_ => e_loadN rfl agg30 rfl (s_.cellsAt (m := 1) 1 rfl 0))) s7 ?_
        refine al_take 11 #[true, true, true, true, true, true, true, true, true, true, true, true, false, false, false, false, false, false, false, false] rfl rfl (by decide) (by kernel_rfl) (fun _ _ _ h => h) (ya_in rfl rfl rfl (fun w_ s_ => e_fieldAddr rfl field204_3)) s7 ?_
        refine al_take 12 #[true, true, true, true, true, true, true, true, true, true, true, true, true, false, false, false, false, false, false, false] rfl rfl (by decide) (by kernel_rfl) (fun _ _ _ h => h) (ya_in rfl rfl rfl (fun w_ s_ => e_load rfl flat2 (s_.cell 0 rfl (Blk.reads rfl)))) s7 ?_
        refine al_take 13 #[true, true, true, true, true, true, true, true, true, true, true, true, true, true, false, false, false, false, false, false] rfl rfl (by decide) (by kernel_rfl) (fun _ _ _ h => h) (ya_in rfl rfl rfl (fun w_ s_ => e_move rfl)) s7 ?_
        refine al_take 14 #[true, true, true, true, true, true, true, true, true, true, true, true, true, true, true, false, false, false, false, false] rfl rfl (by decide) (by kernel_rfl) (fun _ _ _ h => h) (ya_in rfl rfl rfl (fun w_ s_ => e_move rfl)) s7 ?_
        refine al_take 15 #[true, true, true, true, true, true, true, true, true, true, true, true, true, true, true, true, false, false, false, false] rfl rfl (by decide) (by kernel_rfl) (fun _ _ _ h => h) (ya_in rfl rfl rfl (fun w_ s_ => e_sliceS (l := 1) (h := f.size - 1) rfl Try.underlying9 (.inr ⟨.i64, rfl⟩) (.inr ⟨.i64, congrArg (fun x => some (Value.int .i64 x)) hsz1⟩) (by omega) (by omega))) s7 ?_
        refine al_one 16 #[true, true, true, true, true, true, true, true, true, true, true, true, true, true, true, true, true, false, false, false] (by kernel_rfl) rfl ?_
        refine ow_in rfl rfl ?_
        refine o_call enter75 rfl (by decide) ?_
        refine (factors_calls (f.extract 1 (f.size - 1)) _ (by rw [ByteArray.size_extract]; omega)).mono ?_
        rintro e_ w9 ⟨F, cF, nF, XF, hXF, rfl, rfl, hp_, hb_⟩
        have s9 := s7.calledP hb_ hp_
        refine ⟨_, rfl, ?_⟩
        refine stepL_nil (fun _ => (s9.pickN 4 [1, 2, 3] rfl (by decide) rfl)) ?_
        refine al_one 17 #[true, true, true, true, true, true, true, true, true, true, true, true, true, true, true, true, true, true, false, false] (by kernel_rfl) rfl ?_
        refine ow_in rfl rfl ?_
        refine o_call enter74 rfl (by decide) ?_
        have hrow_ := s9.rowV 0 rfl
        rw [hXF] at hrow_
        refine (hK l.f3 (facI (f.extract 1 (f.size - 1))) A F c cF _ (Kd.C_below hC (s9.toBelow 3 rfl)) hrow_ (by have := facI_len (f.extract 1 (f.size - 1)); rw [ByteArray.size_extract] at this; omega) (fun x hx => by have h0 := facI_mem hx; rw [ByteArray.size_extract] at h0; omega) hl0 hl1).mono ?_
        rintro e_ w10 ⟨rfl, hb_⟩
        have s10 := s9.below hb_
        refine ⟨_, rfl, ?_⟩
        refine stepL_nil (fun _ => (s10.pickN 4 [1, 2, 3] rfl (by decide) rfl)) ?_
        refine al_take 18 #[true, true, true, true, true, true, true, true, true, true, true, true, true, true, true, true, true, true, true, false] rfl rfl (by decide) (by kernel_rfl) (fun _ _ _ h => h) (ya rfl (fun w_ s_ => e_pick rfl)) (s10.pickN 4 [1, 2, 3] rfl (by decide) rfl) ?_
        refine al_take 19 #[true, true, true, true, true, true, true, true, true, true, true, true, true, true, true, true, true, true, true, true] rfl rfl (by decide) (by kernel_rfl) (fun _ _ _ h => h) (ya rfl (fun w_ s_ => e_assign rfl)) (s10.pickN 4 [1, 2, 3] rfl (by decide) rfl) ?_
        refine al_done (by kernel_rfl) ?_
        refine then_normal ?_
        refine cw_ret ?_
        refine ends1 (v := .bool (canG (mtc ms k) ms l.f3 (facI (f.extract 1 (f.size - 1))))) (.inl rfl) Try.results169 rfl ?_
        exact ⟨congrArg (fun b => Ending.returned (.bool b)) (by rw [mtc_in (by simp [h1, h2]), g8]; rfl), s10.toBelow 3 rfl⟩
      · skip
        skip
        refine al_take 10 #[true, true, true, true, true, true, true, true, true, true, true, false, false, false, false, false, false, false, false, false] rfl rfl (by decide) (by kernel_rfl) (fun _ _ _ h => h) (ya_out rfl rfl rfl rfl) s7 ?_
        refine al_take 11 #[true, true, true, true, true, true, true, true, true, true, true, true, false, false, false, false, false, false, false, false] rfl rfl (by decide) (by kernel_rfl) (fun _ _ _ h => h) (ya_out rfl rfl rfl rfl) s7 ?_
        refine al_take 12 #[true, true, true, true, true, true, true, true, true, true, true, true, true, false, false, false, false, false, false, false] rfl rfl (by decide) (by kernel_rfl) (fun _ _ _ h => h) (ya_out rfl rfl rfl rfl) s7 ?_
        refine al_take 13 #[true, true, true, true, true, true, true, true, true, true, true, true, true, true, false, false, false, false, false, false] rfl rfl (by decide) (by kernel_rfl) (fun _ _ _ h => h) (ya_out rfl rfl rfl rfl) s7 ?_
        refine al_take 14 #[true, true, true, true, true, true, true, true, true, true, true, true, true, true, true, false, false, false, false, false] rfl rfl (by decide) (by kernel_rfl) (fun _ _ _ h => h) (ya_out rfl rfl rfl rfl) s7 ?_
        refine al_take 15 #[true, true, true, true, true, true, true, true, true, true, true, true, true, true, true, true, false, false, false, false] rfl rfl (by decide) (by kernel_rfl) (fun _ _ _ h => h) (ya_out rfl rfl rfl rfl) s7 ?_
        refine al_take 16 #[true, true, true, true, true, true, true, true, true, true, true, true, true, true, true, true, true, false, false, false] rfl rfl (by decide) (by kernel_rfl) (fun _ _ _ h => h) (ya_out rfl rfl rfl rfl) s7 ?_
        refine al_take 17 #[true, true, true, true, true, true, true, true, true, true, true, true, true, true, true, true, true, true, false, false] rfl rfl (by decide) (by kernel_rfl) (fun _ _ _ h => h) (ya_out rfl rfl rfl rfl) s7 ?_
        refine al_take 18 #[true, true, true, true, true, true, true, true, true, true, true, true, true, true, true, true, true, true, true, false] rfl rfl (by decide) (by kernel_rfl) (fun _ _ _ h => h) (ya rfl (fun w_ s_ => e_pick rfl)) s7 ?_
        refine al_take 19 #[true, true, true, true, true, true, true, true, true, true, true, true, true, true, true, true, true, true, true, true] rfl rfl (by decide) (by kernel_rfl) (fun _ _ _ h => h) (ya rfl (fun w_ s_ => e_assign rfl)) s7 ?_
        refine al_done (by kernel_rfl) ?_
        refine then_normal ?_
        refine cw_ret ?_
        refine ends1 (v := .bool false) (.inl rfl) Try.results169 rfl ?_
        exact ⟨congrArg (fun b => Ending.returned (.bool b)) (by rw [mtc_in (by simp [h1, h2]), g8]; rfl), s7.toBelow 2 rfl⟩
theorem mat_zero (ms : List S201) : MatOk 0 ms := fun l f A c w hC h1 h2 h3 h4 => absurd h2 (by omega)
theorem mat_all (ms : List S201) (hW : WFm ms) : ∀ k, k ≤ 1000 → MatOk k ms
  | 0, _ => mat_zero ms
  | k + 1, h => mat_of k ms (can_of k ms (mat_all ms hW k (by omega)) hW) (by omega)
theorem can_all (ms : List S201) (hW : WFm ms) (k : Nat) (h : k ≤ 1000) : CanOk k ms := can_of k ms (mat_all ms hW k h) hW
end Go.Proofs.Ytjkohjdiddhpcaa.My
set_option linter.unusedVariables false
set_option linter.unusedSimpArgs false
namespace Go.Proofs.Ytjkohjdiddhpcaa.My
open Go.Sl Go.RowKit Go.Proofs.YtjkohjdiddhpcaaW.PrintWords Go.Proofs.YtjkohjdiddhpcaaW.PrintLast Go.Proofs.YtjkohjdiddhpcaaW.PrintMore Go.Proofs.Ytjkohjdiddhpcaa.PFnExactCountProgramWords
theorem agg216 : aggN Try.prog 216 = some 462 := by kernel_rfl
theorem zero216 : zeroOf Try.prog 216 = some (.agg (List.replicate 462 (Value.int .i64 0)).toArray : Value) := by kernel_rfl
/-- How many endings: words of a length that take a depth to naught. -/
def E : Nat → Nat → Int
  | 0, 0 => 1
  | 0, _ + 1 => 0
  | m + 1, 0 => 2 * E m 1 + 2 * E m 0
  | m + 1, d + 1 => 2 * E m (d + 2) + 2 * E m (d + 1) + 2 * E m d
theorem E_le : ∀ m d, 0 ≤ E m d ∧ E m d ≤ 6 ^ m
  | 0, 0 => by simp [E]
  | 0, d + 1 => by simp [E]
  | m + 1, 0 => by
    have h1 := E_le m 1
    have h2 := E_le m 0
    rw [E, Int.pow_succ]
    omega
  | m + 1, d + 1 => by
    have h1 := E_le m (d + 2)
    have h2 := E_le m (d + 1)
    have h3 := E_le m d
    rw [E, Int.pow_succ]
    omega
theorem pow6 : ∀ m : Nat, m ≤ 20 → (6 : Int) ^ m ≤ 3656158440062976 := by
  have h : ∀ m : Fin 21, (6 : Int) ^ m.val ≤ 3656158440062976 := by decide +kernel
  exact fun m hm => h ⟨m, by omega⟩
theorem E_bd {m d : Nat} (h : m ≤ 20) : 0 ≤ E m d ∧ E m d ≤ 3656158440062976 := ⟨(E_le m d).1, Int.le_trans (E_le m d).2 (pow6 m h)⟩
theorem E_zero {m : Nat} (h : 1 ≤ m) : E m 0 = 2 * E (m - 1) 1 + 2 * E (m - 1) 0 := by
  cases m with
  | zero => omega
  | succ m => rw [E]; rfl
theorem E_pos {m d : Nat} (h : 1 ≤ m) (hd : 0 < d) : E m d = 2 * E (m - 1) (d + 1) + 2 * E (m - 1) d + 2 * E (m - 1) (d - 1) := by
  cases m with
  | zero => omega
  | succ m => cases d with
    | zero => omega
    | succ d => rw [E]; rfl
def TabOk (X : List Value) (m : Nat) : Prop := X.length = 462 ∧ ∀ a d : Nat, a < m → a + d ≤ 20 → X[a * 22 + d]? = some (.int .i64 (E a d))
def TabIn (X : List Value) (m d : Nat) : Prop := TabOk X m ∧ ∀ j : Nat, j < d → X[m * 22 + j]? = some (.int .i64 (E m j))
theorem tab_start : TabOk ((List.replicate 462 (Value.int .i64 0)).set 0 (.int .i64 1)) 1 := by
  refine ⟨by rw [List.length_set, List.length_replicate], fun a d ha hd => ?_⟩
  have : a = 0 := by omega
  subst this
  cases d with
  | zero => exact List.getElem?_set_self (by rw [List.length_replicate]; decide)
  | succ d => rw [List.getElem?_set_ne (by omega), List.getElem?_replicate, if_pos (by omega)]; rfl
theorem tab_in {X : List Value} {m : Nat} (h : TabOk X m) : TabIn X m 0 := ⟨h, fun _ hj => absurd hj (by omega)⟩
theorem tab_step {X : List Value} {m d o : Nat} {v : Int} (h : TabIn X m d) (hmd : m + d ≤ 20) (ho : o = m * 22 + d) (hv : v = E m d) : TabIn (X.set o (.int .i64 v)) m (d + 1) := by
  subst ho
  subst hv
  obtain ⟨⟨h1, h2⟩, h3⟩ := h
  refine ⟨⟨by simpa using h1, fun a e ha he => ?_⟩, fun j hj => ?_⟩
  · rw [List.getElem?_set_ne (by omega)]; exact h2 a e ha he
  · by_cases e : j = d
    · subst e; rw [List.getElem?_set_self (by omega)]
    · rw [List.getElem?_set_ne (by omega)]; exact h3 j (by omega)
theorem tab_end {X : List Value} {m d : Nat} (h : TabIn X m d) (hd : 20 < m + d) : TabOk X (m + 1) := by
  refine ⟨h.1.1, fun a e ha he => ?_⟩
  by_cases ea : a = m
  · subst ea; exact h.2 e (by omega)
  · exact h.1.2 a e (by omega) he
section
variable {P : Program} {n : Nat} {ops : Array Oper} {K : Exit → Fr → World → Prop} {f : Fr} {B w : World} {rest : List Oper} {Γ : List Asn} {ty : TypeId} {pos : String} {after : Array Edge} {x y : Operand}
theorem o_storeAll {t m : TypeId} {b T : Nat} {vs cs : List Value} {i : Nat} (hx : fe f x = .pointer (some ⟨b, 0, none⟩)) (hy : fe f y = .agg vs.toArray) (hv : ∀ v ∈ vs, v.oneCell' = true) (ht : aggN P t = some m) (hl : vs.length = m)
    (hs : Sat B w Γ) (hi : Γ[i]? = some (Blk b T cs)) (ho : cs.length = m) (hk : ∀ w', Sat B w' (Γ.set i (Blk b T vs)) → OW P n ops K rest f w') :
    OW P n ops K (⟨none, .store t x y, ty, pos, after, none⟩ :: rest) f w := by
  refine o_storeBlk hx hy hv ht hl hs hi (by omega) fun w' h => hk w' ?_
  rw [List.take_zero, List.nil_append, List.drop_of_length_le (by omega), List.append_nil] at h
  exact h
end
theorem one_set {X : List Value} {o : Nat} {v : Value} (h : ∀ u ∈ X, u.oneCell' = true) (hv : v.oneCell' = true) : ∀ u ∈ X.set o v, u.oneCell' = true := fun u hu => by
  rcases List.mem_or_eq_of_mem_set hu with h1 | rfl
  · exact h u h1
  · exact hv
set_option maxHeartbeats 1000000 in
theorem endings_calls (w : World) :
    Calls Try.prog 161 #[] w fun e w' => ∃ X, TabOk X 21 ∧ (∀ v ∈ X, v.oneCell' = true) ∧ e = .returned (.agg X.toArray) ∧ Below w.heap.size w w' := by
  have hmix : Try.prog.follows .mixedOrders = true := by kernel_rfl
  have s0 := Sat.start w
  refine calls_of_cw (args := []) Try.func161 Try.ntmps161 rfl (by simp) ?_
  refine cw_seq ?_
  refine cw_region ?_
  refine o_alloc zero216 s0 (by decide) (fun b0 w1 s1_ => ?_)
  have s1 : Sat w w1 [Blk b0 216 (List.replicate 462 (Value.int .i64 0)), Old w] := s1_
  refine ow_nil ?_
  refine then_normal ?_
  refine cw_seq ?_
  refine cw_region ?_
  refine o_build (cs := List.replicate 462 (Value.int .i64 0)) rfl (by kernel_rfl) (by decide) ?_
  refine o_alloc zero216 s1 (by decide) (fun bt w2 s2_ => ?_)
  have s2 : Sat w w2 [Blk bt 216 (List.replicate 462 (Value.int .i64 0)), Blk b0 216 (List.replicate 462 (Value.int .i64 0)), Old w] := s2_
  refine o_storeAll rfl rfl (fun v hv => by rw [List.eq_of_mem_replicate hv]; rfl) agg216 (List.length_replicate ..) s2 (i := 0) rfl (List.length_replicate ..) (fun w3 s3 => ?_)
  refine ow_nil ?_
  refine then_normal ?_
  refine cw_seq ?_
  refine cw_region ?_
  refine o_idxA rfl rfl Try.underlying216 arr215 (by omega) (by omega) (by decide) ?_
  refine o_idxA rfl rfl Try.underlying215 arr2 (by omega) (by omega) (by decide) ?_
  refine o_store rfl rfl rfl flat2 s3 (i := 0) rfl (Blk.writes (i := 0) _ (by rw [List.length_replicate]; decide)) (fun w4 s4 => ?_)
  refine ow_nil ?_
  refine then_normal ?_
  refine cw_seq ?_
  refine cw_seq ?_
  refine cw_region ?_
  refine ow_val rfl rfl (by decide) (e_assign rfl) ?_
  refine ow_nil ?_
  refine then_normal ?_
  refine cw_block ?_
  refine cw_loop (fun μ_ f_ w_ => ∃ m : Nat, ∃ X : List Value, μ_ = 21 - m ∧ f_ 0 = .pointer (some ⟨b0, 0, none⟩) ∧ f_ 1 = .pointer (some ⟨bt, 0, none⟩) ∧ f_ 2 = .int .i64 (m : Int) ∧ (1 ≤ m) ∧ (m ≤ 21) ∧ (TabOk X m) ∧ (∀ v ∈ X, v.oneCell' = true) ∧ Sat w w_ [Blk bt 216 X, Blk b0 216 (List.replicate 462 (Value.int .i64 0)), Old w]) 20 ⟨1, _, rfl, rfl, rfl, rfl, Nat.le_refl _, by decide, tab_start, fun v hv => by rcases List.mem_or_eq_of_mem_set hv with h | rfl <;> first | rfl | (rw [List.eq_of_mem_replicate h]; rfl), s4⟩ ?_
  intro k_ f_ w_ h_
  obtain ⟨m, X, rfl, e5_0, e5_1, e5_2, hm1, hm, hX, hone, s5⟩ := h_
  skip
  refine cw_seq ?_
  refine cw_seq ?_
  refine cw_region ?_
  refine ow_val rfl rfl (by decide) (e_move e5_2) ?_
  refine ow_val rfl rfl (by decide) (e_leq rfl rfl) ?_
  refine ow_nil ?_
  refine then_normal ?_
  refine cw_cond rfl (fun c6 => ?_) (fun c6 => ?_)
  · skip
    have hm20 : m ≤ 20 := by have := of_decide_eq_true c6; omega
    refine cw_skip ?_
    refine then_normal ?_
    refine cw_seq ?_
    refine cw_block ?_
    refine cw_seq ?_
    refine cw_region ?_
    refine ow_val rfl rfl (by decide) (e_assign rfl) ?_
    refine ow_nil ?_
    refine then_normal ?_
    refine cw_block ?_
    refine cw_loop (fun μ_ f_ w_ => ∃ d : Nat, ∃ Y : List Value, μ_ = 21 - m - d ∧ f_ 0 = .pointer (some ⟨b0, 0, none⟩) ∧ f_ 1 = .pointer (some ⟨bt, 0, none⟩) ∧ f_ 2 = .int .i64 (m : Int) ∧ f_ 3 = .int .i64 (d : Int) ∧ (m + d ≤ 21) ∧ (TabIn Y m d) ∧ (∀ v ∈ Y, v.oneCell' = true) ∧ Sat w w_ [Blk bt 216 Y, Blk b0 216 (List.replicate 462 (Value.int .i64 0)), Old w]) (21 - m - 0) ⟨0, _, rfl, e5_0, e5_1, e5_2, rfl, by omega, tab_in hX, hone, s5⟩ ?_
    intro k_ f_ w_ h_
    obtain ⟨d, Y, rfl, e7_0, e7_1, e7_2, e7_3, hd, hin, hone2, s7⟩ := h_
    skip
    refine cw_seq ?_
    refine cw_seq ?_
    refine cw_region ?_
    refine ow_val rfl rfl (by decide) (e_move e7_3) ?_
    refine ow_val rfl rfl (by decide) (e_move e7_2) ?_
    refine o_subI rfl rfl (by omega) (by omega) (by decide) ?_
    refine ow_val rfl rfl (by decide) (e_leq rfl rfl) ?_
    refine ow_nil ?_
    refine then_normal ?_
    refine cw_cond rfl (fun c8 => ?_) (fun c8 => ?_)
    · skip
      have hmd : m + d ≤ 20 := by have := of_decide_eq_true c8; omega
      have hlen := hin.1.1
      have q1 := hin.1.2 (m - 1) (d + 1) (by omega) (by omega)
      have q2 := hin.1.2 (m - 1) d (by omega) (by omega)
      have r1 : Y[0 + ((m : Int) - 1).toNat * 22 + ((d : Int) + 1).toNat * 1]? = some (.int .i64 (E (m - 1) (d + 1))) := by rw [← q1]; congr 1; omega
      have r2 : Y[0 + ((m : Int) - 1).toNat * 22 + ((d : Int)).toNat * 1]? = some (.int .i64 (E (m - 1) d)) := by rw [← q2]; congr 1; omega
      have hb1 := E_bd (m := m - 1) (d := d + 1) (by omega)
      have hb2 := E_bd (m := m - 1) (d := d) (by omega)
      refine cw_skip ?_
      refine then_normal ?_
      refine cw_seq ?_
      refine cw_block ?_
      refine cw_seq ?_
      refine al_keep #[false, false, false, false, false, false, false, false, false, false, false, false, false, false, false, false, false, false, false, false, false] [20] [0] s7 hmix rfl rfl (idxB 3 rfl (by decide)) (fun w9 s9 => ?_)
      refine al_take 0 #[true, false, false, false, false, false, false, false, false, false, false, false, false, false, false, false, false, false, false, false, false] rfl rfl (by decide) (by kernel_rfl) (fun _ _ _ h => h) (ya rfl (fun w_ s_ => e_move e7_2)) (s9.pickD [0] (idxB 3 rfl (by decide))) ?_
      refine al_take 1 #[true, true, false, false, false, false, false, false, false, false, false, false, false, false, false, false, false, false, false, false, false] rfl rfl (by decide) (by kernel_rfl) (fun _ _ _ h => h) (ya rfl (fun w_ s_ => e_move e7_3)) (s9.pickD [0] (idxB 3 rfl (by decide))) ?_
      refine al_take 2 #[true, true, true, false, false, false, false, false, false, false, false, false, false, false, false, false, false, false, false, false, false] rfl rfl (by decide) (by kernel_rfl) (fun _ _ _ h => h) (ya rfl (fun w_ s_ => e_move e7_2)) (s9.pickD [0] (idxB 3 rfl (by decide))) ?_
      refine al_take 3 #[true, true, true, true, false, false, false, false, false, false, false, false, false, false, false, false, false, false, false, false, false] rfl rfl (by decide) (by kernel_rfl) (fun _ _ _ h => h) (ya rfl (fun w_ s_ => e_subI rfl rfl (by omega) (by omega))) (s9.pickD [0] (idxB 3 rfl (by decide))) ?_
      refine al_take 4 #[true, true, true, true, true, false, false, false, false, false, false, false, false, false, false, false, false, false, false, false, false] rfl rfl (by decide) (by kernel_rfl) (fun _ _ _ h => h) (ya rfl (fun w_ s_ => e_move e7_3)) (s9.pickD [0] (idxB 3 rfl (by decide))) ?_
      refine al_take 5 #[true, true, true, true, true, true, false, false, false, false, false, false, false, false, false, false, false, false, false, false, false] rfl rfl (by decide) (by kernel_rfl) (fun _ _ _ h => h) (ya rfl (fun w_ s_ => e_addI rfl rfl (by omega) (by omega))) (s9.pickD [0] (idxB 3 rfl (by decide))) ?_
      refine al_take 6 #[true, true, true, true, true, true, true, false, false, false, false, false, false, false, false, false, false, false, false, false, false] rfl rfl (by decide) (by kernel_rfl) (fun _ _ _ h => h) (ya rfl (fun w_ s_ => e_idxA e7_1 rfl Try.underlying216 arr215 (by omega) (by omega))) (s9.pickD [0] (idxB 3 rfl (by decide))) ?_
      refine al_take 7 #[true, true, true, true, true, true, true, true, false, false, false, false, false, false, false, false, false, false, false, false, false] rfl rfl (by decide) (by kernel_rfl) (fun _ _ _ h => h) (ya rfl (fun w_ s_ => e_idxA rfl rfl Try.underlying215 arr2 (by omega) (by omega))) (s9.pickD [0] (idxB 3 rfl (by decide))) ?_
      refine al_take 8 #[true, true, true, true, true, true, true, true, true, false, false, false, false, false, false, false, false, false, false, false, false] rfl rfl (by decide) (by kernel_rfl) (fun _ _ _ h => h) (ya rfl (fun w_ s_ => e_load rfl flat2 (s_.cell 0 rfl (Blk.reads r1)))) (s9.pickD [0] (idxB 3 rfl (by decide))) ?_
      refine al_take 9 #[true, true, true, true, true, true, true, true, true, true, false, false, false, false, false, false, false, false, false, false, false] rfl rfl (by decide) (by kernel_rfl) (fun _ _ _ h => h) (ya rfl (fun w_ s_ => e_mulI rfl rfl (by omega) (by omega))) (s9.pickD [0] (idxB 3 rfl (by decide))) ?_
      refine al_take 10 #[true, true, true, true, true, true, true, true, true, true, true, false, false, false, false, false, false, false, false, false, false] rfl rfl (by decide) (by kernel_rfl) (fun _ _ _ h => h) (ya rfl (fun w_ s_ => e_move e7_2)) (s9.pickD [0] (idxB 3 rfl (by decide))) ?_
      refine al_take 11 #[true, true, true, true, true, true, true, true, true, true, true, true, false, false, false, false, false, false, false, false, false] rfl rfl (by decide) (by kernel_rfl) (fun _ _ _ h => h) (ya rfl (fun w_ s_ => e_subI rfl rfl (by omega) (by omega))) (s9.pickD [0] (idxB 3 rfl (by decide))) ?_
      refine al_take 12 #[true, true, true, true, true, true, true, true, true, true, true, true, true, false, false, false, false, false, false, false, false] rfl rfl (by decide) (by kernel_rfl) (fun _ _ _ h => h) (ya rfl (fun w_ s_ => e_move e7_3)) (s9.pickD [0] (idxB 3 rfl (by decide))) ?_
      refine al_take 13 #[true, true, true, true, true, true, true, true, true, true, true, true, true, true, false, false, false, false, false, false, false] rfl rfl (by decide) (by kernel_rfl) (fun _ _ _ h => h) (ya rfl (fun w_ s_ => e_idxA e7_1 rfl Try.underlying216 arr215 (by omega) (by omega))) (s9.pickD [0] (idxB 3 rfl (by decide))) ?_
      refine al_take 14 #[true, true, true, true, true, true, true, true, true, true, true, true, true, true, true, false, false, false, false, false, false] rfl rfl (by decide) (by kernel_rfl) (fun _ _ _ h => h) (ya rfl (fun w_ s_ => e_idxA rfl rfl Try.underlying215 arr2 (by omega) (by omega))) (s9.pickD [0] (idxB 3 rfl (by decide))) ?_
      refine al_take 15 #[true, true, true, true, true, true, true, true, true, true, true, true, true, true, true, true, false, false, false, false, false] rfl rfl (by decide) (by kernel_rfl) (fun _ _ _ h => h) (ya rfl (fun w_ s_ => e_load rfl flat2 (s_.cell 0 rfl (Blk.reads r2)))) (s9.pickD [0] (idxB 3 rfl (by decide))) ?_
      refine al_take 16 #[true, true, true, true, true, true, true, true, true, true, true, true, true, true, true, true, true, false, false, false, false] rfl rfl (by decide) (by kernel_rfl) (fun _ _ _ h => h) (ya rfl (fun w_ s_ => e_mulI rfl rfl (by omega) (by omega))) (s9.pickD [0] (idxB 3 rfl (by decide))) ?_
      refine al_take 17 #[true, true, true, true, true, true, true, true, true, true, true, true, true, true, true, true, true, true, false, false, false] rfl rfl (by decide) (by kernel_rfl) (fun _ _ _ h => h) (ya rfl (fun w_ s_ => e_addI rfl rfl (by omega) (by omega))) (s9.pickD [0] (idxB 3 rfl (by decide))) ?_
      refine al_take 18 #[true, true, true, true, true, true, true, true, true, true, true, true, true, true, true, true, true, true, true, false, false] rfl rfl (by decide) (by kernel_rfl) (fun _ _ _ h => h) (ya rfl (fun w_ s_ => e_idxA e7_1 rfl Try.underlying216 arr215 (by omega) (by omega))) (s9.pickD [0] (idxB 3 rfl (by decide))) ?_
      refine al_take 19 #[true, true, true, true, true, true, true, true, true, true, true, true, true, true, true, true, true, true, true, true, false] rfl rfl (by decide) (by kernel_rfl) (fun _ _ _ h => h) (ya rfl (fun w_ s_ => e_idxA rfl rfl Try.underlying215 arr2 (by omega) (by omega))) (s9.pickD [0] (idxB 3 rfl (by decide))) ?_
      refine al_one 20 #[true, true, true, true, true, true, true, true, true, true, true, true, true, true, true, true, true, true, true, true, true] (by kernel_rfl) rfl ?_
      refine o_store rfl rfl rfl flat2 s9 (i := 0) rfl (Blk.writes _ (by omega)) (fun w10 s10 => ?_)
      refine stepL_nil (fun h => (h (by decide)).elim) ?_
      refine al_done (by kernel_rfl) ?_
      refine then_normal ?_
      refine cw_seq ?_
      refine cw_region ?_
      refine ow_val rfl rfl (by decide) (e_move e7_3) ?_
      refine ow_val rfl rfl (by decide) (e_gtr rfl rfl) ?_
      refine ow_nil ?_
      refine then_normal ?_
      refine cw_cond rfl (fun c11 => ?_) (fun c11 => ?_)
      · skip
        have hd0 : 0 < d := by have := of_decide_eq_true c11; omega
        have q3 := hin.1.2 (m - 1) (d - 1) (by omega) (by omega)
        have hb3 := E_bd (m := m - 1) (d := d - 1) (by omega)
        have r4 : (Y.set (0 + ((m : Int)).toNat * 22 + ((d : Int)).toNat * 1) (.int .i64 (2 * E (m - 1) (d + 1) + 2 * E (m - 1) d)))[0 + ((m : Int)).toNat * 22 + ((d : Int)).toNat * 1]? = some (.int .i64 (2 * E (m - 1) (d + 1) + 2 * E (m - 1) d)) := List.getElem?_set_self (by omega)
        have r5 : (Y.set (0 + ((m : Int)).toNat * 22 + ((d : Int)).toNat * 1) (.int .i64 (2 * E (m - 1) (d + 1) + 2 * E (m - 1) d)))[0 + ((m : Int) - 1).toNat * 22 + ((d : Int) - 1).toNat * 1]? = some (.int .i64 (E (m - 1) (d - 1))) := by rw [List.getElem?_set_ne (by omega), ← q3]; congr 1; omega
        refine al_keep #[false, false, false, false, false, false, false, false, false, false, false, false, false, false, false, false, false] [16] [0] s10 hmix rfl rfl (idxB 3 rfl (by decide)) (fun w12 s12 => ?_)
        refine al_take 0 #[true, false, false, false, false, false, false, false, false, false, false, false, false, false, false, false, false] rfl rfl (by decide) (by kernel_rfl) (fun _ _ _ h => h) (ya rfl (fun w_ s_ => e_move e7_2)) (s12.pickD [0] (idxB 3 rfl (by decide))) ?_
        refine al_take 1 #[true, true, false, false, false, false, false, false, false, false, false, false, false, false, false, false, false] rfl rfl (by decide) (by kernel_rfl) (fun _ _ _ h => h) (ya rfl (fun w_ s_ => e_move e7_3)) (s12.pickD [0] (idxB 3 rfl (by decide))) ?_
        refine al_take 2 #[true, true, true, false, false, false, false, false, false, false, false, false, false, false, false, false, false] rfl rfl (by decide) (by kernel_rfl) (fun _ _ _ h => h) (ya rfl (fun w_ s_ => e_idxA e7_1 rfl Try.underlying216 arr215 (by omega) (by omega))) (s12.pickD [0] (idxB 3 rfl (by decide))) ?_
        refine al_take 3 #[true, true, true, true, false, false, false, false, false, false, false, false, false, false, false, false, false] rfl rfl (by decide) (by kernel_rfl) (fun _ _ _ h => h) (ya rfl (fun w_ s_ => e_idxA rfl rfl Try.underlying215 arr2 (by omega) (by omega))) (s12.pickD [0] (idxB 3 rfl (by decide))) ?_
        refine al_take 4 #[true, true, true, true, true, false, false, false, false, false, false, false, false, false, false, false, false] rfl rfl (by decide) (by kernel_rfl) (fun _ _ _ h => h) (ya rfl (fun w_ s_ => e_load rfl flat2 (s_.cell 0 rfl (Blk.reads r4)))) (s12.pickD [0] (idxB 3 rfl (by decide))) ?_
        refine al_take 5 #[true, true, true, true, true, true, false, false, false, false, false, false, false, false, false, false, false] rfl rfl (by decide) (by kernel_rfl) (fun _ _ _ h => h) (ya rfl (fun w_ s_ => e_move e7_2)) (s12.pickD [0] (idxB 3 rfl (by decide))) ?_
        refine al_take 6 #[true, true, true, true, true, true, true, false, false, false, false, false, false, false, false, false, false] rfl rfl (by decide) (by kernel_rfl) (fun _ _ _ h => h) (ya rfl (fun w_ s_ => e_subI rfl rfl (by omega) (by omega))) (s12.pickD [0] (idxB 3 rfl (by decide))) ?_
        refine al_take 7 #[true, true, true, true, true, true, true, true, false, false, false, false, false, false, false, false, false] rfl rfl (by decide) (by kernel_rfl) (fun _ _ _ h => h) (ya rfl (fun w_ s_ => e_move e7_3)) (s12.pickD [0] (idxB 3 rfl (by decide))) ?_
        refine al_take 8 #[true, true, true, true, true, true, true, true, true, false, false, false, false, false, false, false, false] rfl rfl (by decide) (by kernel_rfl) (fun _ _ _ h => h) (ya rfl (fun w_ s_ => e_subI rfl rfl (by omega) (by omega))) (s12.pickD [0] (idxB 3 rfl (by decide))) ?_
        refine al_take 9 #[true, true, true, true, true, true, true, true, true, true, false, false, false, false, false, false, false] rfl rfl (by decide) (by kernel_rfl) (fun _ _ _ h => h) (ya rfl (fun w_ s_ => e_idxA e7_1 rfl Try.underlying216 arr215 (by omega) (by omega))) (s12.pickD [0] (idxB 3 rfl (by decide))) ?_
        refine al_take 10 #[true, true, true, true, true, true, true, true, true, true, true, false, false, false, false, false, false] rfl rfl (by decide) (by kernel_rfl) (fun _ _ _ h => h) (ya rfl (fun w_ s_ => e_idxA rfl rfl Try.underlying215 arr2 (by omega) (by omega))) (s12.pickD [0] (idxB 3 rfl (by decide))) ?_
        refine al_take 11 #[true, true, true, true, true, true, true, true, true, true, true, true, false, false, false, false, false] rfl rfl (by decide) (by kernel_rfl) (fun _ _ _ h => h) (ya rfl (fun w_ s_ => e_load rfl flat2 (s_.cell 0 rfl (Blk.reads r5)))) (s12.pickD [0] (idxB 3 rfl (by decide))) ?_
        refine al_take 12 #[true, true, true, true, true, true, true, true, true, true, true, true, true, false, false, false, false] rfl rfl (by decide) (by kernel_rfl) (fun _ _ _ h => h) (ya rfl (fun w_ s_ => e_mulI rfl rfl (by omega) (by omega))) (s12.pickD [0] (idxB 3 rfl (by decide))) ?_
        refine al_take 13 #[true, true, true, true, true, true, true, true, true, true, true, true, true, true, false, false, false] rfl rfl (by decide) (by kernel_rfl) (fun _ _ _ h => h) (ya rfl (fun w_ s_ => e_addI rfl rfl (by omega) (by omega))) (s12.pickD [0] (idxB 3 rfl (by decide))) ?_
        refine al_take 14 #[true, true, true, true, true, true, true, true, true, true, true, true, true, true, true, false, false] rfl rfl (by decide) (by kernel_rfl) (fun _ _ _ h => h) (ya rfl (fun w_ s_ => e_idxA e7_1 rfl Try.underlying216 arr215 (by omega) (by omega))) (s12.pickD [0] (idxB 3 rfl (by decide))) ?_
        refine al_take 15 #[true, true, true, true, true, true, true, true, true, true, true, true, true, true, true, true, false] rfl rfl (by decide) (by kernel_rfl) (fun _ _ _ h => h) (ya rfl (fun w_ s_ => e_idxA rfl rfl Try.underlying215 arr2 (by omega) (by omega))) (s12.pickD [0] (idxB 3 rfl (by decide))) ?_
        refine al_one 16 #[true, true, true, true, true, true, true, true, true, true, true, true, true, true, true, true, true] (by kernel_rfl) rfl ?_
        refine o_store rfl rfl rfl flat2 s12 (i := 0) rfl (Blk.writes _ (by rw [List.length_set]; omega)) (fun w13 s13 => ?_)
        refine stepL_nil (fun h => (h (by decide)).elim) ?_
        refine al_done (by kernel_rfl) ?_
        refine inb_normal ?_
        refine then_normal ?_
        refine cw_region ?_
        refine ow_val rfl rfl (by decide) (e_move e7_3) ?_
        refine o_addI rfl rfl (by omega) (by omega) (by decide) ?_
        refine ow_val rfl rfl (by decide) (e_assign rfl) ?_
        refine ow_nil ?_
        refine then_normal ?_
        exact ⟨_, by omega, d + 1, _, rfl, e7_0, e7_1, e7_2, rfl, by omega, by rw [List.set_set]; exact tab_step hin (by omega) (by simp) (E_pos hm1 (by omega)).symm, fun v hv => one_set (one_set hone2 rfl) rfl v hv, s13⟩
      · skip
        have hd0 : ¬ 0 < d := by have := of_decide_eq_false c11; omega
        refine cw_skip ?_
        refine inb_normal ?_
        refine then_normal ?_
        refine cw_region ?_
        refine ow_val rfl rfl (by decide) (e_move e7_3) ?_
        refine o_addI rfl rfl (by omega) (by omega) (by decide) ?_
        refine ow_val rfl rfl (by decide) (e_assign rfl) ?_
        refine ow_nil ?_
        refine then_normal ?_
        exact ⟨_, by omega, d + 1, _, rfl, e7_0, e7_1, e7_2, rfl, by omega, tab_step hin (by omega) (by simp) (by have e0 : d = 0 := (by omega); rw [e0]; exact (E_zero hm1).symm), fun v hv => one_set hone2 rfl v hv, s10⟩
    · skip
      have hge2 : 20 < m + d := by have := of_decide_eq_false c8; omega
      refine cw_exit ?_
      refine then_exit ?_
      refine then_exit ?_
      refine inb_exit ?_
      refine inb_normal ?_
      refine then_normal ?_
      refine cw_region ?_
      refine ow_val rfl rfl (by decide) (e_move e7_2) ?_
      refine o_addI rfl rfl (by omega) (by omega) (by decide) ?_
      refine ow_val rfl rfl (by decide) (e_assign rfl) ?_
      refine ow_nil ?_
      refine then_normal ?_
      exact ⟨_, by omega, m + 1, _, rfl, e7_0, e7_1, rfl, by omega, by omega, tab_end hin (by omega), hone2, s7⟩
  · skip
    have hge : m = 21 := by have := of_decide_eq_false c6; omega
    refine cw_exit ?_
    refine then_exit ?_
    refine then_exit ?_
    refine inb_exit ?_
    refine then_normal ?_
    refine cw_seq ?_
    refine cw_region ?_
    refine ow_val rfl rfl (by decide) (e_loadN (cs := X) e5_1 agg216 hX.1 (s5.cellsOf 0 rfl)) ?_
    refine o_storeAll e5_0 rfl hone agg216 hX.1 s5 (i := 1) rfl (List.length_replicate ..) (fun w14 s14 => ?_)
    refine ow_nil ?_
    refine then_normal ?_
    refine cw_ret ?_
    refine endsC (.inl rfl) Try.results161 e5_0 agg216 hX.1 (s14.cellsOf 1 rfl) ?_
    exact ⟨X, by rw [hge] at hX; exact hX, hone, rfl, s14.toBelow 2 rfl⟩
end Go.Proofs.Ytjkohjdiddhpcaa.My
set_option linter.unusedVariables false
set_option linter.unusedSimpArgs false
namespace Go.Proofs.Ytjkohjdiddhpcaa.My
open Go.Sl Go.RowKit Go.Proofs.YtjkohjdiddhpcaaW.PrintWords Go.Proofs.YtjkohjdiddhpcaaW.PrintLast Go.Proofs.YtjkohjdiddhpcaaW.PrintMore Go.Proofs.Ytjkohjdiddhpcaa.PFnExactCountProgramWords
theorem zero5 : zeroOf Try.prog 5 = some (.int .u8 0 : Value) := by kernel_rfl
theorem slt83 : SlT Try.prog 83 5 1 1 (.int .u8 0) := ⟨Try.underlying83, by kernel_rfl, zero5, rfl, by decide⟩
theorem enter72 : enterB Try.prog 72 = true := by kernel_rfl
theorem enter161 : enterB Try.prog 161 = true := by kernel_rfl
theorem enter162 : enterB Try.prog 162 = true := by kernel_rfl
theorem enter163 : enterB Try.prog 163 = true := by kernel_rfl
theorem mapc {f : Fr} {x : Operand} {xs : List Operand} {v : Value} {vs : List Value} (h : fe f x = v) (t : xs.map (fe f) = vs) : (x :: xs).map (fe f) = v :: vs := by rw [List.map_cons, h, t]
def cntM (n : Int) : Int × Int := if inR n 0 20 = true then (E n.toNat 0, 0) else (0, 2)
theorem cntM_bd (n : Int) : 0 ≤ (cntM n).1 ∧ (cntM n).1 ≤ 3656158440062976 := by
  unfold cntM
  split
  · rename_i h
    have : 0 ≤ n ∧ n ≤ 20 := by simpa [inR] using h
    exact E_bd (by omega)
  · exact ⟨by decide, by decide⟩
def dB (d c : Int) : Int := if isC c = true then d + 1 else if isR c = true then d - 1 else d
def W6 : ByteArray := ⟨#[40, 91, 41, 93, 97, 98]⟩
def chs : List Int := [40, 91, 41, 93, 97, 98]
def wy (m : Nat) (d : Int) : Int := if d < 0 ∨ (m : Int) < d then 0 else E m d.toNat
def pickG (m : Nat) (d : Int) : List Int → Int → Option (Int × Int) × Int
  | [], k => (none, k)
  | c :: cs, k => if k ≥ wy m (dB d c) then pickG m d cs (k - wy m (dB d c)) else (some (c, dB d c), k)
def matG : Nat → Int → Int → List Int
  | 0, _, _ => []
  | m + 1, d, k => match pickG m d chs k with
    | (some (c, d'), k') => c :: matG m d' k'
    | (none, k') => matG m d k'
theorem chs_drop {i : Nat} (h : i < 6) : chs.drop i = bt W6 (i : Int) :: chs.drop (i + 1) := by
  have h6 : ∀ i : Fin 6, chs.drop i.val = bt W6 (i.val : Int) :: chs.drop (i.val + 1) := by decide +kernel
  exact h6 ⟨i, h⟩
theorem wy_bd {m : Nat} (h : m ≤ 20) (d : Int) : 0 ≤ wy m d ∧ wy m d ≤ 3656158440062976 := by
  unfold wy
  split
  · omega
  · exact E_bd h
theorem pick_ge {m : Nat} {d k : Int} {i : Nat} (h : i < 6) (hk : k ≥ wy m (dB d (bt W6 (i : Int)))) : pickG m d (chs.drop i) k = pickG m d (chs.drop (i + 1)) (k - wy m (dB d (bt W6 (i : Int)))) := by
  rw [chs_drop h, pickG, if_pos hk]
theorem pick_lt {m : Nat} {d k : Int} {i : Nat} (h : i < 6) (hk : ¬ k ≥ wy m (dB d (bt W6 (i : Int)))) : pickG m d (chs.drop i) k = (some (bt W6 (i : Int), dB d (bt W6 (i : Int))), k) := by
  rw [chs_drop h, pickG, if_neg hk]
theorem mat_some {m : Nat} {d k c d' k' : Int} (h : pickG m d chs k = (some (c, d'), k')) : matG (m + 1) d k = c :: matG m d' k' := by rw [matG, h]
theorem mat_none {m : Nat} {d k k' : Int} (h : pickG m d chs k = (none, k')) : matG (m + 1) d k = matG m d k' := by rw [matG, h]
theorem dB_bd (d c : Int) : d - 1 ≤ dB d c ∧ dB d c ≤ d + 1 := by
  unfold dB
  split
  · omega
  · split <;> omega
def matM (n k : Int) : ByteArray × Int := if (cntM n).2 = 0 ∧ inR k 0 ((cntM n).1 - 1) = true then (strOfNums (matG n.toNat 0 k), 0) else (⟨#[]⟩, 2)
theorem e_conv {P : Program} {f : Fr} {w : World} {d : Nat} {ty : TypeId} {pos : String} {after : Array Edge} {gd : Option (Nat × Bool)} {x : Operand} {s t : TypeId} {v r : Value} (hx : fe f x = v) (h : (convert s t v).run P w = .ok r w) : (execOp (fe f) ⟨some d, .convert s t x, ty, pos, after, gd⟩).run P w = .ok (.value r) w := by
  simp [execOp, hx, h]
theorem depth_calls (d c : Int) (w : World) (h0 : -1000 ≤ d) (h1 : d ≤ 1000) :
    Calls Try.prog 163 #[.int .i64 d, .int .u8 c] w fun e w' => e = .returned (.int .i64 (dB d c)) ∧ w = w' := by
  have s0 := Sat.start w
  refine calls_of_cw (args := [.int .i64 d, .int .u8 c]) Try.func163 Try.ntmps163 rfl (by simp) ?_
  refine cw_seq ?_
  refine cw_region ?_
  refine ow_val rfl rfl (by decide) (e_assign rfl) ?_
  refine ow_nil ?_
  refine then_normal ?_
  refine cw_seq ?_
  refine cw_block ?_
  refine cw_seq ?_
  refine cw_region ?_
  refine ow_val rfl rfl (by decide) (e_move rfl) ?_
  refine o_call enter242 rfl (by decide) ?_
  refine (isCall_calls _ _).mono ?_
  rintro e_ w_1 ⟨rfl, rfl⟩
  refine ⟨_, rfl, ?_⟩
  refine ow_val rfl rfl (by decide) (e_assign rfl) ?_
  refine ow_nil ?_
  refine then_normal ?_
  refine cw_cond rfl (fun c1 => ?_) (fun c1 => ?_)
  · skip
    skip
    refine cw_seq ?_
    refine cw_region ?_
    refine ow_val rfl rfl (by decide) (e_move rfl) ?_
    refine o_addI rfl rfl (by omega) (by omega) (by decide) ?_
    refine ow_val rfl rfl (by decide) (e_assign rfl) ?_
    refine ow_nil ?_
    refine then_normal ?_
    refine cw_ret ?_
    refine inb_ret ?_
    refine then_ret ?_
    refine ends1 (v := .int .i64 (d + 1)) (.inl rfl) Try.results163 rfl ?_
    exact ⟨congrArg (fun x => Ending.returned (.int .i64 x)) (by simp [dB, c1]), rfl⟩
  · skip
    skip
    refine cw_seq ?_
    refine cw_region ?_
    refine ow_val rfl rfl (by decide) (e_move rfl) ?_
    refine o_call enter243 rfl (by decide) ?_
    refine (isReturn_calls _ _).mono ?_
    rintro e_ w_1 ⟨rfl, rfl⟩
    refine ⟨_, rfl, ?_⟩
    refine ow_val rfl rfl (by decide) (e_assign rfl) ?_
    refine ow_nil ?_
    refine then_normal ?_
    refine cw_cond rfl (fun c2 => ?_) (fun c2 => ?_)
    · skip
      skip
      refine cw_seq ?_
      refine cw_region ?_
      refine ow_val rfl rfl (by decide) (e_move rfl) ?_
      refine o_subI rfl rfl (by omega) (by omega) (by decide) ?_
      refine ow_val rfl rfl (by decide) (e_assign rfl) ?_
      refine ow_nil ?_
      refine then_normal ?_
      refine cw_ret ?_
      refine inb_ret ?_
      refine then_ret ?_
      refine ends1 (v := .int .i64 (d - 1)) (.inl rfl) Try.results163 rfl ?_
      exact ⟨congrArg (fun x => Ending.returned (.int .i64 x)) (by simp [dB, c1, c2]), rfl⟩
    · skip
      skip
      refine cw_skip ?_
      refine inb_normal ?_
      refine then_normal ?_
      refine cw_seq ?_
      refine cw_region ?_
      refine ow_val rfl rfl (by decide) (e_move rfl) ?_
      refine ow_val rfl rfl (by decide) (e_assign rfl) ?_
      refine ow_nil ?_
      refine then_normal ?_
      refine cw_ret ?_
      refine ends1 (v := .int .i64 d) (.inl rfl) Try.results163 rfl ?_
      exact ⟨congrArg (fun x => Ending.returned (.int .i64 x)) (by simp [dB, c1, c2]), rfl⟩
theorem countM_calls (n : Int) (w : World) :
    Calls Try.prog 72 #[.int .i64 n] w fun e w' => e = .returned (.tuple #[.int .i64 (cntM n).1, .int .i64 (cntM n).2]) ∧ Below w.heap.size w w' := by
  have s0 := Sat.start w
  refine calls_of_cw (args := [.int .i64 n]) Try.func72 Try.ntmps72 rfl (by simp) ?_
  refine cw_seq ?_
  refine cw_region ?_
  refine ow_val rfl rfl (by decide) (e_assign rfl) ?_
  refine ow_val rfl rfl (by decide) (e_assign rfl) ?_
  refine ow_nil ?_
  refine then_normal ?_
  refine cw_seq ?_
  refine cw_seq ?_
  refine cw_region ?_
  refine ow_val rfl rfl (by decide) (e_move rfl) ?_
  refine o_call enter71 rfl (by decide) ?_
  refine (within_calls _ _ _ _).mono ?_
  rintro e_ w_1 ⟨rfl, rfl⟩
  refine ⟨_, rfl, ?_⟩
  refine ow_val rfl rfl (by decide) (e_not rfl) ?_
  refine ow_nil ?_
  refine then_normal ?_
  refine cw_cond rfl (fun c1 => ?_) (fun c1 => ?_)
  · skip
    have hin : ¬ inR n 0 20 = true := (by simpa using c1)
    refine cw_seq ?_
    refine cw_region ?_
    refine ow_val rfl rfl (by decide) (e_assign rfl) ?_
    refine ow_val rfl rfl (by decide) (e_assign rfl) ?_
    refine ow_nil ?_
    refine then_normal ?_
    refine cw_ret ?_
    refine then_ret ?_
    refine ends2 (v := .int .i64 0) (v' := .int .i64 2) (.inl rfl) Try.results72 rfl rfl ?_
    exact ⟨by rw [cntM, if_neg hin], s0.toBelow 0 rfl⟩
  · skip
    have hin : inR n 0 20 = true := (by simpa using c1)
    have hn20 : 0 ≤ n ∧ n ≤ 20 := (by simpa [inR] using hin)
    refine cw_skip ?_
    refine then_normal ?_
    refine cw_seq ?_
    refine cw_region ?_
    refine o_call enter161 rfl (by decide) ?_
    refine (endings_calls _).mono ?_
    rintro e_ w2 ⟨X, hX, hone, rfl, hb_⟩
    have s2 := s0.below hb_
    refine ⟨_, rfl, ?_⟩
    refine o_alloc zero216 s2 (by decide) (fun bq w3 s3 => ?_)
    refine o_storeAll rfl rfl hone agg216 hX.1 s3 (i := 0) rfl (List.length_replicate ..) (fun w4 s4 => ?_)
    refine ow_nil ?_
    refine then_normal ?_
    refine cw_seq ?_
    refine cw_region ?_
    refine ow_val rfl rfl (by decide) (e_move rfl) ?_
    refine o_call enter162 rfl (by decide) ?_
    have hcell := hX.2 n.toNat 0 (by omega) (by omega)
    refine (ways_calls bq n 0 (E n.toNat 0) _ (by omega) (by omega) (fun _ _ => s4.cell 0 rfl (Blk.reads (by rw [← hcell]; congr 1; simp)))).mono ?_
    rintro e_ w_1 ⟨rfl, rfl⟩
    refine ⟨_, rfl, ?_⟩
    refine ow_val rfl rfl (by decide) (e_assign rfl) ?_
    refine ow_val rfl rfl (by decide) (e_assign rfl) ?_
    refine ow_nil ?_
    refine then_normal ?_
    refine cw_ret ?_
    refine ends2 (v := .int .i64 (E n.toNat 0)) (v' := .int .i64 0) (.inl rfl) Try.results72 rfl rfl ?_
    exact ⟨by rw [cntM, if_pos hin], s4.toBelow 1 rfl⟩
set_option maxHeartbeats 1000000 in
theorem matchedAt_calls (n k : Int) (w : World) :
    Calls Try.prog 73 #[.int .i64 n, .int .i64 k] w fun e w' => e = .returned (.tuple #[.string (matM n k).1, .int .i64 (matM n k).2]) ∧ Below w.heap.size w w' := by
  have s0 := Sat.start w
  refine calls_of_cw (args := [.int .i64 n, .int .i64 k]) Try.func73 Try.ntmps73 rfl (by simp) ?_
  refine cw_seq ?_
  refine cw_region ?_
  refine ow_val rfl rfl (by decide) (e_assign rfl) ?_
  refine ow_val rfl rfl (by decide) (e_assign rfl) ?_
  refine ow_nil ?_
  refine then_normal ?_
  refine cw_seq ?_
  refine cw_region ?_
  refine ow_val rfl rfl (by decide) (e_move rfl) ?_
  refine o_call enter72 rfl (by decide) ?_
  refine (countM_calls n _).mono ?_
  rintro e_ w1 ⟨rfl, hb_⟩
  have s1 := s0.below hb_
  refine ⟨_, rfl, ?_⟩
  refine ow_val rfl rfl (by decide) (e_move rfl) ?_
  refine ow_val rfl rfl (by decide) (e_extract rfl rfl) ?_
  refine ow_val rfl rfl (by decide) (e_extract rfl rfl) ?_
  refine ow_val rfl rfl (by decide) (e_assign rfl) ?_
  refine ow_val rfl rfl (by decide) (e_assign rfl) ?_
  refine ow_nil ?_
  refine then_normal ?_
  refine cw_seq ?_
  refine cw_seq ?_
  refine cw_region ?_
  have hcb := cntM_bd n
  refine ow_val rfl rfl (by decide) (e_move rfl) ?_
  refine ow_val rfl rfl (by decide) (e_neq rfl rfl) ?_
  refine ow_val rfl rfl (by decide) (e_move rfl) ?_
  refine ow_split (g := 22) (by decide) rfl (fun g2 => ?_) (fun g2 => ?_)
  · skip
    have hc2 : ¬ (cntM n).2 = 0 := (by simpa using g2)
    refine ow_out rfl rfl rfl (by decide) ?_
    refine ow_out rfl rfl rfl (by decide) ?_
    refine ow_out rfl rfl rfl (by decide) ?_
    refine ow_out rfl rfl rfl (by decide) ?_
    refine ow_out rfl rfl rfl (by decide) ?_
    refine ow_val rfl rfl (by decide) (e_pick rfl) ?_
    refine ow_nil ?_
    refine then_normal ?_
    refine cw_cond_true rfl ?_
    refine cw_seq ?_
    refine cw_region ?_
    refine ow_val rfl rfl (by decide) (e_assign rfl) ?_
    refine ow_val rfl rfl (by decide) (e_assign rfl) ?_
    refine ow_nil ?_
    refine then_normal ?_
    refine cw_ret ?_
    refine then_ret ?_
    refine ends2 (v := .string ⟨#[]⟩) (v' := .int .i64 2) (.inl rfl) Try.results73 rfl rfl ?_
    exact ⟨by rw [matM, if_neg (by exact fun h => hc2 h.1)], s1.toBelow 0 rfl⟩
  · skip
    have hc2 : (cntM n).2 = 0 := (by simpa using g2)
    refine ow_in rfl rfl ?_
    refine ow_val rfl rfl (by decide) (e_move rfl) ?_
    refine ow_in rfl rfl ?_
    refine ow_val rfl rfl (by decide) (e_move rfl) ?_
    refine ow_in rfl rfl ?_
    refine o_subI rfl rfl (by omega) (by omega) (by decide) ?_
    refine ow_in rfl rfl ?_
    refine o_call enter71 rfl (by decide) ?_
    refine (within_calls _ _ _ _).mono ?_
    rintro e_ w_1 ⟨rfl, rfl⟩
    refine ⟨_, rfl, ?_⟩
    refine ow_in rfl rfl ?_
    refine ow_val rfl rfl (by decide) (e_not rfl) ?_
    refine ow_val rfl rfl (by decide) (e_pick rfl) ?_
    refine ow_nil ?_
    refine then_normal ?_
    refine cw_cond rfl (fun c4 => ?_) (fun c4 => ?_)
    · skip
      have hkin : ¬ inR k 0 ((cntM n).1 - 1) = true := (by simpa using c4)
      refine cw_seq ?_
      refine cw_region ?_
      refine ow_val rfl rfl (by decide) (e_assign rfl) ?_
      refine ow_val rfl rfl (by decide) (e_assign rfl) ?_
      refine ow_nil ?_
      refine then_normal ?_
      refine cw_ret ?_
      refine then_ret ?_
      refine ends2 (v := .string ⟨#[]⟩) (v' := .int .i64 2) (.inl rfl) Try.results73 rfl rfl ?_
      exact ⟨by rw [matM, if_neg (by exact fun h => hkin h.2)], s1.toBelow 0 rfl⟩
    · skip
      have hkin : inR k 0 ((cntM n).1 - 1) = true := (by simpa using c4)
      have hn20 : inR n 0 20 = true := (Classical.byContradiction fun h => by rw [cntM, if_neg h] at hc2; exact absurd hc2 (by decide))
      have hnn20 : 0 ≤ n ∧ n ≤ 20 := (by simpa [inR] using hn20)
      have hcE : (cntM n).1 = E n.toNat 0 := (by rw [cntM, if_pos hn20])
      have hbE := E_bd (m := n.toNat) (d := 0) (by omega)
      have hkk : 0 ≤ k ∧ k ≤ (cntM n).1 - 1 := (by simpa [inR] using hkin)
      have hncast : n - 1 = ((n.toNat : Nat) : Int) - 1 := by omega
      refine cw_skip ?_
      refine then_normal ?_
      refine cw_seq ?_
      refine cw_region ?_
      refine o_call enter161 rfl (by decide) ?_
      refine (endings_calls _).mono ?_
      rintro e_ w5 ⟨X, hX, hone, rfl, hb_⟩
      have s5 := s1.below hb_
      refine ⟨_, rfl, ?_⟩
      refine o_buildSlice0 slt83 s5 (by decide) (fun b7 w6 s6 => ?_)
      refine o_alloc zero216 s6 (by decide) (fun bq w8 s8 => ?_)
      refine o_storeAll rfl rfl hone agg216 hX.1 s8 (i := 0) rfl (List.length_replicate ..) (fun w9 s9 => ?_)
      refine ow_val rfl rfl (by decide) (e_assign rfl) ?_
      refine ow_val rfl rfl (by decide) (e_assign rfl) ?_
      refine ow_nil ?_
      refine then_normal ?_
      refine cw_seq ?_
      refine cw_seq ?_
      refine cw_region ?_
      refine ow_val rfl rfl (by decide) (e_move rfl) ?_
      refine o_subI rfl rfl (by omega) (by omega) (by decide) ?_
      refine ow_val rfl rfl (by decide) (e_assign rfl) ?_
      refine ow_nil ?_
      refine then_normal ?_
      refine cw_block ?_
      refine cw_loop (fun μ_ f_ w_ => ∃ m : Nat, ∃ kk : Int, ∃ dd : Int, ∃ A : Option Addr, ∃ nn : Nat, ∃ c : Nat, ∃ Y : List Value, ∃ acc : List Int, μ_ = 0 + m ∧ f_ 1 = .int .i64 kk ∧ f_ 8 = .pointer (some ⟨bq, 0, none⟩) ∧ f_ 9 = .slice A nn c ∧ f_ 10 = .int .i64 dd ∧ f_ 11 = .int .i64 ((m : Int) - 1) ∧ (Y = acc.map (Value.int .u8)) ∧ (nn = acc.length) ∧ (m ≤ n.toNat) ∧ (dd ≤ (n.toNat : Int) - m) ∧ (-((n.toNat : Int) - m) ≤ dd) ∧ (0 ≤ kk) ∧ (kk ≤ 3656158440062976) ∧ (nn ≤ n.toNat - m) ∧ (acc ++ matG m dd kk = matG n.toNat 0 k) ∧ Sat w w_ [Sl 5 1 (.slice A nn c) nn Y, Blk bq 216 X, Old w]) (0 + n.toNat) ⟨n.toNat, k, 0, (some ⟨b7, 0, none⟩), 0, 0, _, [], rfl, rfl, rfl, rfl, rfl, (Eq.trans rfl (congrArg (Value.int .i64) hncast)), rfl, rfl, Nat.le_refl _, by omega, by omega, by omega, by omega, Nat.zero_le _, rfl, (s9.pickN 3 [1, 0, 2] rfl (by decide) rfl)⟩ ?_
      intro k_ f_ w_ h_
      obtain ⟨m, kk, dd, A, nn, c, Y, acc, rfl, e10_1, e10_8, e10_9, e10_10, e10_11, hY, hnn, hm, hd0, hd1, hk0, hk1, hln, hacc, s10⟩ := h_
      skip
      refine cw_seq ?_
      refine cw_seq ?_
      refine cw_region ?_
      refine ow_val rfl rfl (by decide) (e_move e10_11) ?_
      refine ow_val rfl rfl (by decide) (e_geq rfl rfl) ?_
      refine ow_nil ?_
      refine then_normal ?_
      refine cw_cond rfl (fun c11 => ?_) (fun c11 => ?_)
      · skip
        obtain ⟨m', rfl⟩ : ∃ m', m = m' + 1 := ⟨m - 1, by have := of_decide_eq_true c11; omega⟩
        have hmc : (((m' + 1 : Nat) : Int) - 1) - 1 = ((m' : Nat) : Int) - 1 := by omega
        refine cw_skip ?_
        refine then_normal ?_
        refine cw_seq ?_
        refine cw_block ?_
        refine cw_seq ?_
        refine cw_region ?_
        refine ow_val rfl rfl (by decide) (e_move rfl) ?_
        refine ow_nil ?_
        refine then_normal ?_
        refine cw_block ?_
        refine cw_loop (fun μ_ f_ w_ => ∃ i : Nat, ∃ k2 : Int, μ_ = 6 - i ∧ f_ 1 = .int .i64 k2 ∧ f_ 8 = .pointer (some ⟨bq, 0, none⟩) ∧ f_ 9 = .slice A nn c ∧ f_ 10 = .int .i64 dd ∧ f_ 11 = (.int .i64 (((m' + 1 : Nat) : Int) - 1)) ∧ f_ 37 = .int .i64 (i : Int) ∧ (i ≤ 6) ∧ (0 ≤ k2) ∧ (k2 ≤ kk) ∧ (pickG m' dd (chs.drop i) k2 = pickG m' dd chs kk) ∧ Sat w w_ [Sl 5 1 (.slice A nn c) nn Y, Blk bq 216 X, Old w]) 6 ⟨0, kk, rfl, e10_1, e10_8, e10_9, e10_10, e10_11, rfl, by omega, hk0, Int.le_refl _, rfl, s10⟩ ?_
        intro k_ f_ w_ h_
        obtain ⟨i, k2, rfl, e12_1, e12_8, e12_9, e12_10, e12_11, e12_37, hi, hk20, hk21, hp, s12⟩ := h_
        skip
        refine cw_seq ?_
        refine cw_region ?_
        refine ow_val rfl rfl (by decide) (e_lss e12_37 rfl) ?_
        refine ow_nil ?_
        refine then_normal ?_
        refine cw_seq ?_
        refine cw_cond rfl (fun c13 => ?_) (fun c13 => ?_)
        · skip
          have hi6 : i < 6 := (by have := of_decide_eq_true c13; omega)
          refine cw_skip ?_
          refine then_normal ?_
          refine cw_seq ?_
          refine cw_block ?_
          refine cw_seq ?_
          refine cw_region ?_
          refine ow_val rfl rfl (by decide) (e_move e12_37) ?_
          refine ow_val rfl rfl (by decide) (e_assign rfl) ?_
          refine ow_nil ?_
          refine then_normal ?_
          refine cw_seq ?_
          refine cw_region ?_
          refine ow_val rfl rfl (by decide) (e_move e12_10) ?_
          refine ow_val rfl rfl (by decide) (e_move rfl) ?_
          refine ow_val rfl rfl (by decide) (e_idxBt (s := W6) rfl rfl Try.underlying9 (by omega) (by show (i : Int) < 6; omega)) ?_
          refine o_call enter163 rfl (by decide) ?_
          refine (depth_calls dd (bt W6 (i : Int)) _ (by omega) (by omega)).mono ?_
          rintro e_ w_1 ⟨rfl, rfl⟩
          refine ⟨_, rfl, ?_⟩
          refine ow_val rfl rfl (by decide) (e_assign rfl) ?_
          refine ow_nil ?_
          refine then_normal ?_
          refine cw_seq ?_
          refine cw_seq ?_
          refine cw_region ?_
          refine ow_val rfl rfl (by decide) (e_move e12_11) ?_
          refine ow_val rfl rfl (by decide) (e_move rfl) ?_
          refine o_call enter162 (mapc e12_8 (mapc rfl (mapc rfl rfl))) (by decide) ?_
          have hdb := dB_bd dd (bt W6 (i : Int))
          have hwb := wy_bd (m := m') (by omega) (dB dd (bt W6 (i : Int)))
          have hwz : (dB dd (bt W6 (i : Int)) < 0 ∨ ((m' + 1 : Nat) : Int) - 1 < dB dd (bt W6 (i : Int))) → wy m' (dB dd (bt W6 (i : Int))) = 0 := fun h => by rw [wy, if_pos (by omega)]
          have hwc : 0 ≤ dB dd (bt W6 (i : Int)) → dB dd (bt W6 (i : Int)) ≤ ((m' + 1 : Nat) : Int) - 1 → X[0 + (((m' + 1 : Nat) : Int) - 1).toNat * 22 + (dB dd (bt W6 (i : Int))).toNat * 1]? = some (.int .i64 (wy m' (dB dd (bt W6 (i : Int))))) := fun h0 h1 => by
            have hcell := hX.2 m' (dB dd (bt W6 (i : Int))).toNat (by omega) (by omega)
            rw [wy, if_neg (by omega), ← hcell]
            congr 1
            omega
          have hwq := ways_calls bq (((m' + 1 : Nat) : Int) - 1) (dB dd (bt W6 (i : Int))) (wy m' (dB dd (bt W6 (i : Int)))) _ (by omega) hwz (fun h0 h1 => s12.cell 1 rfl (Blk.reads (hwc h0 h1)))
          refine hwq.mono ?_
          rintro e_ w_1 ⟨rfl, rfl⟩
          refine ⟨_, rfl, ?_⟩
          refine ow_val rfl rfl (by decide) (e_assign rfl) ?_
          refine ow_nil ?_
          refine then_normal ?_
          refine cw_seq ?_
          refine cw_region ?_
          refine ow_val rfl rfl (by decide) (e_move e12_1) ?_
          refine ow_val rfl rfl (by decide) (e_move rfl) ?_
          refine ow_val rfl rfl (by decide) (e_geq rfl rfl) ?_
          refine ow_nil ?_
          refine then_normal ?_
          refine cw_cond rfl (fun c14 => ?_) (fun c14 => ?_)
          · skip
            have hge : k2 ≥ wy m' (dB dd (bt W6 (i : Int))) := of_decide_eq_true c14
            refine cw_seq ?_
            refine cw_region ?_
            refine ow_val rfl rfl (by decide) (e_move e12_1) ?_
            refine ow_val rfl rfl (by decide) (e_move rfl) ?_
            refine o_subI rfl rfl (by omega) (by omega) (by decide) ?_
            refine ow_val rfl rfl (by decide) (e_assign rfl) ?_
            refine ow_nil ?_
            refine then_normal ?_
            refine cw_exit ?_
            refine then_exit ?_
            refine inb_exit ?_
            refine then_normal ?_
            refine cw_region ?_
            refine o_addI e12_37 rfl (by omega) (by omega) (by decide) ?_
            refine ow_val rfl rfl (by decide) (e_move rfl) ?_
            refine ow_nil ?_
            refine then_normal ?_
            exact ⟨_, by omega, i + 1, (k2 - wy m' (dB dd (bt W6 (i : Int)))), rfl, rfl, e12_8, e12_9, e12_10, e12_11, rfl, by omega, by omega, by omega, by rw [← hp]; exact (pick_ge hi6 hge).symm, s12⟩
          · skip
            have hgt : ¬ k2 ≥ wy m' (dB dd (bt W6 (i : Int))) := of_decide_eq_false c14
            refine cw_skip ?_
            refine then_normal ?_
            refine cw_seq ?_
            refine cw_region ?_
            refine ow_val rfl rfl (by decide) (e_move e12_9) ?_
            refine ow_val rfl rfl (by decide) (e_move rfl) ?_
            refine ow_val rfl rfl (by decide) (e_idxBt (s := W6) rfl rfl Try.underlying9 (by omega) (by show (i : Int) < 6; omega)) ?_
            refine o_buildSlice1 (v := .int .u8 (bt W6 (i : Int))) rfl rfl slt83 s12 (by decide) (fun b15 w16 s16 => ?_)
            refine o_append1 rfl rfl slt83 (s16.rot 1 rfl) (j := 1) rfl rfl (by omega) (by omega) (by decide) (fun A18 c19 w17 s17 => ?_)
            refine ow_val rfl rfl (by decide) (e_move rfl) ?_
            refine ow_val rfl rfl (by decide) (e_assign rfl) ?_
            refine ow_val rfl rfl (by decide) (e_assign rfl) ?_
            refine ow_nil ?_
            refine then_normal ?_
            refine cw_exit ?_
            refine inb_other rfl ?_
            refine then_exit ?_
            refine then_exit ?_
            refine inb_exit ?_
            refine inb_normal ?_
            refine then_normal ?_
            refine cw_region ?_
            refine ow_val rfl rfl (by decide) (e_move e12_11) ?_
            refine o_subI rfl rfl (by omega) (by omega) (by decide) ?_
            refine ow_val rfl rfl (by decide) (e_assign rfl) ?_
            refine ow_nil ?_
            refine then_normal ?_
            exact ⟨_, by omega, m', k2, (dB dd (bt W6 (i : Int))), A18, (nn + 1), c19, _, acc ++ [bt W6 (i : Int)], rfl, e12_1, e12_8, rfl, rfl, (Eq.trans rfl (congrArg (Value.int .i64) hmc)), by rw [hY]; simp, by simp [hnn], by omega, by omega, by omega, hk20, by omega, by omega, by rw [← hacc, mat_some (hp.symm.trans (pick_lt hi6 hgt))]; simp, (s17.pickN 4 [0, 2, 3] rfl (by decide) rfl)⟩
        · skip
          have hi6 : i = 6 := (by have := of_decide_eq_false c13; omega)
          refine cw_exit ?_
          refine then_exit ?_
          refine then_exit ?_
          refine inb_exit ?_
          refine inb_normal ?_
          refine then_normal ?_
          refine cw_region ?_
          refine ow_val rfl rfl (by decide) (e_move e12_11) ?_
          refine o_subI rfl rfl (by omega) (by omega) (by decide) ?_
          refine ow_val rfl rfl (by decide) (e_assign rfl) ?_
          refine ow_nil ?_
          refine then_normal ?_
          exact ⟨_, by omega, m', k2, dd, A, nn, c, _, acc, rfl, e12_1, e12_8, e12_9, e12_10, (Eq.trans rfl (congrArg (Value.int .i64) hmc)), hY, hnn, by omega, by omega, by omega, hk20, by omega, by omega, by rw [← hacc, mat_none (by rw [← hp, hi6]; rfl)], s12⟩
      · skip
        have hm0 : m = 0 := (by have := of_decide_eq_false c11; omega)
        subst hm0
        refine cw_exit ?_
        refine then_exit ?_
        refine then_exit ?_
        refine inb_exit ?_
        refine then_normal ?_
        refine cw_seq ?_
        refine cw_region ?_
        refine ow_val rfl rfl (by decide) (e_move e10_9) ?_
        have hrow := s10.row 0 rfl
        rw [hY] at hrow
        refine ow_val rfl rfl (by decide) (e_conv rfl (own_string (P := Try.prog) Try.underlying83 Try.underlying5 Try.underlying9 hrow)) ?_
        refine ow_val rfl rfl (by decide) (e_assign rfl) ?_
        refine ow_val rfl rfl (by decide) (e_assign rfl) ?_
        refine ow_nil ?_
        refine then_normal ?_
        refine cw_ret ?_
        refine ends2 (v := .string (strOfNums acc)) (v' := .int .i64 0) (.inl rfl) Try.results73 rfl rfl ?_
        exact ⟨by rw [matM, if_pos ⟨hc2, hkin⟩, ← hacc]; simp [matG], s10.toBelow 2 rfl⟩
end Go.Proofs.Ytjkohjdiddhpcaa.My
