import Derived.Test.YtjkohjdiddhpcaaCa
import Derived.Test.YtjkohjdiddhpcaaX7
import Derived.Test.YtjkohjdiddhpcaaCd
/- Walks of the given code, and plain lemmas, for the law FnExactCountProgramWords (part Ce). -/
set_option linter.unusedVariables false
set_option linter.unusedSimpArgs false
namespace Go.Proofs.Ytjkohjdiddhpcaa.My
open Go.Sl Go.RowKit Go.Proofs.YtjkohjdiddhpcaaW.PrintWords Go.Proofs.YtjkohjdiddhpcaaW.PrintLast Go.Proofs.YtjkohjdiddhpcaaW.PrintMore Go.Proofs.Ytjkohjdiddhpcaa.PFnExactCountProgramWords
theorem enter84 : enterB Try.prog 84 = true := by kernel_rfl
theorem enter238 : enterB Try.prog 238 = true := by kernel_rfl
theorem enter272 : enterB Try.prog 272 = true := by kernel_rfl
theorem castL_set (l : List Nat) (i u : Nat) : ((castL l).map (Value.int .i64)).set i (.int .i64 ((u : Nat) : Int)) = (castL (l.set i u)).map (Value.int .i64) := by
  simp only [castL, List.map_set]
section
variable {P : Program} {f : Fr} {w : World} {d : Nat} {ty : TypeId} {pos : String} {after : Array Edge} {gd : Option (Nat × Bool)} {x y : Operand} {xt yt : TypeId}
theorem e_shlN {b : Int} (hx : fe f x = .int .i64 1) (hy : fe f y = .int .u64 b) (h0 : 0 ≤ b) (h1 : b < 8) : (execOp (fe f) ⟨some d, .binOp .shl xt x y yt, ty, pos, after, gd⟩).run P w = .ok (.value (.int .i64 ((2 ^ b.toNat : Nat) : Int))) w := by
  rw [e_shl hx hy h0]
  have h := shI (j := b.toNat) (by omega)
  have e : ((b.toNat : Nat) : Int) = b := by omega
  rw [e] at h
  rw [h]
theorem e_orN {u v : Nat} (hx : fe f x = .int .i64 (u : Int)) (hy : fe f y = .int .i64 (v : Int)) (hu : u < 256) (hv : v < 256) : (execOp (fe f) ⟨some d, .binOp .or xt x y yt, ty, pos, after, gd⟩).run P w = .ok (.value (.int .i64 ((u ||| v : Nat) : Int))) w := by
  rw [e_or hx hy, orI_eq hu hv]
end
def OfOk (G : ByteArray → Bool) (k : Nat) (ms : List S201) : Prop := ∀ (s : ByteArray) (pa : Addr) (A : Option Addr) (c : Nat) (w : World), Kd.C k201 w A ms.length ms → w.cell? (pa.add 0) = some (.slice A ms.length c) → G s = true →
    Calls Try.prog 238 #[.pointer (some pa), .string s] w fun e w' => ∃ b, e = .returned (.pointer (some ⟨b, 0, none⟩)) ∧ Part w w' [RelA b (castR (ofN ms k s))] ∧ Below w.heap.size w w'
set_option maxHeartbeats 2000000 in
theorem fac_calls (G : ByteArray → Bool) (k : Nat) (x : ByteArray) (ms : List S201) (pa : Addr) (A : Option Addr) (c : Nat) (w : World) (hC : Kd.C k201 w A ms.length ms) (hp : w.cell? (pa.add 0) = some (.slice A ms.length c)) (hW : WFm ms) (hl4 : ms.length ≤ 4) (hO : OfOk G k ms) (hxs : 1 ≤ x.size) (hxt : x.size ≤ 1000) (hg : x.size ≤ 1 ∨ G (x.extract 1 (x.size - 1)) = true) :
    Calls Try.prog 273 #[.pointer (some pa), .string x] w fun e w' => ∃ b, e = .returned (.pointer (some ⟨b, 0, none⟩)) ∧ Part w w' [RelA b (castR (facN ms x (innN ms k x)))] ∧ Below w.heap.size w w' := by
  have hmix : Try.prog.follows .mixedOrders = true := by kernel_rfl
  have hszx : ((x.size : Int) - 1) = ((x.size - 1 : Nat) : Int) := by omega
  have s0 := Sat.start w
  refine calls_of_cw (args := [.pointer (some pa), .string x]) Try.func273 Try.ntmps273 rfl (by simp) ?_
  refine cw_seq ?_
  refine cw_region ?_
  refine ow_val rfl rfl (by decide) (e_assign rfl) ?_
  refine ow_nil ?_
  refine then_normal ?_
  refine cw_seq ?_
  refine cw_region ?_
  refine o_build (cs := [.slice none 0 0]) rfl (by kernel_rfl) (by decide) ?_
  refine o_box rfl s0 (by decide) (fun bs w1 s1 => ?_)
  refine ow_val rfl rfl (by decide) (e_assign rfl) ?_
  refine ow_nil ?_
  refine then_normal ?_
  refine cw_seq ?_
  refine cw_region ?_
  refine ow_val rfl rfl (by decide) (e_move rfl) ?_
  refine o_call enter272 rfl (by decide) ?_
  refine (none_calls ms pa A c _ (Kd.C_below hC (s1.toBelow 1 rfl)) (s1.oldCell 1 rfl hp) hW hl4).mono ?_
  rintro e_ w2 ⟨bn, rfl, hp_, hb_⟩
  have s2 := s1.calledP hb_ hp_
  rw [noneR_cast] at s2
  refine ⟨_, rfl, ?_⟩
  refine ow_val rfl rfl (by decide) (e_assign rfl) ?_
  refine ow_nil ?_
  refine then_normal ?_
  refine cw_cut (fun f_ w_ => ∃ bi : Nat, f_ 0 = .pointer (some pa) ∧ f_ 1 = .string x ∧ f_ 5 = .pointer (some ⟨bs, 0, none⟩) ∧ f_ 6 = .pointer (some ⟨bi, 0, none⟩) ∧ Sat w w_ [Blk bs 288 [.slice none 0 0], RelA bi (castR (innN ms k x)), Old w]) ?_ ?_
  · skip
    refine cw_seq ?_
    refine cw_region ?_
    refine ow_val rfl rfl (by decide) (e_move rfl) ?_
    refine ow_val rfl rfl (by decide) (e_len_str rfl Try.underlying9) ?_
    refine ow_val rfl rfl (by decide) (e_gtr rfl rfl) ?_
    refine ow_nil ?_
    refine then_normal ?_
    refine cw_cond rfl (fun c3 => ?_) (fun c3 => ?_)
    · skip
      have hgt : x.size > 1 := (by have := of_decide_eq_true c3; omega)
      refine cw_region ?_
      refine ow_val rfl rfl (by decide) (e_move rfl) ?_
      refine ow_val rfl rfl (by decide) (e_move rfl) ?_
      refine ow_val rfl rfl (by decide) (e_move rfl) ?_
      refine ow_val rfl rfl (by decide) (e_len_str rfl Try.underlying9) ?_
      refine o_subI rfl rfl (by omega) (by omega) (by decide) ?_
      refine o_sliceS (l := 1) (h := x.size - 1) rfl Try.underlying9 (.inr ⟨.i64, rfl⟩) (.inr ⟨.i64, congrArg (fun z => some (Value.int .i64 z)) hszx⟩) (by omega) (by omega) (by decide) ?_
      refine o_call enter238 rfl (by decide) ?_
      refine (hO (x.extract 1 (x.size - 1)) pa A c _ (Kd.C_below hC (s2.toBelow 2 rfl)) (s2.oldCell 2 rfl hp) (hg.resolve_left (by omega))).mono ?_
      rintro e_ w4 ⟨bo, rfl, hp_, hb_⟩
      have s4 := s2.calledP hb_ hp_
      refine ⟨_, rfl, ?_⟩
      refine ow_val rfl rfl (by decide) (e_assign rfl) ?_
      refine ow_nil ?_
      refine then_normal ?_
      rw [show ofN ms k (x.extract 1 (x.size - 1)) = innN ms k x from by rw [innN, if_pos (by omega)]] at s4
      exact ⟨bo, rfl, rfl, rfl, rfl, (s4.pickN 4 [2, 0, 3] rfl (by decide) rfl)⟩
    · skip
      have hngt : ¬ x.size > 1 := (by have := of_decide_eq_false c3; omega)
      refine cw_skip ?_
      refine then_normal ?_
      rw [show noneN ms = innN ms k x from by rw [innN, if_neg (by omega)]] at s2
      exact ⟨bn, rfl, rfl, rfl, rfl, (s2.pickN 3 [1, 0, 2] rfl (by decide) rfl)⟩
  · intro f_ w_ h_
    obtain ⟨bi, e5_0, e5_1, e5_5, e5_6, s5⟩ := h_
    skip
    refine cw_seq ?_
    refine cw_seq ?_
    refine cw_region ?_
    obtain ⟨ai, ci, vi, s6⟩ := s5.relOpen 1 rfl
    have s7 := (s6.pushNil 34 1).push (A := NRows [] []) trivial
    have hrel := innN_rel hW k x
    have hlenI : (castR (innN ms k x)).length = ms.length := by rw [castR, List.length_map]; exact hrel.len
    refine ow_val rfl rfl (by decide) (e_assign rfl) ?_
    refine ow_nil ?_
    refine then_normal ?_
    refine cw_block ?_
    refine cw_loop (fun μ_ f_ w_ => ∃ i : Nat, ∃ Aq : Option Addr, ∃ nq : Nat, ∃ cq : Nat, ∃ vs : List Value, μ_ = ms.length - i ∧ f_ 0 = .pointer (some pa) ∧ f_ 1 = .string x ∧ f_ 5 = .pointer (some ⟨bs, 0, none⟩) ∧ f_ 6 = .pointer (some ⟨bi, 0, none⟩) ∧ f_ 7 = .int .i64 (i : Int) ∧ (i ≤ ms.length) ∧ (nq = i) ∧ Sat w w_ [Blk bs 288 [.slice Aq nq cq], Sl 34 1 (.slice Aq nq cq) nq vs, NRows vs (castR ((ms.take i).map (frowN ms x (innN ms k x)))), Blk bi 288 [.slice ai (castR (innN ms k x)).length ci], Sl 34 1 (.slice ai (castR (innN ms k x)).length ci) (castR (innN ms k x)).length vi, NRows vi (castR (innN ms k x)), Old w]) ms.length ⟨0, none, 0, 0, [], rfl, e5_0, e5_1, e5_5, e5_6, rfl, Nat.zero_le _, rfl, (s7.pickN 7 [5, 1, 0, 2, 3, 4, 6] rfl (by decide) rfl)⟩ ?_
    intro k_ f_ w_ h_
    obtain ⟨i, Aq, nq, cq, vs, rfl, e8_0, e8_1, e8_5, e8_6, e8_7, hi, hnq, s8⟩ := h_
    skip
    refine cw_seq ?_
    refine cw_seq ?_
    refine cw_region ?_
    refine ow_val rfl rfl (by decide) (e_move e8_7) ?_
    refine ow_val rfl rfl (by decide) (e_move e8_0) ?_
    refine ow_val rfl rfl (by decide) (e_nilCheck rfl) ?_
    refine ow_val rfl rfl (by decide) (e_fieldA rfl field30_0 rfl) ?_
    refine ow_val rfl rfl (by decide) (e_load rfl flat28 (s8.oldCell 6 rfl hp)) ?_
    refine ow_val rfl rfl (by decide) (e_len_slice rfl Try.underlying28) ?_
    refine ow_val rfl rfl (by decide) (e_lss rfl rfl) ?_
    refine ow_nil ?_
    refine then_normal ?_
    refine cw_cond rfl (fun c9 => ?_) (fun c9 => ?_)
    · skip
      have hlt : i < ms.length := (by have := of_decide_eq_true c9; omega)
      obtain ⟨ad, A1, cm, eA, hx0, hx1, hl1, hC1⟩ := at_T201 hC (i : Int) (by omega) (by omega)
      obtain ⟨md, hmd⟩ : ∃ md, md = rd_T201 ms (i : Int) := ⟨_, rfl⟩
      rw [← hmd] at hx0 hx1 hl1 hC1
      have hnd := hW.node (i : Int) (by omega) (by omega)
      rw [← hmd] at hnd
      have hmax1 := hC1.2.1
      subst eA
      refine cw_skip ?_
      refine then_normal ?_
      refine cw_seq ?_
      refine cw_block ?_
      refine cw_seq ?_
      refine cw_region ?_
      refine ow_val rfl rfl (by decide) (e_move e8_0) ?_
      refine ow_val rfl rfl (by decide) (e_nilCheck rfl) ?_
      refine ow_val rfl rfl (by decide) (e_fieldA rfl field30_0 rfl) ?_
      refine ow_val rfl rfl (by decide) (e_load rfl flat28 (s8.oldCell 6 rfl hp)) ?_
      refine ow_val rfl rfl (by decide) (e_move e8_7) ?_
      refine o_idxR rfl rfl slt28 (by omega) (by omega) (by decide) ?_
      refine ow_val rfl rfl (by decide) (e_fieldA rfl field201_0 rfl) ?_
      refine ow_val rfl rfl (by decide) (e_load rfl flat2 (s8.oldCell 6 rfl hx0)) ?_
      refine o_make (m := md.f0.toNat) slt34 rfl rfl (by omega) (by omega) (by omega) (by omega) s8 (by decide) (fun b8 w10 s_ => ?_)
      rw [show (madeCells (Value.int .i64 0).cells (md.f0.toNat * 1)).toList = List.replicate md.f0.toNat (.int .i64 0) from made_one _ _] at s_
      have s_' := s_.impAt 0 rfl (Blk.toSl (m := md.f0.toNat) (sz := 1) (by simp) (by show _ ≤ 9223372036854775807; omega))
      have s10 := s_'
      rw [show List.replicate md.f0.toNat (Value.int .i64 0) = (castL (List.replicate md.f0.toNat 0)).map (Value.int .i64) from by simp [castL]] at s10
      refine ow_val rfl rfl (by decide) (e_assign rfl) ?_
      refine ow_nil ?_
      refine then_normal ?_
      refine cw_seq ?_
      refine cw_seq ?_
      refine cw_region ?_
      refine ow_val rfl rfl (by decide) (e_assign rfl) ?_
      refine ow_nil ?_
      refine then_normal ?_
      refine cw_block ?_
      refine cw_loop (fun μ_ f_ w_ => ∃ j : Nat, ∃ rwn : List Nat, ∃ X8 : List Value, μ_ = md.f1.length - j ∧ f_ 0 = .pointer (some pa) ∧ f_ 1 = .string x ∧ f_ 5 = .pointer (some ⟨bs, 0, none⟩) ∧ f_ 6 = .pointer (some ⟨bi, 0, none⟩) ∧ f_ 7 = .int .i64 (i : Int) ∧ f_ 8 = .slice (some ⟨b8, 0, none⟩) md.f0.toNat md.f0.toNat ∧ f_ 9 = .int .i64 (j : Int) ∧ (j ≤ md.f1.length) ∧ (rwn = (md.f1.take j).foldl (rowStepN ms x (innN ms k x)) (List.replicate md.f0.toNat 0)) ∧ (X8 = (castL rwn).map (Value.int .i64)) ∧ Sat w w_ [Sl 2 1 (.slice (some ⟨b8, 0, none⟩) md.f0.toNat md.f0.toNat) md.f0.toNat X8, Blk bs 288 [.slice Aq nq cq], Sl 34 1 (.slice Aq nq cq) nq vs, NRows vs (castR ((ms.take i).map (frowN ms x (innN ms k x)))), Blk bi 288 [.slice ai (castR (innN ms k x)).length ci], Sl 34 1 (.slice ai (castR (innN ms k x)).length ci) (castR (innN ms k x)).length vi, NRows vi (castR (innN ms k x)), Old w]) md.f1.length ⟨0, _, _, rfl, e8_0, e8_1, e8_5, e8_6, e8_7, rfl, rfl, Nat.zero_le _, rfl, rfl, s10⟩ ?_
      intro k_ f_ w_ h_
      obtain ⟨j, rwn, X8, rfl, e11_0, e11_1, e11_5, e11_6, e11_7, e11_8, e11_9, hj, hrw, hX8, s11⟩ := h_
      skip
      refine cw_seq ?_
      refine cw_seq ?_
      refine cw_region ?_
      refine ow_val rfl rfl (by decide) (e_move e11_9) ?_
      refine ow_val rfl rfl (by decide) (e_move e11_0) ?_
      refine ow_val rfl rfl (by decide) (e_nilCheck rfl) ?_
      refine ow_val rfl rfl (by decide) (e_fieldA rfl field30_0 rfl) ?_
      refine ow_val rfl rfl (by decide) (e_load rfl flat28 (s11.oldCell 7 rfl hp)) ?_
      refine ow_val rfl rfl (by decide) (e_move e11_7) ?_
      refine o_idxR rfl rfl slt28 (by omega) (by omega) (by decide) ?_
      refine ow_val rfl rfl (by decide) (e_fieldA rfl field201_1 rfl) ?_
      refine ow_val rfl rfl (by decide) (e_load rfl flat199 (s11.oldCell 7 rfl hx1)) ?_
      refine ow_val rfl rfl (by decide) (e_len_slice rfl Try.underlying199) ?_
      refine ow_val rfl rfl (by decide) (e_lss rfl rfl) ?_
      refine ow_nil ?_
      refine then_normal ?_
      refine cw_cond rfl (fun c12 => ?_) (fun c12 => ?_)
      · skip
        have hltj : j < md.f1.length := (by have := of_decide_eq_true c12; omega)
        obtain ⟨ad2, eA1, hy0, hy1, hy2, hy3⟩ := at_T204 hC1 (j : Int) (by omega) (by omega)
        have hlk := hW.link (i : Int) (by omega) (by omega) (j : Int) (by omega) (by rw [← hmd]; omega)
        rw [← hmd] at hlk
        obtain ⟨ld, hld⟩ : ∃ ld, ld = rd_T204 md.f1 (j : Int) := ⟨_, rfl⟩
        rw [← hld] at hy0 hy1 hy2 hy3 hlk
        subst eA1
        have hrl : rwn.length = md.f0.toNat := by rw [hrw, rowFold_len, List.length_replicate]
        have hrt : ∀ u ∈ rwn, u < 256 := by
          rw [hrw]
          refine rowFold_lt ms x (innN ms k x) _ _ (fun l hl => ?_) (fun u hu => by rw [List.eq_of_mem_replicate hu]; decide)
          have h_ := link_mem hW hlt l (by rw [← hmd]; exact List.mem_of_mem_take hl)
          exact h_.1
        refine cw_skip ?_
        refine then_normal ?_
        refine cw_seq ?_
        refine cw_block ?_
        refine cw_seq ?_
        refine cw_region ?_
        refine ow_val rfl rfl (by decide) (e_move e11_0) ?_
        refine ow_val rfl rfl (by decide) (e_nilCheck rfl) ?_
        refine ow_val rfl rfl (by decide) (e_fieldA rfl field30_0 rfl) ?_
        refine ow_val rfl rfl (by decide) (e_load rfl flat28 (s11.oldCell 7 rfl hp)) ?_
        refine ow_val rfl rfl (by decide) (e_move e11_7) ?_
        refine o_idxR rfl rfl slt28 (by omega) (by omega) (by decide) ?_
        refine ow_val rfl rfl (by decide) (e_fieldA rfl field201_1 rfl) ?_
        refine ow_val rfl rfl (by decide) (e_load rfl flat199 (s11.oldCell 7 rfl hx1)) ?_
        refine ow_val rfl rfl (by decide) (e_move e11_9) ?_
        refine o_idxR rfl rfl slt199 (by omega) (by omega) (by decide) ?_
        refine ow_val rfl rfl (by decide) (e_assign rfl) ?_
        refine ow_nil ?_
        refine then_normal ?_
        refine cw_seq ?_
        refine cw_region ?_
        refine ow_val rfl rfl (by decide) (e_move rfl) ?_
        refine o_call enter149 rfl (by decide) ?_
        refine (l07Inner_calls _ ld.f2 _ (s11.oldCell 7 rfl hy2)).mono ?_
        rintro e_ w_1 ⟨rfl, rfl⟩
        refine ⟨_, rfl, ?_⟩
        refine ow_val rfl rfl (by decide) (e_move rfl) ?_
        refine ow_split (g := 69) (by decide) rfl (fun g13 => ?_) (fun g13 => ?_)
        · skip
          have hsz1 : ld.f2.size = 1 := (by have := eq_of_beq g13; omega)
          refine ow_in rfl rfl ?_
          refine ow_val rfl rfl (by decide) (e_move rfl) ?_
          refine ow_in rfl rfl ?_
          refine ow_val rfl rfl (by decide) (e_nilCheck rfl) ?_
          refine ow_in rfl rfl ?_
          refine ow_val rfl rfl (by decide) (e_fieldA rfl field204_2 rfl) ?_
          refine ow_in rfl rfl ?_
          refine ow_val rfl rfl (by decide) (e_load rfl flat9 (s11.oldCell 7 rfl hy2)) ?_
          refine ow_in rfl rfl ?_
          refine ow_val rfl rfl (by decide) (e_move e11_1) ?_
          refine ow_in rfl rfl ?_
          refine ow_val rfl rfl (by decide) (e_seql rfl rfl) ?_
          refine ow_val rfl rfl (by decide) (e_pick rfl) ?_
          refine ow_val rfl rfl (by decide) (e_assign rfl) ?_
          refine ow_nil ?_
          refine then_normal ?_
          refine cw_seq ?_
          refine cw_seq ?_
          refine cw_region ?_
          refine ow_val rfl rfl (by decide) (e_move rfl) ?_
          refine o_call enter149 rfl (by decide) ?_
          refine (l07Inner_calls _ ld.f2 _ (s11.oldCell 7 rfl hy2)).mono ?_
          rintro e_ w_1 ⟨rfl, rfl⟩
          refine ⟨_, rfl, ?_⟩
          refine ow_val rfl rfl (by decide) (e_not rfl) ?_
          refine ow_val rfl rfl (by decide) (e_move rfl) ?_
          refine ow_split (g := 80) (by decide) rfl (fun g14 => ?_) (fun g14 => ?_)
          · skip
            exfalso; have h_ := g14; simp at h_; omega
          · skip
            skip
            refine ow_out rfl rfl rfl (by decide) ?_
            refine ow_out rfl rfl rfl (by decide) ?_
            refine ow_out rfl rfl rfl (by decide) ?_
            refine ow_val rfl rfl (by decide) (e_pick rfl) ?_
            refine ow_nil ?_
            refine then_normal ?_
            refine cw_cond_false rfl ?_
            refine cw_skip ?_
            refine then_normal ?_
            refine cw_seq ?_
            refine cw_region ?_
            refine ow_val rfl rfl (by decide) (e_move rfl) ?_
            refine ow_nil ?_
            refine then_normal ?_
            refine cw_cond rfl (fun c16 => ?_) (fun c16 => ?_)
            · skip
              skip
              have hrd : X8[ld.f0.toNat]? = some (.int .i64 ((rwn.getD ld.f0.toNat 0 : Nat) : Int)) := by rw [hX8, List.getElem?_map, castL_get (by omega)]; rfl
              have hp1 : 2 ^ ld.f1.toNat < 256 := Nat.pow_lt_pow_right (by decide : 1 < 2) (by omega : ld.f1.toNat < 8)
              refine al_keep #[false, false, false, false, false, false, false, false, false, false, false, false, false, false, false, false] [15] [0, 7] s11 hmix rfl rfl (idxB 8 rfl (by decide)) (fun w17 s17 => ?_)
              refine al_take 0 #[true, false, false, false, false, false, false, false, false, false, false, false, false, false, false, false] rfl rfl (by decide) (by kernel_rfl) (fun _ _ _ h => h) (ya rfl (fun w_ s_ => e_move e11_8)) (s17.pickD [0, 7] (idxB 8 rfl (by decide))) ?_
              refine al_take 1 #[true, true, false, false, false, false, false, false, false, false, false, false, false, false, false, false] rfl rfl (by decide) (by kernel_rfl) (fun _ _ _ h => h) (ya rfl (fun w_ s_ => e_move rfl)) (s17.pickD [0, 7] (idxB 8 rfl (by decide))) ?_
              refine al_take 2 #[true, true, true, false, false, false, false, false, false, false, false, false, false, false, false, false] rfl rfl (by decide) (by kernel_rfl) (fun _ _ _ h => h) (ya rfl (fun w_ s_ => e_nilCheck rfl)) (s17.pickD [0, 7] (idxB 8 rfl (by decide))) ?_
              refine al_take 3 #[true, true, true, true, false, false, false, false, false, false, false, false, false, false, false, false] rfl rfl (by decide) (by kernel_rfl) (fun _ _ _ h => h) (ya rfl (fun w_ s_ => e_fieldA rfl field204_0 rfl)) (s17.pickD [0, 7] (idxB 8 rfl (by decide))) ?_
              refine al_take 4 #[true, true, true, true, true, false, false, false, false, false, false, false, false, false, false, false] rfl rfl (by decide) (by kernel_rfl) (fun _ _ _ h => h) (ya rfl (fun w_ s_ => e_load rfl flat2 (s_.oldCell 1 rfl hy0))) (s17.pickD [0, 7] (idxB 8 rfl (by decide))) ?_
              refine al_take 5 #[true, true, true, true, true, true, false, false, false, false, false, false, false, false, false, false] rfl rfl (by decide) (by kernel_rfl) (fun _ _ _ h => h) (ya rfl (fun w_ s_ => e_idxS rfl rfl slt34 (by omega) (by omega))) (s17.pickD [0, 7] (idxB 8 rfl (by decide))) ?_
              refine al_take 6 #[true, true, true, true, true, true, true, false, false, false, false, false, false, false, false, false] rfl rfl (by decide) (by kernel_rfl) (fun _ _ _ h => h) (ya rfl (fun w_ s_ => e_load rfl flat2 (s_.slCell 0 rfl hrd))) (s17.pickD [0, 7] (idxB 8 rfl (by decide))) ?_
              refine al_take 7 #[true, true, true, true, true, true, true, true, false, false, false, false, false, false, false, false] rfl rfl (by decide) (by kernel_rfl) (fun _ _ _ h => h) (ya rfl (fun w_ s_ => e_move rfl)) (s17.pickD [0, 7] (idxB 8 rfl (by decide))) ?_
              refine al_take 8 #[true, true, true, true, true, true, true, true, true, false, false, false, false, false, false, false] rfl rfl (by decide) (by kernel_rfl) (fun _ _ _ h => h) (ya rfl (fun w_ s_ => e_nilCheck rfl)) (s17.pickD [0, 7] (idxB 8 rfl (by decide))) ?_
              refine al_take 9 #[true, true, true, true, true, true, true, true, true, true, false, false, false, false, false, false] rfl rfl (by decide) (by kernel_rfl) (fun _ _ _ h => h) (ya rfl (fun w_ s_ => e_fieldA rfl field204_1 rfl)) (s17.pickD [0, 7] (idxB 8 rfl (by decide))) ?_
              refine al_take 10 #[true, true, true, true, true, true, true, true, true, true, true, false, false, false, false, false] rfl rfl (by decide) (by kernel_rfl) (fun _ _ _ h => h) (ya rfl (fun w_ s_ => e_load rfl flat2 (s_.oldCell 1 rfl hy1))) (s17.pickD [0, 7] (idxB 8 rfl (by decide))) ?_
              refine al_take 11 #[true, true, true, true, true, true, true, true, true, true, true, true, false, false, false, false] rfl rfl (by decide) (by kernel_rfl) (fun _ _ _ h => h) (ya rfl (fun w_ s_ => e_conv rfl (conv_u (by omega) (by omega)))) (s17.pickD [0, 7] (idxB 8 rfl (by decide))) ?_
              refine al_take 12 #[true, true, true, true, true, true, true, true, true, true, true, true, true, false, false, false] rfl rfl (by decide) (by kernel_rfl) (fun _ _ _ h => h) (ya rfl (fun w_ s_ => e_shlN rfl rfl (by omega) (by omega))) (s17.pickD [0, 7] (idxB 8 rfl (by decide))) ?_
              refine al_take 13 #[true, true, true, true, true, true, true, true, true, true, true, true, true, true, false, false] rfl rfl (by decide) (by kernel_rfl) (fun _ _ _ h => h) (ya rfl (fun w_ s_ => e_orN rfl rfl (getD_lt hrt _) hp1)) (s17.pickD [0, 7] (idxB 8 rfl (by decide))) ?_
              refine al_take 14 #[true, true, true, true, true, true, true, true, true, true, true, true, true, true, true, false] rfl rfl (by decide) (by kernel_rfl) (fun _ _ _ h => h) (ya rfl (fun w_ s_ => e_idxS rfl rfl slt34 (by omega) (by omega))) (s17.pickD [0, 7] (idxB 8 rfl (by decide))) ?_
              refine al_one 15 #[true, true, true, true, true, true, true, true, true, true, true, true, true, true, true, true] (by kernel_rfl) rfl ?_
              refine o_store rfl rfl rfl flat2 s17 (i := 0) rfl (slWrites _ (by rw [hX8, List.length_map, castL_len]; omega)) (fun w18 s18 => ?_)
              refine stepL_nil (fun h => (h (by decide)).elim) ?_
              refine al_done (by kernel_rfl) ?_
              refine inb_normal ?_
              refine then_normal ?_
              refine cw_region ?_
              refine ow_val rfl rfl (by decide) (e_move e11_9) ?_
              refine o_addI rfl rfl (by omega) (by omega) (by decide) ?_
              refine ow_val rfl rfl (by decide) (e_assign rfl) ?_
              refine ow_nil ?_
              refine then_normal ?_
              have htk : takesL ms x (innN ms k x) ld = true := by rw [takesL, if_pos hsz1]; exact c16
              exact ⟨_, by omega, j + 1, (rwn.set ld.f0.toNat (rwn.getD ld.f0.toNat 0 ||| 2 ^ ld.f1.toNat)), _, rfl, e11_0, e11_1, e11_5, e11_6, e11_7, e11_8, rfl, by omega, by rw [take_foldl_succ (z := z204) hltj, ← hrw]; show _ = rowStepN ms x (innN ms k x) rwn (rd_T204 md.f1 (j : Int)); rw [← hld, rowStepN, htk]; rfl, by rw [hX8]; exact castL_set _ _ _, s18⟩
            · skip
              skip
              refine cw_skip ?_
              refine inb_normal ?_
              refine then_normal ?_
              refine cw_region ?_
              refine ow_val rfl rfl (by decide) (e_move e11_9) ?_
              refine o_addI rfl rfl (by omega) (by omega) (by decide) ?_
              refine ow_val rfl rfl (by decide) (e_assign rfl) ?_
              refine ow_nil ?_
              refine then_normal ?_
              have htk : takesL ms x (innN ms k x) ld = false := by rw [takesL, if_pos hsz1]; exact c16
              exact ⟨_, by omega, j + 1, rwn, _, rfl, e11_0, e11_1, e11_5, e11_6, e11_7, e11_8, rfl, by omega, by rw [take_foldl_succ (z := z204) hltj, ← hrw]; show _ = rowStepN ms x (innN ms k x) rwn (rd_T204 md.f1 (j : Int)); rw [← hld, rowStepN, htk]; rfl, hX8, s11⟩
        · skip
          have hsz1 : ¬ ld.f2.size = 1 := (by have := ne_of_beq_false g13; omega)
          refine ow_out rfl rfl rfl (by decide) ?_
          refine ow_out rfl rfl rfl (by decide) ?_
          refine ow_out rfl rfl rfl (by decide) ?_
          refine ow_out rfl rfl rfl (by decide) ?_
          refine ow_out rfl rfl rfl (by decide) ?_
          refine ow_out rfl rfl rfl (by decide) ?_
          refine ow_val rfl rfl (by decide) (e_pick rfl) ?_
          refine ow_val rfl rfl (by decide) (e_assign rfl) ?_
          refine ow_nil ?_
          refine then_normal ?_
          refine cw_seq ?_
          refine cw_seq ?_
          refine cw_region ?_
          refine ow_val rfl rfl (by decide) (e_move rfl) ?_
          refine o_call enter149 rfl (by decide) ?_
          refine (l07Inner_calls _ ld.f2 _ (s11.oldCell 7 rfl hy2)).mono ?_
          rintro e_ w_1 ⟨rfl, rfl⟩
          refine ⟨_, rfl, ?_⟩
          refine ow_val rfl rfl (by decide) (e_not rfl) ?_
          refine ow_val rfl rfl (by decide) (e_move rfl) ?_
          refine ow_split (g := 80) (by decide) rfl (fun g19 => ?_) (fun g19 => ?_)
          · skip
            skip
            refine ow_in rfl rfl ?_
            refine ow_val rfl rfl (by decide) (e_move e11_1) ?_
            refine ow_in rfl rfl ?_
            refine ow_val rfl rfl (by decide) (e_len_str rfl Try.underlying9) ?_
            refine ow_in rfl rfl ?_
            refine ow_val rfl rfl (by decide) (e_gtr rfl rfl) ?_
            refine ow_val rfl rfl (by decide) (e_pick rfl) ?_
            refine ow_nil ?_
            refine then_normal ?_
            refine cw_cond rfl (fun c20 => ?_) (fun c20 => ?_)
            · skip
              have hgt : x.size > 1 := (by have := of_decide_eq_true c20; omega)
              have q0 : ld.f3.toNat < (innN ms k x).length := by rw [hrel.len]; omega
              have qx := castR_get q0
              have q1 := hrel.row ld.f3.toNat (by omega)
              have e3 : ((ld.f3.toNat : Nat) : Int) = ld.f3 := by omega
              rw [e3] at q1
              have hnd3 := hW.node ld.f3 (by omega) (by omega)
              have hln : (castL (((innN ms k x).getD ld.f3.toNat []))).length = (((innN ms k x).getD ld.f3.toNat [])).length := castL_len _
              have row0 : (castL (((innN ms k x).getD ld.f3.toNat [])))[((0 : Int)).toNat]? = some ((((((innN ms k x).getD ld.f3.toNat [])).getD 0 0) : Nat) : Int) := castL_get (by omega)
              have hlt256 : ((((innN ms k x).getD ld.f3.toNat [])).getD 0 0) < 256 := getD_lt (hrel.lt _) _
              obtain ⟨ar, cr, hvr, hRV⟩ := s11.rowAt 6 rfl qx
              obtain ⟨adr, ear, -⟩ := hRV.at (i := 0) (Int.le_refl _) (by rw [List.length_map]; omega)
              subst ear
              obtain ⟨gi, rfl⟩ := s11.slSome 5 rfl (by omega)
              refine al_begin #[false, false, false, false, false, false, false, false, false, false, false, false, false, false, false, false, false, false, false, false, false, false, false, false, false, false, false, false, false, false, false, false, false, false, false, false, false, false] [] s11 hmix rfl rfl (fun w21 s21 => ?_)
              refine al_take 0 #[true, false, false, false, false, false, false, false, false, false, false, false, false, false, false, false, false, false, false, false, false, false, false, false, false, false, false, false, false, false, false, false, false, false, false, false, false, false] rfl rfl (by decide) (by kernel_rfl) (fun _ _ _ h => h) (ya rfl (fun w_ s_ => e_move rfl)) s21 ?_
              refine al_take 1 #[true, true, false, false, false, false, false, false, false, false, false, false, false, false, false, false, false, false, false, false, false, false, false, false, false, false, false, false, false, false, false, false, false, false, false, false, false, false] rfl rfl (by decide) (by kernel_rfl) (fun _ _ _ h => h) (ya rfl (fun w_ s_ => e_nilCheck rfl)) s21 ?_
              refine al_take 2 #[true, true, true, false, false, false, false, false, false, false, false, false, false, false, false, false, false, false, false, false, false, false, false, false, false, false, false, false, false, false, false, false, false, false, false, false, false, false] rfl rfl (by decide) (by kernel_rfl) (fun _ _ _ h => h) (ya rfl (fun w_ s_ => e_fieldA rfl field204_2 rfl)) s21 ?_
              refine al_take 3 #[true, true, true, true, false, false, false, false, false, false, false, false, false, false, false, false, false, false, false, false, false, false, false, false, false, false, false, false, false, false, false, false, false, false, false, false, false, false] rfl rfl (by decide) (by kernel_rfl) (fun _ _ _ h => h) (ya rfl (fun w_ s_ => e_load rfl flat9 (s_.oldCell 7 rfl hy2))) s21 ?_
              refine al_take 4 #[true, true, true, true, true, false, false, false, false, false, false, false, false, false, false, false, false, false, false, false, false, false, false, false, false, false, false, false, false, false, false, false, false, false, false, false, false, false] rfl rfl (by decide) (by kernel_rfl) (fun _ _ _ h => h) (ya rfl (fun w_ s_ => e_move e11_1)) s21 ?_
              refine al_take 5 #[true, true, true, true, true, true, false, false, false, false, false, false, false, false, false, false, false, false, false, false, false, false, false, false, false, false, false, false, false, false, false, false, false, false, false, false, false, false] rfl rfl (by decide) (by kernel_rfl) (fun _ _ _ h => h) (ya rfl (fun w_ s_ => e_sliceS (l := 0) (h := 1) rfl Try.underlying9 (.inl ⟨rfl, rfl⟩) (.inr ⟨.i64, rfl⟩) (by omega) (by omega))) s21 ?_
              refine al_take 6 #[true, true, true, true, true, true, true, false, false, false, false, false, false, false, false, false, false, false, false, false, false, false, false, false, false, false, false, false, false, false, false, false, false, false, false, false, false, false] rfl rfl (by decide) (by kernel_rfl) (fun _ _ _ h => h) (ya rfl (fun w_ s_ => e_move e11_1)) s21 ?_
              refine al_take 7 #[true, true, true, true, true, true, true, true, false, false, false, false, false, false, false, false, false, false, false, false, false, false, false, false, false, false, false, false, false, false, false, false, false, false, false, false, false, false] rfl rfl (by decide) (by kernel_rfl) (fun _ _ _ h => h) (ya rfl (fun w_ s_ => e_move e11_1)) s21 ?_
              refine al_take 8 #[true, true, true, true, true, true, true, true, true, false, false, false, false, false, false, false, false, false, false, false, false, false, false, false, false, false, false, false, false, false, false, false, false, false, false, false, false, false] rfl rfl (by decide) (by kernel_rfl) (fun _ _ _ h => h) (ya rfl (fun w_ s_ => e_len_str rfl Try.underlying9)) s21 ?_
              refine al_take 9 #[true, true, true, true, true, true, true, true, true, true, false, false, false, false, false, false, false, false, false, false, false, false, false, false, false, false, false, false, false, false, false, false, false, false, false, false, false, false] rfl rfl (by decide) (by kernel_rfl) (fun _ _ _ h => h) (ya rfl (fun w_ s_ => e_subI rfl rfl (by omega) (by omega))) s21 ?_
              refine al_take 10 #[true, true, true, true, true, true, true, true, true, true, true, false, false, false, false, false, false, false, false, false, false, false, false, false, false, false, false, false, false, false, false, false, false, false, false, false, false, false] rfl rfl (by decide) (by kernel_rfl) (fun _ _ _ h => h) (ya rfl (fun w_ s_ => e_sliceS (l := x.size - 1) (h := x.size) rfl Try.underlying9 (.inr ⟨.i64, congrArg (fun z => some (Value.int .i64 z)) hszx⟩) (.inl ⟨rfl, rfl⟩) (by omega) (by omega))) s21 ?_
              refine al_take 11 #[true, true, true, true, true, true, true, true, true, true, true, true, false, false, false, false, false, false, false, false, false, false, false, false, false, false, false, false, false, false, false, false, false, false, false, false, false, false] rfl rfl (by decide) (by kernel_rfl) (fun _ _ _ h => h) (ya rfl (fun w_ s_ => e_sadd rfl rfl (by simp only [ByteArray.size_extract]; omega))) s21 ?_
              refine al_take 12 #[true, true, true, true, true, true, true, true, true, true, true, true, true, false, false, false, false, false, false, false, false, false, false, false, false, false, false, false, false, false, false, false, false, false, false, false, false, false] rfl rfl (by decide) (by kernel_rfl) (fun _ _ _ h => h) (ya rfl (fun w_ s_ => e_seql rfl rfl)) s21 ?_
              refine al_take 13 #[true, true, true, true, true, true, true, true, true, true, true, true, true, true, false, false, false, false, false, false, false, false, false, false, false, false, false, false, false, false, false, false, false, false, false, false, false, false] rfl rfl (by decide) (by kernel_rfl) (fun _ _ _ h => h) (ya rfl (fun w_ s_ => e_move rfl)) s21 ?_
              refine al_split (g := 98) rfl (fun g22 => ?_) (fun g22 => ?_)
              · skip
                skip
                refine al_take 14 #[true, true, true, true, true, true, true, true, true, true, true, true, true, true, true, false, false, false, false, false, false, false, false, false, false, false, false, false, false, false, false, false, false, false, false, false, false, false] rfl rfl (by decide) (by kernel_rfl) (fun _ _ _ h => h) (ya_in rfl rfl rfl (fun w_ s_ => e_move e11_6)) s21 ?_
                refine al_take 15 #[true, true, true, true, true, true, true, true, true, true, true, true, true, true, true, true, false, false, false, false, false, false, false, false, false, false, false, false, false, false, false, false, false, false, false, false, false, false] rfl rfl (by decide) (by kernel_rfl) (fun _ _ _ h => h) (ya_in rfl rfl rfl (fun w_ s_ => e_nilCheck rfl)) s21 ?_
                refine al_take 16 #[true, true, true, true, true, true, true, true, true, true, true, true, true, true, true, true, true, false, false, false, false, false, false, false, false, false, false, false, false, false, false, false, false, false, false, false, false, false] rfl rfl (by decide) (by kernel_rfl) (fun _ _ _ h => h) (ya_in rfl rfl rfl (fun w_ s_ => e_fieldAddr rfl field288_0)) s21 ?_
                refine al_take 17 #[true, true, true, true, true, true, true, true, true, true, true, true, true, true, true, true, true, true, false, false, false, false, false, false, false, false, false, false, false, false, false, false, false, false, false, false, false, false] rfl rfl (by decide) (by kernel_rfl) (fun _ _ _ h => h) (ya_in rfl rfl rfl (fun w_ s_ => e_load rfl flat46 (s_.cell 4 rfl (Blk.reads rfl)))) s21 ?_
                refine al_take 18 #[true, true, true, true, true, true, true, true, true, true, true, true, true, true, true, true, true, true, true, false, false, false, false, false, false, false, false, false, false, false, false, false, false, false, false, false, false, false] rfl rfl (by decide) (by kernel_rfl) (fun _ _ _ h => h) (ya_in rfl rfl rfl (fun w_ s_ => e_move rfl)) s21 ?_
                refine al_take 19 #[true, true, true, true, true, true, true, true, true, true, true, true, true, true, true, true, true, true, true, true, false, false, false, false, false, false, false, false, false, false, false, false, false, false, false, false, false, false] rfl rfl (by decide) (by kernel_rfl) (fun _ _ _ h => h) (ya_in rfl rfl rfl (fun w_ s_ => e_nilCheck rfl)) s21 ?_
                refine al_take 20 #[true, true, true, true, true, true, true, true, true, true, true, true, true, true, true, true, true, true, true, true, true, false, false, false, false, false, false, false, false, false, false, false, false, false, false, false, false, false] rfl rfl (by decide) (by kernel_rfl) (fun _ _ _ h => h) (ya_in rfl rfl rfl (fun w_ s_ => e_fieldA rfl field204_3 rfl)) s21 ?_
                refine al_take 21 #[true, true, true, true, true, true, true, true, true, true, true, true, true, true, true, true, true, true, true, true, true, true, false, false, false, false, false, false, false, false, false, false, false, false, false, false, false, false] rfl rfl (by decide) (by kernel_rfl) (fun _ _ _ h => h) (ya_in rfl rfl rfl (fun w_ s_ => e_load rfl flat2 (s_.oldCell 7 rfl hy3))) s21 ?_
                refine al_take 22 #[true, true, true, true, true, true, true, true, true, true, true, true, true, true, true, true, true, true, true, true, true, true, true, false, false, false, false, false, false, false, false, false, false, false, false, false, false, false] rfl rfl (by decide) (by kernel_rfl) (fun _ _ _ h => h) (ya_in rfl rfl rfl (fun w_ s_ => e_idxS rfl rfl slt46 (by omega) (by omega))) s21 ?_
                refine al_take 23 #[true, true, true, true, true, true, true, true, true, true, true, true, true, true, true, true, true, true, true, true, true, true, true, true, false, false, false, false, false, false, false, false, false, false, false, false, false, false] rfl rfl (by decide) (by kernel_rfl) (fun _ _ _ h => h) (ya_in rfl rfl rfl (fun w_ s_ => e_load rfl flat34 (s_.slCell 5 rfl hvr))) s21 ?_
                refine al_take 24 #[true, true, true, true, true, true, true, true, true, true, true, true, true, true, true, true, true, true, true, true, true, true, true, true, true, false, false, false, false, false, false, false, false, false, false, false, false, false] rfl rfl (by decide) (by kernel_rfl) (fun _ _ _ h => h) (ya_in rfl rfl rfl (fun w_ s_ => e_idxR rfl rfl slt34 (by decide) (by omega))) s21 ?_
                refine al_take 25 #[true, true, true, true, true, true, true, true, true, true, true, true, true, true, true, true, true, true, true, true, true, true, true, true, true, true, false, false, false, false, false, false, false, false, false, false, false, false] rfl rfl (by decide) (by kernel_rfl) (fun _ _ _ h => h) (ya_in rfl rfl rfl (fun w_ s_ => e_load rfl flat2 (row_cell (row_two s_ 6 rfl qx hvr) row0))) s21 ?_
                refine al_take 26 #[true, true, true, true, true, true, true, true, true, true, true, true, true, true, true, true, true, true, true, true, true, true, true, true, true, true, true, false, false, false, false, false, false, false, false, false, false, false] rfl rfl (by decide) (by kernel_rfl) (fun _ _ _ h => h) (ya_in rfl rfl rfl (fun w_ s_ => e_move e11_0)) s21 ?_
                refine al_take 27 #[true, true, true, true, true, true, true, true, true, true, true, true, true, true, true, true, true, true, true, true, true, true, true, true, true, true, true, true, false, false, false, false, false, false, false, false, false, false] rfl rfl (by decide) (by kernel_rfl) (fun _ _ _ h => h) (ya_in rfl rfl rfl (fun w_ s_ => e_move rfl)) s21 ?_
                refine al_take 28 #[true, true, true, true, true, true, true, true, true, true, true, true, true, true, true, true, true, true, true, true, true, true, true, true, true, true, true, true, true, false, false, false, false, false, false, false, false, false] rfl rfl (by decide) (by kernel_rfl) (fun _ _ _ h => h) (ya_in rfl rfl rfl (fun w_ s_ => e_nilCheck rfl)) s21 ?_
                refine al_take 29 #[true, true, true, true, true, true, true, true, true, true, true, true, true, true, true, true, true, true, true, true, true, true, true, true, true, true, true, true, true, true, false, false, false, false, false, false, false, false] rfl rfl (by decide) (by kernel_rfl) (fun _ _ _ h => h) (ya_in rfl rfl rfl (fun w_ s_ => e_fieldA rfl field204_3 rfl)) s21 ?_
                refine al_take 30 #[true, true, true, true, true, true, true, true, true, true, true, true, true, true, true, true, true, true, true, true, true, true, true, true, true, true, true, true, true, true, true, false, false, false, false, false, false, false] rfl rfl (by decide) (by kernel_rfl) (fun _ _ _ h => h) (ya_in rfl rfl rfl (fun w_ s_ => e_load rfl flat2 (s_.oldCell 7 rfl hy3))) s21 ?_
                refine al_one 31 #[true, true, true, true, true, true, true, true, true, true, true, true, true, true, true, true, true, true, true, true, true, true, true, true, true, true, true, true, true, true, true, true, false, false, false, false, false, false] (by kernel_rfl) rfl ?_
                refine ow_in rfl rfl ?_
                refine o_call enter84 rfl (by decide) ?_
                refine (sexit_calls ld.f3 ms pa _ c _ (Kd.C_below hC (s21.toBelow 7 rfl)) (s21.oldCell 7 rfl hp) hW (by omega) (by omega)).mono ?_
                rintro e_ w23 ⟨rfl, hb_⟩
                have s23 := s21.below hb_
                refine ⟨_, rfl, ?_⟩
                refine stepL_nil (fun _ => s23) ?_
                refine al_take 32 #[true, true, true, true, true, true, true, true, true, true, true, true, true, true, true, true, true, true, true, true, true, true, true, true, true, true, true, true, true, true, true, true, true, false, false, false, false, false] rfl rfl (by decide) (by kernel_rfl) (fun _ _ _ h => h) (ya_in rfl rfl rfl (fun w_ s_ => e_conv rfl (conv_u (by omega) (by omega)))) s23 ?_
                refine al_take 33 #[true, true, true, true, true, true, true, true, true, true, true, true, true, true, true, true, true, true, true, true, true, true, true, true, true, true, true, true, true, true, true, true, true, true, false, false, false, false] rfl rfl (by decide) (by kernel_rfl) (fun _ _ _ h => h) (ya_in rfl rfl rfl (fun w_ s_ => e_shr rfl rfl (by omega))) s23 ?_
                refine al_take 34 #[true, true, true, true, true, true, true, true, true, true, true, true, true, true, true, true, true, true, true, true, true, true, true, true, true, true, true, true, true, true, true, true, true, true, true, false, false, false] rfl rfl (by decide) (by kernel_rfl) (fun _ _ _ h => h) (ya_in rfl rfl rfl (fun w_ s_ => e_and rfl rfl)) s23 ?_
                refine al_take 35 #[true, true, true, true, true, true, true, true, true, true, true, true, true, true, true, true, true, true, true, true, true, true, true, true, true, true, true, true, true, true, true, true, true, true, true, true, false, false] rfl rfl (by decide) (by kernel_rfl) (fun _ _ _ h => h) (ya_in rfl rfl rfl (fun w_ s_ => (e_eql (k := .i64) (a := bitI ((((((innN ms k x).getD ld.f3.toNat [])).getD 0 0) : Nat) : Int) ((rd_T201 ms ld.f3).f0 - 1)) (b := 1) rfl rfl).trans (by rw [bitI_eq hlt256 (by omega) (by omega)]))) s23 ?_
                refine al_take 36 #[true, true, true, true, true, true, true, true, true, true, true, true, true, true, true, true, true, true, true, true, true, true, true, true, true, true, true, true, true, true, true, true, true, true, true, true, true, false] rfl rfl (by decide) (by kernel_rfl) (fun _ _ _ h => h) (ya rfl (fun w_ s_ => e_pick rfl)) s23 ?_
                refine al_take 37 #[true, true, true, true, true, true, true, true, true, true, true, true, true, true, true, true, true, true, true, true, true, true, true, true, true, true, true, true, true, true, true, true, true, true, true, true, true, true] rfl rfl (by decide) (by kernel_rfl) (fun _ _ _ h => h) (ya rfl (fun w_ s_ => e_assign rfl)) s23 ?_
                refine al_done (by kernel_rfl) ?_
                refine then_normal ?_
                refine cw_seq ?_
                refine cw_region ?_
                refine ow_val rfl rfl (by decide) (e_move rfl) ?_
                refine ow_nil ?_
                refine then_normal ?_
                refine cw_cond rfl (fun c24 => ?_) (fun c24 => ?_)
                · skip
                  skip
                  have hrd : X8[ld.f0.toNat]? = some (.int .i64 ((rwn.getD ld.f0.toNat 0 : Nat) : Int)) := by rw [hX8, List.getElem?_map, castL_get (by omega)]; rfl
                  have hp1 : 2 ^ ld.f1.toNat < 256 := Nat.pow_lt_pow_right (by decide : 1 < 2) (by omega : ld.f1.toNat < 8)
                  refine al_keep #[false, false, false, false, false, false, false, false, false, false, false, false, false, false, false, false] [15] [0, 7] s23 hmix rfl rfl (idxB 8 rfl (by decide)) (fun w25 s25 => ?_)
                  refine al_take 0 #[true, false, false, false, false, false, false, false, false, false, false, false, false, false, false, false] rfl rfl (by decide) (by kernel_rfl) (fun _ _ _ h => h) (ya rfl (fun w_ s_ => e_move e11_8)) (s25.pickD [0, 7] (idxB 8 rfl (by decide))) ?_
                  refine al_take 1 #[true, true, false, false, false, false, false, false, false, false, false, false, false, false, false, false] rfl rfl (by decide) (by kernel_rfl) (fun _ _ _ h => h) (ya rfl (fun w_ s_ => e_move rfl)) (s25.pickD [0, 7] (idxB 8 rfl (by decide))) ?_
                  refine al_take 2 #[true, true, true, false, false, false, false, false, false, false, false, false, false, false, false, false] rfl rfl (by decide) (by kernel_rfl) (fun _ _ _ h => h) (ya rfl (fun w_ s_ => e_nilCheck rfl)) (s25.pickD [0, 7] (idxB 8 rfl (by decide))) ?_
                  refine al_take 3 #[true, true, true, true, false, false, false, false, false, false, false, false, false, false, false, false] rfl rfl (by decide) (by kernel_rfl) (fun _ _ _ h => h) (ya rfl (fun w_ s_ => e_fieldA rfl field204_0 rfl)) (s25.pickD [0, 7] (idxB 8 rfl (by decide))) ?_
                  refine al_take 4 #[true, true, true, true, true, false, false, false, false, false, false, false, false, false, false, false] rfl rfl (by decide) (by kernel_rfl) (fun _ _ _ h => h) (ya rfl (fun w_ s_ => e_load rfl flat2 (s_.oldCell 1 rfl hy0))) (s25.pickD [0, 7] (idxB 8 rfl (by decide))) ?_
                  refine al_take 5 #[true, true, true, true, true, true, false, false, false, false, false, false, false, false, false, false] rfl rfl (by decide) (by kernel_rfl) (fun _ _ _ h => h) (ya rfl (fun w_ s_ => e_idxS rfl rfl slt34 (by omega) (by omega))) (s25.pickD [0, 7] (idxB 8 rfl (by decide))) ?_
                  refine al_take 6 #[true, true, true, true, true, true, true, false, false, false, false, false, false, false, false, false] rfl rfl (by decide) (by kernel_rfl) (fun _ _ _ h => h) (ya rfl (fun w_ s_ => e_load rfl flat2 (s_.slCell 0 rfl hrd))) (s25.pickD [0, 7] (idxB 8 rfl (by decide))) ?_
                  refine al_take 7 #[true, true, true, true, true, true, true, true, false, false, false, false, false, false, false, false] rfl rfl (by decide) (by kernel_rfl) (fun _ _ _ h => h) (ya rfl (fun w_ s_ => e_move rfl)) (s25.pickD [0, 7] (idxB 8 rfl (by decide))) ?_
                  refine al_take 8 #[true, true, true, true, true, true, true, true, true, false, false, false, false, false, false, false] rfl rfl (by decide) (by kernel_rfl) (fun _ _ _ h => h) (ya rfl (fun w_ s_ => e_nilCheck rfl)) (s25.pickD [0, 7] (idxB 8 rfl (by decide))) ?_
                  refine al_take 9 #[true, true, true, true, true, true, true, true, true, true, false, false, false, false, false, false] rfl rfl (by decide) (by kernel_rfl) (fun _ _ _ h => h) (ya rfl (fun w_ s_ => e_fieldA rfl field204_1 rfl)) (s25.pickD [0, 7] (idxB 8 rfl (by decide))) ?_
                  refine al_take 10 #[true, true, true, true, true, true, true, true, true, true, true, false, false, false, false, false] rfl rfl (by decide) (by kernel_rfl) (fun _ _ _ h => h) (ya rfl (fun w_ s_ => e_load rfl flat2 (s_.oldCell 1 rfl hy1))) (s25.pickD [0, 7] (idxB 8 rfl (by decide))) ?_
                  refine al_take 11 #[true, true, true, true, true, true, true, true, true, true, true, true, false, false, false, false] rfl rfl (by decide) (by kernel_rfl) (fun _ _ _ h => h) (ya rfl (fun w_ s_ => e_conv rfl (conv_u (by omega) (by omega)))) (s25.pickD [0, 7] (idxB 8 rfl (by decide))) ?_
                  refine al_take 12 #[true, true, true, true, true, true, true, true, true, true, true, true, true, false, false, false] rfl rfl (by decide) (by kernel_rfl) (fun _ _ _ h => h) (ya rfl (fun w_ s_ => e_shlN rfl rfl (by omega) (by omega))) (s25.pickD [0, 7] (idxB 8 rfl (by decide))) ?_
                  refine al_take 13 #[true, true, true, true, true, true, true, true, true, true, true, true, true, true, false, false] rfl rfl (by decide) (by kernel_rfl) (fun _ _ _ h => h) (ya rfl (fun w_ s_ => e_orN rfl rfl (getD_lt hrt _) hp1)) (s25.pickD [0, 7] (idxB 8 rfl (by decide))) ?_
                  refine al_take 14 #[true, true, true, true, true, true, true, true, true, true, true, true, true, true, true, false] rfl rfl (by decide) (by kernel_rfl) (fun _ _ _ h => h) (ya rfl (fun w_ s_ => e_idxS rfl rfl slt34 (by omega) (by omega))) (s25.pickD [0, 7] (idxB 8 rfl (by decide))) ?_
                  refine al_one 15 #[true, true, true, true, true, true, true, true, true, true, true, true, true, true, true, true] (by kernel_rfl) rfl ?_
                  refine o_store rfl rfl rfl flat2 s25 (i := 0) rfl (slWrites _ (by rw [hX8, List.length_map, castL_len]; omega)) (fun w26 s26 => ?_)
                  refine stepL_nil (fun h => (h (by decide)).elim) ?_
                  refine al_done (by kernel_rfl) ?_
                  refine inb_normal ?_
                  refine then_normal ?_
                  refine cw_region ?_
                  refine ow_val rfl rfl (by decide) (e_move e11_9) ?_
                  refine o_addI rfl rfl (by omega) (by omega) (by decide) ?_
                  refine ow_val rfl rfl (by decide) (e_assign rfl) ?_
                  refine ow_nil ?_
                  refine then_normal ?_
                  have htk : takesL ms x (innN ms k x) ld = true := by rw [takesL, if_neg hsz1, if_pos hgt, g22]; exact c24
                  exact ⟨_, by omega, j + 1, (rwn.set ld.f0.toNat (rwn.getD ld.f0.toNat 0 ||| 2 ^ ld.f1.toNat)), _, rfl, e11_0, e11_1, e11_5, e11_6, e11_7, e11_8, rfl, by omega, by rw [take_foldl_succ (z := z204) hltj, ← hrw]; show _ = rowStepN ms x (innN ms k x) rwn (rd_T204 md.f1 (j : Int)); rw [← hld, rowStepN, htk]; rfl, by rw [hX8]; exact castL_set _ _ _, s26⟩
                · skip
                  skip
                  refine cw_skip ?_
                  refine inb_normal ?_
                  refine then_normal ?_
                  refine cw_region ?_
                  refine ow_val rfl rfl (by decide) (e_move e11_9) ?_
                  refine o_addI rfl rfl (by omega) (by omega) (by decide) ?_
                  refine ow_val rfl rfl (by decide) (e_assign rfl) ?_
                  refine ow_nil ?_
                  refine then_normal ?_
                  have htk : takesL ms x (innN ms k x) ld = false := by rw [takesL, if_neg hsz1, if_pos hgt, g22]; exact c24
                  exact ⟨_, by omega, j + 1, rwn, _, rfl, e11_0, e11_1, e11_5, e11_6, e11_7, e11_8, rfl, by omega, by rw [take_foldl_succ (z := z204) hltj, ← hrw]; show _ = rowStepN ms x (innN ms k x) rwn (rd_T204 md.f1 (j : Int)); rw [← hld, rowStepN, htk]; rfl, hX8, s23⟩
              · skip
                skip
                refine al_take 14 #[true, true, true, true, true, true, true, true, true, true, true, true, true, true, true, false, false, false, false, false, false, false, false, false, false, false, false, false, false, false, false, false, false, false, false, false, false, false] rfl rfl (by decide) (by kernel_rfl) (fun _ _ _ h => h) (ya_out rfl rfl rfl rfl) s21 ?_
                refine al_take 15 #[true, true, true, true, true, true, true, true, true, true, true, true, true, true, true, true, false, false, false, false, false, false, false, false, false, false, false, false, false, false, false, false, false, false, false, false, false, false] rfl rfl (by decide) (by kernel_rfl) (fun _ _ _ h => h) (ya_out rfl rfl rfl rfl) s21 ?_
                refine al_take 16 #[true, true, true, true, true, true, true, true, true, true, true, true, true, true, true, true, true, false, false, false, false, false, false, false, false, false, false, false, false, false, false, false, false, false, false, false, false, false] rfl rfl (by decide) (by kernel_rfl) (fun _ _ _ h => h) (ya_out rfl rfl rfl rfl) s21 ?_
                refine al_take 17 #[true, true, true, true, true, true, true, true, true, true, true, true, true, true, true, true, true, true, false, false, false, false, false, false, false, false, false, false, false, false, false, false, false, false, false, false, false, false] rfl rfl (by decide) (by kernel_rfl) (fun _ _ _ h => h) (ya_out rfl rfl rfl rfl) s21 ?_
                refine al_take 18 #[true, true, true, true, true, true, true, true, true, true, true, true, true, true, true, true, true, true, true, false, false, false, false, false, false, false, false, false, false, false, false, false, false, false, false, false, false, false] rfl rfl (by decide) (by kernel_rfl) (fun _ _ _ h => h) (ya_out rfl rfl rfl rfl) s21 ?_
                refine al_take 19 #[true, true, true, true, true, true, true, true, true, true, true, true, true, true, true, true, true, true, true, true, false, false, false, false, false, false, false, false, false, false, false, false, false, false, false, false, false, false] rfl rfl (by decide) (by kernel_rfl) (fun _ _ _ h => h) (ya_out rfl rfl rfl rfl) s21 ?_
                refine al_take 20 #[true, true, true, true, true, true, true, true, true, true, true, true, true, true, true, true, true, true, true, true, true, false, false, false, false, false, false, false, false, false, false, false, false, false, false, false, false, false] rfl rfl (by decide) (by kernel_rfl) (fun _ _ _ h => h) (ya_out rfl rfl rfl rfl) s21 ?_
                refine al_take 21 #[true, true, true, true, true, true, true, true, true, true, true, true, true, true, true, true, true, true, true, true, true, true, false, false, false, false, false, false, false, false, false, false, false, false, false, false, false, false] rfl rfl (by decide) (by kernel_rfl) (fun _ _ _ h => h) (ya_out rfl rfl rfl rfl) s21 ?_
                refine al_take 22 #[true, true, true, true, true, true, true, true, true, true, true, true, true, true, true, true, true, true, true, true, true, true, true, false, false, false, false, false, false, false, false, false, false, false, false, false, false, false] rfl rfl (by decide) (by kernel_rfl) (fun _ _ _ h => h) (ya_out rfl rfl rfl rfl) s21 ?_
                refine al_take 23 #[true, true, true, true, true, true, true, true, true, true, true, true, true, true, true, true, true, true, true, true, true, true, true, true, false, false, false, false, false, false, false, false, false, false, false, false, false, false] rfl rfl (by decide) (by kernel_rfl) (fun _ _ _ h => h) (ya_out rfl rfl rfl rfl) s21 ?_
                refine al_take 24 #[true, true, true, true, true, true, true, true, true, true, true, true, true, true, true, true, true, true, true, true, true, true, true, true, true, false, false, false, false, false, false, false, false, false, false, false, false, false] rfl rfl (by decide) (by kernel_rfl) (fun _ _ _ h => h) (ya_out rfl rfl rfl rfl) s21 ?_
                refine al_take 25 #[true, true, true, true, true, true, true, true, true, true, true, true, true, true, true, true, true, true, true, true, true, true, true, true, true, true, false, false, false, false, false, false, false, false, false, false, false, false] rfl rfl (by decide) (by kernel_rfl) (fun _ _ _ h => h) (ya_out rfl rfl rfl rfl) s21 ?_
                refine al_take 26 #[true, true, true, true, true, true, true, true, true, true, true, true, true, true, true, true, true, true, true, true, true, true, true, true, true, true, true, false, false, false, false, false, false, false, false, false, false, false] rfl rfl (by decide) (by kernel_rfl) (fun _ _ _ h => h) (ya_out rfl rfl rfl rfl) s21 ?_
                refine al_take 27 #[true, true, true, true, true, true, true, true, true, true, true, true, true, true, true, true, true, true, true, true, true, true, true, true, true, true, true, true, false, false, false, false, false, false, false, false, false, false] rfl rfl (by decide) (by kernel_rfl) (fun _ _ _ h => h) (ya_out rfl rfl rfl rfl) s21 ?_
                refine al_take 28 #[true, true, true, true, true, true, true, true, true, true, true, true, true, true, true, true, true, true, true, true, true, true, true, true, true, true, true, true, true, false, false, false, false, false, false, false, false, false] rfl rfl (by decide) (by kernel_rfl) (fun _ _ _ h => h) (ya_out rfl rfl rfl rfl) s21 ?_
                refine al_take 29 #[true, true, true, true, true, true, true, true, true, true, true, true, true, true, true, true, true, true, true, true, true, true, true, true, true, true, true, true, true, true, false, false, false, false, false, false, false, false] rfl rfl (by decide) (by kernel_rfl) (fun _ _ _ h => h) (ya_out rfl rfl rfl rfl) s21 ?_
                refine al_take 30 #[true, true, true, true, true, true, true, true, true, true, true, true, true, true, true, true, true, true, true, true, true, true, true, true, true, true, true, true, true, true, true, false, false, false, false, false, false, false] rfl rfl (by decide) (by kernel_rfl) (fun _ _ _ h => h) (ya_out rfl rfl rfl rfl) s21 ?_
                refine al_take 31 #[true, true, true, true, true, true, true, true, true, true, true, true, true, true, true, true, true, true, true, true, true, true, true, true, true, true, true, true, true, true, true, true, false, false, false, false, false, false] rfl rfl (by decide) (by kernel_rfl) (fun _ _ _ h => h) (ya_out rfl rfl rfl rfl) s21 ?_
                refine al_take 32 #[true, true, true, true, true, true, true, true, true, true, true, true, true, true, true, true, true, true, true, true, true, true, true, true, true, true, true, true, true, true, true, true, true, false, false, false, false, false] rfl rfl (by decide) (by kernel_rfl) (fun _ _ _ h => h) (ya_out rfl rfl rfl rfl) s21 ?_
                refine al_take 33 #[true, true, true, true, true, true, true, true, true, true, true, true, true, true, true, true, true, true, true, true, true, true, true, true, true, true, true, true, true, true, true, true, true, true, false, false, false, false] rfl rfl (by decide) (by kernel_rfl) (fun _ _ _ h => h) (ya_out rfl rfl rfl rfl) s21 ?_
                refine al_take 34 #[true, true, true, true, true, true, true, true, true, true, true, true, true, true, true, true, true, true, true, true, true, true, true, true, true, true, true, true, true, true, true, true, true, true, true, false, false, false] rfl rfl (by decide) (by kernel_rfl) (fun _ _ _ h => h) (ya_out rfl rfl rfl rfl) s21 ?_
                refine al_take 35 #[true, true, true, true, true, true, true, true, true, true, true, true, true, true, true, true, true, true, true, true, true, true, true, true, true, true, true, true, true, true, true, true, true, true, true, true, false, false] rfl rfl (by decide) (by kernel_rfl) (fun _ _ _ h => h) (ya_out rfl rfl rfl rfl) s21 ?_
                refine al_take 36 #[true, true, true, true, true, true, true, true, true, true, true, true, true, true, true, true, true, true, true, true, true, true, true, true, true, true, true, true, true, true, true, true, true, true, true, true, true, false] rfl rfl (by decide) (by kernel_rfl) (fun _ _ _ h => h) (ya rfl (fun w_ s_ => e_pick rfl)) s21 ?_
                refine al_take 37 #[true, true, true, true, true, true, true, true, true, true, true, true, true, true, true, true, true, true, true, true, true, true, true, true, true, true, true, true, true, true, true, true, true, true, true, true, true, true] rfl rfl (by decide) (by kernel_rfl) (fun _ _ _ h => h) (ya rfl (fun w_ s_ => e_assign rfl)) s21 ?_
                refine al_done (by kernel_rfl) ?_
                refine then_normal ?_
                refine cw_seq ?_
                refine cw_region ?_
                refine ow_val rfl rfl (by decide) (e_move rfl) ?_
                refine ow_nil ?_
                refine then_normal ?_
                refine cw_cond_false rfl ?_
                refine cw_skip ?_
                refine inb_normal ?_
                refine then_normal ?_
                refine cw_region ?_
                refine ow_val rfl rfl (by decide) (e_move e11_9) ?_
                refine o_addI rfl rfl (by omega) (by omega) (by decide) ?_
                refine ow_val rfl rfl (by decide) (e_assign rfl) ?_
                refine ow_nil ?_
                refine then_normal ?_
                have htk : takesL ms x (innN ms k x) ld = false := by rw [takesL, if_neg hsz1, if_pos hgt, g22]; rfl
                exact ⟨_, by omega, j + 1, rwn, _, rfl, e11_0, e11_1, e11_5, e11_6, e11_7, e11_8, rfl, by omega, by rw [take_foldl_succ (z := z204) hltj, ← hrw]; show _ = rowStepN ms x (innN ms k x) rwn (rd_T204 md.f1 (j : Int)); rw [← hld, rowStepN, htk]; rfl, hX8, s21⟩
            · skip
              have hngt : ¬ x.size > 1 := (by have := of_decide_eq_false c20; omega)
              refine cw_skip ?_
              refine then_normal ?_
              refine cw_seq ?_
              refine cw_region ?_
              refine ow_val rfl rfl (by decide) (e_move rfl) ?_
              refine ow_nil ?_
              refine then_normal ?_
              refine cw_cond_false rfl ?_
              refine cw_skip ?_
              refine inb_normal ?_
              refine then_normal ?_
              refine cw_region ?_
              refine ow_val rfl rfl (by decide) (e_move e11_9) ?_
              refine o_addI rfl rfl (by omega) (by omega) (by decide) ?_
              refine ow_val rfl rfl (by decide) (e_assign rfl) ?_
              refine ow_nil ?_
              refine then_normal ?_
              have htk : takesL ms x (innN ms k x) ld = false := by rw [takesL, if_neg hsz1, if_neg hngt]
              exact ⟨_, by omega, j + 1, rwn, _, rfl, e11_0, e11_1, e11_5, e11_6, e11_7, e11_8, rfl, by omega, by rw [take_foldl_succ (z := z204) hltj, ← hrw]; show _ = rowStepN ms x (innN ms k x) rwn (rd_T204 md.f1 (j : Int)); rw [← hld, rowStepN, htk]; rfl, hX8, s11⟩
          · skip
            exfalso; have h_ := g19; simp at h_; omega
      · skip
        have hgej : j = md.f1.length := (by have := of_decide_eq_false c12; omega)
        refine cw_exit ?_
        refine then_exit ?_
        refine then_exit ?_
        refine inb_exit ?_
        refine then_normal ?_
        refine cw_region ?_
        refine ow_val rfl rfl (by decide) (e_move e11_5) ?_
        refine ow_val rfl rfl (by decide) (e_move e11_5) ?_
        refine ow_val rfl rfl (by decide) (e_nilCheck rfl) ?_
        refine ow_val rfl rfl (by decide) (e_fieldAddr rfl field288_0) ?_
        refine ow_val rfl rfl (by decide) (e_load rfl flat46 (s11.cell 1 rfl (Blk.reads rfl))) ?_
        refine ow_val rfl rfl (by decide) (e_move e11_8) ?_
        refine o_buildSlice1 (v := .slice (some ⟨b8, 0, none⟩) md.f0.toNat md.f0.toNat) rfl rfl slt46 s11 (by decide) (fun b29 w30 s30 => ?_)
        refine o_append1 rfl rfl slt46 (s30.rot 3 rfl) (j := 1) rfl rfl (by omega) (by omega) (by decide) (fun A32 c33 w31 s31 => ?_)
        refine ow_val rfl rfl (by decide) (e_nilCheck rfl) ?_
        refine ow_val rfl rfl (by decide) (e_fieldAddr rfl field288_0) ?_
        refine o_store rfl rfl rfl flat46 s31 (i := 3) rfl (Blk.writes _ (Nat.le_of_ble_eq_true rfl)) (fun w34 s34 => ?_)
        refine ow_nil ?_
        refine inb_normal ?_
        refine then_normal ?_
        refine cw_region ?_
        refine ow_val rfl rfl (by decide) (e_move e11_7) ?_
        refine o_addI rfl rfl (by omega) (by omega) (by decide) ?_
        refine ow_val rfl rfl (by decide) (e_assign rfl) ?_
        refine ow_nil ?_
        refine then_normal ?_
        have hfin : rwn = frowN ms x (innN ms k x) (rd_T201 ms (i : Int)) := by rw [hrw, hgej, List.take_length, ← hmd]; rfl
        have s35 := s34.rowsPush (castL (frowN ms x (innN ms k x) (rd_T201 ms (i : Int)))) 2 3 rfl rfl (by rw [castL_len, ← hfin, hrw, rowFold_len, List.length_replicate]) (by rw [hX8, hfin])
        rw [show castR ((ms.take i).map (frowN ms x (innN ms k x))) ++ [castL (frowN ms x (innN ms k x) (rd_T201 ms (i : Int)))] = castR ((ms.take (i + 1)).map (frowN ms x (innN ms k x))) from by rw [take_map_succ (z := z201) hlt]; simp [castR]; rfl] at s35
        exact ⟨_, by omega, i + 1, A32, (nq + 1), c33, _, rfl, e11_0, e11_1, e11_5, e11_6, rfl, by omega, by omega, (s35.pickN 8 [3, 1, 0, 4, 5, 6, 7] rfl (by decide) rfl)⟩
    · skip
      have hge : i = ms.length := (by have := of_decide_eq_false c9; omega)
      refine cw_exit ?_
      refine then_exit ?_
      refine then_exit ?_
      refine inb_exit ?_
      refine then_normal ?_
      refine cw_seq ?_
      refine cw_region ?_
      refine ow_val rfl rfl (by decide) (e_move e8_5) ?_
      refine ow_val rfl rfl (by decide) (e_assign rfl) ?_
      refine ow_nil ?_
      refine then_normal ?_
      refine cw_ret ?_
      refine ends1 (v := .pointer (some ⟨bs, 0, none⟩)) (.inl rfl) Try.results273 rfl ?_
      have sp_ := (s8.pickN 7 [0, 1, 2, 6] rfl (by decide) rfl : Sat w _ [Blk bs 288 [.slice Aq nq cq], Sl 34 1 (.slice Aq nq cq) nq vs, NRows vs (castR ((ms.take i).map (frowN ms x (innN ms k x)))), Old w])
      rw [show castR ((ms.take i).map (frowN ms x (innN ms k x))) = castR (facN ms x (innN ms k x)) from by rw [hge, List.take_length]; rfl] at sp_
      have sq_ := sp_.relClose (by rw [hnq, hge]; simp [castR, facN])
      exact ⟨bs, rfl, sq_.part 2 [0] 1 rfl rfl (by decide) rfl, sq_.toBelow 1 rfl⟩
end Go.Proofs.Ytjkohjdiddhpcaa.My
