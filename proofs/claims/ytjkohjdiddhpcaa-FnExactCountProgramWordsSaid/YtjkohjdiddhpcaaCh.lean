import Derived.Test.YtjkohjdiddhpcaaCa
import Derived.Test.YtjkohjdiddhpcaaX7
import Derived.Test.YtjkohjdiddhpcaaCg
/- Walks of the given code, and plain lemmas, for the law FnExactCountProgramWords (part Ch). -/
set_option linter.unusedVariables false
set_option linter.unusedSimpArgs false
namespace Go.Proofs.Ytjkohjdiddhpcaa.My
open Go.Sl Go.RowKit Go.Proofs.YtjkohjdiddhpcaaW.PrintWords Go.Proofs.YtjkohjdiddhpcaaW.PrintLast Go.Proofs.YtjkohjdiddhpcaaW.PrintMore Go.Proofs.Ytjkohjdiddhpcaa.PFnExactCountProgramWords
theorem enter168 : enterB Try.prog 168 = true := by kernel_rfl
theorem enter273 : enterB Try.prog 273 = true := by kernel_rfl
theorem kd_sl {w W : World} {ok : Nat → Prop} {v : Value} {xs : List ByteArray} (h : Kd.R Kd.string 9 W w.heap.size ok v xs) : ∃ A c, v = .slice A xs.length c ∧ Part w W [Sl 9 1 (.slice A xs.length c) xs.length (xs.map Value.string)] := by
  obtain ⟨A, c, rfl, hlc, hC⟩ := Kd.R_reads h
  refine ⟨A, c, rfl, ?_⟩
  obtain ⟨h0, inner, ho, hr⟩ := h
  have hil : inner.length = xs.length := by have := ho.1; rw [this]; exact Nat.mul_one _
  have hin : inner = xs.map Value.string := by
    apply List.ext_getElem?
    intro i
    by_cases hi : i < xs.length
    · obtain ⟨ad, e, hc⟩ := Kd.at_string hC (i : Int) (by omega) (by omega)
      rcases ho.2 with ⟨h1, h2⟩ | ⟨g, cap, cur, h1, h2, h3, h4, h5, h6, h7⟩
      · omega
      · injection h1 with h1 _ _
        rw [h1] at e
        injection e with e
        subst e
        rw [addAt, Int.toNat_natCast, Nat.zero_add] at hc
        have hh : cur[i]? = some (.string (rdOf ByteArray.empty xs (i : Int))) := by simpa [World.cell?, h3] using hc
        rw [← h7, List.getElem?_take, if_pos (by show i < xs.length * 1; omega), Array.getElem?_toList, hh]
        simp [rdOf, List.getD_eq_getElem?_getD, hi]
    · rw [List.getElem?_eq_none (l := inner) (by omega), List.getElem?_eq_none (by rw [List.length_map]; omega)]
  subst hin
  refine ⟨fun b => if w.heap.size ≤ b then W.heap[b]? else none, fun _ => none, fun _ => .inr rfl, Sub.refl _, (fun _ _ e => by cases e), ?_, trivial⟩
  refine ⟨ho.1, ?_⟩
  rcases ho.2 with ⟨h1, h2⟩ | ⟨g, cap, cur, h1, h2, h3, h4, h5, h6, h7⟩
  · exact .inl ⟨h1, h2⟩
  · exact .inr ⟨g, cap, cur, h1, by simp [h2, h3], h4, h5, h6, h7⟩
def compRow (Q G : List (List Nat)) (m : Nat) : List Nat := (Q.getD m []).map fun q => orRow q (G.getD m [])
theorem range_map_succ {α : Type} (g : Nat → α) (n : Nat) : (List.range (n + 1)).map g = (List.range n).map g ++ [g n] := by simp [List.range_succ]
theorem take_map_get {g : Nat → Nat} {l : List Nat} {e : Nat} (h : e < l.length) : (l.take (e + 1)).map g = (l.take e).map g ++ [g (l.getD e 0)] := by
  rw [List.take_succ_eq_append_getElem h, List.map_append]
  simp [List.getD_eq_getElem?_getD, h]
theorem castL_app (l : List Nat) (u : Nat) : (castL l).map (Value.int .i64) ++ [.int .i64 ((u : Nat) : Int)] = (castL (l ++ [u])).map (Value.int .i64) := by simp [castL]
def orTo (q : Nat) (fr : List Nat) (n : Nat) : Nat := (List.range n).foldl (fun acc x => if q.testBit x = true then acc ||| fr.getD x 0 else acc) 0
theorem orTo_succ (q : Nat) (fr : List Nat) (n : Nat) : orTo q fr (n + 1) = if q.testBit n = true then orTo q fr n ||| fr.getD n 0 else orTo q fr n := by
  simp [orTo, List.range_succ]
theorem orTo_lt {q : Nat} {fr : List Nat} (h : ∀ u ∈ fr, u < 256) (n : Nat) : orTo q fr n < 256 := by
  induction n with
  | zero => show 0 < 256; decide
  | succ n ih =>
    rw [orTo_succ]
    split
    · exact orN ih (getD_lt h _)
    · exact ih
def ofStep (ms : List S201) (k : Nat) (Q : List (List Nat)) (x : ByteArray) : List (List Nat) := compN Q (facN ms x (innN ms k x))
theorem ofN_succ (ms : List S201) (k : Nat) (s : ByteArray) : ofN ms (k + 1) s = (facI s).foldl (ofStep ms k) (noneN ms) := rfl
theorem fold_rel {ms : List S201} (hW : WFm ms) (k : Nat) : ∀ (l : List ByteArray) (Q : List (List Nat)), RelN ms Q → RelN ms (l.foldl (ofStep ms k) Q)
  | [], Q, h => h
  | y :: l, Q, h => by rw [List.foldl_cons]; exact fold_rel hW k l _ (compN_rel h (facN_rel hW _ _))
theorem of_zero (ms : List S201) : OfOk (goodB 0) 0 ms := fun s pa A c w hC hp hG => by cases hG
theorem good_fac {k : Nat} {s : ByteArray} (h : goodB (k + 1) s = true) : spec_l01Factors.f 60 s = some (facI s) ∧ s.size ≤ 1000 ∧ ∀ x ∈ facI s, x.size ≤ 1 ∨ goodB k (x.extract 1 (x.size - 1)) = true := by
  simp only [goodB, Bool.and_eq_true, decide_eq_true_eq, List.all_eq_true, Bool.or_eq_true] at h
  exact ⟨h.1.1, h.1.2, h.2⟩
set_option maxHeartbeats 2000000 in
theorem of_of (k : Nat) (ms : List S201) (hW : WFm ms) (hl1 : 1 ≤ ms.length) (hl4 : ms.length ≤ 4) (hO : OfOk (goodB k) k ms) : OfOk (goodB (k + 1)) (k + 1) ms := fun s pa A c w hC hp hG => by
  obtain ⟨hf1, hs1, hfx⟩ := good_fac hG
  have s0 := Sat.start w
  refine calls_of_cw (args := [.pointer (some pa), .string s]) Try.func238 Try.ntmps238 rfl (by simp) ?_
  refine cw_seq ?_
  refine cw_region ?_
  refine ow_val rfl rfl (by decide) (e_assign rfl) ?_
  refine ow_nil ?_
  refine then_normal ?_
  refine cw_seq ?_
  refine cw_region ?_
  refine ow_val rfl rfl (by decide) (e_move rfl) ?_
  refine o_call enter272 rfl (by decide) ?_
  refine (none_calls ms pa A c _ (Kd.C_below hC (s0.toBelow 0 rfl)) (s0.oldCell 0 rfl hp) hW hl4).mono ?_
  rintro e_ w1 ⟨bn, rfl, hp_, hb_⟩
  have s1 := s0.calledP hb_ hp_
  rw [noneR_cast] at s1
  refine ⟨_, rfl, ?_⟩
  refine ow_val rfl rfl (by decide) (e_assign rfl) ?_
  refine ow_nil ?_
  refine then_normal ?_
  refine cw_seq ?_
  refine cw_region ?_
  refine ow_val rfl rfl (by decide) (e_move rfl) ?_
  refine o_call enter168 rfl (by decide) ?_
  refine (spec_l01Factors.calls 60 s (facI s) _ hf1).mono ?_
  rintro e_ w2 ⟨v_, rfl, hR_, hb_⟩
  obtain ⟨F, cF, rfl, hp_⟩ := kd_sl hR_
  have s2 := s1.calledP hb_ hp_
  have hfl := facI_len s
  refine ⟨_, rfl, ?_⟩
  refine ow_val rfl rfl (by decide) (e_assign rfl) ?_
  refine ow_nil ?_
  refine then_normal ?_
  refine cw_seq ?_
  refine cw_seq ?_
  refine cw_region ?_
  refine ow_val rfl rfl (by decide) (e_assign rfl) ?_
  refine ow_nil ?_
  refine then_normal ?_
  refine cw_block ?_
  refine cw_loop (fun μ_ f_ w_ => ∃ i : Nat, ∃ b5 : Nat, μ_ = (facI s).length - i ∧ f_ 0 = .pointer (some pa) ∧ f_ 1 = .string s ∧ f_ 5 = .pointer (some ⟨b5, 0, none⟩) ∧ f_ 6 = .slice F (facI s).length cF ∧ f_ 7 = .int .i64 (i : Int) ∧ (i ≤ (facI s).length) ∧ Sat w w_ [RelA b5 (castR (((facI s).take i).foldl (ofStep ms k) (noneN ms))), Sl 9 1 (.slice F (facI s).length cF) (facI s).length ((facI s).map Value.string), Old w]) (facI s).length ⟨0, bn, rfl, rfl, rfl, rfl, rfl, rfl, Nat.zero_le _, (s2.pickN 3 [1, 0, 2] rfl (by decide) rfl)⟩ ?_
  intro k_ f_ w_ h_
  obtain ⟨i, b5, rfl, e3_0, e3_1, e3_5, e3_6, e3_7, hi, s3⟩ := h_
  skip
  refine cw_seq ?_
  refine cw_seq ?_
  refine cw_region ?_
  refine ow_val rfl rfl (by decide) (e_move e3_7) ?_
  refine ow_val rfl rfl (by decide) (e_move e3_6) ?_
  refine ow_val rfl rfl (by decide) (e_len_slice rfl Try.underlying102) ?_
  refine ow_val rfl rfl (by decide) (e_lss rfl rfl) ?_
  refine ow_nil ?_
  refine then_normal ?_
  refine cw_cond rfl (fun c4 => ?_) (fun c4 => ?_)
  · skip
    have hlt : i < (facI s).length := (by have := of_decide_eq_true c4; omega)
    obtain ⟨f, hfe⟩ : ∃ f, f = (facI s).getD ((i : Int).toNat) ⟨#[]⟩ := ⟨_, rfl⟩
    have hf : (facI s)[((i : Int)).toNat]? = some f := by rw [hfe, List.getD_eq_getElem?_getD, List.getElem?_eq_getElem (by omega)]; rfl
    have hfm : f ∈ facI s := List.mem_of_getElem? hf
    refine cw_skip ?_
    refine then_normal ?_
    refine cw_seq ?_
    refine cw_block ?_
    refine cw_seq ?_
    refine cw_region ?_
    refine ow_val rfl rfl (by decide) (e_move e3_0) ?_
    refine ow_val rfl rfl (by decide) (e_move e3_6) ?_
    refine ow_val rfl rfl (by decide) (e_move e3_7) ?_
    obtain ⟨gF, rfl⟩ := s3.slSome 1 rfl (by omega)
    refine o_idxS rfl rfl slt102 (by omega) (by omega) (by decide) ?_
    refine ow_val rfl rfl (by decide) (e_load rfl flat9 (s3.slAt 1 rfl (u := .string f) (by rw [List.getElem?_map, hf]; rfl))) ?_
    refine o_call enter273 rfl (by decide) ?_
    refine (fac_calls (goodB k) k f ms pa A c _ (Kd.C_below hC (s3.toBelow 2 rfl)) (s3.oldCell 2 rfl hp) hW hl4 hO (facI_mem hfm).1 (by have := (facI_mem hfm).2; omega) (hfx f hfm)).mono ?_
    rintro e_ w5 ⟨b8, rfl, hp_, hb_⟩
    have s5 := s3.calledP hb_ hp_
    refine ⟨_, rfl, ?_⟩
    refine ow_val rfl rfl (by decide) (e_assign rfl) ?_
    refine ow_nil ?_
    refine then_normal ?_
    refine cw_seq ?_
    refine cw_region ?_
    refine o_build (cs := [.slice none 0 0]) rfl (by kernel_rfl) (by decide) ?_
    refine o_box rfl s5 (by decide) (fun bs w6 s6 => ?_)
    refine ow_val rfl rfl (by decide) (e_assign rfl) ?_
    refine ow_nil ?_
    refine then_normal ?_
    refine cw_seq ?_
    refine cw_seq ?_
    refine cw_region ?_
    obtain ⟨a5, c5, v5, s7⟩ := s6.relOpen 2 rfl
    obtain ⟨a8, c8, v8, s8⟩ := s7.relOpen 4 rfl
    have s9 := (s8.pushNil 34 1).push (A := NRows [] []) trivial
    obtain ⟨Q, hQ⟩ : ∃ Q, Q = (((facI s).take i).foldl (ofStep ms k) (noneN ms)) := ⟨_, rfl⟩
    obtain ⟨G, hG8⟩ : ∃ G, G = (facN ms f (innN ms k f)) := ⟨_, rfl⟩
    rw [← hQ, ← hG8] at s9
    have hQr : RelN ms Q := by rw [hQ]; exact fold_rel hW k _ _ (noneN_rel hW)
    have hGr : RelN ms G := by rw [hG8]; exact facN_rel hW _ _
    have hQl : (castR Q).length = ms.length := by rw [castR, List.length_map]; exact hQr.len
    have hGl : (castR G).length = ms.length := by rw [castR, List.length_map]; exact hGr.len
    have hQl2 := hQr.len
    have hGl2 := hGr.len
    obtain ⟨g5, rfl⟩ := s9.slSome 6 rfl (by omega)
    obtain ⟨g8, rfl⟩ := s9.slSome 3 rfl (by omega)
    refine ow_val rfl rfl (by decide) (e_assign rfl) ?_
    refine ow_nil ?_
    refine then_normal ?_
    refine cw_block ?_
    refine cw_loop (fun μ_ f_ w_ => ∃ m : Nat, ∃ Aq : Option Addr, ∃ nq : Nat, ∃ cq : Nat, ∃ vs : List Value, μ_ = ms.length - m ∧ f_ 0 = .pointer (some pa) ∧ f_ 1 = .string s ∧ f_ 5 = .pointer (some ⟨b5, 0, none⟩) ∧ f_ 6 = .slice (some ⟨gF, 0, none⟩) (facI s).length cF ∧ f_ 7 = .int .i64 (i : Int) ∧ f_ 8 = .pointer (some ⟨b8, 0, none⟩) ∧ f_ 9 = .pointer (some ⟨bs, 0, none⟩) ∧ f_ 10 = .int .i64 (m : Int) ∧ (m ≤ ms.length) ∧ (nq = m) ∧ Sat w w_ [Blk bs 288 [.slice Aq nq cq], Sl 34 1 (.slice Aq nq cq) nq vs, NRows vs (castR ((List.range m).map (compRow Q G))), Blk b5 288 [.slice (some ⟨g5, 0, none⟩) (castR Q).length c5], Sl 34 1 (.slice (some ⟨g5, 0, none⟩) (castR Q).length c5) (castR Q).length v5, NRows v5 (castR Q), Blk b8 288 [.slice (some ⟨g8, 0, none⟩) (castR G).length c8], Sl 34 1 (.slice (some ⟨g8, 0, none⟩) (castR G).length c8) (castR G).length v8, NRows v8 (castR G), Sl 9 1 (.slice (some ⟨gF, 0, none⟩) (facI s).length cF) (facI s).length ((facI s).map Value.string), Old w]) ms.length ⟨0, none, 0, 0, [], rfl, e3_0, e3_1, e3_5, e3_6, e3_7, rfl, rfl, rfl, Nat.zero_le _, rfl, (s9.pickN 11 [8, 1, 0, 5, 6, 7, 2, 3, 4, 9, 10] rfl (by decide) rfl)⟩ ?_
    intro k_ f_ w_ h_
    obtain ⟨m, Aq, nq, cq, vs, rfl, e10_0, e10_1, e10_5, e10_6, e10_7, e10_8, e10_9, e10_10, hm, hnq, s10⟩ := h_
    skip
    refine cw_seq ?_
    refine cw_seq ?_
    refine cw_region ?_
    refine ow_val rfl rfl (by decide) (e_move e10_10) ?_
    refine ow_val rfl rfl (by decide) (e_move e10_5) ?_
    refine ow_val rfl rfl (by decide) (e_nilCheck rfl) ?_
    refine ow_val rfl rfl (by decide) (e_fieldAddr rfl field288_0) ?_
    refine ow_val rfl rfl (by decide) (e_load rfl flat46 (s10.cell 3 rfl (Blk.reads rfl))) ?_
    refine ow_val rfl rfl (by decide) (e_len_slice rfl Try.underlying46) ?_
    refine ow_val rfl rfl (by decide) (e_lss rfl rfl) ?_
    refine ow_nil ?_
    refine then_normal ?_
    refine cw_cond rfl (fun c11 => ?_) (fun c11 => ?_)
    · skip
      have hltm : m < ms.length := (by have := of_decide_eq_true c11; omega)
      have hnm := hW.node (m : Int) (by omega) (by omega)
      have qx := castR_get (Q := Q) (i := m) (by omega)
      have gx := castR_get (Q := G) (i := m) (by omega)
      have qrow := hQr.row m hltm
      have grow := hGr.row m hltm
      have qcl : (castL (Q.getD m [])).length = (Q.getD m []).length := castL_len _
      have gcl : (castL (G.getD m [])).length = (G.getD m []).length := castL_len _
      obtain ⟨aq, cq_, hvq, hRq⟩ := s10.rowAt 5 rfl qx
      obtain ⟨adq, eq_, -⟩ := hRq.at (i := 0) (Int.le_refl _) (by rw [List.length_map]; omega)
      subst eq_
      obtain ⟨af, cf_, hvf, hRf⟩ := s10.rowAt 8 rfl gx
      obtain ⟨adf, ef_, -⟩ := hRf.at (i := 0) (Int.le_refl _) (by rw [List.length_map]; omega)
      subst ef_
      refine cw_skip ?_
      refine then_normal ?_
      refine cw_seq ?_
      refine cw_block ?_
      refine cw_seq ?_
      refine cw_region ?_
      refine o_buildSlice0 slt34 s10 (by decide) (fun b13 w12 s12 => ?_)
      refine ow_val rfl rfl (by decide) (e_assign rfl) ?_
      refine ow_nil ?_
      refine then_normal ?_
      refine cw_seq ?_
      refine cw_seq ?_
      refine cw_region ?_
      refine ow_val rfl rfl (by decide) (e_assign rfl) ?_
      refine ow_nil ?_
      refine then_normal ?_
      refine cw_block ?_
      refine cw_loop (fun μ_ f_ w_ => ∃ e : Nat, ∃ A11 : Option Addr, ∃ n11 : Nat, ∃ c11 : Nat, ∃ X11 : List Value, μ_ = (Q.getD m []).length - e ∧ f_ 0 = .pointer (some pa) ∧ f_ 1 = .string s ∧ f_ 5 = .pointer (some ⟨b5, 0, none⟩) ∧ f_ 6 = .slice (some ⟨gF, 0, none⟩) (facI s).length cF ∧ f_ 7 = .int .i64 (i : Int) ∧ f_ 8 = .pointer (some ⟨b8, 0, none⟩) ∧ f_ 9 = .pointer (some ⟨bs, 0, none⟩) ∧ f_ 10 = .int .i64 (m : Int) ∧ f_ 11 = .slice A11 n11 c11 ∧ f_ 12 = .int .i64 (e : Int) ∧ (e ≤ (Q.getD m []).length) ∧ (n11 = e) ∧ (X11 = (castL (((Q.getD m []).take e).map fun q => orRow q (G.getD m []))).map (Value.int .i64)) ∧ Sat w w_ [Sl 2 1 (.slice A11 n11 c11) n11 X11, Blk bs 288 [.slice Aq nq cq], Sl 34 1 (.slice Aq nq cq) nq vs, NRows vs (castR ((List.range m).map (compRow Q G))), Blk b5 288 [.slice (some ⟨g5, 0, none⟩) (castR Q).length c5], Sl 34 1 (.slice (some ⟨g5, 0, none⟩) (castR Q).length c5) (castR Q).length v5, NRows v5 (castR Q), Blk b8 288 [.slice (some ⟨g8, 0, none⟩) (castR G).length c8], Sl 34 1 (.slice (some ⟨g8, 0, none⟩) (castR G).length c8) (castR G).length v8, NRows v8 (castR G), Sl 9 1 (.slice (some ⟨gF, 0, none⟩) (facI s).length cF) (facI s).length ((facI s).map Value.string), Old w]) (Q.getD m []).length ⟨0, (some ⟨b13, 0, none⟩), 0, 0, _, rfl, e10_0, e10_1, e10_5, e10_6, e10_7, e10_8, e10_9, e10_10, rfl, rfl, Nat.zero_le _, rfl, rfl, s12⟩ ?_
      intro k_ f_ w_ h_
      obtain ⟨e, A11, n11, c11, X11, rfl, e14_0, e14_1, e14_5, e14_6, e14_7, e14_8, e14_9, e14_10, e14_11, e14_12, he, hn11, hX11, s14⟩ := h_
      skip
      refine cw_seq ?_
      refine cw_seq ?_
      refine cw_region ?_
      refine ow_val rfl rfl (by decide) (e_move e14_12) ?_
      refine ow_val rfl rfl (by decide) (e_move e14_5) ?_
      refine ow_val rfl rfl (by decide) (e_nilCheck rfl) ?_
      refine ow_val rfl rfl (by decide) (e_fieldAddr rfl field288_0) ?_
      refine ow_val rfl rfl (by decide) (e_load rfl flat46 (s14.cell 4 rfl (Blk.reads rfl))) ?_
      refine ow_val rfl rfl (by decide) (e_move e14_10) ?_
      refine o_idxS rfl rfl slt46 (by omega) (by omega) (by decide) ?_
      refine ow_val rfl rfl (by decide) (e_load rfl flat34 (s14.slCell 5 rfl hvq)) ?_
      refine ow_val rfl rfl (by decide) (e_len_slice rfl Try.underlying34) ?_
      refine ow_val rfl rfl (by decide) (e_lss rfl rfl) ?_
      refine ow_nil ?_
      refine then_normal ?_
      refine cw_cond rfl (fun c15 => ?_) (fun c15 => ?_)
      · skip
        have hlte : e < (Q.getD m []).length := (by have := of_decide_eq_true c15; omega)
        refine cw_skip ?_
        refine then_normal ?_
        refine cw_seq ?_
        refine cw_block ?_
        refine cw_seq ?_
        refine cw_region ?_
        refine ow_val rfl rfl (by decide) (e_assign rfl) ?_
        refine ow_nil ?_
        refine then_normal ?_
        refine cw_seq ?_
        refine cw_seq ?_
        refine cw_region ?_
        refine ow_val rfl rfl (by decide) (e_assign rfl) ?_
        refine ow_nil ?_
        refine then_normal ?_
        refine cw_block ?_
        refine cw_loop (fun μ_ f_ w_ => ∃ x : Nat, μ_ = (G.getD m []).length - x ∧ f_ 0 = .pointer (some pa) ∧ f_ 1 = .string s ∧ f_ 5 = .pointer (some ⟨b5, 0, none⟩) ∧ f_ 6 = .slice (some ⟨gF, 0, none⟩) (facI s).length cF ∧ f_ 7 = .int .i64 (i : Int) ∧ f_ 8 = .pointer (some ⟨b8, 0, none⟩) ∧ f_ 9 = .pointer (some ⟨bs, 0, none⟩) ∧ f_ 10 = .int .i64 (m : Int) ∧ f_ 11 = .slice A11 n11 c11 ∧ f_ 12 = .int .i64 (e : Int) ∧ f_ 13 = .int .i64 ((orTo ((Q.getD m []).getD e 0) (G.getD m []) x : Nat) : Int) ∧ f_ 14 = .int .i64 (x : Int) ∧ (x ≤ (G.getD m []).length) ∧ Sat w w_ [Sl 2 1 (.slice A11 n11 c11) n11 X11, Blk bs 288 [.slice Aq nq cq], Sl 34 1 (.slice Aq nq cq) nq vs, NRows vs (castR ((List.range m).map (compRow Q G))), Blk b5 288 [.slice (some ⟨g5, 0, none⟩) (castR Q).length c5], Sl 34 1 (.slice (some ⟨g5, 0, none⟩) (castR Q).length c5) (castR Q).length v5, NRows v5 (castR Q), Blk b8 288 [.slice (some ⟨g8, 0, none⟩) (castR G).length c8], Sl 34 1 (.slice (some ⟨g8, 0, none⟩) (castR G).length c8) (castR G).length v8, NRows v8 (castR G), Sl 9 1 (.slice (some ⟨gF, 0, none⟩) (facI s).length cF) (facI s).length ((facI s).map Value.string), Old w]) (G.getD m []).length ⟨0, rfl, e14_0, e14_1, e14_5, e14_6, e14_7, e14_8, e14_9, e14_10, e14_11, e14_12, rfl, rfl, Nat.zero_le _, s14⟩ ?_
        intro k_ f_ w_ h_
        obtain ⟨x, rfl, e16_0, e16_1, e16_5, e16_6, e16_7, e16_8, e16_9, e16_10, e16_11, e16_12, e16_13, e16_14, hx, s16⟩ := h_
        skip
        refine cw_seq ?_
        refine cw_seq ?_
        refine cw_region ?_
        refine ow_val rfl rfl (by decide) (e_move e16_14) ?_
        refine ow_val rfl rfl (by decide) (e_move e16_8) ?_
        refine ow_val rfl rfl (by decide) (e_nilCheck rfl) ?_
        refine ow_val rfl rfl (by decide) (e_fieldAddr rfl field288_0) ?_
        refine ow_val rfl rfl (by decide) (e_load rfl flat46 (s16.cell 7 rfl (Blk.reads rfl))) ?_
        refine ow_val rfl rfl (by decide) (e_move e16_10) ?_
        refine o_idxS rfl rfl slt46 (by omega) (by omega) (by decide) ?_
        refine ow_val rfl rfl (by decide) (e_load rfl flat34 (s16.slCell 8 rfl hvf)) ?_
        refine ow_val rfl rfl (by decide) (e_len_slice rfl Try.underlying34) ?_
        refine ow_val rfl rfl (by decide) (e_lss rfl rfl) ?_
        refine ow_nil ?_
        refine then_normal ?_
        refine cw_cond rfl (fun c17 => ?_) (fun c17 => ?_)
        · skip
          have hltx : x < (G.getD m []).length := (by have := of_decide_eq_true c17; omega)
          refine cw_skip ?_
          refine then_normal ?_
          refine cw_seq ?_
          refine cw_block ?_
          refine cw_seq ?_
          refine cw_region ?_
          refine ow_val rfl rfl (by decide) (e_move e16_5) ?_
          refine ow_val rfl rfl (by decide) (e_nilCheck rfl) ?_
          refine ow_val rfl rfl (by decide) (e_fieldAddr rfl field288_0) ?_
          refine ow_val rfl rfl (by decide) (e_load rfl flat46 (s16.cell 4 rfl (Blk.reads rfl))) ?_
          refine ow_val rfl rfl (by decide) (e_move e16_10) ?_
          refine o_idxS rfl rfl slt46 (by omega) (by omega) (by decide) ?_
          refine ow_val rfl rfl (by decide) (e_load rfl flat34 (s16.slCell 5 rfl hvq)) ?_
          refine ow_val rfl rfl (by decide) (e_move e16_12) ?_
          refine o_idxR rfl rfl slt34 (by omega) (by omega) (by decide) ?_
          refine ow_val rfl rfl (by decide) (e_load rfl flat2 (row_cell (row_two s16 6 rfl qx hvq) (i := ((e : Nat) : Int)) (castL_get (i := e) (by omega)))) ?_
          refine ow_val rfl rfl (by decide) (e_move e16_14) ?_
          have hq8 : (Q.getD m []).getD e 0 < 256 := getD_lt (hQr.lt m) _
          have hg8 : (G.getD m []).getD x 0 < 256 := getD_lt (hGr.lt m) _
          have ho8 := orTo_lt (q := (Q.getD m []).getD e 0) (hGr.lt m) x
          refine ow_val rfl rfl (by decide) (e_conv rfl (conv_u3 (by omega) (by omega))) ?_
          refine ow_val rfl rfl (by decide) (e_shr rfl rfl (by omega)) ?_
          refine ow_val rfl rfl (by decide) (e_and rfl rfl) ?_
          refine ow_val rfl rfl (by decide) ((e_eql (k := .i64) (a := bitI (((Q.getD m []).getD e 0 : Nat) : Int) (x : Int)) (b := 1) rfl rfl).trans (by rw [bitI_eq hq8 (by omega) (by omega), Int.toNat_natCast])) ?_
          refine ow_nil ?_
          refine then_normal ?_
          refine cw_cond rfl (fun c18 => ?_) (fun c18 => ?_)
          · skip
            have hbit : Nat.testBit ((Q.getD m []).getD e 0) x = true := c18
            refine cw_region ?_
            refine ow_val rfl rfl (by decide) (e_move e16_13) ?_
            refine ow_val rfl rfl (by decide) (e_move e16_8) ?_
            refine ow_val rfl rfl (by decide) (e_nilCheck rfl) ?_
            refine ow_val rfl rfl (by decide) (e_fieldAddr rfl field288_0) ?_
            refine ow_val rfl rfl (by decide) (e_load rfl flat46 (s16.cell 7 rfl (Blk.reads rfl))) ?_
            refine ow_val rfl rfl (by decide) (e_move e16_10) ?_
            refine o_idxS rfl rfl slt46 (by omega) (by omega) (by decide) ?_
            refine ow_val rfl rfl (by decide) (e_load rfl flat34 (s16.slCell 8 rfl hvf)) ?_
            refine ow_val rfl rfl (by decide) (e_move e16_14) ?_
            refine o_idxR rfl rfl slt34 (by omega) (by omega) (by decide) ?_
            refine ow_val rfl rfl (by decide) (e_load rfl flat2 (row_cell (row_two s16 9 rfl gx hvf) (i := ((x : Nat) : Int)) (castL_get (i := x) (by omega)))) ?_
            refine ow_val rfl rfl (by decide) (e_orN rfl rfl ho8 hg8) ?_
            refine ow_val rfl rfl (by decide) (e_assign rfl) ?_
            refine ow_nil ?_
            refine inb_normal ?_
            refine then_normal ?_
            refine cw_region ?_
            refine ow_val rfl rfl (by decide) (e_move e16_14) ?_
            refine o_addI rfl rfl (by omega) (by omega) (by decide) ?_
            refine ow_val rfl rfl (by decide) (e_assign rfl) ?_
            refine ow_nil ?_
            refine then_normal ?_
            exact ⟨_, by omega, x + 1, rfl, e16_0, e16_1, e16_5, e16_6, e16_7, e16_8, e16_9, e16_10, e16_11, e16_12, (Eq.trans rfl (congrArg (fun z : Nat => Value.int .i64 (z : Int)) (by rw [orTo_succ, if_pos hbit]))), rfl, by omega, s16⟩
          · skip
            have hbit : Nat.testBit ((Q.getD m []).getD e 0) x = false := c18
            refine cw_skip ?_
            refine inb_normal ?_
            refine then_normal ?_
            refine cw_region ?_
            refine ow_val rfl rfl (by decide) (e_move e16_14) ?_
            refine o_addI rfl rfl (by omega) (by omega) (by decide) ?_
            refine ow_val rfl rfl (by decide) (e_assign rfl) ?_
            refine ow_nil ?_
            refine then_normal ?_
            exact ⟨_, by omega, x + 1, rfl, e16_0, e16_1, e16_5, e16_6, e16_7, e16_8, e16_9, e16_10, e16_11, e16_12, (Eq.trans e16_13 (congrArg (fun z : Nat => Value.int .i64 (z : Int)) (by rw [orTo_succ, if_neg (by rw [hbit]; decide)]))), rfl, by omega, s16⟩
        · skip
          have hgex : (G.getD m []).length = x := (by have := of_decide_eq_false c17; omega)
          refine cw_exit ?_
          refine then_exit ?_
          refine then_exit ?_
          refine inb_exit ?_
          refine then_normal ?_
          refine cw_region ?_
          refine ow_val rfl rfl (by decide) (e_move e16_11) ?_
          refine ow_val rfl rfl (by decide) (e_move e16_13) ?_
          refine o_buildSlice1 (v := .int .i64 ((orTo ((Q.getD m []).getD e 0) (G.getD m []) x : Nat) : Int)) rfl rfl slt34 s16 (by decide) (fun b19 w20 s20 => ?_)
          refine o_append1 rfl rfl slt34 (s20.rot 1 rfl) (j := 1) rfl rfl (by omega) (by omega) (by decide) (fun A22 c23 w21 s21 => ?_)
          refine ow_val rfl rfl (by decide) (e_assign rfl) ?_
          refine ow_nil ?_
          refine inb_normal ?_
          refine then_normal ?_
          refine cw_region ?_
          refine ow_val rfl rfl (by decide) (e_move e16_12) ?_
          refine o_addI rfl rfl (by omega) (by omega) (by decide) ?_
          refine ow_val rfl rfl (by decide) (e_assign rfl) ?_
          refine ow_nil ?_
          refine then_normal ?_
          exact ⟨_, by omega, e + 1, A22, (n11 + 1), c23, _, rfl, e16_0, e16_1, e16_5, e16_6, e16_7, e16_8, e16_9, e16_10, rfl, rfl, by omega, by omega, by rw [hX11, take_map_get hlte, ← castL_app]; rw [show orRow ((Q.getD m []).getD e 0) (G.getD m []) = orTo ((Q.getD m []).getD e 0) (G.getD m []) x from by rw [orRow, hgex]; rfl], (s21.pickN 13 [0, 2, 3, 4, 5, 6, 7, 8, 9, 10, 11, 12] rfl (by decide) rfl)⟩
      · skip
        have hgee : e = (Q.getD m []).length := (by have := of_decide_eq_false c15; omega)
        refine cw_exit ?_
        refine then_exit ?_
        refine then_exit ?_
        refine inb_exit ?_
        refine then_normal ?_
        refine cw_region ?_
        refine ow_val rfl rfl (by decide) (e_move e14_9) ?_
        refine ow_val rfl rfl (by decide) (e_move e14_9) ?_
        refine ow_val rfl rfl (by decide) (e_nilCheck rfl) ?_
        refine ow_val rfl rfl (by decide) (e_fieldAddr rfl field288_0) ?_
        refine ow_val rfl rfl (by decide) (e_load rfl flat46 (s14.cell 1 rfl (Blk.reads rfl))) ?_
        refine ow_val rfl rfl (by decide) (e_move e14_11) ?_
        refine o_buildSlice1 (v := .slice A11 n11 c11) rfl rfl slt46 s14 (by decide) (fun b24 w25 s25 => ?_)
        refine o_append1 rfl rfl slt46 (s25.rot 3 rfl) (j := 1) rfl rfl (by omega) (by omega) (by decide) (fun A27 c28 w26 s26 => ?_)
        refine ow_val rfl rfl (by decide) (e_nilCheck rfl) ?_
        refine ow_val rfl rfl (by decide) (e_fieldAddr rfl field288_0) ?_
        refine o_store rfl rfl rfl flat46 s26 (i := 3) rfl (Blk.writes _ (Nat.le_of_ble_eq_true rfl)) (fun w29 s29 => ?_)
        refine ow_nil ?_
        refine inb_normal ?_
        refine then_normal ?_
        refine cw_region ?_
        refine ow_val rfl rfl (by decide) (e_move e14_10) ?_
        refine o_addI rfl rfl (by omega) (by omega) (by decide) ?_
        refine ow_val rfl rfl (by decide) (e_assign rfl) ?_
        refine ow_nil ?_
        refine then_normal ?_
        have hcr : (((Q.getD m []).take e).map fun q => orRow q (G.getD m [])) = compRow Q G m := by rw [hgee, List.take_length]; rfl
        rw [hcr] at hX11
        have s30 := s29.rowsPush (castL (compRow Q G m)) 2 3 rfl rfl (by rw [castL_len, compRow, List.length_map]; omega) hX11
        rw [show castR ((List.range m).map (compRow Q G)) ++ [castL (compRow Q G m)] = castR ((List.range (m + 1)).map (compRow Q G)) from by rw [range_map_succ]; simp [castR]] at s30
        exact ⟨_, by omega, m + 1, A27, (nq + 1), c28, _, rfl, e14_0, e14_1, e14_5, e14_6, e14_7, e14_8, e14_9, rfl, by omega, by omega, (s30.pickN 12 [3, 1, 0, 4, 5, 6, 7, 8, 9, 10, 11] rfl (by decide) rfl)⟩
    · skip
      have hgem : m = ms.length := (by have := of_decide_eq_false c11; omega)
      refine cw_exit ?_
      refine then_exit ?_
      refine then_exit ?_
      refine inb_exit ?_
      refine then_normal ?_
      refine cw_region ?_
      refine ow_val rfl rfl (by decide) (e_move e10_9) ?_
      refine ow_val rfl rfl (by decide) (e_assign rfl) ?_
      refine ow_nil ?_
      refine inb_normal ?_
      refine then_normal ?_
      refine cw_region ?_
      refine ow_val rfl rfl (by decide) (e_move e10_7) ?_
      refine o_addI rfl rfl (by omega) (by omega) (by decide) ?_
      refine ow_val rfl rfl (by decide) (e_assign rfl) ?_
      refine ow_nil ?_
      refine then_normal ?_
      have sp_ := (s10.pickN 11 [0, 1, 2, 9, 10] rfl (by decide) rfl : Sat w _ [Blk bs 288 [.slice Aq nq cq], Sl 34 1 (.slice Aq nq cq) nq vs, NRows vs (castR ((List.range m).map (compRow Q G))), Sl 9 1 (.slice (some ⟨gF, 0, none⟩) (facI s).length cF) (facI s).length ((facI s).map Value.string), Old w])
      rw [show ((List.range m).map (compRow Q G)) = compN Q G from by rw [hgem, ← hQr.len]; rfl, show compN Q G = ((facI s).take (i + 1)).foldl (ofStep ms k) (noneN ms) from by rw [take_foldl_succ (z := ⟨#[]⟩) hlt, ← hQ, hG8]; show _ = ofStep ms k Q ((facI s).getD ((i : Int).toNat) ⟨#[]⟩); rw [← hfe]; rfl] at sp_
      have s31 := sp_.relClose (by rw [hnq, hgem, castR, List.length_map]; exact ((fold_rel hW k _ _ (noneN_rel hW)).len).symm)
      exact ⟨_, by omega, i + 1, bs, rfl, e10_0, e10_1, rfl, e10_6, rfl, by omega, s31⟩
  · skip
    have hge : i = (facI s).length := (by have := of_decide_eq_false c4; omega)
    refine cw_exit ?_
    refine then_exit ?_
    refine then_exit ?_
    refine inb_exit ?_
    refine then_normal ?_
    refine cw_seq ?_
    refine cw_region ?_
    refine ow_val rfl rfl (by decide) (e_move e3_5) ?_
    refine ow_val rfl rfl (by decide) (e_assign rfl) ?_
    refine ow_nil ?_
    refine then_normal ?_
    refine cw_ret ?_
    refine ends1 (v := .pointer (some ⟨b5, 0, none⟩)) (.inl rfl) Try.results238 rfl ?_
    have hfin : (((facI s).take i).foldl (ofStep ms k) (noneN ms)) = ofN ms (k + 1) s := by rw [hge, List.take_length]; rfl
    rw [hfin] at s3
    exact ⟨b5, rfl, s3.part 3 [0] 2 rfl rfl (by decide) rfl, s3.toBelow 2 rfl⟩
theorem of_all (ms : List S201) (hW : WFm ms) (hl1 : 1 ≤ ms.length) (hl4 : ms.length ≤ 4) : ∀ k, OfOk (goodB k) k ms
  | 0 => of_zero ms
  | k + 1 => of_of k ms hW hl1 hl4 (of_all ms hW hl1 hl4 k)
end Go.Proofs.Ytjkohjdiddhpcaa.My
set_option linter.unusedVariables false
set_option linter.unusedSimpArgs false
namespace Go.Proofs.Ytjkohjdiddhpcaa.My
open Go.Sl Go.RowKit Go.Proofs.YtjkohjdiddhpcaaW.PrintWords Go.Proofs.YtjkohjdiddhpcaaW.PrintLast Go.Proofs.YtjkohjdiddhpcaaW.PrintMore Go.Proofs.Ytjkohjdiddhpcaa.PFnExactCountProgramWords
theorem enter64 : enterB Try.prog 64 = true := by kernel_rfl
theorem enter66 : enterB Try.prog 66 = true := by kernel_rfl
theorem enter67 : enterB Try.prog 67 = true := by kernel_rfl
theorem enter68 : enterB Try.prog 68 = true := by kernel_rfl
theorem enter141 : enterB Try.prog 141 = true := by kernel_rfl
theorem enter152 : enterB Try.prog 152 = true := by kernel_rfl
def endN (ms : List S201) (Q : List (List Nat)) : Bool := ((Q.getD 0 []).getD 0 0).testBit ((rd_T201 ms 0).f0 - 1).toNat
theorem good_n {n : Nat} (h : n < 6) : spec_CountMatched.f 200 (n : Int) = some (E n 0, 0) ∧ ∀ i : Nat, i < (E n 0).toNat → spec_MatchedAt.f 200 (n : Int) (i : Int) = some ((matM (n : Int) (i : Int)).1, 0) ∧ spec_l01Matched.f 60 (matM (n : Int) (i : Int)).1 = some true ∧ goodB 5 (matM (n : Int) (i : Int)).1 = true := by
  have h1 := List.all_eq_true.1 all_good n (List.mem_range.2 h)
  rw [Bool.and_eq_true, decide_eq_true_eq] at h1
  refine ⟨h1.1, fun i hi => ?_⟩
  have h2 := List.all_eq_true.1 h1.2 i (List.mem_range.2 hi)
  rw [Bool.and_eq_true, Bool.and_eq_true, decide_eq_true_eq, decide_eq_true_eq] at h2
  exact ⟨h2.1.1, h2.1.2, h2.2⟩
theorem good_i {n : Int} (h : inR n 0 5 = true) : spec_CountMatched.f 200 n = some ((cntM n).1, 0) ∧ (cntM n).2 = 0 ∧ ∀ i : Nat, i < (cntM n).1.toNat → spec_MatchedAt.f 200 n (i : Int) = some ((matM n (i : Int)).1, 0) ∧ spec_l01Matched.f 60 (matM n (i : Int)).1 = some true ∧ goodB 5 (matM n (i : Int)).1 = true := by
  have h0 := inR_iff.1 h
  obtain ⟨m, rfl⟩ : ∃ m : Nat, n = (m : Int) := ⟨n.toNat, by omega⟩
  have hc : cntM (m : Int) = (E m 0, 0) := by rw [cntM, if_pos (inR_iff.2 (by omega)), Int.toNat_natCast]
  rw [hc]
  exact ⟨(good_n (by omega)).1, rfl, (good_n (by omega)).2⟩
def sw (ms : List S201) (n : Int) : Nat → Int
  | 0 => 0
  | i + 1 => if endN ms (ofN ms 5 (matM n (i : Int)).1) = true then sw ms n i + 1 else sw ms n i
theorem sw_bd (ms : List S201) (n : Int) : ∀ i : Nat, 0 ≤ sw ms n i ∧ sw ms n i ≤ i
  | 0 => by simp [sw]
  | i + 1 => by
    have := sw_bd ms n i
    rw [sw]
    split <;> omega
def spw (ms : List S201) (n : Int) : Int × Int := if specOk ms = true then (if inR n 0 5 = true then (sw ms n (cntM n).1.toNat, 0) else (0, 2)) else (0, 1)
theorem brk_size {s : ByteArray} (h : brk s = true) : s.size = 2 := by
  unfold brk at h
  rw [Bool.and_eq_true] at h
  have := eq_of_beq h.1
  omega
theorem lettr_size {s : ByteArray} (h : lettr s = true) : s.size = 1 := by
  unfold lettr at h
  rw [Bool.or_eq_true] at h
  have hs : ∀ t : UInt8, (s.toList == (⟨#[t]⟩ : ByteArray).toList) = true → s.size = 1 := fun t ht => by
    have := eq_of_beq ht
    rw [ByteArray.toList_eq, ByteArray.toList_eq] at this
    have h2 := congrArg List.length this
    show s.data.size = 1
    rw [← Array.length_toList]
    exact h2
  rcases h with h | h
  · exact hs _ h
  · exact hs _ h
theorem link_bad_eq (n nodes : Int) (l : S204) : specLinkBad n nodes l = linkBad n nodes l := by
  unfold specLinkBad linkBad
  have hl : lettr l.f2 = ((l.f2.toList == (⟨#[97]⟩ : ByteArray).toList) || (l.f2.toList == (⟨#[98]⟩ : ByteArray).toList)) := rfl
  have e1 : (!(l.f2.toList == (⟨#[97]⟩ : ByteArray).toList) && !(l.f2.toList == (⟨#[98]⟩ : ByteArray).toList)) = !(lettr l.f2) := by rw [hl, Bool.not_or]
  rw [e1]
  cases hb : brk l.f2 with
  | true =>
    have h2 := brk_size hb
    have h3 : ((l.f2.size : Int) == 1) = false := by rw [h2]; rfl
    rw [h3]
    cases inR l.f0 0 (nodes - 1) <;> cases inR l.f1 0 (nodes - 1) <;> cases inR l.f3 0 (n - 1) <;> simp
  | false =>
    cases hq : lettr l.f2 with
    | true =>
      have h2 := lettr_size hq
      have h3 : ((l.f2.size : Int) == 1) = true := by rw [h2]; rfl
      rw [h3]
      cases inR l.f0 0 (nodes - 1) <;> cases inR l.f1 0 (nodes - 1) <;> cases inR l.f3 0 (n - 1) <;> simp
    | false =>
      cases inR l.f0 0 (nodes - 1) <;> cases inR l.f1 0 (nodes - 1) <;> cases inR l.f3 0 (n - 1) <;> simp
theorem spec_ok (ms : List S201) : specOk ms = progOk ms := by
  have hl : ∀ n nodes, specLinkBad n nodes = linkBad n nodes := fun n nodes => funext fun l => link_bad_eq n nodes l
  have hm : ∀ n, specModBad n = moduleBad n := fun n => funext fun m => by unfold specModBad moduleBad; rw [hl]
  unfold specOk progOk
  rw [hm]
theorem ends_calls (k : Nat) (s : ByteArray) (ms : List S201) (pa : Addr) (A : Option Addr) (c : Nat) (w : World) (hC : Kd.C k201 w A ms.length ms) (hp : w.cell? (pa.add 0) = some (.slice A ms.length c)) (hW : WFm ms) (hl1 : 1 ≤ ms.length) (hl4 : ms.length ≤ 4) (hG : goodB k s = true) :
    Calls Try.prog 152 #[.pointer (some pa), .int .i64 0, .int .i64 0, .string s] w fun e w' => e = .returned (.bool (endN ms (ofN ms k s))) ∧ Below w.heap.size w w' := by
  have hmix : Try.prog.follows .mixedOrders = true := by kernel_rfl
  have hnd := hW.node 0 (by omega) (by omega)
  have hrel := ofN_rel hW k s
  obtain ⟨R, hR⟩ : ∃ R, R = ofN ms k s := ⟨_, rfl⟩
  have s0 := Sat.start w
  refine calls_of_cw (args := [.pointer (some pa), .int .i64 0, .int .i64 0, .string s]) Try.func152 Try.ntmps152 rfl (by simp) ?_
  refine cw_seq ?_
  refine cw_region ?_
  refine ow_val rfl rfl (by decide) (e_assign rfl) ?_
  refine ow_nil ?_
  refine then_normal ?_
  refine cw_seq ?_
  refine al_keep #[false, false, false, false, false, false, false, false, false, false, false, false, false, false, false, false, false, false, false, false] [] [0] s0 hmix rfl rfl (idxB 1 rfl (by decide)) (fun w1 s1 => ?_)
  refine al_take 0 #[true, false, false, false, false, false, false, false, false, false, false, false, false, false, false, false, false, false, false, false] rfl rfl (by decide) (by kernel_rfl) (fun _ _ _ h => h) (ya rfl (fun w_ s_ => e_move rfl)) (s1.pickD [0] (idxB 1 rfl (by decide))) ?_
  refine al_take 1 #[true, true, false, false, false, false, false, false, false, false, false, false, false, false, false, false, false, false, false, false] rfl rfl (by decide) (by kernel_rfl) (fun _ _ _ h => h) (ya rfl (fun w_ s_ => e_move rfl)) (s1.pickD [0] (idxB 1 rfl (by decide))) ?_
  refine al_take 6 #[true, true, false, false, false, false, true, false, false, false, false, false, false, false, false, false, false, false, false, false] rfl rfl (by decide) (by kernel_rfl) (fun _ _ _ h => h) (ya rfl (fun w_ s_ => e_move rfl)) (s1.pickD [0] (idxB 1 rfl (by decide))) ?_
  refine al_take 9 #[true, true, false, false, false, false, true, false, false, true, false, false, false, false, false, false, false, false, false, false] rfl rfl (by decide) (by kernel_rfl) (fun _ _ _ h => h) (ya rfl (fun w_ s_ => e_move rfl)) (s1.pickD [0] (idxB 1 rfl (by decide))) ?_
  refine al_take 12 #[true, true, false, false, false, false, true, false, false, true, false, false, true, false, false, false, false, false, false, false] rfl rfl (by decide) (by kernel_rfl) (fun _ _ _ h => h) (ya rfl (fun w_ s_ => e_move rfl)) (s1.pickD [0] (idxB 1 rfl (by decide))) ?_
  refine al_take 13 #[true, true, false, false, false, false, true, false, false, true, false, false, true, true, false, false, false, false, false, false] rfl rfl (by decide) (by kernel_rfl) (fun _ _ _ h => h) (ya rfl (fun w_ s_ => e_move rfl)) (s1.pickD [0] (idxB 1 rfl (by decide))) ?_
  refine al_one 2 #[true, true, true, false, false, false, true, false, false, true, false, false, true, true, false, false, false, false, false, false] (by kernel_rfl) rfl ?_
  refine o_call enter238 rfl (by decide) ?_
  refine (of_all ms hW hl1 hl4 k s pa A c _ (Kd.C_below hC (s1.toBelow 0 rfl)) (s1.oldCell 0 rfl hp) hG).mono ?_
  rintro e_ w2 ⟨bo, rfl, hp_, hb_⟩
  have s2 := s1.calledP hb_ hp_
  rw [← hR] at s2
  refine ⟨_, rfl, ?_⟩
  refine stepL_nil (fun _ => (s2.pickD [1] (idxB 2 rfl (by decide)))) ?_
  refine al_take 3 #[true, true, true, true, false, false, true, false, false, true, false, false, true, true, false, false, false, false, false, false] rfl rfl (by decide) (by kernel_rfl) (fun _ _ _ h => h) (ya rfl (fun w_ s_ => e_nilCheck rfl)) (s2.pickD [1] (idxB 2 rfl (by decide))) ?_
  refine al_take 4 #[true, true, true, true, true, false, true, false, false, true, false, false, true, true, false, false, false, false, false, false] rfl rfl (by decide) (by kernel_rfl) (fun _ _ _ h => h) (ya rfl (fun w_ s_ => e_fieldAddr rfl field288_0)) (s2.pickD [1] (idxB 2 rfl (by decide))) ?_
  refine al_two 5 14 #[true, true, true, true, true, true, true, false, false, true, false, false, true, true, false, false, false, false, false, false] #[true, true, true, true, true, false, true, false, false, true, false, false, true, true, true, false, false, false, false, false] (by kernel_rfl) rfl rfl ?_ ?_
  · skip
    obtain ⟨ao, co, vo, s3⟩ := s2.relOpen 0 rfl
    have hRr : RelN ms R := by rw [hR]; exact hrel
    have hRl : (castR R).length = ms.length := by rw [castR, List.length_map]; exact hRr.len
    have hRl2 := hRr.len
    have hrow := hRr.row 0 (by omega)
    have hrow' : ((R.getD 0 []).length : Int) = (rd_T201 ms 0).f0 := hrow
    have rx := castR_get (Q := R) (i := 0) (by omega)
    have rcl : (castL (R.getD 0 [])).length = (R.getD 0 []).length := castL_len _
    have r8 : (R.getD 0 []).getD 0 0 < 256 := getD_lt (hRr.lt 0) _
    obtain ⟨go, rfl⟩ := s3.slSome 1 rfl (by omega)
    obtain ⟨ar, cr, hvr, hRV⟩ := s3.rowAt 2 rfl rx
    obtain ⟨adr, er_, -⟩ := hRV.at (i := 0) (Int.le_refl _) (by rw [List.length_map]; omega)
    subst er_
    refine ow_val rfl rfl (by decide) (e_load rfl flat46 (s3.cell 0 rfl (Blk.reads rfl))) ?_
    refine stepL_nil (fun _ => (s3.pickD [3] (idxB 4 rfl (by decide)))) ?_
    refine al_take 7 #[true, true, true, true, true, true, true, true, false, true, false, false, true, true, false, false, false, false, false, false] rfl rfl (by decide) (by kernel_rfl) (fun _ _ _ h => h) (ya rfl (fun w_ s_ => e_idxS rfl rfl slt46 (by omega) (by omega))) (s3.pickD [3] (idxB 4 rfl (by decide))) ?_
    refine al_two 8 14 #[true, true, true, true, true, true, true, true, true, true, false, false, true, true, false, false, false, false, false, false] #[true, true, true, true, true, true, true, true, false, true, false, false, true, true, true, false, false, false, false, false] (by kernel_rfl) rfl rfl ?_ ?_
    · skip
      refine ow_val rfl rfl (by decide) (e_load rfl flat34 (s3.slCell 1 rfl hvr)) ?_
      refine stepL_nil (fun _ => (s3.pickD [3] (idxB 4 rfl (by decide)))) ?_
      refine al_take 10 #[true, true, true, true, true, true, true, true, true, true, true, false, true, true, false, false, false, false, false, false] rfl rfl (by decide) (by kernel_rfl) (fun _ _ _ h => h) (ya rfl (fun w_ s_ => e_idxR rfl rfl slt34 (by omega) (by omega))) (s3.pickD [3] (idxB 4 rfl (by decide))) ?_
      refine al_two 11 14 #[true, true, true, true, true, true, true, true, true, true, true, true, true, true, false, false, false, false, false, false] #[true, true, true, true, true, true, true, true, true, true, true, false, true, true, true, false, false, false, false, false] (by kernel_rfl) rfl rfl ?_ ?_
      · skip
        refine ow_val rfl rfl (by decide) (e_load rfl flat2 (row_cell (row_two s3 2 rfl rx hvr) (i := ((0 : Nat) : Int)) (castL_get (i := 0) (by omega)))) ?_
        refine stepL_nil (fun _ => (s3.pickD [3] (idxB 4 rfl (by decide)))) ?_
        refine al_one 14 #[true, true, true, true, true, true, true, true, true, true, true, true, true, true, true, false, false, false, false, false] (by kernel_rfl) rfl ?_
        refine o_call enter84 rfl (by decide) ?_
        refine (sexit_calls 0 ms pa _ c _ (Kd.C_below hC (s3.toBelow 3 rfl)) (s3.oldCell 3 rfl hp) hW (by omega) (by omega)).mono ?_
        rintro e_ w4 ⟨rfl, hb_⟩
        have s4 := s3.below hb_
        refine ⟨_, rfl, ?_⟩
        refine stepL_nil (fun _ => (s4.pickD [3] (idxB 4 rfl (by decide)))) ?_
        refine al_take 15 #[true, true, true, true, true, true, true, true, true, true, true, true, true, true, true, true, false, false, false, false] rfl rfl (by decide) (by kernel_rfl) (fun _ _ _ h => h) (ya rfl (fun w_ s_ => e_conv rfl (conv_u (by omega) (by omega)))) (s4.pickD [3] (idxB 4 rfl (by decide))) ?_
        refine al_take 16 #[true, true, true, true, true, true, true, true, true, true, true, true, true, true, true, true, true, false, false, false] rfl rfl (by decide) (by kernel_rfl) (fun _ _ _ h => h) (ya rfl (fun w_ s_ => e_shr rfl rfl (by omega))) (s4.pickD [3] (idxB 4 rfl (by decide))) ?_
        refine al_take 17 #[true, true, true, true, true, true, true, true, true, true, true, true, true, true, true, true, true, true, false, false] rfl rfl (by decide) (by kernel_rfl) (fun _ _ _ h => h) (ya rfl (fun w_ s_ => e_and rfl rfl)) (s4.pickD [3] (idxB 4 rfl (by decide))) ?_
        refine al_take 18 #[true, true, true, true, true, true, true, true, true, true, true, true, true, true, true, true, true, true, true, false] rfl rfl (by decide) (by kernel_rfl) (fun _ _ _ h => h) (ya rfl (fun w_ s_ => (e_eql (k := .i64) (a := bitI (((R.getD 0 []).getD 0 0 : Nat) : Int) ((rd_T201 ms 0).f0 - 1)) (b := 1) rfl rfl).trans (by rw [bitI_eq r8 (by omega) (by omega)]))) (s4.pickD [3] (idxB 4 rfl (by decide))) ?_
        refine al_take 19 #[true, true, true, true, true, true, true, true, true, true, true, true, true, true, true, true, true, true, true, true] rfl rfl (by decide) (by kernel_rfl) (fun _ _ _ h => h) (ya rfl (fun w_ s_ => e_assign rfl)) (s4.pickD [3] (idxB 4 rfl (by decide))) ?_
        refine al_done (by kernel_rfl) ?_
        refine then_normal ?_
        refine cw_ret ?_
        refine ends1 (v := .bool (Nat.testBit ((R.getD 0 []).getD 0 0) ((rd_T201 ms 0).f0 - 1).toNat)) (.inl rfl) Try.results152 rfl ?_
        exact ⟨by rw [← hR]; rfl, s4.toBelow 3 rfl⟩
      · skip
        refine o_call enter84 rfl (by decide) ?_
        refine (sexit_calls 0 ms pa _ c _ (Kd.C_below hC (s3.toBelow 3 rfl)) (s3.oldCell 3 rfl hp) hW (by omega) (by omega)).mono ?_
        rintro e_ w5 ⟨rfl, hb_⟩
        have s5 := s3.below hb_
        refine ⟨_, rfl, ?_⟩
        refine stepL_nil (fun _ => (s5.pickD [3] (idxB 4 rfl (by decide)))) ?_
        refine al_take 15 #[true, true, true, true, true, true, true, true, true, true, true, false, true, true, true, true, false, false, false, false] rfl rfl (by decide) (by kernel_rfl) (fun _ _ _ h => h) (ya rfl (fun w_ s_ => e_conv rfl (conv_u (by omega) (by omega)))) (s5.pickD [3] (idxB 4 rfl (by decide))) ?_
        refine al_one 11 #[true, true, true, true, true, true, true, true, true, true, true, true, true, true, true, true, false, false, false, false] (by kernel_rfl) rfl ?_
        refine ow_val rfl rfl (by decide) (e_load rfl flat2 (row_cell (row_two s5 2 rfl rx hvr) (i := ((0 : Nat) : Int)) (castL_get (i := 0) (by omega)))) ?_
        refine stepL_nil (fun _ => (s5.pickD [3] (idxB 4 rfl (by decide)))) ?_
        refine al_take 16 #[true, true, true, true, true, true, true, true, true, true, true, true, true, true, true, true, true, false, false, false] rfl rfl (by decide) (by kernel_rfl) (fun _ _ _ h => h) (ya rfl (fun w_ s_ => e_shr rfl rfl (by omega))) (s5.pickD [3] (idxB 4 rfl (by decide))) ?_
        refine al_take 17 #[true, true, true, true, true, true, true, true, true, true, true, true, true, true, true, true, true, true, false, false] rfl rfl (by decide) (by kernel_rfl) (fun _ _ _ h => h) (ya rfl (fun w_ s_ => e_and rfl rfl)) (s5.pickD [3] (idxB 4 rfl (by decide))) ?_
        refine al_take 18 #[true, true, true, true, true, true, true, true, true, true, true, true, true, true, true, true, true, true, true, false] rfl rfl (by decide) (by kernel_rfl) (fun _ _ _ h => h) (ya rfl (fun w_ s_ => (e_eql (k := .i64) (a := bitI (((R.getD 0 []).getD 0 0 : Nat) : Int) ((rd_T201 ms 0).f0 - 1)) (b := 1) rfl rfl).trans (by rw [bitI_eq r8 (by omega) (by omega)]))) (s5.pickD [3] (idxB 4 rfl (by decide))) ?_
        refine al_take 19 #[true, true, true, true, true, true, true, true, true, true, true, true, true, true, true, true, true, true, true, true] rfl rfl (by decide) (by kernel_rfl) (fun _ _ _ h => h) (ya rfl (fun w_ s_ => e_assign rfl)) (s5.pickD [3] (idxB 4 rfl (by decide))) ?_
        refine al_done (by kernel_rfl) ?_
        refine then_normal ?_
        refine cw_ret ?_
        refine ends1 (v := .bool (Nat.testBit ((R.getD 0 []).getD 0 0) ((rd_T201 ms 0).f0 - 1).toNat)) (.inl rfl) Try.results152 rfl ?_
        exact ⟨by rw [← hR]; rfl, s5.toBelow 3 rfl⟩
    · skip
      refine o_call enter84 rfl (by decide) ?_
      refine (sexit_calls 0 ms pa _ c _ (Kd.C_below hC (s3.toBelow 3 rfl)) (s3.oldCell 3 rfl hp) hW (by omega) (by omega)).mono ?_
      rintro e_ w6 ⟨rfl, hb_⟩
      have s6 := s3.below hb_
      refine ⟨_, rfl, ?_⟩
      refine stepL_nil (fun _ => (s6.pickD [3] (idxB 4 rfl (by decide)))) ?_
      refine al_take 15 #[true, true, true, true, true, true, true, true, false, true, false, false, true, true, true, true, false, false, false, false] rfl rfl (by decide) (by kernel_rfl) (fun _ _ _ h => h) (ya rfl (fun w_ s_ => e_conv rfl (conv_u (by omega) (by omega)))) (s6.pickD [3] (idxB 4 rfl (by decide))) ?_
      refine al_one 8 #[true, true, true, true, true, true, true, true, true, true, false, false, true, true, true, true, false, false, false, false] (by kernel_rfl) rfl ?_
      refine ow_val rfl rfl (by decide) (e_load rfl flat34 (s6.slCell 1 rfl hvr)) ?_
      refine stepL_nil (fun _ => (s6.pickD [3] (idxB 4 rfl (by decide)))) ?_
      refine al_take 10 #[true, true, true, true, true, true, true, true, true, true, true, false, true, true, true, true, false, false, false, false] rfl rfl (by decide) (by kernel_rfl) (fun _ _ _ h => h) (ya rfl (fun w_ s_ => e_idxR rfl rfl slt34 (by omega) (by omega))) (s6.pickD [3] (idxB 4 rfl (by decide))) ?_
      refine al_one 11 #[true, true, true, true, true, true, true, true, true, true, true, true, true, true, true, true, false, false, false, false] (by kernel_rfl) rfl ?_
      refine ow_val rfl rfl (by decide) (e_load rfl flat2 (row_cell (row_two s6 2 rfl rx hvr) (i := ((0 : Nat) : Int)) (castL_get (i := 0) (by omega)))) ?_
      refine stepL_nil (fun _ => (s6.pickD [3] (idxB 4 rfl (by decide)))) ?_
      refine al_take 16 #[true, true, true, true, true, true, true, true, true, true, true, true, true, true, true, true, true, false, false, false] rfl rfl (by decide) (by kernel_rfl) (fun _ _ _ h => h) (ya rfl (fun w_ s_ => e_shr rfl rfl (by omega))) (s6.pickD [3] (idxB 4 rfl (by decide))) ?_
      refine al_take 17 #[true, true, true, true, true, true, true, true, true, true, true, true, true, true, true, true, true, true, false, false] rfl rfl (by decide) (by kernel_rfl) (fun _ _ _ h => h) (ya rfl (fun w_ s_ => e_and rfl rfl)) (s6.pickD [3] (idxB 4 rfl (by decide))) ?_
      refine al_take 18 #[true, true, true, true, true, true, true, true, true, true, true, true, true, true, true, true, true, true, true, false] rfl rfl (by decide) (by kernel_rfl) (fun _ _ _ h => h) (ya rfl (fun w_ s_ => (e_eql (k := .i64) (a := bitI (((R.getD 0 []).getD 0 0 : Nat) : Int) ((rd_T201 ms 0).f0 - 1)) (b := 1) rfl rfl).trans (by rw [bitI_eq r8 (by omega) (by omega)]))) (s6.pickD [3] (idxB 4 rfl (by decide))) ?_
      refine al_take 19 #[true, true, true, true, true, true, true, true, true, true, true, true, true, true, true, true, true, true, true, true] rfl rfl (by decide) (by kernel_rfl) (fun _ _ _ h => h) (ya rfl (fun w_ s_ => e_assign rfl)) (s6.pickD [3] (idxB 4 rfl (by decide))) ?_
      refine al_done (by kernel_rfl) ?_
      refine then_normal ?_
      refine cw_ret ?_
      refine ends1 (v := .bool (Nat.testBit ((R.getD 0 []).getD 0 0) ((rd_T201 ms 0).f0 - 1).toNat)) (.inl rfl) Try.results152 rfl ?_
      exact ⟨by rw [← hR]; rfl, s6.toBelow 3 rfl⟩
  · skip
    refine o_call enter84 rfl (by decide) ?_
    refine (sexit_calls 0 ms pa _ c _ (Kd.C_below hC (s2.toBelow 1 rfl)) (s2.oldCell 1 rfl hp) hW (by omega) (by omega)).mono ?_
    rintro e_ w7 ⟨rfl, hb_⟩
    have s7 := s2.below hb_
    refine ⟨_, rfl, ?_⟩
    refine stepL_nil (fun _ => (s7.pickD [1] (idxB 2 rfl (by decide)))) ?_
    refine al_take 15 #[true, true, true, true, true, false, true, false, false, true, false, false, true, true, true, true, false, false, false, false] rfl rfl (by decide) (by kernel_rfl) (fun _ _ _ h => h) (ya rfl (fun w_ s_ => e_conv rfl (conv_u (by omega) (by omega)))) (s7.pickD [1] (idxB 2 rfl (by decide))) ?_
    refine al_one 5 #[true, true, true, true, true, true, true, false, false, true, false, false, true, true, true, true, false, false, false, false] (by kernel_rfl) rfl ?_
    obtain ⟨ao, co, vo, s8⟩ := s7.relOpen 0 rfl
    have hRr : RelN ms R := by rw [hR]; exact hrel
    have hRl : (castR R).length = ms.length := by rw [castR, List.length_map]; exact hRr.len
    have hRl2 := hRr.len
    have hrow := hRr.row 0 (by omega)
    have hrow' : ((R.getD 0 []).length : Int) = (rd_T201 ms 0).f0 := hrow
    have rx := castR_get (Q := R) (i := 0) (by omega)
    have rcl : (castL (R.getD 0 [])).length = (R.getD 0 []).length := castL_len _
    have r8 : (R.getD 0 []).getD 0 0 < 256 := getD_lt (hRr.lt 0) _
    obtain ⟨go, rfl⟩ := s8.slSome 1 rfl (by omega)
    obtain ⟨ar, cr, hvr, hRV⟩ := s8.rowAt 2 rfl rx
    obtain ⟨adr, er_, -⟩ := hRV.at (i := 0) (Int.le_refl _) (by rw [List.length_map]; omega)
    subst er_
    refine ow_val rfl rfl (by decide) (e_load rfl flat46 (s8.cell 0 rfl (Blk.reads rfl))) ?_
    refine stepL_nil (fun _ => (s8.pickD [3] (idxB 4 rfl (by decide)))) ?_
    refine al_take 7 #[true, true, true, true, true, true, true, true, false, true, false, false, true, true, true, true, false, false, false, false] rfl rfl (by decide) (by kernel_rfl) (fun _ _ _ h => h) (ya rfl (fun w_ s_ => e_idxS rfl rfl slt46 (by omega) (by omega))) (s8.pickD [3] (idxB 4 rfl (by decide))) ?_
    refine al_one 8 #[true, true, true, true, true, true, true, true, true, true, false, false, true, true, true, true, false, false, false, false] (by kernel_rfl) rfl ?_
    refine ow_val rfl rfl (by decide) (e_load rfl flat34 (s8.slCell 1 rfl hvr)) ?_
    refine stepL_nil (fun _ => (s8.pickD [3] (idxB 4 rfl (by decide)))) ?_
    refine al_take 10 #[true, true, true, true, true, true, true, true, true, true, true, false, true, true, true, true, false, false, false, false] rfl rfl (by decide) (by kernel_rfl) (fun _ _ _ h => h) (ya rfl (fun w_ s_ => e_idxR rfl rfl slt34 (by omega) (by omega))) (s8.pickD [3] (idxB 4 rfl (by decide))) ?_
    refine al_one 11 #[true, true, true, true, true, true, true, true, true, true, true, true, true, true, true, true, false, false, false, false] (by kernel_rfl) rfl ?_
    refine ow_val rfl rfl (by decide) (e_load rfl flat2 (row_cell (row_two s8 2 rfl rx hvr) (i := ((0 : Nat) : Int)) (castL_get (i := 0) (by omega)))) ?_
    refine stepL_nil (fun _ => (s8.pickD [3] (idxB 4 rfl (by decide)))) ?_
    refine al_take 16 #[true, true, true, true, true, true, true, true, true, true, true, true, true, true, true, true, true, false, false, false] rfl rfl (by decide) (by kernel_rfl) (fun _ _ _ h => h) (ya rfl (fun w_ s_ => e_shr rfl rfl (by omega))) (s8.pickD [3] (idxB 4 rfl (by decide))) ?_
    refine al_take 17 #[true, true, true, true, true, true, true, true, true, true, true, true, true, true, true, true, true, true, false, false] rfl rfl (by decide) (by kernel_rfl) (fun _ _ _ h => h) (ya rfl (fun w_ s_ => e_and rfl rfl)) (s8.pickD [3] (idxB 4 rfl (by decide))) ?_
    refine al_take 18 #[true, true, true, true, true, true, true, true, true, true, true, true, true, true, true, true, true, true, true, false] rfl rfl (by decide) (by kernel_rfl) (fun _ _ _ h => h) (ya rfl (fun w_ s_ => (e_eql (k := .i64) (a := bitI (((R.getD 0 []).getD 0 0 : Nat) : Int) ((rd_T201 ms 0).f0 - 1)) (b := 1) rfl rfl).trans (by rw [bitI_eq r8 (by omega) (by omega)]))) (s8.pickD [3] (idxB 4 rfl (by decide))) ?_
    refine al_take 19 #[true, true, true, true, true, true, true, true, true, true, true, true, true, true, true, true, true, true, true, true] rfl rfl (by decide) (by kernel_rfl) (fun _ _ _ h => h) (ya rfl (fun w_ s_ => e_assign rfl)) (s8.pickD [3] (idxB 4 rfl (by decide))) ?_
    refine al_done (by kernel_rfl) ?_
    refine then_normal ?_
    refine cw_ret ?_
    refine ends1 (v := .bool (Nat.testBit ((R.getD 0 []).getD 0 0) ((rd_T201 ms 0).f0 - 1).toNat)) (.inl rfl) Try.results152 rfl ?_
    exact ⟨by rw [← hR]; rfl, s8.toBelow 3 rfl⟩
theorem takes_calls (k : Nat) (s : ByteArray) (ms : List S201) (pa : Addr) (A : Option Addr) (c : Nat) (w : World) (hC : Kd.C k201 w A ms.length ms) (hp : w.cell? (pa.add 0) = some (.slice A ms.length c)) (hW : WFm ms) (hl1 : 1 ≤ ms.length) (hl4 : ms.length ≤ 4) (hG : goodB k s = true) (hM : spec_l01Matched.f 60 s = some true) :
    Calls Try.prog 68 #[.pointer (some pa), .string s] w fun e w' => e = .returned (.bool (endN ms (ofN ms k s))) ∧ Below w.heap.size w w' := by
  have s0 := Sat.start w
  refine calls_of_cw (args := [.pointer (some pa), .string s]) Try.func68 Try.ntmps68 rfl (by simp) ?_
  refine cw_seq ?_
  refine cw_region ?_
  refine ow_val rfl rfl (by decide) (e_assign rfl) ?_
  refine ow_nil ?_
  refine then_normal ?_
  refine cw_seq ?_
  refine cw_region ?_
  refine ow_val rfl rfl (by decide) (e_move rfl) ?_
  refine o_call enter141 rfl (by decide) ?_
  refine (spec_l01Matched.calls 60 s true _ hM).mono ?_
  rintro e_ w1 ⟨rfl, hb_⟩
  have s1 := s0.below hb_
  refine ⟨_, rfl, ?_⟩
  refine ow_val rfl rfl (by decide) (e_move rfl) ?_
  refine ow_in rfl rfl ?_
  refine ow_val rfl rfl (by decide) (e_move rfl) ?_
  refine ow_in rfl rfl ?_
  refine ow_val rfl rfl (by decide) (e_move rfl) ?_
  refine ow_in rfl rfl ?_
  refine o_call enter152 rfl (by decide) ?_
  refine (ends_calls k s ms pa A c _ (Kd.C_below hC (s1.toBelow 0 rfl)) (s1.oldCell 0 rfl hp) hW hl1 hl4 hG).mono ?_
  rintro e_ w2 ⟨rfl, hb_⟩
  have s2 := s1.below hb_
  refine ⟨_, rfl, ?_⟩
  refine ow_val rfl rfl (by decide) (e_pick rfl) ?_
  refine ow_val rfl rfl (by decide) (e_assign rfl) ?_
  refine ow_nil ?_
  refine then_normal ?_
  refine cw_ret ?_
  refine ends1 (v := .bool (endN ms (ofN ms k s))) (.inl rfl) Try.results68 rfl ?_
  exact ⟨rfl, s2.toBelow 0 rfl⟩
theorem spw_calls (ms : List S201) (n : Int) (A : Option Addr) (c : Nat) (w : World) (hC : Kd.C k201 w A ms.length ms) :
    Calls Try.prog 16 #[.agg #[.slice A ms.length c], .int .i64 n] w fun e w' => e = .returned (.tuple #[.int .i64 (spw ms n).1, .int .i64 (spw ms n).2]) ∧ Below w.heap.size w w' := by
  have s0 := Sat.start w
  refine calls_of_cw (args := [.agg #[.slice A ms.length c], .int .i64 n]) Try.func16 Try.ntmps16 rfl (by simp) ?_
  refine cw_seq ?_
  refine cw_region ?_
  refine o_box rfl s0 (by decide) (fun bp w1 s1 => ?_)
  refine ow_val rfl rfl (by decide) (e_assign rfl) ?_
  refine ow_val rfl rfl (by decide) (e_assign rfl) ?_
  refine ow_nil ?_
  refine then_normal ?_
  refine cw_seq ?_
  refine cw_seq ?_
  refine cw_region ?_
  refine o_call enter64 rfl (by decide) ?_
  refine (l07Ok_calls ms ⟨bp, 0, none⟩ A c _ (Kd.C_below hC (s1.toBelow 1 rfl)) (s1.cell 0 rfl (Blk.reads (i := 0) rfl))).mono ?_
  rintro e_ w2 ⟨rfl, hb_⟩
  have s2 := s1.below hb_
  refine ⟨_, rfl, ?_⟩
  refine ow_val rfl rfl (by decide) (e_not rfl) ?_
  refine ow_nil ?_
  refine then_normal ?_
  refine cw_cond rfl (fun c3 => ?_) (fun c3 => ?_)
  · skip
    have hpk : ¬ specOk ms = true := (by simpa using c3)
    refine cw_seq ?_
    refine cw_region ?_
    refine ow_val rfl rfl (by decide) (e_assign rfl) ?_
    refine ow_val rfl rfl (by decide) (e_assign rfl) ?_
    refine ow_nil ?_
    refine then_normal ?_
    refine cw_ret ?_
    refine then_ret ?_
    refine ends2 (v := .int .i64 0) (v' := .int .i64 1) (.inl rfl) Try.results16 rfl rfl ?_
    exact ⟨by rw [spw, if_neg hpk], s2.toBelow 1 rfl⟩
  · skip
    have hpk : specOk ms = true := (by simpa using c3)
    have hpk2 : progOk ms = true := (by rw [← spec_ok]; exact hpk)
    have hlen := progOk_len hpk2
    have hWm := wfm_of hpk2
    refine cw_skip ?_
    refine then_normal ?_
    refine cw_seq ?_
    refine cw_seq ?_
    refine cw_region ?_
    refine ow_val rfl rfl (by decide) (e_move rfl) ?_
    refine o_call enter65 rfl (by decide) ?_
    refine (l00In_calls _ _ _ _).mono ?_
    rintro e_ w_1 ⟨rfl, rfl⟩
    refine ⟨_, rfl, ?_⟩
    refine ow_val rfl rfl (by decide) (e_not rfl) ?_
    refine ow_nil ?_
    refine then_normal ?_
    refine cw_cond rfl (fun c4 => ?_) (fun c4 => ?_)
    · skip
      have hin : ¬ inR n 0 5 = true := (by simpa using c4)
      refine cw_seq ?_
      refine cw_region ?_
      refine ow_val rfl rfl (by decide) (e_assign rfl) ?_
      refine ow_val rfl rfl (by decide) (e_assign rfl) ?_
      refine ow_nil ?_
      refine then_normal ?_
      refine cw_ret ?_
      refine then_ret ?_
      refine ends2 (v := .int .i64 0) (v' := .int .i64 2) (.inl rfl) Try.results16 rfl rfl ?_
      exact ⟨by rw [spw, if_pos hpk, if_neg hin], s2.toBelow 1 rfl⟩
    · skip
      have hin : inR n 0 5 = true := (by simpa using c4)
      have hn5 := inR_iff.1 hin
      have hcb := cntM_bd n
      have hgi := good_i hin
      refine cw_skip ?_
      refine then_normal ?_
      refine cw_seq ?_
      refine cw_region ?_
      refine ow_val rfl rfl (by decide) (e_assign rfl) ?_
      refine ow_nil ?_
      refine then_normal ?_
      refine cw_seq ?_
      refine cw_region ?_
      refine ow_val rfl rfl (by decide) (e_move rfl) ?_
      refine o_call enter66 rfl (by decide) ?_
      refine (spec_CountMatched.calls 200 n (cntM n).1 0 _ hgi.1).mono ?_
      rintro e_ w5 ⟨rfl, hb_⟩
      have s5 := s2.below hb_
      refine ⟨_, rfl, ?_⟩
      refine ow_val rfl rfl (by decide) (e_move rfl) ?_
      refine ow_val rfl rfl (by decide) (e_extract rfl rfl) ?_
      refine ow_val rfl rfl (by decide) (e_extract rfl rfl) ?_
      refine ow_val rfl rfl (by decide) (e_assign rfl) ?_
      refine ow_val rfl rfl (by decide) (e_assign rfl) ?_
      refine ow_nil ?_
      refine then_normal ?_
      refine cw_seq ?_
      refine cw_seq ?_
      refine cw_region ?_
      refine ow_val rfl rfl (by decide) (e_assign rfl) ?_
      refine ow_nil ?_
      refine then_normal ?_
      refine cw_block ?_
      refine cw_loop (fun μ_ f_ w_ => ∃ i : Nat, μ_ = (cntM n).1.toNat - i ∧ f_ 1 = .int .i64 n ∧ f_ 2 = .pointer (some ⟨bp, 0, none⟩) ∧ f_ 6 = .int .i64 (sw ms n i) ∧ f_ 7 = .int .i64 (cntM n).1 ∧ f_ 9 = .int .i64 (i : Int) ∧ (i ≤ (cntM n).1.toNat) ∧ Sat w w_ [Blk bp 30 [.slice A ms.length c], Old w]) (cntM n).1.toNat ⟨0, rfl, rfl, rfl, rfl, rfl, rfl, Nat.zero_le _, s5⟩ ?_
      intro k_ f_ w_ h_
      obtain ⟨i, rfl, e6_1, e6_2, e6_6, e6_7, e6_9, hi, s6⟩ := h_
      skip
      refine cw_seq ?_
      refine cw_seq ?_
      refine cw_region ?_
      refine ow_val rfl rfl (by decide) (e_move e6_9) ?_
      refine ow_val rfl rfl (by decide) (e_move e6_7) ?_
      refine ow_val rfl rfl (by decide) (e_lss rfl rfl) ?_
      refine ow_nil ?_
      refine then_normal ?_
      refine cw_cond rfl (fun c7 => ?_) (fun c7 => ?_)
      · skip
        have hlt : (i : Int) < (cntM n).1 := of_decide_eq_true c7
        have hswb := sw_bd ms n i
        refine cw_skip ?_
        refine then_normal ?_
        refine cw_seq ?_
        refine cw_block ?_
        refine cw_seq ?_
        refine cw_region ?_
        refine ow_val rfl rfl (by decide) (e_move e6_1) ?_
        refine ow_val rfl rfl (by decide) (e_move e6_9) ?_
        refine o_call enter67 rfl (by decide) ?_
        refine (spec_MatchedAt.calls 200 n (i : Int) (matM n (i : Int)).1 0 _ (hgi.2.2 i (by omega)).1).mono ?_
        rintro e_ w8 ⟨rfl, hb_⟩
        have s8 := s6.below hb_
        refine ⟨_, rfl, ?_⟩
        refine ow_val rfl rfl (by decide) (e_move rfl) ?_
        refine ow_val rfl rfl (by decide) (e_extract rfl rfl) ?_
        refine ow_val rfl rfl (by decide) (e_extract rfl rfl) ?_
        refine ow_val rfl rfl (by decide) (e_assign rfl) ?_
        refine ow_val rfl rfl (by decide) (e_assign rfl) ?_
        refine ow_nil ?_
        refine then_normal ?_
        refine cw_seq ?_
        refine cw_region ?_
        refine ow_val rfl rfl (by decide) (e_move rfl) ?_
        refine o_call enter68 (mapc e6_2 (mapc rfl rfl)) (by decide) ?_
        refine (takes_calls 5 (matM n (i : Int)).1 ms ⟨bp, 0, none⟩ A c _ (Kd.C_below hC (s8.toBelow 1 rfl)) (s8.cell 0 rfl (Blk.reads (i := 0) rfl)) hWm (by omega) (by omega) (hgi.2.2 i (by omega)).2.2 (hgi.2.2 i (by omega)).2.1).mono ?_
        rintro e_ w9 ⟨rfl, hb_⟩
        have s9 := s8.below hb_
        refine ⟨_, rfl, ?_⟩
        refine ow_nil ?_
        refine then_normal ?_
        refine cw_cond rfl (fun c10 => ?_) (fun c10 => ?_)
        · skip
          have hcan : (endN ms (ofN ms 5 (matM n (i : Int)).1) = true) = True := (by simpa using c10)
          refine cw_region ?_
          refine ow_val rfl rfl (by decide) (e_move e6_6) ?_
          refine o_addI rfl rfl (by omega) (by omega) (by decide) ?_
          refine ow_val rfl rfl (by decide) (e_assign rfl) ?_
          refine ow_nil ?_
          refine inb_normal ?_
          refine then_normal ?_
          refine cw_region ?_
          refine ow_val rfl rfl (by decide) (e_move e6_9) ?_
          refine o_addI rfl rfl (by omega) (by omega) (by decide) ?_
          refine ow_val rfl rfl (by decide) (e_assign rfl) ?_
          refine ow_nil ?_
          refine then_normal ?_
          exact ⟨_, by omega, i + 1, rfl, e6_1, e6_2, (Eq.trans rfl (congrArg (Value.int .i64) (by rw [sw]; simp only [hcan, if_true, if_false]))), e6_7, rfl, by omega, s9⟩
        · skip
          have hcan : (endN ms (ofN ms 5 (matM n (i : Int)).1) = true) = False := (by simpa using c10)
          refine cw_skip ?_
          refine inb_normal ?_
          refine then_normal ?_
          refine cw_region ?_
          refine ow_val rfl rfl (by decide) (e_move e6_9) ?_
          refine o_addI rfl rfl (by omega) (by omega) (by decide) ?_
          refine ow_val rfl rfl (by decide) (e_assign rfl) ?_
          refine ow_nil ?_
          refine then_normal ?_
          exact ⟨_, by omega, i + 1, rfl, e6_1, e6_2, (Eq.trans e6_6 (congrArg (Value.int .i64) (by rw [sw]; simp only [hcan, if_true, if_false]))), e6_7, rfl, by omega, s9⟩
      · skip
        have hge : i = (cntM n).1.toNat := (by have := of_decide_eq_false c7; omega)
        refine cw_exit ?_
        refine then_exit ?_
        refine then_exit ?_
        refine inb_exit ?_
        refine then_normal ?_
        refine cw_seq ?_
        refine cw_region ?_
        refine ow_val rfl rfl (by decide) (e_move e6_6) ?_
        refine ow_val rfl rfl (by decide) (e_assign rfl) ?_
        refine ow_val rfl rfl (by decide) (e_assign rfl) ?_
        refine ow_nil ?_
        refine then_normal ?_
        refine cw_ret ?_
        refine ends2 (v := .int .i64 (sw ms n i)) (v' := .int .i64 0) (.inl rfl) Try.results16 rfl rfl ?_
        exact ⟨by rw [spw, if_pos hpk, if_pos hin, ← hge], s6.toBelow 1 rfl⟩
end Go.Proofs.Ytjkohjdiddhpcaa.My
set_option linter.unusedVariables false
set_option linter.unusedSimpArgs false
namespace Go.Proofs.Ytjkohjdiddhpcaa.My
open Go.Sl Go.RowKit Go.Proofs.YtjkohjdiddhpcaaW.PrintWords Go.Proofs.YtjkohjdiddhpcaaW.PrintLast Go.Proofs.YtjkohjdiddhpcaaW.PrintMore Go.Proofs.Ytjkohjdiddhpcaa.PFnExactCountProgramWords
theorem or_fold {α : Type} (p : α → Bool) (g : α → Nat) (y : Nat) : ∀ (l : List α) (a : Nat), (l.foldl (fun acc x => if p x = true then acc ||| g x else acc) a).testBit y = (a.testBit y || l.any fun x => p x && (g x).testBit y)
  | [], a => by simp
  | x :: l, a => by
    rw [List.foldl_cons, or_fold p g y l, List.any_cons]
    cases hp : p x
    · simp
    · simp [Nat.testBit_or, Bool.or_assoc]
theorem orRow_bit (q : Nat) (fr : List Nat) (y : Nat) : (orRow q fr).testBit y = (List.range fr.length).any fun e => q.testBit e && (fr.getD e 0).testBit y := by
  unfold orRow
  rw [or_fold (fun x => q.testBit x) (fun x => fr.getD x 0)]
  simp
theorem setG_bit (mt : S204 → ByteArray → Bool) (ls : List S204) (u : Nat) (f : ByteArray) (y : Nat) : (setG mt ls u f).testBit y = ls.any fun l => (u.testBit l.f0.toNat && mt l f) && (2 ^ l.f1.toNat).testBit y := by
  have h := or_fold (fun l : S204 => u.testBit l.f0.toNat && mt l f) (fun l => 2 ^ l.f1.toNat) y ls 0
  rw [Nat.zero_testBit, Bool.false_or] at h
  exact h
theorem row_bit (ms : List S201) (x : ByteArray) (inn : List (List Nat)) (e y : Nat) : ∀ (ls : List S204) (row : List Nat), (∀ l ∈ ls, l.f0.toNat < row.length) → ((ls.foldl (rowStepN ms x inn) row).getD e 0).testBit y = ((row.getD e 0).testBit y || ls.any fun l => (decide (l.f0.toNat = e) && takesL ms x inn l) && (2 ^ l.f1.toNat).testBit y)
  | [], row, _ => by simp
  | l :: ls, row, h => by
    have hl := h l List.mem_cons_self
    rw [List.foldl_cons, row_bit ms x inn e y ls _ (fun z hz => by rw [rowStepN_len]; exact h z (List.mem_cons_of_mem _ hz)), List.any_cons]
    cases ht : takesL ms x inn l
    · simp [rowStepN, ht]
    · by_cases he : l.f0.toNat = e
      · subst he
        have : (row.set l.f0.toNat (row.getD l.f0.toNat 0 ||| 2 ^ l.f1.toNat)).getD l.f0.toNat 0 = row.getD l.f0.toNat 0 ||| 2 ^ l.f1.toNat := by
          rw [List.getD_eq_getElem?_getD, List.getElem?_set_self hl]; rfl
        simp only [rowStepN, ht, if_true]
        rw [this, Nat.testBit_or]
        simp [Bool.or_assoc]
      · have : (row.set l.f0.toNat (row.getD l.f0.toNat 0 ||| 2 ^ l.f1.toNat)).getD e 0 = row.getD e 0 := by
          rw [List.getD_eq_getElem?_getD, List.getElem?_set_ne he, ← List.getD_eq_getElem?_getD]
        simp only [rowStepN, ht, if_true]
        rw [this]
        simp [he]
/-- What the program's walk makes of a set is what the told relation makes of it. -/
theorem set_eq (ms : List S201) (mt : S204 → ByteArray → Bool) (f : ByteArray) (inn : List (List Nat)) (md : S201) (hl : ∀ l ∈ md.f1, l.f0.toNat < md.f0.toNat) (hm : ∀ l ∈ md.f1, mt l f = takesL ms f inn l) (u : Nat) : orRow u (frowN ms f inn md) = setG mt md.f1 u f := by
  apply Nat.eq_of_testBit_eq
  intro y
  rw [orRow_bit, setG_bit, Bool.eq_iff_iff, List.any_eq_true, List.any_eq_true]
  have hlen : (frowN ms f inn md).length = md.f0.toNat := by rw [frowN, rowFold_len, List.length_replicate]
  have hbit : ∀ e, ((frowN ms f inn md).getD e 0).testBit y = (((List.replicate md.f0.toNat 0).getD e 0).testBit y || md.f1.any fun l => (decide (l.f0.toNat = e) && takesL ms f inn l) && (2 ^ l.f1.toNat).testBit y) := fun e =>
    row_bit ms f inn e y md.f1 _ (fun l hl' => by rw [List.length_replicate]; exact hl l hl')
  have hz : ∀ e, ((List.replicate md.f0.toNat 0).getD e 0).testBit y = false := fun e => by
    rw [List.getD_eq_getElem?_getD, List.getElem?_replicate]
    split <;> simp
  constructor
  · rintro ⟨e, he, h⟩
    rw [Bool.and_eq_true, hbit, hz, Bool.false_or, List.any_eq_true] at h
    obtain ⟨h1, l, hl', h2⟩ := h
    rw [Bool.and_eq_true, Bool.and_eq_true, decide_eq_true_eq] at h2
    refine ⟨l, hl', ?_⟩
    rw [hm l hl', h2.1.1, h1, h2.1.2, h2.2]
    rfl
  · rintro ⟨l, hl', h⟩
    rw [Bool.and_eq_true, Bool.and_eq_true] at h
    refine ⟨l.f0.toNat, List.mem_range.2 (by rw [hlen]; exact hl l hl'), ?_⟩
    rw [Bool.and_eq_true, hbit, hz, Bool.false_or, List.any_eq_true]
    refine ⟨h.1.1, l, hl', ?_⟩
    rw [← hm l hl', h.1.2, h.2]
    simp
theorem fold_get (ms : List S201) (k : Nat) (mt : S204 → ByteArray → Bool) {m : Nat} (hW : WFm ms) (hm : m < ms.length) : ∀ (fs : List ByteArray) (Q : List (List Nat)), RelN ms Q → (∀ f ∈ fs, ∀ l ∈ (rd_T201 ms (m : Int)).f1, mt l f = takesL ms f (innN ms k f) l) →
    ((fs.foldl (ofStep ms k) Q).getD m []) = (Q.getD m []).map fun q => fs.foldl (setG mt (rd_T201 ms (m : Int)).f1) q
  | [], Q, _, _ => by simp
  | f :: fs, Q, hQ, h => by
    have hR : RelN ms (ofStep ms k Q f) := compN_rel hQ (facN_rel hW _ _)
    rw [List.foldl_cons, fold_get ms k mt hW hm fs _ hR fun g hg => h g (List.mem_cons_of_mem _ hg)]
    have e : (ofStep ms k Q f).getD m [] = (Q.getD m []).map fun q => setG mt (rd_T201 ms (m : Int)).f1 q f := by
      unfold ofStep
      rw [compN_get (by rw [hQ.len]; exact hm)]
      apply List.map_congr_left
      intro q _
      rw [facN_get hm]
      refine set_eq ms mt f _ _ (fun l hl => ?_) (h f List.mem_cons_self) q
      have := link_mem hW hm l hl
      omega
    rw [e, List.map_map]
    rfl
def ActOk (ms : List S201) : Prop := ∀ i : Nat, i < ms.length → ∀ l ∈ (rd_T201 ms (i : Int)).f1, (l.f2.size = 1 ∨ l.f2.size = 2) ∧ 0 ≤ l.f3 ∧ l.f3 < ms.length
theorem act_ok {ms : List S201} (h : progOk ms = true) : ActOk ms := by
  intro i hi l hl
  have hx := rd201_mem (ms := ms) (i := (i : Int)) (by omega) (by omega)
  unfold progOk at h
  rw [Bool.and_eq_true, Bool.not_eq_true'] at h
  have h1 := List.any_eq_false.1 h.2 _ hx
  have h1 : moduleBad (ms.length : Int) (rd_T201 ms (i : Int)) = false := by simpa using h1
  unfold moduleBad at h1
  rw [Bool.or_eq_false_iff, Bool.or_eq_false_iff] at h1
  have h2 := List.any_eq_false.1 h1.2.2 l hl
  have h2 : linkBad (ms.length : Int) (rd_T201 ms (i : Int)).f0 l = false := by simpa using h2
  unfold linkBad at h2
  simp only [Bool.or_eq_false_iff, Bool.not_eq_false'] at h2
  obtain ⟨⟨a1, a2, a3⟩, h3⟩ := h2
  have b3 := inR_iff.1 a3
  refine ⟨?_, by omega, by omega⟩
  cases hb : brk l.f2
  · rw [hb] at h3
    simp at h3
    exact .inl (lettr_size h3.1)
  · exact .inr (brk_size hb)
theorem none_get {ms : List S201} {m : Nat} (h : m < ms.length) : (noneN ms).getD m [] = (List.range (rd_T201 ms (m : Int)).f0.toNat).map fun x => 2 ^ x := by
  simp [noneN, rd_T201, List.getD_eq_getElem?_getD, h]
theorem of_eq (ms : List S201) (hW : WFm ms) (hA : ActOk ms) : ∀ (k : Nat) (s : ByteArray), goodB k s = true → ∀ m : Nat, m < ms.length → ∀ e : Nat, e < (rd_T201 ms (m : Int)).f0.toNat → ((ofN ms k s).getD m []).getD e 0 = aftG (mtc ms k) ms (m : Int) (2 ^ e) (facI s)
  | 0, s, h => by cases h
  | k + 1, s, h => fun m hm e he => by
    obtain ⟨hf, hs, hx⟩ := good_fac h
    have hmt : ∀ f ∈ facI s, ∀ l ∈ (rd_T201 ms (m : Int)).f1, mtc ms (k + 1) l f = takesL ms f (innN ms k f) l := fun f hfm l hl => by
      obtain ⟨hsz, h30, h31⟩ := hA m hm l hl
      have hf1 := (facI_mem hfm).1
      by_cases hc : f.size = 1 ∨ ¬ (l.f2.size = 2)
      · rw [mtc_eq hc]
        rcases hsz with h1 | h2
        · rw [takesL, if_pos h1]
        · have hfs : f.size = 1 := hc.resolve_right (fun hn => hn h2)
          rw [takesL, if_neg (by omega), if_neg (by omega)]
          apply beq_false_of_ne
          intro heq
          rw [ByteArray.toList_eq, ByteArray.toList_eq] at heq
          have h5 := congrArg List.length heq
          rw [Array.length_toList, Array.length_toList] at h5
          have h6 : l.f2.size = f.size := h5
          omega
      · rw [mtc_in hc]
        have h2 : l.f2.size = 2 := Classical.byContradiction fun hn => hc (.inr hn)
        have hgt : f.size > 1 := by
          have : ¬ f.size = 1 := fun hn => hc (.inl hn)
          omega
        rw [takesL, if_neg (by omega), if_pos hgt]
        congr 1
        have e3 : ((l.f3.toNat : Nat) : Int) = l.f3 := by omega
        have hnd := hW.node l.f3 h30 h31
        have ih := of_eq ms hW hA k (f.extract 1 (f.size - 1)) ((hx f hfm).resolve_left (by omega)) l.f3.toNat (by omega) 0 (by rw [e3]; omega)
        rw [e3] at ih
        unfold canG innN
        rw [if_pos hgt, ih]
        try rfl
    rw [ofN_succ, fold_get ms k (mtc ms (k + 1)) hW hm (facI s) _ (noneN_rel hW) hmt, none_get hm]
    simp [List.getD_eq_getElem?_getD, he, aftG]
theorem takes_eq {ms : List S201} (h : progOk ms = true) {s : ByteArray} (hg : goodB 5 s = true) : canG (mtc ms 5) ms 0 (facI s) = endN ms (ofN ms 5 s) := by
  have hl := progOk_len h
  have hW := wfm_of h
  have hn := hW.node 0 (by omega) (by omega)
  have := of_eq ms hW (act_ok h) 5 s hg 0 (by omega) 0 (by show 0 < (rd_T201 ms 0).f0.toNat; omega)
  unfold canG endN
  rw [this]
  try rfl
theorem cw_sw {ms : List S201} (h : progOk ms = true) {n : Int} (hn : inR n 0 5 = true) : ∀ i : Nat, i ≤ (cntM n).1.toNat → cw ms n i = sw ms n i
  | 0, _ => rfl
  | i + 1, hi => by
    rw [cw, sw, cw_sw h hn i (by omega), takes_eq h ((good_i hn).2.2 i (by omega)).2.2]
/-- The program's answer is the reference's. -/
theorem cpw_spw (ms : List S201) (n : Int) : cpw ms n = spw ms n := by
  unfold cpw spw
  rw [spec_ok]
  by_cases h : progOk ms = true
  · rw [if_pos h, if_pos h]
    by_cases hn : inR n 0 5 = true
    · rw [if_pos hn, if_pos hn, cw_sw h hn _ (Nat.le_refl _)]
    · rw [if_neg hn, if_neg hn]
  · rw [if_neg h, if_neg h]
end Go.Proofs.Ytjkohjdiddhpcaa.My
