import Derived.Test.YtjkohjdiddhpcaaCa
import Derived.Test.YtjkohjdiddhpcaaX7
import Derived.Test.YtjkohjdiddhpcaaCh
import Derived.Test.YtjkohjdiddhpcaaXe
import Derived.Test.YtjkohjdiddhpcaaSm
import Derived.Test.YtjkohjdiddhpcaaX1
import Derived.Test.YtjkohjdiddhpcaaRows
import Derived.WalkKit
import Derived.ProofKit
import Derived.OpenShut
import Derived.ShutString
import Derived.ChangeOld
import Derived.Below
import Derived.SizedLaws
import Derived.Deep.Slices
import Derived.Deep.Fields
import Derived.ChangeSame
import Derived.Carry
/- Walks of the given code, and plain lemmas, for the law FnExactCountProgramWords (part Ci). -/
set_option linter.unusedVariables false
set_option linter.unusedSimpArgs false
namespace Go.Proofs.Ytjkohjdiddhpcaa.My
open Go.Sl Go.RowKit Go.Proofs.YtjkohjdiddhpcaaW.PrintWords Go.Proofs.YtjkohjdiddhpcaaW.PrintLast Go.Proofs.YtjkohjdiddhpcaaW.PrintMore Go.Proofs.Ytjkohjdiddhpcaa.PFnExactCountProgramWords
theorem flat22 : flatB Try.prog 22 = true := by kernel_rfl
theorem agg197 : aggN Try.prog 197 = some 2 := by kernel_rfl
theorem zero30 : zeroOf Try.prog 30 = some (.agg #[.slice none 0 0] : Value) := by kernel_rfl
theorem zero197 : zeroOf Try.prog 197 = some (.agg #[.int .i64 0, .slice none 0 0] : Value) := by kernel_rfl
theorem field24_0 : fieldB Try.prog 24 0 = some 0 := by kernel_rfl
theorem slt22 : SlT Try.prog 22 197 2 32 (.agg #[.int .i64 0, .slice none 0 0]) := ⟨Try.underlying22, by kernel_rfl, zero197, rfl, by decide⟩
theorem enter69 : enterB Try.prog 69 = true := by kernel_rfl
theorem enter153 : enterB Try.prog 153 = true := by kernel_rfl
def toL (y : S321) : S204 := ⟨y.f0, y.f1, y.f2, y.f3⟩
def toM (x : S197) : S201 := ⟨x.f0, x.f1.map toL⟩
theorem w64 {x : Int} (h0 : 0 ≤ x) (h1 : x ≤ 1000000000000) : wrap64 x = x := by unfold wrap64; omega
theorem links_l0 (l : List S321) (hl : l.length ≤ 1048576) : ∀ (r i : Nat), i + r = l.length → laws_toLinkS.l0 (r + 1) l ((l.take i).map toL ++ List.replicate r z204) (i : Int) = some (l.map toL)
  | 0, i, h => by
    rw [laws_toLinkS.l0, if_neg (by omega)]
    simp [show i = l.length by omega]
  | r + 1, i, h => by
    have hi : i < l.length := by omega
    have hlen : ((l.take i).map toL).length = i := by simp; omega
    rw [laws_toLinkS.l0, if_pos (by omega), if_pos (by omega)]
    simp only [laws_toLink.f, Option.bind_some]
    rw [if_pos (by simp; omega), w64 (by omega) (by omega)]
    have e : (((l.take i).map toL ++ List.replicate (r + 1) z204).set ((i : Int)).toNat (⟨(rd_T321 l (i : Int)).f0, (rd_T321 l (i : Int)).f1, (rd_T321 l (i : Int)).f2, (rd_T321 l (i : Int)).f3⟩ : S204)) = (l.take (i + 1)).map toL ++ List.replicate r z204 := by
      rw [Int.toNat_natCast, List.set_append, if_neg (by omega), hlen, Nat.sub_self, List.replicate_succ, List.set_cons_zero, take_map_succ (z := z321) hi, List.append_assoc]
      rfl
    rw [e]
    exact links_l0 l hl r (i + 1) (by omega)
theorem links_f (l : List S321) (hl : l.length ≤ 1048576) : laws_toLinkS.f (l.length + 1) l = some (l.map toL) := by
  rw [laws_toLinkS.f, if_pos (by omega), if_pos (by omega)]
  have := links_l0 l hl l.length 0 (by omega)
  simpa using this
theorem module_f (x : S197) (hl : x.f1.length ≤ 1048576) : laws_toModule.f (x.f1.length + 1) x.f0 x.f1 = some (x.f0, x.f1.map toL) := by
  rw [laws_toModule.f, links_f _ hl]; rfl
def enc4 (y : S204) : List Value := [.int .i64 y.f0, .int .i64 y.f1, .string y.f2, .int .i64 y.f3]
theorem flat_get {α : Type} {enc : α → List Value} {s : Nat} (he : ∀ x, (enc x).length = s) : ∀ (xs : List α) (i j : Nat), j < s → (xs.flatMap enc)[i * s + j]? = (xs[i]?).bind fun y => (enc y)[j]?
  | [], i, j, hj => by simp
  | x :: xs, 0, j, hj => by
    rw [List.flatMap_cons, Nat.zero_mul, Nat.zero_add, List.getElem?_append_left (by rw [he]; exact hj)]; rfl
  | x :: xs, i + 1, j, hj => by
    have e : (i + 1) * s + j = (enc x).length + (i * s + j) := by rw [he, Nat.succ_mul]; omega
    rw [List.flatMap_cons, e, List.getElem?_append_right (by omega), Nat.add_sub_cancel_left, flat_get he xs i j hj]
    rfl
theorem flat_len {α : Type} {enc : α → List Value} {s : Nat} (he : ∀ x, (enc x).length = s) (xs : List α) : (xs.flatMap enc).length = xs.length * s := by
  induction xs with
  | nil => simp
  | cons x xs ih => rw [List.flatMap_cons, List.length_append, he, ih, List.length_cons, Nat.succ_mul]; omega
theorem kd_sl4 {w W : World} {ok : Nat → Prop} {v : Value} {xs : List S204} (h : Kd.R k204 204 W w.heap.size ok v xs) : ∃ A c, v = .slice A xs.length c ∧ Part w W [Sl 204 4 (.slice A xs.length c) xs.length (xs.flatMap enc4)] := by
  obtain ⟨A, c, rfl, hlc, hC⟩ := Kd.R_reads h
  refine ⟨A, c, rfl, ?_⟩
  obtain ⟨h0, inner, ho, hr⟩ := h
  have hil : inner.length = xs.length * 4 := ho.1
  have he : ∀ x, (enc4 x).length = 4 := fun _ => rfl
  have hin : inner = xs.flatMap enc4 := by
    apply List.ext_getElem?
    intro q
    by_cases hq : q < xs.length * 4
    · obtain ⟨i, j, hj, hi, rfl⟩ : ∃ i j, j < 4 ∧ i < xs.length ∧ q = i * 4 + j := ⟨q / 4, q % 4, by omega, by omega, by omega⟩
      obtain ⟨ad, cs, e, hcl, hK, hc⟩ := Kd.C_get hC z204 (i : Int) (by omega) (by omega)
      obtain rfl := k204_open hK
      rcases ho.2 with ⟨h1, h2⟩ | ⟨g, cap, cur, h1, h2, h3, h4, h5, h6, h7⟩
      · omega
      · injection h1 with h1 _ _
        rw [h1] at e
        injection e with e
        subst e
        rw [flat_get he xs i j hj, List.getElem?_eq_getElem hi, Option.bind_some]
        have hx : xs.getD ((i : Int)).toNat z204 = xs[i] := by simp [List.getD_eq_getElem?_getD, hi]
        have hu : ∃ u, (enc4 (xs[i]))[j]? = some u := ⟨_, List.getElem?_eq_getElem (by rw [he]; exact hj)⟩
        obtain ⟨u, hu⟩ := hu
        have hcell := hc j u (by rw [hx]; exact hu)
        rw [addAt, Int.toNat_natCast, Nat.zero_add] at hcell
        have hh : cur[i * 4 + j]? = some u := by
          have hs : (k204 : Kd S204).sz = 4 := rfl
          rw [hs] at hcell
          simpa [World.cell?, h3] using hcell
        rw [← h7, List.getElem?_take, if_pos (by show i * 4 + j < xs.length * 4; omega), Array.getElem?_toList, hh, hu]
    · rw [List.getElem?_eq_none (l := inner) (by omega), List.getElem?_eq_none (by rw [flat_len he]; omega)]
  subst hin
  refine ⟨fun b => if w.heap.size ≤ b then W.heap[b]? else none, fun _ => none, fun _ => .inr rfl, Sub.refl _, (fun _ _ e => by cases e), ?_, trivial⟩
  refine ⟨hil, ?_⟩
  rcases ho.2 with ⟨h1, h2⟩ | ⟨g, cap, cur, h1, h2, h3, h4, h5, h6, h7⟩
  · exact .inl ⟨h1, h2⟩
  · exact .inr ⟨g, cap, cur, h1, by simp [h2, h3], h4, h5, h6, h7⟩
def prs (l : List S197) (vs : List Value) : List Value := (l.zip vs).flatMap fun p => [.int .i64 p.1.f0, p.2]
theorem prs_snoc (l : List S197) (vs : List Value) (x : S197) (v : Value) (h : l.length = vs.length) : prs (l ++ [x]) (vs ++ [v]) = prs l vs ++ [.int .i64 x.f0, v] := by
  unfold prs
  rw [List.zip_append h]
  simp
theorem rows_C {B w : World} {Γ : List Asn} {vs : List Value} {l : List S197} {X : List Value} {b : Nat} (hs : Sat B w Γ) (i j : Nat) (hi : Γ[i]? = some (Blk b 201 X)) (hj : Γ[j]? = some (GRows 204 4 enc4 vs (l.map fun x => x.f1.map toL))) (hX : X = prs l vs) (hv : vs.length = l.length) (hn : l.length ≤ 1048576) (hk : ∀ x ∈ l, x.f1.length ≤ 1048576) :
    Kd.C k201 w (some ⟨b, 0, none⟩) l.length (l.map toM) := by
  refine ⟨by simp, by omega, fun _ => ⟨_, rfl, fun q p hq => ?_⟩⟩
  rw [List.getElem?_map] at hq
  cases hlq : l[q]? with
  | none => rw [hlq] at hq; cases hq
  | some x =>
    rw [hlq] at hq
    obtain rfl : toM x = p := by simpa using hq
    have hql := (List.getElem?_eq_some_iff.1 hlq).1
    have hxm : x ∈ l := List.mem_of_getElem? hlq
    obtain ⟨a, c, hva, hac, hrd⟩ := hs.gAt j hj (j := q) (xs := x.f1.map toL) (by rw [List.getElem?_map, hlq]; rfl)
    have hlen : (x.f1.map toL).length = x.f1.length := List.length_map ..
    have hkx := hk x hxm
    refine ⟨[.int .i64 x.f0, .slice a (x.f1.map toL).length c], rfl, k201_mk w (toM x) hac ?_, fun r u hu => ?_⟩
    · refine ⟨rfl, by show (x.f1.map toL).length ≤ _; omega, fun h0 => ?_⟩
      obtain ⟨g, rfl, hcell⟩ := hrd h0
      refine ⟨_, rfl, fun t y hy => ⟨enc4 y, rfl, k204_mk w y, fun r u hu => ?_⟩⟩
      rw [addAt, Nat.zero_add]
      refine hcell _ u ?_
      have hr4 : r < 4 := (List.getElem?_eq_some_iff.1 hu).1
      have hy' : (x.f1.map toL)[t]? = some y := hy
      show ((x.f1.map toL).flatMap enc4)[t * 4 + r]? = some u
      rw [flat_get (s := 4) (enc := enc4) (fun _ => rfl) _ _ _ hr4, hy']
      exact hu
    · rw [addAt, Nat.zero_add]
      have hr2 : r < 2 := (List.getElem?_eq_some_iff.1 hu).1
      refine hs.cell i hi (Blk.reads ?_)
      show X[q * 2 + r]? = some u
      rw [hX, prs, flat_get (s := 2) (fun _ => rfl) _ _ _ hr2]
      have hz : (l.zip vs)[q]? = some (x, .slice a (x.f1.map toL).length c) := by
        rw [List.getElem?_zip_eq_some]; exact ⟨hlq, hva⟩
      rw [hz]
      exact hu
theorem cells2 {w : World} {p : Addr} {v0 v1 : Value} (h0 : w.cell? (p.add 0) = some v0) (h1 : w.cell? (p.add 1) = some v1) : ∀ (j : Nat) v, [v0, v1][j]? = some v → w.cell? (p.add j) = some v
  | 0, v, e => by simp at e; subst e; exact h0
  | 1, v, e => by simp at e; subst e; exact h1
  | j + 2, v, e => by simp at e
theorem set_pair {l : List S197} {vs X : List Value} {i n : Nat} {v : Value} (hi : i < l.length) (hX : X.length = l.length * 2) (hT : X.take (i * 2) = prs (l.take i) vs) (hv : vs.length = i) :
    (X.take (0 + i * 2) ++ [.int .i64 (rd_T197 l (i : Int)).f0, v] ++ X.drop (0 + i * 2 + 2)).length = l.length * 2 ∧ (X.take (0 + i * 2) ++ [.int .i64 (rd_T197 l (i : Int)).f0, v] ++ X.drop (0 + i * 2 + 2)).take ((i + 1) * 2) = prs (l.take (i + 1)) (vs ++ [v]) := by
  rw [Nat.zero_add]
  have hl1 : (X.take (i * 2)).length = i * 2 := by rw [List.length_take]; omega
  constructor
  · simp only [List.length_append, hl1, List.length_drop, List.length_cons, List.length_nil]; omega
  · have e : l.take (i + 1) = l.take i ++ [rd_T197 l (i : Int)] := by
      rw [List.take_succ_eq_append_getElem hi]
      simp [rd_T197, List.getD_eq_getElem?_getD, hi]
    rw [e, prs_snoc _ _ _ _ (by rw [List.length_take]; omega), ← hT]
    exact List.take_left' (by simp only [List.length_append, hl1, List.length_cons, List.length_nil]; omega)
set_option maxHeartbeats 1000000 in
theorem toMods_calls (l : List S197) (A : Option Addr) (c : Nat) (w : World) (hC : Kd.C k197 w A l.length l) (hn : l.length ≤ 1048576) (hk : ∀ x ∈ l, x.f1.length ≤ 1048576) :
    Calls Try.prog 69 #[.slice A l.length c] w fun e w' => ∃ b7 X vs, e = .returned (.slice (some ⟨b7, 0, none⟩) l.length l.length) ∧ X = prs l vs ∧ vs.length = l.length ∧ Part w w' [Blk b7 201 X, GRows 204 4 enc4 vs (l.map fun x => x.f1.map toL)] ∧ Below w.heap.size w w' := by
  have s0 := Sat.start w
  refine calls_of_cw (args := [.slice A l.length c]) Try.func69 Try.ntmps69 rfl (by simp) ?_
  refine cw_seq ?_
  refine cw_region ?_
  refine ow_val rfl rfl (by decide) (e_assign rfl) ?_
  refine ow_nil ?_
  refine then_normal ?_
  refine cw_seq ?_
  refine cw_region ?_
  refine ow_val rfl rfl (by decide) (e_move rfl) ?_
  refine ow_val rfl rfl (by decide) (e_len_slice rfl Try.underlying22) ?_
  refine o_make (m := l.length) slt28 rfl rfl rfl rfl (by omega) (by omega) s0 (by decide) (fun b7 w1 s_ => ?_)
  obtain ⟨X0, hX0⟩ : ∃ X0, X0 = (madeCells (Value.agg #[.int .i64 0, .slice none 0 0]).cells (l.length * 2)).toList := ⟨_, rfl⟩
  have hX0l : X0.length = l.length * 2 := by rw [hX0]; simp [size_madeCells]
  have s_' := s_
  rw [show (madeCells (Value.agg #[.int .i64 0, .slice none 0 0]).cells (l.length * 2)).toList = X0 from hX0.symm] at s_'
  have s1 := s_'.push (A := GRows 204 4 enc4 [] []) trivial
  refine ow_val rfl rfl (by decide) (e_assign rfl) ?_
  refine ow_nil ?_
  refine then_normal ?_
  refine cw_seq ?_
  refine cw_seq ?_
  refine cw_region ?_
  refine ow_val rfl rfl (by decide) (e_assign rfl) ?_
  refine ow_nil ?_
  refine then_normal ?_
  refine cw_block ?_
  refine cw_loop (fun μ_ f_ w_ => ∃ i : Nat, ∃ X : List Value, ∃ vs : List Value, μ_ = l.length - i ∧ f_ 0 = .slice A l.length c ∧ f_ 3 = .slice (some ⟨b7, 0, none⟩) l.length l.length ∧ f_ 4 = .int .i64 (i : Int) ∧ (i ≤ l.length) ∧ (X.length = l.length * 2) ∧ (X.take (i * 2) = prs (l.take i) vs) ∧ (vs.length = i) ∧ Sat w w_ [Blk b7 201 X, GRows 204 4 enc4 vs ((l.take i).map fun x => x.f1.map toL), Old w]) l.length ⟨0, X0, [], rfl, rfl, rfl, rfl, Nat.zero_le _, hX0l, by simp [prs], rfl, (s1.pickN 3 [1, 0, 2] rfl (by decide) rfl)⟩ ?_
  intro k_ f_ w_ h_
  obtain ⟨i, X, vs, rfl, e2_0, e2_3, e2_4, hi, hX, hT, hv, s2⟩ := h_
  skip
  refine cw_seq ?_
  refine cw_seq ?_
  refine cw_region ?_
  refine ow_val rfl rfl (by decide) (e_move e2_4) ?_
  refine ow_val rfl rfl (by decide) (e_move e2_0) ?_
  refine ow_val rfl rfl (by decide) (e_len_slice rfl Try.underlying22) ?_
  refine ow_val rfl rfl (by decide) (e_lss rfl rfl) ?_
  refine ow_nil ?_
  refine then_normal ?_
  refine cw_cond rfl (fun c3 => ?_) (fun c3 => ?_)
  · skip
    have hlt : i < l.length := (by have := of_decide_eq_true c3; omega)
    refine cw_skip ?_
    refine then_normal ?_
    refine cw_seq ?_
    refine cw_block ?_
    refine cw_region ?_
    refine ow_val rfl rfl (by decide) (e_move e2_3) ?_
    refine ow_val rfl rfl (by decide) (e_move e2_4) ?_
    refine ow_val rfl rfl (by decide) (e_move e2_0) ?_
    refine ow_val rfl rfl (by decide) (e_move e2_4) ?_
    obtain ⟨ad, A1, cm, eA, hx0, hx1, hl1, hC1⟩ := at_T197 hC (i : Int) (by omega) (by omega)
    obtain ⟨md, hmd⟩ : ∃ md, md = rd_T197 l (i : Int) := ⟨_, rfl⟩
    have hmem : md ∈ l := by
      rw [hmd, rd_T197, List.getD_eq_getElem?_getD, Int.toNat_natCast, List.getElem?_eq_getElem (by omega)]
      exact List.getElem_mem _
    rw [← hmd] at hx0 hx1 hl1 hC1
    subst eA
    refine o_idxR rfl rfl slt22 (by omega) (by omega) (by decide) ?_
    refine ow_val rfl rfl (by decide) (e_loadN (cs := [.int .i64 md.f0, .slice A1 md.f1.length cm]) rfl agg197 rfl (cells2 (s2.oldCell 2 rfl hx0) (s2.oldCell 2 rfl hx1))) ?_
    refine o_call enter153 rfl (by decide) ?_
    refine (laws_toModule.calls (md.f1.length + 1) md.f0 A1 cm md.f1 md.f0 (md.f1.map toL) _ (Kd.C_below hC1 (s2.toBelow 2 rfl)) hl1 (module_f md (hk md hmem))).mono ?_
    rintro e_ w4 ⟨v_, rfl, hR_, hb_⟩
    obtain ⟨A9, c9, rfl, hp_⟩ := kd_sl4 hR_
    have s4 := s2.calledP hb_ hp_
    refine ⟨_, rfl, ?_⟩
    refine o_idxS rfl rfl slt28 (by omega) (by omega) (by decide) ?_
    refine o_storeBlk (o := 0 + i * 2) (vs := [.int .i64 md.f0, .slice A9 (md.f1.map toL).length c9]) rfl rfl (by simp [Value.oneCell']) agg201 rfl s4 (i := 1) rfl (by show 0 + i * 2 + 2 ≤ _; omega) (fun w5 s5 => ?_)
    refine ow_nil ?_
    refine inb_normal ?_
    refine then_normal ?_
    refine cw_region ?_
    refine ow_val rfl rfl (by decide) (e_move e2_4) ?_
    refine o_addI rfl rfl (by omega) (by omega) (by decide) ?_
    refine ow_val rfl rfl (by decide) (e_assign rfl) ?_
    refine ow_nil ?_
    refine then_normal ?_
    have hsp := set_pair (n := 0) (v := .slice A9 (md.f1.map toL).length c9) hlt hX hT hv
    rw [← hmd] at hsp
    have s6 := s5.gPush 0 1 rfl rfl
    rw [show ((l.take i).map fun x => x.f1.map toL) ++ [md.f1.map toL] = ((l.take (i + 1)).map fun x => x.f1.map toL) from by rw [take_map_succ (z := z197) hlt, hmd]; rfl] at s6
    exact ⟨_, by omega, i + 1, _, _, rfl, e2_0, e2_3, rfl, by omega, hsp.1, hsp.2, by simp [hv], (s6.pickN 3 [1, 0, 2] rfl (by decide) rfl)⟩
  · skip
    have hge : i = l.length := (by have := of_decide_eq_false c3; omega)
    refine cw_exit ?_
    refine then_exit ?_
    refine then_exit ?_
    refine inb_exit ?_
    refine then_normal ?_
    refine cw_seq ?_
    refine cw_region ?_
    refine ow_val rfl rfl (by decide) (e_move e2_3) ?_
    refine ow_val rfl rfl (by decide) (e_assign rfl) ?_
    refine ow_nil ?_
    refine then_normal ?_
    refine cw_ret ?_
    refine ends1 (v := .slice (some ⟨b7, 0, none⟩) l.length l.length) (.inl rfl) Try.results69 rfl ?_
    have hq_ := s2
    rw [show ((l.take i).map fun x => x.f1.map toL) = (l.map fun x => x.f1.map toL) from by rw [hge, List.take_length]] at hq_
    rw [hge, List.take_length, List.take_of_length_le (by omega)] at hT
    exact ⟨b7, X, vs, rfl, hT, by omega, hq_.part 3 [0, 1] 2 rfl rfl (by decide) rfl, hq_.toBelow 2 rfl⟩
theorem toProg_calls (l : List S197) (A : Option Addr) (c : Nat) (w : World) (hC : Kd.C k197 w A l.length l) (hn : l.length ≤ 1048576) (hk : ∀ x ∈ l, x.f1.length ≤ 1048576) :
    Calls Try.prog 17 #[.agg #[.slice A l.length c]] w fun e w' => ∃ A', e = .returned (.agg #[.slice A' l.length l.length]) ∧ Kd.C k201 w' A' l.length (l.map toM) ∧ Below w.heap.size w w' := by
  have s0 := Sat.start w
  refine calls_of_cw (args := [.agg #[.slice A l.length c]]) Try.func17 Try.ntmps17 rfl (by simp) ?_
  refine cw_seq ?_
  refine cw_region ?_
  refine o_box rfl s0 (by decide) (fun b0 w1 s1 => ?_)
  refine o_alloc zero30 s1 (by decide) (fun b1 w2 s2 => ?_)
  refine ow_nil ?_
  refine then_normal ?_
  refine cw_seq ?_
  refine cw_region ?_
  refine o_alloc zero30 s2 (by decide) (fun b2 w3 s3 => ?_)
  refine ow_nil ?_
  refine then_normal ?_
  refine cw_seq ?_
  refine cw_region ?_
  refine ow_val rfl rfl (by decide) (e_fieldAddr rfl field24_0) ?_
  refine ow_val rfl rfl (by decide) (e_load rfl flat22 (s3.cell 2 rfl (Blk.reads rfl))) ?_
  refine o_call enter69 rfl (by decide) ?_
  refine (toMods_calls l A c _ (Kd.C_below hC (s3.toBelow 3 rfl)) hn hk).mono ?_
  rintro e_ w4 ⟨b7, X, vs, rfl, hX, hv, hp_, hb_⟩
  have s4 := (s3.calledP hb_ hp_)
  refine ⟨_, rfl, ?_⟩
  refine ow_val rfl rfl (by decide) (e_fieldAddr rfl field30_0) ?_
  refine o_store rfl rfl rfl flat28 s4 (i := 2) rfl (Blk.writes _ (Nat.le_of_ble_eq_true rfl)) (fun w5 s5 => ?_)
  refine ow_nil ?_
  refine then_normal ?_
  refine cw_seq ?_
  refine cw_region ?_
  refine ow_val rfl rfl (by decide) (e_loadN (cs := [.slice (some ⟨b7, 0, none⟩) l.length l.length]) rfl agg30 rfl (s5.cellsOf 2 rfl)) ?_
  refine o_storeBlk (o := 0) (vs := [.slice (some ⟨b7, 0, none⟩) l.length l.length]) rfl rfl (by simp [Value.oneCell']) agg30 rfl s5 (i := 3) rfl (Nat.le_of_ble_eq_true rfl) (fun w6 s6 => ?_)
  refine ow_nil ?_
  refine then_normal ?_
  refine cw_ret ?_
  refine endsC (.inl rfl) Try.results17 rfl agg30 rfl (s6.cellsOf 3 rfl) ?_
  exact ⟨_, rfl, rows_C s6 0 1 rfl rfl hX hv hn hk, s6.toBelow 5 rfl⟩
end Go.Proofs.Ytjkohjdiddhpcaa.My
set_option linter.unusedVariables false
set_option linter.unusedSimpArgs false
namespace Go.Proofs.Ytjkohjdiddhpcaa.My
open Go.Sl Go.RowKit Go.Proofs.YtjkohjdiddhpcaaW.PrintWords Go.Proofs.YtjkohjdiddhpcaaW.PrintLast Go.Proofs.YtjkohjdiddhpcaaW.PrintMore Go.Proofs.Ytjkohjdiddhpcaa.PFnExactCountProgramWords
theorem w64' {x : Int} (h0 : -9223372036854775808 ≤ x) (h1 : x ≤ 9223372036854775807) : wrap64 x = x := by unfold wrap64; omega
theorem szLinks_l0 (l : List S321) (hl : l.length ≤ 9223372036854775807) (hs : ∀ x ∈ l, x.f2.size ≤ 9223372036854775807) : ∀ (r i : Nat) (a : Int), i + r = l.length → 0 ≤ a → a ≤ 1048576 → ∃ res : Int, (res = -1 ∨ (0 ≤ res ∧ res ≤ a)) ∧ ∀ k, r + 1 ≤ k → laws_szLinkS.l0 k l a (i : Int) = some res
  | 0, i, a, h, h0, h1 => ⟨a, .inr ⟨h0, Int.le_refl _⟩, fun k hk => by
    obtain ⟨k, rfl⟩ : ∃ k', k = k' + 1 := ⟨k - 1, by omega⟩
    rw [laws_szLinkS.l0, if_neg (by omega)]⟩
  | r + 1, i, a, h, h0, h1 => by
    have hi : i < l.length := by omega
    have hm : rd_T321 l (i : Int) ∈ l := by
      rw [rd_T321, List.getD_eq_getElem?_getD, Int.toNat_natCast, List.getElem?_eq_getElem hi]
      exact List.getElem_mem _
    have hsz := hs _ hm
    have hw : wrap64 (a - ((rd_T321 l (i : Int)).f2.size : Int)) = a - ((rd_T321 l (i : Int)).f2.size : Int) := w64' (by omega) (by omega)
    by_cases hneg : a - ((rd_T321 l (i : Int)).f2.size : Int) < 0
    · refine ⟨-1, .inl rfl, fun k hk => ?_⟩
      obtain ⟨k, rfl⟩ : ∃ k', k = k' + 1 := ⟨k - 1, by omega⟩
      rw [laws_szLinkS.l0, if_pos (by omega), if_pos (by omega), laws_szLink.f, hw, if_pos hneg, Option.bind_some, if_pos (by decide)]
    · obtain ⟨res, hres, hk⟩ := szLinks_l0 l hl hs r (i + 1) (a - ((rd_T321 l (i : Int)).f2.size : Int)) (by omega) (by omega) (by omega)
      refine ⟨res, by omega, fun k hk' => ?_⟩
      obtain ⟨k, rfl⟩ : ∃ k', k = k' + 1 := ⟨k - 1, by omega⟩
      rw [laws_szLinkS.l0, if_pos (by omega), if_pos (by omega), laws_szLink.f, hw, if_neg hneg, Option.bind_some, if_neg hneg, w64' (by omega) (by omega)]
      exact hk k (by omega)
theorem szLinks_f (l : List S321) (hl : l.length ≤ 9223372036854775807) (hs : ∀ x ∈ l, x.f2.size ≤ 9223372036854775807) (a : Int) (h0 : 0 ≤ a) (h1 : a ≤ 1048576) : ∃ res : Int, (res = -1 ∨ (0 ≤ res ∧ res ≤ a - l.length)) ∧ ∀ k, l.length + 1 ≤ k → laws_szLinkS.f k l a = some res := by
  have hw : wrap64 (a - (l.length : Int)) = a - (l.length : Int) := w64' (by omega) (by omega)
  by_cases hneg : a - (l.length : Int) < 0
  · exact ⟨-1, .inl rfl, fun k hk => by rw [laws_szLinkS.f, hw, if_pos hneg]⟩
  · obtain ⟨res, hres, hk⟩ := szLinks_l0 l hl hs l.length 0 (a - (l.length : Int)) (by omega) (by omega) (by omega)
    exact ⟨res, hres, fun k h => by rw [laws_szLinkS.f, hw, if_neg hneg]; exact hk k h⟩
/-- What reading makes sure of: nothing is longer than what a word counts. -/
structure Fits (l : List S197) : Prop where
  len : l.length ≤ 9223372036854775807
  links : ∀ x ∈ l, x.f1.length ≤ 9223372036854775807
  acts : ∀ x ∈ l, ∀ y ∈ x.f1, y.f2.size ≤ 9223372036854775807
theorem szMods_l0 (l : List S197) (hf : Fits l) : ∀ (r i : Nat) (a : Int), i + r = l.length → 0 ≤ a → a ≤ 1048576 → ∃ (k0 : Nat) (res : Int), (res = -1 ∨ (0 ≤ res ∧ res ≤ a ∧ ∀ j : Nat, i ≤ j → j < l.length → (rd_T197 l (j : Int)).f1.length ≤ 1048576)) ∧ ∀ k, k0 ≤ k → laws_szModuleS.l0 k l a (i : Int) = some res
  | 0, i, a, h, h0, h1 => ⟨1, a, .inr ⟨h0, Int.le_refl _, fun j g0 g1 => by omega⟩, fun k hk => by
    obtain ⟨k, rfl⟩ : ∃ k', k = k' + 1 := ⟨k - 1, by omega⟩
    rw [laws_szModuleS.l0, if_neg (by omega)]⟩
  | r + 1, i, a, h, h0, h1 => by
    have hi : i < l.length := by omega
    have hm : rd_T197 l (i : Int) ∈ l := by
      rw [rd_T197, List.getD_eq_getElem?_getD, Int.toNat_natCast, List.getElem?_eq_getElem hi]
      exact List.getElem_mem _
    have hlen := hf.len
    obtain ⟨r1, hr1, hk1⟩ := szLinks_f (rd_T197 l (i : Int)).f1 (hf.links _ hm) (hf.acts _ hm) a h0 h1
    by_cases hneg : r1 < 0
    · refine ⟨(rd_T197 l (i : Int)).f1.length + 2, -1, .inl rfl, fun k hk => ?_⟩
      obtain ⟨k, rfl⟩ : ∃ k', k = k' + 1 := ⟨k - 1, by omega⟩
      rw [laws_szModuleS.l0, if_pos (by omega), if_pos (by omega), laws_szModule.f, hk1 k (by omega), Option.bind_some, if_pos hneg, Option.bind_some, if_pos (by decide)]
    · obtain ⟨k0, res, hres, hk⟩ := szMods_l0 l hf r (i + 1) r1 (by omega) (by omega) (by omega)
      refine ⟨k0 + (rd_T197 l (i : Int)).f1.length + 2, res, ?_, fun k hk' => ?_⟩
      · rcases hres with hres | ⟨g0, g1, g2⟩
        · exact .inl hres
        · refine .inr ⟨g0, by omega, fun j q0 q1 => ?_⟩
          by_cases e : j = i
          · subst e; omega
          · exact g2 j (by omega) q1
      · obtain ⟨k, rfl⟩ : ∃ k', k = k' + 1 := ⟨k - 1, by omega⟩
        rw [laws_szModuleS.l0, if_pos (by omega), if_pos (by omega), laws_szModule.f, hk1 k (by omega), Option.bind_some, if_neg hneg, Option.bind_some, if_neg hneg, w64' (by omega) (by omega)]
        exact hk k (by omega)
theorem sz_prog (l : List S197) (hf : Fits l) : ∃ (k : Nat) (res : Int), laws_szProgram.f k l 1048576 = some res ∧ (res < 0 ∨ (l.length ≤ 1048576 ∧ ∀ x ∈ l, x.f1.length ≤ 1048576)) := by
  have hlen := hf.len
  have hw : wrap64 (1048576 - (l.length : Int)) = 1048576 - (l.length : Int) := w64' (by omega) (by omega)
  by_cases hneg : (1048576 : Int) - (l.length : Int) < 0
  · exact ⟨0, -1, by rw [laws_szProgram.f, laws_szModuleS.f, hw, if_pos hneg, Option.bind_some, if_pos (by decide)], .inl (by decide)⟩
  · obtain ⟨k0, res, hres, hk⟩ := szMods_l0 l hf l.length 0 (1048576 - (l.length : Int)) (by omega) (by omega) (by omega)
    refine ⟨k0, if res < 0 then -1 else res, ?_, ?_⟩
    · rw [laws_szProgram.f, laws_szModuleS.f, hw, if_neg hneg]
      have := hk k0 (Nat.le_refl _)
      simp only [Int.natCast_zero] at this
      rw [this, Option.bind_some]
      split <;> rfl
    · rcases hres with hres | ⟨g0, g1, g2⟩
      · left; rw [if_pos (by omega)]; decide
      · right
        refine ⟨by omega, fun x hx => ?_⟩
        obtain ⟨j, hj, rfl⟩ := List.getElem_of_mem hx
        have := g2 j (Nat.zero_le _) hj
        simpa [rd_T197, List.getD_eq_getElem?_getD, hj] using this
theorem eqLink_refl (y : S204) : laws_eqLink.f y.f0 y.f1 y.f2 y.f3 y.f0 y.f1 y.f2 y.f3 = some true := by
  rw [laws_eqLink.f, if_pos rfl, if_pos rfl, if_pos rfl, if_pos rfl]
theorem eqLinks_l0 (l : List S204) (hl : l.length ≤ 1048576) : ∀ (r i : Nat), i + r = l.length → ∀ k, r + 1 ≤ k → laws_eqLinkS.l0 k l l (i : Int) = some true
  | 0, i, h, k, hk => by
    obtain ⟨k, rfl⟩ : ∃ k', k = k' + 1 := ⟨k - 1, by omega⟩
    rw [laws_eqLinkS.l0, if_neg (by omega)]
  | r + 1, i, h, k, hk => by
    obtain ⟨k, rfl⟩ : ∃ k', k = k' + 1 := ⟨k - 1, by omega⟩
    rw [laws_eqLinkS.l0, if_pos (by omega), if_pos (by omega), if_pos (by omega), eqLink_refl, Option.bind_some, if_pos rfl, w64' (by omega) (by omega)]
    exact eqLinks_l0 l hl r (i + 1) (by omega) k (by omega)
theorem eqLinks_f (l : List S204) (hl : l.length ≤ 1048576) (k : Nat) (hk : l.length + 1 ≤ k) : laws_eqLinkS.f k l l = some true := by
  rw [laws_eqLinkS.f, if_pos rfl]
  exact eqLinks_l0 l hl l.length 0 (by omega) k hk
theorem eqMods_l0 (l : List S201) (hl : l.length ≤ 1048576) (hk1 : ∀ x ∈ l, x.f1.length ≤ 1048576) : ∀ (r i : Nat), i + r = l.length → ∀ k, r + 1048578 ≤ k → laws_eqModuleS.l0 k l l (i : Int) = some true
  | 0, i, h, k, hk => by
    obtain ⟨k, rfl⟩ : ∃ k', k = k' + 1 := ⟨k - 1, by omega⟩
    rw [laws_eqModuleS.l0, if_neg (by omega)]
  | r + 1, i, h, k, hk => by
    obtain ⟨k, rfl⟩ : ∃ k', k = k' + 1 := ⟨k - 1, by omega⟩
    have hm := hk1 _ (rd201_mem (ms := l) (i := (i : Int)) (by omega) (by omega))
    rw [laws_eqModuleS.l0, if_pos (by omega), if_pos (by omega), if_pos (by omega), laws_eqModule.f, if_pos rfl, eqLinks_f _ hm k (by omega), Option.bind_some, if_pos rfl, Option.bind_some, if_pos rfl, w64' (by omega) (by omega)]
    exact eqMods_l0 l hl hk1 r (i + 1) (by omega) k (by omega)
theorem eq_prog (l : List S201) (hl : l.length ≤ 1048576) (hk1 : ∀ x ∈ l, x.f1.length ≤ 1048576) : laws_eqProgram.f (l.length + 1048578) l l = some true := by
  rw [laws_eqProgram.f, laws_eqModuleS.f, if_pos rfl, show ((0 : Int)) = ((0 : Nat) : Int) from rfl, eqMods_l0 l hl hk1 l.length 0 (by omega) _ (Nat.le_refl _)]
  rfl
end Go.Proofs.Ytjkohjdiddhpcaa.My
set_option linter.unusedVariables false
set_option linter.unusedSimpArgs false
namespace Go.Proofs.Ytjkohjdiddhpcaa.My
open Go.Sl Go.RowKit Go.Proofs.YtjkohjdiddhpcaaW.PrintWords Go.Proofs.YtjkohjdiddhpcaaW.PrintLast Go.Proofs.YtjkohjdiddhpcaaW.PrintMore Go.Proofs.Ytjkohjdiddhpcaa.PFnExactCountProgramWords
theorem agg24 : aggN Try.prog 24 = some 1 := by kernel_rfl
theorem enter15 : enterB Try.prog 15 = true := by kernel_rfl
theorem enter16 : enterB Try.prog 16 = true := by kernel_rfl
theorem enter17 : enterB Try.prog 17 = true := by kernel_rfl
theorem enter18 : enterB Try.prog 18 = true := by kernel_rfl
theorem enter19 : enterB Try.prog 19 = true := by kernel_rfl
theorem toProg_ms (l : List S197) (ms : List S201) (hms : ms = l.map toM) (A : Option Addr) (c : Nat) (w : World) (hC : Kd.C k197 w A l.length l) (hn : l.length ≤ 1048576) (hk : ∀ x ∈ l, x.f1.length ≤ 1048576) :
    Calls Try.prog 17 #[.agg #[.slice A l.length c]] w fun e w' => ∃ A', e = .returned (.agg #[.slice A' ms.length ms.length]) ∧ Kd.C k201 w' A' ms.length ms ∧ Below w.heap.size w w' := by
  subst hms
  refine (toProg_calls l A c w hC hn hk).mono ?_
  rintro e w' ⟨A', rfl, hC', hb⟩
  have e1 : (l.map toM).length = l.length := List.length_map ..
  exact ⟨A', by rw [e1], by rw [e1]; exact hC', hb⟩
theorem cells1 {w : World} {p : Addr} {v0 : Value} (h0 : w.cell? (p.add 0) = some v0) : ∀ (j : Nat) v, [v0][j]? = some v → w.cell? (p.add j) = some v
  | 0, v, e => by simp at e; subst e; exact h0
  | j + 1, v, e => by simp at e
theorem below_tr {w0 w1 w2 : World} (h1 : Below w0.heap.size w0 w1) (h2 : Below w1.heap.size w1 w2) : Below w0.heap.size w0 w2 :=
  ⟨h2.os.trans h1.os, h2.tape.trans h1.tape, h2.output.trans h1.output, Nat.le_trans h1.size h2.size, fun k hk => (h2.block k (Nat.lt_of_lt_of_le hk h1.size)).trans (h1.block k hk)⟩
theorem law_calls (l : List S197) (n : Int) (A : Option Addr) (c : Nat) (w : World) (hC : Kd.C k197 w A l.length l) (hc : l.length ≤ c) (hF : Fits l) :
    Calls Try.prog 3 #[.agg #[.slice A l.length c], .int .i64 n] w fun e w' => e = .returned (.bool true) ∧ Below w.heap.size w w' := by
  have hmix : Try.prog.follows .mixedOrders = true := by kernel_rfl
  obtain ⟨kz, rz, hz, hbd⟩ := sz_prog l hF
  have s0 := Sat.start w
  refine calls_of_cw (args := [.agg #[.slice A l.length c], .int .i64 n]) Try.func3 Try.ntmps3 rfl (by simp) ?_
  refine cw_seq ?_
  refine cw_region ?_
  refine o_box rfl s0 (by decide) (fun bx w1 s1 => ?_)
  refine ow_val rfl rfl (by decide) (e_assign rfl) ?_
  refine ow_nil ?_
  refine then_normal ?_
  refine cw_seq ?_
  refine cw_region ?_
  refine ow_val rfl rfl (by decide) (e_assign rfl) ?_
  refine ow_nil ?_
  refine then_normal ?_
  refine cw_seq ?_
  refine cw_region ?_
  refine ow_val rfl rfl (by decide) (e_loadN rfl agg24 rfl (s1.cellsAt (m := 1) 0 rfl 0)) ?_
  refine ow_val rfl rfl (by decide) (e_move rfl) ?_
  refine o_call enter15 rfl (by decide) ?_
  refine (laws_szProgram.calls kz A c l 1048576 rz _ (Kd.C_below hC (s1.toBelow 1 rfl)) hc hz).mono ?_
  rintro e_ w2 ⟨rfl, hb_⟩
  have s2 := s1.below hb_
  refine ⟨_, rfl, ?_⟩
  refine ow_val rfl rfl (by decide) (e_assign rfl) ?_
  refine ow_nil ?_
  refine then_normal ?_
  refine cw_seq ?_
  refine cw_seq ?_
  refine cw_region ?_
  refine ow_val rfl rfl (by decide) (e_move rfl) ?_
  refine ow_val rfl rfl (by decide) (e_lss rfl rfl) ?_
  refine ow_nil ?_
  refine then_normal ?_
  refine cw_cond rfl (fun c3 => ?_) (fun c3 => ?_)
  · skip
    skip
    refine cw_seq ?_
    refine cw_region ?_
    refine ow_val rfl rfl (by decide) (e_assign rfl) ?_
    refine ow_nil ?_
    refine then_normal ?_
    refine cw_ret ?_
    refine then_ret ?_
    refine ends1 (v := .bool true) (.inl rfl) Try.results3 rfl ?_
    exact ⟨rfl, s2.toBelow 1 rfl⟩
  · skip
    have hr0 : ¬ rz < 0 := of_decide_eq_false c3
    obtain ⟨hbn, hbk⟩ := hbd.resolve_left hr0
    obtain ⟨ms, hms⟩ : ∃ ms, ms = l.map toM := ⟨_, rfl⟩
    have hbm : ms.length ≤ 1048576 := by rw [hms, List.length_map]; exact hbn
    have hbmk : ∀ x ∈ ms, x.f1.length ≤ 1048576 := by
      intro x hx
      rw [hms] at hx
      obtain ⟨y, hy, rfl⟩ := List.mem_map.1 hx
      show (y.f1.map toL).length ≤ _
      rw [List.length_map]
      exact hbk y hy
    refine cw_skip ?_
    refine then_normal ?_
    refine cw_seq ?_
    refine cw_region ?_
    refine ow_val rfl rfl (by decide) (e_loadN rfl agg24 rfl (s2.cellsAt (m := 1) 0 rfl 0)) ?_
    refine o_call enter17 rfl (by decide) ?_
    refine (toProg_ms l ms hms A c _ (Kd.C_below hC (s2.toBelow 1 rfl)) hbn hbk).mono ?_
    rintro e_ w4 ⟨A1, rfl, hC1, hb_⟩
    have s4 := s2.below hb_
    refine ⟨_, rfl, ?_⟩
    refine ow_val rfl rfl (by decide) (e_move rfl) ?_
    refine o_call enter16 rfl (by decide) ?_
    refine (spw_calls ms n A1 ms.length _ hC1).mono ?_
    rintro e_ w5 ⟨rfl, hb_⟩
    have s5 := s4.below hb_
    refine ⟨_, rfl, ?_⟩
    refine ow_val rfl rfl (by decide) (e_move rfl) ?_
    refine ow_val rfl rfl (by decide) (e_extract rfl rfl) ?_
    refine ow_val rfl rfl (by decide) (e_extract rfl rfl) ?_
    refine ow_val rfl rfl (by decide) (e_assign rfl) ?_
    refine ow_val rfl rfl (by decide) (e_assign rfl) ?_
    refine ow_nil ?_
    refine then_normal ?_
    refine cw_seq ?_
    refine cw_region ?_
    refine ow_val rfl rfl (by decide) (e_loadN rfl agg24 rfl (s5.cellsAt (m := 1) 0 rfl 0)) ?_
    refine o_call enter17 rfl (by decide) ?_
    refine (toProg_ms l ms hms A c _ (Kd.C_below hC (s5.toBelow 1 rfl)) hbn hbk).mono ?_
    rintro e_ w6 ⟨A2, rfl, hC2, hb_⟩
    have s6 := s5.below hb_
    refine ⟨_, rfl, ?_⟩
    have hCw6 := Kd.C_below hC (s6.toBelow 1 rfl)
    have hbw6 := s6.toBelow 1 rfl
    have hbx : World.cell? _ ((⟨bx, 0, none⟩ : Addr).add 0) = some (.slice A l.length c) := s6.cell 0 rfl (Blk.reads (i := 0) rfl)
    have s7 := Sat.start w6
    refine o_alloc zero30 s7 (by decide) (fun b8 w8 s8 => ?_)
    refine o_storeBlk (o := 0) (vs := [.slice A2 ms.length ms.length]) rfl rfl (by simp [Value.oneCell']) agg30 rfl s8 (i := 0) rfl (Nat.le_of_ble_eq_true rfl) (fun w9 s9 => ?_)
    refine ow_nil ?_
    refine then_normal ?_
    refine cw_seq ?_
    refine cw_region ?_
    refine ow_val rfl rfl (by decide) (e_loadN rfl agg30 rfl (s9.cellsAt (m := 1) 0 rfl 0)) ?_
    refine ow_val rfl rfl (by decide) (e_move rfl) ?_
    refine o_call enter18 rfl (by decide) ?_
    have hh_ := cpw_calls ms n A2 ms.length _ (Kd.C_below hC2 (s9.toBelow 1 rfl))
    rw [cpw_spw] at hh_
    refine hh_.mono ?_
    rintro e_ w10 ⟨rfl, hb_⟩
    have s10 := s9.below hb_
    refine ⟨_, rfl, ?_⟩
    refine ow_val rfl rfl (by decide) (e_move rfl) ?_
    refine ow_val rfl rfl (by decide) (e_extract rfl rfl) ?_
    refine ow_val rfl rfl (by decide) (e_extract rfl rfl) ?_
    refine ow_val rfl rfl (by decide) (e_assign rfl) ?_
    refine ow_val rfl rfl (by decide) (e_assign rfl) ?_
    refine ow_nil ?_
    refine then_normal ?_
    refine cw_seq ?_
    refine cw_seq ?_
    refine cw_region ?_
    refine ow_val rfl rfl (by decide) (e_move rfl) ?_
    refine ow_val rfl rfl (by decide) (e_move rfl) ?_
    refine ow_val rfl rfl (by decide) (e_neq rfl rfl) ?_
    refine ow_val rfl rfl (by decide) (e_move rfl) ?_
    refine ow_split (g := 34) (by decide) rfl (fun g11 => ?_) (fun g11 => ?_)
    · skip
      simp at g11
    · skip
      skip
      refine ow_in rfl rfl ?_
      refine ow_val rfl rfl (by decide) (e_move rfl) ?_
      refine ow_in rfl rfl ?_
      refine ow_val rfl rfl (by decide) (e_move rfl) ?_
      refine ow_in rfl rfl ?_
      refine ow_val rfl rfl (by decide) (e_neq rfl rfl) ?_
      refine ow_val rfl rfl (by decide) (e_pick rfl) ?_
      refine ow_nil ?_
      refine then_normal ?_
      refine cw_cond rfl (fun c12 => ?_) (fun c12 => ?_)
      · skip
        simp at c12
      · skip
        skip
        refine cw_skip ?_
        refine then_normal ?_
        refine cw_seq ?_
        refine cw_seq ?_
        refine al_begin #[false, false, false, false, false] [] s10 hmix rfl rfl (fun w13 s13 => ?_)
        refine al_take 0 #[true, false, false, false, false] rfl rfl (by decide) (by kernel_rfl) (fun _ _ _ h => h) (ya rfl (fun w_ s_ => e_loadN rfl agg30 rfl (s_.cellsAt (m := 1) 0 rfl 0))) s13 ?_
        refine al_take 1 #[true, true, false, false, false] rfl rfl (by decide) (by kernel_rfl) (fun _ _ _ h => h) (ya rfl (fun w_ s_ => e_loadN (cs := [.slice A l.length c]) rfl agg24 rfl (cells1 (s_.oldCell 1 rfl hbx)))) s13 ?_
        refine al_one 2 #[true, true, true, false, false] (by kernel_rfl) rfl ?_
        refine o_call enter17 rfl (by decide) ?_
        refine (toProg_ms l ms hms A c _ (Kd.C_below hCw6 (s13.toBelow 1 rfl)) hbn hbk).mono ?_
        rintro e_ w14 ⟨A3, rfl, hC3, hb_⟩
        have s14 := s13.below hb_
        refine ⟨_, rfl, ?_⟩
        refine stepL_nil (fun _ => s14) ?_
        refine al_one 3 #[true, true, true, true, false] (by kernel_rfl) rfl ?_
        refine o_call enter19 rfl (by decide) ?_
        refine (laws_eqProgram.calls (ms.length + 1048578) A2 ms.length ms A3 ms.length ms true _ (Kd.C_below hC2 (s14.toBelow 1 rfl)) (Nat.le_refl _) hC3 (Nat.le_refl _) (eq_prog ms hbm hbmk)).mono ?_
        rintro e_ w15 ⟨rfl, hb_⟩
        have s15 := s14.below hb_
        refine ⟨_, rfl, ?_⟩
        refine stepL_nil (fun _ => s15) ?_
        refine al_take 4 #[true, true, true, true, true] rfl rfl (by decide) (by kernel_rfl) (fun _ _ _ h => h) (ya rfl (fun w_ s_ => e_not rfl)) s15 ?_
        refine al_done (by kernel_rfl) ?_
        refine then_normal ?_
        refine cw_cond_false rfl ?_
        refine cw_skip ?_
        refine then_normal ?_
        refine cw_seq ?_
        refine cw_region ?_
        refine ow_val rfl rfl (by decide) (e_assign rfl) ?_
        refine ow_nil ?_
        refine then_normal ?_
        refine cw_ret ?_
        refine ends1 (v := .bool true) (.inl rfl) Try.results3 rfl ?_
        exact ⟨rfl, below_tr hbw6 (s15.toBelow 1 rfl)⟩
end Go.Proofs.Ytjkohjdiddhpcaa.My
set_option linter.unusedVariables false
set_option linter.unusedSimpArgs false
namespace Go.Proofs.Ytjkohjdiddhpcaa.My
open Go.ChangeShapes Go.WideShapes Go.ChangeAt Go.RowKit Go.Deep
open Go.Proofs.YtjkohjdiddhpcaaW.PrintWords Go.Proofs.YtjkohjdiddhpcaaW.PrintLast Go.Proofs.YtjkohjdiddhpcaaW.PrintMore Go.Proofs.Ytjkohjdiddhpcaa.PFnExactCountProgramWords
theorem list_of {α : Type} {R : Nat → α → Prop} : ∀ n, (∀ i, i < n → ∃ a, R i a) → ∃ l : List α, l.length = n ∧ ∀ i a, l[i]? = some a → R i a
  | 0, _ => ⟨[], rfl, fun i a h => by simp at h⟩
  | n + 1, h => by
    obtain ⟨l, hl, hR⟩ := list_of n fun i hi => h i (by omega)
    obtain ⟨a, ha⟩ := h n (by omega)
    refine ⟨l ++ [a], by simp [hl], fun i b hb => ?_⟩
    by_cases hi : i < n
    · rw [List.getElem?_append_left (by omega)] at hb; exact hR i b hb
    · rw [List.getElem?_append_right (by omega)] at hb
      have : i = n := by
        have := (List.getElem?_eq_some_iff.1 hb).1
        simp at this
        omega
      subst this
      simp [hl] at hb
      subst hb
      exact ha
theorem len1 {α : Type} {l : List α} (h : l.length = 1) : ∃ a, l = [a] := by
  cases l with
  | nil => simp at h
  | cons a l => cases l with
    | nil => exact ⟨a, rfl⟩
    | cons b l => simp at h
theorem len2 {α : Type} {l : List α} (h : l.length = 2) : ∃ a b, l = [a, b] := by
  cases l with
  | nil => simp at h
  | cons a l => obtain ⟨b, rfl⟩ := len1 (l := l) (by simpa using h); exact ⟨a, b, rfl⟩
theorem len4 {α : Type} {l : List α} (h : l.length = 4) : ∃ a b c d, l = [a, b, c, d] := by
  cases l with
  | nil => simp at h
  | cons a l => cases l with
    | nil => simp at h
    | cons b l => obtain ⟨c, d, rfl⟩ := len2 (l := l) (by simpa using h); exact ⟨a, b, c, d, rfl⟩
section
variable {H : Type} {enc : TypeId × Value → H} {P : Program} {w : World} {base : Nat} {spare : Nat → Bool} {held : Bool}
theorem add_two (a : Addr) (k j : Nat) : (a.add k).add j = a.add (k + j) := Go.Sl.add_add a k j
theorem open_C {α : Type} (d : Kd α) (Q : α → Prop) {t e : TypeId} {fuel : Nat} {cs : List Value} {x : DataW H × List MemPlace} (ht : P.underlying t = some (.slice e)) (hC : P.cellsOf e = d.sz)
    (hE : ∀ n cs' y, DataW.trod enc P w base spare held n e cs' = some y → ∃ a, d.K w a cs' ∧ Q a) (h : DataW.trod enc P w base spare held fuel t cs = some x) :
    ∃ (A : Option Addr) (c : Nat) (l : List α), cs = [.slice A l.length c] ∧ l.length ≤ c ∧ l.length ≤ 9223372036854775807 ∧ d.C w A l.length l ∧ ∀ a ∈ l, Q a := by
  rcases open_slice ht h with ⟨rfl, -⟩ | ⟨a, len, cap, m, n, D, Pl, rfl, hb, hl, hm, hmm, -, hi⟩
  · exact ⟨none, 0, [], rfl, Nat.le_refl _, by simp, ⟨rfl, by simp, fun h => absurd h (by simp)⟩, fun a h => by simp at h⟩
  · have hle : len ≤ m := by rw [hmm]; split <;> omega
    have hmx : cap ≤ 9223372036854775807 := hm
    obtain ⟨l, hll, hR⟩ := list_of (R := fun i b => (∃ cs', cs'.length = d.sz ∧ d.K w b cs' ∧ ∀ j u, cs'[j]? = some u → w.cell? (a.add (i * d.sz + j)) = some u) ∧ Q b) len fun i hil => by
      obtain ⟨cs', hc, ht'⟩ := hi i (by omega)
      obtain ⟨b, hK, hQ⟩ := hE _ _ _ ht'
      rw [hC] at hc
      obtain ⟨_, hcl, hat⟩ := World.cells?_some hc
      refine ⟨b, ⟨cs', hcl, hK, fun j u hu => ?_⟩, hQ⟩
      have hj := (List.getElem?_eq_some_iff.1 hu).1
      rw [← add_two, hat j (by omega)]
      exact hu
    subst hll
    refine ⟨some a, cap, l, rfl, hl, by omega, ⟨rfl, by omega, fun _ => ⟨a, rfl, fun j p hp => (hR j p hp).1⟩⟩, fun b hb => ?_⟩
    obtain ⟨j, hj⟩ := List.getElem?_of_mem hb
    exact (hR j b hj).2
end
section
variable {H : Type} {enc : TypeId × Value → H} {w : World} {base : Nat} {spare : Nat → Bool} {held : Bool}
theorem open_321 (n : Nat) (cs : List Value) (y : DataW H × List MemPlace) (h : DataW.trod enc Try.prog w base spare held n 321 cs = some y) : ∃ a : S321, k321.K w a cs ∧ a.f2.size ≤ 9223372036854775807 := by
  obtain ⟨xs, n', -, -, hl, hxl, hf⟩ := DataW.trod_struct Try.underlying321 h
  have hl4 : cs.length = 4 := hl.trans (by kernel_rfl)
  obtain ⟨c0, c1, c2, c3, rfl⟩ : ∃ c0 c1 c2 c3, cs = [c0, c1, c2, c3] := len4 hl4
  have hx : xs.length = 4 := hxl
  obtain ⟨x0, x1, x2, x3, rfl⟩ : ∃ x0 x1 x2 x3, xs = [x0, x1, x2, x3] := len4 hx
  have e2 : Try.prog.cellsOf 2 = 1 := by kernel_rfl
  have e9 : Try.prog.cellsOf 9 = 1 := by kernel_rfl
  have h0 : DataW.trod enc Try.prog w base spare held n' 2 [c0] = some x0 := by have := hf 0 _ rfl; simpa [e2, e9] using this
  have h1 : DataW.trod enc Try.prog w base spare held n' 2 [c1] = some x1 := by have := hf 1 _ rfl; simpa [e2, e9] using this
  have h2 : DataW.trod enc Try.prog w base spare held n' 9 [c2] = some x2 := by have := hf 2 _ rfl; simpa [e2, e9] using this
  have h3 : DataW.trod enc Try.prog w base spare held n' 2 [c3] = some x3 := by have := hf 3 _ rfl; simpa [e2, e9] using this
  obtain ⟨n0, e0, -, -⟩ := DataW.trod_int Try.underlying2 h0
  obtain ⟨n1, e1, -, -⟩ := DataW.trod_int Try.underlying2 h1
  obtain ⟨s2, e2', -, hs⟩ := DataW.trod_string Try.underlying9 h2
  obtain ⟨n3, e3, -, -⟩ := DataW.trod_int Try.underlying2 h3
  simp at e0 e1 e2' e3
  subst e0 e1 e2' e3
  exact ⟨⟨n0, n1, s2, n3⟩, k321_mk w _, hs⟩
theorem open_197 (n : Nat) (cs : List Value) (y : DataW H × List MemPlace) (h : DataW.trod enc Try.prog w base spare held n 197 cs = some y) : ∃ a : S197, k197.K w a cs ∧ a.f1.length ≤ 9223372036854775807 ∧ ∀ b ∈ a.f1, b.f2.size ≤ 9223372036854775807 := by
  obtain ⟨xs, n', -, -, hl, hxl, hf⟩ := DataW.trod_struct Try.underlying197 h
  have hl4 : cs.length = 2 := hl.trans (by kernel_rfl)
  obtain ⟨c0, c1, rfl⟩ : ∃ c0 c1, cs = [c0, c1] := len2 hl4
  have hx : xs.length = 2 := hxl
  obtain ⟨x0, x1, rfl⟩ : ∃ x0 x1, xs = [x0, x1] := len2 hx
  have e2 : Try.prog.cellsOf 2 = 1 := by kernel_rfl
  have e195 : Try.prog.cellsOf 195 = 1 := by kernel_rfl
  have h0 : DataW.trod enc Try.prog w base spare held n' 2 [c0] = some x0 := by have := hf 0 _ rfl; simpa [e2, e195] using this
  have h1 : DataW.trod enc Try.prog w base spare held n' 195 [c1] = some x1 := by have := hf 1 _ rfl; simpa [e2, e195] using this
  obtain ⟨n0, e0, -, -⟩ := DataW.trod_int Try.underlying2 h0
  obtain ⟨A, c, l, e1, g1, g2, g3, g4⟩ := open_C k321 (fun a => a.f2.size ≤ 9223372036854775807) Try.underlying195 (by kernel_rfl) open_321 h1
  simp at e0 e1
  subst e0 e1
  exact ⟨⟨n0, l⟩, k197_mk w ⟨n0, l⟩ g1 g3, g2, g4⟩
theorem open_24 {n : Nat} {cs : List Value} {y : DataW H × List MemPlace} (h : DataW.trod enc Try.prog w base spare held n 24 cs = some y) : ∃ (A : Option Addr) (c : Nat) (l : List S197), cs = [.slice A l.length c] ∧ l.length ≤ c ∧ Kd.C k197 w A l.length l ∧ Fits l := by
  obtain ⟨xs, n', -, -, hl, hxl, hf⟩ := DataW.trod_struct Try.underlying24 h
  have hl4 : cs.length = 1 := hl.trans (by kernel_rfl)
  obtain ⟨c0, rfl⟩ : ∃ c0, cs = [c0] := len1 hl4
  have hx : xs.length = 1 := hxl
  obtain ⟨x0, rfl⟩ : ∃ x0, xs = [x0] := len1 hx
  have e22 : Try.prog.cellsOf 22 = 1 := by kernel_rfl
  have h0 : DataW.trod enc Try.prog w base spare held n' 22 [c0] = some x0 := by have := hf 0 _ rfl; simpa [e22] using this
  obtain ⟨A, c, l, e1, g1, g2, g3, g4⟩ := open_C k197 (fun a => a.f1.length ≤ 9223372036854775807 ∧ ∀ b ∈ a.f1, b.f2.size ≤ 9223372036854775807) Try.underlying22 (by kernel_rfl) open_197 h0
  exact ⟨A, c, l, e1, g1, g3, ⟨g2, fun x hx => (g4 x hx).1, fun x hx => (g4 x hx).2⟩⟩
end
end Go.Proofs.Ytjkohjdiddhpcaa.My
