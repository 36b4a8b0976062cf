import Derived.Test.YtjkohjdiddhpcaaCa
import Derived.Test.YtjkohjdiddhpcaaX7
/- Walks of the given code, and plain lemmas, for the law FnExactCountProgramWords (part Cb). -/
set_option linter.unusedVariables false
set_option linter.unusedSimpArgs false
namespace Go.Proofs.Ytjkohjdiddhpcaa.My
open Go.Sl Go.RowKit Go.Proofs.YtjkohjdiddhpcaaW.PrintWords Go.Proofs.YtjkohjdiddhpcaaW.PrintLast Go.Proofs.YtjkohjdiddhpcaaW.PrintMore Go.Proofs.Ytjkohjdiddhpcaa.PFnExactCountProgramWords
/-- What the matching keeps: partners, returns without call, calls without return (a stack), depths, parents. -/
structure MS where
  p : List Int
  r : List Int
  c : List Int
  d : List Int
  q : List Int
def mOne (M : MS) (ch : Int) : MS × Int :=
  bif isR ch then
    (if M.c.length = 0 then ({ M with r := M.r ++ [(M.p.length : Int)] }, -2)
     else ({ M with p := M.p.set (M.c.getLastD (-1)).toNat (M.p.length : Int), c := M.c.dropLast }, M.c.getLastD (-1)))
  else (M, -1)
def mTwo (a : MS × Int) (ch : Int) : MS × Int :=
  bif isC ch then ({ a.1 with c := a.1.c ++ [(a.1.p.length : Int)] }, -2) else a
def mThree (b : MS × Int) (pa : Int) : MS := { b.1 with p := b.1.p ++ [b.2], q := b.1.q ++ [pa] }
def mFour (m : MS) : MS := { m with d := m.d ++ [(m.c.length : Int)] }
def mStep (M : MS) (ch : Int) : MS :=
  mFour (mThree (mTwo (mOne M ch) ch) ((mOne M ch).1.c.getLastD (-1)))
def mAt (s : ByteArray) : Nat → MS
  | 0 => ⟨[], [], [], [0], []⟩
  | i + 1 => mStep (mAt s i) (bt s (i : Int))
structure MW (M : MS) (i j k : Nat) : Prop where
  p : M.p.length = i
  q : M.q.length = j
  d : M.d.length = k + 1
  r : M.r.length ≤ k + 1
  c : M.c.length ≤ k + 1
  cs : ∀ x ∈ M.c, 0 ≤ x ∧ x ≤ (k : Int)
structure MT (M : MS) (n0 n1 n2 n3 n4 : Nat) (X0 X1 X2 X3 X4 : List Value) : Prop where
  x0 : X0 = M.p.map (Value.int .i64)
  x1 : X1 = M.r.map (Value.int .i64)
  x2 : X2 = M.c.map (Value.int .i64)
  x3 : X3 = M.d.map (Value.int .i64)
  x4 : X4 = M.q.map (Value.int .i64)
  l0 : n0 = M.p.length
  l1 : n1 = M.r.length
  l2 : n2 = M.c.length
  l3 : n3 = M.d.length
  l4 : n4 = M.q.length
theorem getLastD_mem {l : List Int} (h : l.length ≠ 0) (d : Int) : l.getLastD d ∈ l := by
  cases l with
  | nil => simp at h
  | cons a l => rw [List.getLastD_cons]; cases l <;> simp [List.getLastD_eq_getLast?, List.getLast?_eq_some_getLast]
theorem mOne_wf {M : MS} {i : Nat} (h : MW M i i i) (hc : ∀ x ∈ M.c, x < (i : Int)) (hl : M.c.length ≤ i) (hr : M.r.length ≤ i) (ch : Int) : MW (mOne M ch).1 i i i ∧ (∀ x ∈ (mOne M ch).1.c, x < (i : Int)) ∧ (mOne M ch).1.c.length ≤ i := by
  unfold mOne
  cases isR ch with
  | false => exact ⟨h, hc, hl⟩
  | true =>
    simp only [cond_true]
    split
    · exact ⟨⟨h.p, h.q, h.d, by simp; omega, h.c, h.cs⟩, hc, hl⟩
    · exact ⟨⟨by simp [h.p], h.q, h.d, h.r, by have := h.c; simp; omega, fun x hx => h.cs x ((List.dropLast_sublist _).subset hx)⟩, fun x hx => hc x ((List.dropLast_sublist _).subset hx), by simp; omega⟩
theorem mTwo_wf {a : MS × Int} {i : Nat} (h : MW a.1 i i i) (hc : ∀ x ∈ a.1.c, x < (i : Int)) (hl : a.1.c.length ≤ i) (ch : Int) : MW (mTwo a ch).1 i i i := by
  unfold mTwo
  cases isC ch with
  | false => exact h
  | true =>
    refine ⟨h.p, h.q, h.d, h.r, by simp; omega, fun x hx => ?_⟩
    simp at hx
    rcases hx with hx | rfl
    · exact h.cs x hx
    · have := h.p; omega
theorem mAt_wf (s : ByteArray) : ∀ i, MW (mAt s i) i i i ∧ (∀ x ∈ (mAt s i).c, x < (i : Int)) ∧ (mAt s i).c.length ≤ i ∧ (mAt s i).r.length ≤ i
  | 0 => ⟨⟨rfl, rfl, rfl, by simp [mAt], by simp [mAt], by simp [mAt]⟩, by simp [mAt], by simp [mAt], by simp [mAt]⟩
  | i + 1 => by
    obtain ⟨h, hc, hl, hr⟩ := mAt_wf s i
    obtain ⟨h1, hc1, hl1⟩ := mOne_wf h hc hl hr (bt s (i : Int))
    have h2 := mTwo_wf h1 hc1 hl1 (bt s (i : Int))
    have hr2 : (mTwo (mOne (mAt s i) (bt s (i : Int))) (bt s (i : Int))).1.r.length ≤ i + 1 := h2.r
    have hc2 := h2.c
    have hcs2 := h2.cs
    refine ⟨⟨?_, ?_, ?_, ?_, ?_, ?_⟩, ?_, ?_, ?_⟩
    · show ((mTwo _ _).1.p ++ [_]).length = i + 1; rw [List.length_append, h2.p]; rfl
    · show ((mTwo _ _).1.q ++ [_]).length = i + 1; rw [List.length_append, h2.q]; rfl
    · show ((mTwo _ _).1.d ++ [_]).length = i + 1 + 1; rw [List.length_append, h2.d]; rfl
    · show (mTwo _ _).1.r.length ≤ _; omega
    · show (mTwo _ _).1.c.length ≤ _; omega
    · intro x hx; have := hcs2 x hx; omega
    · intro x hx; have := hcs2 x hx; omega
    · exact hc2
    · exact hr2
section
variable {M : MS} {ch : Int} {n0 n1 n2 n3 n4 : Nat} {X0 X1 X2 X3 X4 : List Value}
theorem mt_ret0 (h : MT M n0 n1 n2 n3 n4 X0 X1 X2 X3 X4) (hr : isR ch = true) (h0 : M.c.length = 0) {i : Int} (hi : i = (M.p.length : Int)) : MT (mOne M ch).1 n0 (n1 + 1) n2 n3 n4 X0 (X1 ++ [.int .i64 i]) X2 X3 X4 ∧ -2 = (mOne M ch).2 := by
  subst hi
  obtain ⟨rfl, rfl, rfl, rfl, rfl, rfl, rfl, rfl, rfl, rfl⟩ := h
  simp only [mOne, hr, cond_true, if_pos h0]
  exact ⟨⟨rfl, by simp, rfl, rfl, rfl, rfl, by simp, rfl, rfl, rfl⟩, by trivial⟩
theorem mt_ret (h : MT M n0 n1 n2 n3 n4 X0 X1 X2 X3 X4) (hr : isR ch = true) (h0 : ¬ M.c.length = 0) {i : Int} (hi : i = (M.p.length : Int)) :
    MT (mOne M ch).1 n0 n1 (n2 - 1) n3 n4 (X0.set (M.c.getLastD (-1)).toNat (.int .i64 i)) X1 (X2.take ((n2 - 1) * 1)) X3 X4 ∧ M.c.getLastD (-1) = (mOne M ch).2 := by
  subst hi
  obtain ⟨rfl, rfl, rfl, rfl, rfl, rfl, rfl, rfl, rfl, rfl⟩ := h
  simp only [mOne, hr, cond_true, if_neg h0]
  exact ⟨⟨by simp [List.map_set], rfl, by rw [Nat.mul_one, List.dropLast_eq_take, List.map_take], rfl, rfl, by simp, rfl, by simp, rfl, rfl⟩, by trivial⟩
theorem mt_none (h : MT M n0 n1 n2 n3 n4 X0 X1 X2 X3 X4) (hr : isR ch = false) : MT (mOne M ch).1 n0 n1 n2 n3 n4 X0 X1 X2 X3 X4 ∧ -1 = (mOne M ch).2 := by
  simp only [mOne, hr, cond_false]; exact ⟨h, by trivial⟩
theorem mt_call {a : MS × Int} (h : MT a.1 n0 n1 n2 n3 n4 X0 X1 X2 X3 X4) (hr : isC ch = true) {i : Int} (hi : i = (a.1.p.length : Int)) : MT (mTwo a ch).1 n0 n1 (n2 + 1) n3 n4 X0 X1 (X2 ++ [.int .i64 i]) X3 X4 ∧ -2 = (mTwo a ch).2 := by
  subst hi
  obtain ⟨rfl, rfl, rfl, rfl, rfl, rfl, rfl, rfl, rfl, rfl⟩ := h
  simp only [mTwo, hr, cond_true]
  exact ⟨⟨rfl, rfl, by simp, rfl, rfl, rfl, rfl, by simp, rfl, rfl⟩, by trivial⟩
theorem mt_nocall {a : MS × Int} (h : MT a.1 n0 n1 n2 n3 n4 X0 X1 X2 X3 X4) (hr : isC ch = false) : MT (mTwo a ch).1 n0 n1 n2 n3 n4 X0 X1 X2 X3 X4 ∧ a.2 = (mTwo a ch).2 := by
  simp only [mTwo, hr, cond_false]; exact ⟨h, by trivial⟩
theorem mt_three {a : MS × Int} (h : MT a.1 n0 n1 n2 n3 n4 X0 X1 X2 X3 X4) {l pa : Int} (hl : l = a.2) : MT (mThree a pa) (n0 + 1) n1 n2 n3 (n4 + 1) (X0 ++ [.int .i64 l]) X1 X2 X3 (X4 ++ [.int .i64 pa]) := by
  subst hl
  obtain ⟨rfl, rfl, rfl, rfl, rfl, rfl, rfl, rfl, rfl, rfl⟩ := h
  exact ⟨by simp [mThree], rfl, rfl, rfl, by simp [mThree], by simp [mThree], rfl, rfl, rfl, by simp [mThree]⟩
theorem mt_four (h : MT M n0 n1 n2 n3 n4 X0 X1 X2 X3 X4) : MT (mFour M) n0 n1 n2 (n3 + 1) n4 X0 X1 X2 (X3 ++ [.int .i64 (n2 : Int)]) X4 := by
  obtain ⟨rfl, rfl, rfl, rfl, rfl, rfl, rfl, rfl, rfl, rfl⟩ := h
  exact ⟨rfl, rfl, rfl, by simp [mFour], rfl, rfl, rfl, rfl, by simp [mFour], rfl⟩
theorem MT.last (h : MT M n0 n1 n2 n3 n4 X0 X1 X2 X3 X4) (h0 : 0 < n2) : X2[((n2 : Int) - 1).toNat]? = some (.int .i64 (M.c.getLastD (-1))) := by
  obtain ⟨-, -, rfl, -, -, -, -, rfl, -, -⟩ := h
  have e : ((M.c.length : Int) - 1).toNat = M.c.length - 1 := by omega
  rw [e, List.getElem?_map, ← List.getLast?_eq_getElem?, List.getLastD_eq_getLast?]
  cases hq : M.c.getLast? with
  | none => simp at hq; rw [hq] at h0; simp at h0
  | some x => rfl
end
theorem size187 (A : Option Addr) (m c : Nat) (w : World) :
    Calls Try.prog 187 #[.slice A m c] w fun e w' => e = .returned (.int .i64 (m : Int)) ∧ w = w' := by
  have s0 := Sat.start w
  refine calls_of_cw (args := [.slice A m c]) Try.func187 Try.ntmps187 rfl (by simp) ?_
  refine cw_seq ?_
  refine cw_region ?_
  refine ow_val rfl rfl (by decide) (e_assign rfl) ?_
  refine ow_nil ?_
  refine then_normal ?_
  refine cw_seq ?_
  refine cw_region ?_
  refine ow_val rfl rfl (by decide) (e_move rfl) ?_
  refine ow_val rfl rfl (by decide) (e_len_slice rfl Try.underlying34) ?_
  refine ow_val rfl rfl (by decide) (e_assign rfl) ?_
  refine ow_nil ?_
  refine then_normal ?_
  refine cw_ret ?_
  refine ends1 (v := .int .i64 (m : Int)) (.inl rfl) Try.results187 rfl ?_
  exact ⟨rfl, rfl⟩
set_option maxHeartbeats 1000000 in
theorem match_calls (s : ByteArray) (w : World) (hsz : s.size ≤ 1000000) :
    Calls Try.prog 165 #[.string s] w fun e w' => ∃ A0 A1 A2 A3 A4 c0 c1 c2 c3 c4 n0 n1 n2 n3 n4 X0 X1 X2 X3 X4, MT (mAt s s.size) n0 n1 n2 n3 n4 X0 X1 X2 X3 X4 ∧
      e = .returned (.agg #[.slice A0 n0 c0, .slice A1 n1 c1, .slice A2 n2 c2, .slice A3 n3 c3, .slice A4 n4 c4]) ∧ Part w w' [Sl 2 1 (.slice A0 n0 c0) n0 X0, Sl 2 1 (.slice A1 n1 c1) n1 X1, Sl 2 1 (.slice A2 n2 c2) n2 X2, Sl 2 1 (.slice A3 n3 c3) n3 X3, Sl 2 1 (.slice A4 n4 c4) n4 X4] ∧ Below w.heap.size w w' := by
  have hmix : Try.prog.follows .mixedOrders = true := by kernel_rfl
  have s0 := Sat.start w
  refine calls_of_cw (args := [.string s]) Try.func165 Try.ntmps165 rfl (by simp) ?_
  refine cw_seq ?_
  refine cw_region ?_
  refine o_alloc zero224 s0 (by decide) (fun b1 w2 s2 => ?_)
  refine ow_nil ?_
  refine then_normal ?_
  refine cw_seq ?_
  refine cw_region ?_
  refine o_buildSlice1 (v := .int .i64 0) rfl rfl slt34 s2 (by decide) (fun b3 w4 s4 => ?_)
  refine o_build (cs := [.slice none 0 0, .slice none 0 0, .slice none 0 0, .slice (some ⟨b3, 0, none⟩) 1 1, .slice none 0 0]) rfl (by kernel_rfl) (by decide) ?_
  refine o_alloc zero224 s4 (by decide) (fun b5 w6 s6 => ?_)
  refine o_storeBlk rfl rfl (by simp [Value.oneCell']) agg224 rfl s6 (i := 0) rfl (Nat.le_of_ble_eq_true rfl) (fun w7 s7 => ?_)
  refine ow_nil ?_
  refine then_normal ?_
  refine cw_seq ?_
  refine cw_seq ?_
  refine cw_region ?_
  have s8 := ((((s7.impAt 1 rfl (Blk.toSl (m := 1) (sz := 1) rfl (by decide))).pushNil 2 1).pushNil 2 1).pushNil 2 1).pushNil 2 1
  refine ow_val rfl rfl (by decide) (e_move rfl) ?_
  refine ow_val rfl rfl (by decide) (e_len_str rfl Try.underlying9) ?_
  refine ow_val rfl rfl (by decide) (e_move rfl) ?_
  refine ow_nil ?_
  refine then_normal ?_
  refine cw_block ?_
  refine cw_loop (fun μ_ f_ w_ => ∃ i : Nat, ∃ A0 : Option Addr, ∃ A1 : Option Addr, ∃ A2 : Option Addr, ∃ A3 : Option Addr, ∃ A4 : Option Addr, ∃ c0 : Nat, ∃ c1 : Nat, ∃ c2 : Nat, ∃ c3 : Nat, ∃ c4 : Nat, ∃ n0 : Nat, ∃ n1 : Nat, ∃ n2 : Nat, ∃ n3 : Nat, ∃ n4 : Nat, ∃ X0 : List Value, ∃ X1 : List Value, ∃ X2 : List Value, ∃ X3 : List Value, ∃ X4 : List Value, μ_ = s.size - i ∧ f_ 0 = .string s ∧ f_ 2 = .pointer (some ⟨b1, 0, none⟩) ∧ f_ 3 = .pointer (some ⟨b5, 0, none⟩) ∧ f_ 13 = .int .i64 (s.size : Int) ∧ f_ 14 = .int .i64 (i : Int) ∧ (i ≤ s.size) ∧ (MT (mAt s i) n0 n1 n2 n3 n4 X0 X1 X2 X3 X4) ∧ Sat w w_ [Blk b5 224 [.slice A0 n0 c0, .slice A1 n1 c1, .slice A2 n2 c2, .slice A3 n3 c3, .slice A4 n4 c4], Sl 2 1 (.slice A0 n0 c0) n0 X0, Sl 2 1 (.slice A1 n1 c1) n1 X1, Sl 2 1 (.slice A2 n2 c2) n2 X2, Sl 2 1 (.slice A3 n3 c3) n3 X3, Sl 2 1 (.slice A4 n4 c4) n4 X4, Blk b1 224 [.slice none 0 0, .slice none 0 0, .slice none 0 0, .slice none 0 0, .slice none 0 0], Old w]) s.size ⟨0, none, none, none, (some ⟨b3, 0, none⟩), none, 0, 0, 0, 1, 0, 0, 0, 0, 1, 0, _, _, _, _, _, rfl, rfl, rfl, rfl, rfl, rfl, Nat.zero_le _, ⟨rfl, rfl, rfl, rfl, rfl, rfl, rfl, rfl, rfl, rfl⟩, (s8.pickN 8 [5, 0, 1, 2, 4, 3, 6, 7] rfl (by decide) rfl)⟩ ?_
  intro k_ f_ w_ h_
  obtain ⟨i, A0, A1, A2, A3, A4, c0, c1, c2, c3, c4, n0, n1, n2, n3, n4, X0, X1, X2, X3, X4, rfl, e9_0, e9_2, e9_3, e9_13, e9_14, hi, hT, s9⟩ := h_
  skip
  obtain ⟨h, hc, hcl, hrl⟩ := mAt_wf s i
  obtain ⟨hp, hq, hd, -, -, -⟩ := id h
  obtain ⟨-, -, -, -, -, hl0, hl1, hl2, hl3, hl4⟩ := id hT
  refine cw_seq ?_
  refine cw_region ?_
  refine ow_val rfl rfl (by decide) (e_lss e9_14 e9_13) ?_
  refine ow_nil ?_
  refine then_normal ?_
  refine cw_seq ?_
  refine cw_cond rfl (fun c10 => ?_) (fun c10 => ?_)
  · skip
    have hlt : i < s.size := by have := of_decide_eq_true c10; omega
    refine cw_skip ?_
    refine then_normal ?_
    refine cw_seq ?_
    refine cw_block ?_
    refine cw_seq ?_
    refine cw_region ?_
    refine ow_val rfl rfl (by decide) (e_move e9_14) ?_
    refine ow_val rfl rfl (by decide) (e_assign rfl) ?_
    refine ow_nil ?_
    refine then_normal ?_
    refine cw_seq ?_
    refine cw_region ?_
    refine ow_val rfl rfl (by decide) (e_move rfl) ?_
    refine ow_val rfl rfl (by decide) (e_assign rfl) ?_
    refine ow_val rfl rfl (by decide) (e_assign rfl) ?_
    refine ow_nil ?_
    refine then_normal ?_
    refine cw_seq ?_
    refine cw_region ?_
    refine ow_val rfl rfl (by decide) (e_fieldAddr e9_3 field224_2) ?_
    refine ow_val rfl rfl (by decide) (e_load rfl flat34 (s9.cell 0 rfl (Blk.reads rfl))) ?_
    refine ow_val rfl rfl (by decide) (e_len_slice rfl Try.underlying34) ?_
    refine ow_val rfl rfl (by decide) (e_assign rfl) ?_
    refine ow_nil ?_
    refine then_normal ?_
    refine cw_cut (fun f_ w_ => ∃ A0 : Option Addr, ∃ A1 : Option Addr, ∃ A2 : Option Addr, ∃ A3 : Option Addr, ∃ A4 : Option Addr, ∃ c0 : Nat, ∃ c1 : Nat, ∃ c2 : Nat, ∃ c3 : Nat, ∃ c4 : Nat, ∃ n0 : Nat, ∃ n1 : Nat, ∃ n2 : Nat, ∃ n3 : Nat, ∃ n4 : Nat, ∃ X0 : List Value, ∃ X1 : List Value, ∃ X2 : List Value, ∃ X3 : List Value, ∃ X4 : List Value, ∃ l : Int, f_ 0 = .string s ∧ f_ 2 = .pointer (some ⟨b1, 0, none⟩) ∧ f_ 3 = .pointer (some ⟨b5, 0, none⟩) ∧ f_ 4 = .int .i64 (i : Int) ∧ f_ 5 = .int .i64 (i : Int) ∧ f_ 6 = .int .i64 l ∧ f_ 13 = .int .i64 (s.size : Int) ∧ f_ 14 = .int .i64 (i : Int) ∧ (MT (mOne (mAt s i) (bt s (i : Int))).1 n0 n1 n2 n3 n4 X0 X1 X2 X3 X4) ∧ (l = (mOne (mAt s i) (bt s (i : Int))).2) ∧ Sat w w_ [Blk b5 224 [.slice A0 n0 c0, .slice A1 n1 c1, .slice A2 n2 c2, .slice A3 n3 c3, .slice A4 n4 c4], Sl 2 1 (.slice A0 n0 c0) n0 X0, Sl 2 1 (.slice A1 n1 c1) n1 X1, Sl 2 1 (.slice A2 n2 c2) n2 X2, Sl 2 1 (.slice A3 n3 c3) n3 X3, Sl 2 1 (.slice A4 n4 c4) n4 X4, Blk b1 224 [.slice none 0 0, .slice none 0 0, .slice none 0 0, .slice none 0 0, .slice none 0 0], Old w]) ?_ ?_
    · skip
      refine cw_block ?_
      refine cw_seq ?_
      refine cw_region ?_
      refine ow_val rfl rfl (by decide) (e_move e9_0) ?_
      refine ow_val rfl rfl (by decide) (e_move rfl) ?_
      refine ow_val rfl rfl (by decide) (e_idxBt rfl rfl Try.underlying9 (by omega) (by omega)) ?_
      refine o_call enter243 rfl (by decide) ?_
      refine (isReturn_calls _ _).mono ?_
      rintro e_ w_1 ⟨rfl, rfl⟩
      refine ⟨_, rfl, ?_⟩
      refine ow_val rfl rfl (by decide) (e_move rfl) ?_
      refine ow_split (g := 26) (by decide) rfl (fun g11 => ?_) (fun g11 => ?_)
      · skip
        have hisr : isR (bt s (i : Int)) = true := g11
        refine ow_in rfl rfl ?_
        refine ow_val rfl rfl (by decide) (e_move rfl) ?_
        refine ow_in rfl rfl ?_
        refine ow_val rfl rfl (by decide) (e_eql rfl rfl) ?_
        refine ow_val rfl rfl (by decide) (e_pick rfl) ?_
        refine ow_val rfl rfl (by decide) (e_assign rfl) ?_
        refine ow_nil ?_
        refine then_normal ?_
        refine cw_cond rfl (fun c12 => ?_) (fun c12 => ?_)
        · skip
          have hce : (mAt s i).c.length = 0 := (by have := eq_of_beq c12; omega)
          refine cw_seq ?_
          refine cw_region ?_
          refine ow_val rfl rfl (by decide) (e_assign rfl) ?_
          refine ow_nil ?_
          refine then_normal ?_
          refine cw_region ?_
          refine ow_val rfl rfl (by decide) (e_fieldAddr e9_3 field224_1) ?_
          refine ow_val rfl rfl (by decide) (e_load rfl flat34 (s9.cell 0 rfl (Blk.reads rfl))) ?_
          refine ow_val rfl rfl (by decide) (e_move rfl) ?_
          refine o_buildSlice1 (v := .int .i64 (i : Int)) rfl rfl slt34 s9 (by decide) (fun b13 w14 s14 => ?_)
          refine o_append1 rfl rfl slt34 (s14.rot 3 rfl) (j := 1) rfl rfl (by omega) (by omega) (by decide) (fun A16 c17 w15 s15 => ?_)
          refine ow_val rfl rfl (by decide) (e_fieldAddr e9_3 field224_1) ?_
          refine o_store rfl rfl rfl flat34 s15 (i := 2) rfl (Blk.writes _ (Nat.le_of_ble_eq_true rfl)) (fun w18 s18 => ?_)
          refine ow_nil ?_
          refine inb_normal ?_
          refine then_normal ?_
          exact ⟨A0, A16, A2, A3, A4, c0, c17, c2, c3, c4, n0, (n1 + 1), n2, n3, n4, _, _, _, _, _, -2, e9_0, e9_2, e9_3, rfl, rfl, rfl, e9_13, e9_14, (mt_ret0 hT hisr hce (i := (i : Int)) (by omega)).1, (mt_ret0 hT hisr hce (i := (i : Int)) (by omega)).2, (s18.pickN 9 [2, 3, 0, 4, 5, 6, 7, 8] rfl (by decide) rfl)⟩
        · skip
          have hne : ¬ (mAt s i).c.length = 0 := (by have := ne_of_beq_false c12; omega)
          refine cw_seq ?_
          refine cw_region ?_
          refine ow_val rfl rfl (by decide) (e_move e9_0) ?_
          refine ow_val rfl rfl (by decide) (e_move rfl) ?_
          refine ow_val rfl rfl (by decide) (e_idxBt rfl rfl Try.underlying9 (by omega) (by omega)) ?_
          refine o_call enter243 rfl (by decide) ?_
          refine (isReturn_calls _ _).mono ?_
          rintro e_ w_1 ⟨rfl, rfl⟩
          refine ⟨_, rfl, ?_⟩
          refine ow_val rfl rfl (by decide) (e_assign rfl) ?_
          refine ow_nil ?_
          refine then_normal ?_
          refine cw_cond rfl (fun c19 => ?_) (fun c19 => ?_)
          · skip
            skip
            refine cw_seq ?_
            refine cw_region ?_
            refine ow_val rfl rfl (by decide) (e_fieldAddr e9_3 field224_2) ?_
            refine ow_val rfl rfl (by decide) (e_load rfl flat34 (s9.cell 0 rfl (Blk.reads rfl))) ?_
            refine ow_val rfl rfl (by decide) (e_move rfl) ?_
            refine o_subI rfl rfl (by omega) (by omega) (by decide) ?_
            obtain ⟨g20, rfl⟩ := s9.slSome 3 rfl (by omega)
            refine o_idxS rfl rfl slt34 (by omega) (by omega) (by decide) ?_
            refine ow_val rfl rfl (by decide) (e_load rfl flat2 (s9.slCell 3 rfl (hT.last (by omega)))) ?_
            refine ow_val rfl rfl (by decide) (e_assign rfl) ?_
            refine ow_nil ?_
            refine then_normal ?_
            refine cw_seq ?_
            refine cw_region ?_
            have hlast := h.cs _ (getLastD_mem hne (-1))
            have hlast2 := hc _ (getLastD_mem hne (-1))
            refine ow_val rfl rfl (by decide) (e_fieldAddr e9_3 field224_0) ?_
            refine ow_val rfl rfl (by decide) (e_load rfl flat34 (s9.cell 0 rfl (Blk.reads rfl))) ?_
            refine ow_val rfl rfl (by decide) (e_move rfl) ?_
            refine ow_val rfl rfl (by decide) (e_move rfl) ?_
            obtain ⟨g21, rfl⟩ := s9.slSome 1 rfl (by omega)
            refine o_idxS rfl rfl slt34 (by omega) (by omega) (by decide) ?_
            refine o_store rfl rfl rfl flat2 s9 (i := 1) rfl (slWrites _ (by rw [hT.x0, List.length_map]; omega)) (fun w22 s22 => ?_)
            refine ow_nil ?_
            refine then_normal ?_
            refine cw_region ?_
            refine ow_val rfl rfl (by decide) (e_fieldAddr e9_3 field224_2) ?_
            refine ow_val rfl rfl (by decide) (e_load rfl flat34 (s22.cell 0 rfl (Blk.reads rfl))) ?_
            refine ow_val rfl rfl (by decide) (e_move rfl) ?_
            refine o_subI rfl rfl (by omega) (by omega) (by decide) ?_
            have hle_ := (s22.slLen 3 rfl).2.1
            have s23 := s22.impAt 3 rfl (Sl.shrink (k := n2 - 1) (by omega))
            refine o_sliceH (h := n2 - 1) rfl rfl slt34 (by omega) (by omega) (by decide) ?_
            refine ow_val rfl rfl (by decide) (e_fieldAddr e9_3 field224_2) ?_
            refine o_store rfl rfl rfl flat34 s23 (i := 1) rfl (Blk.writes _ (Nat.le_of_ble_eq_true rfl)) (fun w24 s24 => ?_)
            refine ow_nil ?_
            refine inb_normal ?_
            refine then_normal ?_
            exact ⟨(some ⟨g21, 0, none⟩), A1, (some ⟨g20, 0, none⟩), A3, A4, c0, c1, c2, c3, c4, n0, n1, (n2 - 1), n3, n4, _, _, _, _, _, ((mAt s i).c.getLastD (-1)), e9_0, e9_2, e9_3, rfl, rfl, rfl, e9_13, e9_14, (mt_ret hT hisr hne (i := (i : Int)) (by omega)).1, (mt_ret hT hisr hne (i := (i : Int)) (by omega)).2, (s24.pickN 8 [1, 2, 3, 0, 4, 5, 6, 7] rfl (by decide) rfl)⟩
          · skip
            rw [hisr] at c19; cases c19
      · skip
        have hisn : isR (bt s (i : Int)) = false := g11
        refine ow_out rfl rfl rfl (by decide) ?_
        refine ow_out rfl rfl rfl (by decide) ?_
        refine ow_val rfl rfl (by decide) (e_pick rfl) ?_
        refine ow_val rfl rfl (by decide) (e_assign rfl) ?_
        refine ow_nil ?_
        refine then_normal ?_
        refine cw_cond_false rfl ?_
        refine cw_seq ?_
        refine cw_region ?_
        refine ow_val rfl rfl (by decide) (e_move e9_0) ?_
        refine ow_val rfl rfl (by decide) (e_move rfl) ?_
        refine ow_val rfl rfl (by decide) (e_idxBt rfl rfl Try.underlying9 (by omega) (by omega)) ?_
        refine o_call enter243 rfl (by decide) ?_
        refine (isReturn_calls _ _).mono ?_
        rintro e_ w_1 ⟨rfl, rfl⟩
        refine ⟨_, rfl, ?_⟩
        refine ow_val rfl rfl (by decide) (e_assign rfl) ?_
        refine ow_nil ?_
        refine then_normal ?_
        refine cw_cond rfl (fun c26 => ?_) (fun c26 => ?_)
        · skip
          rw [hisn] at c26; cases c26
        · skip
          skip
          refine cw_skip ?_
          refine inb_normal ?_
          refine then_normal ?_
          exact ⟨A0, A1, A2, A3, A4, c0, c1, c2, c3, c4, n0, n1, n2, n3, n4, _, _, _, _, _, -1, e9_0, e9_2, e9_3, rfl, rfl, rfl, e9_13, e9_14, (mt_none hT hisn).1, (mt_none hT hisn).2, s9⟩
    · intro f_ w_ h_
      obtain ⟨A0, A1, A2, A3, A4, c0, c1, c2, c3, c4, n0, n1, n2, n3, n4, X0, X1, X2, X3, X4, l, e27_0, e27_2, e27_3, e27_4, e27_5, e27_6, e27_13, e27_14, hT, hl, s27⟩ := h_
      skip
      obtain ⟨hw1, hwc1, hwl1⟩ := mOne_wf h hc hcl hrl (bt s (i : Int))
      obtain ⟨hp1, hq1, hd1, hr1, hc1, -⟩ := id hw1
      clear hl0 hl1 hl2 hl3 hl4
      obtain ⟨-, -, -, -, -, hl0, hl1, hl2, hl3, hl4⟩ := id hT
      refine cw_seq ?_
      refine cw_region ?_
      refine ow_val rfl rfl (by decide) (e_assign rfl) ?_
      refine ow_nil ?_
      refine then_normal ?_
      refine cw_cut (fun f_ w_ => ∃ A0 : Option Addr, ∃ A1 : Option Addr, ∃ A2 : Option Addr, ∃ A3 : Option Addr, ∃ A4 : Option Addr, ∃ c0 : Nat, ∃ c1 : Nat, ∃ c2 : Nat, ∃ c3 : Nat, ∃ c4 : Nat, ∃ n0 : Nat, ∃ n1 : Nat, ∃ n2 : Nat, ∃ n3 : Nat, ∃ n4 : Nat, ∃ X0 : List Value, ∃ X1 : List Value, ∃ X2 : List Value, ∃ X3 : List Value, ∃ X4 : List Value, ∃ l : Int, ∃ pa : Int, f_ 0 = .string s ∧ f_ 2 = .pointer (some ⟨b1, 0, none⟩) ∧ f_ 3 = .pointer (some ⟨b5, 0, none⟩) ∧ f_ 4 = .int .i64 (i : Int) ∧ f_ 5 = .int .i64 (i : Int) ∧ f_ 6 = .int .i64 l ∧ f_ 8 = .int .i64 pa ∧ f_ 13 = .int .i64 (s.size : Int) ∧ f_ 14 = .int .i64 (i : Int) ∧ (MT (mOne (mAt s i) (bt s (i : Int))).1 n0 n1 n2 n3 n4 X0 X1 X2 X3 X4) ∧ (l = (mOne (mAt s i) (bt s (i : Int))).2) ∧ (pa = (mOne (mAt s i) (bt s (i : Int))).1.c.getLastD (-1)) ∧ Sat w w_ [Blk b5 224 [.slice A0 n0 c0, .slice A1 n1 c1, .slice A2 n2 c2, .slice A3 n3 c3, .slice A4 n4 c4], Sl 2 1 (.slice A0 n0 c0) n0 X0, Sl 2 1 (.slice A1 n1 c1) n1 X1, Sl 2 1 (.slice A2 n2 c2) n2 X2, Sl 2 1 (.slice A3 n3 c3) n3 X3, Sl 2 1 (.slice A4 n4 c4) n4 X4, Blk b1 224 [.slice none 0 0, .slice none 0 0, .slice none 0 0, .slice none 0 0, .slice none 0 0], Old w]) ?_ ?_
      · skip
        refine cw_seq ?_
        refine cw_region ?_
        refine ow_val rfl rfl (by decide) (e_fieldAddr e27_3 field224_2) ?_
        refine ow_val rfl rfl (by decide) (e_load rfl flat34 (s27.cell 0 rfl (Blk.reads rfl))) ?_
        refine ow_val rfl rfl (by decide) (e_len_slice rfl Try.underlying34) ?_
        refine ow_val rfl rfl (by decide) (e_assign rfl) ?_
        refine ow_nil ?_
        refine then_normal ?_
        refine cw_seq ?_
        refine cw_region ?_
        refine ow_val rfl rfl (by decide) (e_move rfl) ?_
        refine ow_val rfl rfl (by decide) (e_gtr rfl rfl) ?_
        refine ow_nil ?_
        refine then_normal ?_
        refine cw_cond rfl (fun c28 => ?_) (fun c28 => ?_)
        · skip
          have hpos : 0 < n2 := by have := of_decide_eq_true c28; omega
          refine cw_region ?_
          refine ow_val rfl rfl (by decide) (e_fieldAddr e27_3 field224_2) ?_
          refine ow_val rfl rfl (by decide) (e_load rfl flat34 (s27.cell 0 rfl (Blk.reads rfl))) ?_
          refine ow_val rfl rfl (by decide) (e_move rfl) ?_
          refine o_subI rfl rfl (by omega) (by omega) (by decide) ?_
          obtain ⟨g29, rfl⟩ := s27.slSome 3 rfl (by omega)
          refine o_idxS rfl rfl slt34 (by omega) (by omega) (by decide) ?_
          refine ow_val rfl rfl (by decide) (e_load rfl flat2 (s27.slCell 3 rfl (hT.last (by omega)))) ?_
          refine ow_val rfl rfl (by decide) (e_assign rfl) ?_
          refine ow_nil ?_
          refine then_normal ?_
          exact ⟨A0, A1, (some ⟨g29, 0, none⟩), A3, A4, c0, c1, c2, c3, c4, n0, n1, n2, n3, n4, _, _, _, _, _, l, ((mOne (mAt s i) (bt s (i : Int))).1.c.getLastD (-1)), e27_0, e27_2, e27_3, e27_4, e27_5, e27_6, rfl, e27_13, e27_14, hT, hl, rfl, s27⟩
        · skip
          have hz : n2 = 0 := by have := of_decide_eq_false c28; omega
          refine cw_skip ?_
          refine then_normal ?_
          exact ⟨A0, A1, A2, A3, A4, c0, c1, c2, c3, c4, n0, n1, n2, n3, n4, _, _, _, _, _, l, (-1), e27_0, e27_2, e27_3, e27_4, e27_5, e27_6, rfl, e27_13, e27_14, hT, hl, by have e0 : (mOne (mAt s i) (bt s (i : Int))).1.c = [] := List.eq_nil_of_length_eq_zero (by omega); rw [e0]; rfl, s27⟩
      · intro f_ w_ h_
        obtain ⟨A0, A1, A2, A3, A4, c0, c1, c2, c3, c4, n0, n1, n2, n3, n4, X0, X1, X2, X3, X4, l, pa, e30_0, e30_2, e30_3, e30_4, e30_5, e30_6, e30_8, e30_13, e30_14, hT, hl, hpa, s30⟩ := h_
        skip
        clear hl0 hl1 hl2 hl3 hl4
        obtain ⟨-, -, -, -, -, hl0, hl1, hl2, hl3, hl4⟩ := id hT
        refine cw_cut (fun f_ w_ => ∃ A0 : Option Addr, ∃ A1 : Option Addr, ∃ A2 : Option Addr, ∃ A3 : Option Addr, ∃ A4 : Option Addr, ∃ c0 : Nat, ∃ c1 : Nat, ∃ c2 : Nat, ∃ c3 : Nat, ∃ c4 : Nat, ∃ n0 : Nat, ∃ n1 : Nat, ∃ n2 : Nat, ∃ n3 : Nat, ∃ n4 : Nat, ∃ X0 : List Value, ∃ X1 : List Value, ∃ X2 : List Value, ∃ X3 : List Value, ∃ X4 : List Value, ∃ l : Int, ∃ pa : Int, f_ 0 = .string s ∧ f_ 2 = .pointer (some ⟨b1, 0, none⟩) ∧ f_ 3 = .pointer (some ⟨b5, 0, none⟩) ∧ f_ 4 = .int .i64 (i : Int) ∧ f_ 5 = .int .i64 (i : Int) ∧ f_ 6 = .int .i64 l ∧ f_ 8 = .int .i64 pa ∧ f_ 13 = .int .i64 (s.size : Int) ∧ f_ 14 = .int .i64 (i : Int) ∧ (MT (mTwo (mOne (mAt s i) (bt s (i : Int))) (bt s (i : Int))).1 n0 n1 n2 n3 n4 X0 X1 X2 X3 X4) ∧ (l = (mTwo (mOne (mAt s i) (bt s (i : Int))) (bt s (i : Int))).2) ∧ (pa = (mOne (mAt s i) (bt s (i : Int))).1.c.getLastD (-1)) ∧ Sat w w_ [Blk b5 224 [.slice A0 n0 c0, .slice A1 n1 c1, .slice A2 n2 c2, .slice A3 n3 c3, .slice A4 n4 c4], Sl 2 1 (.slice A0 n0 c0) n0 X0, Sl 2 1 (.slice A1 n1 c1) n1 X1, Sl 2 1 (.slice A2 n2 c2) n2 X2, Sl 2 1 (.slice A3 n3 c3) n3 X3, Sl 2 1 (.slice A4 n4 c4) n4 X4, Blk b1 224 [.slice none 0 0, .slice none 0 0, .slice none 0 0, .slice none 0 0, .slice none 0 0], Old w]) ?_ ?_
        · skip
          refine cw_seq ?_
          refine cw_region ?_
          refine ow_val rfl rfl (by decide) (e_move e30_0) ?_
          refine ow_val rfl rfl (by decide) (e_move e30_4) ?_
          refine ow_val rfl rfl (by decide) (e_idxBt rfl rfl Try.underlying9 (by omega) (by omega)) ?_
          refine o_call enter242 rfl (by decide) ?_
          refine (isCall_calls _ _).mono ?_
          rintro e_ w_1 ⟨rfl, rfl⟩
          refine ⟨_, rfl, ?_⟩
          refine ow_nil ?_
          refine then_normal ?_
          refine cw_cond rfl (fun c31 => ?_) (fun c31 => ?_)
          · skip
            have hisc : isC (bt s (i : Int)) = true := c31
            refine cw_seq ?_
            refine cw_region ?_
            refine ow_val rfl rfl (by decide) (e_assign rfl) ?_
            refine ow_nil ?_
            refine then_normal ?_
            refine cw_region ?_
            refine ow_val rfl rfl (by decide) (e_fieldAddr e30_3 field224_2) ?_
            refine ow_val rfl rfl (by decide) (e_load rfl flat34 (s30.cell 0 rfl (Blk.reads rfl))) ?_
            refine ow_val rfl rfl (by decide) (e_move e30_5) ?_
            refine o_buildSlice1 (v := .int .i64 (i : Int)) rfl rfl slt34 s30 (by decide) (fun b32 w33 s33 => ?_)
            refine o_append1 rfl rfl slt34 (s33.rot 4 rfl) (j := 1) rfl rfl (by omega) (by omega) (by decide) (fun A35 c36 w34 s34 => ?_)
            refine ow_val rfl rfl (by decide) (e_fieldAddr e30_3 field224_2) ?_
            refine o_store rfl rfl rfl flat34 s34 (i := 2) rfl (Blk.writes _ (Nat.le_of_ble_eq_true rfl)) (fun w37 s37 => ?_)
            refine ow_nil ?_
            refine then_normal ?_
            exact ⟨A0, A1, A35, A3, A4, c0, c1, c36, c3, c4, n0, n1, (n2 + 1), n3, n4, _, _, _, _, _, (-2), pa, e30_0, e30_2, e30_3, e30_4, e30_5, rfl, e30_8, e30_13, e30_14, (mt_call hT hisc (i := (i : Int)) (by omega)).1, (mt_call hT hisc (i := (i : Int)) (by omega)).2, hpa, (s37.pickN 9 [2, 3, 4, 0, 5, 6, 7, 8] rfl (by decide) rfl)⟩
          · skip
            have hisc : isC (bt s (i : Int)) = false := c31
            refine cw_skip ?_
            refine then_normal ?_
            exact ⟨A0, A1, A2, A3, A4, c0, c1, c2, c3, c4, n0, n1, n2, n3, n4, _, _, _, _, _, l, pa, e30_0, e30_2, e30_3, e30_4, e30_5, e30_6, e30_8, e30_13, e30_14, (mt_nocall hT hisc).1, hl.trans (mt_nocall hT hisc).2, hpa, s30⟩
        · intro f_ w_ h_
          obtain ⟨A0, A1, A2, A3, A4, c0, c1, c2, c3, c4, n0, n1, n2, n3, n4, X0, X1, X2, X3, X4, l, pa, e38_0, e38_2, e38_3, e38_4, e38_5, e38_6, e38_8, e38_13, e38_14, hT, hl, hpa, s38⟩ := h_
          skip
          obtain ⟨hp2, hq2, hd2, hr2, hc2, -⟩ := mTwo_wf hw1 hwc1 hwl1 (bt s (i : Int))
          clear hl0 hl1 hl2 hl3 hl4
          obtain ⟨-, -, -, -, -, hl0, hl1, hl2, hl3, hl4⟩ := id hT
          refine cw_cut (fun f_ w_ => ∃ A0 : Option Addr, ∃ A1 : Option Addr, ∃ A2 : Option Addr, ∃ A3 : Option Addr, ∃ A4 : Option Addr, ∃ c0 : Nat, ∃ c1 : Nat, ∃ c2 : Nat, ∃ c3 : Nat, ∃ c4 : Nat, ∃ n0 : Nat, ∃ n1 : Nat, ∃ n2 : Nat, ∃ n3 : Nat, ∃ n4 : Nat, ∃ X0 : List Value, ∃ X1 : List Value, ∃ X2 : List Value, ∃ X3 : List Value, ∃ X4 : List Value, f_ 0 = .string s ∧ f_ 2 = .pointer (some ⟨b1, 0, none⟩) ∧ f_ 3 = .pointer (some ⟨b5, 0, none⟩) ∧ f_ 4 = .int .i64 (i : Int) ∧ f_ 5 = .int .i64 (i : Int) ∧ f_ 13 = .int .i64 (s.size : Int) ∧ f_ 14 = .int .i64 (i : Int) ∧ (MT (mThree (mTwo (mOne (mAt s i) (bt s (i : Int))) (bt s (i : Int))) ((mOne (mAt s i) (bt s (i : Int))).1.c.getLastD (-1))) n0 n1 n2 n3 n4 X0 X1 X2 X3 X4) ∧ Sat w w_ [Blk b5 224 [.slice A0 n0 c0, .slice A1 n1 c1, .slice A2 n2 c2, .slice A3 n3 c3, .slice A4 n4 c4], Sl 2 1 (.slice A0 n0 c0) n0 X0, Sl 2 1 (.slice A1 n1 c1) n1 X1, Sl 2 1 (.slice A2 n2 c2) n2 X2, Sl 2 1 (.slice A3 n3 c3) n3 X3, Sl 2 1 (.slice A4 n4 c4) n4 X4, Blk b1 224 [.slice none 0 0, .slice none 0 0, .slice none 0 0, .slice none 0 0, .slice none 0 0], Old w]) ?_ ?_
          · skip
            refine al_keep #[false, false, false, false, false, false, false, false, false, false, false, false, false, false] [11, 12, 13] [0] s38 hmix rfl rfl (idxB 8 rfl (by decide)) (fun w39 s39 => ?_)
            refine al_take 0 #[true, false, false, false, false, false, false, false, false, false, false, false, false, false] rfl rfl (by decide) (by kernel_rfl) (fun _ _ _ h => h) (ya rfl (fun w_ s_ => e_fieldAddr e38_3 field224_0)) (s39.pickD [0] (idxB 8 rfl (by decide))) ?_
            refine al_take 1 #[true, true, false, false, false, false, false, false, false, false, false, false, false, false] rfl rfl (by decide) (by kernel_rfl) (fun _ _ _ h => h) (ya rfl (fun w_ s_ => e_load rfl flat34 (s_.cell 0 rfl (Blk.reads rfl)))) (s39.pickD [0] (idxB 8 rfl (by decide))) ?_
            refine al_take 2 #[true, true, true, false, false, false, false, false, false, false, false, false, false, false] rfl rfl (by decide) (by kernel_rfl) (fun _ _ _ h => h) (ya rfl (fun w_ s_ => e_move e38_6)) (s39.pickD [0] (idxB 8 rfl (by decide))) ?_
            refine al_take 5 #[true, true, true, false, false, true, false, false, false, false, false, false, false, false] rfl rfl (by decide) (by kernel_rfl) (fun _ _ _ h => h) (ya rfl (fun w_ s_ => e_fieldAddr e38_3 field224_4)) (s39.pickD [0] (idxB 8 rfl (by decide))) ?_
            refine al_take 6 #[true, true, true, false, false, true, true, false, false, false, false, false, false, false] rfl rfl (by decide) (by kernel_rfl) (fun _ _ _ h => h) (ya rfl (fun w_ s_ => e_load rfl flat34 (s_.cell 0 rfl (Blk.reads rfl)))) (s39.pickD [0] (idxB 8 rfl (by decide))) ?_
            refine al_take 7 #[true, true, true, false, false, true, true, true, false, false, false, false, false, false] rfl rfl (by decide) (by kernel_rfl) (fun _ _ _ h => h) (ya rfl (fun w_ s_ => e_move e38_8)) (s39.pickD [0] (idxB 8 rfl (by decide))) ?_
            refine al_two 3 8 #[true, true, true, true, false, true, true, true, false, false, false, false, false, false] #[true, true, true, false, false, true, true, true, true, false, false, false, false, false] (by kernel_rfl) rfl rfl ?_ ?_
            · skip
              refine o_buildSlice1 (v := .int .i64 l) rfl rfl slt34 s39 (by decide) (fun b40 w41 s41 => ?_)
              refine stepL_nil (fun _ => (s41.pickD [1] (idxB 9 rfl (by decide)))) ?_
              refine al_two 4 8 #[true, true, true, true, true, true, true, true, false, false, false, false, false, false] #[true, true, true, true, false, true, true, true, true, false, false, false, false, false] (by kernel_rfl) rfl rfl ?_ ?_
              · skip
                refine o_append1 rfl rfl slt34 (s41.rot 2 rfl) (j := 1) rfl rfl (by omega) (by omega) (by decide) (fun A43 c44 w42 s42 => ?_)
                refine stepL_nil (fun _ => (s42.pickD [2] (idxB 9 rfl (by decide)))) ?_
                refine al_take 10 #[true, true, true, true, true, true, true, true, false, false, true, false, false, false] rfl rfl (by decide) (by kernel_rfl) (fun _ _ _ h => h) (ya rfl (fun w_ s_ => e_fieldAddr e38_3 field224_0)) (s42.pickD [2] (idxB 9 rfl (by decide))) ?_
                refine al_one 8 #[true, true, true, true, true, true, true, true, true, false, true, false, false, false] (by kernel_rfl) rfl ?_
                refine o_buildSlice1 (v := .int .i64 pa) rfl rfl slt34 s42 (by decide) (fun b45 w46 s46 => ?_)
                refine stepL_nil (fun _ => (s46.pickD [3] (idxB 10 rfl (by decide)))) ?_
                refine al_one 9 #[true, true, true, true, true, true, true, true, true, true, true, false, false, false] (by kernel_rfl) rfl ?_
                refine o_append1 rfl rfl slt34 (s46.rot 7 rfl) (j := 1) rfl rfl (by omega) (by omega) (by decide) (fun A48 c49 w47 s47 => ?_)
                refine stepL_nil (fun _ => (s47.pickD [4] (idxB 10 rfl (by decide)))) ?_
                refine al_one 11 #[true, true, true, true, true, true, true, true, true, true, true, true, false, false] (by kernel_rfl) rfl ?_
                refine o_store rfl rfl rfl flat34 s47 (i := 4) rfl (Blk.writes _ (Nat.le_of_ble_eq_true rfl)) (fun w50 s50 => ?_)
                refine stepL_nil (fun h => (h (by decide)).elim) ?_
                refine al_one 12 #[true, true, true, true, true, true, true, true, true, true, true, true, true, false] (by kernel_rfl) rfl ?_
                refine ow_val rfl rfl (by decide) (e_fieldAddr e38_3 field224_4) ?_
                refine stepL_nil (fun h => (h (by decide)).elim) ?_
                refine al_one 13 #[true, true, true, true, true, true, true, true, true, true, true, true, true, true] (by kernel_rfl) rfl ?_
                refine o_store rfl rfl rfl flat34 s50 (i := 4) rfl (Blk.writes _ (Nat.le_of_ble_eq_true rfl)) (fun w51 s51 => ?_)
                refine stepL_nil (fun h => (h (by decide)).elim) ?_
                refine al_done (by kernel_rfl) ?_
                refine then_normal ?_
                exact ⟨A43, A1, A2, A3, A48, c44, c1, c2, c3, c49, (n0 + 1), n1, n2, n3, (n4 + 1), _, _, _, _, _, e38_0, e38_2, e38_3, e38_4, e38_5, e38_13, e38_14, by have := mt_three hT (pa := pa) hl; rw [hpa] at this ⊢; exact this, (s51.pickN 10 [4, 2, 5, 6, 7, 0, 8, 9] rfl (by decide) rfl)⟩
              · skip
                refine o_buildSlice1 (v := .int .i64 pa) rfl rfl slt34 s41 (by decide) (fun b52 w53 s53 => ?_)
                refine stepL_nil (fun _ => (s53.pickD [2] (idxB 10 rfl (by decide)))) ?_
                refine al_one 4 #[true, true, true, true, true, true, true, true, true, false, false, false, false, false] (by kernel_rfl) rfl ?_
                refine o_append1 rfl rfl slt34 (s53.rot 3 rfl) (j := 2) rfl rfl (by omega) (by omega) (by decide) (fun A55 c56 w54 s54 => ?_)
                refine stepL_nil (fun _ => (s54.pickD [3] (idxB 10 rfl (by decide)))) ?_
                refine al_take 10 #[true, true, true, true, true, true, true, true, true, false, true, false, false, false] rfl rfl (by decide) (by kernel_rfl) (fun _ _ _ h => h) (ya rfl (fun w_ s_ => e_fieldAddr e38_3 field224_0)) (s54.pickD [3] (idxB 10 rfl (by decide))) ?_
                refine al_one 9 #[true, true, true, true, true, true, true, true, true, true, true, false, false, false] (by kernel_rfl) rfl ?_
                refine o_append1 rfl rfl slt34 (s54.rot 7 rfl) (j := 2) rfl rfl (by omega) (by omega) (by decide) (fun A58 c59 w57 s57 => ?_)
                refine stepL_nil (fun _ => (s57.pickD [4] (idxB 10 rfl (by decide)))) ?_
                refine al_one 11 #[true, true, true, true, true, true, true, true, true, true, true, true, false, false] (by kernel_rfl) rfl ?_
                refine o_store rfl rfl rfl flat34 s57 (i := 4) rfl (Blk.writes _ (Nat.le_of_ble_eq_true rfl)) (fun w60 s60 => ?_)
                refine stepL_nil (fun h => (h (by decide)).elim) ?_
                refine al_one 12 #[true, true, true, true, true, true, true, true, true, true, true, true, true, false] (by kernel_rfl) rfl ?_
                refine ow_val rfl rfl (by decide) (e_fieldAddr e38_3 field224_4) ?_
                refine stepL_nil (fun h => (h (by decide)).elim) ?_
                refine al_one 13 #[true, true, true, true, true, true, true, true, true, true, true, true, true, true] (by kernel_rfl) rfl ?_
                refine o_store rfl rfl rfl flat34 s60 (i := 4) rfl (Blk.writes _ (Nat.le_of_ble_eq_true rfl)) (fun w61 s61 => ?_)
                refine stepL_nil (fun h => (h (by decide)).elim) ?_
                refine al_done (by kernel_rfl) ?_
                refine then_normal ?_
                exact ⟨A55, A1, A2, A3, A58, c56, c1, c2, c3, c59, (n0 + 1), n1, n2, n3, (n4 + 1), _, _, _, _, _, e38_0, e38_2, e38_3, e38_4, e38_5, e38_13, e38_14, by have := mt_three hT (pa := pa) hl; rw [hpa] at this ⊢; exact this, (s61.pickN 10 [4, 1, 5, 6, 7, 0, 8, 9] rfl (by decide) rfl)⟩
            · skip
              refine o_buildSlice1 (v := .int .i64 pa) rfl rfl slt34 s39 (by decide) (fun b62 w63 s63 => ?_)
              refine stepL_nil (fun _ => (s63.pickD [1] (idxB 9 rfl (by decide)))) ?_
              refine al_one 3 #[true, true, true, true, false, true, true, true, true, false, false, false, false, false] (by kernel_rfl) rfl ?_
              refine o_buildSlice1 (v := .int .i64 l) rfl rfl slt34 s63 (by decide) (fun b64 w65 s65 => ?_)
              refine stepL_nil (fun _ => (s65.pickD [2] (idxB 10 rfl (by decide)))) ?_
              refine al_one 4 #[true, true, true, true, true, true, true, true, true, false, false, false, false, false] (by kernel_rfl) rfl ?_
              refine o_append1 rfl rfl slt34 (s65.rot 3 rfl) (j := 1) rfl rfl (by omega) (by omega) (by decide) (fun A67 c68 w66 s66 => ?_)
              refine stepL_nil (fun _ => (s66.pickD [3] (idxB 10 rfl (by decide)))) ?_
              refine al_take 10 #[true, true, true, true, true, true, true, true, true, false, true, false, false, false] rfl rfl (by decide) (by kernel_rfl) (fun _ _ _ h => h) (ya rfl (fun w_ s_ => e_fieldAddr e38_3 field224_0)) (s66.pickD [3] (idxB 10 rfl (by decide))) ?_
              refine al_one 9 #[true, true, true, true, true, true, true, true, true, true, true, false, false, false] (by kernel_rfl) rfl ?_
              refine o_append1 rfl rfl slt34 (s66.rot 7 rfl) (j := 3) rfl rfl (by omega) (by omega) (by decide) (fun A70 c71 w69 s69 => ?_)
              refine stepL_nil (fun _ => (s69.pickD [4] (idxB 10 rfl (by decide)))) ?_
              refine al_one 11 #[true, true, true, true, true, true, true, true, true, true, true, true, false, false] (by kernel_rfl) rfl ?_
              refine o_store rfl rfl rfl flat34 s69 (i := 4) rfl (Blk.writes _ (Nat.le_of_ble_eq_true rfl)) (fun w72 s72 => ?_)
              refine stepL_nil (fun h => (h (by decide)).elim) ?_
              refine al_one 12 #[true, true, true, true, true, true, true, true, true, true, true, true, true, false] (by kernel_rfl) rfl ?_
              refine ow_val rfl rfl (by decide) (e_fieldAddr e38_3 field224_4) ?_
              refine stepL_nil (fun h => (h (by decide)).elim) ?_
              refine al_one 13 #[true, true, true, true, true, true, true, true, true, true, true, true, true, true] (by kernel_rfl) rfl ?_
              refine o_store rfl rfl rfl flat34 s72 (i := 4) rfl (Blk.writes _ (Nat.le_of_ble_eq_true rfl)) (fun w73 s73 => ?_)
              refine stepL_nil (fun h => (h (by decide)).elim) ?_
              refine al_done (by kernel_rfl) ?_
              refine then_normal ?_
              exact ⟨A67, A1, A2, A3, A70, c68, c1, c2, c3, c71, (n0 + 1), n1, n2, n3, (n4 + 1), _, _, _, _, _, e38_0, e38_2, e38_3, e38_4, e38_5, e38_13, e38_14, by have := mt_three hT (pa := pa) hl; rw [hpa] at this ⊢; exact this, (s73.pickN 10 [4, 1, 5, 6, 7, 0, 8, 9] rfl (by decide) rfl)⟩
          · intro f_ w_ h_
            obtain ⟨A0, A1, A2, A3, A4, c0, c1, c2, c3, c4, n0, n1, n2, n3, n4, X0, X1, X2, X3, X4, e74_0, e74_2, e74_3, e74_4, e74_5, e74_13, e74_14, hT, s74⟩ := h_
            skip
            obtain ⟨-, -, -, -, -, hl0_, hl1_, hl2_, hl3_, hl4_⟩ := id hT
            have hx_ : (mThree (mTwo (mOne (mAt s i) (bt s (i : Int))) (bt s (i : Int))) ((mOne (mAt s i) (bt s (i : Int))).1.c.getLastD (-1))).d.length = i + 1 := hd2
            refine al_keep #[false, false, false, false, false, false, false, false, false] [8] [0] s74 hmix rfl rfl (idxB 8 rfl (by decide)) (fun w75 s75 => ?_)
            refine al_take 0 #[true, false, false, false, false, false, false, false, false] rfl rfl (by decide) (by kernel_rfl) (fun _ _ _ h => h) (ya rfl (fun w_ s_ => e_fieldAddr e74_3 field224_3)) (s75.pickD [0] (idxB 8 rfl (by decide))) ?_
            refine al_take 1 #[true, true, false, false, false, false, false, false, false] rfl rfl (by decide) (by kernel_rfl) (fun _ _ _ h => h) (ya rfl (fun w_ s_ => e_load rfl flat34 (s_.cell 0 rfl (Blk.reads rfl)))) (s75.pickD [0] (idxB 8 rfl (by decide))) ?_
            refine al_take 2 #[true, true, true, false, false, false, false, false, false] rfl rfl (by decide) (by kernel_rfl) (fun _ _ _ h => h) (ya rfl (fun w_ s_ => e_fieldAddr e74_3 field224_2)) (s75.pickD [0] (idxB 8 rfl (by decide))) ?_
            refine al_take 3 #[true, true, true, true, false, false, false, false, false] rfl rfl (by decide) (by kernel_rfl) (fun _ _ _ h => h) (ya rfl (fun w_ s_ => e_load rfl flat34 (s_.cell 0 rfl (Blk.reads rfl)))) (s75.pickD [0] (idxB 8 rfl (by decide))) ?_
            refine al_one 4 #[true, true, true, true, true, false, false, false, false] (by kernel_rfl) rfl ?_
            refine o_call enter187 rfl (by decide) ?_
            refine (size187 _ _ _ _).mono ?_
            rintro e_ w_1 ⟨rfl, rfl⟩
            refine ⟨_, rfl, ?_⟩
            refine stepL_nil (fun _ => (s75.pickD [0] (idxB 8 rfl (by decide)))) ?_
            refine al_one 5 #[true, true, true, true, true, true, false, false, false] (by kernel_rfl) rfl ?_
            refine o_buildSlice1 (v := .int .i64 (n2 : Int)) rfl rfl slt34 s75 (by decide) (fun b76 w77 s77 => ?_)
            refine stepL_nil (fun _ => (s77.pickD [1] (idxB 9 rfl (by decide)))) ?_
            refine al_one 6 #[true, true, true, true, true, true, true, false, false] (by kernel_rfl) rfl ?_
            refine o_append1 rfl rfl slt34 (s77.rot 5 rfl) (j := 1) rfl rfl (by omega) (by omega) (by decide) (fun A79 c80 w78 s78 => ?_)
            refine stepL_nil (fun _ => (s78.pickD [2] (idxB 9 rfl (by decide)))) ?_
            refine al_take 7 #[true, true, true, true, true, true, true, true, false] rfl rfl (by decide) (by kernel_rfl) (fun _ _ _ h => h) (ya rfl (fun w_ s_ => e_fieldAddr e74_3 field224_3)) (s78.pickD [2] (idxB 9 rfl (by decide))) ?_
            refine al_one 8 #[true, true, true, true, true, true, true, true, true] (by kernel_rfl) rfl ?_
            refine o_store rfl rfl rfl flat34 s78 (i := 2) rfl (Blk.writes _ (Nat.le_of_ble_eq_true rfl)) (fun w81 s81 => ?_)
            refine stepL_nil (fun h => (h (by decide)).elim) ?_
            refine al_done (by kernel_rfl) ?_
            refine inb_normal ?_
            refine then_normal ?_
            refine cw_region ?_
            refine o_addI e74_14 rfl (by omega) (by omega) (by decide) ?_
            refine ow_val rfl rfl (by decide) (e_move rfl) ?_
            refine ow_nil ?_
            refine then_normal ?_
            exact ⟨_, by omega, i + 1, A0, A1, A2, A79, A4, c0, c1, c2, c80, c4, n0, n1, n2, (n3 + 1), n4, _, _, _, _, _, rfl, e74_0, e74_2, e74_3, e74_13, rfl, by omega, mt_four hT, (s81.pickN 9 [2, 3, 4, 5, 0, 6, 7, 8] rfl (by decide) rfl)⟩
  · skip
    have hge : i = s.size := by have := of_decide_eq_false c10; omega
    refine cw_exit ?_
    refine then_exit ?_
    refine then_exit ?_
    refine inb_exit ?_
    refine then_normal ?_
    refine cw_seq ?_
    refine cw_region ?_
    refine ow_val rfl rfl (by decide) (e_loadN e9_3 agg224 rfl (s9.cellsAt (m := 5) 0 rfl 0)) ?_
    refine o_storeBlk e9_2 rfl (by simp [Value.oneCell']) agg224 rfl s9 (i := 6) rfl (Nat.le_of_ble_eq_true rfl) (fun w82 s82 => ?_)
    refine ow_nil ?_
    refine then_normal ?_
    refine cw_ret ?_
    refine endsC (.inl rfl) Try.results165 e9_2 agg224 rfl (s82.cellsOf 6 rfl) ?_
    subst hge; exact ⟨_, _, _, _, _, _, _, _, _, _, _, _, _, _, _, _, _, _, _, _, hT, rfl, s82.part 8 [1, 2, 3, 4, 5] 7 rfl rfl (by decide) rfl, s82.toBelow 7 rfl⟩
end Go.Proofs.Ytjkohjdiddhpcaa.My
set_option linter.unusedVariables false
set_option linter.unusedSimpArgs false
namespace Go.Proofs.Ytjkohjdiddhpcaa.My
open Go.Sl Go.RowKit Go.Proofs.YtjkohjdiddhpcaaW.PrintWords Go.Proofs.YtjkohjdiddhpcaaW.PrintLast Go.Proofs.YtjkohjdiddhpcaaW.PrintMore Go.Proofs.Ytjkohjdiddhpcaa.PFnExactCountProgramWords
theorem zero9 : zeroOf Try.prog 9 = some (.string ⟨#[]⟩ : Value) := by kernel_rfl
theorem slt102 : SlT Try.prog 102 9 1 16 (.string ⟨#[]⟩) := ⟨Try.underlying102, by kernel_rfl, zero9, rfl, by decide⟩
theorem enter165 : enterB Try.prog 165 = true := by kernel_rfl
theorem mOne_p {M : MS} {i : Int} (h : ∀ x ∈ M.p, -2 ≤ x ∧ x < i + 1) (hi : (M.p.length : Int) = i) (hc : ∀ x ∈ M.c, 0 ≤ x ∧ x < i) (ch : Int) : (∀ x ∈ (mOne M ch).1.p, -2 ≤ x ∧ x < i + 1) ∧ -2 ≤ (mOne M ch).2 ∧ (mOne M ch).2 < i + 1 := by
  unfold mOne
  cases isR ch with
  | false => exact ⟨h, by show (-2 : Int) ≤ -1; decide, by show (-1 : Int) < i + 1; omega⟩
  | true =>
    simp only [cond_true]
    split
    · exact ⟨h, by show (-2 : Int) ≤ -2; decide, by show (-2 : Int) < i + 1; omega⟩
    · rename_i hne
      have hm := hc _ (getLastD_mem hne (-1))
      refine ⟨fun x hx => ?_, by omega, by omega⟩
      rcases List.mem_or_eq_of_mem_set hx with hx | rfl
      · exact h x hx
      · omega
theorem mAt_p (s : ByteArray) : ∀ i, ∀ x ∈ (mAt s i).p, -2 ≤ x ∧ x < (i : Int)
  | 0 => by simp [mAt]
  | i + 1 => by
    obtain ⟨h, hc, hl, hr⟩ := mAt_wf s i
    have ih := mAt_p s i
    obtain ⟨h1, h2, h3⟩ := mOne_p (M := mAt s i) (i := (i : Int)) (fun x hx => by have := ih x hx; omega) (by rw [h.p]) (fun x hx => ⟨(h.cs x hx).1, hc x hx⟩) (bt s (i : Int))
    intro x hx
    have hx : x ∈ (mTwo (mOne (mAt s i) (bt s (i : Int))) (bt s (i : Int))).1.p ++ [(mTwo (mOne (mAt s i) (bt s (i : Int))) (bt s (i : Int))).2] := hx
    simp only [mTwo] at hx
    cases hC : isC (bt s (i : Int)) <;> rw [hC] at hx <;> simp only [cond_true, cond_false, List.mem_append, List.mem_singleton] at hx
    · rcases hx with hx | rfl
      · have := h1 x hx; omega
      · omega
    · rcases hx with hx | rfl
      · have := h1 x hx; omega
      · omega
def mx (i : Nat) (x : Int) : Int := if x > (i : Int) then x else (i : Int)
def facGo (s : ByteArray) (P : List Int) : Nat → Nat → List ByteArray
  | 0, _ => []
  | k + 1, i => if i < s.size then s.extract i ((mx i (P.getD i 0)).toNat + 1) :: facGo s P k ((mx i (P.getD i 0)).toNat + 1) else []
def facI (s : ByteArray) : List ByteArray := facGo s (mAt s s.size).p s.size 0
theorem facGo_end {s : ByteArray} {P : List Int} (k i : Nat) (h : s.size ≤ i) : facGo s P k i = [] := by
  cases k with
  | zero => rfl
  | succ k => rw [facGo, if_neg (by omega)]
theorem facGo_step {s : ByteArray} {P : List Int} {k i : Nat} {x : Int} (hk : s.size ≤ k + i) (h : i < s.size) (hx : P.getD i 0 = x) : ∃ k', k = k' + 1 ∧ facGo s P k i = s.extract i ((mx i x).toNat + 1) :: facGo s P k' ((mx i x).toNat + 1) := by
  cases k with
  | zero => omega
  | succ k => exact ⟨k, rfl, by rw [facGo, if_pos h, hx]⟩
theorem mx_get {s : ByteArray} {i : Nat} (h : i < s.size) : ∃ x, (mAt s s.size).p.getD i 0 = x ∧ (mAt s s.size).p[i]? = some x ∧ (i : Int) ≤ mx i x ∧ mx i x < s.size := by
  have hl := (mAt_wf s s.size).1.p
  have hlt : i < (mAt s s.size).p.length := by omega
  refine ⟨(mAt s s.size).p[i], by simp [List.getD_eq_getElem?_getD, hlt], by simp [hlt], ?_, ?_⟩
  · unfold mx; split <;> omega
  · have := mAt_p s s.size _ (List.getElem_mem hlt); unfold mx; split <;> omega
theorem factors_calls (s : ByteArray) (w : World) (hsz : s.size ≤ 1000000) :
    Calls Try.prog 75 #[.string s] w fun e w' => ∃ A c n X, X = (facI s).map Value.string ∧ n = (facI s).length ∧
      e = .returned (.slice A n c) ∧ Part w w' [Sl 9 1 (.slice A n c) n X] ∧ Below w.heap.size w w' := by
  have s0 := Sat.start w
  refine calls_of_cw (args := [.string s]) Try.func75 Try.ntmps75 rfl (by simp) ?_
  refine cw_seq ?_
  refine cw_region ?_
  refine ow_val rfl rfl (by decide) (e_assign rfl) ?_
  refine ow_nil ?_
  refine then_normal ?_
  refine cw_seq ?_
  refine cw_region ?_
  refine o_buildSlice0 slt102 s0 (by decide) (fun b2 w1 s1 => ?_)
  refine ow_val rfl rfl (by decide) (e_move rfl) ?_
  refine o_call enter165 rfl (by decide) ?_
  refine (match_calls s _ hsz).mono ?_
  rintro e_ w3 ⟨A0, A1, A2, A3, A4, c0, c1, c2, c3, c4, n0, n1, n2, n3, n4, X0, X1, X2, X3, X4, hT, rfl, hp_, hb_⟩
  have s3 := s1.calledP hb_ hp_
  obtain ⟨hx0, -, -, -, -, hl0, -, -, -, -⟩ := hT
  have hp0 := (mAt_wf s s.size).1.p
  refine ⟨_, rfl, ?_⟩
  refine o_alloc zero224 s3 (by decide) (fun bm w4 s4 => ?_)
  refine ow_val rfl rfl (by decide) (e_assign rfl) ?_
  refine o_storeBlk rfl rfl (by simp [Value.oneCell']) agg224 rfl s4 (i := 0) rfl (Nat.le_of_ble_eq_true rfl) (fun w5 s5 => ?_)
  refine ow_nil ?_
  refine then_normal ?_
  refine cw_seq ?_
  refine cw_seq ?_
  refine cw_region ?_
  refine ow_val rfl rfl (by decide) (e_assign rfl) ?_
  refine ow_nil ?_
  refine then_normal ?_
  refine cw_block ?_
  refine cw_loop (fun μ_ f_ w_ => ∃ i : Nat, ∃ k : Nat, ∃ A : Option Addr, ∃ c : Nat, ∃ n : Nat, ∃ X : List Value, ∃ acc : List ByteArray, μ_ = s.size - i ∧ f_ 0 = .string s ∧ f_ 3 = .slice A n c ∧ f_ 4 = .pointer (some ⟨bm, 0, none⟩) ∧ f_ 5 = .int .i64 (i : Int) ∧ (s.size ≤ k + i) ∧ (X = acc.map Value.string) ∧ (n = acc.length) ∧ (n ≤ i) ∧ (i ≤ s.size) ∧ (acc ++ facGo s (mAt s s.size).p k i = facI s) ∧ Sat w w_ [Sl 9 1 (.slice A n c) n X, Blk bm 224 [.slice A0 n0 c0, .slice A1 n1 c1, .slice A2 n2 c2, .slice A3 n3 c3, .slice A4 n4 c4], Sl 2 1 (.slice A0 n0 c0) n0 X0, Old w]) s.size ⟨0, s.size, (some ⟨b2, 0, none⟩), 0, 0, _, [], rfl, rfl, rfl, rfl, rfl, Nat.le_refl _, rfl, rfl, Nat.le_refl _, Nat.zero_le _, rfl, (s5.pickN 8 [6, 0, 1, 7] rfl (by decide) rfl)⟩ ?_
  intro k_ f_ w_ h_
  obtain ⟨i, k, A, c, n, X, acc, rfl, e6_0, e6_3, e6_4, e6_5, hk, hX, hn, hna, hi, hacc, s6⟩ := h_
  skip
  refine cw_seq ?_
  refine cw_seq ?_
  refine cw_region ?_
  refine ow_val rfl rfl (by decide) (e_move e6_5) ?_
  refine ow_val rfl rfl (by decide) (e_move e6_0) ?_
  refine ow_val rfl rfl (by decide) (e_len_str rfl Try.underlying9) ?_
  refine ow_val rfl rfl (by decide) (e_lss rfl rfl) ?_
  refine ow_nil ?_
  refine then_normal ?_
  refine cw_cond rfl (fun c7 => ?_) (fun c7 => ?_)
  · skip
    have hlt : i < s.size := by have := of_decide_eq_true c7; omega
    obtain ⟨x, hx1, hx2, hx3, hx4⟩ := mx_get hlt
    refine cw_skip ?_
    refine then_normal ?_
    refine cw_block ?_
    refine cw_seq ?_
    refine cw_region ?_
    refine ow_val rfl rfl (by decide) (e_move e6_5) ?_
    refine ow_val rfl rfl (by decide) (e_fieldAddr e6_4 field224_0) ?_
    refine ow_val rfl rfl (by decide) (e_load rfl flat34 (s6.cell 1 rfl (Blk.reads rfl))) ?_
    refine ow_val rfl rfl (by decide) (e_move e6_5) ?_
    obtain ⟨g8, rfl⟩ := s6.slSome 2 rfl (by omega)
    refine o_idxS rfl rfl slt34 (by omega) (by omega) (by decide) ?_
    refine ow_val rfl rfl (by decide) (e_load rfl flat2 (s6.slAt 2 rfl (u := .int .i64 x) (by rw [hx0, List.getElem?_map]; show ((mAt s s.size).p[((i : Int)).toNat]?).map _ = _; rw [Int.toNat_natCast, hx2]; rfl))) ?_
    refine ow_val rfl rfl (by decide) (v := .int .i64 (mx i x)) (e_max rfl rfl) ?_
    refine ow_val rfl rfl (by decide) (e_assign rfl) ?_
    refine ow_nil ?_
    refine then_normal ?_
    refine cw_seq ?_
    refine cw_region ?_
    refine ow_val rfl rfl (by decide) (e_move e6_3) ?_
    refine ow_val rfl rfl (by decide) (e_move e6_0) ?_
    refine ow_val rfl rfl (by decide) (e_move e6_5) ?_
    refine ow_val rfl rfl (by decide) (e_move rfl) ?_
    refine o_addI rfl rfl (by omega) (by omega) (by decide) ?_
    refine o_sliceS (l := i) (h := (mx i x).toNat + 1) rfl Try.underlying9 (.inr ⟨.i64, congrArg some rfl⟩) (.inr ⟨.i64, (congrArg some rfl).trans (by show some (Value.int .i64 (mx i x + 1)) = _; congr 2; omega)⟩) (by omega) (by omega) (by decide) ?_
    refine o_buildSlice1 (v := .string (s.extract i ((mx i x).toNat + 1))) rfl rfl slt102 s6 (by decide) (fun b9 w10 s10 => ?_)
    refine o_append1 rfl rfl slt102 (s10.rot 1 rfl) (j := 1) rfl rfl (by omega) (by omega) (by decide) (fun A12 c13 w11 s11 => ?_)
    refine ow_val rfl rfl (by decide) (e_assign rfl) ?_
    refine ow_nil ?_
    refine then_normal ?_
    refine cw_region ?_
    refine ow_val rfl rfl (by decide) (e_move rfl) ?_
    refine o_addI rfl rfl (by omega) (by omega) (by decide) ?_
    refine ow_val rfl rfl (by decide) (e_assign rfl) ?_
    refine ow_nil ?_
    refine inb_normal ?_
    refine then_normal ?_
    obtain ⟨k', rfl, hfg⟩ := facGo_step hk hlt hx1
    have hcast : mx i x + 1 = (((mx i x).toNat + 1 : Nat) : Int) := by omega
    exact ⟨_, by omega, (mx i x).toNat + 1, k', A12, c13, (n + 1), _, acc ++ [s.extract i ((mx i x).toNat + 1)], rfl, e6_0, rfl, e6_4, (Eq.trans rfl (congrArg (Value.int .i64) hcast)), by omega, by rw [hX]; simp, by simp [hn], by omega, by omega, by rw [← hacc, hfg]; simp, (s11.pickN 5 [0, 2, 3, 4] rfl (by decide) rfl)⟩
  · skip
    have hge : s.size ≤ i := by have := of_decide_eq_false c7; omega
    refine cw_exit ?_
    refine then_exit ?_
    refine then_exit ?_
    refine inb_exit ?_
    refine then_normal ?_
    refine cw_seq ?_
    refine cw_region ?_
    refine ow_val rfl rfl (by decide) (e_move e6_3) ?_
    refine ow_val rfl rfl (by decide) (e_assign rfl) ?_
    refine ow_nil ?_
    refine then_normal ?_
    refine cw_ret ?_
    refine ends1 (v := .slice A n c) (.inl rfl) Try.results75 rfl ?_
    refine ⟨A, c, n, X, ?_, ?_, rfl, s6.part 4 [0] 3 rfl rfl (by decide) rfl, s6.toBelow 3 rfl⟩
    · rw [hX, ← hacc, facGo_end _ _ hge, List.append_nil]
    · rw [hn, ← hacc, facGo_end _ _ hge, List.append_nil]
end Go.Proofs.Ytjkohjdiddhpcaa.My
