import Derived.Test.YtjkohjdiddhpcaaSl
import Derived.Test.YtjkohjdiddhpcaaVb
/- Walks of the given code, and plain lemmas, for the law FnExactCountProgramWords (part Sm). -/
set_option linter.unusedVariables false
set_option linter.unusedSimpArgs false
namespace Go.Sl
open Go.RowKit Go.Proofs.YtjkohjdiddhpcaaW.PrintLast
/-! ### 13. A region whose order is open, once more: behind the operations of ds nothing is asked any more -/
section
variable {P : Program} {n m : Nat} {ops : Array Oper} {K : Exit → Fr → World → Prop} {S : World → Prop} {ds : List Nat} {f : Fr} {B w : World} {Γ : List Asn} {fuel : Nat} {l : Array Bool}
def AL (P : Program) (n : Nat) (ops : Array Oper) (K : Exit → Fr → World → Prop) (S : World → Prop) (ds : List Nat) (fuel : Nat) (l : Array Bool) (f : Fr) (w : World) : Prop :=
  ∀ a, Rep n f a → wpAnyLast P .any ops (Lift n K) S ds fuel l a w
def StepL (S : World → Prop) (ds : List Nat) (i : Nat) (next : Fr → World → Prop) (K : Exit → Fr → World → Prop) : Exit → Fr → World → Prop
  | .normal, f, w => (i ∉ ds → S w) ∧ next f w
  | e, f, w => K e f w
theorem al_start {id : Nat} (l : Array Bool) (ds : List Nat) (hs : Sat B w Γ) (hm : P.follows .mixedOrders = true) (hn : ops.size = m) (hl : Array.replicate m false = l) (S : World → Prop) (hS : ∀ w', Sat B w' Γ → S w')
    (h : ∀ w', Sat B w' Γ → AL P n ops K S ds m l f w') : CW P n (.region id ops true) K f w := fun a ha =>
  start_ (S := S) (ds := ds) l hm hn hl (hS _ hs.drew) fun _ => h _ hs.drew a ha
/-- The parts as they stand are what holds throughout. -/
theorem al_begin {id : Nat} (l : Array Bool) (ds : List Nat) (hs : Sat B w Γ) (hm : P.follows .mixedOrders = true) (hn : ops.size = m) (hl : Array.replicate m false = l)
    (h : ∀ w', Sat B w' Γ → AL P n ops K (fun w => Sat B w Γ) ds m l f w') : CW P n (.region id ops true) K f w := al_start l ds hs hm hn hl _ (fun _ h => h) h
def YA (P : Program) (n : Nat) (ops : Array Oper) (S : World → Prop) (o : Oper) (v : Value) (f : Fr) : Prop := ∀ a, Rep n f a → YieldsIf P ops S o v a
theorem ya {o : Oper} {v : Value} (hg : o.guard = none) (h : ∀ w, S w → (execOp (fe f) o).run P w = .ok (.value v) w) : YA P n ops S o v f := fun a ha => (YF.yields (.inl ⟨hg, h⟩) ha)
theorem ya_in {o : Oper} {v : Value} {j g : Nat} {b : Bool} (hg : o.guard = some (j, b)) (hj : (ops[j]?).bind (·.dst) = some g) (hb : f g = .bool b) (h : ∀ w, S w → (execOp (fe f) o).run P w = .ok (.value v) w) : YA P n ops S o v f := fun a ha => YF.yields (.inr (.inl ⟨j, g, b, hg, hj, hb, h⟩)) ha
theorem ya_out {o : Oper} {j g : Nat} {b c : Bool} (hg : o.guard = some (j, b)) (hj : (ops[j]?).bind (·.dst) = some g) (hb : f g = .bool c) (hc : (c == b) = false) : YA P n ops S o undef f := fun a ha => YF.yields (.inr (.inr ⟨j, g, b, c, hg, hj, hb, hc, rfl⟩)) ha
theorem al_take (i : Nat) (l' : Array Bool) {o : Oper} {d : Nat} {v : Value} (hi : ops[i]? = some o) (hd : o.dst = some d) (hn : d < n) (hc : takeB .any ops ds l l' i = true)
    (hK : ∀ c f w, ¬ K (.panic c) f w) (hy : YA P n ops S o v f) (hS : S w) (h : AL P n ops K S ds fuel l' (upd f d v) w) : AL P n ops K S ds (fuel + 1) l f w := fun a ha =>
  take_ l' hi hd hc (fun c a w ⟨f, _, hq⟩ => absurd hq (hK c f w)) (hy a ha) hS rfl (h _ (ha.put hn v))
theorem owL {i : Nat} {o : Oper} (hi : ops[i]? = some o) {next : Fr → World → Prop} (h : OW P n ops (StepL S ds i next K) [o] f w) {a : Act} (ha : Rep n f a) :
    wpOp P ops (Lift n K) i (fun a' w' => (i ∉ ds → S w') ∧ ∃ f', Rep n f' a' ∧ next f' w') a w := by
  have h0 := h a ha
  unfold wpOp
  simp only [hi]
  unfold wpList at h0
  have hn : ∀ a w, wpList P ops (Lift n (StepL S ds i next K)) [] a w → (i ∉ ds → S w) ∧ ∃ f', Rep n f' a ∧ next f' w := fun a w ⟨f', hr, h1, h2⟩ => ⟨h1, f', hr, h2⟩
  split
  · rename_i hw
    rw [if_pos hw] at h0
    refine h0.imp (fun h1 => ?_) (fun ⟨h1, a, w, f, hr, hq⟩ => ⟨h1, a, w, f, hr, hq⟩)
    exact upon_imp hn (fun c a w ⟨f, hr, hq⟩ => ⟨f, hr, hq⟩) (fun a w ⟨f, hr, hq⟩ => ⟨f, hr, hq⟩) _ h1
  · rename_i hw
    rw [if_neg hw] at h0
    exact hn _ _ h0
theorem al_all (rs : List Nat) (hr : Region.ready .any ops l = rs) (hne : rs ≠ [])
    (h : ∀ i ∈ rs, ∃ o, ops[i]? = some o ∧ OW P n ops (StepL S ds i (AL P n ops K S ds fuel (l.setIfInBounds i true)) K) [o] f w) : AL P n ops K S ds (fuel + 1) l f w := fun a ha =>
  wpAnyLast_all hr hne fun i hi => by
    obtain ⟨o, ho, hw⟩ := h i hi
    exact wpOp_mono (fun a' w' ⟨h1, f', hr', h2⟩ => ⟨fun hn _ => h1 hn, h2 a' hr'⟩) (owL ho hw ha)
theorem al_one (i : Nat) (l' : Array Bool) {o : Oper} (hc : ((Region.ready .any ops l == [i]) && (l.setIfInBounds i true == l')) = true) (hi : ops[i]? = some o)
    (h : OW P n ops (StepL S ds i (AL P n ops K S ds fuel l') K) [o] f w) : AL P n ops K S ds (fuel + 1) l f w := by
  simp only [Bool.and_eq_true, beq_iff_eq] at hc
  obtain ⟨h1, h2⟩ := hc
  subst h2
  exact al_all [i] h1 (by simp) fun j hj => by simp at hj; subst hj; exact ⟨o, hi, h⟩
theorem al_two (i j : Nat) (l1 l2 : Array Bool) {o p : Oper} (hc : ((Region.ready .any ops l == [i, j]) && (l.setIfInBounds i true == l1) && (l.setIfInBounds j true == l2)) = true) (hi : ops[i]? = some o) (hj : ops[j]? = some p)
    (h : OW P n ops (StepL S ds i (AL P n ops K S ds fuel l1) K) [o] f w) (h' : OW P n ops (StepL S ds j (AL P n ops K S ds fuel l2) K) [p] f w) : AL P n ops K S ds (fuel + 1) l f w := by
  simp only [Bool.and_eq_true, beq_iff_eq] at hc
  obtain ⟨⟨h1, h2⟩, h3⟩ := hc
  subst h2
  subst h3
  exact al_all [i, j] h1 (by simp) fun k hk => by
    simp at hk
    rcases hk with rfl | rfl
    · exact ⟨o, hi, h⟩
    · exact ⟨p, hj, h'⟩
theorem al_split {g : Nat} {t : Bool} (hb : fe f (.tmp g) = .bool t) (h1 : t = true → AL P n ops K S ds fuel l (upd f g (.bool true)) w) (h2 : t = false → AL P n ops K S ds fuel l (upd f g (.bool false)) w) : AL P n ops K S ds fuel l f w := by
  have e : ∀ v, f g = v → upd f g v = f := fun v hv => by
    funext x
    unfold upd
    cases hx : Nat.beq x g with
    | false => rfl
    | true => have := Nat.eq_of_beq_eq_true hx; subst this; exact hv.symm
  cases t with
  | true => have h := h1 rfl; rwa [e _ hb] at h
  | false => have h := h2 rfl; rwa [e _ hb] at h
theorem Sat.pickD (hs : Sat B w Γ) (idx : List Nat) (hl : idx.Nodup ∧ ∀ i ∈ idx, i < Γ.length) : Sat B w (idx.filterMap (Γ[·]?)) := hs.pick idx hl (by
  have : ∀ l : List Nat, (∀ i ∈ l, i < Γ.length) → l.map (Γ[·]?) = (l.filterMap (Γ[·]?)).map some := by
    intro l
    induction l with
    | nil => intro _; rfl
    | cons i l ih =>
      intro h
      have h1 := h i (by simp)
      simp only [List.map_cons, List.filterMap_cons, List.getElem?_eq_getElem h1, List.map_cons]
      rw [ih (fun j hj => h j (by simp [hj]))]
  exact this idx hl.2)
/-- Some of the parts are what holds, but behind the operations of ds. -/
theorem al_keep {id : Nat} (l : Array Bool) (ds idx : List Nat) (hs : Sat B w Γ) (hm : P.follows .mixedOrders = true) (hn : ops.size = m) (hl : Array.replicate m false = l) (hi : idx.Nodup ∧ ∀ i ∈ idx, i < Γ.length)
    (h : ∀ w', Sat B w' Γ → AL P n ops K (fun w => Sat B w (idx.filterMap (Γ[·]?))) ds m l f w') : CW P n (.region id ops true) K f w := al_start l ds hs hm hn hl _ (fun _ h => h.pickD idx hi) h
theorem al_done (hr : (Region.ready .any ops l == []) = true) (h : K .normal f w) : AL P n ops K S ds fuel l f w := fun a ha => wpAnyLast_done (by simpa using hr) ⟨f, ha, h⟩ _
theorem stepL_nil {i : Nat} {next : Fr → World → Prop} (hS : i ∉ ds → S w) (h : next f w) : OW P n ops (StepL S ds i next K) [] f w := ow_nil ⟨hS, h⟩
end
end Go.Sl
set_option linter.unusedVariables false
set_option linter.unusedSimpArgs false
namespace Go.Sl
open Go.RowKit
/-! ### 14. Slices of the call's own, in use -/
section
variable {P : Program} {n : Nat} {ops : Array Oper} {K : Exit → Fr → World → Prop} {f : Fr} {B w : World} {rest : List Oper} {Γ : List Asn}
variable {d : Nat} {ty : TypeId} {pos : String} {after : Array Edge} {x y : Operand}
theorem Sl.form {e sz m : Nat} {v : Value} {xs : List Value} {h : Heap} (hs : Sl e sz v m xs h) : ∃ a c, v = .slice a m c := by
  obtain ⟨a, c, h1, _⟩ := hs.slice
  exact ⟨a, c, h1⟩
theorem Sat.slSome {e sz m c : Nat} {a : Option Addr} {xs : List Value} (hs : Sat B w Γ) (i : Nat) (hi : Γ[i]? = some (Sl e sz (.slice a m c) m xs)) (h0 : 0 < m) : ∃ g, a = some ⟨g, 0, none⟩ := by
  obtain ⟨h1, s1, hA⟩ := hs.heap.mem hi
  obtain ⟨a', c', e1, e2⟩ := hA.slice
  injection e1 with e1 _ _
  subst e1
  exact e2 h0
theorem Sat.slLen {e sz m c : Nat} {a : Option Addr} {xs : List Value} (hs : Sat B w Γ) (i : Nat) (hi : Γ[i]? = some (Sl e sz (.slice a m c) m xs)) : xs.length = m * sz ∧ m ≤ c ∧ c ≤ 9223372036854775807 := by
  obtain ⟨h1, s1, hA⟩ := hs.heap.mem hi
  rcases hA.2 with ⟨e1, rfl⟩ | ⟨g, cap, cur, e1, _, h3, h4, _⟩
  · injection e1 with _ _ e3; subst e3; exact ⟨hA.1, Nat.le_refl _, by omega⟩
  · injection e1 with _ _ e3; subst e3; exact ⟨hA.1, h3, by simp only [maxLen] at h4; omega⟩
theorem Sl.shrink {e sz m c k : Nat} {a : Option Addr} {xs : List Value} (hk : k ≤ m) (h : Heap) (hs : Sl e sz (.slice a m c) m xs h) : Sl e sz (.slice a k c) k (xs.take (k * sz)) h := by
  have hle : k * sz ≤ m * sz := Nat.mul_le_mul_right _ hk
  refine ⟨by rw [List.length_take, hs.1]; omega, ?_⟩
  rcases hs.2 with ⟨e1, e2⟩ | ⟨g, cap, cur, e1, h2, h3, h4, h5, h6⟩
  · injection e1 with e1 e3 e4
    subst e1
    subst e4
    have : k = 0 := by omega
    subst this
    exact .inl ⟨rfl, rfl⟩
  · injection e1 with e1 _ e4
    subst e1
    subst e4
    refine .inr ⟨g, c, cur, rfl, h2, by omega, h4, h5, ?_⟩
    rw [← h6, List.take_take]
    congr 1
    omega
theorem Sat.impAt {A A' : Asn} (hs : Sat B w Γ) (i : Nat) (hi : Γ[i]? = some A) (k : ∀ h, A h → A' h) : Sat B w (A' :: Γ.eraseIdx i) := (hs.rot i hi).imp k
/-- One element more. -/
theorem o_append1 {t e by_ m j b : Nat} {z v u : Value} {xs : List Value} (hx : fe f x = v) (hy : fe f y = .slice (some ⟨b, 0, none⟩) 1 1) (ht : SlT P t e 1 by_ z)
    (hs : Sat B w (Sl e 1 v m xs :: Γ)) (hj : (Sl e 1 v m xs :: Γ)[j]? = some (Blk b e [u])) (h1 : u.oneCell' = true) (hb : (m + 1) * by_ ≤ 140737488355328) (hm : m + 1 ≤ 9223372036854775807) (hn : d < n)
    (hk : ∀ a c w', Sat B w' (Sl e 1 (.slice a (m + 1) c) (m + 1) (xs ++ [u]) :: Γ) → OW P n ops K rest (upd f d (.slice a (m + 1) c)) w') :
    OW P n ops K (⟨some d, .call { callee := .builtin .append, args := #[x, y], argTypes := #[t, t] }, ty, pos, after, none⟩ :: rest) f w :=
  o_append (news := [u]) (q := 1) hx hy ht hs (by simp) (fun j' u' h => by
    have h0 := hs.cell j hj (Blk.reads (i := j') h)
    rw [addAt, Nat.zero_add]; exact h0) (fun u' h => by simp at h; subst h; exact h1) hb (by simp only [maxLen]; omega) hn fun v' w' hs' => by
      obtain ⟨h1, s1, hA⟩ := hs'.heap.mem (i := 0) rfl
      obtain ⟨a, c, e1, _⟩ := hA.slice
      subst e1
      exact hk a c w' hs'
/-- What is owned is read. -/
theorem Sat.row {e sz m c : Nat} {a : Option Addr} {xs : List Value} (hs : Sat B w Γ) (i : Nat) (hi : Γ[i]? = some (Sl e sz (.slice a m c) m xs)) : w.ownsRow 0 e sz (.slice a m c) m xs := by
  obtain ⟨h1, s1, hA⟩ := hs.heap.mem hi
  exact hA.own s1
end
end Go.Sl
set_option linter.unusedVariables false
set_option linter.unusedSimpArgs false
namespace Go.Sl
open Go.RowKit
section
variable {P : Program} {B w : World} {Γ : List Asn}
theorem Sat.pickN {Δ : List Asn} (hs : Sat B w Γ) (m : Nat) (l : List Nat) (hm : Γ.length = m) (hl : l.Nodup ∧ ∀ i ∈ l, i < m) (hd : l.map (Γ[·]?) = Δ.map some) : Sat B w Δ := hs.pick l ⟨hl.1, by rw [hm]; exact hl.2⟩ hd
theorem idxB {l : List Nat} (m : Nat) (hm : Γ.length = m) (hl : l.Nodup ∧ ∀ i ∈ l, i < m) : l.Nodup ∧ ∀ i ∈ l, i < Γ.length := ⟨hl.1, by rw [hm]; exact hl.2⟩
theorem Sat.slCell {e m c g : Nat} {xs : List Value} {i : Int} {u : Value} (hs : Sat B w Γ) (j : Nat) (hj : Γ[j]? = some (Sl e 1 (.slice (some ⟨g, 0, none⟩) m c) m xs)) (hu : xs[i.toNat]? = some u) :
    w.cell? ⟨g, 0 + i.toNat * 1, none⟩ = some u := by simpa using hs.cell j hj (Sl.reads hu)
theorem slWrites {e m c g : Nat} {xs : List Value} {i : Int} (u : Value) (hi : i.toNat < xs.length) :
    Writes (Sl e 1 (.slice (some ⟨g, 0, none⟩) m c) m xs) ⟨g, 0 + i.toNat * 1, none⟩ u (Sl e 1 (.slice (some ⟨g, 0, none⟩) m c) m (xs.set i.toNat u)) := by simpa using Sl.writes (e := e) (sz := 1) (m := m) (c := c) (g := g) u hi
/-- A row of one-cell elements that is read. -/
def RowV (w : World) (A : Option Addr) (xs : List Value) : Prop := ∀ i u, xs[i]? = some u → ∃ ad, A = some ad ∧ w.cell? (ad.add i) = some u
theorem Sat.rowV {e m c : Nat} {A : Option Addr} {xs : List Value} (hs : Sat B w Γ) (j : Nat) (hj : Γ[j]? = some (Sl e 1 (.slice A m c) m xs)) : RowV w A xs := fun i u hu => by
  obtain ⟨hl, _, _⟩ := hs.slLen j hj
  have hi := (List.getElem?_eq_some_iff.1 hu).1
  obtain ⟨g, rfl⟩ := hs.slSome j hj (by omega)
  exact ⟨_, rfl, by rw [addAt]; simpa using hs.cell j hj (Sl.reads hu)⟩
theorem RowV.below {w w1 : World} {A : Option Addr} {xs : List Value} (h : RowV w A xs) (hb : Below w.heap.size w w1) : RowV w1 A xs := fun i u hu => by
  obtain ⟨ad, e, hc⟩ := h i u hu
  refine ⟨ad, e, ?_⟩
  rw [World.cell?_of_block (w := w) (hb.block _ (World.block_lt_of_cell? w _ hc))]; exact hc
theorem RowV.at {w : World} {A : Option Addr} {xs : List Value} (h : RowV w A xs) {i : Int} (h0 : 0 ≤ i) (h1 : i < xs.length) : ∃ ad, A = some ad ∧ w.cell? (ad.add (i.toNat * 1)) = some (xs[i.toNat]'(by omega)) := by
  obtain ⟨ad, e, hc⟩ := h i.toNat _ (List.getElem?_eq_getElem (by omega))
  exact ⟨ad, e, by rw [Nat.mul_one]; exact hc⟩
end
end Go.Sl
set_option linter.unusedVariables false
set_option linter.unusedSimpArgs false
namespace Go.Sl
open Go.RowKit
section
variable {P : Program} {B w W : World} {Γ Δ : List Asn}
/-- What a call has made and hands over. -/
def Part (w w' : World) (Δ : List Asn) : Prop := SatH Δ (fun b => if w.heap.size ≤ b then w'.heap[b]? else none)
theorem SatH.append : ∀ (Δ : List Asn) {Γ : List Asn} {h g k : Heap}, SatH Δ h → SatH Γ g → Dis h g → Sub h k → Sub g k → SatH (Δ ++ Γ) k
  | [], _, _, _, _, _, hg, _, _, sg => hg.mono sg
  | A :: Δ, Γ, h, g, k, hh, hg, d, sh, sg => by
    obtain ⟨h1, h2, d1, s1, s2, hA, hD⟩ := hh
    refine ⟨h1, join h2 g, ?_, s1.trans sh, ?_, hA, ?_⟩
    · exact (dis_join d1.symm ((d.sub s1).symm)).symm
    · exact join_sub (s2.trans sh) sg
    · exact SatH.append Δ hD hg (d.sub s2) (sub_join_left _ _) (sub_join_right (d.sub s2))
theorem Sat.calledP (hs : Sat B w Γ) (hb : Below w.heap.size w W) (hp : Part w W Δ) : Sat B W (Δ ++ Γ) :=
  ⟨hb.os.trans hs.os, hb.tape.trans hs.tape, hb.output.trans hs.output, Nat.le_trans hs.size hb.size, by
    refine SatH.append Δ hp hs.heap ?_ ?_ ?_
    · intro b
      by_cases e : w.heap.size ≤ b
      · right; exact Array.getElem?_eq_none_iff.2 e
      · left; simp [e]
    · intro b o e
      by_cases e' : w.heap.size ≤ b
      · simpa [e'] using e
      · simp [e'] at e
    · intro b o e
      have hlt : b < w.heap.size := (Array.getElem?_eq_some_iff.1 e).1
      show W.heap[b]? = some o
      rw [hb.block b hlt]; exact e⟩
theorem Sat.part (m : Nat) (l : List Nat) (i : Nat) (hs : Sat B w Γ) (hi : Γ[i]? = some (Old B)) (hm : Γ.length = m) (hl : l.Nodup ∧ (∀ j ∈ l, j < m) ∧ i ∉ l) (hd : l.map (Γ[·]?) = Δ.map some) : Part B w Δ := by
  obtain ⟨hf, h1, h2, h3⟩ := hs.heap.family
  have hold := h3 i _ hi
  have hlen : l.length = Δ.length := by have := congrArg List.length hd; simpa using this
  refine SatH.of_family Δ _ (fun k => match l[k]? with | some i => hf i | none => fun _ => none) ?_ ?_ ?_
  · intro a c hac
    cases e1 : l[a]? with
    | none => exact fun _ => .inl rfl
    | some x => cases e2 : l[c]? with
      | none => exact fun _ => .inr rfl
      | some y =>
        refine h1 x y fun e => ?_
        subst e
        obtain ⟨a1, a2⟩ := List.getElem?_eq_some_iff.1 e1
        obtain ⟨b1, b2⟩ := List.getElem?_eq_some_iff.1 e2
        exact hac ((List.getElem_inj hl.1).1 (a2.trans b2.symm))
  · intro a
    cases e1 : l[a]? with
    | none => exact fun _ _ e => by cases e
    | some x =>
      intro b o e
      have e : hf x b = some o := e
      have hx : x ≠ i := fun h => hl.2.2 (by subst h; exact List.mem_of_getElem? e1)
      have hsub := h2 x b o e
      by_cases hb : B.heap.size ≤ b
      · simpa [hb] using hsub
      · exfalso
        have h4 := hold b (by omega)
        rcases h1 x i hx b with h5 | h5
        · rw [e] at h5; cases h5
        · rw [h4] at h5
          have := Array.getElem?_eq_none_iff.1 h5
          omega
  · intro a A ha
    have h4 : (l.map (Γ[·]?))[a]? = some (some A) := by rw [hd]; simp [ha]
    rw [List.getElem?_map] at h4
    cases e1 : l[a]? with
    | none => rw [e1] at h4; cases h4
    | some x => rw [e1] at h4; exact h3 x A (by simpa using h4)
/-- An element of an owned row of strings or numbers, read by address. -/
theorem Sat.slAt {e m c g : Nat} {xs : List Value} {i : Int} {u : Value} (hs : Sat B w Γ) (j : Nat) (hj : Γ[j]? = some (Sl e 1 (.slice (some ⟨g, 0, none⟩) m c) m xs)) (h0 : xs[i.toNat]? = some u) :
    w.cell? ⟨g, 0 + i.toNat * 1, none⟩ = some u := hs.slCell j hj h0
end
end Go.Sl
namespace Go.Sl
open Go.RowKit
section
variable {P : Program} {n : Nat} {ops : Array Oper} {K : Exit → Fr → World → Prop} {f : Fr} {B w : World} {rest : List Oper} {Γ : List Asn}
variable {d : Nat} {ty : TypeId} {pos : String} {after : Array Edge} {gd : Option (Nat × Bool)} {x y : Operand}
theorem o_buildSlice0 {t e sz by_ : Nat} {z : Value} (ht : SlT P t e sz by_ z) (hs : Sat B w Γ) (hn : d < n)
    (hk : ∀ b w', Sat B w' (Sl e sz (.slice (some ⟨b, 0, none⟩) 0 0) 0 [] :: Γ) → OW P n ops K rest (upd f d (.slice (some ⟨b, 0, none⟩) 0 0)) w') :
    OW P n ops K (⟨some d, .buildSlice t 0 #[], ty, pos, after, none⟩ :: rest) f w := by
  obtain ⟨i, hi, hsz, hby⟩ : ∃ i, P.info? e = some i ∧ i.size = sz ∧ i.bytes = by_ := by
    have h := ht.info
    cases hq : P.info? e with
    | none => simp [hq] at h
    | some i => simp [hq] at h; exact ⟨i, rfl, h⟩
  refine ow_val (v := .slice (some ⟨w.heap.size, 0, none⟩) 0 0) (w' := w.alloc (.cells #[] e)) rfl rfl hn ?_ (hk _ _ ((hs.alloc e #[]).imp (Blk.toSl0 (m := 0) (by simp) (by decide))))
  simp only [execOp, Instr.buildSlice, List.map_toArray, List.map_cons, List.map_nil, Sem.run_bind, run_underlying ht.und, sizeOf, typeInfo, run_program, hi, hsz, zero_run ht.zero, Instr.fill, newRow, Result.andThen_ok, Sem.run_pure]
  simp [Instr.fill, zero_run ht.zero]
  apply congrArg (fun a => w.alloc (Obj.cells a e)); apply Array.ext'; simp
end
section
variable {P : Program} {f : Fr} {w : World} {d : Nat} {ty : TypeId} {pos : String} {after : Array Edge} {gd : Option (Nat × Bool)} {x y : Operand} {a b : Int}
theorem e_max {t : TypeId} (hx : fe f x = .int .i64 a) (hy : fe f y = .int .i64 b) : (execOp (fe f) ⟨some d, .call { callee := .builtin .max, args := #[x, y], argTypes := #[t, t] }, ty, pos, after, gd⟩).run P w = .ok (.value (.int .i64 (if b > a then b else a))) w := by
  simp [execOp, resolve, invoke, builtin, hx, hy, Builtin.max_, Builtin.max2]
end
end Go.Sl
set_option linter.unusedVariables false
set_option linter.unusedSimpArgs false
namespace Go.Sl
open Go.RowKit
/-- NRows of numbers, each of them a slice of the call's own. -/
def NRows : List Value → List (List Int) → Asn
  | [], [] => fun _ => True
  | v :: vs, xs :: R => fun h => SatH [Sl 2 1 v xs.length (xs.map (Value.int .i64)), NRows vs R] h
  | _, _ => fun _ => False
theorem NRows.length : ∀ {vs : List Value} {R : List (List Int)} {h : Heap}, NRows vs R h → vs.length = R.length
  | [], [], _, _ => rfl
  | v :: vs, xs :: R, h, hr => by
    obtain ⟨h1, h2, d, s1, s2, hA, g1, g2, d', t1, t2, hR, -⟩ := hr
    simp [hR.length]
  | [], _ :: _, _, hr => hr.elim
  | _ :: _, [], _, hr => hr.elim
theorem NRows.get : ∀ {vs : List Value} {R : List (List Int)} {h : Heap}, NRows vs R h → ∀ (i : Nat) (xs : List Int), R[i]? = some xs → ∃ v h1, vs[i]? = some v ∧ Sub h1 h ∧ Sl 2 1 v xs.length (xs.map (Value.int .i64)) h1
  | [], [], _, _, i, xs, hx => by simp at hx
  | v :: vs, ys :: R, h, hr, i, xs, hx => by
    obtain ⟨h1, h2, d, s1, s2, hA, g1, g2, d', t1, t2, hR, -⟩ := hr
    cases i with
    | zero => simp at hx; subst hx; exact ⟨v, h1, rfl, s1, hA⟩
    | succ i =>
      obtain ⟨u, k, e1, e2, e3⟩ := hR.get i xs (by simpa using hx)
      exact ⟨u, k, by simpa using e1, e2.trans (t1.trans s2), e3⟩
  | [], _ :: _, _, hr, _, _, _ => hr.elim
  | _ :: _, [], _, hr, _, _, _ => hr.elim
theorem NRows.mono : ∀ {vs : List Value} {R : List (List Int)} {h k : Heap}, Sub h k → NRows vs R h → NRows vs R k
  | [], [], _, _, _, _ => trivial
  | v :: vs, xs :: R, h, k, s, hr => SatH.mono s hr
  | [], _ :: _, _, _, _, hr => hr.elim
  | _ :: _, [], _, _, _, hr => hr.elim
theorem NRows.push : ∀ {vs : List Value} {R : List (List Int)} {h g k : Heap} {v : Value} {xs : List Int}, NRows vs R h → Sl 2 1 v xs.length (xs.map (Value.int .i64)) g → Dis h g → Sub h k → Sub g k → NRows (vs ++ [v]) (R ++ [xs]) k
  | [], [], h, g, k, v, xs, _, hg, d, s1, s2 => ⟨g, fun _ => none, fun _ => .inr rfl, s2, (fun _ _ e => by cases e), hg, fun _ => none, fun _ => none, fun _ => .inr rfl, (fun _ _ e => by cases e), (fun _ _ e => by cases e), trivial, trivial⟩
  | u :: vs, ys :: R, h, g, k, v, xs, hr, hg, d, s1, s2 => by
    obtain ⟨h1, h2, d1, t1, t2, hA, g1, g2, d', r1, r2, hR, -⟩ := hr
    have hsub : Sub g1 h := r1.trans t2
    have hR' : NRows (vs ++ [v]) (R ++ [xs]) (join g1 g) := NRows.push hR hg (d.sub hsub) (sub_join_left _ _) (sub_join_right (d.sub hsub))
    refine ⟨h1, join g1 g, ?_, t1.trans s1, join_sub (hsub.trans s1) s2, hA, ?_⟩
    · exact (dis_join ((d1.symm.sub r1)) ((d.sub t1).symm)).symm
    · exact ⟨join g1 g, fun _ => none, fun _ => .inr rfl, Sub.refl _, (fun _ _ e => by cases e), hR', trivial⟩
  | [], _ :: _, _, _, _, _, _, hr, _, _, _, _ => hr.elim
  | _ :: _, [], _, _, _, _, _, hr, _, _, _, _ => hr.elim
section
variable {B w : World} {Γ Δ : List Asn}
theorem Sat.rowsPush {v : Value} {m : Nat} {X : List Value} {vs : List Value} {R : List (List Int)} (hs : Sat B w Γ) (xs : List Int) (i j : Nat) (hi : Γ[i]? = some (Sl 2 1 v m X)) (hj : (Γ.eraseIdx i)[j]? = some (NRows vs R)) (hm : m = xs.length) (hX : X = xs.map (Value.int .i64)) :
    Sat B w (NRows (vs ++ [v]) (R ++ [xs]) :: (Γ.eraseIdx i).eraseIdx j) := by
  subst hm
  subst hX
  have h1 := hs.rot i hi
  refine ⟨h1.os, h1.tape, h1.output, h1.size, ?_⟩
  obtain ⟨g1, g2, d, s1, s2, hA, hG⟩ := h1.heap
  obtain ⟨k1, k2, d', t1, t2, hR, hG'⟩ := hG.rot j _ hj
  refine ⟨join k1 g1, k2, ?_, ?_, t2.trans s2, ?_, hG'⟩
  · exact dis_join d' (d.symm.sub t2).symm
  · exact join_sub (t1.trans s2) s1
  · exact NRows.push hR hA (d.symm.sub t1) (sub_join_left _ _) (sub_join_right (d.symm.sub t1))
/-- A row's place, and what it holds. -/
theorem Sat.rowAt {vs : List Value} {R : List (List Int)} (hs : Sat B w Γ) (i : Nat) (hi : Γ[i]? = some (NRows vs R)) {j : Nat} {xs : List Int} (hx : R[j]? = some xs) :
    ∃ a c, vs[j]? = some (.slice a xs.length c) ∧ RowV w a (xs.map (Value.int .i64)) := by
  obtain ⟨h1, s1, hR⟩ := hs.heap.mem hi
  obtain ⟨v, h2, e1, e2, e3⟩ := hR.get j xs hx
  obtain ⟨a, c, rfl, hsome⟩ := e3.slice
  refine ⟨a, c, e1, fun k u hu => ?_⟩
  have hk := (List.getElem?_eq_some_iff.1 hu).1
  rw [List.length_map] at hk
  obtain ⟨g, rfl⟩ := hsome (by omega)
  refine ⟨_, rfl, ?_⟩
  rw [addAt, Nat.zero_add]
  obtain ⟨q, hrd⟩ := Sl.reads (e := 2) (sz := 1) (m := xs.length) (g := g) (c := c) hu h2 e3
  obtain ⟨c', T, z, hb, hc⟩ := hrd
  have hb' : w.heap[g]? = some (.cells c' T z) := s1 _ _ (e2 _ _ hb)
  simp [World.cell?, hb', hc]
/-- A relation: a box with the rows' slice in it. -/
def RelA (b : Nat) (R : List (List Int)) : Asn := fun h => ∃ a c vs, SatH [Blk b 288 [.slice a R.length c], Sl 34 1 (.slice a R.length c) R.length vs, NRows vs R] h
theorem Sat.relOpen {b : Nat} {R : List (List Int)} (hs : Sat B w Γ) (i : Nat) (hi : Γ[i]? = some (RelA b R)) : ∃ a c vs, Sat B w ([Blk b 288 [.slice a R.length c], Sl 34 1 (.slice a R.length c) R.length vs, NRows vs R] ++ Γ.eraseIdx i) := by
  have h1 := hs.rot i hi
  obtain ⟨g1, g2, d, s1, s2, ⟨a, c, vs, hA⟩, hG⟩ := h1.heap
  exact ⟨a, c, vs, h1.os, h1.tape, h1.output, h1.size, SatH.append _ hA hG d s1 s2⟩
theorem SatH.take3 {A C D : Asn} {h : Heap} (hs : SatH (A :: C :: D :: Γ) h) : SatH ((fun k => SatH [A, C, D] k) :: Γ) h := by
  obtain ⟨g1, g2, d, s1, s2, hA, k1, k2, d2, t1, t2, hC, m1, m2, d3, r1, r2, hD, hG⟩ := hs
  have d13 : Dis g1 m1 := (d.symm.sub (r1.trans t2)).symm
  have d12 : Dis g1 k1 := (d.symm.sub t1).symm
  have d23 : Dis k1 m1 := (d2.symm.sub r1).symm
  refine ⟨join g1 (join k1 m1), m2, ?_, join_sub s1 (join_sub (t1.trans s2) (r1.trans (t2.trans s2))), r2.trans (t2.trans s2), ?_, hG⟩
  · refine dis_join ((d.symm.sub (r2.trans t2)).symm) (dis_join ((d2.symm.sub r2).symm) d3)
  · have hsub : Sub (join k1 m1) (join g1 (join k1 m1)) := sub_join_right ((dis_join d12.symm d13.symm).symm)
    exact ⟨g1, join k1 m1, (dis_join d12.symm d13.symm).symm, sub_join_left _ _, hsub, hA, k1, m1, d23, sub_join_left _ _, sub_join_right d23, hC, m1, fun _ => none, fun _ => .inr rfl, Sub.refl _, (fun _ _ e => by cases e), hD, trivial⟩
theorem Sat.relClose {b n : Nat} {a : Option Addr} {c : Nat} {vs : List Value} {R : List (List Int)} (hs : Sat B w (Blk b 288 [.slice a n c] :: Sl 34 1 (.slice a n c) n vs :: NRows vs R :: Γ)) (hn : n = R.length) : Sat B w (RelA b R :: Γ) := by
  subst hn
  exact ⟨hs.os, hs.tape, hs.output, hs.size, (hs.heap.take3).imp fun h hA => ⟨a, c, vs, hA⟩⟩
end
end Go.Sl
set_option linter.unusedVariables false
set_option linter.unusedSimpArgs false
namespace Go.Sl
open Go.RowKit
section
variable {α : Type}
/-- Rows of elements of several cells, each of them a slice of the call's own. -/
def GRows (e sz : Nat) (enc : α → List Value) : List Value → List (List α) → Asn
  | [], [] => fun _ => True
  | v :: vs, xs :: R => fun h => SatH [Sl e sz v xs.length (xs.flatMap enc), GRows e sz enc vs R] h
  | _, _ => fun _ => False
variable {e sz : Nat} {enc : α → List Value}
theorem GRows.length : ∀ {vs : List Value} {R : List (List α)} {h : Heap}, GRows e sz enc vs R h → vs.length = R.length
  | [], [], _, _ => rfl
  | v :: vs, xs :: R, h, hr => by
    obtain ⟨h1, h2, d, s1, s2, hA, g1, g2, d', t1, t2, hR, -⟩ := hr
    simp [hR.length]
  | [], _ :: _, _, hr => hr.elim
  | _ :: _, [], _, hr => hr.elim
theorem GRows.get : ∀ {vs : List Value} {R : List (List α)} {h : Heap}, GRows e sz enc vs R h → ∀ (i : Nat) (xs : List α), R[i]? = some xs → ∃ v h1, vs[i]? = some v ∧ Sub h1 h ∧ Sl e sz v xs.length (xs.flatMap enc) h1
  | [], [], _, _, i, xs, hx => by simp at hx
  | v :: vs, ys :: R, h, hr, i, xs, hx => by
    obtain ⟨h1, h2, d, s1, s2, hA, g1, g2, d', t1, t2, hR, -⟩ := hr
    cases i with
    | zero => simp at hx; subst hx; exact ⟨v, h1, rfl, s1, hA⟩
    | succ i =>
      obtain ⟨u, k, e1, e2, e3⟩ := hR.get i xs (by simpa using hx)
      exact ⟨u, k, by simpa using e1, e2.trans (t1.trans s2), e3⟩
  | [], _ :: _, _, hr, _, _, _ => hr.elim
  | _ :: _, [], _, hr, _, _, _ => hr.elim
theorem GRows.push : ∀ {vs : List Value} {R : List (List α)} {h g k : Heap} {v : Value} {xs : List α}, GRows e sz enc vs R h → Sl e sz v xs.length (xs.flatMap enc) g → Dis h g → Sub h k → Sub g k → GRows e sz enc (vs ++ [v]) (R ++ [xs]) k
  | [], [], h, g, k, v, xs, _, hg, d, s1, s2 => ⟨g, fun _ => none, fun _ => .inr rfl, s2, (fun _ _ e => by cases e), hg, fun _ => none, fun _ => none, fun _ => .inr rfl, (fun _ _ e => by cases e), (fun _ _ e => by cases e), trivial, trivial⟩
  | u :: vs, ys :: R, h, g, k, v, xs, hr, hg, d, s1, s2 => by
    obtain ⟨h1, h2, d1, t1, t2, hA, g1, g2, d', r1, r2, hR, -⟩ := hr
    have hsub : Sub g1 h := r1.trans t2
    have hR' : GRows e sz enc (vs ++ [v]) (R ++ [xs]) (join g1 g) := GRows.push hR hg (d.sub hsub) (sub_join_left _ _) (sub_join_right (d.sub hsub))
    refine ⟨h1, join g1 g, ?_, t1.trans s1, join_sub (hsub.trans s1) s2, hA, ?_⟩
    · exact (dis_join ((d1.symm.sub r1)) ((d.sub t1).symm)).symm
    · exact ⟨join g1 g, fun _ => none, fun _ => .inr rfl, Sub.refl _, (fun _ _ e => by cases e), hR', trivial⟩
  | [], _ :: _, _, _, _, _, _, hr, _, _, _, _ => hr.elim
  | _ :: _, [], _, _, _, _, _, hr, _, _, _, _ => hr.elim
variable {B w : World} {Γ : List Asn}
theorem Sat.gPush {v : Value} {vs : List Value} {R : List (List α)} {xs : List α} (hs : Sat B w Γ) (i j : Nat) (hi : Γ[i]? = some (Sl e sz v xs.length (xs.flatMap enc))) (hj : (Γ.eraseIdx i)[j]? = some (GRows e sz enc vs R)) :
    Sat B w (GRows e sz enc (vs ++ [v]) (R ++ [xs]) :: (Γ.eraseIdx i).eraseIdx j) := by
  have h1 := hs.rot i hi
  refine ⟨h1.os, h1.tape, h1.output, h1.size, ?_⟩
  obtain ⟨g1, g2, d, s1, s2, hA, hG⟩ := h1.heap
  obtain ⟨k1, k2, d', t1, t2, hR, hG'⟩ := hG.rot j _ hj
  refine ⟨join k1 g1, k2, ?_, ?_, t2.trans s2, ?_, hG'⟩
  · exact dis_join d' (d.symm.sub t2).symm
  · exact join_sub (t1.trans s2) s1
  · exact GRows.push hR hA (d.symm.sub t1) (sub_join_left _ _) (sub_join_right (d.symm.sub t1))
/-- A row's place, and what its cells hold. -/
theorem Sat.gAt {vs : List Value} {R : List (List α)} (hs : Sat B w Γ) (i : Nat) (hi : Γ[i]? = some (GRows e sz enc vs R)) {j : Nat} {xs : List α} (hx : R[j]? = some xs) :
    ∃ a c, vs[j]? = some (.slice a xs.length c) ∧ xs.length ≤ c ∧ (0 < xs.length → ∃ g, a = some ⟨g, 0, none⟩ ∧ ∀ k u, (xs.flatMap enc)[k]? = some u → w.cell? ⟨g, k, none⟩ = some u) := by
  obtain ⟨h1, s1, hR⟩ := hs.heap.mem hi
  obtain ⟨v, h2, e1, e2, e3⟩ := hR.get j xs hx
  obtain ⟨a, c, rfl, hsome⟩ := e3.slice
  refine ⟨a, c, e1, ?_, fun h0 => ?_⟩
  · rcases e3.2 with ⟨q1, q2⟩ | ⟨g, cap, cur, q1, _, q3, _⟩
    · omega
    · injection q1 with _ _ q1; omega
  obtain ⟨g, rfl⟩ := hsome h0
  refine ⟨g, rfl, fun k u hu => ?_⟩
  obtain ⟨q, hrd⟩ := Sl.reads (e := e) (sz := sz) (m := xs.length) (g := g) (c := c) hu h2 e3
  obtain ⟨c', T, z, hb, hc⟩ := hrd
  have hb' : w.heap[g]? = some (.cells c' T z) := s1 _ _ (e2 _ _ hb)
  simp [World.cell?, hb', hc]
end
end Go.Sl
