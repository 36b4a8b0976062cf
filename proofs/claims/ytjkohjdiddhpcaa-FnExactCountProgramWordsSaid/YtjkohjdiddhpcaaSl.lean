import Derived.Orders
import Derived.OrdersHeld
import Derived.Tactics
import Derived.Below
import Derived.Laws.AppendOwn
import Derived.Laws.OwnMore
import Derived.Scope
import Derived.KernelRfl
/- A frame-work for walks over the given code: frames as functions, parts of the heap apart from each other. -/
set_option linter.unusedVariables false
set_option linter.unusedSimpArgs false
namespace Go.Sl
open Go.RowKit
/-! ### 1. A frame as a function of its slots -/
abbrev Fr := Nat → Value
def upd (f : Fr) (d : Nat) (v : Value) : Fr := fun t => bif Nat.beq t d then v else f t
def fe (f : Fr) : Operand → Value
  | .tmp t => f t
  | .const v => v
  | .global g => .pointer (some ⟨g, 0, none⟩)
  | .func i => .func (.func i) #[] #[]
structure Rep (n : Nat) (f : Fr) (a : Act) : Prop where
  size : a.tmps.size = n
  defers : a.defers = []
  get : ∀ t, a.tmps.getD t undef = f t
theorem Rep.eval {n : Nat} {f : Fr} {a : Act} (h : Rep n f a) : a.eval = fe f := by
  funext x
  cases x with
  | tmp t => exact h.get t
  | _ => rfl
theorem Rep.put {n : Nat} {f : Fr} {a : Act} (h : Rep n f a) {d : Nat} (hd : d < n) (v : Value) : Rep n (upd f d v) (a.put (some d) v) := by
  refine ⟨by simp [Act.put, h.size], by simp [Act.put, h.defers], fun t => ?_⟩
  have h0 := h.get t
  have hs := h.size
  simp only [Act.put, upd]
  by_cases e : t = d
  · subst e
    simp [Array.getD_eq_getD_getElem?, hs, hd]
  · have e' : Nat.beq t d = false := by
      cases hb : Nat.beq t d with
      | false => rfl
      | true => exact absurd (Nat.eq_of_beq_eq_true hb) e
    rw [e']
    rw [← h0]
    simp [Array.getD_eq_getD_getElem?, Array.getElem?_setIfInBounds_ne (Ne.symm e)]
theorem Rep.none {n : Nat} {f : Fr} {a : Act} (h : Rep n f a) (v : Value) : Rep n f (a.put Option.none v) := h
/-- The frame at a call's begin. -/
def start (args : List Value) : Fr := fun t => args.getD t undef
theorem Rep.start (args : Array Value) (n : Nat) (h : args.size ≤ n) : Rep n (start args.toList) { tmps := args ++ Array.replicate (n - args.size) undef, defers := [] } := by
  refine ⟨by simp; omega, rfl, fun t => ?_⟩
  simp only [Sl.start, Array.getD_eq_getD_getElem?, List.getD_eq_getElem?_getD]
  by_cases ht : t < args.size
  · rw [Array.getElem?_append_left ht]; simp
  · rw [Array.getElem?_append_right (by omega)]
    rw [List.getElem?_eq_none (by simpa using ht)]
    rw [Array.getElem?_replicate]
    split <;> rfl
/-! ### 2. What holds of code, over such frames -/
/-- What an ending leaves: a frame that a function tells. -/
def Lift (n : Nat) (K : Exit → Fr → World → Prop) : Exit → Act → World → Prop := fun e a w => ∃ f, Rep n f a ∧ K e f w
def CW (P : Program) (n : Nat) (c : Code) (K : Exit → Fr → World → Prop) (f : Fr) (w : World) : Prop := ∀ a, Rep n f a → c.wp P (Lift n K) a w
section rules
variable {P : Program} {n : Nat} {K : Exit → Fr → World → Prop} {f : Fr} {w : World}
theorem cw_mono {c : Code} {K' : Exit → Fr → World → Prop} (h : CW P n c K f w) (hk : ∀ e f w, K e f w → K' e f w) : CW P n c K' f w :=
  fun a ha => wp_mono (h a ha) fun e a w ⟨f, hr, hq⟩ => ⟨f, hr, hk e f w hq⟩
theorem cw_skip (h : K .normal f w) : CW P n .skip K f w := fun _ ha => wp_skip ⟨f, ha, h⟩
theorem cw_exit {id : Nat} (h : K (.exit id) f w) : CW P n (.exit id) K f w := fun _ ha => wp_exit ⟨f, ha, h⟩
theorem cw_ret (h : K .ret f w) : CW P n .ret K f w := fun _ ha => wp_ret ⟨f, ha, h⟩
def Then (next : Fr → World → Prop) (K : Exit → Fr → World → Prop) : Exit → Fr → World → Prop
  | .normal, f, w => next f w
  | e, f, w => K e f w
theorem cw_seq {x y : Code} (h : CW P n x (Then (CW P n y K) K) f w) : CW P n (.seq x y) K f w := fun a ha =>
  wp_seq (wp_mono (h a ha) fun e a w ⟨f, hr, hq⟩ => by
    cases e with
    | normal => exact hq a hr
    | _ => exact ⟨f, hr, hq⟩)
theorem cw_cond {c : Operand} {x y : Code} {t : Bool} (hc : fe f c = .bool t) (ht : t = true → CW P n x K f w) (hf : t = false → CW P n y K f w) : CW P n (.cond c x y) K f w := fun a ha =>
  wp_cond_split (t := t) (by rw [ha.eval]; exact hc) (fun h => ht h a ha) (fun h => hf h a ha)
theorem cw_cond_true {c : Operand} {x y : Code} (hc : fe f c = .bool true) (h : CW P n x K f w) : CW P n (.cond c x y) K f w := cw_cond hc (fun _ => h) (fun h => by cases h)
theorem cw_cond_false {c : Operand} {x y : Code} (hc : fe f c = .bool false) (h : CW P n y K f w) : CW P n (.cond c x y) K f w := cw_cond hc (fun h => by cases h) (fun _ => h)
def InBlock (id : Nat) (K : Exit → Fr → World → Prop) : Exit → Fr → World → Prop
  | .exit id', f, w => if id' = id then K .normal f w else K (.exit id') f w
  | e, f, w => K e f w
theorem cw_block {id : Nat} {c : Code} (h : CW P n c (InBlock id K) f w) : CW P n (.block id c) K f w := fun a ha =>
  wp_block (wp_mono (h a ha) fun e a w ⟨f, hr, hq⟩ => by
    cases e with
    | exit id' =>
      simp only [Exit.inBlock, InBlock] at hq ⊢
      split
      · rename_i hid; simp only [hid, if_true] at hq; exact ⟨f, hr, hq⟩
      · rename_i hid; simp only [hid, if_false] at hq; exact ⟨f, hr, hq⟩
    | _ => exact ⟨f, hr, hq⟩)
/-- A loop: what holds at every round's head, and what goes down. -/
theorem cw_loop {c : Code} (I : Nat → Fr → World → Prop) (k : Nat) (h : I k f w)
    (round : ∀ k f w, I k f w → CW P n c (Then (fun f w => ∃ k', k' < k ∧ I k' f w) K) f w) : CW P n (.loop c) K f w := fun a ha => by
  intro b k0 cs
  have key : ∀ k a w f, Rep n f a → I k f w →
      ∃ e a' w', Lift n K e a' w' ∧ Arrives P (lone (b.at a (.code c :: .inLoop c :: k0)) cs w) b k0 cs e a' w' := by
    intro k
    induction k using Nat.strongRecOn with
    | _ k ih =>
      intro a w f hr hI
      obtain ⟨e, a₁, w₁, ⟨f', hr', hq⟩, harr⟩ := round k f w hI a hr b (.inLoop c :: k0) cs
      cases e with
      | normal =>
        obtain ⟨k', hlt, hI₁⟩ := hq
        obtain ⟨e₂, a₂, w₂, hq₂, harr₂⟩ := ih k' hlt a₁ w₁ f' hr' hI₁
        exact ⟨e₂, a₂, w₂, hq₂, .of_steps (Steps.trans harr (.one step_inLoop)) harr₂⟩
      | exit id => exact ⟨_, a₁, w₁, ⟨f', hr', hq⟩, .pass (x := .inLoop c) rfl (fun _ _ => .inl (by simp)) harr⟩
      | goto l => exact ⟨_, a₁, w₁, ⟨f', hr', hq⟩, .pass (x := .inLoop c) rfl (fun _ _ => .inl (by simp)) harr⟩
      | ret => exact ⟨_, a₁, w₁, ⟨f', hr', hq⟩, .pass (x := .inLoop c) rfl (fun _ _ => .inl (by simp)) harr⟩
      | panic ch => exact ⟨_, a₁, w₁, ⟨f', hr', hq⟩, .pass (x := .inLoop c) rfl (fun _ _ => .inl (by simp)) harr⟩
      | outgrown => exact ⟨_, a₁, w₁, ⟨f', hr', hq⟩, .pass (x := .inLoop c) rfl (fun _ _ => .inl (by simp)) harr⟩
  obtain ⟨e, a', w', hq, harr⟩ := key k a w f ha h
  exact ⟨e, a', w', hq, .of_steps (.one step_loop) harr⟩
end rules
end Go.Sl
set_option linter.unusedVariables false
set_option linter.unusedSimpArgs false
namespace Go.Sl
open Go.RowKit
/-! ### 3. Regions -/
def OW (P : Program) (n : Nat) (ops : Array Oper) (K : Exit → Fr → World → Prop) (l : List Oper) (f : Fr) (w : World) : Prop :=
  ∀ a, Rep n f a → wpList P ops (Lift n K) l a w
section rules
variable {P : Program} {n : Nat} {ops : Array Oper} {K : Exit → Fr → World → Prop} {f : Fr} {w w' : World} {rest : List Oper}
theorem cw_region {id : Nat} {l : List Oper} (h : OW P n l.toArray K l f w) : CW P n (.region id l.toArray false) K f w :=
  fun a ha => wp_region_lit (h a ha)
theorem ow_nil (h : K .normal f w) : OW P n ops K [] f w := fun _ ha => ⟨f, ha, h⟩
/-- An operation that leaves a value. -/
theorem ow_val {o : Oper} {d : Nat} {v : Value} (hg : o.guard = none) (hd : o.dst = some d) (hn : d < n)
    (hr : (execOp (fe f) o).run P w = .ok (.value v) w') (hk : OW P n ops K rest (upd f d v) w') : OW P n ops K (o :: rest) f w := fun a ha => by
  unfold wpList
  rw [if_pos (by simp [Region.wanted, hg])]
  left
  unfold Oper.wp
  rw [ha.eval, hr, Oper.upon_value, hd]
  exact hk _ (ha.put hn v)
/-- An operation that leaves none. -/
theorem ow_skip {o : Oper} (hg : o.guard = none) (hd : o.dst = none)
    (hr : (execOp (fe f) o).run P w = .ok .skip w') (hk : OW P n ops K rest f w') : OW P n ops K (o :: rest) f w := fun a ha => by
  unfold wpList
  rw [if_pos (by simp [Region.wanted, hg])]
  left
  unfold Oper.wp
  rw [ha.eval, hr, Oper.upon_skip, hd]
  exact hk _ ha
/-- A call of a Go function. -/
theorem ow_call {o : Oper} {d : Nat} {g : FuncId} {args : Array Value} (hg : o.guard = none) (hd : o.dst = some d) (hn : d < n)
    (hr : (execOp (fe f) o).run P w = .ok (.enter g args) w)
    (hk : Calls P g args w fun e w' => ∃ v, e = .returned v ∧ OW P n ops K rest (upd f d v) w') : OW P n ops K (o :: rest) f w := fun a ha => by
  unfold wpList
  rw [if_pos (by simp [Region.wanted, hg])]
  left
  unfold Oper.wp
  rw [ha.eval, hr, Oper.upon_enter, hd]
  refine hk.mono fun e w' ⟨v, he, h⟩ => ?_
  subst he
  exact h _ (ha.put hn v)
theorem rep_bool {f : Fr} {a : Act} (ha : Rep n f a) {g : Nat} {b : Bool} (hb : f g = .bool b) : a.tmps[g]? = some (.bool b) := by
  have h := ha.get g
  rw [hb, Array.getD_eq_getD_getElem?] at h
  cases hx : a.tmps[g]? with
  | none => rw [hx] at h; simp [undef] at h
  | some v => rw [hx] at h; simp at h; rw [h]
/-- A guarded operation that is wanted. -/
theorem ow_in {dst : Option Tmp} {op : Op} {ty : TypeId} {pos : String} {after : Array Edge} {j g : Nat} {b : Bool} (hj : (ops[j]?).bind (·.dst) = some g) (hb : f g = .bool b)
    (h : OW P n ops K (⟨dst, op, ty, pos, after, none⟩ :: rest) f w) : OW P n ops K (⟨dst, op, ty, pos, after, some (j, b)⟩ :: rest) f w := fun a ha => by
  have h0 := h a ha
  unfold wpList at h0 ⊢
  rw [if_pos (by simp [Region.wanted])] at h0
  rw [if_pos (by simp [Region.wanted, yielded, hj, rep_bool ha hb])]
  exact h0
/-- A guarded operation that is not wanted. -/
theorem ow_out {d : Nat} {op : Op} {ty : TypeId} {pos : String} {after : Array Edge} {j g : Nat} {b c : Bool} (hj : (ops[j]?).bind (·.dst) = some g) (hb : f g = .bool c) (hc : (c == b) = false) (hn : d < n)
    (h : OW P n ops K rest (upd f d undef) w) : OW P n ops K (⟨some d, op, ty, pos, after, some (j, b)⟩ :: rest) f w := fun a ha => by
  unfold wpList
  rw [if_neg (by simp [Region.wanted, yielded, hj, rep_bool ha hb]; simpa using hc)]
  exact h _ (ha.put hn undef)
/-! ### 4. Operations that touch no memory -/
variable {d : Nat} {ty : TypeId} {pos : String} {after : Array Edge}
variable {x y : Operand} {xt yt : TypeId} {a b : Int} {k : IntKind}
theorem o_add (hx : fe f x = .int k a) (hy : fe f y = .int k b) (hn : d < n) (hk : OW P n ops K rest (upd f d (.int k (k.wrap (a + b)))) w) : OW P n ops K (⟨some d, .binOp .add xt x y yt, ty, pos, after, none⟩ :: rest) f w :=
  ow_val rfl rfl hn (by simp [execOp, hx, hy, eqGuard, binOp, Op.intArith]) hk
theorem o_sub (hx : fe f x = .int k a) (hy : fe f y = .int k b) (hn : d < n) (hk : OW P n ops K rest (upd f d (.int k (k.wrap (a - b)))) w) : OW P n ops K (⟨some d, .binOp .sub xt x y yt, ty, pos, after, none⟩ :: rest) f w :=
  ow_val rfl rfl hn (by simp [execOp, hx, hy, eqGuard, binOp, Op.intArith]) hk
end rules
end Go.Sl
set_option linter.unusedVariables false
set_option linter.unusedSimpArgs false
namespace Go.Sl
open Go.RowKit
/-! ### 5. A heap in parts -/
abbrev Heap := Nat → Option Obj
abbrev Asn := Heap → Prop
def Sub (h g : Heap) : Prop := ∀ b o, h b = some o → g b = some o
def Dis (h g : Heap) : Prop := ∀ b, h b = none ∨ g b = none
theorem Sub.refl (h : Heap) : Sub h h := fun _ _ e => e
theorem Sub.trans {a b c : Heap} (h : Sub a b) (k : Sub b c) : Sub a c := fun x o e => k x o (h x o e)
theorem Dis.symm {a b : Heap} (h : Dis a b) : Dis b a := fun x => (h x).symm
theorem Dis.sub {a b a' : Heap} (h : Dis a b) (k : Sub a' a) : Dis a' b := fun x => by
  rcases h x with e | e
  · left
    cases ha : a' x with
    | none => rfl
    | some o => have := k x o ha; rw [e] at this; cases this
  · exact .inr e
def join (h g : Heap) : Heap := fun b => (h b).orElse fun _ => g b
theorem sub_join_left (h g : Heap) : Sub h (join h g) := fun b o e => by simp [join, e]
theorem sub_join_right {h g : Heap} (hd : Dis h g) : Sub g (join h g) := fun b o e => by
  rcases hd b with h0 | h0
  · simp [join, h0, e]
  · rw [e] at h0; cases h0
theorem join_sub {h g k : Heap} (h1 : Sub h k) (h2 : Sub g k) : Sub (join h g) k := fun b o e => by
  unfold join at e
  cases hb : h b with
  | none => rw [hb] at e; exact h2 b o (by simpa using e)
  | some o' => rw [hb] at e; exact h1 b o (by rw [hb]; simpa using e)
theorem dis_join {h g k : Heap} (h1 : Dis h k) (h2 : Dis g k) : Dis (join h g) k := fun b => by
  rcases h1 b with e | e
  · rcases h2 b with e2 | e2
    · left; simp [join, e, e2]
    · exact .inr e2
  · exact .inr e
def SatH : List Asn → Heap → Prop
  | [], _ => True
  | A :: Γ, h => ∃ h1 h2, Dis h1 h2 ∧ Sub h1 h ∧ Sub h2 h ∧ A h1 ∧ SatH Γ h2
theorem SatH.mono {Γ : List Asn} {h g : Heap} (k : Sub h g) : SatH Γ h → SatH Γ g := by
  cases Γ with
  | nil => exact fun _ => trivial
  | cons A Γ => rintro ⟨h1, h2, d, s1, s2, hA, hΓ⟩; exact ⟨h1, h2, d, s1.trans k, s2.trans k, hA, hΓ⟩
theorem SatH.swap {A B : Asn} {Γ : List Asn} {h : Heap} : SatH (A :: B :: Γ) h → SatH (B :: A :: Γ) h := by
  rintro ⟨h1, h2, d, s1, s2, hA, g1, g2, d', t1, t2, hB, hΓ⟩
  refine ⟨g1, join h1 g2, (dis_join (d.symm.sub t1).symm d'.symm).symm, t1.trans s2, join_sub s1 (t2.trans s2), hB, h1, g2, (d.symm.sub t2).symm, sub_join_left _ _, sub_join_right (d.symm.sub t2).symm, hA, hΓ⟩
theorem SatH.perm {Γ Δ : List Asn} (p : Γ.Perm Δ) : ∀ {h : Heap}, SatH Γ h → SatH Δ h := by
  induction p with
  | nil => exact id
  | cons A p ih => rintro h ⟨h1, h2, d, s1, s2, hA, hΓ⟩; exact ⟨h1, h2, d, s1, s2, hA, ih hΓ⟩
  | swap A B Γ => exact SatH.swap
  | trans p q ih1 ih2 => exact fun hh => ih2 (ih1 hh)
theorem SatH.drop {A : Asn} {Γ : List Asn} {h : Heap} : SatH (A :: Γ) h → SatH Γ h := by
  rintro ⟨h1, h2, d, s1, s2, hA, hΓ⟩; exact hΓ.mono s2
theorem SatH.imp {A A' : Asn} {Γ : List Asn} {h : Heap} (k : ∀ h, A h → A' h) : SatH (A :: Γ) h → SatH (A' :: Γ) h := by
  rintro ⟨h1, h2, d, s1, s2, hA, hΓ⟩; exact ⟨h1, h2, d, s1, s2, k _ hA, hΓ⟩
/-- A world over a base world: the streams are the base's, and the heap holds the parts. -/
structure Sat (B w : World) (Γ : List Asn) : Prop where
  os : w.os = B.os
  tape : w.tape = B.tape
  output : w.output = B.output
  size : B.heap.size ≤ w.heap.size
  heap : SatH Γ (fun b => w.heap[b]?)
theorem Sat.perm {B w : World} {Γ Δ : List Asn} (h : Sat B w Γ) (p : Γ.Perm Δ) : Sat B w Δ := ⟨h.os, h.tape, h.output, h.size, h.heap.perm p⟩
theorem Sat.drop {B w : World} {A : Asn} {Γ : List Asn} (h : Sat B w (A :: Γ)) : Sat B w Γ := ⟨h.os, h.tape, h.output, h.size, h.heap.drop⟩
theorem Sat.imp {B w : World} {A A' : Asn} {Γ : List Asn} (h : Sat B w (A :: Γ)) (k : ∀ h, A h → A' h) : Sat B w (A' :: Γ) := ⟨h.os, h.tape, h.output, h.size, h.heap.imp k⟩
theorem Sat.below {B w w' : World} {Γ : List Asn} (h : Sat B w Γ) (hb : Below w.heap.size w w') : Sat B w' Γ :=
  ⟨hb.os.trans h.os, hb.tape.trans h.tape, hb.output.trans h.output, Nat.le_trans h.size hb.size, h.heap.mono fun b o e => by
    have hlt : b < w.heap.size := (Array.getElem?_eq_some_iff.1 e).1
    show w'.heap[b]? = some o
    rw [hb.block b hlt]; exact e⟩
theorem Sat.drew {B w : World} {Γ : List Asn} (h : Sat B w Γ) : Sat B w.drew Γ := ⟨h.os, h.tape, h.output, h.size, h.heap⟩
theorem perm_erase {α : Type _} : ∀ (l : List α) (i : Nat) (x : α), l[i]? = some x → (x :: l.eraseIdx i).Perm l
  | [], i, x, h => by simp at h
  | a :: l, 0, x, h => by simp at h; subst h; simp
  | a :: l, i + 1, x, h => by
    simp at h
    exact (List.Perm.swap a x _).trans ((perm_erase l i x h).cons a)
/-- The parts in another order: `Γ` by places. -/
def pick (l : List Nat) (Γ : List Asn) : List Asn := l.filterMap (Γ[·]?)
theorem SatH.rot {Γ : List Asn} {h : Heap} (i : Nat) (A : Asn) (hi : Γ[i]? = some A) : SatH Γ h → SatH (A :: Γ.eraseIdx i) h := by
  intro hs
  exact SatH.perm (perm_erase Γ i A hi).symm hs
theorem Sat.rot {B w : World} {Γ : List Asn} (h : Sat B w Γ) (i : Nat) {A : Asn} (hi : Γ[i]? = some A) : Sat B w (A :: Γ.eraseIdx i) :=
  ⟨h.os, h.tape, h.output, h.size, h.heap.rot i A hi⟩
/-! ### 6. A new block; a cell that is read; a cell that is written -/
/-- Block b holds these cells, all of them free to be written. -/
def Blk (b : Nat) (T : TypeId) (cs : List Value) : Asn := fun h => h b = some (.cells cs.toArray T (0, 0))
theorem Sat.alloc {B w : World} {Γ : List Asn} (h : Sat B w Γ) (T : TypeId) (cs : Array Value) : Sat B (w.alloc (.cells cs T)) (Blk w.heap.size T cs.toList :: Γ) :=
  ⟨h.os, h.tape, h.output, Nat.le_trans h.size (by show _ ≤ (w.heap.push _).size; simp), by
    refine ⟨fun b => if b = w.heap.size then some (.cells cs T) else none, fun b => w.heap[b]?, ?_, ?_, ?_, ?_, h.heap⟩
    · intro b
      by_cases e : b = w.heap.size
      · right; subst e; simp
      · left; simp [e]
    · intro b o e
      by_cases e' : b = w.heap.size
      · subst e'; simp at e; subst e; show (w.heap.push _)[_]? = _; simp
      · simp [e'] at e
    · intro b o e
      have hlt : b < w.heap.size := (Array.getElem?_eq_some_iff.1 e).1
      show (w.heap.push _)[b]? = some o
      rw [Array.getElem?_push, if_neg (by omega)]; exact e
    · simp [Blk]⟩
def Reads (A : Asn) (p : Addr) (v : Value) : Prop := ∀ h, A h → p.spot = none ∧ ∃ c T z, h p.block = some (.cells c T z) ∧ c[p.off]? = some v
theorem SatH.cell {Γ : List Asn} {h : Heap} (i : Nat) {A : Asn} (hi : Γ[i]? = some A) {p : Addr} {v : Value} (hr : Reads A p v) (hs : SatH Γ h) : p.spot = none ∧ ∃ c T z, h p.block = some (.cells c T z) ∧ c[p.off]? = some v := by
  obtain ⟨h1, h2, d, s1, s2, hA, hΓ⟩ := hs.rot i A hi
  obtain ⟨hp, c, T, z, hb, hc⟩ := hr h1 hA
  exact ⟨hp, c, T, z, s1 _ _ hb, hc⟩
theorem Sat.cell {B w : World} {Γ : List Asn} (h : Sat B w Γ) (i : Nat) {A : Asn} (hi : Γ[i]? = some A) {p : Addr} {v : Value} (hr : Reads A p v) : w.cell? p = some v := by
  obtain ⟨hp, c, T, z, hb, hc⟩ := h.heap.cell i hi hr
  have hb' : w.heap[p.block]? = some (.cells c T z) := hb
  simp [World.cell?, hb', hp, hc]
/-- What a part becomes when a cell of it is written. -/
def Writes (A : Asn) (p : Addr) (v : Value) (A' : Asn) : Prop :=
  ∀ h, A h → p.spot = none ∧ ∃ c T lo hi, h p.block = some (.cells c T (lo, hi)) ∧ p.off < c.size ∧ (decide (lo ≤ p.off) && decide (p.off < hi)) = false ∧
    A' (fun b => if b = p.block then some (.cells (c.setIfInBounds p.off v) T (lo, hi)) else h b)
theorem SatH.set {Γ : List Asn} {h : Heap} (i : Nat) {A A' : Asn} (hi : Γ[i]? = some A) {p : Addr} {v : Value} (hw : Writes A p v A') (hs : SatH Γ h) :
    p.spot = none ∧ ∃ c T lo hi, h p.block = some (.cells c T (lo, hi)) ∧ p.off < c.size ∧ (decide (lo ≤ p.off) && decide (p.off < hi)) = false ∧
      SatH (Γ.set i A') (fun b => if b = p.block then some (.cells (c.setIfInBounds p.off v) T (lo, hi)) else h b) := by
  obtain ⟨h1, h2, d, s1, s2, hA, hΓ⟩ := hs.rot i A hi
  obtain ⟨hp, c, T, lo, hi', hb, ho, hf, hA'⟩ := hw h1 hA
  refine ⟨hp, c, T, lo, hi', s1 _ _ hb, ho, hf, ?_⟩
  have hq : SatH (A' :: Γ.eraseIdx i) (fun b => if b = p.block then some (.cells (c.setIfInBounds p.off v) T (lo, hi')) else h b) := by
    refine ⟨_, h2, ?_, ?_, ?_, hA', hΓ⟩
    · intro b
      rcases d b with e | e
      · by_cases e' : b = p.block
        · subst e'; rw [hb] at e; cases e
        · left; simp [e', e]
      · exact .inr e
    · intro b o e
      by_cases e' : b = p.block
      · simp [e'] at e ⊢; exact e
      · simp [e'] at e ⊢; exact s1 _ _ e
    · intro b o e
      by_cases e' : b = p.block
      · subst e'
        rcases d p.block with e2 | e2
        · rw [hb] at e2; cases e2
        · rw [e] at e2; cases e2
      · simp [e']; exact s2 _ _ e
  refine hq.perm ?_
  obtain ⟨h1', h2'⟩ := List.getElem?_eq_some_iff.1 hi
  have hp2 := perm_erase (Γ.set i A') i A' (by simp [h1'])
  rwa [List.eraseIdx_set_eq] at hp2
theorem heap_setCell (w : World) (p : Addr) (v : Value) {c : Array Value} {T : TypeId} {z : Nat × Nat} (hp : p.spot = none) (hb : w.heap[p.block]? = some (.cells c T z)) (b : Nat) :
    (w.setCell p v).heap[b]? = if b = p.block then some (.cells (c.setIfInBounds p.off v) T z) else w.heap[b]? := by
  simp only [World.setCell, Array.getElem?_modify, hp]
  by_cases e : b = p.block
  · subst e; simp [hb]
  · rw [if_neg (fun h => e h.symm), if_neg e]
theorem Sat.set {B w : World} {Γ : List Asn} (h : Sat B w Γ) (i : Nat) {A A' : Asn} (hi : Γ[i]? = some A) {p : Addr} {v : Value} (hw : Writes A p v A') :
    (∃ u, w.cell? p = some u) ∧ w.frozen? p = false ∧ Sat B (w.setCell p v) (Γ.set i A') := by
  obtain ⟨hp, c, T, lo, hi', hb, ho, hf, hs⟩ := h.heap.set i hi hw
  have hb' : w.heap[p.block]? = some (.cells c T (lo, hi')) := hb
  refine ⟨⟨c[p.off], by simp [World.cell?, hb', hp, ho]⟩, by simp only [World.frozen?, hb']; exact hf, h.os, h.tape, h.output, by simpa [World.setCell] using h.size, ?_⟩
  have : (fun b => (w.setCell p v).heap[b]?) = (fun b => if b = p.block then some (.cells (c.setIfInBounds p.off v) T (lo, hi')) else w.heap[b]?) :=
    funext fun b => heap_setCell w p v hp hb' b
  rw [this]
  exact hs
theorem Blk.reads {b : Nat} {T : TypeId} {cs : List Value} {i : Nat} {v : Value} (h : cs[i]? = some v) : Reads (Blk b T cs) ⟨b, i, none⟩ v := fun g hg =>
  ⟨rfl, _, _, _, hg, by simpa using h⟩
theorem Blk.writes {b : Nat} {T : TypeId} {cs : List Value} {i : Nat} (v : Value) (h : i < cs.length) : Writes (Blk b T cs) ⟨b, i, none⟩ v (Blk b T (cs.set i v)) := fun g hg =>
  ⟨rfl, _, _, _, _, hg, by simpa using h, by simp, by simp [Blk]⟩
end Go.Sl
set_option linter.unusedVariables false
set_option linter.unusedSimpArgs false
namespace Go.Sl
open Go.RowKit
/-! ### 7. What a type says -/
def flatB (P : Program) (t : TypeId) : Bool :=
  match P.underlying t, P.info? t with
  | some (.struct _), _ | some (.array _ _), _ | none, _ | _, none => false
  | some _, some i => i.size == 1
def aggN (P : Program) (t : TypeId) : Option Nat :=
  match P.underlying t, P.info? t with
  | some (.struct _), some i | some (.array _ _), some i => some i.size
  | _, _ => none
def zeroOf (P : Program) (t : TypeId) : Option Value := (P.info? t).bind (·.zero)
def fieldB (P : Program) (s i : Nat) : Option Nat :=
  match P.underlying s with
  | some (.struct fs) => match fs[i]? with
    | some fl => match P.info? fl.type with
      | some j => if j.size = 0 then none else some fl.offset
      | none => none
    | none => none
  | _ => none
structure SlT (P : Program) (t e sz by_ : Nat) (z : Value) : Prop where
  und : P.underlying t = some (.slice e)
  info : (P.info? e).map (fun i => (i.size, i.bytes)) = some (sz, by_)
  zero : zeroOf P e = some z
  zsz : z.cells.size = sz
  pos : 0 < sz
section
variable {P : Program} {w : World}
theorem flat_run {t : TypeId} (h : flatB P t = true) : (isAgg t).run P w = .ok false w ∧ (sizeOf t).run P w = .ok 1 w := by
  unfold flatB at h
  split at h <;> first | (cases h; done) | skip
  rename_i d i hd hi h1 h2
  simp at h
  constructor
  · simp only [isAgg, Sem.run_bind, run_underlying h1, Result.andThen_ok]
    cases d <;> first | rfl | (exact absurd rfl (hd _)) | (exact absurd rfl (hi _ _))
  · simp [sizeOf, typeInfo, h2, h]
theorem agg_run {t n : Nat} (h : aggN P t = some n) : (isAgg t).run P w = .ok true w ∧ (sizeOf t).run P w = .ok n w := by
  unfold aggN at h
  split at h <;> first | (cases h; done) | skip
  all_goals
    rename_i hd hi
    simp at h
    constructor
    · simp only [isAgg, Sem.run_bind, run_underlying hd, Result.andThen_ok]
      rfl
    · simp [sizeOf, typeInfo, hi, h]
theorem zero_run {t : Nat} {z : Value} (h : zeroOf P t = some z) : (zeroValue t).run P w = .ok z w := by
  unfold zeroOf at h
  cases hi : P.info? t with
  | none => simp [hi] at h
  | some i => simp [hi] at h; simp [zeroValue, typeInfo, hi, h]
theorem field_run {s i off : Nat} {a : Addr} (h : fieldB P s i = some off) : (Instr.fieldAt s (.pointer (some a)) i).run P w = .ok (.pointer (some (a.add off))) w := by
  unfold fieldB at h
  split at h <;> first | (cases h; done) | skip
  rename_i fs hd
  split at h <;> first | (cases h; done) | skip
  rename_i fl hf
  split at h <;> first | (cases h; done) | skip
  rename_i j hj
  split at h <;> first | (cases h; done) | skip
  rename_i hz
  simp at h
  simp [Instr.fieldAt, run_underlying hd, hf, Instr.sureAddr, fieldPlace, sizeOf, typeInfo, hj, hz, h]
theorem addAt (b o n : Nat) : (⟨b, o, none⟩ : Addr).add n = ⟨b, o + n, none⟩ := Addr.add_lit b o n
end
section rules
variable {P : Program} {n : Nat} {ops : Array Oper} {K : Exit → Fr → World → Prop} {f : Fr} {B w : World} {rest : List Oper} {Γ : List Asn}
variable {d : Nat} {ty : TypeId} {pos : String} {after : Array Edge} {x y : Operand}
theorem o_alloc {e : TypeId} {z : Value} (hz : zeroOf P e = some z) (hs : Sat B w Γ) (hn : d < n)
    (hk : ∀ b w', Sat B w' (Blk b e z.cells.toList :: Γ) → OW P n ops K rest (upd f d (.pointer (some ⟨b, 0, none⟩))) w') :
    OW P n ops K (⟨some d, .alloc e, ty, pos, after, none⟩ :: rest) f w :=
  ow_val (v := .pointer (some ⟨w.heap.size, 0, none⟩)) (w' := w.alloc (.cells z.cells e)) rfl rfl hn
    (by simp [execOp, Instr.alloc, zero_run hz, newVar, newRow]) (hk _ _ (hs.alloc e z.cells))
theorem o_box {e : TypeId} {v : Value} (hx : fe f x = v) (hs : Sat B w Γ) (hn : d < n)
    (hk : ∀ b w', Sat B w' (Blk b e v.cells.toList :: Γ) → OW P n ops K rest (upd f d (.pointer (some ⟨b, 0, none⟩))) w') :
    OW P n ops K (⟨some d, .box e x, ty, pos, after, none⟩ :: rest) f w :=
  ow_val (v := .pointer (some ⟨w.heap.size, 0, none⟩)) (w' := w.alloc (.cells v.cells e)) rfl rfl hn
    (by simp [execOp, Instr.box, hx, newVar, newRow]) (hk _ _ (hs.alloc e v.cells))
theorem cells_one {v : Value} (h : v.oneCell' = true) : v.cells = #[v] := by cases v <;> first | rfl | simp [Value.oneCell'] at h
theorem o_store {t : TypeId} {p : Addr} {v : Value} {A A' : Asn} {i : Nat} (hx : fe f x = .pointer (some p)) (hy : fe f y = v) (hv : v.oneCell' = true) (ht : flatB P t = true)
    (hs : Sat B w Γ) (hi : Γ[i]? = some A) (hw : Writes A p v A') (hk : ∀ w', Sat B w' (Γ.set i A') → OW P n ops K rest f w') :
    OW P n ops K (⟨none, .store t x y, ty, pos, after, none⟩ :: rest) f w := by
  obtain ⟨⟨u, hu⟩, hf, hs'⟩ := hs.set i hi hw
  refine ow_skip rfl rfl ?_ (hk _ hs')
  have hp : p.add 0 = p := by simp [Addr.add]
  simp only [execOp, Instr.storeAt, hx, hy, Sem.run_bind, Instr.sureAddr, Sem.run_pure, Result.andThen_ok, storeVar, (flat_run (w := w) ht).2, cells_one hv, storeCells, hp, run_store P w p v _ hv, hu, hf]
  simp [storeCells, hp, run_store P w p v _ hv, hu, hf]
/-- A store of several cells. -/
def WritesL : List Value → Asn → Addr → Nat → Asn → Prop
  | [], A, _, _, A' => A = A'
  | v :: vs, A, p, i, A' => ∃ A1, Writes A (p.add i) v A1 ∧ WritesL vs A1 p (i + 1) A'
theorem storeCells_sat {p : Addr} : ∀ (vs : List Value) (A A' : Asn) (k i : Nat) (w : World) (Γ : List Asn), (∀ v ∈ vs, v.oneCell' = true) → Sat B w Γ → Γ[i]? = some A → WritesL vs A p k A' →
    ∃ w', (storeCells p vs k).run P w = .ok () w' ∧ Sat B w' (Γ.set i A')
  | [], A, A', k, i, w, Γ, _, hs, hi, hw => by
    refine ⟨w, rfl, ?_⟩
    cases hw
    obtain ⟨h1, h2⟩ := List.getElem?_eq_some_iff.1 hi
    subst h2
    rw [List.set_getElem_self]; exact hs
  | v :: vs, A, A', k, i, w, Γ, h1, hs, hi, ⟨A1, hw, hr⟩ => by
    obtain ⟨⟨u, hu⟩, hf, hs'⟩ := hs.set i hi hw
    have hi' : (Γ.set i A1)[i]? = some A1 := by
      obtain ⟨h1, h2⟩ := List.getElem?_eq_some_iff.1 hi
      simp [h1]
    obtain ⟨w', hr', hs2⟩ := storeCells_sat vs A1 A' (k + 1) i _ _ (fun x hx => h1 x (by simp [hx])) hs' hi' hr
    refine ⟨w', ?_, by simpa using hs2⟩
    simp only [storeCells, Sem.run_bind, run_store P w _ v _ (h1 v (by simp)), hu, hf]
    simpa using hr'
theorem o_storeN {t m : TypeId} {p : Addr} {vs : List Value} {A A' : Asn} {i : Nat} (hx : fe f x = .pointer (some p)) (hy : fe f y = .agg vs.toArray) (hv : ∀ v ∈ vs, v.oneCell' = true) (ht : aggN P t = some m) (hl : vs.length = m)
    (hs : Sat B w Γ) (hi : Γ[i]? = some A) (hw : WritesL vs A p 0 A') (hk : ∀ w', Sat B w' (Γ.set i A') → OW P n ops K rest f w') :
    OW P n ops K (⟨none, .store t x y, ty, pos, after, none⟩ :: rest) f w := by
  obtain ⟨w', hr, hs'⟩ := storeCells_sat (P := P) vs A A' 0 i w Γ hv hs hi hw
  refine ow_skip (w' := w') rfl rfl ?_ (hk _ hs')
  subst hl
  simp [execOp, Instr.storeAt, hx, hy, Instr.sureAddr, storeVar, (agg_run (w := w) ht).2, Value.cells, hr]
theorem writesL_blk {b : Nat} {T : TypeId} : ∀ (vs cs : List Value) (o k : Nat), o + k + vs.length ≤ cs.length → WritesL vs (Blk b T cs) ⟨b, o, none⟩ k (Blk b T (cs.take (o + k) ++ vs ++ cs.drop (o + k + vs.length)))
  | [], cs, o, k, h => by simp [WritesL]
  | v :: vs, cs, o, k, h => by
    refine ⟨Blk b T (cs.set (o + k) v), ?_, ?_⟩
    · rw [addAt]; exact Blk.writes v (by simp at h; omega)
    · have h2 := writesL_blk (b := b) (T := T) vs (cs.set (o + k) v) o (k + 1) (by simp at h ⊢; omega)
      have e : (cs.set (o + k) v).take (o + (k + 1)) ++ vs ++ (cs.set (o + k) v).drop (o + (k + 1) + vs.length) = cs.take (o + k) ++ v :: vs ++ cs.drop (o + k + (v :: vs).length) := by
        have hlt : o + k < cs.length := by simp at h; omega
        apply List.ext_getElem?
        intro j
        simp only [List.getElem?_append, List.length_append, List.length_take, List.length_set, List.getElem?_take, List.getElem?_drop, List.getElem?_set, List.length_cons]
        by_cases h1 : j < o + k
        · have : j < min (o + (k + 1)) cs.length + vs.length := by omega
          have h3 : j < min (o + (k + 1)) cs.length := by omega
          have h4 : j < min (o + k) cs.length := by omega
          have h5 : j < min (o + k) cs.length + (vs.length + 1) := by omega
          have h6 : ¬ o + k = j := by omega
          have h7 : j < o + (k + 1) := by omega
          simp [this, h3, h4, h5, h6, h7, h1]
        · by_cases h2 : j = o + k
          · subst h2
            have h3 : o + k < min (o + (k + 1)) cs.length := by omega
            have h4 : ¬ o + k < min (o + k) cs.length := by omega
            have h5 : o + k < min (o + k) cs.length + (vs.length + 1) := by omega
            have h6 : o + k < min (o + (k + 1)) cs.length + vs.length := by omega
            have h7 : o + k < o + (k + 1) := by omega
            have h8 : o + k - min (o + k) cs.length = 0 := by omega
            simp [h3, h4, h5, h6, h7, h8, hlt]
          · have h3 : ¬ j < min (o + (k + 1)) cs.length := by omega
            have h4 : ¬ j < min (o + k) cs.length := by omega
            by_cases h5 : j < min (o + k) cs.length + (vs.length + 1)
            · have h6 : j < min (o + (k + 1)) cs.length + vs.length := by omega
              have h8 : j - min (o + k) cs.length = (j - min (o + (k + 1)) cs.length) + 1 := by omega
              simp [h3, h4, h5, h6, h8]
            · have h6 : ¬ j < min (o + (k + 1)) cs.length + vs.length := by omega
              have h8 : ¬ o + k = o + (k + 1) + vs.length + (j - (min (o + (k + 1)) cs.length + vs.length)) := by omega
              have h9 : o + (k + 1) + vs.length + (j - (min (o + (k + 1)) cs.length + vs.length)) = o + k + (vs.length + 1) + (j - (min (o + k) cs.length + (vs.length + 1))) := by omega
              simp only [h3, h4, h5, h6, if_false]; rw [if_neg h8, h9]
      rwa [e] at h2
theorem o_storeBlk {t m : TypeId} {b o T : Nat} {vs cs : List Value} {i : Nat} (hx : fe f x = .pointer (some ⟨b, o, none⟩)) (hy : fe f y = .agg vs.toArray) (hv : ∀ v ∈ vs, v.oneCell' = true) (ht : aggN P t = some m) (hl : vs.length = m)
    (hs : Sat B w Γ) (hi : Γ[i]? = some (Blk b T cs)) (ho : o + vs.length ≤ cs.length) (hk : ∀ w', Sat B w' (Γ.set i (Blk b T (cs.take o ++ vs ++ cs.drop (o + vs.length)))) → OW P n ops K rest f w') :
    OW P n ops K (⟨none, .store t x y, ty, pos, after, none⟩ :: rest) f w :=
  o_storeN hx hy hv ht hl hs hi (by simpa using writesL_blk vs cs o 0 (by simpa using ho)) hk
theorem o_idxS {t e sz by_ b o m c : Nat} {z : Value} {k : IntKind} {i : Int} (hx : fe f x = .slice (some ⟨b, o, none⟩) m c) (hy : fe f y = .int k i) (ht : SlT P t e sz by_ z) (h0 : 0 ≤ i) (h1 : i < m) (hn : d < n)
    (hk : OW P n ops K rest (upd f d (.pointer (some ⟨b, o + i.toNat * sz, none⟩))) w) : OW P n ops K (⟨some d, .indexAddr t x y, ty, pos, after, none⟩ :: rest) f w :=
  ow_val rfl rfl hn (by
    have hi := ht.info
    cases hq : P.info? e with
    | none => simp [hq] at hi
    | some j =>
      simp [hq] at hi
      simp [execOp, hx, hy, Instr.indexAt, run_underlying ht.und, asIntOf, h0, h1, sizeOf, typeInfo, hq, hi.1, addAt]) hk
theorem o_idxA {t e sz b o m : Nat} {k : IntKind} {i : Int} (hx : fe f x = .pointer (some ⟨b, o, none⟩)) (hy : fe f y = .int k i) (ht : P.underlying t = some (.array m e)) (hsz : (P.info? e).map (·.size) = some sz) (h0 : 0 ≤ i) (h1 : i < m) (hn : d < n)
    (hk : OW P n ops K rest (upd f d (.pointer (some ⟨b, o + i.toNat * sz, none⟩))) w) : OW P n ops K (⟨some d, .indexAddr t x y, ty, pos, after, none⟩ :: rest) f w :=
  ow_val rfl rfl hn (by
    cases hq : P.info? e with
    | none => simp [hq] at hsz
    | some j =>
      simp [hq] at hsz
      simp [execOp, hx, hy, Instr.indexAt, run_underlying ht, asIntOf, Instr.sureAddr, h0, h1, sizeOf, typeInfo, hq, hsz, addAt]) hk
theorem o_make {t e sz by_ m : Nat} {z : Value} {k k' : IntKind} {l c : Int} (ht : SlT P t e sz by_ z) (hx : fe f x = .int k l) (hy : fe f y = .int k' c) (hl : l = (m : Int)) (hc : c = (m : Int)) (hb : by_ * m ≤ 281474976710656) (hm : m ≤ 9223372036854775807) (hs : Sat B w Γ) (hn : d < n)
    (hk : ∀ b w', Sat B w' (Blk b e (madeCells z.cells (m * sz)).toList :: Γ) → OW P n ops K rest (upd f d (.slice (some ⟨b, 0, none⟩) m m)) w') :
    OW P n ops K (⟨some d, .makeSlice t x y, ty, pos, after, none⟩ :: rest) f w := by
  subst hl; subst hc
  have hi := ht.info
  cases hq : P.info? e with
  | none => simp [hq] at hi
  | some j =>
    simp [hq] at hi
    have hz := ht.zero
    simp [zeroOf, hq] at hz
    have hb' : (j.bytes : Int) * (m : Int) ≤ 281474976710656 := by
      rw [hi.2]
      have h : ((by_ * m : Nat) : Int) ≤ 281474976710656 := by omega
      rwa [Int.natCast_mul] at h
    have hr := run_make (P := P) w t e j z ht.und hq hz k k' m m (by omega) (Int.le_refl _) hb' (by omega)
    simp only [Int.toNat_natCast, hi.1] at hr
    refine ow_val (v := .slice (some ⟨w.heap.size, 0, none⟩) m m) (w' := w.alloc (.cells (madeCells z.cells (m * sz)) e)) rfl rfl hn ?_ (hk _ _ (hs.alloc e _))
    simp [execOp, hx, hy, hr]
/-! ### 8. Slices that grow -/
/-- Slice v of n elements (type e, sz cells each) is the call's own; its elements' cells are xs. -/
def Sl (e sz : Nat) (v : Value) (n : Nat) (xs : List Value) : Asn := fun h =>
  xs.length = n * sz ∧ ((v = .slice none 0 0 ∧ n = 0) ∨
   ∃ g cap cur, v = .slice (some ⟨g, 0, none⟩) n cap ∧ h g = some (.cells cur e (0, 0)) ∧ n ≤ cap ∧ cap ≤ maxLen ∧ cur.size = cap * sz ∧ cur.toList.take (n * sz) = xs)
theorem Sl.nil (e sz : Nat) (h : Heap) : Sl e sz (.slice none 0 0) 0 [] h := ⟨by simp, .inl ⟨rfl, rfl⟩⟩
theorem Sat.push {A : Asn} (hs : Sat B w Γ) (hA : A (fun _ => none)) : Sat B w (A :: Γ) :=
  ⟨hs.os, hs.tape, hs.output, hs.size, fun _ => none, fun b => w.heap[b]?, fun _ => .inl rfl, (fun _ _ e => by cases e), fun _ _ e => e, hA, hs.heap⟩
theorem Sat.pushNil (hs : Sat B w Γ) (e sz : Nat) : Sat B w (Sl e sz (.slice none 0 0) 0 [] :: Γ) := hs.push (Sl.nil e sz _)
theorem Blk.toSl {b T : Nat} {cs : List Value} {m sz : Nat} (hl : cs.length = m * sz) (hm : m ≤ maxLen) (h : Heap) (hb : Blk b T cs h) : Sl T sz (.slice (some ⟨b, 0, none⟩) m m) m cs h :=
  ⟨hl, .inr ⟨b, m, cs.toArray, rfl, hb, Nat.le_refl _, hm, by simpa using hl, by rw [List.take_of_length_le (by simp [hl])]⟩⟩
theorem Blk.toSl0 {b T : Nat} {cs : List Value} {m sz : Nat} (hl : cs.length = m * sz) (hm : m ≤ maxLen) (h : Heap) (hb : Blk b T cs h) : Sl T sz (.slice (some ⟨b, 0, none⟩) 0 m) 0 [] h :=
  ⟨by simp, .inr ⟨b, m, cs.toArray, rfl, hb, Nat.zero_le _, hm, by simpa using hl, by simp⟩⟩
theorem Sl.own {e sz m : Nat} {v : Value} {xs : List Value} {h : Heap} (hs : Sl e sz v m xs h) (hw : Sub h (fun b => w.heap[b]?)) : w.ownsRow 0 e sz v m xs :=
  ⟨hs.1, hs.2.imp id fun ⟨g, cap, cur, h1, h2, h3, h4, h5, h6⟩ => ⟨g, cap, cur, h1, Nat.zero_le _, hw _ _ h2, h3, h4, h5, h6⟩⟩
theorem Sl.slice {e sz m : Nat} {v : Value} {xs : List Value} {h : Heap} (hs : Sl e sz v m xs h) : ∃ a c, v = .slice a m c ∧ (0 < m → ∃ g, a = some ⟨g, 0, none⟩) := by
  rcases hs.2 with ⟨rfl, rfl⟩ | ⟨g, cap, cur, rfl, _⟩
  · exact ⟨none, 0, rfl, fun h => absurd h (by omega)⟩
  · exact ⟨_, _, rfl, fun _ => ⟨g, rfl⟩⟩
theorem Sl.reads {e sz m g c : Nat} {xs : List Value} {i : Nat} {u : Value} (hu : xs[i]? = some u) : Reads (Sl e sz (.slice (some ⟨g, 0, none⟩) m c) m xs) ⟨g, i, none⟩ u := fun h hs => by
  rcases hs.2 with ⟨h1, _⟩ | ⟨g', cap, cur, h1, h2, h3, h4, h5, h6⟩
  · cases h1
  · injection h1 with h1 _ _
    injection h1 with h1
    injection h1 with h1
    subst h1
    refine ⟨rfl, _, _, _, h2, ?_⟩
    have hlt : i < m * sz := by rw [← hs.1]; exact (List.getElem?_eq_some_iff.1 hu).1
    rw [← h6, List.getElem?_take, if_pos hlt] at hu
    simpa using hu
theorem Sl.writes {e sz m g c : Nat} {xs : List Value} {i : Nat} (u : Value) (hi : i < xs.length) : Writes (Sl e sz (.slice (some ⟨g, 0, none⟩) m c) m xs) ⟨g, i, none⟩ u (Sl e sz (.slice (some ⟨g, 0, none⟩) m c) m (xs.set i u)) := fun h hs => by
  rcases hs.2 with ⟨h1, _⟩ | ⟨g', cap, cur, h1, h2, h3, h4, h5, h6⟩
  · cases h1
  · injection h1 with h1 _ hc
    injection h1 with h1
    injection h1 with h1
    subst h1
    subst hc
    have hlt : i < m * sz := by rw [← hs.1]; exact hi
    have hle : m * sz ≤ c * sz := Nat.mul_le_mul_right _ h3
    refine ⟨rfl, cur, e, 0, 0, h2, by show i < cur.size; omega, by simp, by rw [List.length_set]; exact hs.1, .inr ⟨g, c, cur.setIfInBounds i u, rfl, by simp, h3, h4, by simpa using h5, ?_⟩⟩
    rw [Array.toList_setIfInBounds, List.take_set, h6]
/-- The append of some elements to a slice of the call's own. -/
theorem run_append_sl {t e sz by_ : Nat} {z : Value} (ht : SlT P t e sz by_ z) {v : Value} {m : Nat} {xs : List Value} (hs : Sat B w (Sl e sz v m xs :: Γ))
    {a : Addr} {q c : Nat} {news : List Value} (hl : news.length = q * sz) (hnews : ∀ j u, news[j]? = some u → w.cell? (a.add j) = some u) (h1 : ∀ u ∈ news, u.oneCell' = true)
    (hb : (m + q) * by_ ≤ 140737488355328) (hm : m + q ≤ maxLen) :
    ∃ v' w', (Builtin.append_ #[t, t] ty #[v, .slice (some a) q c]).run P w = .ok v' w' ∧ Sat B w' (Sl e sz v' (m + q) (xs ++ news) :: Γ) := by
  obtain ⟨i, hi, hsz, hby⟩ : ∃ i, P.info? e = some i ∧ i.size = sz ∧ i.bytes = by_ := by
    have h := ht.info
    cases hq : P.info? e with
    | none => simp [hq] at h
    | some i => simp [hq] at h; exact ⟨i, rfl, h⟩
  have hz : i.zero = some z := by have h := ht.zero; simpa [zeroOf, hi] using h
  obtain ⟨g1, g2, hd, s1, s2, hA, hΓ⟩ := hs.heap
  have hown := hA.own s1
  -- any outcome that owns its row, in the old block or a new one
  have fin : ∀ v' w', w'.ownsRow 0 e sz v' (m + q) (xs ++ news) → w.grownBy w' v.ownBlock → (v'.ownBlock = v.ownBlock ∨ ∀ k, v'.ownBlock = some k → w.heap.size ≤ k) → Sat B w' (Sl e sz v' (m + q) (xs ++ news) :: Γ) := by
    intro v' w' ho hg hk
    have keep : ∀ b o, g2 b = some o → w'.heap[b]? = some o := fun b o e0 => by
      have hw0 := s2 b o e0
      have hlt : b < w.heap.size := (Array.getElem?_eq_some_iff.1 hw0).1
      rw [hg.block b hlt ?_]; exact hw0
      intro hbk
      rcases hA.2 with ⟨hv, _⟩ | ⟨g, cap, cur, hv, hgb, _⟩
      · rw [hv] at hbk; cases hbk
      · rw [hv] at hbk
        have : b = g := by injection hbk
        subst this
        rcases hd b with e1 | e1
        · rw [hgb] at e1; cases e1
        · rw [e0] at e1; cases e1
    refine ⟨hg.os.trans hs.os, hg.tape.trans hs.tape, hg.output.trans hs.output, Nat.le_trans hs.size hg.size, ?_⟩
    refine ⟨fun b => if some b = v'.ownBlock then w'.heap[b]? else none, g2, ?_, ?_, keep, ⟨ho.1, ho.2.imp id ?_⟩, hΓ⟩
    · intro b
      by_cases e1 : some b = v'.ownBlock
      · right
        cases e2 : g2 b with
        | none => rfl
        | some o =>
          have hw0 := s2 b o e2
          have hlt : b < w.heap.size := (Array.getElem?_eq_some_iff.1 hw0).1
          rcases hk with hk | hk
          · rcases hA.2 with ⟨hv, _⟩ | ⟨g, cap, cur, hv, hgb, _⟩
            · rw [hk, hv] at e1; cases e1
            · rw [hk, hv] at e1
              have : b = g := by injection e1
              subst this
              rcases hd b with e3 | e3
              · rw [hgb] at e3; cases e3
              · rw [e2] at e3; cases e3
          · have := hk b e1.symm; omega
      · left; simp [e1]
    · intro b o e1
      by_cases e2 : some b = v'.ownBlock
      · simpa [e2] using e1
      · simp [e2] at e1
    · rintro ⟨g, cap, cur, h1, _, h2, h3, h4, h5, h6⟩
      exact ⟨g, cap, cur, h1, by simp [h1, Value.ownBlock, h2], h3, h4, h5, h6⟩
  rcases hown.2 with ⟨rfl, rfl⟩ | ⟨g, cap, cur, rfl, _, hg, hnc, hcm, hcs, htake⟩
  · have ho : w.ownsRow w.heap.size e sz (.slice none 0 0) 0 xs := ⟨hown.1, .inl ⟨rfl, rfl⟩⟩
    obtain ⟨v', w', hr, h2, h3, h4⟩ := run_append_own (P := P) w w.heap.size t ty e i z sz by_ ht.und hi hz hsz hby ht.zsz ht.pos _ _ _ ho a q c news hl hnews h1 hm hb (Nat.le_refl _)
    refine ⟨v', w', hr, fin v' w' ⟨h2.1, h2.2.imp id fun ⟨g, cap, cur, a1, a2, a3⟩ => ⟨g, cap, cur, a1, Nat.zero_le _, a3⟩⟩ h3 (.inr fun k hk => (h2.lt k hk).1)⟩
  · by_cases hroom : m + q ≤ cap
    · obtain ⟨w', hr, h2, h3⟩ := run_append_fits (P := P) w 0 t ty e i sz ht.und hi hsz g m cap xs hown a q c news hl hnews h1 hroom
      exact ⟨_, w', hr, fin _ w' h2 h3 (.inl rfl)⟩
    · have holds : ∀ j u, xs[j]? = some u → w.cell? ((⟨g, 0, none⟩ : Addr).add j) = some u := hown.cells (g := g) rfl
      subst hsz
      subst hby
      have hm' : m + q ≤ 9223372036854775807 := by simp only [maxLen] at hm; omega
      have hr := run_append_grow (P := P) w t ty e i z ht.und hi hz ⟨g, 0, none⟩ m cap xs hown.1 holds a q c news hl hnews (by omega) (by omega) (growslice_fits (by omega) hb)
      have hge := grownCap_ge w (m + q) cap e
      have hcm2 : grownCap w (m + q) cap e ≤ maxLen := grownCap_le_maxLen w (m + q) cap e hm
      have hlen : (xs ++ news).length = (m + q) * i.size := by rw [List.length_append, hown.1, hl, Nat.add_mul]
      refine ⟨_, _, hr, fin _ _ ⟨hlen, .inr ⟨w.heap.size, _, _, rfl, Nat.zero_le _, heap_alloc_new w.drew _, hge, hcm2, ?_, ?_⟩⟩ ⟨rfl, rfl, rfl, by simp, fun k hk _ => heap_alloc_old w.drew _ k hk⟩ (.inr fun k hk => ?_)⟩
      · simp only [Array.size_append, List.size_toArray, size_zeroCells, ht.zsz, hown.1, hl, ← Nat.add_mul]
        congr 1
        omega
      · simp only [Array.toList_append, List.append_assoc]
        rw [← List.append_assoc, ← hlen]
        exact List.take_left
      · have : w.heap.size = k := by simpa [Value.ownBlock] using hk
        omega
theorem o_append {t e sz by_ m q c : Nat} {z v : Value} {xs news : List Value} {a : Addr} (hx : fe f x = v) (hy : fe f y = .slice (some a) q c) (ht : SlT P t e sz by_ z)
    (hs : Sat B w (Sl e sz v m xs :: Γ)) (hl : news.length = q * sz) (hnews : ∀ j u, news[j]? = some u → w.cell? (a.add j) = some u) (h1 : ∀ u ∈ news, u.oneCell' = true)
    (hb : (m + q) * by_ ≤ 140737488355328) (hm : m + q ≤ maxLen) (hn : d < n)
    (hk : ∀ v' w', Sat B w' (Sl e sz v' (m + q) (xs ++ news) :: Γ) → OW P n ops K rest (upd f d v') w') :
    OW P n ops K (⟨some d, .call { callee := .builtin .append, args := #[x, y], argTypes := #[t, t] }, ty, pos, after, none⟩ :: rest) f w := by
  obtain ⟨v', w', hr, hs'⟩ := run_append_sl (ty := ty) (c := c) ht hs hl hnews h1 hb hm
  refine ow_val rfl rfl hn ?_ (hk v' w' hs')
  simp [execOp, resolve, invoke, builtin, hx, hy, hr]
/-- A slice that is written out. -/
theorem o_buildSlice1 {t e by_ : Nat} {z v : Value} (hx : fe f x = v) (hv : v.oneCell' = true) (ht : SlT P t e 1 by_ z) (hs : Sat B w Γ) (hn : d < n)
    (hk : ∀ b w', Sat B w' (Blk b e [v] :: Γ) → OW P n ops K rest (upd f d (.slice (some ⟨b, 0, none⟩) 1 1)) w') :
    OW P n ops K (⟨some d, .buildSlice t 1 #[(0, x)], ty, pos, after, none⟩ :: rest) f w := by
  obtain ⟨i, hi, hsz, hby⟩ : ∃ i, P.info? e = some i ∧ i.size = 1 ∧ i.bytes = by_ := by
    have h := ht.info
    cases hq : P.info? e with
    | none => simp [hq] at h
    | some i => simp [hq] at h; exact ⟨i, rfl, h⟩
  refine ow_val (v := .slice (some ⟨w.heap.size, 0, none⟩) 1 1) (w' := w.alloc (.cells #[v] e)) rfl rfl hn ?_ (hk _ _ (hs.alloc e #[v]))
  have hc := cells_one hv
  have he : ((Array.range 1).map (fun x => z.cells[x % z.cells.size]!)).setIfInBounds 0 v = #[v] := by
    apply Array.ext'
    simp [Array.toList_setIfInBounds, List.range_succ]
  simp only [execOp, Instr.buildSlice, List.map_toArray, List.map_cons, List.map_nil, Sem.run_bind, run_underlying ht.und, sizeOf, typeInfo, run_program, hi, hsz, zero_run ht.zero, hx, Instr.fill, hc, newRow, Result.andThen_ok, Sem.run_pure]
  simp [Instr.fill, hc, he, zero_run ht.zero]
end rules
end Go.Sl
set_option linter.unusedVariables false
set_option linter.unusedSimpArgs false
namespace Go.Sl
open Go.RowKit
/-! ### 9. A call's begin and end -/
def resultsF (fn : Func) (f : Fr) : Sem Value := do
  let vs ← fn.results.mapM fun
    | .tmp t => pure (f t)
    | .cell a t => do loadVar t (← asAddr (f a))
  pure (if h : vs.size = 1 then vs[0] else .tuple vs)
theorem resultsF_eq {n : Nat} {f : Fr} {a : Act} (h : Rep n f a) (fn : Func) : results fn a.tmps = resultsF fn f := by
  unfold results resultsF
  congr 2
  funext x
  cases x with
  | tmp t => simp only [h.get t]
  | cell t T => simp only [h.get t]
def EndR (P : Program) (fn : Func) (R : Ending → World → Prop) : Exit → Fr → World → Prop
  | .normal, f, w | .ret, f, w => ∃ v, (resultsF fn f).run P w = .ok v w ∧ R (.returned v) w
  | _, _, _ => False
theorem calls_of_cw {P : Program} {g n : Nat} {fn : Func} {c : Code} {args : List Value} {w : World} {R : Ending → World → Prop}
    (hf : P.funcs[g]? = some fn) (hn : fn.ntmps = n) (hb : fn.body = some c) (ha : args.length ≤ n)
    (h : CW P n c (EndR P fn R) (start args) w) : Calls P g args.toArray w R := by
  subst hn
  refine calls_of_wp hf hb ?_
  have hr := Rep.start args.toArray fn.ntmps (by simpa using ha)
  refine wp_mono (h _ (by simpa using hr)) fun e a w ⟨f, hr, hq⟩ => ?_
  cases e with
  | normal => obtain ⟨v, h1, h2⟩ := hq; exact ⟨hr.defers, v, by rw [resultsF_eq hr]; exact h1, h2⟩
  | ret => obtain ⟨v, h1, h2⟩ := hq; exact ⟨hr.defers, v, by rw [resultsF_eq hr]; exact h1, h2⟩
  | _ => exact hq.elim
section
variable {P : Program} {fn : Func} {R : Ending → World → Prop} {f : Fr} {w : World} {n : Nat} {K : Exit → Fr → World → Prop}
theorem ends1 {e : Exit} (he : e = .ret ∨ e = .normal) {t : Nat} {v : Value} (h : fn.results = #[.tmp t]) (hv : f t = v) (hR : R (.returned v) w) : EndR P fn R e f w := by
  rcases he with rfl | rfl <;> exact ⟨v, by simp [resultsF, h, hv], hR⟩
theorem ends2 {e : Exit} (he : e = .ret ∨ e = .normal) {t u : Nat} {v v' : Value} (h : fn.results = #[.tmp t, .tmp u]) (hv : f t = v) (hv' : f u = v') (hR : R (.returned (.tuple #[v, v'])) w) : EndR P fn R e f w := by
  rcases he with rfl | rfl <;> exact ⟨_, by simp [resultsF, h, hv, hv'], hR⟩
theorem loadVar_agg {T m : Nat} {p : Addr} {cs : List Value} (ht : aggN P T = some m) (hl : cs.length = m) (hc : ∀ j v, cs[j]? = some v → w.cell? (p.add j) = some v) : (loadVar T p).run P w = .ok (.agg cs.toArray) w := by
  subst hl
  simp [loadVar, (agg_run (w := w) ht).1, (agg_run (w := w) ht).2, run_loadCells_list (P := P) w p cs hc]
theorem endsC {e : Exit} (he : e = .ret ∨ e = .normal) {t T m : Nat} {p : Addr} {cs : List Value} (h : fn.results = #[.cell t T]) (hv : f t = .pointer (some p)) (ht : aggN P T = some m) (hl : cs.length = m) (hc : ∀ j v, cs[j]? = some v → w.cell? (p.add j) = some v)
    (hR : R (.returned (.agg cs.toArray)) w) : EndR P fn R e f w := by
  rcases he with rfl | rfl <;> exact ⟨_, by simp [resultsF, h, hv, asAddr, loadVar_agg ht hl hc], hR⟩
/-! ### 10. Ways through code -/
theorem then_ret {next : Fr → World → Prop} (h : K .ret f w) : Then next K .ret f w := h
theorem then_exit {next : Fr → World → Prop} {id : Nat} (h : K (.exit id) f w) : Then next K (.exit id) f w := h
theorem then_normal {next : Fr → World → Prop} (h : next f w) : Then next K .normal f w := h
theorem inb_ret {id : Nat} (h : K .ret f w) : InBlock id K .ret f w := h
theorem inb_normal {id : Nat} (h : K .normal f w) : InBlock id K .normal f w := h
theorem inb_exit {id : Nat} (h : K .normal f w) : InBlock id K (.exit id) f w := by simp only [InBlock, if_true]; exact h
theorem inb_other {id id' : Nat} (hne : (id' == id) = false) (h : K (.exit id') f w) : InBlock id K (.exit id') f w := by
  have : ¬ id' = id := by simpa using hne
  simp only [InBlock, if_neg this]; exact h
theorem cw_cut {x y : Code} (M : Fr → World → Prop) (h : CW P n x (Then M K) f w) (hM : ∀ f w, M f w → CW P n y K f w) : CW P n (.seq x y) K f w :=
  cw_seq (cw_mono h fun e f w hq => by
    cases e with
    | normal => exact hM f w hq
    | _ => exact hq)
end
/-! ### 11. Calls; sums without a wrap; structs that are built; slices of slices and of strings -/
def enterB (P : Program) (g : Nat) : Bool :=
  match P.funcs[g]? with
  | some fn => !(fn.name == "runtime.NumGoroutine") && !fn.body.isNone
  | none => false
theorem enter_run {P : Program} {w : World} {g : Nat} (h : enterB P g = true) (args : Array Value) : (callFunc g args).run P w = .ok (.enter g args) w := by
  unfold enterB at h
  split at h <;> first | (cases h; done) | skip
  rename_i fn hf
  simp at h
  simp [callFunc, hf, h.1]
  intro hb
  simp [hb] at h
section rules
variable {P : Program} {n : Nat} {ops : Array Oper} {K : Exit → Fr → World → Prop} {f : Fr} {B w : World} {rest : List Oper} {Γ : List Asn}
variable {d : Nat} {ty : TypeId} {pos : String} {after : Array Edge} {x y : Operand} {xt yt : TypeId} {a b : Int}
theorem o_call {g : Nat} {l : List Operand} {ts : Array TypeId} {vs : List Value} (hg : enterB P g = true) (hl : l.map (fe f) = vs) (hn : d < n)
    (hk : Calls P g vs.toArray w fun e w' => ∃ v, e = .returned v ∧ OW P n ops K rest (upd f d v) w') :
    OW P n ops K (⟨some d, .call { callee := .value (.func g), args := l.toArray, argTypes := ts }, ty, pos, after, none⟩ :: rest) f w :=
  ow_call rfl rfl hn (by
    simp [execOp, resolve, fe, Deferred.ofValue, invoke, enter_run hg]
    exact hl) hk
/-- A call of a function value: a function with what it captured. -/
theorem o_callV {g t : Nat} {l : List Operand} {ts : Array TypeId} {vs cs : List Value} (hx : f t = .func (.func g) #[] cs.toArray) (hg : enterB P g = true) (hl : l.map (fe f) = vs) (hn : d < n)
    (hk : Calls P g (vs ++ cs).toArray w fun e w' => ∃ v, e = .returned v ∧ OW P n ops K rest (upd f d v) w') :
    OW P n ops K (⟨some d, .call { callee := .value (.tmp t), args := l.toArray, argTypes := ts }, ty, pos, after, none⟩ :: rest) f w :=
  ow_call (args := (vs ++ cs).toArray) rfl rfl hn (by
    simp [execOp, resolve, fe, hx, Deferred.ofValue, invoke, enter_run hg]
    rw [← hl]) hk
theorem wrap_in {m : Int} (h0 : -9223372036854775808 ≤ m) (h1 : m ≤ 9223372036854775807) : IntKind.i64.wrap m = m := by rw [IntKind.wrap_i64]; omega
theorem o_addI (hx : fe f x = .int .i64 a) (hy : fe f y = .int .i64 b) (h0 : -9223372036854775808 ≤ a + b) (h1 : a + b ≤ 9223372036854775807) (hn : d < n) (hk : OW P n ops K rest (upd f d (.int .i64 (a + b))) w) : OW P n ops K (⟨some d, .binOp .add xt x y yt, ty, pos, after, none⟩ :: rest) f w :=
  o_add hx hy hn (by rw [wrap_in h0 h1]; exact hk)
theorem o_subI (hx : fe f x = .int .i64 a) (hy : fe f y = .int .i64 b) (h0 : -9223372036854775808 ≤ a - b) (h1 : a - b ≤ 9223372036854775807) (hn : d < n) (hk : OW P n ops K rest (upd f d (.int .i64 (a - b))) w) : OW P n ops K (⟨some d, .binOp .sub xt x y yt, ty, pos, after, none⟩ :: rest) f w :=
  o_sub hx hy hn (by rw [wrap_in h0 h1]; exact hk)
/-- A struct or an array that is built: the cells are reckoned. -/
def buildB (P : Program) (t : TypeId) (ps : List (Nat × Value)) : Option (Array Value) :=
  match zeroOf P t with
  | none => none
  | some z => match P.underlying t with
    | some (.struct fs) =>
      match fs.toList.mapM fun (fl : Field) => (P.info? fl.type).map fun i => (fl.offset, i.size) with
      | none => none
      | some places => Instr.fill (places.toArray[·]?) z.cells ps
    | some (.array _ e) => match P.info? e with
      | none => none
      | some i => Instr.fill (fun j => some (j * i.size, i.size)) z.cells ps
    | _ => none
theorem mapM_run {P : Program} {w : World} (fs : List Field) : ∀ pl, (fs.mapM fun (fl : Field) => (P.info? fl.type).map fun i => (fl.offset, i.size)) = some pl →
    (fs.mapM fun (fl : Field) => (do pure (fl.offset, ← sizeOf fl.type) : Sem (Nat × Nat))).run P w = .ok pl w := by
  induction fs with
  | nil => intro pl h; simp at h; subst h; simp
  | cons fl fs ih =>
    intro pl h
    simp only [List.mapM_cons] at h ⊢
    cases hq : P.info? fl.type with
    | none => simp [hq] at h
    | some i =>
      cases hr : fs.mapM fun (fl : Field) => (P.info? fl.type).map fun i => (fl.offset, i.size) with
      | none => simp [hq, hr] at h
      | some q =>
        simp [hq, hr] at h
        subst h
        have h2 := ih q hr
        simp [sizeOf, typeInfo, hq] at h2 ⊢
        simp [h2]
theorem o_build {t : TypeId} {l : List (Nat × Operand)} {ps : List (Nat × Value)} {cs : List Value} (hl : l.map (fun p => (p.1, fe f p.2)) = ps) (hb : buildB P t ps = some cs.toArray) (hn : d < n)
    (hk : OW P n ops K rest (upd f d (.agg cs.toArray)) w) : OW P n ops K (⟨some d, .build t l.toArray, ty, pos, after, none⟩ :: rest) f w :=
  ow_val rfl rfl hn (by
    have e : (l.toArray.map fun (i, x) => (i, fe f x)) = ps.toArray := by rw [← hl]; simp
    unfold buildB at hb
    split at hb <;> first | (cases hb; done) | skip
    rename_i z hz
    split at hb <;> first | (cases hb; done) | skip
    · rename_i fs hu
      split at hb <;> first | (cases hb; done) | skip
      rename_i pl hp
      have hm := mapM_run (P := P) (w := w) fs.toList pl hp
      have hm2 : (fs.mapM fun (fl : Field) => (do pure (fl.offset, ← sizeOf fl.type) : Sem (Nat × Nat))).run P w = .ok pl.toArray w := by
        rw [Array.mapM_eq_mapM_toList]
        change Sem.run P ((List.mapM (fun fl : Field => (do pure (fl.offset, ← sizeOf fl.type) : Sem (Nat × Nat))) fs.toList) >>= fun l => pure l.toArray) w = _
        rw [Sem.run_bind, hm]
        rfl
      simp only [execOp, e, Instr.build, Sem.run_bind, zero_run hz, Result.andThen_ok, run_underlying hu, hm2, hb]
      simp [hm2, hb]
    · rename_i m el hu
      split at hb <;> first | (cases hb; done) | skip
      rename_i i hi
      simp [execOp, e, Instr.build, zero_run hz, run_underlying hu, sizeOf, typeInfo, hi, hb]) hk
theorem o_sliceH {t e sz by_ m c h : Nat} {z : Value} {k : IntKind} {i : Int} {hi : Operand} {ad : Option Addr} (hx : fe f x = .slice ad m c) (hhi : fe f hi = .int k i) (ht : SlT P t e sz by_ z) (hi' : i = (h : Int)) (h1 : h ≤ c) (hn : d < n)
    (hk : OW P n ops K rest (upd f d (.slice ad h c)) w) :
    OW P n ops K (⟨some d, .slice t x none (some hi) none, ty, pos, after, none⟩ :: rest) f w :=
  ow_val rfl rfl hn (by
    subst hi'
    obtain ⟨j, hj, hsz⟩ : ∃ j, P.info? e = some j ∧ j.size = sz := by
      have h := ht.info
      cases hq : P.info? e with
      | none => simp [hq] at h
      | some j => simp [hq] at h; exact ⟨j, rfl, h.1⟩
    cases ad with
    | none => simp [execOp, hx, hhi, Instr.sliceAt, run_underlying ht.und, Instr.slice, Instr.sliceBounds, Instr.sliceBound, asIntOf, h1, sizeOf, typeInfo, hj, hsz]
    | some a => simp [execOp, hx, hhi, Instr.sliceAt, run_underlying ht.und, Instr.slice, Instr.sliceBounds, Instr.sliceBound, asIntOf, h1, sizeOf, typeInfo, hj, hsz, Addr.add]) hk
theorem o_sliceS {t : TypeId} {s : ByteArray} {lo hi : Option Operand} {l h : Nat} (hx : fe f x = .string s) (ht : P.underlying t = some .string)
    (hl : lo.map (fe f) = none ∧ l = 0 ∨ ∃ k, lo.map (fe f) = some (.int k (l : Int))) (hh : hi.map (fe f) = none ∧ h = s.size ∨ ∃ k, hi.map (fe f) = some (.int k (h : Int))) (h1 : l ≤ h) (h2 : h ≤ s.size) (hn : d < n)
    (hk : OW P n ops K rest (upd f d (.string (s.extract l h))) w) :
    OW P n ops K (⟨some d, .slice t x lo hi none, ty, pos, after, none⟩ :: rest) f w :=
  ow_val rfl rfl hn (by
    rcases hl with ⟨e1, rfl⟩ | ⟨k1, e1⟩ <;> rcases hh with ⟨e2, rfl⟩ | ⟨k2, e2⟩ <;>
      simp [execOp, hx, e1, e2, Instr.sliceAt, run_underlying ht, Instr.slice, Instr.sliceBounds, Instr.sliceBound, asIntOf, h1, h2]) hk
end rules
end Go.Sl
set_option linter.unusedVariables false
set_option linter.unusedSimpArgs false
namespace Go.Sl
open Go.RowKit
/-! ### 12. A region whose order is open -/
section
variable {P : Program} {n : Nat} {ops : Array Oper} {K : Exit → Fr → World → Prop} {S : World → Prop} {f : Fr} {w : World} {fuel : Nat} {listed : Array Bool}
/-- In frame f, in every world that meets S, the operation leaves v and does nothing else. -/
def YF (P : Program) (ops : Array Oper) (S : World → Prop) (o : Oper) (v : Value) (f : Fr) : Prop :=
  (o.guard = none ∧ ∀ w, S w → (execOp (fe f) o).run P w = .ok (.value v) w) ∨
  (∃ j g b, o.guard = some (j, b) ∧ (ops[j]?).bind (·.dst) = some g ∧ f g = .bool b ∧ ∀ w, S w → (execOp (fe f) o).run P w = .ok (.value v) w) ∨
  (∃ j g b c, o.guard = some (j, b) ∧ (ops[j]?).bind (·.dst) = some g ∧ f g = .bool c ∧ (c == b) = false ∧ v = undef)
theorem YF.yields {o : Oper} {v : Value} {a : Act} (h : YF P ops S o v f) (ha : Rep n f a) : YieldsIf P ops S o v a := by
  unfold YieldsIf
  rw [ha.eval]
  rcases h with ⟨hg, h⟩ | ⟨j, g, b, hg, hj, hb, h⟩ | ⟨j, g, b, c, hg, hj, hb, hc, rfl⟩
  · exact .inl ⟨by simp [Region.wanted, hg], h⟩
  · exact .inl ⟨by simp [Region.wanted, hg, yielded, hj, rep_bool ha hb], h⟩
  · exact .inr ⟨by simp [Region.wanted, hg, yielded, hj, rep_bool ha hb]; simpa using hc, rfl⟩
theorem upon_imp {o : Oper} {a : Act} {next next' : Act → World → Prop} {Q Q' : Exit → Act → World → Prop} (h1 : ∀ a w, next a w → next' a w) (h2 : ∀ c a w, Q (.panic c) a w → Q' (.panic c) a w) (h3 : ∀ a w, Q .outgrown a w → Q' .outgrown a w)
    (r : Result Next) : o.upon P a next Q r → o.upon P a next' Q' r := by
  intro h
  cases r with
  | ok m w' =>
    cases m <;> simp only [Oper.upon] at h ⊢ <;> first
      | exact h1 _ _ h
      | (refine Calls.mono h fun e w'' he => ?_
         cases e with
         | returned v => exact h1 _ _ he
         | panicked c => exact h2 _ _ _ he
         | outgrown => obtain ⟨a, w, hq⟩ := he; exact ⟨a, w, h3 _ _ hq⟩)
      | exact Rows.mono h fun _ _ he => h1 _ _ he
  | halt x w' => cases x <;> simp only [Oper.upon] at h ⊢ <;> exact h2 _ _ _ h
end
end Go.Sl
set_option linter.unusedVariables false
set_option linter.unusedSimpArgs false
namespace Go.Sl
open Go.RowKit
section
variable {P : Program} {f : Fr} {w : World} {d : Nat} {ty : TypeId} {pos : String} {after : Array Edge} {gd : Option (Nat × Bool)} {x y : Operand} {xt yt : TypeId} {a b : Int} {k : IntKind}
theorem e_move {x : Operand} {v : Value} (hx : fe f x = v) : (execOp (fe f) ⟨some d, .move x, ty, pos, after, gd⟩).run P w = .ok (.value (v)) w := by simp [execOp, hx]
theorem e_assign {x : Operand} {v : Value} (hx : fe f x = v) : (execOp (fe f) ⟨some d, .assign x, ty, pos, after, gd⟩).run P w = .ok (.value (v)) w := by simp [execOp, hx]
theorem e_pick {c x y : Operand} {t : Bool} (hc : fe f c = .bool t) : (execOp (fe f) ⟨some d, .pick c x y, ty, pos, after, gd⟩).run P w = .ok (.value ((bif t then fe f x else fe f y))) w := by cases t <;> simp [execOp, hc, asBool]
theorem e_add (hx : fe f x = .int k a) (hy : fe f y = .int k b) : (execOp (fe f) ⟨some d, .binOp .add xt x y yt, ty, pos, after, gd⟩).run P w = .ok (.value ((.int k (k.wrap (a + b))))) w := by simp [execOp, hx, hy, eqGuard, binOp, Op.intArith]
theorem e_sub (hx : fe f x = .int k a) (hy : fe f y = .int k b) : (execOp (fe f) ⟨some d, .binOp .sub xt x y yt, ty, pos, after, gd⟩).run P w = .ok (.value ((.int k (k.wrap (a - b))))) w := by simp [execOp, hx, hy, eqGuard, binOp, Op.intArith]
theorem e_mul (hx : fe f x = .int k a) (hy : fe f y = .int k b) : (execOp (fe f) ⟨some d, .binOp .mul xt x y yt, ty, pos, after, gd⟩).run P w = .ok (.value ((.int k (k.wrap (a * b))))) w := by simp [execOp, hx, hy, eqGuard, binOp, Op.intArith]
theorem e_eql (hx : fe f x = .int k a) (hy : fe f y = .int k b) : (execOp (fe f) ⟨some d, .binOp .eql xt x y yt, ty, pos, after, gd⟩).run P w = .ok (.value ((.bool (a == b)))) w := by simp [execOp, hx, hy, eqGuard, binOp, Op.intCmp]
theorem e_neq (hx : fe f x = .int k a) (hy : fe f y = .int k b) : (execOp (fe f) ⟨some d, .binOp .neq xt x y yt, ty, pos, after, gd⟩).run P w = .ok (.value ((.bool (a != b)))) w := by simp [execOp, hx, hy, eqGuard, binOp, Op.intCmp]
theorem e_lss (hx : fe f x = .int k a) (hy : fe f y = .int k b) : (execOp (fe f) ⟨some d, .binOp .lss xt x y yt, ty, pos, after, gd⟩).run P w = .ok (.value ((.bool (decide (a < b))))) w := by simp [execOp, hx, hy, eqGuard, binOp, Op.intCmp]
theorem e_leq (hx : fe f x = .int k a) (hy : fe f y = .int k b) : (execOp (fe f) ⟨some d, .binOp .leq xt x y yt, ty, pos, after, gd⟩).run P w = .ok (.value ((.bool (decide (a ≤ b))))) w := by simp [execOp, hx, hy, eqGuard, binOp, Op.intCmp]
theorem e_gtr (hx : fe f x = .int k a) (hy : fe f y = .int k b) : (execOp (fe f) ⟨some d, .binOp .gtr xt x y yt, ty, pos, after, gd⟩).run P w = .ok (.value ((.bool (decide (a > b))))) w := by simp [execOp, hx, hy, eqGuard, binOp, Op.intCmp]
theorem e_geq (hx : fe f x = .int k a) (hy : fe f y = .int k b) : (execOp (fe f) ⟨some d, .binOp .geq xt x y yt, ty, pos, after, gd⟩).run P w = .ok (.value ((.bool (decide (a ≥ b))))) w := by simp [execOp, hx, hy, eqGuard, binOp, Op.intCmp]
theorem e_and (hx : fe f x = .int k a) (hy : fe f y = .int k b) : (execOp (fe f) ⟨some d, .binOp .and xt x y yt, ty, pos, after, gd⟩).run P w = .ok (.value ((.int k (k.wrap (BitVec.ofInt k.bits a &&& BitVec.ofInt k.bits b).toNat)))) w := by simp [execOp, hx, hy, eqGuard, binOp, Op.intBits]
theorem e_or (hx : fe f x = .int k a) (hy : fe f y = .int k b) : (execOp (fe f) ⟨some d, .binOp .or xt x y yt, ty, pos, after, gd⟩).run P w = .ok (.value ((.int k (k.wrap (BitVec.ofInt k.bits a ||| BitVec.ofInt k.bits b).toNat)))) w := by simp [execOp, hx, hy, eqGuard, binOp, Op.intBits]
theorem e_shl {k' : IntKind} (hx : fe f x = .int k a) (hy : fe f y = .int k' b) (hb : 0 ≤ b) : (execOp (fe f) ⟨some d, .binOp .shl xt x y yt, ty, pos, after, gd⟩).run P w = .ok (.value ((.int k (k.wrap (a * 2 ^ min b.toNat k.bits))))) w := by simp [execOp, hx, hy, eqGuard, binOp, Op.shift, Int.not_lt.mpr hb]
theorem e_shr {k' : IntKind} (hx : fe f x = .int k a) (hy : fe f y = .int k' b) (hb : 0 ≤ b) : (execOp (fe f) ⟨some d, .binOp .shr xt x y yt, ty, pos, after, gd⟩).run P w = .ok (.value ((.int k (a.fdiv (2 ^ min b.toNat k.bits))))) w := by simp [execOp, hx, hy, eqGuard, binOp, Op.shift, Int.not_lt.mpr hb]
theorem e_not {b : Bool} (hx : fe f x = .bool b) : (execOp (fe f) ⟨some d, .unOp .not xt x, ty, pos, after, gd⟩).run P w = .ok (.value ((.bool (!b)))) w := by simp [execOp, hx, Op.unary]
theorem e_seql {s t : ByteArray} (hx : fe f x = .string s) (hy : fe f y = .string t) : (execOp (fe f) ⟨some d, .binOp .eql xt x y yt, ty, pos, after, gd⟩).run P w = .ok (.value ((.bool (s.toList == t.toList)))) w := by simp [execOp, hx, hy, eqGuard, binOp, Op.stringOp]
theorem e_sneq {s t : ByteArray} (hx : fe f x = .string s) (hy : fe f y = .string t) : (execOp (fe f) ⟨some d, .binOp .neq xt x y yt, ty, pos, after, gd⟩).run P w = .ok (.value ((.bool (!(s.toList == t.toList))))) w := by simp [execOp, hx, hy, eqGuard, binOp, Op.stringOp]
theorem e_sadd {s t : ByteArray} (hx : fe f x = .string s) (hy : fe f y = .string t) (hl : s.size + t.size ≤ 9223372036854775807) : (execOp (fe f) ⟨some d, .binOp .add xt x y yt, ty, pos, after, gd⟩).run P w = .ok (.value ((.string (s ++ t)))) w := by
    have h0 : ¬ (((s.size + t.size : Nat) : Int) > IntKind.i64.max) := by
      have : IntKind.i64.max = 9223372036854775807 := by decide
      omega
    simp only [execOp, hx, hy, eqGuard, binOp, Op.stringOp]
    rw [if_neg h0]
    simp
theorem e_extract {i : Nat} {vs : Array Value} {v : Value} (hx : fe f x = .tuple vs) (hv : vs[i]? = some v) : (execOp (fe f) ⟨some d, .extract x i, ty, pos, after, gd⟩).run P w = .ok (.value (v)) w := by simp [execOp, hx, Instr.extract, hv]
theorem e_len_slice {t e : TypeId} {ad : Option Addr} {m c : Nat} (hx : fe f x = .slice ad m c) (ht : P.underlying t = some (.slice e)) : (execOp (fe f) ⟨some d, .call { callee := .builtin .len, args := #[x], argTypes := #[t] }, ty, pos, after, gd⟩).run P w = .ok (.value ((.int .i64 (m : Int)))) w := by simp [go_sem, hx, ht]
theorem e_len_str {t : TypeId} {s : ByteArray} (hx : fe f x = .string s) (ht : P.underlying t = some .string) : (execOp (fe f) ⟨some d, .call { callee := .builtin .len, args := #[x], argTypes := #[t] }, ty, pos, after, gd⟩).run P w = .ok (.value ((.int .i64 (s.size : Int)))) w := by simp [go_sem, hx, Builtin.len_, run_underlying ht, goInt]
theorem e_load {t : TypeId} {p : Addr} {v : Value} (hx : fe f x = .pointer (some p)) (ht : flatB P t = true) (hc : w.cell? p = some v) : (execOp (fe f) ⟨some d, .load t x, ty, pos, after, gd⟩).run P w = .ok (.value (v)) w := by simp [execOp, hx, Instr.loadAt, Instr.sureAddr, loadVar, (flat_run (w := w) ht).1, run_load, hc]
theorem e_loadN {t m : TypeId} {p : Addr} {cs : List Value} (hx : fe f x = .pointer (some p)) (ht : aggN P t = some m) (hl : cs.length = m) (hc : ∀ j v, cs[j]? = some v → w.cell? (p.add j) = some v) : (execOp (fe f) ⟨some d, .load t x, ty, pos, after, gd⟩).run P w = .ok (.value ((.agg cs.toArray))) w := by
    subst hl
    simp [execOp, hx, Instr.loadAt, Instr.sureAddr, loadVar, (agg_run (w := w) ht).1, (agg_run (w := w) ht).2, run_loadCells_list (P := P) w p cs hc]
theorem e_fieldAddr {s i off b o : Nat} (hx : fe f x = .pointer (some ⟨b, o, none⟩)) (hf : fieldB P s i = some off) : (execOp (fe f) ⟨some d, .fieldAddr s x i, ty, pos, after, gd⟩).run P w = .ok (.value ((.pointer (some ⟨b, o + off, none⟩)))) w := by simp [execOp, hx, field_run hf, addAt]
theorem e_idxS {t e sz by_ b o m c : Nat} {z : Value} {k : IntKind} {i : Int} (hx : fe f x = .slice (some ⟨b, o, none⟩) m c) (hy : fe f y = .int k i) (ht : SlT P t e sz by_ z) (h0 : 0 ≤ i) (h1 : i < m) : (execOp (fe f) ⟨some d, .indexAddr t x y, ty, pos, after, gd⟩).run P w = .ok (.value ((.pointer (some ⟨b, o + i.toNat * sz, none⟩)))) w := by
    have hi := ht.info
    cases hq : P.info? e with
    | none => simp [hq] at hi
    | some j =>
      simp [hq] at hi
      simp [execOp, hx, hy, Instr.indexAt, run_underlying ht.und, asIntOf, h0, h1, sizeOf, typeInfo, hq, hi.1, addAt]
theorem e_idxA {t e sz b o m : Nat} {k : IntKind} {i : Int} (hx : fe f x = .pointer (some ⟨b, o, none⟩)) (hy : fe f y = .int k i) (ht : P.underlying t = some (.array m e)) (hsz : (P.info? e).map (·.size) = some sz) (h0 : 0 ≤ i) (h1 : i < m) : (execOp (fe f) ⟨some d, .indexAddr t x y, ty, pos, after, gd⟩).run P w = .ok (.value ((.pointer (some ⟨b, o + i.toNat * sz, none⟩)))) w := by
    cases hq : P.info? e with
    | none => simp [hq] at hsz
    | some j =>
      simp [hq] at hsz
      simp [execOp, hx, hy, Instr.indexAt, run_underlying ht, asIntOf, Instr.sureAddr, h0, h1, sizeOf, typeInfo, hq, hsz, addAt]
theorem e_idxStr {t : Nat} {s : ByteArray} {k : IntKind} {i : Int} {c : UInt8} (hx : fe f x = .string s) (hy : fe f y = .int k i) (ht : P.underlying t = some .string) (h0 : 0 ≤ i) (h1 : s[i.toNat]? = some c) : (execOp (fe f) ⟨some d, .index t x y, ty, pos, after, gd⟩).run P w = .ok (.value ((.int .u8 (c.toNat : Int)))) w := by simp [execOp, hx, hy, Instr.index, run_underlying ht, asIntOf, h0, h1]
theorem e_sliceS {t : TypeId} {s : ByteArray} {lo hi : Option Operand} {l h : Nat} (hx : fe f x = .string s) (ht : P.underlying t = some .string)
    (hl : lo.map (fe f) = none ∧ l = 0 ∨ ∃ k, lo.map (fe f) = some (.int k (l : Int))) (hh : hi.map (fe f) = none ∧ h = s.size ∨ ∃ k, hi.map (fe f) = some (.int k (h : Int))) (h1 : l ≤ h) (h2 : h ≤ s.size) : (execOp (fe f) ⟨some d, .slice t x lo hi none, ty, pos, after, gd⟩).run P w = .ok (.value ((.string (s.extract l h)))) w := by
    rcases hl with ⟨e1, rfl⟩ | ⟨k1, e1⟩ <;> rcases hh with ⟨e2, rfl⟩ | ⟨k2, e2⟩ <;>
      simp [execOp, hx, e1, e2, Instr.sliceAt, run_underlying ht, Instr.slice, Instr.sliceBounds, Instr.sliceBound, asIntOf, h1, h2]
theorem e_nilCheck {p : Addr} (hx : fe f x = .pointer (some p)) : (execOp (fe f) ⟨some d, .nilCheck x, ty, pos, after, gd⟩).run P w = .ok (.value (.pointer (some p))) w := by simp [execOp, hx]
/- addresses told by whatever address -/
theorem e_fieldA {s i off : Nat} {p q : Addr} (hx : fe f x = .pointer (some p)) (hf : fieldB P s i = some off) (hq : p.add off = q) : (execOp (fe f) ⟨some d, .fieldAddr s x i, ty, pos, after, gd⟩).run P w = .ok (.value (.pointer (some q))) w := by
  subst hq; simp [execOp, hx, field_run hf]
theorem e_idxR {t e sz by_ m c : Nat} {z : Value} {k : IntKind} {i : Int} {p : Addr} (hx : fe f x = .slice (some p) m c) (hy : fe f y = .int k i) (ht : SlT P t e sz by_ z) (h0 : 0 ≤ i) (h1 : i < m) : (execOp (fe f) ⟨some d, .indexAddr t x y, ty, pos, after, gd⟩).run P w = .ok (.value (.pointer (some (p.add (i.toNat * sz))))) w := by
  have hi := ht.info
  cases hq : P.info? e with
  | none => simp [hq] at hi
  | some j =>
    simp [hq] at hi
    simp [execOp, hx, hy, Instr.indexAt, run_underlying ht.und, asIntOf, h0, h1, sizeOf, typeInfo, hq, hi.1]
theorem o_idxR {n : Nat} {ops : Array Oper} {K : Exit → Fr → World → Prop} {rest : List Oper} {t e sz by_ m c : Nat} {z : Value} {k : IntKind} {i : Int} {p : Addr} (hx : fe f x = .slice (some p) m c) (hy : fe f y = .int k i) (ht : SlT P t e sz by_ z) (h0 : 0 ≤ i) (h1 : i < m) (hn : d < n)
    (hk : OW P n ops K rest (upd f d (.pointer (some (p.add (i.toNat * sz))))) w) : OW P n ops K (⟨some d, .indexAddr t x y, ty, pos, after, none⟩ :: rest) f w :=
  ow_val rfl rfl hn (e_idxR hx hy ht h0 h1) hk
theorem add_add (a : Addr) (k j : Nat) : (a.add k).add j = a.add (k + j) := by
  unfold Addr.add
  by_cases h1 : k = 0
  · subst h1; simp
  · by_cases h2 : j = 0
    · subst h2; simp
    · have : k + j ≠ 0 := by omega
      simp [h1, h2, Nat.add_assoc]
theorem cells_add {ad : Addr} {k : Nat} {cs : List Value} (hc : ∀ j u, cs[j]? = some u → w.cell? (ad.add (k + j)) = some u) : ∀ j u, cs[j]? = some u → w.cell? ((ad.add k).add j) = some u := fun j u h => by
  rw [add_add]; exact hc j u h
theorem ow_outU {n : Nat} {ops : Array Oper} {K : Exit → Fr → World → Prop} {rest : List Oper} {d : Nat} {op : Op} {ty : TypeId} {pos : String} {after : Array Edge} {j g : Nat} {b : Bool} (hj : (ops[j]?).bind (·.dst) = some g) (hb : f g = undef) (hn : d < n)
    (h : OW P n ops K rest (upd f d undef) w) : OW P n ops K (⟨some d, op, ty, pos, after, some (j, b)⟩ :: rest) f w := fun a ha => by
  unfold wpList
  have hy : yielded ops a.tmps j = none := by
    have h0 := ha.get g
    rw [hb, Array.getD_eq_getD_getElem?] at h0
    unfold yielded
    rw [hj]
    simp only [Option.bind_some]
    cases hx : a.tmps[g]? with
    | none => rfl
    | some v => rw [hx] at h0; simp at h0; subst h0; rfl
  rw [if_neg (by simp [Region.wanted, hy])]
  exact h _ (ha.put hn undef)
theorem e_mkFunc {fn : Fn} {l : List Operand} {vs : List Value} (hl : l.map (fe f) = vs) : (execOp (fe f) ⟨some d, .makeFunc fn #[] l.toArray, ty, pos, after, gd⟩).run P w = .ok (.value (.func fn #[] vs.toArray)) w := by
  subst hl; simp [execOp, Instr.makeFunc]
theorem e_addI (hx : fe f x = .int .i64 a) (hy : fe f y = .int .i64 b) (h0 : -9223372036854775808 ≤ a + b) (h1 : a + b ≤ 9223372036854775807) : (execOp (fe f) ⟨some d, .binOp .add xt x y yt, ty, pos, after, gd⟩).run P w = .ok (.value (.int .i64 (a + b))) w := by
  rw [e_add hx hy, wrap_in h0 h1]
theorem e_subI (hx : fe f x = .int .i64 a) (hy : fe f y = .int .i64 b) (h0 : -9223372036854775808 ≤ a - b) (h1 : a - b ≤ 9223372036854775807) : (execOp (fe f) ⟨some d, .binOp .sub xt x y yt, ty, pos, after, gd⟩).run P w = .ok (.value (.int .i64 (a - b))) w := by
  rw [e_sub hx hy, wrap_in h0 h1]
theorem e_mulI (hx : fe f x = .int .i64 a) (hy : fe f y = .int .i64 b) (h0 : -9223372036854775808 ≤ a * b) (h1 : a * b ≤ 9223372036854775807) : (execOp (fe f) ⟨some d, .binOp .mul xt x y yt, ty, pos, after, gd⟩).run P w = .ok (.value (.int .i64 (a * b))) w := by
  rw [e_mul hx hy, wrap_in h0 h1]
/-- A value under another name. -/
theorem ow_val2 {n : Nat} {ops : Array Oper} {K : Exit → Fr → World → Prop} {rest : List Oper} {o : Oper} {d : Nat} {u v : Value} (hg : o.guard = none) (hd : o.dst = some d) (hn : d < n)
    (hr : (execOp (fe f) o).run P w = .ok (.value u) w) (huv : u = v) (hk : OW P n ops K rest (upd f d v) w) : OW P n ops K (o :: rest) f w := ow_val hg hd hn (huv ▸ hr) hk
/-- Which of two: told before what hangs on it. -/
theorem ow_split {n : Nat} {ops : Array Oper} {K : Exit → Fr → World → Prop} {l : List Oper} {g : Nat} {t : Bool} (hg : g < n) (hb : fe f (.tmp g) = .bool t) (h1 : t = true → OW P n ops K l (upd f g (.bool true)) w) (h2 : t = false → OW P n ops K l (upd f g (.bool false)) w) : OW P n ops K l f w := by
  have e : ∀ v, f g = v → upd f g v = f := fun v hv => by
    funext x
    unfold upd
    cases hx : Nat.beq x g with
    | false => rfl
    | true => have := Nat.eq_of_beq_eq_true hx; subst this; exact hv.symm
  cases t with
  | true => have h := h1 rfl; rwa [e _ hb] at h
  | false => have h := h2 rfl; rwa [e _ hb] at h
/-- What lay below a world's heap's end lies there still. -/
def Old (W : World) : Asn := fun h => ∀ b, b < W.heap.size → h b = W.heap[b]?
theorem Sat.start (W : World) : Sat W W [Old W] := ⟨rfl, rfl, rfl, Nat.le_refl _, fun b => W.heap[b]?, fun _ => none, fun _ => .inr rfl, fun _ _ e => e, (fun _ _ e => by cases e), fun _ _ => rfl, trivial⟩
theorem SatH.mem {Γ : List Asn} {h : Heap} {i : Nat} {A : Asn} (hi : Γ[i]? = some A) (hs : SatH Γ h) : ∃ h1, Sub h1 h ∧ A h1 := by
  obtain ⟨h1, h2, d, s1, s2, hA, hΓ⟩ := hs.rot i A hi
  exact ⟨h1, s1, hA⟩
theorem Sat.below_old {B W : World} {Γ : List Asn} {i : Nat} (hs : Sat B w Γ) (hi : Γ[i]? = some (Old W)) (b : Nat) (hb : b < W.heap.size) : w.heap[b]? = W.heap[b]? := by
  obtain ⟨h1, s1, hA⟩ := hs.heap.mem hi
  have h2 := hA b hb
  cases e : W.heap[b]? with
  | none => have := Array.getElem?_eq_none_iff.1 e; omega
  | some o => rw [e] at h2; exact s1 b o h2
theorem Sat.toBelow {B : World} {Γ : List Asn} (i : Nat) (hs : Sat B w Γ) (hi : Γ[i]? = some (Old B)) : Below B.heap.size B w :=
  ⟨hs.os, hs.tape, hs.output, hs.size, fun k hk => hs.below_old hi k hk⟩
theorem Sat.oldCell {B W : World} {Γ : List Asn} (hs : Sat B w Γ) (i : Nat) (hi : Γ[i]? = some (Old W)) {p : Addr} {v : Value} (h : W.cell? p = some v) : w.cell? p = some v := by
  rw [World.cell?_of_block (w := W) (hs.below_old hi p.block (World.block_lt_of_cell? W p h))]; exact h
theorem Sat.cellsAt {B : World} {Γ : List Asn} (hs : Sat B w Γ) (i : Nat) {b T : Nat} {cs : List Value} (hi : Γ[i]? = some (Blk b T cs)) (o : Nat) {m : Nat} (j : Nat) (v : Value) (h : ((cs.drop o).take m)[j]? = some v) : w.cell? ((⟨b, o, none⟩ : Addr).add j) = some v := by
  rw [addAt]
  refine hs.cell i hi (Blk.reads ?_)
  rw [List.getElem?_take] at h
  split at h
  · rwa [List.getElem?_drop] at h
  · cases h
theorem Sat.cellsOf {B : World} {Γ : List Asn} (hs : Sat B w Γ) (i : Nat) {b T : Nat} {cs : List Value} (hi : Γ[i]? = some (Blk b T cs)) (j : Nat) (v : Value) (h : cs[j]? = some v) : w.cell? ((⟨b, 0, none⟩ : Addr).add j) = some v := by
  rw [addAt, Nat.zero_add]
  exact hs.cell i hi (Blk.reads h)
theorem SatH.family {Γ : List Asn} : ∀ {h : Heap}, SatH Γ h → ∃ hs : Nat → Heap, (∀ i j, i ≠ j → Dis (hs i) (hs j)) ∧ (∀ i, Sub (hs i) h) ∧ ∀ (i : Nat) (A : Asn), Γ[i]? = some A → A (hs i) := by
  induction Γ with
  | nil => exact fun _ => ⟨fun _ _ => none, fun _ _ _ _ => .inl rfl, (fun _ _ _ e => by cases e), (fun i A e => by simp at e)⟩
  | cons A Γ ih =>
    rintro h ⟨h1, h2, d, s1, s2, hA, hΓ⟩
    obtain ⟨hs, hd, hsub, hall⟩ := ih hΓ
    refine ⟨fun i => match i with | 0 => h1 | i + 1 => hs i, ?_, ?_, ?_⟩
    · intro i j hij
      cases i with
      | zero => cases j with
        | zero => exact absurd rfl hij
        | succ j => exact (d.symm.sub (hsub j)).symm
      | succ i => cases j with
        | zero => exact d.symm.sub (hsub i)
        | succ j => exact hd i j (fun e => hij (by rw [e]))
    · intro i
      cases i with
      | zero => exact s1
      | succ i => exact (hsub i).trans s2
    · intro i B hi
      cases i with
      | zero => simp at hi; subst hi; exact hA
      | succ i => exact hall i B (by simpa using hi)
theorem SatH.of_family : ∀ (Γ : List Asn) (h : Heap) (hs : Nat → Heap), (∀ i j, i ≠ j → Dis (hs i) (hs j)) → (∀ i, Sub (hs i) h) → (∀ (i : Nat) (A : Asn), Γ[i]? = some A → A (hs i)) → SatH Γ h
  | [], h, hs, _, _, _ => trivial
  | A :: Γ, h, hs, hd, hsub, hall => by
    refine ⟨hs 0, fun b => if (hs 0 b).isNone then h b else none, ?_, hsub 0, ?_, hall 0 A rfl, SatH.of_family Γ _ (fun i => hs (i + 1)) (fun i j hij => hd _ _ (by omega)) ?_ (fun i B hi => hall (i + 1) B (by simpa using hi))⟩
    · intro b
      cases e : hs 0 b with
      | none => exact .inl rfl
      | some o => right; simp [e]
    · intro b o e
      by_cases e' : (hs 0 b).isNone = true
      · simpa [e'] using e
      · simp [e'] at e
    · intro i b o e
      have h0 : hs 0 b = none := by
        rcases hd 0 (i + 1) (by omega) b with h0 | h0
        · exact h0
        · rw [e] at h0; cases h0
      simp [h0]; exact hsub (i + 1) b o e
theorem Sat.pick {B : World} {Γ Δ : List Asn} (hs : Sat B w Γ) (l : List Nat) (hl : l.Nodup ∧ ∀ i ∈ l, i < Γ.length) (hd : l.map (Γ[·]?) = Δ.map some) : Sat B w Δ := by
  refine ⟨hs.os, hs.tape, hs.output, hs.size, ?_⟩
  obtain ⟨hf, h1, h2, h3⟩ := hs.heap.family
  have hlen : l.length = Δ.length := by have := congrArg List.length hd; simpa using this
  refine SatH.of_family Δ _ (fun k => match l[k]? with | some i => hf i | none => fun _ => none) ?_ ?_ ?_
  · intro i j hij
    cases e1 : l[i]? with
    | none => exact fun _ => .inl rfl
    | some x => cases e2 : l[j]? with
      | none => exact fun _ => .inr rfl
      | some y =>
        refine h1 x y fun e => ?_
        subst e
        obtain ⟨a1, a2⟩ := List.getElem?_eq_some_iff.1 e1
        obtain ⟨b1, b2⟩ := List.getElem?_eq_some_iff.1 e2
        exact hij ((List.getElem_inj hl.1).1 (a2.trans b2.symm))
  · intro i
    cases e1 : l[i]? with
    | none => exact fun _ _ e => by cases e
    | some x => exact h2 x
  · intro i A hi
    have h4 : (l.map (Γ[·]?))[i]? = some (some A) := by rw [hd]; simp [hi]
    rw [List.getElem?_map] at h4
    cases e1 : l[i]? with
    | none => rw [e1] at h4; cases h4
    | some x => rw [e1] at h4; exact h3 x A (by simpa using h4)
end
end Go.Sl
