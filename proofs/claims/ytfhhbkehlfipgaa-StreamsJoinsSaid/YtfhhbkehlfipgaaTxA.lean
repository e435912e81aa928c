/- Lemmas for the walk: T1, T2, T2b, T3, T4, T5, T6. -/
import Derived.Test.YtfhhbkehlfipgaaSxA
import Derived.RangeFuncLeaves
import Derived.RangeFuncRecord
import Derived.Below
import Derived.Test.YtfhhbkehlfipgaaSxB
import Derived.LaidEqlPtr
import Derived.ChangeKeysEq
section
set_option linter.unusedSimpArgs false
set_option linter.unusedVariables false
set_option linter.unnecessarySimpa false
set_option linter.unusedSectionVars false
namespace Go.Tx

/-- Names: the level of the activation, and a number. -/
structure Nm where
  l : Nat
  i : Nat
  deriving DecidableEq, Inhabited

/-- Symbolic values. `ptr`, `sl`, `mp` go into named memory; `fp`, `fs`, `fm` are frozen trees (no names inside). -/
inductive PV where
  | bool (b : Bool)
  | int (k : IntKind) (n : Int)
  | str (l : List UInt8)
  | nilP | nilS | nilM | nilF | nilI
  | ptr (n : Nm) (r c : Nat)
  | sl (n : Nm) (r l : Nat)
  | mp (n : Nm)
  | fp (wd : Nat) (rs : List (List PV)) (r c : Nat)
  | fs (wd : Nat) (rs : List (List PV))
  | fm (ks vs : List PV)
  | fn (f : Fn) (x y : List PV)
  | ifc (t : TypeId) (v : PV)
  | agg (l : List PV)
  | tup (l : List PV)
  deriving Inhabited

/-- Where a named block lies. `z`: it has no cells, and its slices are `.slice za 0 0`. -/
structure BI where
  b : Nat
  o : Nat
  wd : Nat
  n : Nat
  z : Bool
  za : Option Addr

abbrev Env := Nm → Option BI
def Env.no : Env := fun _ => none
def Env.le (E E' : Env) : Prop := ∀ k i, E k = some i → E' k = some i
theorem Env.le.refl (E : Env) : E.le E := fun _ _ h => h
theorem Env.le.trans {E E' E'' : Env} (h : E.le E') (h' : E'.le E'') : E.le E'' := fun k i hk => h' k i (h k i hk)
theorem Env.no_le (E : Env) : Env.no.le E := fun _ _ h => by cases h

def strV (l : List UInt8) : Value := .string ⟨l.toArray⟩

/-- The place of a row within a block; a slice of no capacity keeps the block's. -/
def offS (i : BI) (r l : Nat) : Nat := if l = 0 ∧ r = i.n then 0 else r * i.wd
theorem offS_zero (i : BI) (l : Nat) : offS i 0 l = 0 := by unfold offS; split <;> simp
theorem offS_lt {i : BI} {r : Nat} (l : Nat) (h : r < i.n) : offS i r l = r * i.wd := by unfold offS; rw [if_neg (by omega)]
theorem offS_pos {i : BI} {r l : Nat} (h : 0 < l) : offS i r l = r * i.wd := by unfold offS; rw [if_neg (by omega)]
mutual
def VR (w : World) (Z : Nat → Prop) : Env → PV → Value → Prop
  | _, .bool b, v => v = .bool b
  | _, .int k n, v => v = .int k n
  | _, .str l, v => v = strV l
  | _, .nilP, v => v = .pointer none
  | _, .nilS, v => v = .slice none 0 0
  | _, .nilM, v => v = .map none
  | _, .nilF, v => v = .nilFunc
  | _, .nilI, v => v = .nilIface
  | E, .ptr n r c, v => ∃ i, E n = some i ∧ i.z = false ∧ v = .pointer (some ⟨i.b, i.o + (r * i.wd + c), none⟩)
  | E, .sl n r l, v => ∃ i, E n = some i ∧ ((i.z = true ∧ l = 0 ∧ v = .slice i.za 0 0) ∨ (i.z = false ∧ v = .slice (some ⟨i.b, i.o + offS i r l, none⟩) l (i.n - r)))
  | E, .mp n, v => ∃ i, E n = some i ∧ i.z = false ∧ v = .map (some i.b)
  | _, .fp wd rs r c, v => ∃ b o cs e fz, v = .pointer (some ⟨b, o + (r * wd + c), none⟩) ∧ Z b ∧ w.heap[b]? = some (.cells cs e fz) ∧ 0 < wd ∧ (∀ row ∈ rs, row.length = wd) ∧ VRr w Z Env.no rs o cs
  | _, .fs wd rs, v => ∃ a cap, v = .slice a rs.length cap ∧ rs.length ≤ cap ∧ cap ≤ maxLen ∧ 0 < wd ∧ (∀ row ∈ rs, row.length = wd) ∧
      (rs = [] ∨ ∃ b o cs e fz, a = some ⟨b, o, none⟩ ∧ Z b ∧ w.heap[b]? = some (.cells cs e fz) ∧ VRr w Z Env.no rs o cs)
  | _, .fm ks vs, v => ∃ r ents clk, v = .map (some r) ∧ Z r ∧ w.heap[r]? = some (.map ents clk) ∧ VRl w Z Env.no ks (ents.toList.map (·.key)) ∧ VRl w Z Env.no vs (ents.toList.map (·.val))
  | E, .fn f x y, v => ∃ x' y', v = .func f x'.toArray y'.toArray ∧ VRl w Z E x x' ∧ VRl w Z E y y'
  | E, .ifc t u, v => ∃ u', v = .iface t u' ∧ VR w Z E u u'
  | E, .agg l, v => ∃ l' : List Value, v = .agg l'.toArray ∧ (∀ u ∈ l', u.oneCell' = true) ∧ VRl w Z E l l'
  | E, .tup l, v => ∃ l' : List Value, v = .tuple l'.toArray ∧ VRl w Z E l l'
def VRl (w : World) (Z : Nat → Prop) : Env → List PV → List Value → Prop
  | _, [], l' => l' = []
  | E, x :: l, l' => ∃ v t, l' = v :: t ∧ VR w Z E x v ∧ VRl w Z E l t
def VRc (w : World) (Z : Nat → Prop) : Env → List PV → Nat → Array Value → Prop
  | _, [], _, _ => True
  | E, x :: l, o, cs => (∃ v, cs[o]? = some v ∧ v.oneCell' = true ∧ VR w Z E x v) ∧ VRc w Z E l (o + 1) cs
def VRr (w : World) (Z : Nat → Prop) : Env → List (List PV) → Nat → Array Value → Prop
  | _, [], _, _ => True
  | E, row :: rs, o, cs => VRc w Z E row o cs ∧ VRr w Z E rs (o + row.length) cs
end

/-- The same, in another environment and world. -/
structure Ext (E : Env) (w : World) (Z : Nat → Prop) (E' : Env) (w' : World) (Z' : Nat → Prop) : Prop where
  le : E.le E'
  zone : ∀ b, Z b → Z' b
  heap : ∀ b, Z b → w'.heap[b]? = w.heap[b]?
theorem Ext.no {E E' : Env} {w w' : World} {Z Z' : Nat → Prop} (h : Ext E w Z E' w' Z') : Ext Env.no w Z Env.no w' Z' := ⟨Env.le.refl _, h.zone, h.heap⟩

mutual
theorem VR.mono {w w' : World} {Z Z' : Nat → Prop} : ∀ {E E' : Env}, Ext E w Z E' w' Z' → ∀ (x : PV) (v : Value), VR w Z E x v → VR w' Z' E' x v
  | E, E', h, .bool _, v, hv => by simpa [VR] using hv
  | E, E', h, .int _ _, v, hv => by simpa [VR] using hv
  | E, E', h, .str _, v, hv => by simpa [VR] using hv
  | E, E', h, .nilP, v, hv => by simpa [VR] using hv
  | E, E', h, .nilS, v, hv => by simpa [VR] using hv
  | E, E', h, .nilM, v, hv => by simpa [VR] using hv
  | E, E', h, .nilF, v, hv => by simpa [VR] using hv
  | E, E', h, .nilI, v, hv => by simpa [VR] using hv
  | E, E', h, .ptr n r c, v, hv => by
    simp only [VR] at hv ⊢
    obtain ⟨i, h1, h2⟩ := hv
    exact ⟨i, h.le _ _ h1, h2⟩
  | E, E', h, .sl n r l, v, hv => by
    simp only [VR] at hv ⊢
    obtain ⟨i, h1, h2⟩ := hv
    exact ⟨i, h.le _ _ h1, h2⟩
  | E, E', h, .mp n, v, hv => by
    simp only [VR] at hv ⊢
    obtain ⟨i, h1, h2⟩ := hv
    exact ⟨i, h.le _ _ h1, h2⟩
  | E, E', h, .fp wd rs r c, v, hv => by
    simp only [VR] at hv ⊢
    obtain ⟨b, o, cs, e, fz, h1, h2, h3, h4, h5, h6⟩ := hv
    exact ⟨b, o, cs, e, fz, h1, h.zone _ h2, (h.heap _ h2).trans h3, h4, h5, VRr.mono h.no rs o cs h6⟩
  | E, E', h, .fs wd rs, v, hv => by
    simp only [VR] at hv ⊢
    obtain ⟨a, cap, h1, h2, h2b, h3, h4, h5⟩ := hv
    refine ⟨a, cap, h1, h2, h2b, h3, h4, h5.imp id ?_⟩
    rintro ⟨b, o, cs, e, fz, q1, q2, q3, q4⟩
    exact ⟨b, o, cs, e, fz, q1, h.zone _ q2, (h.heap _ q2).trans q3, VRr.mono h.no rs o cs q4⟩
  | E, E', h, .fm ks vs, v, hv => by
    simp only [VR] at hv ⊢
    obtain ⟨r, ents, clk, h1, h2, h3, h4, h5⟩ := hv
    exact ⟨r, ents, clk, h1, h.zone _ h2, (h.heap _ h2).trans h3, VRl.mono h.no ks _ h4, VRl.mono h.no vs _ h5⟩
  | E, E', h, .fn f x y, v, hv => by
    simp only [VR] at hv ⊢
    obtain ⟨x', y', h1, h2, h3⟩ := hv
    exact ⟨x', y', h1, VRl.mono h x _ h2, VRl.mono h y _ h3⟩
  | E, E', h, .ifc t u, v, hv => by
    simp only [VR] at hv ⊢
    obtain ⟨u', h1, h2⟩ := hv
    exact ⟨u', h1, VR.mono h u _ h2⟩
  | E, E', h, .agg l, v, hv => by
    simp only [VR] at hv ⊢
    obtain ⟨l', h1, h2, h3⟩ := hv
    exact ⟨l', h1, h2, VRl.mono h l _ h3⟩
  | E, E', h, .tup l, v, hv => by
    simp only [VR] at hv ⊢
    obtain ⟨l', h1, h3⟩ := hv
    exact ⟨l', h1, VRl.mono h l _ h3⟩
theorem VRl.mono {w w' : World} {Z Z' : Nat → Prop} : ∀ {E E' : Env}, Ext E w Z E' w' Z' → ∀ (l : List PV) (l' : List Value), VRl w Z E l l' → VRl w' Z' E' l l'
  | E, E', h, [], l', hv => by simpa [VRl] using hv
  | E, E', h, x :: l, l', hv => by
    simp only [VRl] at hv ⊢
    obtain ⟨v, t, h1, h2, h3⟩ := hv
    exact ⟨v, t, h1, VR.mono h x v h2, VRl.mono h l t h3⟩
theorem VRc.mono {w w' : World} {Z Z' : Nat → Prop} : ∀ {E E' : Env}, Ext E w Z E' w' Z' → ∀ (l : List PV) (o : Nat) (cs : Array Value), VRc w Z E l o cs → VRc w' Z' E' l o cs
  | E, E', h, [], o, cs, hv => by simp [VRc]
  | E, E', h, x :: l, o, cs, hv => by
    simp only [VRc] at hv ⊢
    obtain ⟨⟨v, h1, h2, h3⟩, h4⟩ := hv
    exact ⟨⟨v, h1, h2, VR.mono h x v h3⟩, VRc.mono h l _ _ h4⟩
theorem VRr.mono {w w' : World} {Z Z' : Nat → Prop} : ∀ {E E' : Env}, Ext E w Z E' w' Z' → ∀ (rs : List (List PV)) (o : Nat) (cs : Array Value), VRr w Z E rs o cs → VRr w' Z' E' rs o cs
  | E, E', h, [], o, cs, hv => by simp [VRr]
  | E, E', h, row :: rs, o, cs, hv => by
    simp only [VRr] at hv ⊢
    exact ⟨VRc.mono h row _ _ hv.1, VRr.mono h rs _ _ hv.2⟩
end

/-! ### by index -/
theorem VRl.get {w : World} {Z : Nat → Prop} {E : Env} : ∀ {l : List PV} {l' : List Value}, VRl w Z E l l' → l'.length = l.length ∧ ∀ (j : Nat) (x : PV), l[j]? = some x → ∃ v, l'[j]? = some v ∧ VR w Z E x v
  | [], l', h => by simp only [VRl] at h; subst h; simp
  | x :: l, l', h => by
    simp only [VRl] at h
    obtain ⟨v, t, rfl, h2, h3⟩ := h
    obtain ⟨a1, a2⟩ := VRl.get h3
    refine ⟨by simp [a1], fun j y hy => ?_⟩
    cases j with
    | zero => simp at hy; subst hy; exact ⟨v, by simp, h2⟩
    | succ j => simp at hy; simpa using a2 j y hy
theorem VRl.of {w : World} {Z : Nat → Prop} {E : Env} : ∀ {l : List PV} {l' : List Value}, l'.length = l.length → (∀ (j : Nat) (x : PV) (v : Value), l[j]? = some x → l'[j]? = some v → VR w Z E x v) → VRl w Z E l l'
  | [], l', h, _ => by simp only [VRl]; exact List.eq_nil_of_length_eq_zero (by simpa using h)
  | x :: l, [], h, _ => by simp at h
  | x :: l, v :: t, h, hg => by
    simp only [VRl]
    exact ⟨v, t, rfl, hg 0 x v (by simp) (by simp), VRl.of (by simpa using h) fun j y u hy hu => hg (j + 1) y u (by simpa using hy) (by simpa using hu)⟩
theorem VRl.append {w : World} {Z : Nat → Prop} {E : Env} : ∀ {l : List PV} {l' : List Value} {m : List PV} {m' : List Value}, VRl w Z E l l' → VRl w Z E m m' → VRl w Z E (l ++ m) (l' ++ m')
  | [], l', m, m', h, k => by simp only [VRl] at h; subst h; simpa using k
  | x :: l, l', m, m', h, k => by
    simp only [VRl] at h
    obtain ⟨v, t, rfl, h2, h3⟩ := h
    simp only [List.cons_append, VRl]
    exact ⟨v, t ++ m', rfl, h2, VRl.append h3 k⟩
theorem VRc_iff {w : World} {Z : Nat → Prop} {E : Env} {cs : Array Value} : ∀ {l : List PV} {o : Nat}, VRc w Z E l o cs ↔ ∀ (j : Nat) (x : PV), l[j]? = some x → ∃ v, cs[o + j]? = some v ∧ v.oneCell' = true ∧ VR w Z E x v
  | [], o => by simp [VRc]
  | x :: l, o => by
    simp only [VRc, VRc_iff (l := l)]
    constructor
    · rintro ⟨h1, h2⟩ j y hy
      cases j with
      | zero => simp at hy; subst hy; exact h1
      | succ j =>
        simp at hy
        obtain ⟨v, a, b⟩ := h2 j y hy
        exact ⟨v, by rw [show o + (j + 1) = o + 1 + j by omega]; exact a, b⟩
    · intro h
      refine ⟨h 0 x (by simp), fun j y hy => ?_⟩
      obtain ⟨v, a, b⟩ := h (j + 1) y (by simpa using hy)
      exact ⟨v, by rw [show o + 1 + j = o + (j + 1) by omega]; exact a, b⟩
theorem VRr_iff {w : World} {Z : Nat → Prop} {E : Env} {cs : Array Value} {wd : Nat} : ∀ {rs : List (List PV)} {o : Nat}, (∀ row ∈ rs, row.length = wd) → (VRr w Z E rs o cs ↔ ∀ (r : Nat) (row : List PV) (c : Nat) (x : PV), rs[r]? = some row → row[c]? = some x →
    ∃ v, cs[o + (r * wd + c)]? = some v ∧ v.oneCell' = true ∧ VR w Z E x v)
  | [], o, _ => by simp [VRr]
  | row :: rs, o, hl => by
    have h0 := hl row (by simp)
    simp only [VRr, VRc_iff, VRr_iff (rs := rs) (o := o + row.length) (fun r hr => hl r (by simp [hr]))]
    constructor
    · rintro ⟨h1, h2⟩ r row' c x hr hc
      cases r with
      | zero =>
        simp at hr; subst hr
        obtain ⟨v, a, b⟩ := h1 c x hc
        exact ⟨v, by simpa using a, b⟩
      | succ r =>
        simp at hr
        obtain ⟨v, a, b⟩ := h2 r row' c x hr hc
        refine ⟨v, ?_, b⟩
        rw [show o + ((r + 1) * wd + c) = o + row.length + (r * wd + c) by rw [h0, Nat.succ_mul]; omega]
        exact a
    · intro h
      refine ⟨fun j x hx => ?_, fun r row' c x hr hc => ?_⟩
      · obtain ⟨v, a, b⟩ := h 0 row j x (by simp) hx
        exact ⟨v, by simpa using a, b⟩
      · obtain ⟨v, a, b⟩ := h (r + 1) row' c x (by simpa using hr) hc
        refine ⟨v, ?_, b⟩
        rw [show o + row.length + (r * wd + c) = o + ((r + 1) * wd + c) by rw [h0, Nat.succ_mul]; omega]
        exact a

end Go.Tx
end

section
set_option linter.unusedSimpArgs false
set_option linter.unusedVariables false
set_option linter.unnecessarySimpa false
set_option linter.unusedSectionVars false
namespace Go.Tx

inductive SBlk where
  | rows (e : TypeId) (wd : Nat) (own pure : Bool) (rs : List (List PV))
  | map (own pure : Bool) (ks vs : List PV)
  | dead

def SBlk.own : SBlk → Bool
  | .rows _ _ o _ _ => o
  | .map o _ _ _ => o
  | .dead => false
def SBlk.live : SBlk → Bool
  | .dead => false
  | _ => true
theorem live_of_own {b : SBlk} (h : b.own = true) : b.live = true := by cases b <;> first | rfl | cases h

def EE (E : Env) (pure : Bool) : Env := if pure then Env.no else E
theorem EE_le {E E' : Env} (h : E.le E') (p : Bool) : (EE E p).le (EE E' p) := by cases p; exact h; exact Env.le.refl _
theorem EE_sub (E : Env) (p : Bool) : (EE E p).le E := by cases p; exact Env.le.refl _; exact Env.no_le _

abbrev SF := Nm → Option SBlk
def SF.set (F : SF) (n : Nm) (b : SBlk) : SF := fun k => if k = n then some b else F k
def SF.upd (F : SF) : List (Nm × SBlk) → SF
  | [] => F
  | (n, b) :: l => SF.upd (F.set n b) l

/-- The zone of frozen blocks. -/
def Zn (E : Env) (F : SF) (w : World) (b : Nat) : Prop :=
  b < w.heap.size ∧ ∀ n c i, F n = some c → c.own = true → E n = some i → i.z = false → i.b ≠ b

structure RowsRel (E : Env) (w : World) (Z : Nat → Prop) (i : BI) (e : TypeId) (wd : Nat) (own : Bool) (rs : List (List PV)) : Prop where
  wd_eq : i.wd = wd
  o0 : i.o = 0
  wd_pos : 0 < wd
  len : ∀ r, r ∈ rs → r.length = wd
  le : rs.length ≤ i.n
  cap : i.n ≤ maxLen
  cells : ∃ cs fz, w.heap[i.b]? = some (.cells cs e fz) ∧ i.o + i.n * wd ≤ cs.size ∧ (own = true → ∀ j, i.o ≤ j → j < i.o + i.n * wd → ¬ (fz.1 ≤ j ∧ j < fz.2)) ∧ VRr w Z E rs i.o cs

def MRel (w : World) (Z : Nat → Prop) (E : Env) (ents : Array MapEntry) (ks vs : List PV) : Prop :=
  VRl w Z E ks (ents.toList.map (·.key)) ∧ VRl w Z E vs (ents.toList.map (·.val))

def BRel (E : Env) (w : World) (Z : Nat → Prop) (n : Nm) : SBlk → Prop
  | .dead => True
  | .rows e wd own p rs => ∃ i, E n = some i ∧ ((i.z = true ∧ rs = [] ∧ i.wd = wd ∧ 0 < wd) ∨ (i.z = false ∧ RowsRel (EE E p) w Z i e wd own rs))
  | .map _ p ks vs => ∃ i, E n = some i ∧ i.z = false ∧ ∃ ents clk, w.heap[i.b]? = some (.map ents clk) ∧ MRel w Z (EE E p) ents ks vs

structure HRel (E : Env) (F : SF) (w : World) : Prop where
  blk : ∀ n b, F n = some b → BRel E w (Zn E F w) n b
  sep : ∀ n m b c i j, F n = some b → F m = some c → n ≠ m → b.own = true → c.live = true → E n = some i → E m = some j → i.z = false → j.z = false → i.b ≠ j.b

structure StepR (E : Env) (F : SF) (w : World) (E' : Env) (F' : SF) (w' : World) : Prop where
  le : E.le E'
  rel : HRel E' F' w'
  os : w'.os = w.os
  tape : w'.tape = w.tape
  output : w'.output = w.output
  size : w.heap.size ≤ w'.heap.size
  keep : ∀ k, k < w.heap.size → (∀ n b i, F n = some b → b.own = true → E n = some i → i.z = false → i.b ≠ k) → w'.heap[k]? = w.heap[k]?
  own : ∀ n b i, F' n = some b → b.own = true → E' n = some i → i.z = false →
    w.heap.size ≤ i.b ∨ ∃ m c j, F m = some c ∧ c.own = true ∧ E m = some j ∧ j.z = false ∧ j.b = i.b

theorem StepR.refl {E : Env} {F : SF} {w : World} (h : HRel E F w) : StepR E F w E F w :=
  ⟨Env.le.refl _, h, rfl, rfl, rfl, Nat.le_refl _, fun _ _ _ => rfl, fun n b i hf ho he hn => .inr ⟨n, b, i, hf, ho, he, hn, rfl⟩⟩

theorem StepR.trans {E E' E'' : Env} {F F' F'' : SF} {w w' w'' : World} (h : StepR E F w E' F' w') (k : StepR E' F' w' E'' F'' w'') : StepR E F w E'' F'' w'' where
  le := h.le.trans k.le
  rel := k.rel
  os := k.os.trans h.os
  tape := k.tape.trans h.tape
  output := k.output.trans h.output
  size := Nat.le_trans h.size k.size
  keep := fun b hb hno => by
    have h1 := h.keep b hb hno
    refine (k.keep b (Nat.lt_of_lt_of_le hb h.size) ?_).trans h1
    intro n c i hf ho he hn heq
    rcases h.own n c i hf ho he hn with hge | ⟨m, c', j, hf', ho', he', hn', hbb⟩
    · omega
    · exact hno m c' j hf' ho' he' hn' (hbb.trans heq)
  own := fun n b i hf ho he hn => by
    rcases k.own n b i hf ho he hn with hge | ⟨m, c, j, hf', ho', he', hn', hbb⟩
    · exact .inl (Nat.le_trans h.size hge)
    · rcases h.own m c j hf' ho' he' hn' with hge | ⟨m2, c2, j2, a1, a2, a3, a4, a5⟩
      · exact .inl (by omega)
      · exact .inr ⟨m2, c2, j2, a1, a2, a3, a4, a5.trans hbb⟩

/-- Frozen blocks stay frozen, and as they are. -/
theorem StepR.ext {E E' : Env} {F F' : SF} {w w' : World} (h : StepR E F w E' F' w') : Ext E w (Zn E F w) E' w' (Zn E' F' w') where
  le := h.le
  zone := fun b ⟨h1, h2⟩ => ⟨Nat.lt_of_lt_of_le h1 h.size, fun n c i hf ho he hn heq => by
    rcases h.own n c i hf ho he hn with hge | ⟨m, c', j, hf', ho', he', hn', hbb⟩
    · omega
    · exact h2 m c' j hf' ho' he' hn' (hbb.trans heq)⟩
  heap := fun b ⟨h1, h2⟩ => h.keep b h1 h2

theorem RowsRel.mono {E E' : Env} {w w' : World} {Z Z' : Nat → Prop} {i : BI} {e : TypeId} {wd : Nat} {own : Bool} {rs : List (List PV)} (hE : Ext E w Z E' w' Z')
    (hw : w'.heap[i.b]? = w.heap[i.b]?) (h : RowsRel E w Z i e wd own rs) : RowsRel E' w' Z' i e wd own rs := by
  obtain ⟨a1, a0, a2, a3, a4, a6, cs, fz, b1, b2, b3, b4⟩ := h
  exact ⟨a1, a0, a2, a3, a4, a6, cs, fz, hw.trans b1, b2, b3, VRr.mono hE _ _ _ b4⟩

theorem Ext.EE {E E' : Env} {w w' : World} {Z Z' : Nat → Prop} (h : Ext E w Z E' w' Z') (p : Bool) : Ext (EE E p) w Z (EE E' p) w' Z' := ⟨EE_le h.le p, h.zone, h.heap⟩

theorem BRel.mono {E E' : Env} {w w' : World} {Z Z' : Nat → Prop} {n : Nm} {b : SBlk} (hE : Ext E w Z E' w' Z') (hw : ∀ i, E n = some i → i.z = false → w'.heap[i.b]? = w.heap[i.b]?)
    (h : BRel E w Z n b) : BRel E' w' Z' n b := by
  cases b with
  | dead => trivial
  | rows e wd own p rs =>
    obtain ⟨i, hi, h⟩ := h
    refine ⟨i, hE.le _ _ hi, h.imp id fun ⟨hn, hr⟩ => ⟨hn, hr.mono (hE.EE p) (hw i hi hn)⟩⟩
  | map own p ks vs =>
    obtain ⟨i, hi, hn, ents, clk, h1, h2, h3⟩ := h
    exact ⟨i, hE.le _ _ hi, hn, ents, clk, (hw i hi hn).trans h1, VRl.mono (hE.EE p) _ _ h2, VRl.mono (hE.EE p) _ _ h3⟩

theorem heap_lt {w : World} {b : Nat} {o : Obj} (h : w.heap[b]? = some o) : b < w.heap.size := by
  rcases Nat.lt_or_ge b w.heap.size with h' | h'
  · exact h'
  · rw [Array.getElem?_eq_none h'] at h; cases h

theorem BRel.lt {E : Env} {w : World} {Z : Nat → Prop} {n : Nm} {b : SBlk} {i : BI} (h : BRel E w Z n b) (hl : b.live = true) (hi : E n = some i) (hn : i.z = false) : i.b < w.heap.size := by
  cases b with
  | dead => cases hl
  | rows e wd own p rs =>
    obtain ⟨j, hj, h⟩ := h
    rw [hi] at hj; injection hj with hj; subst hj
    rcases h with ⟨h, _⟩ | ⟨_, h⟩
    · rw [hn] at h; cases h
    · obtain ⟨cs, fz, hb, _⟩ := h.cells
      exact heap_lt hb
  | map own p ks vs =>
    obtain ⟨j, hj, _, ents, clk, hb, _⟩ := h
    rw [hi] at hj; injection hj with hj; subst hj
    exact heap_lt hb

theorem BRel.def_ {E : Env} {w : World} {Z : Nat → Prop} {n : Nm} {b : SBlk} (h : BRel E w Z n b) (hl : b.live = true) : ∃ i, E n = some i := by
  cases b with
  | dead => cases hl
  | rows e wd own p rs => obtain ⟨i, hi, _⟩ := h; exact ⟨i, hi⟩
  | map own p ks vs => obtain ⟨i, hi, _⟩ := h; exact ⟨i, hi⟩

theorem Zn.drew {E : Env} {F : SF} {w : World} {b d : Nat} : Zn E F { w with drawn := d } b ↔ Zn E F w b := Iff.rfl

theorem StepR.drew {E E' : Env} {F F' : SF} {w w' : World} (h : StepR E F w E' F' w') : StepR E F w E' F' { w' with drawn := w'.drawn + 1 } :=
  ⟨h.le, ⟨fun n b hf => BRel.mono (w := w') (Z := Zn E' F' w') ⟨Env.le.refl _, fun _ h => h, fun _ _ => rfl⟩ (fun _ _ _ => rfl) (h.rel.blk n b hf), h.rel.sep⟩, h.os, h.tape, h.output, h.size, h.keep, h.own⟩

def Env.set (E : Env) (n : Nm) (i : BI) : Env := fun k => if k = n then some i else E k
theorem Env.set_le {E : Env} {n : Nm} {i : BI} (h : E n = none) : E.le (E.set n i) := by
  intro k j hk
  unfold Env.set
  split
  · rename_i hkn; subst hkn; rw [h] at hk; cases hk
  · exact hk
theorem Env.set_self (E : Env) (n : Nm) (i : BI) : E.set n i n = some i := by simp [Env.set]
theorem Env.set_ne (E : Env) {n k : Nm} (i : BI) (h : k ≠ n) : E.set n i k = E k := by simp [Env.set, h]

/-- A general step: one name gets a new block (in memory that was made or owned before), some names die. -/
structure NewAt (E : Env) (F : SF) (w : World) (E' : Env) (F' : SF) (w' : World) : Prop where
  le : E.le E'
  os : w'.os = w.os
  tape : w'.tape = w.tape
  output : w'.output = w.output
  size : w.heap.size ≤ w'.heap.size
  keep : ∀ k, k < w.heap.size → (∀ n b i, F n = some b → b.own = true → E n = some i → i.z = false → i.b ≠ k) → w'.heap[k]? = w.heap[k]?
  own : ∀ n b i, F' n = some b → b.own = true → E' n = some i → i.z = false →
    w.heap.size ≤ i.b ∨ ∃ m c j, F m = some c ∧ c.own = true ∧ E m = some j ∧ j.z = false ∧ j.b = i.b

theorem NewAt.ext {E E' : Env} {F F' : SF} {w w' : World} (h : NewAt E F w E' F' w') : Ext E w (Zn E F w) E' w' (Zn E' F' w') where
  le := h.le
  zone := fun b ⟨h1, h2⟩ => ⟨Nat.lt_of_lt_of_le h1 h.size, fun n c i hf ho he hn heq => by
    rcases h.own n c i hf ho he hn with hge | ⟨m, c', j, hf', ho', he', hn', hbb⟩
    · omega
    · exact h2 m c' j hf' ho' he' hn' (hbb.trans heq)⟩
  heap := fun b ⟨h1, h2⟩ => h.keep b h1 h2
theorem NewAt.step {E E' : Env} {F F' : SF} {w w' : World} (h : NewAt E F w E' F' w') (hr : HRel E' F' w') : StepR E F w E' F' w' :=
  ⟨h.le, hr, h.os, h.tape, h.output, h.size, h.keep, h.own⟩

/-- A new block at a new name. -/
theorem StepR.new {E : Env} {F : SF} {w : World} (h : HRel E F w) {nx : Nm} (hE : E nx = none) (o : Obj) (i : BI) (b : SBlk) (hib : i.b = w.heap.size)
    (hb : ∀ Z' : Nat → Prop, (∀ k, Zn E F w k → Z' k) → BRel (E.set nx i) (w.alloc o) Z' nx b) : StepR E F w (E.set nx i) (F.set nx b) (w.alloc o) := by
  have hle := Env.set_le (i := i) hE
  have hkeep : ∀ k, k < w.heap.size → (w.alloc o).heap[k]? = w.heap[k]? := fun k hk => RowKit.Below.heap_alloc w o k hk
  have hold : ∀ n c j, F n = some c → c.live = true → E n = some j → j.z = false → j.b < w.heap.size := fun n c j hf hl hj hn => (h.blk n c hf).lt hl hj hn
  have hN : NewAt E F w (E.set nx i) (F.set nx b) (w.alloc o) := by
    refine ⟨hle, rfl, rfl, rfl, by simp, fun k hk _ => hkeep k hk, ?_⟩
    intro n c j hf ho hj hjn
    unfold SF.set at hf
    by_cases hn : n = nx
    · subst hn
      rw [Env.set_self] at hj; injection hj with hj; subst hj
      exact .inl (by omega)
    · rw [if_neg hn] at hf
      rw [Env.set_ne E _ hn] at hj
      exact .inr ⟨n, c, j, hf, ho, hj, hjn, rfl⟩
  refine hN.step ⟨?_, ?_⟩
  · intro n c hf
    unfold SF.set at hf
    split at hf
    · rename_i hn; subst hn; injection hf with hf; subst hf; exact hb _ hN.ext.zone
    · rename_i hn
      by_cases hl : c.live = true
      rotate_left
      · cases c <;> first | trivial | simp [SBlk.live] at hl
      refine (h.blk n c hf).mono hN.ext fun j hj hjn => ?_
      exact hkeep _ (hold n c j hf hl hj hjn)
  · intro n m c d j k hf hg hnm ho hl hj hk hjn hkn
    unfold SF.set at hf hg
    by_cases hn : n = nx
    · subst hn
      rw [Env.set_self] at hj; injection hj with hj; subst hj
      rw [if_neg (fun e => hnm e.symm)] at hg
      rw [Env.set_ne E _ (fun e => hnm e.symm)] at hk
      have := hold m d k hg hl hk hkn
      omega
    · rw [if_neg hn] at hf
      rw [Env.set_ne E _ hn] at hj
      have h1 := hold n c j hf (live_of_own ho) hj hjn
      by_cases hm : m = nx
      · subst hm
        rw [Env.set_self] at hk; injection hk with hk; subst hk
        omega
      · rw [if_neg hm] at hg
        rw [Env.set_ne E _ hm] at hk
        exact h.sep n m c d j k hf hg hnm ho hl hj hk hjn hkn

end Go.Tx
end

section
set_option linter.unusedSimpArgs false
set_option linter.unusedVariables false
set_option linter.unnecessarySimpa false
set_option linter.unusedSectionVars false
namespace Go.Tx

/-! ### A block that holds no data is turned (the record of a loop, the block of deferred calls) -/
def NoData (w : World) (D : Nat) : Prop := ∀ o, w.heap[D]? = some o → (∀ cs e fz, o ≠ .cells cs e fz) ∧ (∀ ents clk, o ≠ .map ents clk)
structure Turn (D : Nat) (w w' : World) : Prop where
  os : w'.os = w.os
  tape : w'.tape = w.tape
  output : w'.output = w.output
  size : w'.heap.size = w.heap.size
  keep : ∀ k, k ≠ D → w'.heap[k]? = w.heap[k]?

mutual
theorem VR.avoid {w : World} {Z : Nat → Prop} {D : Nat} (hD : NoData w D) : ∀ {E : Env} (x : PV) (v : Value), VR w Z E x v → VR w (fun k => Z k ∧ k ≠ D) E x v
  | E, .bool _, v, hv => by simpa [VR] using hv
  | E, .int _ _, v, hv => by simpa [VR] using hv
  | E, .str _, v, hv => by simpa [VR] using hv
  | E, .nilP, v, hv => by simpa [VR] using hv
  | E, .nilS, v, hv => by simpa [VR] using hv
  | E, .nilM, v, hv => by simpa [VR] using hv
  | E, .nilF, v, hv => by simpa [VR] using hv
  | E, .nilI, v, hv => by simpa [VR] using hv
  | E, .ptr n r c, v, hv => by simpa only [VR] using hv
  | E, .sl n r l, v, hv => by simpa only [VR] using hv
  | E, .mp n, v, hv => by simpa only [VR] using hv
  | E, .fp wd rs r c, v, hv => by
    simp only [VR] at hv ⊢
    obtain ⟨b, o, cs, e, fz, h1, h2, h3, h4, h5, h6⟩ := hv
    exact ⟨b, o, cs, e, fz, h1, ⟨h2, fun he => (hD _ (he ▸ h3)).1 _ _ _ rfl⟩, h3, h4, h5, VRr.avoid hD rs o cs h6⟩
  | E, .fs wd rs, v, hv => by
    simp only [VR] at hv ⊢
    obtain ⟨a, cap, h1, h2, h2b, h3, h4, h5⟩ := hv
    refine ⟨a, cap, h1, h2, h2b, h3, h4, h5.imp id ?_⟩
    rintro ⟨b, o, cs, e, fz, q1, q2, q3, q4⟩
    exact ⟨b, o, cs, e, fz, q1, ⟨q2, fun he => (hD _ (he ▸ q3)).1 _ _ _ rfl⟩, q3, VRr.avoid hD rs o cs q4⟩
  | E, .fm ks vs, v, hv => by
    simp only [VR] at hv ⊢
    obtain ⟨r, ents, clk, h1, h2, h3, h4, h5⟩ := hv
    exact ⟨r, ents, clk, h1, ⟨h2, fun he => (hD _ (he ▸ h3)).2 _ _ rfl⟩, h3, VRl.avoid hD ks _ h4, VRl.avoid hD vs _ h5⟩
  | E, .fn f x y, v, hv => by
    simp only [VR] at hv ⊢
    obtain ⟨x', y', h1, h2, h3⟩ := hv
    exact ⟨x', y', h1, VRl.avoid hD x _ h2, VRl.avoid hD y _ h3⟩
  | E, .ifc t u, v, hv => by
    simp only [VR] at hv ⊢
    obtain ⟨u', h1, h2⟩ := hv
    exact ⟨u', h1, VR.avoid hD u _ h2⟩
  | E, .agg l, v, hv => by
    simp only [VR] at hv ⊢
    obtain ⟨l', h1, h2, h3⟩ := hv
    exact ⟨l', h1, h2, VRl.avoid hD l _ h3⟩
  | E, .tup l, v, hv => by
    simp only [VR] at hv ⊢
    obtain ⟨l', h1, h3⟩ := hv
    exact ⟨l', h1, VRl.avoid hD l _ h3⟩
theorem VRl.avoid {w : World} {Z : Nat → Prop} {D : Nat} (hD : NoData w D) : ∀ {E : Env} (l : List PV) (l' : List Value), VRl w Z E l l' → VRl w (fun k => Z k ∧ k ≠ D) E l l'
  | E, [], l', hv => by simpa [VRl] using hv
  | E, x :: l, l', hv => by
    simp only [VRl] at hv ⊢
    obtain ⟨v, t, h1, h2, h3⟩ := hv
    exact ⟨v, t, h1, VR.avoid hD x v h2, VRl.avoid hD l t h3⟩
theorem VRc.avoid {w : World} {Z : Nat → Prop} {D : Nat} (hD : NoData w D) : ∀ {E : Env} (l : List PV) (o : Nat) (cs : Array Value), VRc w Z E l o cs → VRc w (fun k => Z k ∧ k ≠ D) E l o cs
  | E, [], o, cs, hv => by simp [VRc]
  | E, x :: l, o, cs, hv => by
    simp only [VRc] at hv ⊢
    obtain ⟨⟨v, h1, h2, h3⟩, h4⟩ := hv
    exact ⟨⟨v, h1, h2, VR.avoid hD x v h3⟩, VRc.avoid hD l _ _ h4⟩
theorem VRr.avoid {w : World} {Z : Nat → Prop} {D : Nat} (hD : NoData w D) : ∀ {E : Env} (rs : List (List PV)) (o : Nat) (cs : Array Value), VRr w Z E rs o cs → VRr w (fun k => Z k ∧ k ≠ D) E rs o cs
  | E, [], o, cs, hv => by simp [VRr]
  | E, row :: rs, o, cs, hv => by
    simp only [VRr] at hv ⊢
    exact ⟨VRc.avoid hD row _ _ hv.1, VRr.avoid hD rs _ _ hv.2⟩
end

section
variable {E : Env} {F : SF} {w w' : World} {D : Nat}
theorem Turn.ext (ht : Turn D w w') : Ext E w (fun k => Zn E F w k ∧ k ≠ D) E w' (Zn E F w') :=
  ⟨Env.le.refl _, fun b h => ⟨by rw [ht.size]; exact h.1.1, h.1.2⟩, fun b h => ht.keep b h.2⟩
theorem VR.turn (hD : NoData w D) (ht : Turn D w w') {x : PV} {v : Value} (h : VR w (Zn E F w) E x v) : VR w' (Zn E F w') E x v := VR.mono ht.ext _ _ (VR.avoid hD _ _ h)
theorem VRl.turn (hD : NoData w D) (ht : Turn D w w') {x : List PV} {v : List Value} (h : VRl w (Zn E F w) E x v) : VRl w' (Zn E F w') E x v := VRl.mono ht.ext _ _ (VRl.avoid hD _ _ h)
theorem HRel.turn (h : HRel E F w) (hD : NoData w D) (ht : Turn D w w') : HRel E F w' := by
  refine ⟨fun n b hn => ?_, h.sep⟩
  have h0 := h.blk n b hn
  cases b with
  | dead => trivial
  | rows e wd own p rs =>
    obtain ⟨i, hi, h1⟩ := h0
    refine ⟨i, hi, h1.imp id fun ⟨hz, hr⟩ => ⟨hz, ?_⟩⟩
    obtain ⟨a1, a0, a2, a3, a4, a6, cs, fz, b1, b2, b3, b4⟩ := hr
    have hne : i.b ≠ D := fun he => (hD _ (he ▸ b1)).1 _ _ _ rfl
    exact ⟨a1, a0, a2, a3, a4, a6, cs, fz, (ht.keep _ hne).trans b1, b2, b3, VRr.mono (ht.ext.EE p) _ _ _ (VRr.avoid hD _ _ _ b4)⟩
  | map own p ks vs =>
    obtain ⟨i, hi, hn, ents, clk, h1, h2, h3⟩ := h0
    have hne : i.b ≠ D := fun he => (hD _ (he ▸ h1)).2 _ _ rfl
    exact ⟨i, hi, hn, ents, clk, (ht.keep _ hne).trans h1, VRl.mono (ht.ext.EE p) _ _ (VRl.avoid hD _ _ h2), VRl.mono (ht.ext.EE p) _ _ (VRl.avoid hD _ _ h3)⟩
theorem StepR.turn {E0 : Env} {F0 : SF} {w0 : World} (h : StepR E0 F0 w0 E F w) (hD : NoData w D) (ht : Turn D w w') (hn : w0.heap.size ≤ D) : StepR E0 F0 w0 E F w' where
  le := h.le
  rel := h.rel.turn hD ht
  os := ht.os.trans h.os
  tape := ht.tape.trans h.tape
  output := ht.output.trans h.output
  size := by rw [ht.size]; exact h.size
  keep := fun b hb hno => (ht.keep b (by omega)).trans (h.keep b hb hno)
  own := h.own
/-- A block without data is owned by no name. -/
theorem HRel.unowned (h : HRel E F w) (hD : NoData w D) : ∀ n c i, F n = some c → c.own = true → E n = some i → i.z = false → i.b ≠ D := by
  intro n c i hf ho he hz hb
  have h0 := h.blk n c hf
  cases c with
  | dead => cases ho
  | rows e wd own p rs =>
    obtain ⟨j, hj, h1⟩ := h0
    rw [he] at hj; injection hj with hj; subst hj
    rcases h1 with ⟨h1, _⟩ | ⟨_, h1⟩
    · rw [hz] at h1; cases h1
    · obtain ⟨cs, fz, b1, _⟩ := h1.cells
      exact (hD _ (hb ▸ b1)).1 _ _ _ rfl
  | map own p ks vs =>
    obtain ⟨j, hj, _, ents, clk, h1, _⟩ := h0
    rw [he] at hj; injection hj with hj; subst hj
    exact (hD _ (hb ▸ h1)).2 _ _ rfl
theorem HRel.inZone (h : HRel E F w) (hD : NoData w D) (hlt : D < w.heap.size) : Zn E F w D := ⟨hlt, h.unowned hD⟩
theorem noData_loop {r : Loop} (h : w.heap[D]? = some (.loop r)) : NoData w D := fun o ho => by
  rw [h] at ho; injection ho with ho; subst ho; exact ⟨fun _ _ _ h => (nomatch h), fun _ _ h => (nomatch h)⟩
theorem noData_deferred {ds : Option (List Deferred)} (h : w.heap[D]? = some (.deferred ds)) : NoData w D := fun o ho => by
  rw [h] at ho; injection ho with ho; subst ho; exact ⟨fun _ _ _ h => (nomatch h), fun _ _ h => (nomatch h)⟩
theorem turn_put (w : World) (D : Nat) (o : Obj) : Turn D w (w.putObj D o) := by
  refine ⟨rfl, rfl, rfl, by simp [World.putObj], fun k hk => ?_⟩
  simp only [World.putObj]
  rw [Array.getElem?_setIfInBounds_ne (by omega)]
/-- Both worlds of a step are turned, in the same way. -/
theorem StepR.turn2 {E' : Env} {F' : SF} {v v' : World} (h : StepR E F w E' F' w') (hD' : NoData w' D) (t : Turn D w v) (t' : Turn D w' v') (he : v'.heap[D]? = v.heap[D]?) : StepR E F v E' F' v' where
  le := h.le
  rel := h.rel.turn hD' t'
  os := (t'.os.trans h.os).trans t.os.symm
  tape := (t'.tape.trans h.tape).trans t.tape.symm
  output := (t'.output.trans h.output).trans t.output.symm
  size := by rw [t.size, t'.size]; exact h.size
  keep := fun b hb hno => by
    by_cases hD : b = D
    · subst hD; exact he
    · rw [t'.keep b hD, t.keep b hD]
      exact h.keep b (by rw [← t.size]; exact hb) hno
  own := fun n b i hf ho hi hz => by rw [t.size]; exact h.own n b i hf ho hi hz
/-- A block of no name is laid. -/
theorem StepR.alloc (h : HRel E F w) (o : Obj) : StepR E F w E F (w.alloc o) := by
  have hk : ∀ k, k < w.heap.size → (w.alloc o).heap[k]? = w.heap[k]? := fun k hk => Go.RowKit.Below.heap_alloc w o k hk
  have hX : Ext E w (Zn E F w) E (w.alloc o) (Zn E F (w.alloc o)) := ⟨Env.le.refl _, fun b hb => ⟨by rw [World.size_alloc]; exact Nat.lt_succ_of_lt hb.1, hb.2⟩, fun b hb => hk b hb.1⟩
  refine ⟨Env.le.refl _, ⟨fun n b hn => ?_, h.sep⟩, rfl, rfl, rfl, by rw [World.size_alloc]; omega, fun k h1 _ => hk k h1, fun n b i hf ho he hn => .inr ⟨n, b, i, hf, ho, he, hn, rfl⟩⟩
  have h0 := h.blk n b hn
  by_cases hl : b.live = true
  · exact h0.mono hX fun i hi hz => hk _ (h0.lt hl hi hz)
  · cases b <;> first | trivial | exact absurd rfl hl
end
end Go.Tx
end

section
set_option linter.unusedSimpArgs false
set_option linter.unusedVariables false
set_option linter.unnecessarySimpa false
set_option linter.unusedSectionVars false
namespace Go.Tx
open Go.Sx (setA setA_size setA_get heap_setCells heap_setCells_ne size_setCells os_setCells addr_add rows_index lt_of_get getD_of_lt)

/-! ### no names -/
mutual
def nf : PV → Bool
  | .ptr _ _ _ => false
  | .sl _ _ _ => false
  | .mp _ => false
  | .fn _ x y => nfl x && nfl y
  | .ifc _ v => nf v
  | .agg l => nfl l
  | .tup l => nfl l
  | _ => true
def nfl : List PV → Bool
  | [] => true
  | v :: l => nf v && nfl l
end
mutual
theorem VR.nf {w : World} {Z : Nat → Prop} {E E' : Env} : ∀ (x : PV) (v : Value), Tx.nf x = true → VR w Z E x v → VR w Z E' x v
  | .bool _, v, _, hv => by simpa [VR] using hv
  | .int _ _, v, _, hv => by simpa [VR] using hv
  | .str _, v, _, hv => by simpa [VR] using hv
  | .nilP, v, _, hv => by simpa [VR] using hv
  | .nilS, v, _, hv => by simpa [VR] using hv
  | .nilM, v, _, hv => by simpa [VR] using hv
  | .nilF, v, _, hv => by simpa [VR] using hv
  | .nilI, v, _, hv => by simpa [VR] using hv
  | .ptr _ _ _, v, h, _ => by simp [Tx.nf] at h
  | .sl _ _ _, v, h, _ => by simp [Tx.nf] at h
  | .mp _, v, h, _ => by simp [Tx.nf] at h
  | .fp _ _ _ _, v, _, hv => by simp only [VR] at hv ⊢; exact hv
  | .fs _ _, v, _, hv => by simp only [VR] at hv ⊢; exact hv
  | .fm _ _, v, _, hv => by simp only [VR] at hv ⊢; exact hv
  | .fn f x y, v, h, hv => by
    simp only [Tx.nf, Bool.and_eq_true] at h
    simp only [VR] at hv ⊢
    obtain ⟨x', y', h1, h2, h3⟩ := hv
    exact ⟨x', y', h1, VRl.nf x _ h.1 h2, VRl.nf y _ h.2 h3⟩
  | .ifc t u, v, h, hv => by
    simp only [Tx.nf] at h
    simp only [VR] at hv ⊢
    obtain ⟨u', h1, h2⟩ := hv
    exact ⟨u', h1, VR.nf u _ h h2⟩
  | .agg l, v, h, hv => by
    simp only [Tx.nf] at h
    simp only [VR] at hv ⊢
    obtain ⟨l', h1, h2, h3⟩ := hv
    exact ⟨l', h1, h2, VRl.nf l _ h h3⟩
  | .tup l, v, h, hv => by
    simp only [Tx.nf] at h
    simp only [VR] at hv ⊢
    obtain ⟨l', h1, h3⟩ := hv
    exact ⟨l', h1, VRl.nf l _ h h3⟩
theorem VRl.nf {w : World} {Z : Nat → Prop} {E E' : Env} : ∀ (x : List PV) (v : List Value), Tx.nfl x = true → VRl w Z E x v → VRl w Z E' x v
  | [], v, _, hv => by simpa [VRl] using hv
  | x :: l, v, h, hv => by
    simp only [nfl, Bool.and_eq_true] at h
    simp only [VRl] at hv ⊢
    obtain ⟨u, t, h1, h2, h3⟩ := hv
    exact ⟨u, t, h1, VR.nf x u h.1 h2, VRl.nf l t h.2 h3⟩
end

theorem VRl.toEE {w : World} {Z : Nat → Prop} {E : Env} {p : Bool} {x : List PV} {v : List Value} (hp : p = true → nfl x = true) (h : VRl w Z E x v) : VRl w Z (EE E p) x v := by
  cases p with
  | false => exact h
  | true => exact VRl.nf x v (hp rfl) h
theorem VR.up {w : World} {Z : Nat → Prop} {E : Env} {p : Bool} {x : PV} {v : Value} (h : VR w Z (EE E p) x v) : VR w Z E x v :=
  VR.mono ⟨EE_sub E p, fun _ h => h, fun _ _ => rfl⟩ x v h
theorem VRl.up {w : World} {Z : Nat → Prop} {E : Env} {p : Bool} {x : List PV} {v : List Value} (h : VRl w Z (EE E p) x v) : VRl w Z E x v :=
  VRl.mono ⟨EE_sub E p, fun _ h => h, fun _ _ => rfl⟩ x v h

/-! ### a row of a block -/
theorem load_rows {E : Env} {w : World} {Z : Nat → Prop} {b o e wd : Nat} {cs : Array Value} {fz : Nat × Nat} {rs : List (List PV)} (P : Program) (hb : w.heap[b]? = some (.cells cs e fz))
    (hl : ∀ row ∈ rs, row.length = wd) (hv : VRr w Z E rs o cs) {r c k : Nat} {row : List PV} (hr : rs[r]? = some row) (hk : c + k ≤ wd) :
    ∃ vs : List Value, VRl w Z E ((row.drop c).take k) vs ∧ vs.length = k ∧ (∀ v ∈ vs, v.oneCell' = true) ∧ (∀ j v, vs[j]? = some v → w.cell? ⟨b, o + (r * wd + c) + j, none⟩ = some v) ∧ (loadCells ⟨b, o + (r * wd + c), none⟩ k).run P w = .ok vs.toArray w := by
  have hlen : row.length = wd := hl row (List.mem_of_getElem? hr)
  have hcell := (VRr_iff hl).1 hv
  -- the cells that lie there
  let vs : List Value := (List.range k).map fun j => (cs[o + (r * wd + (c + j))]?).getD .nilFunc
  have hvs : ∀ j, j < k → ∃ v, vs[j]? = some v ∧ cs[o + (r * wd + (c + j))]? = some v ∧ v.oneCell' = true ∧ VR w Z E (row.getD (c + j) .nilI) v := by
    intro j hj
    obtain ⟨v, a1, a2, a3⟩ := hcell r row (c + j) (row.getD (c + j) .nilI) hr (getD_of_lt _ (by omega))
    exact ⟨v, by simp [vs, hj, a1], a1, a2, a3⟩
  have hlv : vs.length = k := by simp [vs]
  have hget : ∀ j v, vs[j]? = some v → v.oneCell' = true ∧ w.cell? ⟨b, o + (r * wd + c) + j, none⟩ = some v := by
    intro j v hj
    have hjk : j < k := by have := lt_of_get hj; omega
    obtain ⟨v', a1, a2, a3, _⟩ := hvs j hjk
    rw [hj] at a1; injection a1 with a1; subst a1
    exact ⟨a3, by simp [World.cell?, hb, show o + (r * wd + c) + j = o + (r * wd + (c + j)) by omega, a2]⟩
  refine ⟨vs, ?_, hlv, fun v hv => ?_, fun j v hj => (hget j v hj).2, ?_⟩
  · refine VRl.of (by simp [hlv]; omega) fun j x v hx hv => ?_
    have hj : j < k := by have := lt_of_get hv; omega
    obtain ⟨v', a1, _, _, a4⟩ := hvs j hj
    rw [hv] at a1; injection a1 with a1; subst a1
    rw [List.getElem?_take, if_pos hj, List.getElem?_drop] at hx
    have : row.getD (c + j) .nilI = x := by simp [List.getD_eq_getElem?_getD, hx]
    rw [← this]; exact a4
  · obtain ⟨j, hj⟩ := List.getElem?_of_mem hv
    exact (hget j v hj).1
  · rw [← hlv]
    refine run_loadCells_list w _ vs fun j v hv => ?_
    rw [addr_add]
    exact (hget j v hv).2

def putAt (row : List PV) (c : Nat) (vs : List PV) : List PV := row.take c ++ vs ++ row.drop (c + vs.length)
theorem putAt_length (row : List PV) (c : Nat) (vs : List PV) (h : c + vs.length ≤ row.length) : (putAt row c vs).length = row.length := by
  simp [putAt]; omega
theorem putAt_get (row : List PV) (c : Nat) (vs : List PV) (h : c + vs.length ≤ row.length) (j : Nat) :
    (putAt row c vs)[j]? = if c ≤ j ∧ j < c + vs.length then vs[j - c]? else row[j]? := by
  unfold putAt
  have hl : (row.take c).length = c := by simp; omega
  by_cases h1 : j < c
  · rw [if_neg (by omega), List.append_assoc, List.getElem?_append_left (by omega), List.getElem?_take]
    simp [h1]
  · by_cases h2 : j < c + vs.length
    · rw [if_pos (by omega), List.append_assoc, List.getElem?_append_right (by omega), hl, List.getElem?_append_left (by omega)]
    · rw [if_neg (by omega), List.getElem?_append_right (by simp; omega), List.getElem?_drop]
      congr 1
      simp
      omega

/-- Cells of one row are changed: the rows. -/
theorem VRr.put {E : Env} {w : World} {Z : Nat → Prop} {wd o : Nat} {cs : Array Value} {rs : List (List PV)} (hl : ∀ row ∈ rs, row.length = wd) (hv : VRr w Z E rs o cs) {r c : Nat} {row vs : List PV} {vs' : List Value}
    (hr : rs[r]? = some row) (hc : c + vs.length ≤ wd) (hvs : VRl w Z E vs vs') (h1 : ∀ v ∈ vs', v.oneCell' = true) (hsz : o + (r * wd + c) + vs.length ≤ cs.size) :
    (∀ row' ∈ rs.set r (putAt row c vs), row'.length = wd) ∧ VRr w Z E (rs.set r (putAt row c vs)) o (setA cs (o + (r * wd + c)) vs') := by
  obtain ⟨hvl, hvg⟩ := VRl.get hvs
  have hrl : r < rs.length := lt_of_get hr
  have hlen : row.length = wd := hl row (List.mem_of_getElem? hr)
  have b4 := (VRr_iff hl).1 hv
  have hl' : ∀ row' ∈ rs.set r (putAt row c vs), row'.length = wd := by
    intro x hx
    rcases List.mem_or_eq_of_mem_set hx with hx | rfl
    · exact hl x hx
    · rw [putAt_length _ _ _ (by omega)]; exact hlen
  refine ⟨hl', (VRr_iff hl').2 ?_⟩
  intro r' row' c' v hr' hc'
  rw [setA_get _ _ _ _ (by omega)]
  have hlen' : row'.length = wd := hl' _ (List.mem_of_getElem? hr')
  have hc'' : c' < wd := by have := lt_of_get hc'; omega
  by_cases hrr : r = r'
  · subst hrr
    rw [List.getElem?_set_self hrl] at hr'
    injection hr' with hr'; subst hr'
    rw [putAt_get _ _ _ (by omega)] at hc'
    by_cases hin : c ≤ c' ∧ c' < c + vs.length
    · rw [if_pos hin] at hc'
      rw [if_pos (by omega)]
      obtain ⟨v', a1, a2⟩ := hvg _ _ hc'
      exact ⟨v', by rw [show o + (r * wd + c') - (o + (r * wd + c)) = c' - c by omega]; exact a1, h1 v' (List.mem_of_getElem? a1), a2⟩
    · rw [if_neg hin] at hc'
      rw [if_neg (by omega)]
      exact b4 r row c' v hr hc'
  · rw [List.getElem?_set_ne hrr] at hr'
    have hout : ¬ (o + (r * wd + c) ≤ o + (r' * wd + c') ∧ o + (r' * wd + c') < o + (r * wd + c) + vs'.length) := by
      rintro ⟨q1, q2⟩
      obtain ⟨x, hx⟩ : ∃ x, r' * wd + c' = r * wd + (c + x) := ⟨r' * wd + c' - (r * wd + c), by omega⟩
      have hx2 : c + x < wd := by omega
      exact hrr (rows_index hc'' hx2 hx).1.symm
    rw [if_neg hout]
    exact b4 r' row' c' v hr' hc'

/-- One named block of one's own is changed in place. -/
theorem StepR.change {E : Env} {F : SF} {w w' : World} (h : HRel E F w) {n : Nm} {bl bl' : SBlk} {i : BI} (hF : F n = some bl) (ho : bl.own = true) (ho' : bl'.own = true) (hi : E n = some i) (hz : i.z = false)
    (hother : ∀ k, k ≠ i.b → w'.heap[k]? = w.heap[k]?) (hsize : w'.heap.size = w.heap.size) (hos : w'.os = w.os) (htape : w'.tape = w.tape) (hout : w'.output = w.output)
    (hb : Ext E w (Zn E F w) E w' (Zn E (F.set n bl') w') → BRel E w' (Zn E (F.set n bl') w') n bl') : StepR E F w E (F.set n bl') w' := by
  have hN : NewAt E F w E (F.set n bl') w' := by
    refine ⟨Env.le.refl _, hos, htape, hout, by omega, fun k hk hno => hother k (fun e => hno n _ i hF ho hi hz e.symm), ?_⟩
    intro m b q hm hb hq hqn
    unfold SF.set at hm
    by_cases hmn : m = n
    · subst hmn
      exact .inr ⟨m, _, q, hF, ho, hq, hqn, rfl⟩
    · rw [if_neg hmn] at hm
      exact .inr ⟨m, b, q, hm, hb, hq, hqn, rfl⟩
  refine hN.step ⟨?_, ?_⟩
  · intro m b hm
    unfold SF.set at hm
    split at hm
    · rename_i hmn; subst hmn; injection hm with hm; subst hm
      exact hb hN.ext
    · rename_i hmn
      by_cases hl : b.live = true
      rotate_left
      · cases b <;> first | trivial | simp [SBlk.live] at hl
      refine (h.blk m b hm).mono hN.ext fun j hj hjn => hother _ ?_
      exact fun e => h.sep n m _ b i j hF hm (fun e => hmn e.symm) ho hl hi hj hz hjn e.symm
  · intro m k b d a q hm hk hmk hbo hd ha hq han hqn
    clear hb
    unfold SF.set at hm hk
    by_cases hmn : m = n
    · subst hmn
      rw [if_neg (fun e => hmk e.symm)] at hk
      exact h.sep m k _ d a q hF hk hmk ho hd ha hq han hqn
    · rw [if_neg hmn] at hm
      by_cases hkn : k = n
      · subst hkn
        exact h.sep m k b _ a q hm hF hmk hbo (live_of_own ho) ha hq han hqn
      · rw [if_neg hkn] at hk
        exact h.sep m k b d a q hm hk hmk hbo hd ha hq han hqn

/-- A block of one's own is changed for the last time, and let go. -/
theorem StepR.release {E : Env} {F : SF} {w w' : World} (h : HRel E F w) {n : Nm} {bl bl' : SBlk} {i : BI} (hF : F n = some bl) (ho : bl.own = true) (ho' : bl'.own = false) (hi : E n = some i) (hz : i.z = false)
    (hother : ∀ k, k ≠ i.b → w'.heap[k]? = w.heap[k]?) (hsize : w'.heap.size = w.heap.size) (hos : w'.os = w.os) (htape : w'.tape = w.tape) (hout : w'.output = w.output)
    (hb : Ext E w (Zn E F w) E w' (Zn E (F.set n bl') w') → BRel E w' (Zn E (F.set n bl') w') n bl') : StepR E F w E (F.set n bl') w' := by
  have hN : NewAt E F w E (F.set n bl') w' := by
    refine ⟨Env.le.refl _, hos, htape, hout, by omega, fun k hk hno => hother k (fun e => hno n _ i hF ho hi hz e.symm), ?_⟩
    intro m b q hm hb hq hqn
    unfold SF.set at hm
    split at hm
    · injection hm with hm; subst hm; rw [ho'] at hb; cases hb
    · exact .inr ⟨m, b, q, hm, hb, hq, hqn, rfl⟩
  refine hN.step ⟨?_, ?_⟩
  · intro m b hm
    by_cases hmn : m = n
    · subst hmn
      simp only [SF.set, if_true] at hm
      injection hm with hm; subst hm
      exact hb hN.ext
    · simp only [SF.set, if_neg hmn] at hm
      by_cases hl : b.live = true
      · refine (h.blk m b hm).mono hN.ext fun q hq hqn => hother _ fun e => ?_
        exact h.sep n m bl b i q hF hm (fun e => hmn e.symm) ho hl hi hq hz hqn e.symm
      · cases b <;> first | trivial | exact absurd rfl hl
  · intro m k b c p q hm hk hmk hbo hcl hp hq hpn hqn
    simp only [SF.set] at hm hk
    by_cases hmn : m = n
    · rw [if_pos hmn] at hm; injection hm with hm; subst hm; rw [ho'] at hbo; cases hbo
    · rw [if_neg hmn] at hm
      by_cases hkn : k = n
      · subst hkn
        exact h.sep m k b bl p q hm hF hmk hbo (live_of_own ho) hp hq hpn hqn
      · rw [if_neg hkn] at hk
        exact h.sep m k b c p q hm hk hmk hbo hcl hp hq hpn hqn

theorem rowsRel_of {E : Env} {F : SF} {w : World} (h : HRel E F w) {n : Nm} {i : BI} {e : TypeId} {wd : Nat} {own p : Bool} {rs : List (List PV)} (hF : F n = some (.rows e wd own p rs))
    (hi : E n = some i) (hn : i.z = false) : RowsRel (EE E p) w (Zn E F w) i e wd own rs := by
  obtain ⟨j, hj, hor⟩ := h.blk n _ hF
  rw [hi] at hj; injection hj with hj; subst hj
  rcases hor with ⟨q, _⟩ | ⟨_, q⟩
  · rw [hn] at q; cases q
  · exact q

/-- Storing cells into one row of a block of one's own. -/
theorem StepR.store {E : Env} {F : SF} {w : World} (P : Program) (h : HRel E F w) {n : Nm} {e : TypeId} {wd : Nat} {p p' : Bool} {rs : List (List PV)} {i : BI}
    (hF : F n = some (.rows e wd true p rs)) (hi : E n = some i) (hz : i.z = false) {r c : Nat} {row vs : List PV} {vs' : List Value} (hr : rs[r]? = some row) (hc : c + vs.length ≤ wd)
    (hvs : VRl w (Zn E F w) E vs vs') (hp : p' = true → p = true ∧ nfl vs = true) (h1 : ∀ v ∈ vs', v.oneCell' = true) :
    ∃ w', (storeCells ⟨i.b, i.o + (r * wd + c), none⟩ vs').run P w = .ok () w' ∧ StepR E F w E (F.set n (.rows e wd true p' (rs.set r (putAt row c vs)))) w' := by
  have hR := rowsRel_of h hF hi hz
  obtain ⟨hvl, hvg⟩ := VRl.get hvs
  obtain ⟨cs, fz, b1, b2, b3, b4⟩ := hR.cells
  have hrl : r < rs.length := lt_of_get hr
  have hlen : row.length = wd := hR.len row (List.mem_of_getElem? hr)
  have hrn : (r + 1) * wd ≤ i.n * wd := Nat.mul_le_mul_right _ (by have := hR.le; omega)
  have hexp : (r + 1) * wd = r * wd + wd := Nat.succ_mul r wd
  have hrun := run_storeCells_cells (P := P) i.b (i.o + (r * wd + c)) vs' 0 w
    (fun j hj => by
      simp only [World.cell?, b1, Option.isSome_none, Bool.false_eq_true, if_false]
      rw [Array.getElem?_eq_getElem (by omega)]; rfl)
    (fun j hj => by
      have := b3 rfl (i.o + (r * wd + c) + 0 + j) (by omega) (by omega)
      simp only [World.frozen?, b1]
      simpa using this) h1
  have hheap := heap_setCells i.b e fz vs' (i.o + (r * wd + c) + 0) cs w b1
  have hother := fun k (hk : k ≠ i.b) => heap_setCells_ne i.b k hk vs' (i.o + (r * wd + c) + 0) w
  have hsize := size_setCells i.b vs' (i.o + (r * wd + c) + 0) w
  obtain ⟨hos, htape, hout⟩ := os_setCells i.b vs' (i.o + (r * wd + c) + 0) w
  generalize w.setCells i.b (i.o + (r * wd + c) + 0) vs' = w' at *
  refine ⟨w', hrun, StepR.change h hF rfl rfl hi hz hother hsize hos htape hout fun hX => ?_⟩
  -- the old rows, in the new purity
  have hE' : Ext (EE E p) w (Zn E F w) (EE E p') w' (Zn E (F.set n (.rows e wd true p' (rs.set r (putAt row c vs)))) w') := by
    refine ⟨?_, hX.zone, hX.heap⟩
    cases p' with
    | true => rw [(hp rfl).1]; exact Env.le.refl _
    | false => exact EE_sub E p
  have hold := VRr.mono hE' _ _ _ b4
  have hnew : VRl w' (Zn E (F.set n (.rows e wd true p' (rs.set r (putAt row c vs)))) w') (EE E p') vs vs' := VRl.toEE (fun hh => (hp hh).2) (VRl.mono hX _ _ hvs)
  obtain ⟨c1, c2⟩ := VRr.put hR.len hold hr hc hnew h1 (by omega)
  exact ⟨i, hi, .inr ⟨hz, hR.wd_eq, hR.o0, hR.wd_pos, c1, by simpa using hR.le, hR.cap, _, fz, hheap, by rw [setA_size]; exact b2, b3, c2⟩⟩

end Go.Tx
end

section
set_option linter.unusedSimpArgs false
set_option linter.unusedVariables false
set_option linter.unnecessarySimpa false
set_option linter.unusedSectionVars false
namespace Go.Tx
open Go.Sx (TK tk isAggK cellsOf cellsOf_eq cells_eq run_newVar lt_of_get getD_of_lt)

/-! ### constants -/
mutual
def ofV : Value → Option PV
  | .bool b => some (.bool b)
  | .int k n => some (.int k n)
  | .string ⟨⟨l⟩⟩ => some (.str l)
  | .pointer none => some .nilP
  | .slice none 0 0 => some .nilS
  | .map none => some .nilM
  | .nilFunc => some .nilF
  | .nilIface => some .nilI
  | .agg ⟨l⟩ => if l.all (·.oneCell') then (ofVl l).map .agg else none
  | .tuple ⟨l⟩ => (ofVl l).map .tup
  | .func f ⟨x⟩ ⟨y⟩ => (ofVl x).bind fun x' => (ofVl y).map fun y' => .fn f x' y'
  | .iface t v => (ofV v).map (.ifc t)
  | _ => none
def ofVl : List Value → Option (List PV)
  | [] => some []
  | v :: l => (ofV v).bind fun x => (ofVl l).map fun t => x :: t
end
mutual
theorem ofV_ok {w : World} {Z : Nat → Prop} {E : Env} : ∀ (v : Value) (x : PV), ofV v = some x → VR w Z E x v
  | .bool b, x, h => by simp [ofV] at h; subst h; simp [VR]
  | .int k n, x, h => by simp [ofV] at h; subst h; simp [VR]
  | .string ⟨⟨l⟩⟩, x, h => by simp [ofV] at h; subst h; simp [VR, strV]
  | .pointer none, x, h => by simp [ofV] at h; subst h; simp [VR]
  | .pointer (some _), x, h => by simp [ofV] at h
  | .slice none 0 0, x, h => by simp [ofV] at h; subst h; simp [VR]
  | .slice none 0 (_ + 1), x, h => by simp [ofV] at h
  | .slice none (_ + 1) _, x, h => by simp [ofV] at h
  | .slice (some _) _ _, x, h => by simp [ofV] at h
  | .map none, x, h => by simp [ofV] at h; subst h; simp [VR]
  | .map (some _), x, h => by simp [ofV] at h
  | .nilFunc, x, h => by simp [ofV] at h; subst h; simp [VR]
  | .nilIface, x, h => by simp [ofV] at h; subst h; simp [VR]
  | .chan _, x, h => by simp [ofV] at h
  | .float _ _, x, h => by simp [ofV] at h
  | .complex _ _ _, x, h => by simp [ofV] at h
  | .agg ⟨l⟩, x, h => by
    simp only [ofV] at h
    split at h
    · rename_i h1
      simp only [Option.map_eq_some_iff] at h
      obtain ⟨l', h2, rfl⟩ := h
      simp only [VR]
      exact ⟨l, rfl, by simpa using h1, ofVl_ok l l' h2⟩
    · cases h
  | .tuple ⟨l⟩, x, h => by
    simp only [ofV, Option.map_eq_some_iff] at h
    obtain ⟨l', h2, rfl⟩ := h
    simp only [VR]
    exact ⟨l, rfl, ofVl_ok l l' h2⟩
  | .func f ⟨a⟩ ⟨b⟩, x, h => by
    simp only [ofV, Option.bind_eq_some_iff, Option.map_eq_some_iff] at h
    obtain ⟨a', h1, b', h2, rfl⟩ := h
    simp only [VR]
    exact ⟨a, b, rfl, ofVl_ok a a' h1, ofVl_ok b b' h2⟩
  | .iface t v, x, h => by
    simp only [ofV, Option.map_eq_some_iff] at h
    obtain ⟨v', h1, rfl⟩ := h
    simp only [VR]
    exact ⟨v, rfl, ofV_ok v v' h1⟩
theorem ofVl_ok {w : World} {Z : Nat → Prop} {E : Env} : ∀ (v : List Value) (x : List PV), ofVl v = some x → VRl w Z E x v
  | [], x, h => by simp [ofVl] at h; subst h; simp [VRl]
  | v :: l, x, h => by
    simp only [ofVl, Option.bind_eq_some_iff, Option.map_eq_some_iff] at h
    obtain ⟨y, h1, t, h2, rfl⟩ := h
    simp only [VRl]
    exact ⟨v, l, rfl, ofV_ok v y h1, ofVl_ok l t h2⟩
end
mutual
theorem ofV_nf : ∀ (v : Value) (x : PV), ofV v = some x → nf x = true
  | .bool b, x, h => by simp [ofV] at h; subst h; rfl
  | .int k n, x, h => by simp [ofV] at h; subst h; rfl
  | .string ⟨⟨l⟩⟩, x, h => by simp [ofV] at h; subst h; rfl
  | .pointer none, x, h => by simp [ofV] at h; subst h; rfl
  | .pointer (some _), x, h => by simp [ofV] at h
  | .slice none 0 0, x, h => by simp [ofV] at h; subst h; rfl
  | .slice none 0 (_ + 1), x, h => by simp [ofV] at h
  | .slice none (_ + 1) _, x, h => by simp [ofV] at h
  | .slice (some _) _ _, x, h => by simp [ofV] at h
  | .map none, x, h => by simp [ofV] at h; subst h; rfl
  | .map (some _), x, h => by simp [ofV] at h
  | .nilFunc, x, h => by simp [ofV] at h; subst h; rfl
  | .nilIface, x, h => by simp [ofV] at h; subst h; rfl
  | .chan _, x, h => by simp [ofV] at h
  | .float _ _, x, h => by simp [ofV] at h
  | .complex _ _ _, x, h => by simp [ofV] at h
  | .agg ⟨l⟩, x, h => by
    simp only [ofV] at h
    split at h
    · simp only [Option.map_eq_some_iff] at h
      obtain ⟨l', h2, rfl⟩ := h
      simpa [nf] using ofVl_nf l l' h2
    · cases h
  | .tuple ⟨l⟩, x, h => by
    simp only [ofV, Option.map_eq_some_iff] at h
    obtain ⟨l', h2, rfl⟩ := h
    simpa [nf] using ofVl_nf l l' h2
  | .func f ⟨a⟩ ⟨b⟩, x, h => by
    simp only [ofV, Option.bind_eq_some_iff, Option.map_eq_some_iff] at h
    obtain ⟨a', h1, b', h2, rfl⟩ := h
    simp [nf, ofVl_nf a a' h1, ofVl_nf b b' h2]
  | .iface t v, x, h => by
    simp only [ofV, Option.map_eq_some_iff] at h
    obtain ⟨v', h1, rfl⟩ := h
    simpa [nf] using ofV_nf v v' h1
theorem ofVl_nf : ∀ (v : List Value) (x : List PV), ofVl v = some x → nfl x = true
  | [], x, h => by simp [ofVl] at h; subst h; rfl
  | v :: l, x, h => by
    simp only [ofVl, Option.bind_eq_some_iff, Option.map_eq_some_iff] at h
    obtain ⟨y, h1, t, h2, rfl⟩ := h
    simp [nfl, ofV_nf v y h1, ofVl_nf l t h2]
end

/-! ### the table of types -/
structure TI where
  k : TK
  zero : List PV
  size : Nat
  bytes : Nat
  eq : Bool := false
  lies : List (Nat × TypeId) := []

structure TOk (P : Program) (t : TypeId) (i : TI) (z : Value) : Prop where
  sx : Sx.TOk P t ⟨i.k, z, i.size, i.bytes, i.eq⟩
  zero : ofVl (cellsOf z) = some i.zero
  li : ∀ x ∈ i.lies, rowAt P (sameLayout P P.depth · x.2) P.depth t 1 x.1 1 = true

abbrev Tys := List (TypeId × TI)
def Tys.get (T : Tys) (t : TypeId) : Option TI :=
  match T with
  | [] => none
  | (u, i) :: l => if u == t then some i else Tys.get l t
def Tys.Ok (P : Program) (T : Tys) : Prop := ∀ t i, T.get t = some i → ∃ z, TOk P t i z

section
variable {P : Program} {t : TypeId} {i : TI} {z : Value}
theorem TOk.run_underlying (h : TOk P t i z) (w : World) : ∃ d, (underlying t).run P w = .ok d w ∧ tk d = i.k := h.sx.run_underlying w
theorem TOk.run_sizeOf (h : TOk P t i z) (w : World) : (sizeOf t).run P w = .ok i.size w := h.sx.run_sizeOf w
theorem TOk.run_zeroValue (h : TOk P t i z) (w : World) : (zeroValue t).run P w = .ok z w := h.sx.run_zeroValue w
theorem TOk.run_isAgg (h : TOk P t i z) (w : World) : (isAgg t).run P w = .ok (isAggK i.k) w := h.sx.run_isAgg w
theorem TOk.one (h : TOk P t i z) : ∀ u ∈ cellsOf z, u.oneCell' = true := by have := h.sx.one; simpa using this
theorem TOk.sz (h : TOk P t i z) : (cellsOf z).length = i.size := h.sx.sz
theorem TOk.vr (h : TOk P t i z) (w : World) (Z : Nat → Prop) (E : Env) : VRl w Z E i.zero (cellsOf z) := ofVl_ok _ _ h.zero
theorem TOk.zsz (h : TOk P t i z) : i.zero.length = i.size := by
  have := (VRl.get (h.vr default (fun _ => True) Env.no)).1
  rw [← this, h.sz]
end

/-! ### what an operation does -/
structure Res where
  vc : Prop
  v : PV
  upd : List (Nm × SBlk)
  rd : List Nm

def mkRes (p : Prop) (v : PV) : Res := { vc := p, v := v, upd := [], rd := [] }

def isAggT (i : TI) : Bool := isAggK i.k
def undefP : PV := .tup []

def semLoadR (i : TI) (wd : Nat) (rs : List (List PV)) (r c : Nat) (rd : List Nm) : Res :=
  if isAggT i then
    { vc := r < rs.length ∧ c + i.size ≤ wd, v := .agg (if c == 0 && i.size == wd then rs.getD r [] else ((rs.getD r []).drop c).take i.size), upd := [], rd := rd }
  else { vc := r < rs.length ∧ c < wd, v := (rs.getD r []).getD c undefP, upd := [], rd := rd }

def semLoad (T : Tys) (F : SF) (t : TypeId) : PV → Option Res
  | .ptr n r c =>
    match T.get t, F n with
    | some i, some (.rows _ wd _ _ rs) => some (semLoadR i wd rs r c [n])
    | _, _ => none
  | .fp wd rs r c =>
    match T.get t with
    | some i => some (semLoadR i wd rs r c [])
    | none => none
  | _ => none

/-- The cells of a value; none for what is no value of a variable. -/
def cellsP : PV → Option (List PV)
  | .agg l => some l
  | .tup _ => none
  | v => some [v]

def semStore (T : Tys) (F : SF) (t : TypeId) (p v : PV) : Option Res :=
  match p with
  | .ptr n r c =>
    match T.get t, F n, cellsP v with
    | some i, some (.rows e wd true p rs), some vs =>
      some { vc := r < rs.length ∧ c + i.size ≤ wd ∧ vs.length = i.size, v := undefP, upd := [(n, .rows e wd true (p && nfl vs) (rs.set r (putAt (rs.getD r []) c vs)))], rd := [n] }
    | _, _, _ => none
  | _ => none

def semAlloc (T : Tys) (nx : Nm) (t : TypeId) : Option Res :=
  match T.get t with
  | some i => if i.size == 0 then none else some { vc := True, v := .ptr nx 0 0, upd := [(nx, .rows t i.size true true [i.zero])], rd := [] }
  | none => none

def semBox (T : Tys) (nx : Nm) (t : TypeId) (v : PV) : Option Res :=
  match T.get t, cellsP v with
  | some i, some vs => if i.size == 0 then none else some { vc := vs.length = i.size, v := .ptr nx 0 0, upd := [(nx, .rows t i.size true (nfl vs) [vs])], rd := [] }
  | _, _ => none

/-! ### soundness -/
def Lands (P : Program) (K : Value → World → Prop) : Result Next → Prop := Sx.Lands P K

/-- New names: from nx on, of its level, thirty-two at most. -/
def FreshIn (E E' : Env) (nx : Nm) : Prop := ∀ k, E k = none → E' k ≠ none → k.l = nx.l ∧ nx.i ≤ k.i ∧ k.i < nx.i + 32
theorem FreshIn.refl (E : Env) (nx : Nm) : FreshIn E E nx := fun _ h h' => absurd h h'
theorem FreshIn.set {E : Env} {nx : Nm} {i : BI} : FreshIn E (E.set nx i) nx := by
  intro q hq hq'
  by_cases h : q = nx
  · subst h; exact ⟨rfl, Nat.le_refl _, by omega⟩
  · rw [Env.set_ne E _ h] at hq'; exact absurd hq hq'

def Gives (E : Env) (F : SF) (nx : Nm) (w : World) (r : Res) (v' : Value) (w' : World) : Prop :=
  ∃ E', VR w' (Zn E' (F.upd r.upd) w') E' r.v v' ∧ StepR E F w E' (F.upd r.upd) w' ∧ FreshIn E E' nx

section
variable {P : Program} {T : Tys} {E : Env} {F : SF} {nx : Nm} {w : World}

theorem Gives.still {r : Res} {v' : Value} (h : HRel E F w) (hu : r.upd = []) (hv : VR w (Zn E F w) E r.v v') : Gives E F nx w r v' w :=
  ⟨E, by rw [hu]; exact hv, by rw [hu]; exact StepR.refl h, FreshIn.refl _ _⟩

theorem VR_undef {Z : Nat → Prop} : VR w Z E undefP undef := by simp only [undefP, VR, VRl]; exact ⟨[], rfl, rfl⟩

theorem sound_loadR {Z : Nat → Prop} {t : TypeId} {ti : TI} {z : Value} (ht : TOk P t ti z) {E1 : Env} {b o e wd : Nat} {cs : Array Value} {fz : Nat × Nat} {rs : List (List PV)} (hb : w.heap[b]? = some (.cells cs e fz))
    (hl : ∀ row ∈ rs, row.length = wd) (hv : VRr w Z E1 rs o cs) {row c : Nat} {rd : List Nm} (hvc : (semLoadR ti wd rs row c rd).vc) :
    ∃ v', (Instr.loadAt t (.pointer (some ⟨b, o + (row * wd + c), none⟩))).run P w = .ok v' w ∧ VR w Z E1 (semLoadR ti wd rs row c rd).v v' := by
  unfold semLoadR at hvc ⊢
  split at hvc
  · rename_i hagg
    rw [if_pos hagg]
    obtain ⟨h1, h2⟩ := hvc
    have hrow := getD_of_lt [] h1
    obtain ⟨vs, a1, a2, a3, _, a4⟩ := load_rows P hb hl hv (c := c) (k := ti.size) hrow h2
    refine ⟨.agg vs.toArray, ?_, ?_⟩
    · simp only [Instr.loadAt, Instr.sureAddr, loadVar, Sem.run_bind, Sem.run_pure, Result.andThen_ok, ht.run_isAgg w]
      simp only [isAggT] at hagg
      simp only [hagg, if_true, Sem.run_bind, Result.andThen_ok, ht.run_sizeOf w]
      rw [a4]; rfl
    · have hl : (if (c == 0 && ti.size == wd) = true then rs.getD row [] else ((rs.getD row []).drop c).take ti.size) = ((rs.getD row []).drop c).take ti.size := by
        split
        · rename_i hc
          simp only [Bool.and_eq_true, beq_iff_eq] at hc
          obtain ⟨rfl, hsz⟩ := hc
          have := hl _ (List.mem_of_getElem? hrow)
          rw [List.drop_zero, List.take_of_length_le (by omega)]
        · rfl
      simp only [hl, VR]
      exact ⟨vs, rfl, a3, a1⟩
  · rename_i hagg
    rw [if_neg hagg]
    obtain ⟨h1, h2⟩ := hvc
    have hrow := getD_of_lt [] h1
    have hlen := hl _ (List.mem_of_getElem? hrow)
    have hcell := getD_of_lt undefP (l := rs.getD row []) (r := c) (by omega)
    obtain ⟨v', b1, b2, b3⟩ := (VRr_iff hl).1 hv _ _ _ _ hrow hcell
    refine ⟨v', ?_, b3⟩
    simp only [Instr.loadAt, Instr.sureAddr, loadVar, Sem.run_bind, Sem.run_pure, Result.andThen_ok, ht.run_isAgg w]
    simp only [isAggT] at hagg
    simp only [hagg, Bool.false_eq_true, if_false]
    simp [World.cell?, hb, b1]

theorem sound_load (hT : T.Ok P) (h : HRel E F w) {t : TypeId} {p : PV} {p' : Value} {r : Res}
    (hs : semLoad T F t p = some r) (hv : r.vc) (hp : VR w (Zn E F w) E p p') : ∃ v', (Instr.loadAt t p').run P w = .ok v' w ∧ Gives E F nx w r v' w := by
  unfold semLoad at hs
  split at hs
  · rename_i n row c
    split at hs
    rotate_left
    · cases hs
    rename_i ti e wd own p rs hti hF
    obtain ⟨z, ht⟩ := hT _ _ hti
    simp only [VR] at hp
    obtain ⟨i, hi, hn, rfl⟩ := hp
    have hR := rowsRel_of h hF hi hn
    injection hs with hs; subst hs
    obtain ⟨cs, fz, b1, b2, b3, b4⟩ := hR.cells
    obtain ⟨v', r1, r2⟩ := sound_loadR ht b1 hR.len b4 hv
    rw [hR.wd_eq]
    refine ⟨v', r1, Gives.still h (by unfold semLoadR; split <;> rfl) (VR.up r2)⟩
  · rename_i wd rs row c
    split at hs
    rotate_left
    · cases hs
    rename_i ti hti
    obtain ⟨z, ht⟩ := hT _ _ hti
    simp only [VR] at hp
    obtain ⟨b, o, cs, e, fz, rfl, h2, h3, h4, h5, h6⟩ := hp
    injection hs with hs; subst hs
    obtain ⟨v', r1, r2⟩ := sound_loadR ht h3 h5 h6 hv
    exact ⟨v', r1, Gives.still h (by unfold semLoadR; split <;> rfl) (VR.mono ⟨Env.no_le _, fun _ h => h, fun _ _ => rfl⟩ _ _ r2)⟩
  · cases hs

/-- The same, and that nothing is changed. -/
theorem sound_load' (hT : T.Ok P) (h : HRel E F w) {t : TypeId} {p : PV} {p' : Value} {r : Res}
    (hs : semLoad T F t p = some r) (hv : r.vc) (hp : VR w (Zn E F w) E p p') : ∃ v', (Instr.loadAt t p').run P w = .ok v' w ∧ VR w (Zn E F w) E r.v v' := by
  unfold semLoad at hs
  split at hs
  · rename_i n row c
    split at hs
    rotate_left
    · cases hs
    rename_i ti e wd own p rs hti hF
    obtain ⟨z, ht⟩ := hT _ _ hti
    simp only [VR] at hp
    obtain ⟨i, hi, hn, rfl⟩ := hp
    have hR := rowsRel_of h hF hi hn
    injection hs with hs; subst hs
    obtain ⟨cs, fz, b1, b2, b3, b4⟩ := hR.cells
    obtain ⟨v', r1, r2⟩ := sound_loadR ht b1 hR.len b4 hv
    rw [hR.wd_eq]
    exact ⟨v', r1, VR.up r2⟩
  · rename_i wd rs row c
    split at hs
    rotate_left
    · cases hs
    rename_i ti hti
    obtain ⟨z, ht⟩ := hT _ _ hti
    simp only [VR] at hp
    obtain ⟨b, o, cs, e, fz, rfl, h2, h3, h4, h5, h6⟩ := hp
    injection hs with hs; subst hs
    obtain ⟨v', r1, r2⟩ := sound_loadR ht h3 h5 h6 hv
    exact ⟨v', r1, VR.mono ⟨Env.no_le _, fun _ h => h, fun _ _ => rfl⟩ _ _ r2⟩
  · cases hs

theorem VR_cells {Z : Nat → Prop} {v : PV} {v' : Value} {vs : List PV} (h : VR w Z E v v') (hc : cellsP v = some vs) :
    VRl w Z E vs (cellsOf v') ∧ ∀ u ∈ cellsOf v', u.oneCell' = true := by
  have simple : ∀ (x : PV) (x' : Value), cellsOf x' = [x'] → x'.oneCell' = true → VR w Z E x x' → VRl w Z E [x] (cellsOf x') ∧ ∀ u ∈ cellsOf x', u.oneCell' = true := by
    intro x x' e2 e3 e4
    rw [e2]
    refine ⟨?_, by simpa using e3⟩
    simp only [VRl]
    exact ⟨x', [], rfl, e4, rfl⟩
  have h0 := h
  cases v <;> simp only [cellsP, Option.some.injEq, reduceCtorEq] at hc <;> (try subst hc) <;> simp only [VR] at h
  case agg l =>
    obtain ⟨l', rfl, h2, h3⟩ := h
    exact ⟨h3, h2⟩
  case ptr => obtain ⟨i, _, _, rfl⟩ := h; exact simple _ _ rfl rfl h0
  case sl =>
    obtain ⟨i, _, h⟩ := h
    rcases h with ⟨_, _, rfl⟩ | ⟨_, rfl⟩ <;> exact simple _ _ rfl rfl h0
  case mp => obtain ⟨i, _, _, rfl⟩ := h; exact simple _ _ rfl rfl h0
  case fp => obtain ⟨_, _, _, _, _, rfl, _⟩ := h; exact simple _ _ rfl rfl h0
  case fs => obtain ⟨_, _, rfl, _⟩ := h; exact simple _ _ rfl rfl h0
  case fm => obtain ⟨_, _, _, rfl, _⟩ := h; exact simple _ _ rfl rfl h0
  case fn => obtain ⟨_, _, rfl, _⟩ := h; exact simple _ _ rfl rfl h0
  case ifc => obtain ⟨_, rfl, _⟩ := h; exact simple _ _ rfl rfl h0
  all_goals (subst h; exact simple _ _ rfl rfl h0)

theorem sound_store (hT : T.Ok P) (h : HRel E F w) {t : TypeId} {p v : PV} {p' v' : Value} {r : Res}
    (hs : semStore T F t p v = some r) (hvc : r.vc) (hp : VR w (Zn E F w) E p p') (hv : VR w (Zn E F w) E v v') : ∃ w', (Instr.storeAt t p' v').run P w = .ok () w' ∧ Gives E F nx w r undef w' := by
  unfold semStore at hs
  split at hs
  rotate_left
  · cases hs
  rename_i n row c
  split at hs
  rotate_left
  · cases hs
  rename_i ti e wd pu rs vs hti hF hcv
  obtain ⟨z, ht⟩ := hT _ _ hti
  simp only [VR] at hp
  obtain ⟨i, hi, hn, rfl⟩ := hp
  have hR := rowsRel_of h hF hi hn
  have hw := hR.wd_eq
  injection hs with hs; subst hs
  obtain ⟨h1, h2, h3⟩ := hvc
  have hrow := getD_of_lt [] h1
  obtain ⟨c1, c2⟩ := VR_cells hv hcv
  have hl : (cellsOf v').length = ti.size := by rw [(VRl.get c1).1, h3]
  obtain ⟨w', r1, r2⟩ := StepR.store (p' := pu && nfl vs) P h hF hi hn hrow (c := c) (by omega) c1 (by simp) c2
  refine ⟨w', ?_, E, VR_undef, r2, FreshIn.refl _ _⟩
  have hsz : v'.cells.size = ti.size := by rw [← Array.length_toList, cellsOf_eq, hl]
  simp only [Instr.storeAt, Instr.sureAddr, storeVar, Sem.run_bind, Sem.run_pure, Result.andThen_ok, ht.run_sizeOf w, hsz, ne_eq, not_true_eq_false, if_false]
  rw [hw, cellsOf_eq, r1]

theorem fresh_rows {t : TypeId} {size : Nat} {vs : List PV} {vs' : List Value} (nx : Nm) (hE : E nx = none) (hl : vs.length = size) (hsz : 0 < size) {p : Bool} (hp : p = true → nfl vs = true) (hv : VRl w (Zn E F w) E vs vs') (h1 : ∀ u ∈ vs', u.oneCell' = true)
    (Z' : Nat → Prop) (hZ : ∀ k, Zn E F w k → Z' k) : BRel (E.set nx ⟨w.heap.size, 0, size, 1, false, none⟩) (w.alloc (.cells vs'.toArray t)) Z' nx (.rows t size true p [vs]) := by
  have hle := Env.set_le (i := ⟨w.heap.size, 0, size, 1, false, none⟩) hE
  obtain ⟨g1, g2⟩ := VRl.get hv
  have hX : Ext E w (Zn E F w) (E.set nx ⟨w.heap.size, 0, size, 1, false, none⟩) (w.alloc (.cells vs'.toArray t)) Z' := ⟨hle, hZ, fun b hb => RowKit.Below.heap_alloc w _ b hb.1⟩
  have hv' := VRl.toEE (p := p) hp (VRl.mono hX _ _ hv)
  obtain ⟨_, g3⟩ := VRl.get hv'
  refine ⟨_, Env.set_self _ _ _, .inr ⟨rfl, rfl, rfl, hsz, by simpa using hl, by simp, by simp [maxLen], vs'.toArray, (0, 0), ?_, ?_, ?_, ?_⟩⟩
  · show (w.heap.push _)[w.heap.size]? = _
    simp
  · simp; omega
  · intro _ j _ _; simp
  · rw [VRr_iff (wd := size) (by simpa using hl)]
    intro r row c v hr hc
    cases r with
    | zero =>
      simp at hr; subst hr
      obtain ⟨v', a1, a2⟩ := g3 c v hc
      exact ⟨v', by simpa using a1, h1 v' (List.mem_of_getElem? a1), a2⟩
    | succ r => simp at hr

theorem sound_alloc (hT : T.Ok P) (h : HRel E F w) (hE : E nx = none) {t : TypeId} {r : Res}
    (hs : semAlloc T nx t = some r) : ∃ v' w', (Instr.alloc t true (.tuple #[])).run P w = .ok v' w' ∧ Gives E F nx w r v' w' := by
  unfold semAlloc at hs
  split at hs
  rotate_left
  · cases hs
  rename_i ti hti
  obtain ⟨z, ht⟩ := hT _ _ hti
  split at hs
  · cases hs
  rename_i hsz
  injection hs with hs; subst hs
  have hsz' : 0 < ti.size := by simp at hsz; omega
  refine ⟨.pointer (some ⟨w.heap.size, 0, none⟩), w.alloc (.cells (cellsOf z).toArray t), ?_, E.set nx ⟨w.heap.size, 0, ti.size, 1, false, none⟩, ?_, ?_, ?_⟩
  · simp [Instr.alloc, ht.run_zeroValue w, run_newVar]
  · simp only [VR]; exact ⟨_, Env.set_self _ _ _, rfl, by simp⟩
  · exact StepR.new h hE _ ⟨w.heap.size, 0, ti.size, 1, false, none⟩ _ rfl (fresh_rows nx hE ht.zsz hsz' (fun _ => ofVl_nf _ _ ht.zero) (ht.vr _ _ _) ht.one)
  · exact FreshIn.set

theorem sound_box (h : HRel E F w) (hE : E nx = none) {t : TypeId} {v : PV} {v' : Value} {r : Res}
    (hs : semBox T nx t v = some r) (hvc : r.vc) (hv : VR w (Zn E F w) E v v') : ∃ u' w', (Instr.box t v').run P w = .ok u' w' ∧ Gives E F nx w r u' w' := by
  unfold semBox at hs
  split at hs
  rotate_left
  · cases hs
  rename_i ti vs hti hcv
  split at hs
  · cases hs
  rename_i hsz
  injection hs with hs; subst hs
  have hsz' : 0 < ti.size := by simp at hsz; omega
  obtain ⟨c1, c2⟩ := VR_cells hv hcv
  refine ⟨.pointer (some ⟨w.heap.size, 0, none⟩), w.alloc (.cells (cellsOf v').toArray t), ?_, E.set nx ⟨w.heap.size, 0, ti.size, 1, false, none⟩, ?_, ?_, ?_⟩
  · simp [Instr.box, run_newVar]
  · simp only [VR]; exact ⟨_, Env.set_self _ _ _, rfl, by simp⟩
  · exact StepR.new h hE _ ⟨w.heap.size, 0, ti.size, 1, false, none⟩ _ rfl (fresh_rows nx hE hvc hsz' (fun h => h) c1 c2)
  · exact FreshIn.set
end
end Go.Tx
end

section
set_option linter.unusedSimpArgs false
set_option linter.unusedVariables false
set_option linter.unnecessarySimpa false
set_option linter.unusedSectionVars false
namespace Go.Tx
open Go.Sx (TK tk isAggK cellsOf cellsOf_eq cells_eq run_newVar lt_of_get getD_of_lt inI64 ibits wrap_i64 tk_struct tk_slice tk_array tk_str tk_int tk_map field_of addr_add run_eqGuard_int run_equal_iface_nil)

/-! ### numbers -/
def semInt (wr : Bool) (op : BinOp) (k : IntKind) (a b : Int) : Option (Prop × PV) :=
  match op with
  | .add => if k = .i64 && !wr then some (inI64 (a + b), .int k (a + b)) else some (True, .int k (k.wrap (a + b)))
  | .sub => if k = .i64 && !wr then some (inI64 (a - b), .int k (a - b)) else some (True, .int k (k.wrap (a - b)))
  | .mul => if k = .i64 && !wr then some (inI64 (a * b), .int k (a * b)) else some (True, .int k (k.wrap (a * b)))
  | .quo => if k = .i64 && !wr then some (b ≠ 0 ∧ inI64 (a.tdiv b), .int k (a.tdiv b)) else some (b ≠ 0, .int k (k.wrap (a.tdiv b)))
  | .rem => some (b ≠ 0, .int k (a.tmod b))
  | .and => some (True, .int k (ibits .and k a b))
  | .or => some (True, .int k (ibits .or k a b))
  | .xor => some (True, .int k (ibits .xor k a b))
  | .andNot => some (True, .int k (ibits .andNot k a b))
  | .eql => some (True, .bool (a == b))
  | .neq => some (True, .bool (a != b))
  | .lss => some (True, .bool (decide (a < b)))
  | .leq => some (True, .bool (decide (a ≤ b)))
  | .gtr => some (True, .bool (decide (b < a)))
  | .geq => some (True, .bool (decide (b ≤ a)))
  | _ => none

/-- Equality of structs of plain values. -/
def eqCell (T : Tys) (u : TypeId) : PV → PV → Option Bool
  | .int k a, .int k' b => match T.get u with | some { k := .int _, .. } => if k = k' then some (a == b) else none | _ => none
  | .bool a, .bool b => match T.get u with | some { k := .bool, .. } => some (a == b) | _ => none
  | .str a, .str b => match T.get u with | some { k := .str, .. } => some (a == b) | _ => none
  | _, _ => none
def eqFs (T : Tys) : List (Nat × TypeId) → List PV → List PV → Option Bool
  | [], _, _ => some true
  | (o, u) :: fs, l, l' => match l[o]?, l'[o]? with
    | some a, some b => (eqCell T u a b).bind fun x => (eqFs T fs l l').map fun y => x && y
    | _, _ => none
def eqSt (T : Tys) (t : TypeId) (l l' : List PV) : Option Bool := match T.get t with | some { k := .struct fs, eq := true, .. } => eqFs T fs l l' | _ => none
def semBin (T : Tys) (wr : Bool) (op : BinOp) (t : TypeId) (a b : PV) : Option (Prop × PV) :=
  match op, a, b with
  | .shl, .int k a, .int _ b => some (0 ≤ b, .int k (k.wrap (a * 2 ^ (min b.toNat k.bits))))
  | .shr, .int k a, .int _ b => some (0 ≤ b, .int k (a.fdiv (2 ^ (min b.toNat k.bits))))
  | op, .int k a, .int k' b => if k = k' then semInt wr op k a b else none
  | .add, .str a, .str b => some (a.length + b.length ≤ 9223372036854775807, .str (a ++ b))
  | .eql, .str a, .str b => some (True, .bool (a == b))
  | .neq, .str a, .str b => some (True, .bool (!(a == b)))
  | .eql, .bool a, .bool b => match T.get t with | some { k := .bool, .. } => some (True, .bool (a == b)) | _ => none
  | .neq, .bool a, .bool b => match T.get t with | some { k := .bool, .. } => some (True, .bool (!(a == b))) | _ => none
  | .eql, .ifc _ _, .nilI => match T.get t with | some { k := .iface, .. } => some (True, .bool false) | _ => none
  | .neq, .ifc _ _, .nilI => match T.get t with | some { k := .iface, .. } => some (True, .bool true) | _ => none
  | .eql, .ptr _ _ _, .nilP => match T.get t with | some { k := .ptr _, .. } => some (True, .bool false) | _ => none
  | .neq, .ptr _ _ _, .nilP => match T.get t with | some { k := .ptr _, .. } => some (True, .bool true) | _ => none
  | .eql, .nilP, .nilP => match T.get t with | some { k := .ptr _, .. } => some (True, .bool true) | _ => none
  | .neq, .nilP, .nilP => match T.get t with | some { k := .ptr _, .. } => some (True, .bool false) | _ => none
  | .eql, .ptr n r c, .ptr n' r' c' => match T.get t with | some { k := .ptr e, .. } => (match T.get e with | some _ => if n = n' ∧ r = r' ∧ c = c' then some (True, .bool true) else none | none => none) | _ => none
  | .neq, .ptr n r c, .ptr n' r' c' => match T.get t with | some { k := .ptr e, .. } => (match T.get e with | some _ => if n = n' ∧ r = r' ∧ c = c' then some (True, .bool false) else none | none => none) | _ => none
  | .eql, .agg l, .agg l' => (eqSt T t l l').map fun b => (True, .bool b)
  | .neq, .agg l, .agg l' => (eqSt T t l l').map fun b => (True, .bool (!b))
  | _, _, _ => none

section
variable {P : Program} {T : Tys} {E : Env} {F : SF} {nx : Nm} {w : World} {Z : Nat → Prop}

theorem run_eq_ptr_nil {t e : TypeId} (hp : P.underlying t = some (.pointer e)) (p : Option Addr) : (binOp .eql t (.pointer p) (.pointer none)).run P w = .ok (.bool p.isNone) w ∧ (binOp .neq t (.pointer p) (.pointer none)).run P w = .ok (.bool (!p.isNone)) w := by
  have h : ∀ d : Nat, (Op.equalIn (d + 1) t (.pointer p) (.pointer none)).run P w = .ok p.isNone w := fun d => by
    cases p <;> simp [Op.equalIn, run_underlying hp]
  constructor <;> simp only [binOp] <;> simp [Op.equal, Op.maxDepth, h 9999]
theorem run_eq_ptr_same {t e : TypeId} {j : TypeInfo} (hp : P.underlying t = some (.pointer e)) (hj : P.info? e = some j) (a : Addr) : (binOp .eql t (.pointer (some a)) (.pointer (some a))).run P w = .ok (.bool true) w ∧ (binOp .neq t (.pointer (some a)) (.pointer (some a))).run P w = .ok (.bool false) w := by
  have h : ∀ d : Nat, (Op.equalIn (d + 1) t (.pointer (some a)) (.pointer (some a))).run P w = .ok true w := fun d => by
    simp [Op.equalIn, run_underlying hp, sizeOf, typeInfo, hj, sameAddr]
  constructor <;> simp only [binOp] <;> simp [Op.equal, Op.maxDepth, h 9999]

theorem sound_int {wr : Bool} {op : BinOp} {k : IntKind} {a b : Int} {p : Prop} {v : PV} {t : TypeId} (h : semInt wr op k a b = some (p, v)) (hp : p) :
    ∃ v', (binOp op t (.int k a) (.int k b)).run P w = .ok v' w ∧ VR w Z E v v' := by
  cases op <;> simp only [semInt] at h <;> first
    | (cases h; done)
    | (injection h with h; injection h with h1 h2; subst h1; subst h2; refine ⟨_, ?_, by simp only [VR]; rfl⟩; simp [binOp, Op.intCmp]; done)
    | (injection h with h; injection h with h1 h2; subst h1; subst h2; refine ⟨_, ?_, by simp only [VR]; rfl⟩; simp [binOp, Op.intBits, ibits]; done)
    | (injection h with h; injection h with h1 h2; subst h1; subst h2; refine ⟨_, ?_, by simp only [VR]; rfl⟩; simp [binOp, Op.intDiv, hp]; done)
    | (split at h
       · rename_i hk; simp only [Bool.and_eq_true, decide_eq_true_eq] at hk; obtain ⟨rfl, _⟩ := hk; injection h with h; injection h with h1 h2; subst h1; subst h2
         refine ⟨_, ?_, by simp only [VR]; rfl⟩
         simp [binOp, Op.intArith, wrap_i64 hp]
         done
       · injection h with h; injection h with h1 h2; subst h1; subst h2
         refine ⟨_, ?_, by simp only [VR]; rfl⟩
         simp [binOp, Op.intArith]
         done)
    | (split at h
       · rename_i hk; simp only [Bool.and_eq_true, decide_eq_true_eq] at hk; obtain ⟨rfl, _⟩ := hk; injection h with h; injection h with h1 h2; subst h1; subst h2
         refine ⟨_, ?_, by simp only [VR]; rfl⟩
         simp [binOp, Op.intDiv, hp.1, wrap_i64 hp.2]
         done
       · injection h with h; injection h with h1 h2; subst h1; subst h2
         refine ⟨_, ?_, by simp only [VR]; rfl⟩
         simp [binOp, Op.intDiv, hp]
         done)

theorem strV_size (l : List UInt8) : (⟨l.toArray⟩ : ByteArray).size = l.length := by simp [ByteArray.size]
theorem strV_append (a b : List UInt8) : (⟨a.toArray⟩ : ByteArray) ++ ⟨b.toArray⟩ = ⟨(a ++ b).toArray⟩ := by
  apply ByteArray.ext
  rw [ByteArray.data_append]
  simp
theorem strV_toList (a : List UInt8) : (⟨a.toArray⟩ : ByteArray).toList = a := by
  rw [ByteArray.toList_eq]
theorem strV_extract (l : List UInt8) (a b : Nat) : (⟨l.toArray⟩ : ByteArray).extract a b = ⟨((l.drop a).take (b - a)).toArray⟩ := by
  apply ByteArray.ext
  rw [ByteArray.data_extract]
  simp [List.extract_eq_take_drop]

theorem strV_beq (a b : List UInt8) : (a == b) = ((⟨a.toArray⟩ : ByteArray).toList == (⟨b.toArray⟩ : ByteArray).toList) := by rw [strV_toList, strV_toList]
theorem eqCell_run (hT : T.Ok P) {u : TypeId} {a b : PV} {a' b' : Value} {r : Bool} (h : eqCell T u a b = some r) (ha : VR w Z E a a') (hb : VR w Z E b b') (d : Nat) :
    P.plainKey u = true ∧ (Op.equalIn (d + 1) u a' b').run P w = .ok r w := by
  unfold eqCell at h
  split at h
  · simp only [VR] at ha hb; subst ha; subst hb
    split at h
    rotate_left
    · cases h
    rename_i hti
    split at h
    rotate_left
    · cases h
    rename_i hk; subst hk
    injection h with h; subst h
    obtain ⟨z, ht⟩ := hT _ _ hti
    obtain ⟨de, hd, hk⟩ := ht.sx.desc
    obtain ⟨kk, rfl⟩ : ∃ kk, de = .int kk := by cases de <;> simp [tk] at hk ⊢
    exact ⟨by simp [Program.plainKey, hd], run_equalIn_int w d u _ kk _ _ hd⟩
  · simp only [VR] at ha hb; subst ha; subst hb
    split at h
    rotate_left
    · cases h
    rename_i hti
    injection h with h; subst h
    obtain ⟨z, ht⟩ := hT _ _ hti
    obtain ⟨de, hd, hk⟩ := ht.sx.desc
    obtain rfl : de = .bool := by cases de <;> simp [tk] at hk ⊢
    exact ⟨by simp [Program.plainKey, hd], run_equalIn_bool' w d u _ _ hd⟩
  · simp only [VR] at ha hb; subst ha; subst hb
    split at h
    rotate_left
    · cases h
    rename_i hti
    injection h with h; subst h
    obtain ⟨z, ht⟩ := hT _ _ hti
    obtain ⟨de, hd, hk⟩ := ht.sx.desc
    obtain rfl : de = .string := by cases de <;> simp [tk] at hk ⊢
    refine ⟨by simp [Program.plainKey, hd], ?_⟩
    unfold strV
    rw [strV_beq]
    exact run_equalIn_string w d u _ _ hd
  · cases h
theorem eqFs_run (hT : T.Ok P) (d : Nat) {l l' : List PV} {l1 l2 : List Value} (ha : VRl w Z E l l1) (hb : VRl w Z E l' l2) : ∀ (fs : List Field) (r : Bool), fs.all (fun f => f.name != "_") = true → eqFs T (fs.map fun f => (f.offset, f.type)) l l' = some r →
    (Op.eqFields (d + 1) l1.toArray l2.toArray fs).run P w = .ok r w
  | [], r, _, h => by simp only [List.map_nil, eqFs, Option.some.injEq] at h; subst h; simp [Op.eqFields]
  | f :: fs, r, hn, h => by
    simp only [List.all_cons, Bool.and_eq_true, bne_iff_ne, ne_eq] at hn
    simp only [List.map_cons, eqFs] at h
    split at h
    rotate_left
    · cases h
    rename_i a b hxa hxb
    simp only [Option.bind_eq_some_iff, Option.map_eq_some_iff] at h
    obtain ⟨x, hx, y, hy, rfl⟩ := h
    obtain ⟨va, ga, ra⟩ := (VRl.get ha).2 _ _ hxa
    obtain ⟨vb, gb, rb⟩ := (VRl.get hb).2 _ _ hxb
    obtain ⟨hp, hr⟩ := eqCell_run (P := P) (w := w) hT hx ra rb d
    have ih := eqFs_run hT d ha hb fs y hn.2 hy
    rw [Op.eqFields, if_pos hn.1]
    simp only [Sem.run_bind, run_part_plain w hp (show l1.toArray[f.offset]? = some va by simpa using ga), run_part_plain w hp (show l2.toArray[f.offset]? = some vb by simpa using gb), Result.andThen_ok, hr]
    cases x with
    | true => simpa using ih
    | false => simp
theorem eqSt_run (hT : T.Ok P) {t : TypeId} {l l' : List PV} {l1 l2 : List Value} {r : Bool} (ha : VRl w Z E l l1) (hb : VRl w Z E l' l2) (h : eqSt T t l l' = some r) :
    P.eqGuardType P.depth t = false ∧ (Op.equalIn 10000 t (.agg l1.toArray) (.agg l2.toArray)).run P w = .ok r w := by
  unfold eqSt at h
  split at h
  rotate_left
  · cases h
  rename_i fs hti
  obtain ⟨z, ht⟩ := hT _ _ hti
  obtain ⟨e1, e2, e3⟩ := ht.sx.eqok rfl
  obtain ⟨de, hd, hk⟩ := ht.sx.desc
  obtain ⟨fa, rfl⟩ : ∃ fa, de = .struct fa := by cases de <;> simp [tk] at hk ⊢
  rw [hd] at e3
  simp only [tk, TK.struct.injEq] at hk
  refine ⟨e2, ?_⟩
  have hf : P.fieldsOf t = fa := by unfold Program.fieldsOf; rw [hd]
  rw [run_equalIn_struct w 9999 t _ _ (by rw [hf]; exact hd) e1, hf]
  exact eqFs_run hT 9998 ha hb fa.toList r e3 (by rw [hk]; exact h)
theorem sound_bin {wr : Bool} (hT : T.Ok P) {op : BinOp} {t : TypeId} {a b : PV} {a' b' : Value} {p : Prop} {v : PV} (x y : Operand) (h : semBin T wr op t a b = some (p, v)) (hp : p)
    (ha : VR w Z E a a') (hb : VR w Z E b b') : ∃ v', (do eqGuard op t x y a' b'; binOp op t a' b' : Sem Value).run P w = .ok v' w ∧ VR w Z E v v' := by
  unfold semBin at h
  split at h
  · simp only [VR] at ha hb; subst ha; subst hb
    injection h with h; injection h with h1 h2; subst h1; subst h2
    refine ⟨_, ?_, by simp only [VR]; rfl⟩
    rw [Sem.run_bind, run_eqGuard_int _ _ _ _ _ _ _ _ rfl]
    simp [binOp, Op.shift, show ¬ _ < (0 : Int) from Int.not_lt.2 hp]
  · simp only [VR] at ha hb; subst ha; subst hb
    injection h with h; injection h with h1 h2; subst h1; subst h2
    refine ⟨_, ?_, by simp only [VR]; rfl⟩
    rw [Sem.run_bind, run_eqGuard_int _ _ _ _ _ _ _ _ rfl]
    simp [binOp, Op.shift, show ¬ _ < (0 : Int) from Int.not_lt.2 hp]
  · simp only [VR] at ha hb; subst ha; subst hb
    split at h
    · rename_i hk; subst hk
      obtain ⟨v', r1, r2⟩ := sound_int (P := P) (w := w) (t := t) (Z := Z) (E := E) h hp
      refine ⟨v', ?_, r2⟩
      rw [Sem.run_bind, run_eqGuard_int _ _ _ _ _ _ _ _ rfl]
      exact r1
    · cases h
  · simp only [VR] at ha hb; subst ha; subst hb
    injection h with h; injection h with h1 h2; subst h1; subst h2
    refine ⟨_, ?_, by simp only [VR]; rfl⟩
    rw [Sem.run_bind]
    unfold strV
    rw [run_eqGuard_int _ _ _ _ _ _ _ _ rfl]
    rename_i sa sb
    have hle : ¬ (((⟨sa.toArray⟩ : ByteArray).size + (⟨sb.toArray⟩ : ByteArray).size : Nat) : Int) > IntKind.i64.max := by
      have : IntKind.i64.max = 9223372036854775807 := by decide
      rw [this, strV_size, strV_size]; omega
    simp only [binOp, Op.stringOp, Result.andThen_ok]
    rw [if_neg hle, strV_append]; rfl
  · simp only [VR] at ha hb; subst ha; subst hb
    injection h with h; injection h with h1 h2; subst h1; subst h2
    refine ⟨_, ?_, by simp only [VR]; rfl⟩
    rw [Sem.run_bind]
    unfold strV
    rw [run_eqGuard_int _ _ _ _ _ _ _ _ rfl]
    simp [binOp, Op.stringOp, strV_toList]
  · simp only [VR] at ha hb; subst ha; subst hb
    injection h with h; injection h with h1 h2; subst h1; subst h2
    refine ⟨_, ?_, by simp only [VR]; rfl⟩
    rw [Sem.run_bind]
    unfold strV
    rw [run_eqGuard_int _ _ _ _ _ _ _ _ rfl]
    simp [binOp, Op.stringOp, strV_toList, bne]
  · simp only [VR] at ha hb; subst ha; subst hb
    split at h
    rotate_left
    · cases h
    rename_i hti
    injection h with h; injection h with h1 h2; subst h1; subst h2
    refine ⟨_, ?_, by simp only [VR]; rfl⟩
    obtain ⟨z, ht⟩ := hT _ _ hti
    obtain ⟨d, hd, hk⟩ := ht.run_underlying w
    have hd' : d = .bool := by cases d <;> simp [tk] at hk <;> rfl
    subst hd'
    rw [Sem.run_bind, run_eqGuard_int _ _ _ _ _ _ _ _ rfl]
    simp [binOp, Sx.run_equal_bool _ _ hd]
  · simp only [VR] at ha hb; subst ha; subst hb
    split at h
    rotate_left
    · cases h
    rename_i hti
    injection h with h; injection h with h1 h2; subst h1; subst h2
    refine ⟨_, ?_, by simp only [VR]; rfl⟩
    obtain ⟨z, ht⟩ := hT _ _ hti
    obtain ⟨d, hd, hk⟩ := ht.run_underlying w
    have hd' : d = .bool := by cases d <;> simp [tk] at hk <;> rfl
    subst hd'
    rw [Sem.run_bind, run_eqGuard_int _ _ _ _ _ _ _ _ rfl]
    simp [binOp, Sx.run_equal_bool _ _ hd]
  · simp only [VR] at ha hb; subst hb
    obtain ⟨u, rfl, _⟩ := ha
    split at h
    rotate_left
    · cases h
    rename_i hti
    injection h with h; injection h with h1 h2; subst h1; subst h2
    refine ⟨_, ?_, by simp only [VR]; rfl⟩
    obtain ⟨z, ht⟩ := hT _ _ hti
    obtain ⟨d, hd, hk⟩ := ht.run_underlying w
    have hd' : ∃ ms, d = .interface ms := by cases d <;> simp [tk] at hk <;> exact ⟨_, rfl⟩
    obtain ⟨ms, rfl⟩ := hd'
    rw [Sem.run_bind, run_eqGuard_int _ _ _ _ _ _ _ _ rfl]
    simp [binOp, run_equal_iface_nil hd]
  · simp only [VR] at ha hb; subst hb
    obtain ⟨u, rfl, _⟩ := ha
    split at h
    rotate_left
    · cases h
    rename_i hti
    injection h with h; injection h with h1 h2; subst h1; subst h2
    refine ⟨_, ?_, by simp only [VR]; rfl⟩
    obtain ⟨z, ht⟩ := hT _ _ hti
    obtain ⟨d, hd, hk⟩ := ht.run_underlying w
    have hd' : ∃ ms, d = .interface ms := by cases d <;> simp [tk] at hk <;> exact ⟨_, rfl⟩
    obtain ⟨ms, rfl⟩ := hd'
    rw [Sem.run_bind, run_eqGuard_int _ _ _ _ _ _ _ _ rfl]
    simp [binOp, run_equal_iface_nil hd]
  · simp only [VR] at ha hb; subst hb
    obtain ⟨i, _, _, rfl⟩ := ha
    split at h
    rotate_left
    · cases h
    rename_i hti
    injection h with h; injection h with h1 h2; subst h1; subst h2
    obtain ⟨z, ht⟩ := hT _ _ hti
    obtain ⟨d, hd, hk⟩ := ht.sx.desc
    obtain ⟨e, rfl⟩ : ∃ e, d = .pointer e := by cases d <;> simp [tk] at hk ⊢
    have q1 := fun a => (run_eq_ptr_nil (P := P) (w := w) hd a).1
    have q2 := fun a => (run_eq_ptr_nil (P := P) (w := w) hd a).2
    refine ⟨_, ?_, by simp only [VR]; rfl⟩
    rw [Sem.run_bind, run_eqGuard_int _ _ _ _ _ _ _ _ rfl]
    simp [q1]
  · simp only [VR] at ha hb; subst hb
    obtain ⟨i, _, _, rfl⟩ := ha
    split at h
    rotate_left
    · cases h
    rename_i hti
    injection h with h; injection h with h1 h2; subst h1; subst h2
    obtain ⟨z, ht⟩ := hT _ _ hti
    obtain ⟨d, hd, hk⟩ := ht.sx.desc
    obtain ⟨e, rfl⟩ : ∃ e, d = .pointer e := by cases d <;> simp [tk] at hk ⊢
    have q1 := fun a => (run_eq_ptr_nil (P := P) (w := w) hd a).1
    have q2 := fun a => (run_eq_ptr_nil (P := P) (w := w) hd a).2
    refine ⟨_, ?_, by simp only [VR]; rfl⟩
    rw [Sem.run_bind, run_eqGuard_int _ _ _ _ _ _ _ _ rfl]
    simp [q2]
  · simp only [VR] at ha hb; subst hb; subst ha
    split at h
    rotate_left
    · cases h
    rename_i hti
    injection h with h; injection h with h1 h2; subst h1; subst h2
    obtain ⟨z, ht⟩ := hT _ _ hti
    obtain ⟨d, hd, hk⟩ := ht.sx.desc
    obtain ⟨e, rfl⟩ : ∃ e, d = .pointer e := by cases d <;> simp [tk] at hk ⊢
    obtain ⟨q1, q2⟩ := run_eq_ptr_nil (w := w) hd none
    refine ⟨_, ?_, by simp only [VR]; rfl⟩
    rw [Sem.run_bind, run_eqGuard_int _ _ _ _ _ _ _ _ rfl]
    simp [q1]
  · simp only [VR] at ha hb; subst hb; subst ha
    split at h
    rotate_left
    · cases h
    rename_i hti
    injection h with h; injection h with h1 h2; subst h1; subst h2
    obtain ⟨z, ht⟩ := hT _ _ hti
    obtain ⟨d, hd, hk⟩ := ht.sx.desc
    obtain ⟨e, rfl⟩ : ∃ e, d = .pointer e := by cases d <;> simp [tk] at hk ⊢
    obtain ⟨q1, q2⟩ := run_eq_ptr_nil (w := w) hd none
    refine ⟨_, ?_, by simp only [VR]; rfl⟩
    rw [Sem.run_bind, run_eqGuard_int _ _ _ _ _ _ _ _ rfl]
    simp [q2]
  · simp only [VR] at ha hb
    obtain ⟨i, hi, hz, rfl⟩ := ha
    obtain ⟨i', hi', hz', rfl⟩ := hb
    split at h
    rotate_left
    · cases h
    rename_i hti
    split at h
    rotate_left
    · cases h
    rename_i hte
    split at h
    rotate_left
    · cases h
    rename_i hc
    obtain ⟨rfl, rfl, rfl⟩ := hc
    rw [hi] at hi'; injection hi' with hi'; subst hi'
    injection h with h; injection h with h1 h2; subst h1; subst h2
    obtain ⟨z, ht⟩ := hT _ _ hti
    obtain ⟨d, hd, hk⟩ := ht.sx.desc
    obtain ⟨e, rfl⟩ : ∃ e, d = .pointer e := by cases d <;> simp [tk] at hk ⊢
    simp only [tk, TK.ptr.injEq] at hk
    subst hk
    obtain ⟨ze, hze⟩ := hT _ _ hte
    obtain ⟨j, hj, _⟩ := hze.sx.info
    have q1 := fun a => (run_eq_ptr_same (P := P) (w := w) hd hj a).1
    have q2 := fun a => (run_eq_ptr_same (P := P) (w := w) hd hj a).2
    refine ⟨_, ?_, by simp only [VR]; rfl⟩
    rw [Sem.run_bind, run_eqGuard_int _ _ _ _ _ _ _ _ rfl]
    simp [q1]
  · simp only [VR] at ha hb
    obtain ⟨i, hi, hz, rfl⟩ := ha
    obtain ⟨i', hi', hz', rfl⟩ := hb
    split at h
    rotate_left
    · cases h
    rename_i hti
    split at h
    rotate_left
    · cases h
    rename_i hte
    split at h
    rotate_left
    · cases h
    rename_i hc
    obtain ⟨rfl, rfl, rfl⟩ := hc
    rw [hi] at hi'; injection hi' with hi'; subst hi'
    injection h with h; injection h with h1 h2; subst h1; subst h2
    obtain ⟨z, ht⟩ := hT _ _ hti
    obtain ⟨d, hd, hk⟩ := ht.sx.desc
    obtain ⟨e, rfl⟩ : ∃ e, d = .pointer e := by cases d <;> simp [tk] at hk ⊢
    simp only [tk, TK.ptr.injEq] at hk
    subst hk
    obtain ⟨ze, hze⟩ := hT _ _ hte
    obtain ⟨j, hj, _⟩ := hze.sx.info
    have q1 := fun a => (run_eq_ptr_same (P := P) (w := w) hd hj a).1
    have q2 := fun a => (run_eq_ptr_same (P := P) (w := w) hd hj a).2
    refine ⟨_, ?_, by simp only [VR]; rfl⟩
    rw [Sem.run_bind, run_eqGuard_int _ _ _ _ _ _ _ _ rfl]
    simp [q2]
  · simp only [VR] at ha hb
    obtain ⟨l1, rfl, _, ha⟩ := ha
    obtain ⟨l2, rfl, _, hb⟩ := hb
    simp only [Option.map_eq_some_iff] at h
    obtain ⟨r, hr, h⟩ := h
    injection h with h1 h2; subst h1; subst h2
    obtain ⟨q1, q2⟩ := eqSt_run (P := P) (w := w) hT ha hb hr
    refine ⟨_, ?_, by simp only [VR]; rfl⟩
    rw [Sem.run_bind, run_eqGuard_agg w _ _ _ _ _ _ q1]
    simp [run_eql_struct, q2]
  · simp only [VR] at ha hb
    obtain ⟨l1, rfl, _, ha⟩ := ha
    obtain ⟨l2, rfl, _, hb⟩ := hb
    simp only [Option.map_eq_some_iff] at h
    obtain ⟨r, hr, h⟩ := h
    injection h with h1 h2; subst h1; subst h2
    obtain ⟨q1, q2⟩ := eqSt_run (P := P) (w := w) hT ha hb hr
    refine ⟨_, ?_, by simp only [VR]; rfl⟩
    rw [Sem.run_bind, run_eqGuard_agg w _ _ _ _ _ _ q1]
    simp [run_neq_struct, q2]
  · cases h

/-! ### places -/
def semField (T : Tys) (s : TypeId) (x : PV) (f : Nat) : Option Res :=
  match T.get s with
  | some { k := .struct fs, .. } =>
    match fs[f]? with
    | some (off, ft) =>
      match T.get ft with
      | some fi =>
        if fi.size == 0 then none else
        match x with
        | .ptr n r c => some (mkRes True (.ptr n r (c + off)))
        | .fp wd rs r c => some (mkRes True (.fp wd rs r (c + off)))
        | _ => none
      | none => none
    | none => none
  | _ => none

theorem sound_field (hT : T.Ok P) (h : HRel E F w) {s : TypeId} {x : PV} {x' : Value} {f : Nat} {r : Res} (hs : semField T s x f = some r) (hx : VR w (Zn E F w) E x x') :
    ∃ v', (Instr.fieldAt s x' f).run P w = .ok v' w ∧ Gives E F nx w r v' w := by
  unfold semField at hs
  split at hs
  rotate_left
  · cases hs
  rename_i fs _ _ _ _ _ hti
  split at hs
  rotate_left
  · cases hs
  rename_i off ft hfs
  split at hs
  rotate_left
  · cases hs
  rename_i fi hfi
  split at hs
  · cases hs
  rename_i hsz
  obtain ⟨z, ht⟩ := hT _ _ hti
  obtain ⟨d, hd, hk⟩ := ht.run_underlying w
  obtain ⟨a, rfl, ha⟩ := tk_struct hk
  obtain ⟨fld, hf1, hf2, hf3⟩ := field_of ha hfs
  subst hf2; subst hf3
  obtain ⟨z2, ht2⟩ := hT _ _ hfi
  have hz := ht2.run_sizeOf w
  simp only [beq_iff_eq] at hsz
  have hrun : ∀ b o : Nat, (Instr.fieldAt s (.pointer (some ⟨b, o, none⟩)) f).run P w = .ok (.pointer (some ⟨b, o + fld.offset, none⟩)) w := by
    intro b o
    simp only [Instr.fieldAt, Sem.run_bind, hd, Result.andThen_ok, hf1, Instr.sureAddr, Sem.run_pure, fieldPlace, hz]
    rw [if_neg hsz]
    simp [addr_add]
  split at hs
  · injection hs with hs; subst hs
    simp only [VR] at hx
    obtain ⟨i, hi, hn, rfl⟩ := hx
    refine ⟨_, hrun _ _, Gives.still h rfl ?_⟩
    simp only [mkRes, VR]
    exact ⟨i, hi, hn, by simp [Nat.add_assoc]⟩
  · injection hs with hs; subst hs
    simp only [VR] at hx
    obtain ⟨b, o, cs, e, fz, rfl, h2⟩ := hx
    refine ⟨_, hrun _ _, Gives.still h rfl ?_⟩
    simp only [mkRes, VR]
    exact ⟨b, o, cs, e, fz, by simp [Nat.add_assoc], h2⟩
  · cases hs

def semIndexAddr (T : Tys) (F : SF) (t : TypeId) (x i : PV) : Option Res :=
  match i with
  | .int _ i =>
    match T.get t with
    | some { k := .slice e, .. } =>
      match T.get e with
      | some ei =>
        match x with
        | .sl n r l =>
          match F n with
          | some (.rows _ wd _ _ _) => if ei.size == wd then some { vc := 0 ≤ i ∧ i < l, v := .ptr n (r + i.toNat) 0, upd := [], rd := [n] } else none
          | _ => none
        | .fs wd rs => if ei.size == wd then some (mkRes (0 ≤ i ∧ i < rs.length) (.fp wd rs i.toNat 0)) else none
        | _ => none
      | none => none
    | some { k := .array len e, .. } =>
      match T.get e with
      | some ei =>
        match x with
        | .ptr n r c => some { vc := 0 ≤ i ∧ i < len, v := .ptr n r (c + i.toNat * ei.size), upd := [], rd := [n] }
        | .fp wd rs r c => some (mkRes (0 ≤ i ∧ i < len) (.fp wd rs r (c + i.toNat * ei.size)))
        | _ => none
      | none => none
    | _ => none
  | _ => none

theorem sound_indexAddr (hT : T.Ok P) (h : HRel E F w) {t : TypeId} {x i : PV} {x' i' : Value} {r : Res} (hs : semIndexAddr T F t x i = some r) (hvc : r.vc) (hx : VR w (Zn E F w) E x x') (hi : VR w (Zn E F w) E i i') :
    ∃ v', (Instr.indexAt t x' i').run P w = .ok v' w ∧ Gives E F nx w r v' w := by
  unfold semIndexAddr at hs
  split at hs
  rotate_left
  · cases hs
  simp only [VR] at hi; subst hi
  rename_i k i
  split at hs
  · rename_i e _ _ _ _ _ hti
    split at hs
    rotate_left
    · cases hs
    rename_i ei hei
    obtain ⟨z, ht⟩ := hT _ _ hti
    obtain ⟨z2, ht2⟩ := hT _ _ hei
    obtain ⟨d, hd, hk⟩ := ht.run_underlying w
    obtain rfl := tk_slice hk
    have hrun : ∀ (b o l c : Nat), 0 ≤ i → i < l → (Instr.indexAt t (.slice (some ⟨b, o, none⟩) l c) (.int k i)).run P w = .ok (.pointer (some ⟨b, o + i.toNat * ei.size, none⟩)) w := by
      intro b o l c h1 h2
      simp only [Instr.indexAt, asIntOf, Sem.run_bind, Sem.run_pure, Result.andThen_ok, hd]
      simp only [h1, h2, and_self, if_true, Sem.run_bind, ht2.run_sizeOf w, Result.andThen_ok, Sem.run_pure, addr_add]
    split at hs
    · rename_i n row l
      split at hs
      rotate_left
      · cases hs
      rename_i e0 wd own p rs hF
      split at hs
      rotate_left
      · cases hs
      rename_i hw
      simp only [beq_iff_eq] at hw
      injection hs with hs; subst hs
      obtain ⟨h1, h2⟩ := hvc
      simp only [VR] at hx
      obtain ⟨bi, hbi, hor⟩ := hx
      rcases hor with ⟨_, hl, _⟩ | ⟨hn, rfl⟩
      · omega
      have hR := rowsRel_of h hF hbi hn
      refine ⟨_, hrun _ _ _ _ h1 h2, Gives.still h rfl ?_⟩
      simp only [VR]
      refine ⟨bi, hbi, hn, ?_⟩
      rw [hw, hR.wd_eq, Nat.add_mul, offS_pos (by omega), hR.wd_eq]
      simp [Nat.add_assoc]
    · rename_i wd rs
      split at hs
      rotate_left
      · cases hs
      rename_i hw
      simp only [beq_iff_eq] at hw
      injection hs with hs; subst hs
      obtain ⟨h1, h2⟩ := hvc
      simp only [VR] at hx
      obtain ⟨a, cap, rfl, hc, hcm, hwd, hl, hor⟩ := hx
      rcases hor with rfl | ⟨b, o, cs, e, fz, rfl, q1, q2, q3⟩
      · simp at h2; omega
      refine ⟨_, hrun _ _ _ _ h1 h2, Gives.still h rfl ?_⟩
      simp only [mkRes, VR]
      exact ⟨b, o, cs, e, fz, by rw [hw]; simp, q1, q2, hwd, hl, q3⟩
    · cases hs
  · rename_i len e _ _ _ _ _ hti
    split at hs
    rotate_left
    · cases hs
    rename_i ei hei
    obtain ⟨z, ht⟩ := hT _ _ hti
    obtain ⟨z2, ht2⟩ := hT _ _ hei
    obtain ⟨d, hd, hk⟩ := ht.run_underlying w
    obtain rfl := tk_array hk
    have hrun : ∀ (b o : Nat), 0 ≤ i → i < len → (Instr.indexAt t (.pointer (some ⟨b, o, none⟩)) (.int k i)).run P w = .ok (.pointer (some ⟨b, o + i.toNat * ei.size, none⟩)) w := by
      intro b o h1 h2
      simp only [Instr.indexAt, asIntOf, Sem.run_bind, Sem.run_pure, Result.andThen_ok, hd, Instr.sureAddr]
      simp only [h1, h2, and_self, if_true, Sem.run_bind, ht2.run_sizeOf w, Result.andThen_ok, Sem.run_pure, addr_add]
    split at hs
    · injection hs with hs; subst hs
      obtain ⟨h1, h2⟩ := hvc
      simp only [VR] at hx
      obtain ⟨bi, hbi, hn, rfl⟩ := hx
      refine ⟨_, hrun _ _ h1 h2, Gives.still h rfl ?_⟩
      simp only [VR]
      exact ⟨bi, hbi, hn, by simp [Nat.add_assoc]⟩
    · injection hs with hs; subst hs
      obtain ⟨h1, h2⟩ := hvc
      simp only [VR] at hx
      obtain ⟨b, o, cs, e, fz, rfl, q⟩ := hx
      refine ⟨_, hrun _ _ h1 h2, Gives.still h rfl ?_⟩
      simp only [mkRes, VR]
      exact ⟨b, o, cs, e, fz, by simp [Nat.add_assoc], q⟩
    · cases hs
  · cases hs
end
end Go.Tx
end

section
set_option linter.unusedSimpArgs false
set_option linter.unusedVariables false
set_option linter.unnecessarySimpa false
set_option linter.unusedSectionVars false
set_option linter.unusedSimpArgs false
namespace Go.Tx
open Go.Sx (TK tk isAggK cellsOf cellsOf_eq cells_eq run_newVar lt_of_get getD_of_lt inI64 ibits wrap_i64 tk_struct tk_slice tk_array tk_str tk_int tk_map field_of addr_add)
section
variable {P : Program} {T : Tys} {E : Env} {F : SF} {nx : Nm} {w : World} {Z : Nat → Prop}

def semIndex (T : Tys) (t : TypeId) (x i : PV) : Option Res :=
  match i with
  | .int _ i =>
    match T.get t, x with
    | some { k := .str, .. }, .str s => some (mkRes (0 ≤ i ∧ i < s.length) (.int .u8 (s.getD i.toNat 0).toNat))
    | some { k := .array len e, .. }, .agg l =>
      match T.get e with
      | some ei => if isAggT ei then some (mkRes (0 ≤ i ∧ i < len) (.agg ((l.drop (i.toNat * ei.size)).take ei.size)))
          else if ei.size == 1 then some (mkRes (0 ≤ i ∧ i < len ∧ i < l.length) (l.getD i.toNat undefP)) else none
      | none => none
    | _, _ => none
  | _ => none

theorem VRl.part {l : List PV} {l' : List Value} (h : VRl w Z E l l') (a n : Nat) : VRl w Z E ((l.drop a).take n) ((l'.drop a).take n) := by
  obtain ⟨h1, h2⟩ := VRl.get h
  refine VRl.of (by simp [h1]) fun j x v hx hv => ?_
  rw [List.getElem?_take] at hx hv
  split at hx
  · rename_i hj
    rw [if_pos hj] at hv
    rw [List.getElem?_drop] at hx hv
    obtain ⟨v', a1, a2⟩ := h2 _ _ hx
    rw [a1] at hv; injection hv with hv; subst hv
    exact a2
  · cases hx

theorem sound_index (hT : T.Ok P) (h : HRel E F w) {t : TypeId} {x i : PV} {x' i' : Value} {r : Res} (hs : semIndex T t x i = some r) (hvc : r.vc) (hx : VR w (Zn E F w) E x x') (hi : VR w (Zn E F w) E i i') :
    ∃ v', (Instr.index t x' i').run P w = .ok v' w ∧ Gives E F nx w r v' w := by
  unfold semIndex at hs
  split at hs
  rotate_left
  · cases hs
  simp only [VR] at hi; subst hi
  rename_i k i
  split at hs
  · rename_i _ _ _ _ _ _ s hti
    simp only [VR] at hx; subst hx
    injection hs with hs; subst hs
    obtain ⟨h1, h2⟩ := hvc
    obtain ⟨z, ht⟩ := hT _ _ hti
    obtain ⟨d, hd, hk⟩ := ht.run_underlying w
    obtain rfl := tk_str hk
    refine ⟨.int .u8 (s.getD i.toNat 0).toNat, ?_, Gives.still h rfl (by simp [mkRes, VR])⟩
    have hlt : i.toNat < s.length := by omega
    have hget : (⟨s.toArray⟩ : ByteArray)[i.toNat]? = some (s.getD i.toNat 0) := by
      have hlt' : i.toNat < (⟨s.toArray⟩ : ByteArray).size := by rw [strV_size]; exact hlt
      rw [show (⟨s.toArray⟩ : ByteArray)[i.toNat]? = some ((⟨s.toArray⟩ : ByteArray)[i.toNat]'hlt') from by simp [getElem?_pos, hlt']]
      have e1 := getD_of_lt (0 : UInt8) hlt
      rw [List.getElem?_eq_getElem hlt] at e1
      exact e1
    simp only [Instr.index, strV, asIntOf, Sem.run_bind, Sem.run_pure, Result.andThen_ok, hd, h1, if_true, hget]
  · rename_i len e _ _ _ _ _ l hti
    split at hs
    rotate_left
    · cases hs
    rename_i ei hei
    obtain ⟨z, ht⟩ := hT _ _ hti
    obtain ⟨z2, ht2⟩ := hT _ _ hei
    obtain ⟨d, hd, hk⟩ := ht.run_underlying w
    obtain rfl := tk_array hk
    simp only [VR] at hx
    obtain ⟨l', rfl, hone, hl⟩ := hx
    have hz := ht2.run_sizeOf w
    have hagg := ht2.run_isAgg w
    obtain ⟨g1, g2⟩ := VRl.get hl
    split at hs
    · rename_i hag
      injection hs with hs; subst hs
      obtain ⟨h1, h2⟩ := hvc
      refine ⟨.agg ((l'.drop (i.toNat * ei.size)).take ei.size).toArray, ?_, Gives.still h rfl ?_⟩
      · simp only [Instr.index, asIntOf, Sem.run_bind, Sem.run_pure, Result.andThen_ok, hd, h1, h2, and_self, if_true, hz, Go.part, hagg]
        simp only [isAggT] at hag
        simp only [hag, if_true, Sem.run_bind, hz, Result.andThen_ok, Sem.run_pure]
        congr 2
        apply Array.ext'
        simp [List.extract_eq_take_drop]
      · simp only [mkRes, VR]
        exact ⟨_, rfl, fun u hu => hone u (List.mem_of_mem_drop (List.mem_of_mem_take hu)), VRl.part hl _ _⟩
    · rename_i hag
      split at hs
      rotate_left
      · cases hs
      rename_i h1s
      simp only [beq_iff_eq] at h1s
      injection hs with hs; subst hs
      obtain ⟨h1, h2, h3⟩ := hvc
      have hlt : i.toNat < l.length := by omega
      obtain ⟨v', a1, a2⟩ := g2 i.toNat _ (getD_of_lt undefP hlt)
      refine ⟨v', ?_, Gives.still h rfl a2⟩
      simp only [Instr.index, asIntOf, Sem.run_bind, Sem.run_pure, Result.andThen_ok, hd, h1, h2, and_self, if_true, hz, Go.part, hagg]
      simp only [isAggT] at hag
      simp only [hag, Bool.false_eq_true, if_false, h1s, Nat.mul_one, List.getElem?_toArray, a1, Sem.run_pure]
  · cases hs

/-! ### slices of slices and strings -/
def boundOf (v : Option PV) (d : Nat) : Option Int :=
  match v with
  | none => some d
  | some (.int _ i) => some i
  | _ => none

def semSlice (T : Tys) (F : SF) (t : TypeId) (x : PV) (lo hi mx : Option PV) : Option Res :=
  match T.get t with
  | some { k := .str, .. } =>
    match x, mx with
    | .str s, none =>
      match boundOf lo 0, boundOf hi s.length with
      | some l, some h => some (mkRes (0 ≤ l ∧ l ≤ h ∧ h ≤ s.length) (.str ((s.drop l.toNat).take (h.toNat - l.toNat))))
      | _, _ => none
    | _, _ => none
  | some { k := .slice e, .. } =>
    match T.get e with
    | some ei =>
      match x, mx with
      | .sl n r len, none =>
        match F n, boundOf lo 0, boundOf hi len with
        | some (.rows _ wd _ _ rs), some l, some h =>
          if ei.size == wd then
            some { vc := 0 ≤ l ∧ l ≤ h ∧ r + h.toNat ≤ rs.length ∧ (r = 0 ∨ r + l.toNat < rs.length), v := .sl n (r + l.toNat) (h.toNat - l.toNat), upd := [], rd := [n] }
          else none
        | _, _, _ => none
      | .fs wd rs, none =>
        match boundOf lo 0, boundOf hi rs.length with
        | some l, some h =>
          if ei.size == wd then some (mkRes (0 ≤ l ∧ l ≤ h ∧ h.toNat ≤ rs.length) (.fs wd ((rs.drop l.toNat).take (h.toNat - l.toNat)))) else none
        | _, _ => none
      | .nilS, none =>
        match boundOf lo 0, boundOf hi 0 with
        | some l, some h => some (mkRes (l = 0 ∧ h = 0) .nilS)
        | _, _ => none
      | _, _ => none
    | none => none
  | _ => none

/-- What a bound is in the run. -/
def BndR (lo : Option PV) (lo' : Option Value) : Prop := match lo with | none => lo' = none | some (.int k i) => lo' = some (.int k i) | _ => True

theorem run_sliceBounds {isS : Bool} {len cap : Nat} {lo hi : Option PV} {lo' hi' : Option Value} {l h : Int} (hl : boundOf lo 0 = some l) (hh : boundOf hi len = some h)
    (el : BndR lo lo') (eh : BndR hi hi') (h0 : 0 ≤ l) (h1 : l ≤ h) (h2 : h ≤ cap) :
    (Instr.sliceBounds isS len cap lo' hi' none).run P w = .ok (l.toNat, h.toNat, cap) w := by
  have hl' : Sx.boundOf lo' 0 = some l := by
    cases lo with
    | none => simp only [BndR] at el; subst el; exact hl
    | some v => cases v <;> simp [boundOf] at hl <;> (simp only [BndR] at el; subst el; simp [Sx.boundOf, hl])
  have hh' : Sx.boundOf hi' len = some h := by
    cases hi with
    | none => simp only [BndR] at eh; subst eh; exact hh
    | some v => cases v <;> simp [boundOf] at hh <;> (simp only [BndR] at eh; subst eh; simp [Sx.boundOf, hh])
  exact Sx.run_sliceBounds hl' hh' rfl rfl h0 h1 h2

theorem VRr.drop {wd o l n : Nat} {rs : List (List PV)} {cs : Array Value} (hl : ∀ row ∈ rs, row.length = wd) (h : VRr w Z E rs o cs) : VRr w Z E ((rs.drop l).take n) (o + l * wd) cs := by
  have h' := (VRr_iff hl).1 h
  have hl' : ∀ row ∈ (rs.drop l).take n, row.length = wd := fun r hr => hl r (List.mem_of_mem_drop (List.mem_of_mem_take hr))
  rw [VRr_iff hl']
  intro r row c x hr hc
  rw [List.getElem?_take] at hr
  split at hr
  · rw [List.getElem?_drop] at hr
    obtain ⟨v, a1, a2⟩ := h' _ _ _ _ hr hc
    refine ⟨v, ?_, a2⟩
    rw [← a1]; congr 1
    rw [Nat.add_mul]; omega
  · cases hr

theorem sound_slice (hT : T.Ok P) (h : HRel E F w) {t : TypeId} {x : PV} {x' : Value} {lo hi mx : Option PV} {lo' hi' mx' : Option Value} {r : Res} (hs : semSlice T F t x lo hi mx = some r) (hvc : r.vc) (hx : VR w (Zn E F w) E x x')
    (hlo : BndR lo lo') (hhi : BndR hi hi') (hmx0 : mx = none → mx' = none) :
    ∃ v', (Instr.sliceAt t x' lo' hi' mx').run P w = .ok v' w ∧ Gives E F nx w r v' w := by
  unfold semSlice at hs
  split at hs
  · rename_i hti
    split at hs
    rotate_left
    · cases hs
    rename_i s
    obtain rfl := hmx0 rfl
    simp only [VR] at hx; subst hx
    split at hs
    rotate_left
    · cases hs
    rename_i l hh hl hhh
    injection hs with hs; subst hs
    obtain ⟨h1, h2, h3⟩ := hvc
    obtain ⟨z, ht⟩ := hT _ _ hti
    obtain ⟨d, hd, hk⟩ := ht.run_underlying w
    obtain rfl := tk_str hk
    refine ⟨_, ?_, Gives.still h rfl (by simp only [mkRes, VR]; rfl)⟩
    unfold strV
    have hsz := strV_size s
    rw [← hsz] at h3 hhh
    simp only [Instr.sliceAt, Sem.run_bind, hd, Result.andThen_ok, Instr.slice, Option.isSome_none, Bool.false_eq_true, if_false, run_sliceBounds hl hhh hlo hhi h1 h2 h3, Sem.run_pure, strV_extract]
  · rename_i e _ _ _ _ _ hti
    split at hs
    rotate_left
    · cases hs
    rename_i ei hei
    obtain ⟨z, ht⟩ := hT _ _ hti
    obtain ⟨z2, ht2⟩ := hT _ _ hei
    obtain ⟨d, hd, hk⟩ := ht.run_underlying w
    obtain rfl := tk_slice hk
    have hz := ht2.run_sizeOf w
    split at hs
    · rename_i n row len
      obtain rfl := hmx0 rfl
      split at hs
      rotate_left
      · cases hs
      rename_i e0 wd own p rs l hh hF hl hhh
      split at hs
      rotate_left
      · cases hs
      rename_i hw
      simp only [beq_iff_eq] at hw
      injection hs with hs; subst hs
      obtain ⟨h1, h2, h3, h4⟩ := hvc
      simp only [VR] at hx
      obtain ⟨bi, hbi, hor⟩ := hx
      rcases hor with ⟨hn, hl0, rfl⟩ | ⟨hn, rfl⟩
      · -- no cells
        have hrs : rs = [] := by
          obtain ⟨j, hj, hq⟩ := h.blk n _ hF
          rw [hbi] at hj; injection hj with hj; subst hj
          rcases hq with ⟨_, q, _⟩ | ⟨q, _⟩
          · exact q
          · rw [hn] at q; cases q
        subst hrs
        subst hl0
        simp only [List.length_nil, Nat.le_zero_eq] at h3
        have hh0 : hh = 0 := by omega
        have hl0 : l = 0 := by omega
        subst hh0; subst hl0
        refine ⟨.slice bi.za 0 0, ?_, Gives.still h rfl ?_⟩
        · simp only [Instr.sliceAt, Sem.run_bind, hd, Result.andThen_ok, Instr.slice, run_sliceBounds (P := P) (w := w) (isS := true) (len := 0) (cap := 0) hl hhh hlo hhi h1 h2 (by omega), Sem.run_pure, hz]
          simp
        · simp only [VR]; exact ⟨bi, hbi, .inl ⟨hn, rfl, rfl⟩⟩
      · have hR := rowsRel_of h hF hbi hn
        have hle := hR.le
        have hcap : hh ≤ ((bi.n - row : Nat) : Int) := by omega
        refine ⟨_, ?_, Gives.still h rfl (by simp only [VR]; exact ⟨bi, hbi, .inr ⟨hn, rfl⟩⟩)⟩
        simp only [Instr.sliceAt, Sem.run_bind, hd, Result.andThen_ok, Instr.slice, run_sliceBounds (P := P) (w := w) (isS := true) (len := len) (cap := bi.n - row) hl hhh hlo hhi h1 h2 hcap, Sem.run_pure, hz]
        have haddr : (if bi.n - row = l.toNat then some ({ block := bi.b, off := bi.o + offS bi row len } : Addr) else Option.map (fun x : Addr => x.add (l.toNat * ei.size)) (some ⟨bi.b, bi.o + offS bi row len, none⟩)) = some ⟨bi.b, bi.o + offS bi (row + l.toNat) (hh.toNat - l.toNat), none⟩ := by
          rcases h4 with h4 | h4
          · subst h4
            simp only [offS_zero, Nat.zero_add, Nat.sub_zero, Nat.add_zero]
            by_cases hc : bi.n = l.toNat
            · rw [if_pos hc]
              unfold offS
              rw [if_pos ⟨by omega, hc.symm⟩]
              simp
            · rw [if_neg hc, offS_lt _ (by omega)]
              simp only [Option.map_some, addr_add, hw, hR.wd_eq]
          · rw [if_neg (by omega), offS_lt _ (by omega), offS_lt _ (by omega)]
            simp only [Option.map_some, addr_add, hw, hR.wd_eq, Nat.add_mul]
            congr 2
            omega
        rw [haddr]
        congr 2
        omega
    · rename_i wd rs
      obtain rfl := hmx0 rfl
      split at hs
      rotate_left
      · cases hs
      rename_i l hh hl hhh
      split at hs
      rotate_left
      · cases hs
      rename_i hw
      simp only [beq_iff_eq] at hw
      injection hs with hs; subst hs
      obtain ⟨h1, h2, h3⟩ := hvc
      simp only [VR] at hx
      obtain ⟨a, cap, rfl, hc, hcm, hwd, hlen, hor⟩ := hx
      have hcap : hh ≤ (cap : Int) := by omega
      refine ⟨.slice (if cap = l.toNat then a else a.map fun x : Addr => x.add (l.toNat * ei.size)) (hh.toNat - l.toNat) (cap - l.toNat), ?_, Gives.still h rfl ?_⟩
      · simp only [Instr.sliceAt, Sem.run_bind, hd, Result.andThen_ok, Instr.slice, run_sliceBounds (P := P) (w := w) (isS := true) (len := rs.length) (cap := cap) hl hhh hlo hhi h1 h2 hcap, Sem.run_pure, hz]
      · simp only [mkRes, VR]
        have hnl : ((rs.drop l.toNat).take (hh.toNat - l.toNat)).length = hh.toNat - l.toNat := by simp; omega
        refine ⟨_, _, by rw [hnl], by rw [hnl]; omega, by omega, hwd, fun row hr => hlen row (List.mem_of_mem_drop (List.mem_of_mem_take hr)), ?_⟩
        by_cases h0 : hh.toNat - l.toNat = 0
        · left; rw [h0, List.take_zero]
        · right
          rcases hor with rfl | ⟨b, o, cs, e, fz, rfl, q1, q2, q3⟩
          · simp at h3; omega
          · refine ⟨b, o + l.toNat * wd, cs, e, fz, ?_, q1, q2, VRr.drop hlen q3⟩
            rw [if_neg (by omega)]
            simp only [Option.map_some, addr_add, hw]
    · obtain rfl := hmx0 rfl
      simp only [VR] at hx; subst hx
      split at hs
      rotate_left
      · cases hs
      rename_i l hh hl hhh
      injection hs with hs; subst hs
      obtain ⟨rfl, rfl⟩ := hvc
      refine ⟨.slice none 0 0, ?_, Gives.still h rfl (by simp [mkRes, VR])⟩
      simp only [Instr.sliceAt, Sem.run_bind, hd, Result.andThen_ok, Instr.slice, run_sliceBounds (P := P) (w := w) (isS := true) (len := 0) (cap := 0) hl hhh hlo hhi (by omega) (by omega) (by omega), Sem.run_pure, hz]
      rfl
    · cases hs
  · cases hs

/-! ### small ones -/
def semExtract (x : PV) (i : Nat) : Option Res :=
  match x with
  | .tup l => match l[i]? with | some v => some (mkRes True v) | none => none
  | _ => none

theorem sound_extract (h : HRel E F w) {x : PV} {x' : Value} {i : Nat} {r : Res} (hs : semExtract x i = some r) (hx : VR w (Zn E F w) E x x') : ∃ v', (Instr.extract x' i).run P w = .ok v' w ∧ Gives E F nx w r v' w := by
  unfold semExtract at hs
  split at hs
  rotate_left
  · cases hs
  rename_i l
  split at hs
  rotate_left
  · cases hs
  rename_i v hv
  injection hs with hs; subst hs
  simp only [VR] at hx
  obtain ⟨l', rfl, hl⟩ := hx
  obtain ⟨v', h1, h2⟩ := (VRl.get hl).2 i v hv
  refine ⟨v', ?_, Gives.still h rfl h2⟩
  simp [Instr.extract, h1]

def isUndef : PV → Bool
  | .tup [] => true
  | _ => false

def semPick (c a b : PV) : Option Res :=
  match c with
  | .bool g =>
    if isUndef a then some (mkRes (g = false) b)
    else if isUndef b then some (mkRes (g = true) a)
    else match a, b with
      | .bool x, .bool y => some (mkRes True (.bool (if g then x else y)))
      | .int k x, .int k' y => if k = k' then some (mkRes True (.int k (if g then x else y))) else none
      | .str x, .str y => some (mkRes True (.str (if g then x else y)))
      | _, _ => none
  | _ => none

theorem sound_pick (h : HRel E F w) {c a b : PV} {c' a' b' : Value} {r : Res} (hs : semPick c a b = some r) (hvc : r.vc) (hc : VR w (Zn E F w) E c c') (ha : VR w (Zn E F w) E a a') (hb : VR w (Zn E F w) E b b') :
    ∃ v', (do pure (if ← asBool c' then a' else b') : Sem Value).run P w = .ok v' w ∧ Gives E F nx w r v' w := by
  unfold semPick at hs
  split at hs
  rotate_left
  · cases hs
  rename_i g
  simp only [VR] at hc; subst hc
  have hrun : (do pure (if ← asBool (.bool g) then a' else b') : Sem Value).run P w = .ok (if g then a' else b') w := by simp [asBool]
  refine ⟨_, hrun, ?_⟩
  split at hs
  · injection hs with hs; subst hs
    have hg : g = false := hvc
    subst hg
    exact Gives.still h rfl (by simpa [mkRes] using hb)
  split at hs
  · injection hs with hs; subst hs
    have hg : g = true := hvc
    subst hg
    exact Gives.still h rfl (by simpa [mkRes] using ha)
  split at hs
  · injection hs with hs; subst hs
    simp only [VR] at ha hb; subst ha; subst hb
    exact Gives.still h rfl (by cases g <;> simp [mkRes, VR])
  · split at hs
    · rename_i hk; subst hk
      injection hs with hs; subst hs
      simp only [VR] at ha hb; subst ha; subst hb
      exact Gives.still h rfl (by cases g <;> simp [mkRes, VR])
    · cases hs
  · injection hs with hs; subst hs
    simp only [VR] at ha hb; subst ha; subst hb
    exact Gives.still h rfl (by cases g <;> simp [mkRes, VR])
  · cases hs

def semUn (wr : Bool) (op : UnOp) (x : PV) : Option Res :=
  match op, x with
  | .not, .bool b => some (mkRes True (.bool !b))
  | .neg, .int k n => if k = .i64 && !wr then some (mkRes (inI64 (0 - n)) (.int k (0 - n))) else some (mkRes True (.int k (k.wrap (0 - n))))
  | _, _ => none

theorem sound_un {wr : Bool} (h : HRel E F w) {op : UnOp} {x : PV} {x' : Value} {r : Res} (hs : semUn wr op x = some r) (hvc : r.vc) (hx : VR w (Zn E F w) E x x') : ∃ v', (Op.unary op x').run P w = .ok v' w ∧ Gives E F nx w r v' w := by
  unfold semUn at hs
  split at hs
  · simp only [VR] at hx; subst hx
    injection hs with hs; subst hs
    exact ⟨_, rfl, Gives.still h rfl (by simp [mkRes, VR])⟩
  · simp only [VR] at hx; subst hx
    split at hs
    · rename_i hk; simp only [Bool.and_eq_true, decide_eq_true_eq] at hk; obtain ⟨rfl, _⟩ := hk
      injection hs with hs; subst hs
      refine ⟨_, rfl, Gives.still h rfl ?_⟩
      simp only [mkRes, VR]
      rw [wrap_i64 hvc]
    · injection hs with hs; subst hs
      exact ⟨_, rfl, Gives.still h rfl (by simp [mkRes, VR])⟩
  · cases hs

def semNilCheck (x : PV) : Option Res :=
  match x with
  | .ptr n r c => some (mkRes True (.ptr n r c))
  | .fp wd rs r c => some (mkRes True (.fp wd rs r c))
  | _ => none

def semLen (T : Tys) (F : SF) (t : TypeId) (x : PV) : Option Res :=
  match T.get t with
  | some { k := .str, .. } => match x with | .str s => some (mkRes True (.int .i64 s.length)) | _ => none
  | some { k := .slice _, .. } =>
    match x with
    | .sl _ _ n => some (mkRes True (.int .i64 n))
    | .fs _ rs => some (mkRes True (.int .i64 rs.length))
    | .nilS => some (mkRes True (.int .i64 0))
    | _ => none
  | some { k := .map _ _, .. } =>
    match x with
    | .mp r => match F r with | some (.map _ _ ks _) => some { vc := True, v := .int .i64 ks.length, upd := [], rd := [r] } | _ => none
    | .fm ks _ => some (mkRes True (.int .i64 ks.length))
    | _ => none
  | some { k := .array n _, .. } => some (mkRes True (.int .i64 n))
  | _ => none

theorem sound_len (hT : T.Ok P) (h : HRel E F w) {t ty : TypeId} {x : PV} {x' : Value} {r : Res} (hs : semLen T F t x = some r) (hx : VR w (Zn E F w) E x x') :
    ∃ v', (Builtin.len_ #[t] ty #[x']).run P w = .ok v' w ∧ Gives E F nx w r v' w := by
  unfold semLen at hs
  split at hs
  · rename_i hti
    split at hs
    rotate_left
    · cases hs
    simp only [VR] at hx; subst hx
    injection hs with hs; subst hs
    obtain ⟨z, ht⟩ := hT _ _ hti
    obtain ⟨d, hd, hk⟩ := ht.run_underlying w
    obtain rfl := tk_str hk
    rename_i s
    exact ⟨.int .i64 s.length, by simp only [Builtin.len_, Sem.run_bind, hd, Result.andThen_ok, strV, strV_size]; simp [goInt, hd, strV_size, -ByteArray.size_data], Gives.still h rfl (by simp [mkRes, VR])⟩
  · rename_i e _ _ _ _ _ hti
    obtain ⟨z, ht⟩ := hT _ _ hti
    obtain ⟨d, hd, hk⟩ := ht.run_underlying w
    obtain rfl := tk_slice hk
    split at hs
    · rename_i n row l
      injection hs with hs; subst hs
      have hx' : ∃ a' c', x' = .slice a' l c' := by
        simp only [VR] at hx
        obtain ⟨i, _, h | h⟩ := hx
        · obtain ⟨_, rfl, rfl⟩ := h; exact ⟨_, _, rfl⟩
        · obtain ⟨_, rfl⟩ := h; exact ⟨_, _, rfl⟩
      obtain ⟨a', c', rfl⟩ := hx'
      exact ⟨.int .i64 l, by simp [Builtin.len_, hd, goInt], Gives.still h rfl (by simp [mkRes, VR])⟩
    · rename_i wd rs
      injection hs with hs; subst hs
      simp only [VR] at hx
      obtain ⟨a, cap, rfl, _⟩ := hx
      exact ⟨.int .i64 rs.length, by simp [Builtin.len_, hd, goInt], Gives.still h rfl (by simp [mkRes, VR])⟩
    · injection hs with hs; subst hs
      simp only [VR] at hx; subst hx
      exact ⟨.int .i64 0, by simp [Builtin.len_, hd, goInt], Gives.still h rfl (by simp [mkRes, VR])⟩
    · cases hs
  · rename_i hti
    obtain ⟨z, ht⟩ := hT _ _ hti
    obtain ⟨d, hd, hk⟩ := ht.run_underlying w
    obtain rfl := tk_map hk
    split at hs
    · rename_i rn
      split at hs
      rotate_left
      · cases hs
      rename_i own p ks vs hF
      injection hs with hs; subst hs
      obtain ⟨i, hi, hn, ents, clk, h1, h2, h3⟩ := h.blk _ _ hF
      simp only [VR] at hx
      obtain ⟨j, hj, hjz, rfl⟩ := hx
      rw [hi] at hj; injection hj with hj; subst hj
      refine ⟨.int .i64 ks.length, ?_, Gives.still h rfl (by simp [VR])⟩
      have := (VRl.get h2).1
      simp only [List.length_map, Array.length_toList] at this
      simp [Builtin.len_, hd, getObj, Sem.run, h1, goInt, this]
    · rename_i ks vs
      injection hs with hs; subst hs
      simp only [VR] at hx
      obtain ⟨r, ents, clk, rfl, q1, q2, q3, q4⟩ := hx
      refine ⟨.int .i64 ks.length, ?_, Gives.still h rfl (by simp [mkRes, VR])⟩
      have := (VRl.get q3).1
      simp only [List.length_map, Array.length_toList] at this
      simp [Builtin.len_, hd, getObj, Sem.run, q2, goInt, this]
    · cases hs
  · rename_i hti
    injection hs with hs; subst hs
    obtain ⟨z, ht⟩ := hT _ _ hti
    obtain ⟨d, hd, hk⟩ := ht.run_underlying w
    obtain rfl := tk_array hk
    refine ⟨_, ?_, Gives.still h rfl (by simp only [mkRes, VR]; rfl)⟩
    simp only [Builtin.len_]
    simp [hd, goInt]
  · cases hs

def semMin (isMax : Bool) (a b : PV) : Option Res :=
  match a, b with
  | .int k x, .int k' y => if k = k' then some (mkRes True (.int k (if isMax then max x y else min x y))) else none
  | _, _ => none

theorem sound_min (h : HRel E F w) {ty : TypeId} {ts : Array TypeId} {isMax : Bool} {a b : PV} {a' b' : Value} {r : Res} (hs : semMin isMax a b = some r) (ha : VR w (Zn E F w) E a a') (hb : VR w (Zn E F w) E b b') :
    ∃ v', (if isMax then Builtin.max_ ts ty #[a', b'] else Builtin.min_ ts ty #[a', b']).run P w = .ok v' w ∧ Gives E F nx w r v' w := by
  unfold semMin at hs
  split at hs
  rotate_left
  · cases hs
  rename_i k x k' y
  split at hs
  rotate_left
  · cases hs
  rename_i hk; subst hk
  simp only [VR] at ha hb; subst ha; subst hb
  injection hs with hs; subst hs
  have hE0 : Sx.HRel (fun _ => none) (fun _ => none) w := ⟨fun n b h => (by cases h), fun n m b c i j h => (by cases h)⟩
  obtain ⟨v', r1, r2⟩ := Sx.sound_min (P := P) (nx := 0) (ty := ty) (ts := ts) (isMax := isMax) (a := .int k x) (b := .int k y) (a' := .int k x) (b' := .int k y) (r := Sx.mkRes True (.int k (if isMax then max x y else min x y))) hE0 (by simp [Sx.semMin]) (by simp [Sx.dv]) (by simp [Sx.dv])
  obtain ⟨E', q1, _, _⟩ := r2
  simp only [Sx.mkRes, Sx.dv, Option.some.injEq] at q1
  exact ⟨v', r1, Gives.still h rfl (by simp only [mkRes, VR]; exact q1.symm)⟩
end
end Go.Tx
end
