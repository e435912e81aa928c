/- Lemmas for the walk: U30, U31, U32, U33, U34, U36, U37. -/
import Derived.Test.YtaacfnngodhecaaGreatDoorP09
import Derived.ChangeArms
import Derived.Carry
import Derived.OpenShut
import Derived.ProofKit
set_option linter.all false
section
namespace Go.Tx
open Go.Sx (TK tk cellsOf cellsOf_eq lt_of_get)
def Shp (T : Tys) : Nat → TypeId → List PV → Prop
 | 0, _, _ => False
 | n + 1, t, xs =>
  match T.get t with
  | some ⟨.bool, _, _, _, _, _⟩ => ∃ b, xs = [.bool b]
  | some ⟨.int k, _, _, _, _, _⟩ => ∃ m, xs = [.int k m] ∧ (Lit.int k m).wf = true
  | some ⟨.str, _, _, _, _, _⟩ => ∃ s : List UInt8, xs = [.str s] ∧ s.length ≤ maxLen
  | some ⟨.slice e, _, _, _, _, _⟩ => ∃ wd rs, xs = [.fs wd rs] ∧ rs.length ≤ maxLen ∧ (T.get e).map (·.size) = some wd ∧ ∀ r ∈ rs, Shp T n e r
  | some ⟨.struct fs, _, _, _, _, _⟩ => fs.foldr (fun f k ys => ∃ a b, ys = a ++ b ∧ Shp T n f.2 a ∧ k b) (fun ys => ys = []) xs
  | some ⟨.array m e, _, _, _, _, _⟩ => (List.range m).foldr (fun _ k ys => ∃ a b, ys = a ++ b ∧ Shp T n e a ∧ k b) (fun ys => ys = []) xs
  | _ => False
def plT (T : Tys) : Nat → TypeId → Bool
 | 0, _ => false
 | n + 1, t =>
  match T.get t with
  | some ⟨.bool, _, s, _, _, _⟩ => s == 1
  | some ⟨.int _, _, s, _, _, _⟩ => s == 1
  | some ⟨.str, _, s, _, _, _⟩ => s == 1
  | some ⟨.slice e, _, s, _, _, _⟩ => s == 1 && plT T n e && (match T.get e with | some i => decide (0 < i.size) | none => false)
  | some ⟨.struct fs, _, s, _, _, _⟩ => fs.all (fun f => plT T n f.2) && tile T fs 0 s
  | some ⟨.array m e, _, s, _, _, _⟩ => plT T n e && (match T.get e with | some i => s == m * i.size && decide (0 < i.size) | none => false)
  | _ => false
where
 tile (T : Tys) : List (Nat × TypeId) → Nat → Nat → Bool
  | [], o, s => o == s
  | (a, t) :: l, o, s => a == o && (match T.get t with | some i => tile T l (o + i.size) s | none => false)
section
variable {H : Type} {enc : TypeId × Value → H} {P : Program} {W : World} {spare : Nat → Bool} {held : Bool} {T : Tys}
def Zw (W : World) (b : Nat) : Prop := b < W.heap.size
theorem TOk.und {t : TypeId} {i : TI} {z : Value} (h : TOk P t i z) : ∃ d, P.underlying t = some d ∧ tk d = i.k := h.sx.desc
theorem TOk.cells {t : TypeId} {i : TI} {z : Value} (h : TOk P t i z) : P.cellsOf t = i.size := by
 obtain ⟨x, h1, _, h3, _⟩ := h.sx.info
 simp [Program.cellsOf, h1, h3]
theorem mapM_len {α β : Type} {f : α → Option β} : ∀ {l : List α} {ys : List β}, l.mapM f = some ys → ys.length = l.length ∧ ∀ (i : Nat) (x : α), l[i]? = some x → f x = ys[i]?
 | [], ys, h => by simp at h; subst h; simp
 | a :: l, ys, h => by
  rw [List.mapM_cons] at h
  simp only [Option.bind_eq_bind, Option.bind_eq_some_iff, Option.pure_def, Option.some.injEq] at h
  obtain ⟨y, h1, zs, h2, rfl⟩ := h
  obtain ⟨g1, g2⟩ := mapM_len h2
  refine ⟨by simp [g1], fun i x hx => ?_⟩
  cases i with
  | zero => simp at hx; subst hx; simp [h1]
  | succ i => simp at hx; simpa using g2 i x hx
theorem cells_get {a : Addr} {k : Nat} {cs : List Value} (h : W.cells? 0 a k = some cs) : cs.length = k ∧ ∀ j, j < k → W.cell? (a.add j) = cs[j]? := by
 unfold World.cells? at h
 rw [if_pos (Nat.zero_le _)] at h
 obtain ⟨h1, h2⟩ := mapM_len h
 exact ⟨by simpa using h1, fun j hj => h2 j j (by simp [hj])⟩
theorem tile_pv {n : Nat} (ih : ∀ (t : TypeId) (cs : List Value) (fuel : Nat) (x : DataW H × List MemPlace), plT T n t = true → DataW.trod enc P W 0 spare held fuel t cs = some x → ∃ xs, Shp T n t xs ∧ VRl W (Zw W) Env.no xs cs ∧ ∀ v ∈ cs, v.oneCell' = true)
  (hT : T.Ok P) (fuel : Nat) (cs : List Value) : ∀ (fs : List (Nat × TypeId)) (o : Nat), (∀ f ∈ fs, plT T n f.2 = true) → plT.tile T fs o cs.length = true → (∀ f ∈ fs, ∃ x : DataW H × List MemPlace, DataW.trod enc P W 0 spare held fuel f.2 ((cs.drop f.1).take (P.cellsOf f.2)) = some x) →
  ∃ xs, fs.foldr (fun f k ys => ∃ a b, ys = a ++ b ∧ Shp T n f.2 a ∧ k b) (fun ys => ys = []) xs ∧ VRl W (Zw W) Env.no xs (cs.drop o) ∧ ∀ v ∈ cs.drop o, v.oneCell' = true
 | [], o, _, ht, _ => by
  simp only [plT.tile, beq_iff_eq] at ht
  subst ht
  exact ⟨[], rfl, by simp [VRl], by simp⟩
 | (a, t) :: fs, o, hp, ht, hr => by
  simp only [plT.tile, Bool.and_eq_true, beq_iff_eq] at ht
  obtain ⟨rfl, ht⟩ := ht
  cases hi : T.get t with
  | none => rw [hi] at ht; cases ht
  | some i =>
   rw [hi] at ht
   simp only at ht
   obtain ⟨z, hz⟩ := hT t i hi
   obtain ⟨x, hx⟩ := hr (a, t) (by simp)
   rw [hz.cells] at hx
   obtain ⟨xs, s1, s2, s3⟩ := ih t _ fuel x (hp (a, t) (by simp)) hx
   obtain ⟨ys, r1, r2, r3⟩ := tile_pv ih hT fuel cs fs (a + i.size) (fun f hf => hp f (by simp [hf])) ht (fun f hf => hr f (by simp [hf]))
   have e : cs.drop a = (cs.drop a).take i.size ++ cs.drop (a + i.size) := by
    rw [← List.drop_drop]; exact (List.take_append_drop _ _).symm
   refine ⟨xs ++ ys, ⟨xs, ys, rfl, s1, r1⟩, ?_, ?_⟩
   ·rw [e]; exact VRl.append s2 r2
   ·rw [e]; intro v hv
    rcases List.mem_append.1 hv with hv | hv
    ·exact s3 v hv
    ·exact r3 v hv
theorem arr_pv {n : Nat} {t : TypeId} {k : Nat} {cs : List Value} (g : ∀ i, ∃ xs, (i * k + k ≤ cs.length → Shp T n t xs ∧ VRl W (Zw W) Env.no xs ((cs.drop (i * k)).take k)) ∧ ∀ v ∈ (cs.drop (i * k)).take k, i * k + k ≤ cs.length → v.oneCell' = true) :
  ∀ (m j : Nat), cs.length = (j + m) * k → ∃ xs, (List.range m).foldr (fun _ q ys => ∃ a b, ys = a ++ b ∧ Shp T n t a ∧ q b) (fun ys => ys = []) xs ∧ VRl W (Zw W) Env.no xs (cs.drop (j * k)) ∧ ∀ v ∈ cs.drop (j * k), v.oneCell' = true
 | 0, j, h => by
  have : cs.drop (j * k) = [] := by rw [List.drop_eq_nil_iff]; simp at h; omega
  rw [this]
  exact ⟨[], rfl, by simp [VRl], by simp⟩
 | m + 1, j, h => by
  obtain ⟨ys, r1, r2, r3⟩ := arr_pv g m (j + 1) (by rw [h]; congr 1; omega)
  obtain ⟨xs, s1, s3⟩ := g j
  have hle : j * k + k ≤ cs.length := by
   rw [h, show j + (m + 1) = (j + 1) + m by omega, Nat.add_mul, Nat.succ_mul]; omega
  obtain ⟨s1, s2⟩ := s1 hle
  have e : cs.drop (j * k) = (cs.drop (j * k)).take k ++ cs.drop ((j + 1) * k) := by
   rw [Nat.succ_mul, ← List.drop_drop]; exact (List.take_append_drop _ _).symm
  have hf : (List.range (m + 1)).foldr (fun (_ : Nat) (q : List PV → Prop) ys => ∃ a b, ys = a ++ b ∧ Shp T n t a ∧ q b) (fun ys => ys = []) (xs ++ ys) := by
   have key : ∀ (l l' : List Nat), l.length = l'.length → ∀ zs, l.foldr (fun (_ : Nat) (q : List PV → Prop) ys => ∃ a b, ys = a ++ b ∧ Shp T n t a ∧ q b) (fun ys => ys = []) zs = l'.foldr (fun (_ : Nat) (q : List PV → Prop) ys => ∃ a b, ys = a ++ b ∧ Shp T n t a ∧ q b) (fun ys => ys = []) zs := by
    intro l
    induction l with
    | nil => intro l' h zs; cases l' with
     | nil => rfl
     | cons _ _ => simp at h
    | cons x l ihl => intro l' h zs; cases l' with
     | nil => simp at h
     | cons x' l' =>
      simp only [List.foldr_cons]
      have := ihl l' (by simpa using h)
      simp only [this]
   rw [key (List.range (m + 1)) (0 :: List.range m) (by simp)]
   exact ⟨xs, ys, rfl, s1, r1⟩
  refine ⟨xs ++ ys, hf, ?_, ?_⟩
  ·rw [e]; exact VRl.append s2 r2
  ·rw [e]; intro v hv
   rcases List.mem_append.1 hv with hv | hv
   ·exact s3 v hv hle
   ·exact r3 v hv
end
end Go.Tx
end
section
namespace Go.Tx
open Go.Sx (TK tk cellsOf cellsOf_eq lt_of_get)
section
variable {H : Type} {enc : TypeId × Value → H} {P : Program} {W : World} {spare : Nat → Bool} {held : Bool} {T : Tys}
theorem addr_add_add (a : Addr) (i j : Nat) : (a.add i).add j = a.add (i + j) := by
 unfold Addr.add
 by_cases hi : i = 0 <;> by_cases hj : j = 0 <;> simp [hi, hj, Nat.add_assoc]
theorem cell_at {b o : Nat} {c : Array Value} {e : TypeId} {fz : Nat × Nat} (h : W.heap[b]? = some (.cells c e fz)) (q : Nat) : W.cell? ((⟨b, o, none⟩ : Addr).add q) = c[o + q]? := by
 unfold Addr.add World.cell?
 by_cases hq : q = 0
 ·subst hq; simp [h]
 ·simp [hq, h]
theorem pick_rows {k : Nat} {p : Nat → List PV → Prop} (h : ∀ i, i < k → ∃ x, p i x) : ∃ rs : List (List PV), rs.length = k ∧ ∀ i r, rs[i]? = some r → p i r := by
 induction k with
 | zero => exact ⟨[], rfl, by simp⟩
 | succ k ih =>
  obtain ⟨rs, h1, h2⟩ := ih fun i hi => h i (by omega)
  obtain ⟨x, hx⟩ := h k (by omega)
  refine ⟨rs ++ [x], by simp [h1], fun i r hr => ?_⟩
  by_cases hi : i < k
  ·rw [List.getElem?_append_left (by omega)] at hr; exact h2 i r hr
  ·rw [List.getElem?_append_right (by omega)] at hr
   have : i - rs.length = 0 := by
    have := lt_of_get hr
    simp at this; omega
   rw [this] at hr
   simp at hr
   subst hr
   have : i = k := by omega
   subst this; exact hx
theorem trod_pv (hT : T.Ok P) : ∀ (n : Nat) (t : TypeId) (cs : List Value) (fuel : Nat) (x : DataW H × List MemPlace), plT T n t = true → DataW.trod enc P W 0 spare held fuel t cs = some x → ∃ xs, Shp T n t xs ∧ VRl W (Zw W) Env.no xs cs ∧ ∀ v ∈ cs, v.oneCell' = true := by
 intro n
 induction n with
 | zero => intro t cs fuel x h; cases h
 | succ n ih =>
  intro t cs fuel x hp hd
  unfold plT at hp
  split at hp
  ·rename_i zr s b q ls hg
   obtain ⟨z, hz⟩ := hT t _ hg
   obtain ⟨d, hu, hk⟩ := hz.und
   have : d = .bool := by cases d <;> simp [tk] at hk ⊢
   subst this
   obtain ⟨b, rfl, _⟩ := DataW.trod_bool hu hd
   exact ⟨[.bool b], by unfold Shp; rw [hg]; exact ⟨b, rfl⟩, by simp [VRl, VR], by simp [Value.oneCell']⟩
  ·rename_i k zr s b q ls hg
   obtain ⟨z, hz⟩ := hT t _ hg
   obtain ⟨d, hu, hk⟩ := hz.und
   have : d = .int k := by cases d <;> simp [tk] at hk ⊢; exact hk
   subst this
   obtain ⟨m, rfl, _, hw⟩ := DataW.trod_int hu hd
   exact ⟨[.int k m], by unfold Shp; rw [hg]; exact ⟨m, rfl, hw⟩, by simp [VRl, VR], by simp [Value.oneCell']⟩
  ·rename_i zr s b q ls hg
   obtain ⟨z, hz⟩ := hT t _ hg
   obtain ⟨d, hu, hk⟩ := hz.und
   have : d = .string := by cases d <;> simp [tk] at hk ⊢
   subst this
   obtain ⟨s, rfl, _, hw⟩ := DataW.trod_string hu hd
   exact ⟨[.str s.data.toList], by unfold Shp; rw [hg]; exact ⟨s.data.toList, rfl, by simpa using hw⟩, by simp [VRl, VR, strV], by simp [Value.oneCell']⟩
  ·rename_i e zr s b q ls hg
   obtain ⟨z, hz⟩ := hT t _ hg
   obtain ⟨d, hu, hk⟩ := hz.und
   have : d = .slice e := by cases d <;> simp [tk] at hk ⊢; exact hk
   subst this
   simp only [Bool.and_eq_true] at hp
   obtain ⟨⟨_, hpe⟩, hse⟩ := hp
   cases hie : T.get e with
   | none => rw [hie] at hse; cases hse
   | some ie =>
   rw [hie] at hse
   simp only [decide_eq_true_eq] at hse
   obtain ⟨ze, hze⟩ := hT e _ hie
   have hce := hze.cells
   rcases DataW.trod_slice hu hd with ⟨rfl, _⟩ | ⟨a, len, cap, elems, rest, m, _, rfl, _, _, hlc, hcm, hel, hE, _⟩
   ·refine ⟨[.fs ie.size []], by unfold Shp; rw [hg]; exact ⟨ie.size, [], rfl, by simp, by rw [hie]; rfl, by simp⟩, ?_, by simp [Value.oneCell']⟩
    simp only [VRl, VR]
    exact ⟨_, [], rfl, ⟨none, 0, rfl, by simp, by simp, hse, by simp, .inl trivial⟩, rfl⟩
   ·have hrow : ∀ i, i < len → ∃ row, Shp T n e row ∧ ∃ csi, csi.length = ie.size ∧ (∀ j, j < ie.size → W.cell? (a.add (i * ie.size + j)) = csi[j]?) ∧ VRl W (Zw W) Env.no row csi ∧ ∀ v ∈ csi, v.oneCell' = true := by
     intro i hi
     have h1 := hE i hi
     rw [hce] at h1
     have hlt : i < elems.length := by omega
     rw [List.getElem?_eq_getElem hlt] at h1
     simp only [Option.bind_eq_some_iff] at h1
     obtain ⟨csi, c1, c2⟩ := h1
     obtain ⟨g1, g2⟩ := cells_get c1
     obtain ⟨row, s1, s2, s3⟩ := ih e csi m _ hpe c2
     exact ⟨row, s1, csi, g1, fun j hj => by rw [← addr_add_add]; exact g2 j hj, s2, s3⟩
    obtain ⟨rs, hl, hrs⟩ := pick_rows hrow
    refine ⟨[.fs ie.size rs], ?_, ?_, by simp [Value.oneCell']⟩
    ·unfold Shp; rw [hg]
     refine ⟨ie.size, rs, rfl, by omega, by rw [hie]; rfl, fun r hr => ?_⟩
     obtain ⟨i, hi⟩ := List.mem_iff_getElem?.1 hr
     exact (hrs i r hi).1
    ·have hlen : ∀ row ∈ rs, row.length = ie.size := by
      intro r hr
      obtain ⟨i, hi⟩ := List.mem_iff_getElem?.1 hr
      obtain ⟨_, csi, g1, _, g3, _⟩ := hrs i r hi
      rw [← (VRl.get g3).1, g1]
     simp only [VRl, VR]
     refine ⟨_, [], rfl, ⟨some a, cap, by rw [hl], by omega, hcm, hse, hlen, ?_⟩, rfl⟩
     rcases Nat.eq_zero_or_pos len with h0 | h0
     ·left; exact List.eq_nil_of_length_eq_zero (by omega)
     right
     have h00 : ∃ v, W.cell? a = some v := by
      obtain ⟨row, _, csi, g1, g2, _⟩ := hrow 0 h0
      have := g2 0 hse
      rw [List.getElem?_eq_getElem (by omega)] at this
      exact ⟨csi[0]'(by omega), by simpa [Addr.add] using this⟩
     obtain ⟨v0, hv0⟩ := h00
     obtain ⟨b, o, sp⟩ := a
     have : ∃ c el fz, W.heap[b]? = some (.cells c el fz) ∧ sp = none := by
      unfold World.cell? at hv0
      simp only at hv0
      split at hv0
      ·rename_i c el fz hb
       refine ⟨c, el, fz, hb, ?_⟩
       cases sp with
       | none => rfl
       | some y => simp at hv0
      ·cases hv0
     obtain ⟨c, el, fz, hb, rfl⟩ := this
     refine ⟨b, o, c, el, fz, rfl, ?_, hb, ?_⟩
     ·show b < W.heap.size
      rcases Nat.lt_or_ge b W.heap.size with h | h
      ·exact h
      ·rw [Array.getElem?_eq_none h] at hb; cases hb
     ·rw [VRr_iff hlen]
      intro r row cc y hr hc
      obtain ⟨_, csi, g1, g2, g3, g4⟩ := hrs r row hr
      obtain ⟨v, q1, q2⟩ := (VRl.get g3).2 cc y hc
      have hlt : cc < ie.size := by have := lt_of_get q1; omega
      have := g2 cc hlt
      rw [cell_at hb, q1] at this
      exact ⟨v, this, g4 v (List.mem_of_getElem? q1), q2⟩
  ·rename_i fs zr s b q ls hg
   obtain ⟨z, hz⟩ := hT t _ hg
   obtain ⟨d, hu, hk⟩ := hz.und
   obtain ⟨ar, rfl⟩ : ∃ ar, d = .struct ar := by cases d <;> simp [tk] at hk ⊢
   simp only [tk, TK.struct.injEq] at hk
   obtain ⟨ys, m, _, _, hl, hyl, hf⟩ := DataW.trod_struct hu hd
   rw [hz.cells] at hl
   simp only [Bool.and_eq_true, List.all_eq_true] at hp
   obtain ⟨hp1, hp2⟩ := hp
   simp only at hl
   obtain ⟨xs, s1, s2, s3⟩ := tile_pv ih hT m cs fs 0 hp1 (by rw [hl]; exact hp2) (by
    intro f hfm
    rw [← hk] at hfm
    simp only [List.mem_map] at hfm
    obtain ⟨fd, hfd, rfl⟩ := hfm
    obtain ⟨i, hi⟩ := List.mem_iff_getElem?.1 hfd
    have h1 := hf i fd (by simpa using hi)
    have hlt : i < ys.length := by rw [hyl]; simpa using lt_of_get hi
    rw [List.getElem?_eq_getElem hlt] at h1
    exact ⟨_, h1⟩)
   exact ⟨xs, by unfold Shp; rw [hg]; exact s1, by simpa using s2, by simpa using s3⟩
  ·rename_i k e zr s b q ls hg
   obtain ⟨z, hz⟩ := hT t _ hg
   obtain ⟨d, hu, hk⟩ := hz.und
   have : d = .array k e := by cases d <;> simp [tk] at hk ⊢; exact hk
   subst this
   simp only [Bool.and_eq_true] at hp
   obtain ⟨hpe, hse⟩ := hp
   cases hie : T.get e with
   | none => rw [hie] at hse; cases hse
   | some ie =>
   rw [hie] at hse
   simp only [Bool.and_eq_true, beq_iff_eq, decide_eq_true_eq] at hse
   obtain ⟨hse, hpos⟩ := hse
   obtain ⟨ze, hze⟩ := hT e _ hie
   have hce := hze.cells
   have hct := hz.cells
   simp only at hct
   obtain ⟨ys, m, _, _, hl, y1, y2⟩ := DataW.trod_array hu hd
   rw [hct] at hl
   rw [hce] at y2
   have hlk : cs.length = (0 + k) * ie.size := by rw [hl, hse]; simp
   have g : ∀ i, ∃ xs, (i * ie.size + ie.size ≤ cs.length → Shp T n e xs ∧ VRl W (Zw W) Env.no xs ((cs.drop (i * ie.size)).take ie.size)) ∧ ∀ v ∈ (cs.drop (i * ie.size)).take ie.size, i * ie.size + ie.size ≤ cs.length → v.oneCell' = true := by
    intro i
    by_cases hi : i < k
    ·have h1 := y2 i hi
     rw [List.getElem?_eq_getElem (by rw [y1]; exact hi)] at h1
     obtain ⟨xs, s1, s2, s3⟩ := ih e _ m _ hpe h1
     exact ⟨xs, fun _ => ⟨s1, s2⟩, fun v hv _ => s3 v hv⟩
    ·refine ⟨[], fun h => absurd h ?_, fun v hv h => absurd h ?_⟩ <;>
     ·rw [hlk, Nat.zero_add]
      have h1 : (k + 1) * ie.size ≤ (i + 1) * ie.size := Nat.mul_le_mul_right _ (by omega)
      rw [Nat.succ_mul, Nat.succ_mul] at h1
      omega
   obtain ⟨xs, s1, s2, s3⟩ := arr_pv g k 0 hlk
   exact ⟨xs, by unfold Shp; rw [hg]; exact s1, by simpa using s2, by simpa using s3⟩
  ·cases hp
theorem callFunc_land {f : FuncId} {fn : Func} {args : Array Value} {K : Value → World → Prop} (h1 : P.funcs[f]? = some fn) (h2 : fn.body.isNone = false) (h3 : (fn.name == "runtime.NumGoroutine") = false) (h : Lands P K ((callFunc f args).run P W)) : Calls P f args W fun e w'' => ∃ v, e = .returned v ∧ K v w'' := by
 rw [callFunc_run h1 h2 h3] at h
 exact h
theorem hrel_no : HRel Env.no (fun _ => none) W := ⟨fun n b h => (by cases h), fun n m b c i j h => (by cases h)⟩
theorem zn_no : Zn Env.no (fun _ => none) W = Zw W := by
 funext b
 apply propext
 exact ⟨fun h => h.1, fun h => ⟨h, fun n c i hn => by cases hn⟩⟩
theorem law_of_con {f : FuncId} {fn : Func} {xs : List PV} (hc : Con P f xs (fun _ => none) 0 0 0 (.bool true) [] []) {args : List Value} (hv : VRl W (Zw W) Env.no xs args) (h1 : P.funcs[f]? = some fn) (h2 : fn.body.isNone = false) (h3 : (fn.name == "runtime.NumGoroutine") = false) :
  Calls P f args.toArray W fun e w' => e = .returned (.bool true) ∧ Go.RowKit.Below W.heap.size W w' := by
 have h := hc.2 (fun _ => none) (fun _ _ => rfl) Env.no W args hrel_no (fun _ _ _ => rfl) (fun _ _ => rfl) (by rw [zn_no]; exact hv)
 have h := callFunc_land h1 h2 h3 h
 refine Calls.mono h ?_
 rintro e w' ⟨v, rfl, E', q1, q2, _⟩
 simp only [VR] at q1
 subst q1
 exact ⟨rfl, ⟨q2.os, q2.tape, q2.output, q2.size, fun k hk => q2.keep k hk fun n b i hn => by cases hn⟩⟩
section
variable {n : Nat} {t : TypeId} {xs zr : List PV} {s b : Nat} {q : Bool} {ls : List (Nat × TypeId)}
theorem Shp.bool (hg : T.get t = some ⟨.bool, zr, s, b, q, ls⟩) (h : Shp T (n + 1) t xs) : ∃ b, xs = [.bool b] := by unfold Shp at h; rw [hg] at h; exact h
theorem Shp.int {k : IntKind} (hg : T.get t = some ⟨.int k, zr, s, b, q, ls⟩) (h : Shp T (n + 1) t xs) : ∃ m, xs = [.int k m] ∧ (Lit.int k m).wf = true := by unfold Shp at h; rw [hg] at h; exact h
theorem Shp.str (hg : T.get t = some ⟨.str, zr, s, b, q, ls⟩) (h : Shp T (n + 1) t xs) : ∃ s : List UInt8, xs = [.str s] ∧ s.length ≤ maxLen := by unfold Shp at h; rw [hg] at h; exact h
theorem Shp.slice {e : TypeId} (hg : T.get t = some ⟨.slice e, zr, s, b, q, ls⟩) (h : Shp T (n + 1) t xs) : ∃ wd rs, xs = [.fs wd rs] ∧ rs.length ≤ maxLen ∧ (T.get e).map (·.size) = some wd ∧ ∀ r ∈ rs, Shp T n e r := by unfold Shp at h; rw [hg] at h; exact h
theorem Shp.struct {fs : List (Nat × TypeId)} (hg : T.get t = some ⟨.struct fs, zr, s, b, q, ls⟩) (h : Shp T (n + 1) t xs) : fs.foldr (fun f k ys => ∃ a b, ys = a ++ b ∧ Shp T n f.2 a ∧ k b) (fun ys => ys = []) xs := by unfold Shp at h; rw [hg] at h; exact h
theorem Shp.array {m : Nat} {e : TypeId} (hg : T.get t = some ⟨.array m e, zr, s, b, q, ls⟩) (h : Shp T (n + 1) t xs) : (List.range m).foldr (fun _ k ys => ∃ a b, ys = a ++ b ∧ Shp T n e a ∧ k b) (fun ys => ys = []) xs := by unfold Shp at h; rw [hg] at h; exact h
end
theorem trod_arg (hT : T.Ok P) {n : Nat} {t : TypeId} {v : Value} {d : DataW H} {ps : List MemPlace} (hp : plT T n t = true) (h : DataW.Trod enc P W 0 spare held t v d ps) :
  ∃ xs, Shp T n t xs ∧ VRl W (Zw W) Env.no xs v.cells.toList ∧ ∀ u ∈ v.cells.toList, u.oneCell' = true := by
 obtain ⟨fuel, hf⟩ := h
 exact trod_pv hT n t _ fuel _ hp hf
theorem vr_agg {xs : List PV} {cs : Array Value} (h : VRl W (Zw W) Env.no xs cs.toList) (h1 : ∀ u ∈ cs.toList, u.oneCell' = true) : VR W (Zw W) Env.no (.agg xs) (.agg cs) := by
 simp only [VR]
 exact ⟨cs.toList, by simp, h1, h⟩
end
end Go.Tx
end
section
namespace Go.Tx
open Go.ChangeShapes Go.WideShapes Go.ChangeAt Go.RowKit
section
variable {H : Type} {enc : TypeId × Value → H} {P : Program} {W W' : World}
theorem trodAll_below (hl : laidOutB P = true) (hb : Below W.heap.size W W') : ∀ (ts : List TypeId) (vs : List Value) (ds : List (DataW H)) (ps : List MemPlace), (∀ t ∈ ts, P.readableRec t = true ∧ t < P.types.size) → (∀ x ∈ ps, x.block < W.heap.size) → DataW.TrodAll enc P W 0 (fun _ => true) true ts vs ds ps →
  DataW.TrodAll enc P W' 0 (fun b => decide (b < W.heap.size)) true ts vs ds ps
 | [], [], [], ps, _, _, h => h
 | t :: ts, v :: vs, d :: ds, ps, ht, hp, h => by
  obtain ⟨p, q, h1, h2, rfl⟩ := h
  refine ⟨p, q, Below.trod hl (ht t (by simp)).1 (ht t (by simp)).2 h1 hb (fun x hx => hp x (by simp [hx])), trodAll_below hl hb ts vs ds q (fun u hu => ht u (by simp [hu])) (fun x hx => hp x (by simp [hx])) h2, rfl⟩
 | [], _ :: _, _, _, _, _, h => h.elim
 | [], [], _ :: _, _, _, _, h => h.elim
 | _ :: _, [], _, _, _, _, h => h.elim
 | _ :: _, _ :: _, [], _, _, _, h => h.elim
theorem post_below {f : Func} {s : ChangeSpec} {apart fresh handsOn : Bool} {args : Array Value} {ds : List (DataW H)} {before : List MemPlace} {tb : TypeId}
  (hW : DataW.Whole enc P f.params.toList s.vars apart W args.toList ds [] before) (hv : s.vars = []) (hres : f.resultTypes = #[tb]) (hb4 : P.underlying tb = some .bool)
  (h1 : (s.fn H (ds ++ [])).results = [.lit (.bool true)]) (h2 : (s.fn H (ds ++ [])).args = ds) (h3 : (s.fn H (ds ++ [])).vars = [])
  (hl : laidOutB P = true) (hpar : ∀ t ∈ f.params.toList, P.readableRec t = true ∧ t < P.types.size) (hb : Below W.heap.size W W') :
  s.post enc P f apart fresh handsOn false W args (.bool true) W' := by
 have hlt : ∀ p ∈ before, p.block < W.heap.size := fun p hp => by simpa using hW.lt p hp
 have hW2 := hW
 obtain ⟨p, q, hA, hV, hpq, _, _⟩ := hW2
 rw [hv] at hV
 obtain ⟨_, rfl⟩ := trodVars_none hV
 rw [List.append_nil] at hpq
 subst hpq
 refine ⟨ds, [], before, [], before, [], hW, ?_, ?_, ?_, hb.frame _, fun h => by cases h⟩
 ·rw [h1, hres]
  exact trodAll_mk1 (shut_bool hb4 _)
 ·rw [h2]
  exact trodAll_below hl hb _ _ _ _ hpar hlt hA
 ·rw [h3, hv]
  exact rfl
end
end Go.Tx
end
section
namespace Go.Tx
attribute [go_sem ↓] regVX_live regVX_dies regVD_live callVD_live v_skip v_ret v_exit v_seq v_cond v_block v_loop v_region v_regionD v_range v_scope v_label noGotoQ thenQ blockQ x_nil x_cons o_any o_calm xs_nil xs_cons os_any brB_tt brB_ff brB_tf brB_ft vcK_app regK_app regKD_app restK_app callK_app restS_app regS_app seqK_app ycK_app
attribute [go_sem] regVD_live callVD_live nilT nilL nilB yldT cut3 unsetT semClear semCopy eqAr initT setG semOp evalT guardVal semCall semLoad semLoadR semStore semAlloc semBox semField semIndexAddr semIndex semPart semSlice semExtract isUndef semPick semNilCheck semUn semConv semConv2 sameBytes semS2A flat1 semBuild fillL fillR semBuildSlice semMakeSlice semLen semMin semAppend semAppend2 semAppendZ srcRows semMakeMap semLookup semMapUpdate lookRes vals partsV optVal boundOf mkRes putT dstOk Option.all_some Option.all_none updH setH Tx.look SF.upd SF.set putAt cellsP isAggT Go.Sx.isAggK semBin eqCell eqFs eqSt semInt ofV ofVl keys undefP zeroP nf nfl nm_eq List.map List.length List.replicate List.getD_cons_zero List.getD_cons_succ List.set_cons_zero List.set_cons_succ List.cons_append List.nil_append List.append_nil List.drop_zero List.drop_succ_cons List.drop_nil List.take_succ_cons List.take_zero List.take_nil List.contains List.elem Bool.and_true Bool.true_and Bool.or_false Bool.false_or Bool.and_false Bool.false_and Bool.or_true Bool.true_or Bool.not_true Bool.not_false Bool.false_eq_true if_true if_false true_and and_true false_and Option.map_some Option.map_none Option.bind_some Option.bind_none Option.getD_some Option.isSome_some Option.isSome_none List.getElem?_cons_zero List.getElem?_cons_succ beq_self_eq_true bne_self_eq_false decide_true decide_false Value.oneCell' List.all_cons List.all_nil List.foldl_cons List.foldl_nil Go.Sx.notYield Int.toNat_natCast forall_const false_implies Nat.zero_mul Nat.add_zero Nat.zero_add semSliceData semUString List.contains_cons
attribute [go_sem_proc] Nat.reduceSub Nat.reduceAdd Nat.reduceMul Nat.reduceEqDiff Nat.reduceLT Nat.reduceLeDiff Nat.reduceBEq Nat.reduceBNe reduceIte reduceCtorEq Int.reduceToNat String.reduceEq
end Go.Tx
end
section
namespace Go.Tx
open Go.Sx (lt_of_get)
theorem keys_unown (F : SF) : ∀ (l : List Nm) (n : Nm), n ∈ keys (unown F l) → n ∈ l
 | [], _, h => by simp [unown, keys] at h
 | m :: l, n, h => by
  simp only [unown, keys, List.map_append, List.mem_append] at h
  rcases h with h | h
  ·have : n = m := by
    split at h <;> simp at h <;> exact h
   simp [this]
  ·exact List.mem_cons_of_mem _ (keys_unown F l n h)
theorem StepR.freeze {E : Env} {F : SF} {w : World} (h : HRel E F w) {n : Nm} {e : TypeId} {wd : Nat} {o : Bool} {rs rs1 : List (List PV)} (hn : F n = some (.rows e wd o false rs)) (hw : WkLL F rs rs1) (hne : n ∉ wkNLL rs rs1) :
  StepR E F w E ((F.upd (unown F (wkNLL rs rs1))).set n (.rows e wd o false rs1)) w := by
 generalize hns : wkNLL rs rs1 = ns at hne ⊢
 have hle : SLe (F.upd (unown F ns)) F := unown_le F ns
 have hS := StepR.less h hle
 have hFn : F.upd (unown F ns) n = some (.rows e wd o false rs) := by
  rw [upd_eq, setAll_not (fun hk => hne (keys_unown F ns n hk))]; exact hn
 let F4 : SF := (F.upd (unown F ns)).set n (.rows e wd o false rs1)
 have hown : ∀ m b, F4 m = some b → b.own = true → ∃ c, F m = some c ∧ c.own = true := by
  intro m b hb ho
  simp only [F4, SF.set] at hb
  split at hb
  ·rename_i he
   subst he
   injection hb with hb; subst hb
   exact ⟨_, hn, ho⟩
  ·exact ⟨b, hle.own hb ho, ho⟩
 have hown3 : ∀ m b, F4 m = some b → b.own = true → ∃ c, (F.upd (unown F ns)) m = some c ∧ c.own = true := by
  intro m b hb ho
  simp only [F4, SF.set] at hb
  split at hb
  ·rename_i he
   subst he
   injection hb with hb; subst hb
   exact ⟨_, hFn, ho⟩
  ·exact ⟨b, hb, ho⟩
 have hlive : ∀ m b, F4 m = some b → b.live = true → ∃ c, F m = some c ∧ c.live = true := by
  intro m b hb ho
  simp only [F4, SF.set] at hb
  split at hb
  ·rename_i he
   subst he
   exact ⟨_, hn, rfl⟩
  ·rcases hle m b hb with rfl | h1 | ⟨_, _, _, _, h1, _⟩ | ⟨_, _, _, h1, _⟩
   ·cases ho
   ·exact ⟨b, h1, ho⟩
   ·exact ⟨_, h1, rfl⟩
   ·exact ⟨_, h1, rfl⟩
 have hzone : ∀ q, Zn E (F.upd (unown F ns)) w q → Zn E F4 w q := by
  rintro q ⟨k1, k2⟩
  refine ⟨k1, fun m b i hm ho hi hz => ?_⟩
  obtain ⟨c, c1, c2⟩ := hown3 m b hm ho
  exact k2 m c i c1 c2 hi hz
 have hX : Ext E w (Zn E (F.upd (unown F ns)) w) E w (Zn E F4 w) := ⟨Env.le.refl _, hzone, fun _ _ => rfl⟩
 have hrel : HRel E F4 w := by
  refine ⟨fun m b hm => ?_, fun m1 m2 b c i j h1 h2 h12 ho hl hi hj hz1 hz2 => ?_⟩
  ·by_cases hmn : m = n
   ·subst hmn
    have hb : b = .rows e wd o false rs1 := by
     simp only [F4, SF.set, if_true] at hm; injection hm with hm; exact hm.symm
    subst hb
    obtain ⟨i, hi, hor⟩ := h.blk m _ hn
    refine ⟨i, hi, ?_⟩
    rcases hor with ⟨z1, rfl, z3, z4⟩ | ⟨hz, hRr⟩
    ·refine .inl ⟨z1, ?_, z3, z4⟩
     cases rs1 with
     | nil => rfl
     | cons a l => simp [WkLL] at hw
    ·refine .inr ⟨hz, ?_⟩
     obtain ⟨cs, fz, b1, b2, b3, b4⟩ := hRr.cells
     obtain ⟨l1, l2⟩ := wkLL_get hw
     have hlen1 : ∀ row ∈ rs1, row.length = wd := by
      intro row hrow
      obtain ⟨r, hr⟩ := List.getElem?_of_mem hrow
      have hlt := lt_of_get hr
      have hr0 := List.getElem?_eq_getElem (l := rs) (i := r) (by omega)
      obtain ⟨k1, _⟩ := l2 r _ row hr0 hr
      rw [← (wkL_get k1).1]
      exact hRr.len _ (List.mem_of_getElem? hr0)
     refine ⟨hRr.wd_eq, hRr.o0, hRr.wd_pos, hlen1, by rw [← l1]; exact hRr.le, hRr.cap, cs, fz, b1, b2, b3, ?_⟩
     refine (VRr_iff hlen1).2 fun r row1 c y hr1 hc1 => ?_
     have hlt := lt_of_get hr1
     have hr0 := List.getElem?_eq_getElem (l := rs) (i := r) (by omega)
     obtain ⟨k1, k2⟩ := l2 r _ row1 hr0 hr1
     obtain ⟨k3, k4⟩ := wkL_get k1
     have hct := lt_of_get hc1
     have hc0 := List.getElem?_eq_getElem (l := rs[r]) (i := c) (by omega)
     obtain ⟨k5, k6⟩ := k4 c _ y hc0 hc1
     obtain ⟨u, a1, a2, a3⟩ := (VRr_iff hRr.len).1 b4 r _ c _ hr0 hc0
     refine ⟨u, a1, a2, ?_⟩
     have hno : ∀ m ∈ wkN (rs[r])[c] y, ∀ c, (F.upd (unown F ns)) m = some c → c.own = false := fun m hm c hc => unown_own (by rw [← hns]; exact k2 m (k6 m hm)) hc
     exact VR.mono hX _ _ (wk_vr h hle _ y u k5 hno a3)
   ·have hm' : (F.upd (unown F ns)) m = some b := by simp only [F4, SF.set, if_neg hmn] at hm; exact hm
    exact (hS.rel.blk m b hm').mono hX fun _ _ _ => rfl
  ·obtain ⟨c1, d1, d2⟩ := hown m1 b h1 ho
   obtain ⟨c2, e1, e2⟩ := hlive m2 c h2 hl
   exact h.sep m1 m2 c1 c2 i j d1 e1 h12 d2 e2 hi hj hz1 hz2
 refine ⟨Env.le.refl _, hrel, rfl, rfl, rfl, Nat.le_refl _, fun _ _ _ => rfl, fun m b i hm ho hi hz => ?_⟩
 obtain ⟨c, c1, c2⟩ := hown m b hm ho
 exact .inr ⟨m, c, i, c1, c2, hi, hz, rfl⟩
theorem upd_append (l l' : List (Nm × SBlk)) (F : SF) : F.upd (l ++ l') = (F.upd l).upd l' := by
 induction l generalizing F with
 | nil => rfl
 | cons a l ih => obtain ⟨n, b⟩ := a; exact ih _
theorem Con.frz {P : Program} {f : FuncId} {args : List PV} {F : SF} {L nx top : Nat} {v : PV} {upd : List (Nm × SBlk)} {rd : List Nm} {n : Nm} {e : TypeId} {wd : Nat} {o : Bool} {rs rs1 : List (List PV)} (hn : F n = some (.rows e wd o false rs)) (hw : WkLL F rs rs1) (hne : n ∉ wkNLL rs rs1)
  (hc : Con P f args (F.upd (unown F (wkNLL rs rs1) ++ [(n, .rows e wd o false rs1)])) L nx top v upd rd) : Con P f args F L nx top v (unown F (wkNLL rs rs1) ++ [(n, .rows e wd o false rs1)] ++ upd) (n :: (wkNLL rs rs1 ++ rd)) := by
 refine ⟨hc.1, fun F2 hF2 E w args' hR hfr hdp hv => ?_⟩
 have hu : unown F2 (wkNLL rs rs1) = unown F (wkNLL rs rs1) := by
  have : ∀ l : List Nm, (∀ m ∈ l, F2 m = F m) → unown F2 l = unown F l := by
   intro l
   induction l with
   | nil => intro _; rfl
   | cons m l ih => intro h; simp only [unown, h m (by simp), ih (fun q hq => h q (by simp [hq]))]
  exact this _ (fun m hm => hF2 m (by simp [hm]))
 have hw2 : WkLL F2 rs rs1 := by
  have : ∀ a b : List (List PV), (∀ m ∈ wkNLL a b, F2 m = F m) → WkLL F a b → WkLL F2 a b := by
   intro a
   induction a with
   | nil => intro b _ h; cases b <;> simp [WkLL] at h ⊢
   | cons r a ih =>
    intro b hm h
    cases b with
    | nil => simp [WkLL] at h
    | cons r' b =>
     simp only [WkLL] at h ⊢
     exact ⟨wkL_congr h.1 (fun m hq => hm m (by simp [wkNLL, hq])), ih b (fun m hq => hm m (by simp [wkNLL, hq])) h.2⟩
  exact this _ _ (fun m hm => hF2 m (by simp [hm])) hw
 have hS := StepR.freeze hR ((hF2 n (by simp)).trans hn) hw2 hne
 rw [hu] at hS
 have hF4 : ∀ G : SF, G.upd (unown F (wkNLL rs rs1) ++ [(n, .rows e wd o false rs1)]) = (G.upd (unown F (wkNLL rs rs1))).set n (.rows e wd o false rs1) := fun G => by rw [upd_append]; rfl
 rw [← hF4] at hS
 have hL := hc.2 (F2.upd (unown F (wkNLL rs rs1) ++ [(n, .rows e wd o false rs1)])) (fun m hm => by rw [upd_eq, upd_eq]; exact setAll_at (hF2 m (by simp [hm]))) E w args' hS.rel hfr hdp (VRl.mono hS.ext _ _ hv)
 have conv : ∀ v' w', CGives E (F2.upd (unown F (wkNLL rs rs1) ++ [(n, .rows e wd o false rs1)])) w L nx top v upd v' w' → CGives E F2 w L nx top v (unown F (wkNLL rs rs1) ++ [(n, .rows e wd o false rs1)] ++ upd) v' w' := by
  rintro v' w' ⟨E', q1, q2, q3⟩
  unfold CGives
  rw [upd_append _ upd]
  exact ⟨E', q1, hS.trans q2, q3⟩
 unfold Lands Sx.Lands at hL ⊢
 split at hL
 ·exact conv _ _ hL
 ·exact conv _ _ hL
 ·intro cs
  obtain ⟨e, w', fr, ⟨v', he, hK⟩, hrest⟩ := hL cs
  exact ⟨e, w', fr, ⟨v', he, conv _ _ hK⟩, hrest⟩
 ·exact hL
theorem Sub.mem {L : Nat} {F0 : SF} {t : List (Option PV)} {H H' : List (Nm × SBlk)} {nx : Nat} (h : ∀ (E : Env) (w : World), HRel E (look F0 H) w → StepR E (look F0 H) w E (look F0 H') w) : Sub L F0 ⟨t, H, nx⟩ ⟨t, H', nx⟩ := by
 intro B E0 w0 E a w hd0 hR
 have hS := h E w hR.step.rel
 refine ⟨E, hR.step.trans hS, ⟨by simpa using hR.tmps.size, fun i v hv => ?_⟩, hR.marks.mono hS.ext, hR.news⟩
 obtain ⟨v', a1, a2⟩ := hR.tmps.val i v hv
 exact ⟨v', a1, VR.mono hS.ext _ _ a2⟩
theorem Sub.freeze {L : Nat} {F0 : SF} {t : List (Option PV)} {H : List (Nm × SBlk)} {nx : Nat} {n : Nm} {e : TypeId} {wd : Nat} {o : Bool} {rs : List (List PV)} (rs1 : List (List PV)) (hn : look F0 H n = some (.rows e wd o false rs)) (hw : WkLL (look F0 H) rs rs1) (hne : n ∉ wkNLL rs rs1) :
  Sub L F0 ⟨t, H, nx⟩ ⟨t, updH H (unown (look F0 H) (wkNLL rs rs1) ++ [(n, .rows e wd o false rs1)]), nx⟩ :=
 Sub.mem fun E w hR => by
  rw [look_updH, upd_append]
  exact StepR.freeze hR hn hw hne
end Go.Tx
end
section
namespace Go.Tx
theorem Sub.frz {L : Nat} {F0 : SF} {t : List (Option PV)} {H : List (Nm × SBlk)} {nx : Nat} (d : Nat) {v : PV} (v' : PV) (hd : t[d]? = some (some v)) (hw : Wk (look F0 H) v v') :
  Sub L F0 ⟨t, H, nx⟩ ⟨t.set d (some v'), updH H (unown (look F0 H) (wkN v v')), nx⟩ := by
 intro B E0 w0 E a w hd0 hR
 have hle := unown_le (look F0 H) (wkN v v')
 have hS := StepR.less hR.step.rel hle
 refine ⟨E, by rw [look_updH]; exact hR.step.trans hS, ⟨by simpa using hR.tmps.size, fun i x hx => ?_⟩, by rw [look_updH]; exact hR.marks.mono hS.ext, hR.news⟩
 simp only [TF, List.getD_eq_getElem?_getD, List.getElem?_set] at hx
 rw [look_updH]
 by_cases hi : d = i
 ·subst hi
  rw [if_pos rfl] at hx
  have hlt := Sx.lt_of_get hd
  rw [if_pos hlt] at hx
  simp at hx; subst hx
  obtain ⟨y, a1, a2⟩ := hR.tmps.val d v (by simp [TF, List.getD_eq_getElem?_getD, hd])
  exact ⟨y, a1, wk_vr hR.step.rel hle _ _ _ hw (fun n hn c hc => unown_own hn hc) a2⟩
 ·rw [if_neg hi] at hx
  obtain ⟨y, a1, a2⟩ := hR.tmps.val i x (by simpa [TF, List.getD_eq_getElem?_getD] using hx)
  exact ⟨y, a1, VR.mono hS.ext _ _ a2⟩
end Go.Tx
end
section
namespace Go.Tx
open Go.Sx (lt_of_get)
def Cx.dying (C : Cx) (ch : List PanicEntry) (dq : St → Prop) : Cx := ⟨C.P, C.T, C.ms, C.wr, C.L, C.ro, C.ys, C.B, true, ch, dq⟩
section
variable (C : Cx) (ch : List PanicEntry) (dq : St → Prop)
theorem dying_P : (C.dying ch dq).P = C.P := rfl
theorem dying_T : (C.dying ch dq).T = C.T := rfl
theorem dying_ms : (C.dying ch dq).ms = C.ms := rfl
theorem dying_wr : (C.dying ch dq).wr = C.wr := rfl
theorem dying_L : (C.dying ch dq).L = C.L := rfl
theorem dying_ro : (C.dying ch dq).ro = C.ro := rfl
theorem dying_ys : (C.dying ch dq).ys = C.ys := rfl
theorem dying_Ok (h : C.Ok) : (C.dying ch dq).Ok := ⟨h.T, h.A, h.mixed, h.ms⟩
end
theorem dying_VX (C : Cx) (ch : List PanicEntry) (dq : St → Prop) (x p : Prop) : RegVX (C.dying ch dq) x p = p := rfl
attribute [go_sem ↓] dying_VX
attribute [go_sem] dying_P dying_T dying_ms dying_wr dying_L dying_ro dying_ys
def PostD (F : SF) (L : Nat) (upd : List (Nm × SBlk)) (st : St) : Prop := UpdN L 0 [] (look F st.H) upd ∧ UpdAll L (keys upd) st.H
theorem rel_init {C : Cx} {E : Env} {F3 : SF} {w : World} {args : List PV} {args' : List Value} (hR : HRel E F3 w) (hargs : VRl w (Zn E F3 w) E args args') (n : Nat) :
  Rel [] C.L F3 E w E ⟨initT args n, [], 0⟩ { tmps := args'.toArray ++ Array.replicate (n - args'.toArray.size) undef, defers := [] } w := by
 obtain ⟨hlen, hget⟩ := VRl.get hargs
 refine ⟨StepR.refl hR, ⟨by simp [initT, hlen], fun i x hx => ?_⟩, MarksOk.nil, fun n h1 h2 => absurd h1 h2⟩
 simp only [TF, initT] at hx
 rw [List.getD_eq_getElem?_getD] at hx
 by_cases hi : i < args.length
 ·rw [List.getElem?_append_left (by simpa using hi)] at hx
  simp only [List.getElem?_map] at hx
  cases hy : args[i]? with
  | none => rw [hy] at hx; cases hx
  | some y =>
   rw [hy] at hx; simp at hx; subst hx
   obtain ⟨v', a1, a2⟩ := hget i y hy
   refine ⟨v', ?_, a2⟩
   rw [Array.getElem?_append_left (by simp; omega)]
   simpa using a1
 ·rw [List.getElem?_append_right (by simp; omega)] at hx
  simp only [List.length_map, List.getElem?_replicate] at hx
  split at hx
  rotate_left
  ·cases hx
  rename_i hlt
  simp at hx; subst hx
  refine ⟨undef, ?_, VR_undef⟩
  rw [Array.getElem?_append_right (by simp; omega)]
  simp only [List.size_toArray, Array.getElem?_replicate]
  rw [if_pos (by omega)]
theorem dgives_of {E E' : Env} {F2 : SF} {w w' : World} {L : Nat} {st : St} {upd : List (Nm × SBlk)} (hR : HRel E F2 w) (hdp : ∀ n : Nm, L < n.l → E n = none)
  (hstep0 : StepR E (cutF L F2) w E' (look (cutF L F2) st.H) w') (hnews : ∀ n, E n = none → E' n ≠ none → n.l = L + 1) (h : PostD (cutF L F2) L upd st) : DGives E F2 w upd w' := by
 have := cgives_of (k := 0) (nx := 0) (news := []) (v0 := .tup []) (v1 := .tup []) (v' := .tuple #[]) hR (fun j _ h => by omega) hdp hstep0 hnews rfl (by simp) (by simp [Wk, WkL]) (by simp [wkN, wkNL]) (by simp [nmA, nmAL]) h.1 h.2 (by simp only [VR, VRl]; exact ⟨[], rfl, rfl⟩)
 obtain ⟨E2, _, h2, h3⟩ := this
 refine ⟨E2, h2, fun n hn => ?_⟩
 cases he : E2 n with
 | none => rfl
 | some x => have := h3 n hn (by rw [he]; simp); omega
theorem IDCon.body {C : Cx} (hC : C.Ok) (hro : C.ro = none) {ch : List PanicEntry} {f : FuncId} {fn : Func} {c : Code} (hf : C.P.funcs[f]? = some fn) (hb : fn.body = some c) (hnum : (fn.name == "runtime.NumGoroutine") = false) {args : List PV} {F : SF} {L : Nat} (hL : C.L = L + 1) {upd : List (Nm × SBlk)} {rd : List Nm} (hrd : ∀ n ∈ rd, n.l ≤ L)
  (H : ∀ F3 : SF, (∀ n ∈ rd, F3 n = F n) → (∀ n : Nm, L < n.l → F3 n = none) → vcC (C.dying ch (PostD F3 L upd)) F3 c ⟨initT args fn.ntmps, [], 0⟩ (fun _ _ => False)) (hB : C.B = [] := by rfl) : IDCon C.P C.ys ch f args F L upd rd := by
 refine fun F2 hF2 E w args' hR hdp hargs hy => ?_
 let F3 : SF := cutF L F2
 have h3 : SLe F3 F2 := cutF_le L F2
 have hS0 := StepR.less hR h3
 have hvc := H F3 (fun n hn => by simp only [F3, cutF]; rw [if_pos (hrd n hn)]; exact hF2 n hn) (fun n hn => by simp only [F3, cutF]; rw [if_neg (by omega)])
 have hdom : Dom0 C.L E := fun n hn => hdp n (by omega)
 have htp := vcC_ok' (w0 := w) (dying_Ok C ch _ hC) (show Dom0 (C.dying ch (PostD F3 L upd)).L E from hdom) (show InvY (C.dying ch (PostD F3 L upd)).ys E F3 w from hy.step hR hS0) hS0.rel c _ _ hvc
 have hrel := rel_init (C := C) hS0.rel (VRl.mono hS0.ext _ _ hargs) fn.ntmps
 have hcall : Calls C.P f args'.toArray w fun e w' => e = .panicked ch ∧ DGives E F2 w upd w' := by
  rw [← callsIn_wide (n := 0)]
  refine callsIn_of_wp_marks hf hb trivial ?_
  have hW : W C.ro = Fence.wide := by rw [hro]; rfl
  rw [← hW]
  refine wpIn_mono (htp _ _ E (by show Rel C.B C.L _ _ _ _ _ _ _; rw [hB]; exact hrel)) ?_
  rintro e a w' ⟨st, hq, E', hRl⟩
  rcases hq with hq | ⟨_, rfl, hq⟩
  ·exact hq.elim
  obtain ⟨Ds, d1, d2, d3⟩ := hRl.marks
  show LeavesInM (W C.ro) 0 C.P fn a.tmps _ a.defers (.panicking ch) w'
  rw [d2]
  refine marks_out (by simp) Ds w' d1 (fun D hD => ⟨(d3 D hD).1, (d3 D hD).2.2⟩) hRl.step hRl.tmps fun w'' s1 s2 => ?_
  show LeavesInM (W C.ro) 0 C.P fn a.tmps _ C.B (.panicking ch) w''
  rw [hB]
  exact ⟨rfl, dgives_of hR hdp s1 (fun n h1 h2 => by have := (hRl.news n h1 h2).1; exact this.trans hL) hq⟩
 have hrun : (callFunc f args'.toArray).run C.P w = .ok (.enter f args'.toArray) w := callFunc_run hf (by rw [hb]; rfl) hnum
 rw [hrun]
 exact hcall
theorem DCon.body {C : Cx} (hC : C.Ok) (hro : C.ro = none) (hys : C.ys = []) {ch : List PanicEntry} {f : FuncId} {fn : Func} {c : Code} (hf : C.P.funcs[f]? = some fn) (hb : fn.body = some c) (hnum : (fn.name == "runtime.NumGoroutine") = false) {args : List PV} {F : SF} {L : Nat} (hL : C.L = L + 1) {upd : List (Nm × SBlk)} {rd : List Nm} (hrd : ∀ n ∈ rd, n.l ≤ L)
  (H : ∀ F3 : SF, (∀ n ∈ rd, F3 n = F n) → (∀ n : Nm, L < n.l → F3 n = none) → vcC (C.dying ch (PostD F3 L upd)) F3 c ⟨initT args fn.ntmps, [], 0⟩ (fun _ _ => False)) (hB : C.B = [] := by rfl) : DCon C.P ch f args F L upd rd := by
 have h := IDCon.body hC hro (ch := ch) hf hb hnum hL hrd H hB
 rw [hys] at h
 exact h.con
theorem DCon.agree {P : Program} {ch : List PanicEntry} {f : FuncId} {args : List PV} {F F' : SF} {L : Nat} {upd : List (Nm × SBlk)} {rd : List Nm} (h : DCon P ch f args F L upd rd) (ha : ∀ n ∈ rd, F' n = F n) : DCon P ch f args F' L upd rd :=
 fun F2 h2 => h F2 fun n hn => (h2 n hn).trans (ha n hn)
theorem CallVD.same {C : Cx} {p : Prop} {F0 : SF} {t : List (Option PV)} {H : List (Nm × SBlk)} {nx : Nat} {f : FuncId} {asx : List PV} (hd : C.dies = true) {upd : List (Nm × SBlk)} {rd : List Nm} (hc : DCon C.P C.ch f asx (look F0 H) C.L upd rd) (hk : C.dq ⟨t, updH H upd, nx⟩) : CallVD C p F0 t H nx f asx := by
 obtain ⟨h1, h2⟩ := wkL_refl (look F0 H) asx
 refine .die hd ⟨asx, upd, rd, h1, ?_, ?_⟩
 ·rw [h2]; exact hc
 ·rw [h2]; exact hk
theorem PostD.of {F : SF} {L : Nat} {upd : List (Nm × SBlk)} {st : St} (h1 : UpdN L 0 [] (look F st.H) upd) (h2 : UpdAll L (keys upd) st.H) : PostD F L upd st := ⟨h1, h2⟩
end Go.Tx
end
