/- Lemmas for the walk: T7, T8, Sx14m, T9, T10. -/
import Derived.Test.YtfhhbkehlfipgaaGreatP03
import Derived.Laws.Append
import Derived.Laws.AppendOwn
import Derived.MapKept
import Derived.Lib.Builder
set_option linter.all false
section
namespace Go.Tx
open Go.Sx (TK tk isAggK cellsOf cellsOf_eq cells_eq run_newVar lt_of_get getD_of_lt inI64 tk_slice tk_int tk_str addr_add setA setA_size setA_get heap_setCells heap_setCells_ne size_setCells os_setCells)
section
variable {P : Program} {T : Tys} {E : Env} {F : SF} {nx : Nm} {w : World} {Z : Nat → Prop}
theorem VRr.cells {wd o : Nat} {rs : List (List PV)} {cs : Array Value} (hwd : 0 < wd) (hl : ∀ row ∈ rs, row.length = wd) (hv : VRr w Z E rs o cs) :
  ∃ news : List Value, news.length = rs.length * wd ∧ (∀ (j : Nat) (u : Value), news[j]? = some u → cs[o + j]? = some u ∧ u.oneCell' = true) ∧ VRr w Z E rs 0 news.toArray := by
 have key : ∀ k, k < rs.length * wd → ∃ v, cs[o + k]? = some v ∧ v.oneCell' = true := by
  intro k hk
  have hq : k / wd < rs.length := by rw [Nat.div_lt_iff_lt_mul hwd]; exact hk
  have hrow := List.getElem?_eq_getElem (l := rs) hq
  have hl2 := hl _ (List.mem_of_getElem? hrow)
  have hmod := Nat.mod_lt k hwd
  have hc := List.getElem?_eq_getElem (l := rs[k / wd]) (i := k % wd) (by omega)
  obtain ⟨v, a1, a2, _⟩ := (VRr_iff hl).1 hv _ _ _ _ hrow hc
  refine ⟨v, ?_, a2⟩
  rw [← a1]
  congr 1
  have := Nat.div_add_mod k wd
  rw [Nat.mul_comm] at this
  omega
 let news : List Value := (List.range (rs.length * wd)).map fun k => (cs[o + k]?).getD undef
 have hg : ∀ k, k < rs.length * wd → ∃ v, news[k]? = some v ∧ cs[o + k]? = some v ∧ v.oneCell' = true := by
  intro k hk
  obtain ⟨v, a1, a2⟩ := key k hk
  exact ⟨v, by simp [news, hk, a1], a1, a2⟩
 have hlen : news.length = rs.length * wd := by simp [news]
 refine ⟨news, hlen, fun j u hj => ?_, (VRr_iff hl).2 fun r row c x hr hc => ?_⟩
 ·have := lt_of_get hj
  obtain ⟨v, a1, a2, a3⟩ := hg j (by omega)
  rw [hj] at a1; injection a1 with a1; subst a1
  exact ⟨a2, a3⟩
 ·obtain ⟨v, a1, a2, a3⟩ := (VRr_iff hl).1 hv r row c x hr hc
  have hrl := lt_of_get hr
  have hcl := lt_of_get hc
  have hrw := hl _ (List.mem_of_getElem? hr)
  have hm : (r + 1) * wd ≤ rs.length * wd := Nat.mul_le_mul_right _ hrl
  have he : (r + 1) * wd = r * wd + wd := Nat.succ_mul r wd
  obtain ⟨v', b1, b2, b3⟩ := hg (r * wd + c) (by omega)
  rw [a1] at b2; injection b2 with b2; subst b2
  exact ⟨v, by simpa using b1, a2, a3⟩
theorem VRr.join {wd : Nat} {rs xs : List (List PV)} {cs ds : List Value} {o : Nat} {c0 : Array Value} (hl : ∀ row ∈ rs, row.length = wd) (hx : ∀ row ∈ xs, row.length = wd) (hcs : cs.length = rs.length * wd)
  (h0 : ∀ j, j < cs.length → c0[o + j]? = cs[j]?) (h1 : ∀ j, j < ds.length → c0[o + cs.length + j]? = ds[j]?) (h : VRr w Z E rs 0 cs.toArray) (k : VRr w Z E xs 0 ds.toArray) : VRr w Z E (rs ++ xs) o c0 := by
 have hl' : ∀ row ∈ rs ++ xs, row.length = wd := by
  intro r hr
  rcases List.mem_append.1 hr with hr | hr
  ·exact hl r hr
  ·exact hx r hr
 refine (VRr_iff hl').2 fun r row c x hr hc => ?_
 by_cases hrl : r < rs.length
 ·rw [List.getElem?_append_left hrl] at hr
  obtain ⟨v, a1, a2, a3⟩ := (VRr_iff hl).1 h r row c x hr hc
  have := lt_of_get (l := cs) (by simpa using a1)
  exact ⟨v, by rw [h0 _ (by omega)]; simpa using a1, a2, a3⟩
 ·rw [List.getElem?_append_right (by omega)] at hr
  obtain ⟨v, a1, a2, a3⟩ := (VRr_iff hx).1 k _ row c x hr hc
  have := lt_of_get (l := ds) (by simpa using a1)
  have hsub : (r - rs.length) * wd + rs.length * wd = r * wd := by rw [← Nat.add_mul]; congr 1; omega
  refine ⟨v, ?_, a2, a3⟩
  rw [show o + (r * wd + c) = o + cs.length + ((r - rs.length) * wd + c) by omega, h1 _ (by omega)]
  simpa using a1
def srcRows (T : Tys) (F : SF) (size : Nat) (xt : TypeId) (x : PV) : Option (Prop × Bool × List (List PV) × List Nm) :=
 match T.get xt with
 | some { k := .slice _, .. } =>
  match x with
  | .sl m r l =>
   match F m with
   | some (.rows _ wd _ p rs) => if wd == size then some (r + l ≤ rs.length, p, (rs.drop r).take l, [m]) else none
   | _ => none
  | .fs wd rs => if wd == size then some (True, true, rs, []) else none
  | .nilS => some (True, true, [], [])
  | _ => none
 | some { k := .str, .. } =>
  match x with
  | .str l => if size == 1 then some (True, true, l.map fun b => [.int .u8 b.toNat], []) else none
  | _ => none
 | _ => none
def semAppend (T : Tys) (F : SF) (nx : Nm) (t xt : TypeId) (s x : PV) : Option Res :=
 match T.get t with
 | some { k := .slice e, .. } =>
  match T.get e with
  | some ei =>
   if ei.size == 0 then none else
   match srcRows T F ei.size xt x with
   | none => none
   | some (q, px, xs, rd) =>
    match s with
    | .nilS =>
     some { vc := q ∧ xs.length * ei.bytes ≤ 140737488355328 ∧ xs.length ≤ 9223372036854775807, v := .sl nx 0 xs.length, upd := [(nx, .rows e ei.size true px xs)], rd := rd }
    | .sl n 0 l =>
     match F n with
     | some (.rows e' wd true p rs) =>
      if e' == e && wd == ei.size then
       if rd.contains n then
        some { vc := q ∧ l + xs.length ≤ rs.length, v := .sl n 0 (l + xs.length), upd := [(n, .rows e' wd true (p && px) (rs.take l ++ xs ++ rs.drop (l + xs.length)))], rd := n :: rd }
       else
        some { vc := q ∧ l = rs.length ∧ (rs.length + xs.length) * ei.bytes ≤ 140737488355328 ∧ rs.length + xs.length ≤ 9223372036854775807, v := .sl nx 0 (l + xs.length), upd := [(n, .dead), (nx, .rows e ei.size true (p && px) (rs ++ xs))], rd := n :: rd }
      else none
     | _ => none
    | _ => none
  | none => none
 | _ => none
def Src (P : Program) (w : World) (Z : Nat → Prop) (E : Env) (size : Nat) (x' : Value) (xs : List (List PV)) : Prop :=
 (Builtin.lenOf x').run P w = .ok xs.length w ∧
 ∃ news : List Value, news.length = xs.length * size ∧ (∀ u ∈ news, u.oneCell' = true) ∧ VRr w Z E xs 0 news.toArray ∧ (∀ row ∈ xs, row.length = size) ∧
  ∀ w2 : World, w2.heap = w.heap → (Builtin.firstCells size xs.length x').run P w2 = .ok news.toArray w2
theorem src_rows (P : Program) {b o e wd cap : Nat} {cs : Array Value} {fz : Nat × Nat} {rs : List (List PV)} (hb : w.heap[b]? = some (.cells cs e fz)) (hwd : 0 < wd) (hl : ∀ row ∈ rs, row.length = wd) (hv : VRr w Z E rs o cs) :
  Src P w Z E wd (.slice (some ⟨b, o, none⟩) rs.length cap) rs := by
 obtain ⟨news, a1, a2, a3⟩ := VRr.cells hwd hl hv
 refine ⟨rfl, news, a1, fun u hu => ?_, a3, hl, fun w2 hw2 => ?_⟩
 ·obtain ⟨j, hj⟩ := List.getElem?_of_mem hu
  exact (a2 j u hj).2
 ·refine run_firstCells_some w2 wd rs.length ⟨b, o, none⟩ rs.length cap news a1 fun j u hj => ?_
  rw [addr_add]
  simp only [World.cell?, hw2, hb, Option.isSome_none, Bool.false_eq_true, if_false]
  exact (a2 j u hj).1
theorem src_empty (P : Program) (size : Nat) (a : Option Addr) (cap : Nat) : Src P w Z E size (.slice a 0 cap) [] := by
 refine ⟨rfl, [], by simp, by simp, by simp [VRr], by simp, fun w2 _ => ?_⟩
 cases a with
 | none => rfl
 | some a => simp [Builtin.firstCells, loadCells, loadCellsFrom]
theorem src_of (hT : T.Ok P) (h : HRel E F w) {size : Nat} (hsz : 0 < size) {xt : TypeId} {x : PV} {x' : Value} {q : Prop} {px : Bool} {xs : List (List PV)} {rd : List Nm} (hs : srcRows T F size xt x = some (q, px, xs, rd)) (hq : q) (hx : VR w (Zn E F w) E x x') :
  Src P w (Zn E F w) (EE E px) size x' xs ∧ ((∃ e2, P.underlying xt = some (.slice e2)) ∨ P.underlying xt = some .string) := by
 unfold srcRows at hs
 split at hs
 ·rename_i e _ _ _ _ _ hxt
  obtain ⟨z, ht⟩ := hT _ _ hxt
  obtain ⟨d, hd, hk⟩ := ht.sx.desc
  obtain rfl := tk_slice hk
  refine ⟨?_, .inl ⟨_, hd⟩⟩
  split at hs
  ·rename_i m r l
   split at hs
   rotate_left
   ·cases hs
   rename_i e0 wd own p rs hF
   split at hs
   rotate_left
   ·cases hs
   rename_i hw
   simp only [beq_iff_eq] at hw; subst hw
   simp only [Option.some.injEq, Prod.mk.injEq] at hs
   obtain ⟨rfl, rfl, rfl, _⟩ := hs
   simp only [VR] at hx
   obtain ⟨i, hi, hor⟩ := hx
   rcases hor with ⟨hz, rfl, rfl⟩ | ⟨hz, rfl⟩
   ·simpa using src_empty P wd i.za 0
   ·have hR := rowsRel_of h hF hi hz
    obtain ⟨cs, fz, b1, b2, b3, b4⟩ := hR.cells
    have hlen : ((rs.drop r).take l).length = l := by simp; omega
    have hl' : ∀ row ∈ (rs.drop r).take l, row.length = wd := fun row hr => hR.len row (List.mem_of_mem_drop (List.mem_of_mem_take hr))
    have := src_rows P (cap := i.n - r) b1 hsz hl' (VRr.drop hR.len b4)
    rw [hlen] at this
    by_cases hl0 : l = 0
    ·subst hl0
     simpa using src_empty P wd (some ⟨i.b, i.o + offS i r 0, none⟩) (i.n - r)
    ·rw [offS_pos (by omega), hR.wd_eq]
     exact this
  ·rename_i wd rs
   split at hs
   rotate_left
   ·cases hs
   rename_i hw
   simp only [beq_iff_eq] at hw; subst hw
   simp only [Option.some.injEq, Prod.mk.injEq] at hs
   obtain ⟨_, rfl, rfl, _⟩ := hs
   simp only [VR] at hx
   obtain ⟨a, cap, rfl, h1, h2, h3, h4, hor⟩ := hx
   rcases hor with rfl | ⟨b, o, cs, e, fz, rfl, q1, q2, q3⟩
   ·exact src_empty P wd a cap
   ·exact src_rows P q2 h3 h4 q3
  ·simp only [Option.some.injEq, Prod.mk.injEq] at hs
   obtain ⟨_, rfl, rfl, _⟩ := hs
   simp only [VR] at hx; subst hx
   exact src_empty P size none 0
  ·cases hs
 ·rename_i _ _ _ _ _ hxt
  obtain ⟨z, ht⟩ := hT _ _ hxt
  obtain ⟨d, hd, hk⟩ := ht.sx.desc
  obtain rfl := tk_str hk
  refine ⟨?_, .inr hd⟩
  split at hs
  rotate_left
  ·cases hs
  rename_i l
  split at hs
  rotate_left
  ·cases hs
  rename_i hw
  simp only [beq_iff_eq] at hw; subst hw
  simp only [Option.some.injEq, Prod.mk.injEq] at hs
  obtain ⟨_, rfl, rfl, _⟩ := hs
  simp only [VR] at hx; subst hx
  refine ⟨?_, l.map fun b => .int .u8 b.toNat, by simp, by simp [Value.oneCell'], ?_, by simp, fun w2 _ => ?_⟩
  ·simp [Builtin.lenOf, strV, ByteArray.size]
  ·refine (VRr_iff (wd := 1) (by simp)).2 fun r row c v hr hc => ?_
   rw [List.getElem?_map] at hr
   cases hb : l[r]? with
   | none => rw [hb] at hr; cases hr
   | some b =>
    rw [hb] at hr; simp only [Option.map_some, Option.some.injEq] at hr; subst hr
    have hc0 : c = 0 := by have := lt_of_get hc; simp at this; exact this
    subst hc0
    simp at hc; subst hc
    exact ⟨.int .u8 b.toNat, by simp [hb], rfl, by simp [VR]⟩
  ·simp only [Builtin.firstCells, strV, Sem.run_pure]
   congr 1
   have : (ByteArray.extract ⟨l.toArray⟩ 0 (l.map fun b => [PV.int .u8 b.toNat]).length) = ⟨l.toArray⟩ := by
    rw [strV_extract]; simp
   rw [this]
   simp
 ·cases hs
theorem run_append_grow' (t xt ty e : TypeId) (i : TypeInfo) (z : Value) (ht : P.underlying t = some (.slice e)) (hd : (∃ e2, P.underlying xt = some (.slice e2)) ∨ P.underlying xt = some .string) (hi : P.info? e = some i) (hz : i.zero = some z)
  (base : Option Addr) (sLen sCap : Nat) (olds news : List Value) (x' : Value) (n : Nat) (hlen : (Builtin.lenOf x').run P w = .ok n w)
  (hold : (Builtin.firstCells i.size sLen (.slice base sLen sCap)).run P w.drew = .ok olds.toArray w.drew) (hnew : (Builtin.firstCells i.size n x').run P w.drew = .ok news.toArray w.drew)
  (hg : sCap < sLen + n) (h63 : ((sLen + n : Nat) : Int) ≤ 9223372036854775807) (hfit : Builtin.nextslicecap (sLen + n) sCap * i.bytes ≤ 281474976710656) :
  (Builtin.append_ #[t, xt] ty #[.slice base sLen sCap, x']).run P w =
   .ok (.slice (some ⟨w.heap.size, 0, none⟩) (sLen + n) (grownCap w (sLen + n) sCap e)) (w.drew.alloc (.cells (olds.toArray ++ news.toArray ++ Builtin.zeroCells z.cells (grownCap w (sLen + n) sCap e - (sLen + n))) e)) := by
 have hn : ¬ (sLen + n ≤ sCap) := by omega
 have h63' : ¬ (9223372036854775807 < ((sLen : Int) + (n : Int))) := by omega
 have h48' : ¬ (281474976710656 < Builtin.nextslicecap (sLen + n) sCap * i.bytes) := by omega
 rcases hd with ⟨e2, hd⟩ | hd <;> simp [Builtin.append_, run_underlying ht, run_underlying hd, sizeOf, typeInfo, zeroValue, hi, hz, hlen, hn, h63', h48', Question.forced, hold, hnew, newRow, grownCap] <;> (congr 2; rw [← Array.append_assoc]; simp)
theorem run_append_room' (t xt ty e : TypeId) (i : TypeInfo) (ht : P.underlying t = some (.slice e)) (hd : (∃ e2, P.underlying xt = some (.slice e2)) ∨ P.underlying xt = some .string) (hi : P.info? e = some i)
  (a : Addr) (sLen sCap : Nat) (news : List Value) (x' : Value) (n : Nat) (hlen : (Builtin.lenOf x').run P w = .ok n w) (hnew : (Builtin.firstCells i.size n x').run P w = .ok news.toArray w)
  (hg : sLen + n ≤ sCap) {w' : World} (hst : (storeCells (a.add (sLen * i.size)) news).run P w = .ok () w') :
  (Builtin.append_ #[t, xt] ty #[.slice (some a) sLen sCap, x']).run P w = .ok (.slice (some a) (sLen + n) sCap) w' := by
 rcases hd with ⟨e2, hd⟩ | hd <;> simp [Builtin.append_, run_underlying ht, run_underlying hd, sizeOf, typeInfo, hi, hlen, hg, hnew, hst]
theorem run_append_none' (t xt ty e : TypeId) (i : TypeInfo) (ht : P.underlying t = some (.slice e)) (hd : (∃ e2, P.underlying xt = some (.slice e2)) ∨ P.underlying xt = some .string) (hi : P.info? e = some i)
  (base : Option Addr) (x' : Value) (hlen : (Builtin.lenOf x').run P w = .ok 0 w) (hnew : (Builtin.firstCells i.size 0 x').run P w = .ok #[] w) :
  (Builtin.append_ #[t, xt] ty #[.slice base 0 0, x']).run P w = (match base with | some a => (storeCells a []).run P w | none => .ok () w).andThen fun _ w' => .ok (.slice base 0 0) w' := by
 rcases hd with ⟨e2, hd⟩ | hd <;> cases base <;> simp [Builtin.append_, run_underlying ht, run_underlying hd, sizeOf, typeInfo, hi, hlen, hnew, Addr.add]
end
end Go.Tx
end
section
namespace Go.Tx
open Go.Sx (TK tk isAggK cellsOf cellsOf_eq cells_eq run_newVar lt_of_get getD_of_lt inI64 tk_slice tk_int tk_str addr_add setA setA_size setA_get heap_setCells heap_setCells_ne size_setCells os_setCells)
section
variable {P : Program} {T : Tys} {E : Env} {F : SF} {nx : Nm} {w : World}
theorem StepR.newRows (h : HRel E F w) (hE : E nx = none) {t : TypeId} {wd cap : Nat} {rs : List (List PV)} {cs : List Value} {rest : Array Value} {p : Bool} (hwd : 0 < wd) (hl : ∀ row ∈ rs, row.length = wd) (hcs : cs.length = rs.length * wd)
  (hv : VRr w (Zn E F w) (EE E p) rs 0 cs.toArray) (hle : rs.length ≤ cap) (hcap : cap ≤ maxLen) (hrest : rest.size = (cap - rs.length) * wd) (fz : Nat × Nat) (hfz : ∀ j, j < cap * wd → ¬ (fz.1 ≤ j ∧ j < fz.2)) :
  StepR E F w (E.set nx ⟨w.heap.size, 0, wd, cap, false, none⟩) (F.set nx (.rows t wd true p rs)) (w.alloc (.cells (cs.toArray ++ rest) t fz)) := by
 refine StepR.new h hE _ ⟨w.heap.size, 0, wd, cap, false, none⟩ _ rfl fun Z' hZ => ?_
 have hle' := Env.set_le (i := ⟨w.heap.size, 0, wd, cap, false, none⟩) hE
 have hX : Ext E w (Zn E F w) (E.set nx ⟨w.heap.size, 0, wd, cap, false, none⟩) (w.alloc (.cells (cs.toArray ++ rest) t fz)) Z' := ⟨hle', hZ, fun b hb => RowKit.Below.heap_alloc w _ b hb.1⟩
 have hv' := VRr.mono (hX.EE p) _ _ _ hv
 refine ⟨_, Env.set_self _ _ _, .inr ⟨rfl, rfl, rfl, hwd, hl, hle, hcap, cs.toArray ++ rest, fz, ?_, ?_, ?_, ?_⟩⟩
 ·show (w.heap.push _)[w.heap.size]? = _
  simp
 ·simp only [Array.size_append, List.size_toArray, hcs, hrest, ← Nat.add_mul]
  rw [show rs.length + (cap - rs.length) = cap by omega]
  omega
 ·intro _ j _ hj; exact hfz j (by simpa using hj)
 ·refine (VRr_iff hl).2 fun r row c v hr hc => ?_
  obtain ⟨v', a1, a2, a3⟩ := (VRr_iff hl).1 hv' r row c v hr hc
  have := lt_of_get (l := cs) (by simpa using a1)
  exact ⟨v', by rw [Array.getElem?_append_left (by simp; omega)]; exact a1, a2, a3⟩
theorem StepR.emptyName (h : HRel E F w) (hE : E nx = none) (t : TypeId) {wd : Nat} (hwd : 0 < wd) (p : Bool) (a : Option Addr) : StepR E F w (E.set nx ⟨0, 0, wd, 0, true, a⟩) (F.set nx (.rows t wd true p [])) w := by
 have hle := Env.set_le (i := ⟨0, 0, wd, 0, true, a⟩) hE
 have hN : NewAt E F w (E.set nx ⟨0, 0, wd, 0, true, a⟩) (F.set nx (.rows t wd true p [])) w := by
  refine ⟨hle, rfl, rfl, rfl, Nat.le_refl _, fun _ _ _ => rfl, ?_⟩
  intro n b i hf ho hi hin
  unfold SF.set at hf
  by_cases hn : n = nx
  ·subst hn; rw [Env.set_self] at hi; injection hi with hi; subst hi; cases hin
  ·rw [if_neg hn] at hf; rw [Env.set_ne E _ hn] at hi
   exact .inr ⟨n, b, i, hf, ho, hi, hin, rfl⟩
 refine hN.step ⟨?_, ?_⟩
 ·intro n b hf
  unfold SF.set at hf
  split at hf
  ·rename_i hn; subst hn; injection hf with hf; subst hf
   exact ⟨_, Env.set_self _ _ _, .inl ⟨rfl, rfl, rfl, hwd⟩⟩
  ·exact (h.blk n b hf).mono hN.ext fun _ _ _ => rfl
 ·intro n m b c i j hf hg hnm ho hl hi hj hin hjn
  unfold SF.set at hf hg
  by_cases hn : n = nx
  ·subst hn; rw [Env.set_self] at hi; injection hi with hi; subst hi; cases hin
  ·by_cases hm : m = nx
   ·subst hm; rw [Env.set_self] at hj; injection hj with hj; subst hj; cases hjn
   ·rw [if_neg hn] at hf; rw [if_neg hm] at hg
    rw [Env.set_ne E _ hn] at hi; rw [Env.set_ne E _ hm] at hj
    exact h.sep n m b c i j hf hg hnm ho hl hi hj hin hjn
def SLe (F' F : SF) : Prop := ∀ n b, F' n = some b → b = .dead ∨ F n = some b ∨
 (∃ e wd p rs, F n = some (.rows e wd true p rs) ∧ b = .rows e wd false p rs) ∨ (∃ p ks vs, F n = some (.map true p ks vs) ∧ b = .map false p ks vs)
theorem SLe.refl (F : SF) : SLe F F := fun _ _ h => .inr (.inl h)
theorem SLe.own {F' F : SF} (h : SLe F' F) {n : Nm} {b : SBlk} (hb : F' n = some b) (ho : b.own = true) : F n = some b := by
 rcases h n b hb with rfl | h | ⟨_, _, _, _, _, rfl⟩ | ⟨_, _, _, _, rfl⟩
 ·cases ho
 ·exact h
 ·cases ho
 ·cases ho
theorem SLe.live {F' F : SF} (h : SLe F' F) {n : Nm} {b : SBlk} (hb : F' n = some b) (ho : b.live = true) : ∃ c, F n = some c ∧ c.live = true := by
 rcases h n b hb with rfl | h | ⟨_, _, _, _, h, rfl⟩ | ⟨_, _, _, h, rfl⟩
 ·cases ho
 ·exact ⟨_, h, ho⟩
 ·exact ⟨_, h, rfl⟩
 ·exact ⟨_, h, rfl⟩
theorem StepR.less (h : HRel E F w) {F' : SF} (hs : SLe F' F) : StepR E F w E F' w := by
 have hN : NewAt E F w E F' w := ⟨Env.le.refl _, rfl, rfl, rfl, Nat.le_refl _, fun _ _ _ => rfl, fun n b i hf ho hi hin => .inr ⟨n, b, i, hs.own hf ho, ho, hi, hin, rfl⟩⟩
 refine hN.step ⟨fun n b hf => ?_, fun n m b c i j hf hg hnm ho hl hi hj hin hjn => ?_⟩
 ·rcases hs n b hf with rfl | h1 | ⟨e, wd, p, rs, h1, rfl⟩ | ⟨p, ks, vs, h1, rfl⟩
  ·trivial
  ·exact (h.blk n b h1).mono hN.ext fun _ _ _ => rfl
  ·obtain ⟨i, hi, hor⟩ := h.blk n _ h1
   refine ⟨i, hi, hor.imp id fun ⟨q1, q2⟩ => ⟨q1, ?_⟩⟩
   have q3 := q2.mono (hN.ext.EE p) rfl
   exact ⟨q3.wd_eq, q3.o0, q3.wd_pos, q3.len, q3.le, q3.cap, let ⟨cs, fz, a1, a2, a3, a4⟩ := q3.cells; ⟨cs, fz, a1, a2, (fun hh => by cases hh), a4⟩⟩
  ·exact (h.blk n _ h1).mono (b := .map true p ks vs) hN.ext fun _ _ _ => rfl
 ·obtain ⟨c', h1, h2⟩ := hs.live hg hl
  exact h.sep n m b c' i j (hs.own hf ho) h1 hnm ho h2 hi hj hin hjn
theorem StepR.forget (h : HRel E F w) (n : Nm) : StepR E F w E (F.set n .dead) w := by
 refine StepR.less h fun m b hb => ?_
 unfold SF.set at hb
 split at hb
 ·injection hb with hb; exact .inl hb.symm
 ·exact .inr (.inl hb)
theorem StepR.extend (h : HRel E F w) (hE : E nx = none) {n : Nm} {e : TypeId} {wd : Nat} {p px : Bool} {rs xs : List (List PV)} {i : BI} (hF : F n = some (.rows e wd true p rs)) (hi : E n = some i) (hn : i.z = false)
  {news : List Value} (hl : news.length = xs.length * wd) (hone : ∀ u ∈ news, u.oneCell' = true) (hv : VRr w (Zn E F w) (EE E px) xs 0 news.toArray) (hxl : ∀ row ∈ xs, row.length = wd) (hroom : rs.length + xs.length ≤ i.n) :
  ∃ w', (storeCells ⟨i.b, i.o + (rs.length * wd), none⟩ news).run P w = .ok () w' ∧
  StepR E F w (E.set nx i) ((F.set n .dead).set nx (.rows e wd true (p && px) (rs ++ xs))) w' := by
 have hR := rowsRel_of h hF hi hn
 obtain ⟨cs, fz, b1, b2, b3, b4⟩ := hR.cells
 have hm : (rs.length + xs.length) * wd ≤ i.n * wd := Nat.mul_le_mul_right _ hroom
 rw [Nat.add_mul] at hm
 have hle := Env.set_le (i := i) hE
 have hlt : i.b < w.heap.size := (h.blk n _ hF).lt rfl hi hn
 have hrun := run_storeCells_cells (P := P) i.b (i.o + rs.length * wd) news 0 w
  (fun j hj => by
   simp only [World.cell?, b1, Option.isSome_none, Bool.false_eq_true, if_false]
   rw [Array.getElem?_eq_getElem (by omega)]; rfl)
  (fun j hj => by
   have := b3 rfl (i.o + rs.length * wd + 0 + j) (by omega) (by omega)
   simp only [World.frozen?, b1]
   simpa using this) hone
 have hheap := heap_setCells i.b e fz news (i.o + rs.length * wd + 0) cs w b1
 have hother := fun k (hk : k ≠ i.b) => heap_setCells_ne i.b k hk news (i.o + rs.length * wd + 0) w
 have hsize := size_setCells i.b news (i.o + rs.length * wd + 0) w
 obtain ⟨hos, htape, hout⟩ := os_setCells i.b news (i.o + rs.length * wd + 0) w
 generalize w.setCells i.b (i.o + rs.length * wd + 0) news = w' at *
 refine ⟨w', hrun, ?_⟩
 have hN : NewAt E F w (E.set nx i) ((F.set n .dead).set nx (.rows e wd true (p && px) (rs ++ xs))) w' := by
  refine ⟨hle, hos, htape, hout, by omega, ?_, ?_⟩
  ·intro k hk hno
   exact hother k (fun e => hno n _ i hF rfl hi hn e.symm)
  ·intro m b q hm' hb hq hqn
   unfold SF.set at hm'
   by_cases hmx : m = nx
   ·subst hmx
    rw [Env.set_self] at hq; injection hq with hq; subst hq
    exact .inr ⟨n, _, i, hF, rfl, hi, hn, rfl⟩
   ·rw [if_neg hmx] at hm'
    rw [Env.set_ne E _ hmx] at hq
    split at hm'
    ·injection hm' with hm'; subst hm'; cases hb
    ·exact .inr ⟨m, b, q, hm', hb, hq, hqn, rfl⟩
 refine hN.step ⟨?_, ?_⟩
 ·intro m b hm'
  unfold SF.set at hm'
  split at hm'
  ·rename_i hmn; subst hmn; injection hm' with hm'; subst hm'
   have hX1 : Ext (EE E p) w (Zn E F w) (EE (E.set m i) (p && px)) w' (Zn (E.set m i) ((F.set n .dead).set m (.rows e wd true (p && px) (rs ++ xs))) w') := by
    refine ⟨?_, hN.ext.zone, hN.ext.heap⟩
    cases p with
    | true => exact Env.no_le _
    | false => exact hle
   have hX2 : Ext (EE E px) w (Zn E F w) (EE (E.set m i) (p && px)) w' (Zn (E.set m i) ((F.set n .dead).set m (.rows e wd true (p && px) (rs ++ xs))) w') := by
    refine ⟨?_, hN.ext.zone, hN.ext.heap⟩
    cases px with
    | true => exact Env.no_le _
    | false => simp only [Bool.and_false]; exact hle
   have v1 := VRr.mono hX1 _ _ _ b4
   have v2 := VRr.mono hX2 _ _ _ hv
   have hxr : ∀ row ∈ rs ++ xs, row.length = wd := by
    intro x hx
    rcases List.mem_append.1 hx with hx | hx
    ·exact hR.len x hx
    ·exact hxl x hx
   refine ⟨i, Env.set_self _ _ _, .inr ⟨hn, hR.wd_eq, hR.o0, hR.wd_pos, hxr, by simpa using hroom, hR.cap, _, fz, hheap, by rw [setA_size]; exact b2, b3, ?_⟩⟩
   refine (VRr_iff hxr).2 fun r row c v hr hc => ?_
   rw [setA_get _ _ _ _ (by omega)]
   by_cases hrl : r < rs.length
   ·rw [List.getElem?_append_left hrl] at hr
    obtain ⟨v', a1, a2, a3⟩ := (VRr_iff hR.len).1 v1 r row c v hr hc
    have hcl := lt_of_get hc
    have hwd := hR.len _ (List.mem_of_getElem? hr)
    have hm2 : (r + 1) * wd ≤ rs.length * wd := Nat.mul_le_mul_right _ hrl
    have he2 : (r + 1) * wd = r * wd + wd := Nat.succ_mul r wd
    rw [if_neg (by omega)]
    exact ⟨v', a1, a2, a3⟩
   ·rw [List.getElem?_append_right (by omega)] at hr
    obtain ⟨v', a1, a2, a3⟩ := (VRr_iff hxl).1 v2 _ row c v hr hc
    have hj := lt_of_get (l := news) (by simpa using a1)
    have hsub : (r - rs.length) * wd + rs.length * wd = r * wd := by rw [← Nat.add_mul]; congr 1; omega
    rw [if_pos (by omega), show i.o + (r * wd + c) - (i.o + rs.length * wd + 0) = (r - rs.length) * wd + c by omega]
    exact ⟨v', by simpa using a1, a2, a3⟩
  ·rename_i hmx
   split at hm'
   ·injection hm' with hm'; subst hm'; trivial
   ·rename_i hmn
    by_cases hl : b.live = true
    rotate_left
    ·cases b <;> first | trivial | simp [SBlk.live] at hl
    refine (h.blk m b hm').mono hN.ext fun j hj hjn => hother _ ?_
    exact fun e => h.sep n m _ b i j hF hm' (fun e => hmn e.symm) rfl hl hi hj hn hjn e.symm
 ·intro m k b d a q hm' hk hmk hb hd ha hq han hqn
  unfold SF.set at hm' hk
  by_cases hmx : m = nx
  ·subst hmx
   rw [Env.set_self] at ha; injection ha with ha; subst ha
   rw [if_neg (fun e => hmk e.symm)] at hk
   rw [Env.set_ne E _ (fun e => hmk e.symm)] at hq
   split at hk
   ·injection hk with hk; subst hk; cases hd
   ·rename_i hkn
    exact h.sep n k _ d i q hF hk (fun e => hkn e.symm) rfl hd hi hq hn hqn
  ·rw [if_neg hmx] at hm'
   rw [Env.set_ne E _ hmx] at ha
   split at hm'
   ·injection hm' with hm'; subst hm'; cases hb
   rename_i hmn
   by_cases hkx : k = nx
   ·subst hkx
    rw [Env.set_self] at hq; injection hq with hq; subst hq
    exact h.sep m n b _ a i hm' hF hmn hb rfl ha hi han hn
   ·rw [if_neg hkx] at hk
    rw [Env.set_ne E _ hkx] at hq
    split at hk
    ·injection hk with hk; subst hk; cases hd
    ·exact h.sep m k b d a q hm' hk hmk hb hd ha hq han hqn
theorem VR_sl {n : Nm} {i : BI} {Z : Nat → Prop} (hi : E n = some i) (hz : i.z = false) (l : Nat) : VR w Z E (.sl n 0 l) (.slice (some ⟨i.b, i.o, none⟩) l i.n) := by
 simp only [VR]
 exact ⟨i, hi, .inr ⟨hz, by simp [offS_zero]⟩⟩
theorem growslice_fits' {n cap bytes : Nat} (h : cap < n) (hb : n * bytes ≤ 140737488355328) : Builtin.nextslicecap n cap * bytes ≤ 281474976710656 := growslice_fits h (by omega)
theorem StepR.splice (h : HRel E F w) {n : Nm} {e : TypeId} {wd : Nat} {p px : Bool} {rs xs : List (List PV)} {i : BI} (hF : F n = some (.rows e wd true p rs)) (hi : E n = some i) (hz : i.z = false)
  {news : List Value} (hl : news.length = xs.length * wd) (hone : ∀ u ∈ news, u.oneCell' = true) (hv : VRr w (Zn E F w) (EE E px) xs 0 news.toArray) (hxl : ∀ row ∈ xs, row.length = wd) {a : Nat} (hroom : a + xs.length ≤ rs.length) :
  ∃ w', (storeCells ⟨i.b, i.o + a * wd, none⟩ news).run P w = .ok () w' ∧ StepR E F w E (F.set n (.rows e wd true (p && px) (rs.take a ++ xs ++ rs.drop (a + xs.length)))) w' := by
 have hR := rowsRel_of h hF hi hz
 obtain ⟨cs, fz, b1, b2, b3, b4⟩ := hR.cells
 have hle := hR.le
 have hm : (a + xs.length) * wd ≤ i.n * wd := Nat.mul_le_mul_right _ (by omega)
 rw [Nat.add_mul] at hm
 have hrun := run_storeCells_cells (P := P) i.b (i.o + a * wd) news 0 w
  (fun j hj => by
   simp only [World.cell?, b1, Option.isSome_none, Bool.false_eq_true, if_false]
   rw [Array.getElem?_eq_getElem (by omega)]; rfl)
  (fun j hj => by
   have := b3 rfl (i.o + a * wd + 0 + j) (by omega) (by omega)
   simp only [World.frozen?, b1]
   simpa using this) hone
 have hheap := heap_setCells i.b e fz news (i.o + a * wd + 0) cs w b1
 have hother := fun k (hk : k ≠ i.b) => heap_setCells_ne i.b k hk news (i.o + a * wd + 0) w
 have hsize := size_setCells i.b news (i.o + a * wd + 0) w
 obtain ⟨hos, htape, hout⟩ := os_setCells i.b news (i.o + a * wd + 0) w
 generalize w.setCells i.b (i.o + a * wd + 0) news = w' at *
 refine ⟨w', hrun, StepR.change h hF rfl rfl hi hz hother hsize hos htape hout fun hX => ?_⟩
 have hX1 : Ext (EE E p) w (Zn E F w) (EE E (p && px)) w' (Zn E (F.set n (.rows e wd true (p && px) (rs.take a ++ xs ++ rs.drop (a + xs.length)))) w') := by
  refine ⟨?_, hX.zone, hX.heap⟩
  cases p with
  | true => exact Env.no_le _
  | false => exact Env.le.refl _
 have hX2 : Ext (EE E px) w (Zn E F w) (EE E (p && px)) w' (Zn E (F.set n (.rows e wd true (p && px) (rs.take a ++ xs ++ rs.drop (a + xs.length)))) w') := by
  refine ⟨?_, hX.zone, hX.heap⟩
  cases px with
  | true => exact Env.no_le _
  | false => simp only [Bool.and_false]; exact Env.le.refl _
 have v1 := VRr.mono hX1 _ _ _ b4
 have v2 := VRr.mono hX2 _ _ _ hv
 have hxr : ∀ row ∈ rs.take a ++ xs ++ rs.drop (a + xs.length), row.length = wd := by
  intro x hx
  rcases List.mem_append.1 hx with hx | hx
  ·rcases List.mem_append.1 hx with hx | hx
   ·exact hR.len x (List.mem_of_mem_take hx)
   ·exact hxl x hx
  ·exact hR.len x (List.mem_of_mem_drop hx)
 have htl : (rs.take a).length = a := by simp; omega
 refine ⟨i, hi, .inr ⟨hz, hR.wd_eq, hR.o0, hR.wd_pos, hxr, by simp; omega, hR.cap, _, fz, hheap, by rw [setA_size]; exact b2, b3, ?_⟩⟩
 refine (VRr_iff hxr).2 fun r row c v hr hc => ?_
 have hcl := lt_of_get hc
 have hwd := hxr _ (List.mem_of_getElem? hr)
 rw [setA_get _ _ _ _ (by omega)]
 by_cases h1 : r < a
 ·rw [List.append_assoc, List.getElem?_append_left (by omega), List.getElem?_take, if_pos h1] at hr
  obtain ⟨v', a1, a2, a3⟩ := (VRr_iff hR.len).1 v1 r row c v hr hc
  have hm2 : (r + 1) * wd ≤ a * wd := Nat.mul_le_mul_right _ h1
  have he2 : (r + 1) * wd = r * wd + wd := Nat.succ_mul r wd
  rw [if_neg (by omega)]
  exact ⟨v', a1, a2, a3⟩
 ·by_cases h2 : r < a + xs.length
  ·rw [List.append_assoc, List.getElem?_append_right (by omega), htl, List.getElem?_append_left (by omega)] at hr
   obtain ⟨v', a1, a2, a3⟩ := (VRr_iff hxl).1 v2 _ row c v hr hc
   obtain ⟨x, rfl⟩ : ∃ x, r = a + x := ⟨r - a, by omega⟩
   rw [Nat.add_sub_cancel_left] at a1
   have hm2 : (x + 1) * wd ≤ xs.length * wd := Nat.mul_le_mul_right _ (by omega)
   have he2 : (x + 1) * wd = x * wd + wd := Nat.succ_mul x wd
   have he3 : (a + x) * wd = a * wd + x * wd := Nat.add_mul a x wd
   rw [if_pos (by omega)]
   refine ⟨v', ?_, a2, a3⟩
   rw [← a1, List.getElem?_toArray]
   congr 1
   omega
  ·rw [List.getElem?_append_right (by simp; omega), List.getElem?_drop] at hr
   have hrr : rs[r]? = some row := by
    rw [← hr]; congr 1; simp; omega
   obtain ⟨v', a1, a2, a3⟩ := (VRr_iff hR.len).1 v1 r row c v hrr hc
   have hm2 : (a + xs.length) * wd ≤ r * wd := Nat.mul_le_mul_right _ (by omega)
   rw [Nat.add_mul] at hm2
   rw [if_neg (by omega)]
   exact ⟨v', a1, a2, a3⟩
theorem StepR.weakP (h : HRel E F w) {n : Nm} {e : TypeId} {wd : Nat} {p px : Bool} (hF : F n = some (.rows e wd true p [])) : StepR E F w E (F.set n (.rows e wd true (p && px) (List.take 0 [] ++ [] ++ List.drop (0 + 0) []))) w := by
 obtain ⟨i, hi, hor⟩ := h.blk n _ hF
 have hset : ∀ m b, (F.set n (.rows e wd true (p && px) (List.take 0 [] ++ [] ++ List.drop (0 + 0) []))) m = some b → ∃ c, F m = some c ∧ c.own = b.own ∧ c.live = b.live := by
  intro m b hm
  unfold SF.set at hm
  split at hm
  ·rename_i he; subst he; injection hm with hm; subst hm; exact ⟨_, hF, rfl, rfl⟩
  ·exact ⟨b, hm, rfl, rfl⟩
 have hzone : ∀ q, Zn E F w q → Zn E (F.set n (.rows e wd true (p && px) (List.take 0 [] ++ [] ++ List.drop (0 + 0) []))) w q := by
  rintro q ⟨k1, k2⟩
  refine ⟨k1, fun m b j hm ho hj hz => ?_⟩
  obtain ⟨c, c1, c2, _⟩ := hset m b hm
  exact k2 m c j c1 (c2.trans ho) hj hz
 refine ⟨Env.le.refl _, ⟨fun m b hm => ?_, fun m k b d a q hm hk hmk hbo hd ha hq han hqn => ?_⟩, rfl, rfl, rfl, Nat.le_refl _, fun _ _ _ => rfl, fun m b j hm ho hj hz => ?_⟩
 ·unfold SF.set at hm
  split at hm
  ·rename_i he; subst he; injection hm with hm; subst hm
   refine ⟨i, hi, ?_⟩
   rcases hor with ⟨q1, q2, q3, q4⟩ | ⟨q1, q2⟩
   ·exact .inl ⟨q1, rfl, q3, q4⟩
   ·obtain ⟨cs, fz, b1, b2, b3, b4⟩ := q2.cells
    exact .inr ⟨q1, q2.wd_eq, q2.o0, q2.wd_pos, by simp, by simp, q2.cap, cs, fz, b1, b2, b3, by simp [VRr]⟩
  ·exact (h.blk m b hm).mono ⟨Env.le.refl _, hzone, fun _ _ => rfl⟩ fun _ _ _ => rfl
 ·obtain ⟨c1, e1, e2, _⟩ := hset m b hm
  obtain ⟨c2, f1, _, f2⟩ := hset k d hk
  exact h.sep m k c1 c2 a q e1 f1 hmk (e2.trans hbo) (f2.trans hd) ha hq han hqn
 ·obtain ⟨c, c1, c2, _⟩ := hset m b hm
  exact .inr ⟨m, c, j, c1, c2.trans ho, hj, hz, rfl⟩
theorem append_empty (hT : T.Ok P) (h : HRel E F w) (hE : E nx = none) {t xt ty e : TypeId} {ei : TI} (hu : P.underlying t = some (.slice e)) (hd : (∃ e2, P.underlying xt = some (.slice e2)) ∨ P.underlying xt = some .string) (hei : T.get e = some ei) (hsz : 0 < ei.size) {x' : Value} {xs : List (List PV)} {px : Bool}
  (hsrc : Src P w (Zn E F w) (EE E px) ei.size x' xs) (hb : xs.length * ei.bytes ≤ 140737488355328) (hm : xs.length ≤ 9223372036854775807) (a : Option Addr) :
  ∃ v' w' E', (Builtin.append_ #[t, xt] ty #[.slice a 0 0, x']).run P w = .ok v' w' ∧ VR w' (Zn E' (F.set nx (.rows e ei.size true px xs)) w') E' (.sl nx 0 xs.length) v' ∧
   StepR E F w E' (F.set nx (.rows e ei.size true px xs)) w' ∧ FreshIn E E' nx := by
 obtain ⟨z, ht⟩ := hT _ _ hei
 obtain ⟨ix, hx, hx0, hx1, hx2⟩ := ht.sx.info
 simp only at hx0 hx1 hx2
 obtain ⟨hlen, news, a1, a2, a3, a4, a5⟩ := hsrc
 by_cases h0 : xs.length = 0
 ·have hxs : xs = [] := List.eq_nil_of_length_eq_zero h0
  subst hxs
  have hnews : news = [] := List.eq_nil_of_length_eq_zero (by simpa using a1)
  subst hnews
  refine ⟨.slice a 0 0, w, E.set nx ⟨0, 0, ei.size, 0, true, a⟩, ?_, ?_, StepR.emptyName h hE e hsz px a, FreshIn.set⟩
  ·rw [run_append_none' t xt ty e ix hu hd hx a x' hlen (by rw [hx1]; exact a5 w rfl)]
   cases a <;> rfl
  ·simp only [VR]; exact ⟨_, Env.set_self _ _ _, .inl ⟨rfl, rfl, rfl⟩⟩
 ·have hold : (Builtin.firstCells ix.size 0 (.slice a 0 0)).run P w.drew = .ok (([] : List Value).toArray) w.drew := by
   cases a with
   | none => rfl
   | some a => simp [Builtin.firstCells, loadCells, loadCellsFrom]
  have hr := run_append_grow' (P := P) (w := w) t xt ty e ix z hu hd hx hx0 a 0 0 [] news x' xs.length hlen hold (by rw [hx1]; exact a5 w.drew rfl) (by omega) (by omega)
   (growslice_fits' (by omega) (by rw [hx2]; simpa using hb))
  have hge := grownCap_ge w (0 + xs.length) 0 e
  have hcm := grownCap_le_maxLen w (0 + xs.length) 0 e (by unfold maxLen; omega)
  have hrest : (Builtin.zeroCells z.cells (grownCap w (0 + xs.length) 0 e - (0 + xs.length))).size = (grownCap w (0 + xs.length) 0 e - xs.length) * ei.size := by
   rw [size_zeroCells, ← Array.length_toList, cellsOf_eq, ht.sz]; simp
  have hS := StepR.newRows (t := e) h hE hsz a4 a1 a3 (by omega) hcm hrest (0, 0) (by simp)
  refine ⟨_, _, E.set nx ⟨w.heap.size, 0, ei.size, grownCap w (0 + xs.length) 0 e, false, none⟩, hr, ?_, ?_, FreshIn.set⟩
  ·simp only [Nat.zero_add]
   exact VR_sl (Env.set_self _ _ _) rfl _
  ·have hS' := hS.drew
   simp only [Nat.zero_add] at hS' ⊢
   rw [show (#[] : Array Value) ++ news.toArray = news.toArray by simp]
   exact hS'
theorem sound_append (hT : T.Ok P) (h : HRel E F w) (hE : E nx = none) {t xt ty : TypeId} {s x : PV} {s' x' : Value} {r : Res} (hs : semAppend T F nx t xt s x = some r) (hvc : r.vc) (hds : VR w (Zn E F w) E s s') (hdx : VR w (Zn E F w) E x x') :
  ∃ v' w', (Builtin.append_ #[t, xt] ty #[s', x']).run P w = .ok v' w' ∧ Gives E F nx w r v' w' := by
 unfold semAppend at hs
 split at hs
 rotate_left
 ·cases hs
 rename_i e _ _ _ _ _ hti
 split at hs
 rotate_left
 ·cases hs
 rename_i ei hei
 split at hs
 ·cases hs
 rename_i hsz
 simp only [beq_iff_eq] at hsz
 obtain ⟨z0, ht0⟩ := hT _ _ hti
 obtain ⟨d, hd, hk⟩ := ht0.sx.desc
 obtain rfl := tk_slice hk
 obtain ⟨z, ht⟩ := hT _ _ hei
 obtain ⟨ix, hx, hx0, hx1, hx2⟩ := ht.sx.info
 simp only at hx0 hx1 hx2
 split at hs
 ·cases hs
 rename_i q px xs rd hsrc
 split at hs
 ·injection hs with hs; subst hs
  obtain ⟨hp, hb, hm⟩ := hvc
  simp only [VR] at hds; subst hds
  obtain ⟨s1, s2⟩ := src_of hT h (by omega) hsrc hp hdx
  obtain ⟨v', w', E', r1, r2, r3, r4⟩ := append_empty hT h hE (ty := ty) hd s2 hei (by omega) s1 hb hm none
  exact ⟨v', w', r1, E', r2, r3, r4⟩
 ·rename_i n l
  split at hs
  rotate_left
  ·cases hs
  rename_i e' wd p rs hF
  split at hs
  rotate_left
  ·cases hs
  rename_i hc2
  simp only [Bool.and_eq_true, beq_iff_eq] at hc2
  obtain ⟨rfl, rfl⟩ := hc2
  split at hs
  ·injection hs with hs; subst hs
   obtain ⟨hp, hroom⟩ := hvc
   obtain ⟨s1, s2⟩ := src_of hT h (by omega) hsrc hp hdx
   simp only [VR] at hds
   obtain ⟨i, hi, hor⟩ := hds
   rcases hor with ⟨hz, hl0, rfl⟩ | ⟨hz, rfl⟩
   ·-- no cells
    have hrs : rs = [] := by
     obtain ⟨j, hj, hq⟩ := h.blk n _ hF
     rw [hi] at hj; injection hj with hj; subst hj
     rcases hq with ⟨_, q, _⟩ | ⟨q, _⟩
     ·exact q
     ·rw [hz] at q; cases q
    subst hrs; subst hl0
    simp only [List.length_nil, Nat.zero_add, Nat.le_zero_eq, List.length_eq_zero_iff] at hroom
    subst hroom
    obtain ⟨hlen, news, a1, a2, a3, a4, a5⟩ := s1
    have hnews : news = [] := List.eq_nil_of_length_eq_zero (by simpa using a1)
    subst hnews
    refine ⟨.slice i.za 0 0, w, ?_, E, ?_, ?_, FreshIn.refl _ _⟩
    ·rw [run_append_none' t xt ty e' ix hd s2 hx i.za x' hlen (by rw [hx1]; exact a5 w rfl)]
     cases i.za <;> rfl
    ·simp only [VR]; exact ⟨i, hi, .inl ⟨hz, rfl, rfl⟩⟩
    ·exact StepR.weakP h hF
   ·have hR := rowsRel_of h hF hi hz
    obtain ⟨hlen, news, a1, a2, a3, a4, a5⟩ := s1
    simp only [offS_zero, Nat.add_zero, Nat.sub_zero]
    have hle := hR.le
    obtain ⟨w', e1, e2⟩ := StepR.splice (P := P) h hF hi hz a1 a2 a3 a4 hroom
    refine ⟨_, w', run_append_room' t xt ty e' ix hd s2 hx ⟨i.b, i.o, none⟩ l i.n news x' xs.length hlen (by rw [hx1]; exact a5 w rfl) (by omega) (by rw [addr_add, hx1]; exact e1), E, ?_, e2, FreshIn.refl _ _⟩
    simp only [VR]
    exact ⟨i, hi, .inr ⟨hz, by simp [offS_zero]⟩⟩
  injection hs with hs; subst hs
  obtain ⟨hp, rfl, hb, hm⟩ := hvc
  obtain ⟨s1, s2⟩ := src_of hT h (by omega) hsrc hp hdx
  simp only [VR] at hds
  obtain ⟨i, hi, hor⟩ := hds
  rcases hor with ⟨hz, hl0, rfl⟩ | ⟨hz, rfl⟩
  ·have hrs : rs = [] := List.eq_nil_of_length_eq_zero hl0
   subst hrs
   have hf := StepR.forget h n
   simp only [List.length_nil, Nat.zero_add, List.nil_append] at hb hm ⊢
   have s1' : Src P w (Zn E (F.set n .dead) w) (EE E (p && px)) ei.size x' xs := by
    obtain ⟨q1, news, q2, q3, q4, q5, q6⟩ := s1
    refine ⟨q1, news, q2, q3, VRr.mono ⟨?_, hf.ext.zone, hf.ext.heap⟩ _ _ _ q4, q5, q6⟩
    cases px with
    | true => exact Env.no_le _
    | false => simp only [Bool.and_false]; exact Env.le.refl _
   obtain ⟨v', w', E', r1, r2, r3, r4⟩ := append_empty hT hf.rel hE (ty := ty) hd s2 hei (by omega) s1' hb hm i.za
   exact ⟨v', w', r1, E', r2, hf.trans r3, r4⟩
  ·have hR := rowsRel_of h hF hi hz
   have hw := hR.wd_eq
   obtain ⟨hlen, news, a1, a2, a3, a4, a5⟩ := s1
   simp only [offS_zero, Nat.add_zero, Nat.sub_zero]
   by_cases hroom : rs.length + xs.length ≤ i.n
   ·obtain ⟨w', e1, e2⟩ := StepR.extend (P := P) h hE hF hi hz a1 a2 a3 a4 hroom
    refine ⟨_, w', run_append_room' t xt ty e' ix hd s2 hx ⟨i.b, i.o, none⟩ rs.length i.n news x' xs.length hlen (by rw [hx1]; exact a5 w rfl) hroom (by rw [addr_add, hx1]; exact e1), E.set nx i, VR_sl (Env.set_self _ _ _) hz _, e2, FreshIn.set⟩
   ·obtain ⟨cs, fz, b1, b2, b3, b4⟩ := hR.cells
    have hso := src_rows P (cap := i.n) b1 (by omega) hR.len b4
    obtain ⟨_, olds, o1, o2, o3, o4, o5⟩ := hso
    have hr := run_append_grow' t xt ty e' ix z hd s2 hx hx0 (some ⟨i.b, i.o, none⟩) rs.length i.n olds news x' xs.length hlen (by rw [hx1]; exact o5 w.drew rfl) (by rw [hx1]; exact a5 w.drew rfl) (by omega) (by omega)
     (growslice_fits' (by omega) (by rw [hx2]; exact hb))
    have hge := grownCap_ge w (rs.length + xs.length) i.n e'
    have hcm := grownCap_le_maxLen w (rs.length + xs.length) i.n e' (by unfold maxLen; omega)
    refine ⟨_, _, hr, E.set nx ⟨w.heap.size, 0, ei.size, grownCap w (rs.length + xs.length) i.n e', false, none⟩, VR_sl (Env.set_self _ _ _) rfl _, ?_, FreshIn.set⟩
    have hf := StepR.forget h n
    have hrest : (Builtin.zeroCells z.cells (grownCap w (rs.length + xs.length) i.n e' - (rs.length + xs.length))).size = (grownCap w (rs.length + xs.length) i.n e' - (rs ++ xs).length) * ei.size := by
     rw [size_zeroCells, ← Array.length_toList, cellsOf_eq, ht.sz, List.length_append]
    have e1 : Ext (EE E p) w (Zn E F w) (EE E (p && px)) w (Zn E (F.set n .dead) w) := by
     refine ⟨?_, hf.ext.zone, hf.ext.heap⟩
     cases p with
     | true => exact Env.no_le _
     | false => exact Env.le.refl _
    have e2 : Ext (EE E px) w (Zn E F w) (EE E (p && px)) w (Zn E (F.set n .dead) w) := by
     refine ⟨?_, hf.ext.zone, hf.ext.heap⟩
     cases px with
     | true => exact Env.no_le _
     | false => simp only [Bool.and_false]; exact Env.le.refl _
    have hj : VRr w (Zn E (F.set n .dead) w) (EE E (p && px)) (rs ++ xs) 0 (olds ++ news).toArray :=
     VRr.join hR.len a4 o1 (fun j hj => by rw [Nat.zero_add, List.getElem?_toArray, List.getElem?_append_left hj]) (fun j hj => by rw [Nat.zero_add, List.getElem?_toArray, List.getElem?_append_right (by omega)]; congr 1; omega) (VRr.mono e1 _ _ _ o3) (VRr.mono e2 _ _ _ a3)
    have hxr : ∀ row ∈ rs ++ xs, row.length = ei.size := by
     intro x hx
     rcases List.mem_append.1 hx with hx | hx
     ·exact hR.len x hx
     ·exact a4 x hx
    have hS := StepR.newRows (t := e') hf.rel hE (by omega) hxr (by simp [o1, a1, Nat.add_mul]) hj (by simpa using hge) hcm hrest (0, 0) (by simp)
    have hS := (hf.trans hS).drew
    have q : (olds ++ news).toArray = olds.toArray ++ news.toArray := by simp
    rw [q] at hS
    exact hS
 ·cases hs
end
end Go.Tx
end
section
namespace Go.Sx
def mapGet : List (Value × Value) → Int → Option Value
 | [], _ => none
 | (.int _ m, v) :: l, n => if m = n then some v else mapGet l n
 | _ :: l, n => mapGet l n
def mapPut : List (Value × Value) → Int → Value → List (Value × Value)
 | [], n, v => [(.int .i64 n, v)]
 | (.int k m, u) :: l, n, v => if m = n then (.int .i64 n, v) :: l else (.int k m, u) :: mapPut l n v
 | e :: l, n, v => e :: mapPut l n v
def intKeys (es : List (Value × Value)) : Prop := ∀ e ∈ es, ∃ m, e.1 = .int .i64 m
noncomputable def semMakeMap (T : Tys) (nx : Nat) (t : TypeId) : Option Res :=
 match T.get t with
 | some { k := .map _ _, .. } => some ⟨True, .map (some nx), [(nx, .map true [])], []⟩
 | _ => none
noncomputable def semLookup (T : Tys) (F : SF) (t : TypeId) (x i : Value) (ok : Bool) : Option Res :=
 match T.get t, x, i with
 | some { k := .map kt et, .. }, .map (some r), .int .i64 n =>
  match T.get kt, T.get et, F r with
  | some { k := .int .i64, .. }, some ei, some (.map _ es) => some ⟨intKeys es, if ok then .tuple #[(mapGet es n).getD ei.zero, .bool (mapGet es n).isSome] else (mapGet es n).getD ei.zero, [], [r]⟩
  | _, _, _ => none
 | _, _, _ => none
noncomputable def semMapUpdate (T : Tys) (F : SF) (t : TypeId) (x i v : Value) : Option Res :=
 match T.get t, x, i with
 | some { k := .map kt _, .. }, .map (some r), .int .i64 n =>
  match T.get kt, F r with
  | some { k := .int .i64, .. }, some (.map true es) => some ⟨intKeys es, undef, [(r, .map true (mapPut es n v))], [r]⟩
  | _, _ => none
 | _, _, _ => none
theorem StepR.setMap {E : Env} {F : SF} {w : World} (h : HRel E F w) {n : Nat} {es es' : List (Value × Value)} {i : BI} (hF : F n = some (.map true es)) (hi : E n = some i) (hnil : i.nil = false)
  {ents : Array MapEntry} {clk : Nat} (hm : MRel E ents.toList es') (hb : i.b < w.heap.size) :
  StepR E F w E (F.set n (.map true es')) { w with heap := w.heap.setIfInBounds i.b (.map ents clk) } := by
 have hother : ∀ k, k ≠ i.b → (w.heap.setIfInBounds i.b (.map ents clk))[k]? = w.heap[k]? := fun k hk => by simp [Ne.symm hk]
 refine ⟨Env.le.refl _, ⟨?_, ?_⟩, rfl, rfl, rfl, by simp, ?_, ?_⟩
 ·intro m b hmb
  unfold SF.set at hmb
  split at hmb
  ·rename_i hmn; subst hmn; injection hmb with hmb; subst hmb
   exact ⟨i, hi, hnil, ents, clk, by simp [hb], hm⟩
  ·rename_i hmn
   by_cases hl : b.live = true
   rotate_left
   ·cases b <;> first | trivial | simp [SBlk.live] at hl
   refine (h.blk m b hmb).mono (Env.le.refl _) fun j hj hjn => hother _ ?_
   exact fun e => h.sep n m _ b i j hF hmb (fun e => hmn e.symm) rfl hl hi hj hnil hjn e.symm
 ·intro m k b d a q hm' hk hmk hb' hd ha hq han hqn
  unfold SF.set at hm' hk
  by_cases hmn : m = n
  ·subst hmn
   rw [if_neg (fun e => hmk e.symm)] at hk
   exact h.sep m k _ d a q hF hk hmk rfl hd ha hq han hqn
  ·rw [if_neg hmn] at hm'
   by_cases hkn : k = n
   ·subst hkn
    exact h.sep m k b _ a q hm' hF hmk hb' rfl ha hq han hqn
   ·rw [if_neg hkn] at hk
    exact h.sep m k b d a q hm' hk hmk hb' hd ha hq han hqn
 ·intro k hk hno
  exact hother k (fun e => hno n _ i hF rfl hi hnil e.symm)
 ·intro m b q hm' hb' hq hqn
  unfold SF.set at hm'
  by_cases hmn : m = n
  ·subst hmn
   exact .inr ⟨m, _, q, hF, rfl, hq, hqn, rfl⟩
  ·rw [if_neg hmn] at hm'
   exact .inr ⟨m, b, q, hm', hb', hq, hqn, rfl⟩
def Found (E : Env) (n : Int) (l : List MapEntry) (es : List (Value × Value)) (i : Nat) : Option (Nat × Value) → Prop
 | none => mapGet es n = none ∧ (∀ v, mapPut es n v = es ++ [(.int .i64 n, v)])
 | some ju => i ≤ ju.1 ∧ ∃ (v : Value) (e : MapEntry), mapGet es n = some v ∧ dv E v = some ju.2 ∧ l[ju.1 - i]? = some e ∧ e.key = .int .i64 n ∧
   (∀ (x y : Value), dv E x = some y → MRel E (l.modify (ju.1 - i) (fun e => { e with key := .int .i64 n, val := y })) (mapPut es n x))
theorem mFind {E : Env} {n : Int} : ∀ {l : List MapEntry} {es : List (Value × Value)} (i : Nat), MRel E l es → intKeys es →
  ∃ a : Option (Nat × Value), Instr.findNow (.int .i64) (.int .i64 n) l i = some a ∧ Found E n l es i a
 | [], [], i, _, _ => ⟨none, rfl, rfl, fun _ => rfl⟩
 | e :: l, kv :: es, i, h, hk => by
  obtain ⟨m, hm⟩ := hk kv (by simp)
  obtain ⟨k, u⟩ := kv
  simp only at hm; subst hm
  obtain ⟨h1, h2, h3⟩ := h
  simp only [dv, Option.some.injEq] at h1
  have hkk : intKeys es := fun x hx => hk x (by simp [hx])
  by_cases hmn : m = n
  ·subst hmn
   refine ⟨some (i, e.val), by simp [Instr.findNow, Instr.sameNow, ← h1], Nat.le_refl _, u, e, by simp [mapGet], h2, by simp, h1.symm, ?_⟩
   intro v v' hv
   simp only [Nat.sub_self, List.modify_zero_cons, mapPut, if_true]
   exact ⟨rfl, hv, h3⟩
  ·obtain ⟨a, q1, q2⟩ := mFind (n := n) (i + 1) h3 hkk
   refine ⟨a, by simp [Instr.findNow, Instr.sameNow, ← h1, show (n == m) = false by simp [Ne.symm hmn], q1], ?_⟩
   cases a with
   | none => exact ⟨by simp [mapGet, hmn, q2.1], fun v => by simp [mapPut, hmn, q2.2 v]⟩
   | some ju =>
    obtain ⟨j, x⟩ := ju
    obtain ⟨a1, v, e', a2, a3, a4, a5, a6⟩ := q2
    have hj : j - i = (j - (i + 1)) + 1 := by omega
    refine ⟨by omega, v, e', by simp [mapGet, hmn, a2], a3, by rw [hj]; simpa using a4, a5, ?_⟩
    intro v v' hv
    rw [hj]
    simp only [List.modify_succ_cons, mapPut, if_neg hmn]
    exact ⟨by simp [dv, h1], h2, a6 v v' hv⟩
 | [], _ :: _, _, h, _ => h.elim
 | _ :: _, [], _, h, _ => h.elim
section
variable {P : Program} {T : Tys} {E : Env} {F : SF} {nx : Nat} {w : World}
theorem sound_makeMap (h : HRel E F w) (hE : E nx = none) {t : TypeId} {r : Res} (hs : semMakeMap T nx t = some r) : ∃ v' w', (Instr.makeMap t none).run P w = .ok v' w' ∧ Gives E F nx w r v' w' := by
 unfold semMakeMap at hs
 split at hs
 rotate_left
 ·cases hs
 injection hs with hs; subst hs
 refine ⟨.map (some w.heap.size), w.alloc (.map #[] 0), by simp [Instr.makeMap, Result.andThen], E.set nx ⟨w.heap.size, 0, 1, 0, false⟩, ?_, StepR.new h hE (.map #[] 0) _ _ rfl ?_, FreshIn.set (Nat.le_refl _) (by omega)⟩
 ·simp [dv, dM, Env.set_self]
 ·exact ⟨_, Env.set_self _ _ _, rfl, #[], 0, (MapKept.heap_alloc w _).1, trivial⟩
theorem plain_zero {t : TypeId} {i : TI} (h : TOk P t i) : plain i.zero = true := by
 have h1 := h.pl
 have h2 := h.one
 cases hz : i.zero with
 | agg cs =>
  rw [hz] at h1 h2
  obtain ⟨cs⟩ := cs
  simp only [plain, plainA, Bool.and_eq_true]
  exact ⟨by simpa [cellsOf] using h1, by simpa [cellsOf] using h2⟩
 | _ => rw [hz] at h1; simpa [cellsOf, plainL] using h1
theorem dv_map {r : Nat} {v' : Value} {i : BI} (hi : E r = some i) (hn : i.nil = false) (h : dv E (.map (some r)) = some v') : v' = .map (some i.b) := by
 simp only [dv, dM, hi, hn] at h
 simpa using h.symm
theorem sound_lookup (hT : T.Ok P) (h : HRel E F w) {t : TypeId} {x k x' k' : Value} {ok : Bool} {r : Res} (hs : semLookup T F t x k ok = some r) (hvc : r.vc) (hx : dv E x = some x') (hk : dv E k = some k') :
  ∃ v', (Instr.lookup t x' k' ok).run P w = .ok v' w ∧ Gives E F nx w r v' w := by
 unfold semLookup at hs
 split at hs
 rotate_left
 ·cases hs
 rename_i kt et _ _ _ _ rr n hti
 split at hs
 rotate_left
 ·cases hs
 rename_i _ _ _ _ ei own es hki hei hF
 injection hs with hs; subst hs
 simp only at hvc
 simp only [dv, Option.some.injEq] at hk; subst hk
 obtain ⟨i, hi, hn, ents, clk, hb, hm⟩ := h.blk _ _ hF
 have hx' := dv_map hi hn hx
 subst hx'
 obtain ⟨d, hd, hkd⟩ := (hT _ _ hti).desc
 obtain rfl := tk_map hkd
 obtain ⟨d2, hd2, hkd2⟩ := (hT _ _ hki).desc
 have hd2' : d2 = .int .i64 := by cases d2 <;> simp [tk] at hkd2; rw [hkd2]
 subst hd2'
 obtain ⟨a, q1, q2⟩ := mFind (n := n) 0 hm hvc
 have hz : (zeroValue et).run P w = .ok ei.zero w := (hT _ _ hei).run_zeroValue w
 have hik : MapKept.IsKey (.int .i64) (.int .i64 n) := by simp [MapKept.IsKey]
 cases a with
 | none =>
  refine ⟨if ok then .tuple #[ei.zero, .bool false] else ei.zero, ?_, Gives.still h rfl ?_⟩
  ·simp [Instr.lookup, run_underlying hd, MapKept.run_getObj_map hb, MapKept.run_checkKey hd2 hik, MapKept.run_findKey hd2 q1, hz, Result.andThen]
  ·cases ok <;> simp [q2.1, dv, dva, dvl, dv_plain E _ (plain_zero (hT _ _ hei))]
 | some ju =>
  obtain ⟨_, v, e, a2, a3, _⟩ := q2
  refine ⟨if ok then .tuple #[ju.2, .bool true] else ju.2, ?_, Gives.still h rfl ?_⟩
  ·simp [Instr.lookup, run_underlying hd, MapKept.run_getObj_map hb, MapKept.run_checkKey hd2 hik, MapKept.run_findKey hd2 q1, Result.andThen]
  ·cases ok <;> simp [a2, dv, dva, dvl, a3]
theorem MRel.push {l : List MapEntry} {es : List (Value × Value)} {e : MapEntry} {k v : Value} : MRel E l es → dv E k = some e.key → dv E v = some e.val → MRel E (l ++ [e]) (es ++ [(k, v)]) := by
 induction l generalizing es with
 | nil => intro h h1 h2; cases es with
  | nil => exact ⟨h1, h2, trivial⟩
  | cons _ _ => exact h.elim
 | cons a l ih => intro h h1 h2; cases es with
  | nil => exact h.elim
  | cons b es => exact ⟨h.1, h.2.1, ih h.2.2 h1 h2⟩
theorem sound_mapUpdate (hT : T.Ok P) (h : HRel E F w) {t : TypeId} {x k v x' k' v' : Value} {r : Res} (hs : semMapUpdate T F t x k v = some r) (hvc : r.vc) (hx : dv E x = some x') (hk : dv E k = some k') (hv : dv E v = some v') :
  ∃ w', (Instr.mapUpdate t x' k' v').run P w = .ok () w' ∧ Gives E F nx w r undef w' := by
 unfold semMapUpdate at hs
 split at hs
 rotate_left
 ·cases hs
 rename_i kt et _ _ _ _ rr n hti
 split at hs
 rotate_left
 ·cases hs
 rename_i _ _ _ _ es hki hF
 injection hs with hs; subst hs
 simp only at hvc
 simp only [dv, Option.some.injEq] at hk; subst hk
 obtain ⟨i, hi, hn, ents, clk, hb, hm⟩ := h.blk _ _ hF
 have hx' := dv_map hi hn hx
 subst hx'
 obtain ⟨d, hd, hkd⟩ := (hT _ _ hti).desc
 obtain rfl := tk_map hkd
 obtain ⟨d2, hd2, hkd2⟩ := (hT _ _ hki).desc
 have hd2' : d2 = .int .i64 := by cases d2 <;> simp [tk] at hkd2; rw [hkd2]
 subst hd2'
 obtain ⟨a, q1, q2⟩ := mFind (n := n) 0 hm hvc
 have hik : MapKept.IsKey (.int .i64) (.int .i64 n) := by simp [MapKept.IsKey]
 have hlt : i.b < w.heap.size := by
  rcases Nat.lt_or_ge i.b w.heap.size with h | h
  ·exact h
  ·rw [Array.getElem?_eq_none h] at hb; cases hb
 cases a with
 | none =>
  refine ⟨_, by simp [Instr.mapUpdate, run_underlying hd, MapKept.run_getObj_map hb, MapKept.run_checkKey hd2 hik, MapKept.run_findKey hd2 q1, MapKept.run_setObj_map _ hb, Result.andThen]; rfl, E, dv_plain E undef rfl, StepR.setMap h hF hi hn ?_ hlt, FreshIn.refl _ _⟩
  rw [q2.2 v]
  simp only [Array.toList_push]
  exact hm.push (by simp [dv]) hv
 | some ju =>
  obtain ⟨j, u⟩ := ju
  obtain ⟨_, v0, e, a2, a3, a4, a5, a6⟩ := q2
  simp only [Nat.sub_zero] at a4 a6
  have hj : ents[j]? = some e := by simpa using a4
  refine ⟨_, by simp [Instr.mapUpdate, run_underlying hd, MapKept.run_getObj_map hb, MapKept.run_checkKey hd2 hik, MapKept.run_findKey hd2 q1, hj, a5, MapKept.run_keyThatStays hik, MapKept.run_setObj_map _ hb, Result.andThen]; rfl, E, dv_plain E undef rfl, StepR.setMap h hF hi hn ?_ hlt, FreshIn.refl _ _⟩
  rw [Array.toList_modify]
  exact a6 v v' hv
end
end Go.Sx
end
section
namespace Go.Tx
open Go.Sx (TK tk isAggK cellsOf cellsOf_eq cells_eq run_newVar lt_of_get getD_of_lt inI64 wrap_i64 tk_slice tk_int tk_str tk_map addr_add setA setA_size setA_get run_stringToBytes)
section
variable {P : Program} {T : Tys} {E : Env} {F : SF} {nx : Nm} {w : World} {Z : Nat → Prop}
def byteP : List PV → UInt8
 | [.int .u8 n] => UInt8.ofNat n.toNat
 | _ => 0
def bytesP (rs : List (List PV)) : List UInt8 := rs.map byteP
def isByteP (row : List PV) : Prop := ∃ n : Int, row = [.int .u8 n]
def rowB (b : UInt8) : List PV := [.int .u8 b.toNat]
def semConv (T : Tys) (F : SF) (nx : Nm) (src dst : TypeId) (x : PV) : Option Res :=
 match T.get src, T.get dst with
 | some si, some di =>
  match si.k, di.k with
  | .int _, .int k =>
   match x with
   | .int _ n => if k = .i64 then some (mkRes (inI64 n) (.int .i64 n)) else some (mkRes True (.int k (k.wrap n)))
   | _ => none
  | .str, .str =>
   match x with
   | .str s => some (mkRes True (.str s))
   | _ => none
  | .slice e, .str =>
   match T.get e with
   | some { k := .int .u8, .. } =>
    match x with
    | .sl n r l =>
     match F n with
     | some (.rows _ wd _ _ rs) => if wd == 1 then some { vc := r + l ≤ rs.length ∧ ∀ row ∈ (rs.drop r).take l, isByteP row, v := .str (bytesP ((rs.drop r).take l)), upd := [], rd := [n] } else none
     | _ => none
    | .fs wd rs => if wd == 1 then some (mkRes (∀ row ∈ rs, isByteP row) (.str (bytesP rs))) else none
    | .nilS => some (mkRes True (.str []))
    | _ => none
   | _ => none
  | .str, .slice e =>
   match T.get e with
   | some { k := .int .u8, size := 1, .. } =>
    match x with
    | .str s => some { vc := s.length < 9223372036854775807, v := .sl nx 0 s.length, upd := [(nx, .rows e 1 true true (s.map rowB))], rd := [] }
    | _ => none
   | _ => none
  | .ptr t0, .uptr =>
   match x with
   | .ptr n r c =>
    match F n, T.get t0 with
    | some (.rows _ wd _ _ rs), some ti => if ti.size == 0 then none else some { vc := r < rs.length ∧ c < wd, v := .ptr n r c, upd := [], rd := [n] }
    | _, _ => none
   | _ => none
  | .uptr, .ptr u =>
   match x with
   | .ptr n r c =>
    match F n with
    | some (.rows e wd _ _ rs) =>
     match T.get e, T.get u with
     | some ei, some _ => if ei.size == wd && ei.lies.contains (c, u) then some { vc := r < rs.length ∧ c < wd, v := .ptr n r c, upd := [], rd := [n] } else none
     | _, _ => none
    | _ => none
   | _ => none
  | _, _ => none
 | _, _ => none
theorem tk_uptr {d : TypeDesc} (h : tk d = .uptr) : d = .unsafePointer := by cases d <;> simp [tk] at h ⊢
theorem tk_ptr {d : TypeDesc} {e : TypeId} (h : tk d = .ptr e) : d = .pointer e := by cases d <;> simp [tk] at h ⊢; exact h
theorem rowAt_row {fits : TypeId → Bool} {d : Nat} {e : TypeId} {c : Nat} (h : rowAt P fits d e 1 c 1 = true) : ∀ (N r : Nat), r < N → rowAt P fits d e N (r * P.cellsOf e + c) 1 = true := by
 intro N r hr
 cases d with
 | zero => simp [rowAt] at h
 | succ d =>
  unfold rowAt at h ⊢
  simp only at h ⊢
  split at h
  ·cases h
  rename_i hs
  rw [if_neg hs]
  have hpos : 0 < P.cellsOf e := by omega
  have hc : c / P.cellsOf e = 0 := by
   simp only [Bool.or_eq_true, Bool.and_eq_true, decide_eq_true_eq] at h
   generalize c / P.cellsOf e = q at h
   rcases h with ⟨⟨_, h⟩, _⟩ | ⟨h, _⟩ <;> omega
  have hlt : c < P.cellsOf e := by
   rcases Nat.lt_or_ge c (P.cellsOf e) with h | h
   ·exact h
   ·have := Nat.div_pos h hpos; omega
  have e1 : (r * P.cellsOf e + c) / P.cellsOf e = r := by
   rw [Nat.add_comm, Nat.mul_comm, Nat.add_mul_div_left _ _ hpos, hc]; omega
  have e2 : (r * P.cellsOf e + c) % P.cellsOf e = c % P.cellsOf e := by
   rw [Nat.add_comm, Nat.mul_comm, Nat.add_mul_mod_self_left]
  rw [e1, e2]
  rw [hc] at h
  have a1 : decide (r + 1 ≤ N) = true := decide_eq_true hr
  have a2 : decide (r < N) = true := decide_eq_true hr
  have b1 : decide (0 + 1 ≤ 1) = true := rfl
  have b2 : decide (0 < 1) = true := rfl
  rw [a1, a2]
  rw [b1, b2] at h
  exact h
theorem run_bytesLoop {cs : List Value} {acc : ByteArray} (rows : List (List PV)) (hl : cs.length = rows.length) (h : ∀ (j : Nat) (row : List PV) (v : Value), rows[j]? = some row → cs[j]? = some v → ∃ n : Int, row = [.int .u8 n] ∧ v = .int .u8 n) :
  (forIn cs acc (fun c s => (match c with | .int .u8 n => pure (ForInStep.yield (s.push (UInt8.ofNat n.toNat))) | _ => do stuck "bytesToString: byte expected"; pure (ForInStep.yield s) : Sem (ForInStep ByteArray)))).run P w = .ok ⟨acc.data ++ (rows.map byteP).toArray⟩ w := by
 induction cs generalizing rows acc with
 | nil =>
  have : rows = [] := List.eq_nil_of_length_eq_zero (by simpa using hl.symm)
  subst this; simp
 | cons v l ih =>
  cases rows with
  | nil => simp at hl
  | cons row rows =>
   obtain ⟨n, rfl, rfl⟩ := h 0 row v rfl rfl
   simp only [List.forIn_cons, Sem.run_bind, Sem.run_pure, Result.andThen_ok]
   rw [ih rows (by simpa using hl) (fun j row v h1 h2 => h (j + 1) row v (by simpa using h1) (by simpa using h2))]
   congr 2
   simp [byteP, ByteArray.push]
theorem run_toString {b o e : Nat} {cs : Array Value} {fz : Nat × Nat} {rs : List (List PV)} (hb : w.heap[b]? = some (.cells cs e fz)) (hl : ∀ row ∈ rs, row.length = 1) (hv : VRr w Z E rs o cs) (hby : ∀ row ∈ rs, isByteP row) (cap : Nat) :
  (Conv.bytesToString (.slice (some ⟨b, o, none⟩) rs.length cap)).run P w = .ok (strV (bytesP rs)) w := by
 obtain ⟨news, a1, a2, a3⟩ := VRr.cells (by omega) hl hv
 simp only [Nat.mul_one] at a1
 have hload : (loadCells ⟨b, o, none⟩ rs.length).run P w = .ok news.toArray w := by
  rw [← a1]
  refine run_loadCells_list w _ news fun j u hj => ?_
  rw [addr_add]
  simp only [World.cell?, hb, Option.isSome_none, Bool.false_eq_true, if_false]
  exact (a2 j u hj).1
 have hloop := run_bytesLoop (P := P) (w := w) (cs := news) (acc := .empty) rs a1 (fun j row v q1 q2 => by
  obtain ⟨n, hn⟩ := hby row (List.mem_of_getElem? q1)
  subst hn
  obtain ⟨v', b1, _, b3⟩ := (VRr_iff hl).1 a3 j _ 0 (.int .u8 n) q1 rfl
  simp only [VR] at b3; subst b3
  simp only [Nat.mul_one, Nat.add_zero, Nat.zero_add, List.getElem?_toArray] at b1
  rw [q2] at b1
  exact ⟨n, rfl, by injection b1⟩)
 simp only [Conv.bytesToString, Sem.run_bind, hload, Result.andThen_ok]
 rw [← Array.forIn_toList]
 refine (congrArg (fun q : Result ByteArray => q.andThen fun a w' => Sem.run P (pure (Value.string a)) w') (hloop : _)).trans ?_
 simp [bytesP, strV]
theorem run_toString_empty (a : Option Addr) (cap : Nat) : (Conv.bytesToString (.slice a 0 cap)).run P w = .ok (strV []) w := by
 cases a with
 | none => rfl
 | some a => simp [Conv.bytesToString, loadCells, loadCellsFrom, Result.andThen, strV]; rfl
theorem sound_conv (hT : T.Ok P) (h : HRel E F w) (hE : E nx = none) {src dst : TypeId} {x : PV} {x' : Value} {r : Res} (hs : semConv T F nx src dst x = some r) (hvc : r.vc) (hx : VR w (Zn E F w) E x x') :
  ∃ v' w', (convert src dst x').run P w = .ok v' w' ∧ Gives E F nx w r v' w' := by
 unfold semConv at hs
 split at hs
 rotate_left
 ·cases hs
 rename_i si di hsi hdi
 obtain ⟨zs, hts⟩ := hT _ _ hsi
 obtain ⟨zd, htd⟩ := hT _ _ hdi
 obtain ⟨ds, hds, hks⟩ := hts.run_underlying w
 obtain ⟨dd, hdd, hkd⟩ := htd.run_underlying w
 split at hs
 ·rename_i k0 k h1 h2
  rw [h1] at hks; rw [h2] at hkd
  obtain rfl := tk_int hks
  obtain rfl := tk_int hkd
  split at hs
  rotate_left
  ·cases hs
  rename_i k1 n
  simp only [VR] at hx; subst hx
  split at hs
  ·rename_i hk; subst hk
   injection hs with hs; subst hs
   refine ⟨.int .i64 n, w, ?_, Gives.still h rfl (by simp [mkRes, VR])⟩
   simp [convert, hds, hdd, Conv.intToInt, wrap_i64 hvc]
  ·injection hs with hs; subst hs
   refine ⟨.int k (k.wrap n), w, ?_, Gives.still h rfl (by simp [mkRes, VR])⟩
   simp [convert, hds, hdd, Conv.intToInt]
 ·rename_i h1 h2
  rw [h1] at hks; rw [h2] at hkd
  obtain rfl := tk_str hks
  obtain rfl := tk_str hkd
  split at hs
  rotate_left
  ·cases hs
  rename_i s
  simp only [VR] at hx; subst hx
  injection hs with hs; subst hs
  refine ⟨strV s, w, ?_, Gives.still h rfl (by simp [mkRes, VR])⟩
  simp [convert, hds, hdd, strV]
 ·rename_i e h1 h2
  rw [h1] at hks; rw [h2] at hkd
  obtain rfl := tk_slice hks
  obtain rfl := tk_str hkd
  split at hs
  rotate_left
  ·cases hs
  rename_i _ _ _ _ _ hei
  obtain ⟨ze, hte⟩ := hT _ _ hei
  obtain ⟨de, hde, hke⟩ := hte.run_underlying w
  obtain rfl := tk_int hke
  have hrun : ∀ a l c, (convert src dst (.slice a l c)).run P w = (Conv.bytesToString (.slice a l c)).run P w := by
   intro a l c
   simp_all [convert]
  split at hs
  ·rename_i n row l
   split at hs
   rotate_left
   ·cases hs
   rename_i e0 wd own p rs hF
   split at hs
   rotate_left
   ·cases hs
   rename_i hw
   simp only [beq_iff_eq] at hw; subst hw
   injection hs with hs; subst hs
   obtain ⟨v1, v2⟩ := hvc
   simp only [VR] at hx
   obtain ⟨i, hi, hor⟩ := hx
   rcases hor with ⟨hz, rfl, rfl⟩ | ⟨hz, rfl⟩
   ·refine ⟨strV [], w, ?_, Gives.still h rfl (by simp [VR, bytesP])⟩
    rw [hrun]; exact run_toString_empty _ _
   ·have hR := rowsRel_of h hF hi hz
    obtain ⟨cs, fz, b1, b2, b3, b4⟩ := hR.cells
    have hlen : ((rs.drop row).take l).length = l := by simp; omega
    refine ⟨strV (bytesP ((rs.drop row).take l)), w, ?_, Gives.still h rfl (by simp [VR])⟩
    rw [hrun]
    have := run_toString (P := P) b1 (fun r hr => hR.len r (List.mem_of_mem_drop (List.mem_of_mem_take hr))) (VRr.drop hR.len b4 (l := row) (n := l)) v2 (i.n - row)
    rw [hlen] at this
    by_cases hl0 : l = 0
    ·subst hl0
     simpa [bytesP] using run_toString_empty (P := P) (w := w) (some ⟨i.b, i.o + offS i row 0, none⟩) (i.n - row)
    ·rw [offS_pos (by omega), hR.wd_eq]; exact this
  ·rename_i wd rs
   split at hs
   rotate_left
   ·cases hs
   rename_i hw
   simp only [beq_iff_eq] at hw; subst hw
   injection hs with hs; subst hs
   simp only [VR] at hx
   obtain ⟨a, cap, rfl, q1, q2, q3, q4, hor⟩ := hx
   refine ⟨strV (bytesP rs), w, ?_, Gives.still h rfl (by simp [mkRes, VR])⟩
   rw [hrun]
   rcases hor with rfl | ⟨b, o, cs, e0, fz, rfl, _, u2, u3⟩
   ·exact run_toString_empty _ _
   ·exact run_toString u2 q4 u3 hvc cap
  ·injection hs with hs; subst hs
   simp only [VR] at hx; subst hx
   refine ⟨strV [], w, ?_, Gives.still h rfl (by simp [mkRes, VR])⟩
   rw [hrun]; exact run_toString_empty _ _
  ·cases hs
 ·rename_i e h1 h2
  rw [h1] at hks; rw [h2] at hkd
  obtain rfl := tk_str hks
  obtain rfl := tk_slice hkd
  split at hs
  rotate_left
  ·cases hs
  rename_i _ _ _ _ hei
  split at hs
  rotate_left
  ·cases hs
  rename_i s
  simp only [VR] at hx; subst hx
  injection hs with hs; subst hs
  simp only at hvc
  obtain ⟨ze, hte⟩ := hT _ _ hei
  obtain ⟨de, hde, hke⟩ := hte.run_underlying w
  obtain rfl := tk_int hke
  have hss : (⟨s.toArray⟩ : ByteArray).size = s.length := strV_size s
  have hcut : ∀ t, (Question.appendCap s.length 0 e).cut t = s.length + t % (2 ^ 63 - s.length) := fun t => rfl
  generalize hcap : s.length + (w.tape w.drawn (.appendCap s.length 0 e)) % (2 ^ 63 - s.length) = cap
  have hge : s.length ≤ cap := by omega
  have hle : cap ≤ maxLen := by
   have := Nat.mod_lt (w.tape w.drawn (.appendCap s.length 0 e)) (show 0 < 2 ^ 63 - s.length by omega)
   unfold maxLen; omega
  let cs : List Value := s.map fun b => .int .u8 b.toNat
  have hv : VRr w (Zn E F w) (EE E true) (s.map rowB) 0 cs.toArray := by
   refine (VRr_iff (wd := 1) (by simp [rowB])).2 fun r row c v hr hc => ?_
   rw [List.getElem?_map] at hr
   cases hb : s[r]? with
   | none => rw [hb] at hr; cases hr
   | some b =>
    rw [hb] at hr; simp only [Option.map_some, Option.some.injEq] at hr; subst hr
    have hc0 : c = 0 := by have := lt_of_get hc; simp [rowB] at this; exact this
    subst hc0
    simp [rowB] at hc; subst hc
    exact ⟨.int .u8 b.toNat, by simp [cs, hb], rfl, by simp [VR]⟩
  have hS := StepR.newRows (t := e) (cap := cap) (wd := 1) h hE (by decide) (by simp [rowB]) (by simp [cs]) hv (by simpa using hge) hle (rest := Array.replicate (cap - s.length) (.int .u8 0)) (by simp) (cap, cap + 1) (by intro j hj q; simp only [Nat.mul_one] at hj; omega)
  refine ⟨.slice (some ⟨w.heap.size, 0, none⟩) s.length cap, _, ?_, E.set nx ⟨w.heap.size, 0, 1, cap, false, none⟩, VR_sl (Env.set_self _ _ _) rfl _, hS.drew, FreshIn.set⟩
  have hr := run_stringToBytes (P := P) e ⟨s.toArray⟩ w cap (by rw [hss, hcut, hcap]) (cs.toArray ++ Array.replicate (cap - s.length) (.int .u8 0)) (by rw [hss]; simp [cs]) (by simp [cs]; omega)
  rw [hss] at hr
  simp only [convert, strV, Sem.run_bind, hds, hdd, hde, Result.andThen_ok, hr]
  rfl
 ·rename_i t0 h1 h2
  obtain ⟨ds, hds, hks⟩ := hts.sx.desc
  obtain ⟨dd, hdd, hkd⟩ := htd.sx.desc
  simp only [h1] at hks; simp only [h2] at hkd
  obtain rfl := tk_ptr hks
  obtain rfl := tk_uptr hkd
  split at hs
  rotate_left
  ·cases hs
  rename_i n r c
  split at hs
  rotate_left
  ·cases hs
  rename_i e wd own p rs ti hF hti
  split at hs
  ·cases hs
  rename_i hsz
  injection hs with hs; subst hs
  obtain ⟨hr, hc⟩ := hvc
  have hx0 := hx
  simp only [VR] at hx
  obtain ⟨i, hi, hz, rfl⟩ := hx
  have hR := rowsRel_of h hF hi hz
  obtain ⟨cs, fz, b1, b2, _, _⟩ := hR.cells
  obtain ⟨zt, hzt⟩ := hT _ _ hti
  obtain ⟨j, hj, _, hj2, _⟩ := hzt.sx.info
  refine ⟨_, w, ?_, Gives.still h rfl hx0⟩
  have hlt : r * i.wd + c < i.n * wd := by
   rw [hR.wd_eq]
   have : (r + 1) * wd ≤ i.n * wd := Nat.mul_le_mul_right _ (by have := hR.le; omega)
   rw [Nat.succ_mul] at this; omega
  exact Lib.run_to_unsafe (e := e) (cells := cs.size) w ⟨i.b, i.o + (r * i.wd + c), none⟩ hds hdd hj (by rw [hj2]; simpa using hsz) (by simp [World.shape?, b1]) (by rw [hR.o0]; rw [hR.o0] at b2; simp only; omega)
 ·rename_i u h1 h2
  obtain ⟨ds, hds, hks⟩ := hts.sx.desc
  obtain ⟨dd, hdd, hkd⟩ := htd.sx.desc
  simp only [h1] at hks; simp only [h2] at hkd
  obtain rfl := tk_uptr hks
  obtain rfl := tk_ptr hkd
  split at hs
  rotate_left
  ·cases hs
  rename_i n r c
  split at hs
  rotate_left
  ·cases hs
  rename_i e wd own p rs hF
  split at hs
  rotate_left
  ·cases hs
  rename_i ei iu hei hu
  split at hs
  rotate_left
  ·cases hs
  rename_i hcond
  simp only [Bool.and_eq_true, beq_iff_eq, List.contains_iff_mem] at hcond
  obtain ⟨hsz, hlies⟩ := hcond
  injection hs with hs; subst hs
  obtain ⟨hr, hc⟩ := hvc
  have hx0 := hx
  simp only [VR] at hx
  obtain ⟨i, hi, hz, rfl⟩ := hx
  have hR := rowsRel_of h hF hi hz
  obtain ⟨cs, fz, b1, b2, _, _⟩ := hR.cells
  obtain ⟨ze, hze⟩ := hT _ _ hei
  obtain ⟨zu, hzu⟩ := hT _ _ hu
  obtain ⟨j, hj, _⟩ := hzu.sx.info
  obtain ⟨je, hje, _, hje2, _⟩ := hze.sx.info
  have hce : P.cellsOf e = wd := by simp [Program.cellsOf, hje, hje2, hsz]
  refine ⟨_, w, ?_, Gives.still h rfl hx0⟩
  refine Lib.run_from_unsafe (e := e) (cells := cs.size) w ⟨i.b, i.o + (r * i.wd + c), none⟩ hds hdd hj (by simp [World.shape?, b1]) ?_
  have hd : P.depth = (P.depth - 1) + 1 := by unfold Program.depth; omega
  have hrow := rowAt_row (hze.li _ hlies) (cs.size / P.cellsOf e) r (by
   rw [hce]
   have : i.n ≤ cs.size / wd := by
    rw [Nat.le_div_iff_mul_le hR.wd_pos]; omega
   have := hR.le; omega)
  rw [hce] at hrow
  rw [hd]
  unfold liesAt
  simp only [hce, hR.o0, hR.wd_eq, Nat.zero_add, hrow, Bool.true_or]
 ·cases hs
def semMakeSlice (T : Tys) (nx : Nm) (t : TypeId) (l c : PV) : Option Res :=
 match l, c, T.get t with
 | .int _ l, .int _ c, some { k := .slice e, .. } =>
  match T.get e with
  | some ei =>
   if ei.size == 0 then none
   else some { vc := 0 ≤ l ∧ c = l ∧ l * ei.bytes ≤ 140737488355328 ∧ l ≤ 140737488355328, v := .sl nx 0 l.toNat, upd := [(nx, .rows e ei.size true true (List.replicate l.toNat ei.zero))], rd := [] }
  | none => none
 | _, _, _ => none
theorem sound_makeSlice (hT : T.Ok P) (h : HRel E F w) (hE : E nx = none) {t : TypeId} {l c : PV} {l' c' : Value} {r : Res}
  (hs : semMakeSlice T nx t l c = some r) (hvc : r.vc) (hl : VR w (Zn E F w) E l l') (hc : VR w (Zn E F w) E c c') : ∃ v' w', (Instr.makeSlice t l' c').run P w = .ok v' w' ∧ Gives E F nx w r v' w' := by
 unfold semMakeSlice at hs
 split at hs
 rotate_left
 ·cases hs
 rename_i kl l kc c e _ _ _ _ _ hti
 simp only [VR] at hl hc; subst hl; subst hc
 split at hs
 rotate_left
 ·cases hs
 rename_i ei hei
 split at hs
 ·cases hs
 rename_i hsz
 simp only [beq_iff_eq] at hsz
 injection hs with hs; subst hs
 obtain ⟨h1, rfl, h3, h4⟩ := hvc
 obtain ⟨z0, ht⟩ := hT _ _ hti
 obtain ⟨z, hte⟩ := hT _ _ hei
 obtain ⟨d, hd, hk⟩ := ht.sx.desc
 obtain rfl := tk_slice hk
 obtain ⟨x, hx, hx0, hx1, hx2⟩ := hte.sx.info
 simp only at hx0 hx1 hx2
 have hrun := run_make (P := P) w t e x z hd hx hx0 kl kc c c h1 (Int.le_refl _) (by rw [hx2, Int.mul_comm]; omega) (by omega)
 rw [hx1] at hrun
 have hv0 := hte.vr w (Zn E F w) (EE E true)
 obtain ⟨g1, g2⟩ := VRl.get hv0
 have hzs := hte.zsz
 have hrep : VRr w (Zn E F w) (EE E true) (List.replicate c.toNat ei.zero) 0 (madeCells z.cells (c.toNat * ei.size)).toList.toArray := by
  have hR := Sx.RowsA.replicate (E := fun _ => none) (show Sx.dvl (fun _ => none) (cellsOf z) = some z.cells.toList by rw [cellsOf_eq]; exact Sx.dvl_plain _ _ hte.sx.pl) (by rw [cellsOf_eq]; exact hte.one) c.toNat ei.size hte.sz
  refine (VRr_iff (wd := ei.size) (by intro row hr; rw [List.eq_of_mem_replicate hr]; exact hzs)).2 fun r row k v hr hc' => ?_
  rw [List.getElem?_replicate] at hr
  split at hr
  rotate_left
  ·cases hr
  rename_i hrl
  injection hr with hr; subst hr
  obtain ⟨u, a1, a2⟩ := g2 k v hc'
  obtain ⟨v', b1, b2, b3⟩ := hR.cell r (cellsOf z) k u (by simp [hrl]) a1
  have hpl : Sx.plain u = true := by
   have := hte.sx.pl
   have hm := List.mem_of_getElem? a1
   have key : ∀ l : List Value, Sx.plainL l = true → ∀ x ∈ l, Sx.plain x = true := by
    intro l
    induction l with
    | nil => intro _ x hx; cases hx
    | cons a l ih =>
     intro hl x hx
     simp only [Sx.plainL, Bool.and_eq_true] at hl
     rcases List.mem_cons.1 hx with rfl | hx
     ·exact hl.1
     ·exact ih hl.2 x hx
   exact key _ this u hm
  rw [Sx.dv_plain _ _ hpl] at b1
  injection b1 with b1; subst b1
  exact ⟨u, by rw [Nat.zero_add, List.getElem?_toArray, Array.getElem?_toList]; exact b3, b2, a2⟩
 have hlen : (madeCells z.cells (c.toNat * ei.size)).toList.length = (List.replicate c.toNat ei.zero).length * ei.size := by simp [madeCells]
 have hS := StepR.newRows (t := e) (cap := c.toNat) h hE (by omega) (by intro row hr; rw [List.eq_of_mem_replicate hr]; exact hzs) hlen hrep (by simp) (by unfold maxLen; omega) (rest := #[]) (by simp) (0, 0) (by simp)
 refine ⟨_, _, hrun, E.set nx ⟨w.heap.size, 0, ei.size, c.toNat, false, none⟩, VR_sl (Env.set_self _ _ _) rfl _, ?_, FreshIn.set⟩
 have q : (madeCells z.cells (c.toNat * ei.size)).toList.toArray ++ (#[] : Array Value) = madeCells z.cells (c.toNat * ei.size) := by simp
 rw [q] at hS
 exact hS
end
end Go.Tx
end
section
namespace Go.Tx
open Go.Sx (TK tk isAggK cellsOf lt_of_get getD_of_lt tk_map)
section
variable {P : Program} {T : Tys} {E : Env} {F : SF} {nx : Nm} {w : World} {Z : Nat → Prop}
def mGet : List PV → List PV → Int → Option PV
 | .int _ m :: ks, v :: vs, n => if m = n then some v else mGet ks vs n
 | _ :: ks, _ :: vs, n => mGet ks vs n
 | _, _, _ => none
def mPutK (ks : List PV) (vs : List PV) (n : Int) : List PV := if (mGet ks vs n).isSome then ks else ks ++ [.int .i64 n]
def mPutV : List PV → List PV → Int → PV → List PV
 | .int _ m :: ks, u :: vs, n, v => if m = n then v :: vs else u :: mPutV ks vs n v
 | _ :: ks, u :: vs, n, v => u :: mPutV ks vs n v
 | _, vs, _, v => vs ++ [v]
def intKeys (ks : List PV) : Prop := ∀ k ∈ ks, ∃ m, k = .int .i64 m
def zeroP (i : TI) : PV := if isAggT i then .agg i.zero else i.zero.getD 0 undefP
def semMakeMap (T : Tys) (nx : Nm) (t : TypeId) : Option Res :=
 match T.get t with
 | some { k := .map _ _, .. } => some ⟨True, .mp nx, [(nx, .map true true [] [])], []⟩
 | _ => none
def lookRes (ei : TI) (ks vs : List PV) (n : Int) (ok : Bool) (rd : List Nm) : Res :=
 ⟨intKeys ks, if ok then .tup [(mGet ks vs n).getD (zeroP ei), .bool (mGet ks vs n).isSome] else (mGet ks vs n).getD (zeroP ei), [], rd⟩
def semLookup (T : Tys) (F : SF) (t : TypeId) (x i : PV) (ok : Bool) : Option Res :=
 match T.get t, i with
 | some { k := .map kt et, .. }, .int .i64 n =>
  match T.get kt, T.get et with
  | some { k := .int .i64, .. }, some ei =>
   match x with
   | .mp r => match F r with | some (.map _ _ ks vs) => some (lookRes ei ks vs n ok [r]) | _ => none
   | .fm ks vs => some (lookRes ei ks vs n ok [])
   | _ => none
  | _, _ => none
 | _, _ => none
def semMapUpdate (T : Tys) (F : SF) (t : TypeId) (x i v : PV) : Option Res :=
 match T.get t, x, i with
 | some { k := .map kt _, .. }, .mp r, .int .i64 n =>
  match T.get kt, F r with
  | some { k := .int .i64, .. }, some (.map true p ks vs) => some ⟨intKeys ks, undefP, [(r, .map true (p && nf v) (mPutK ks vs n) (mPutV ks vs n v))], [r]⟩
  | _, _ => none
 | _, _, _ => none
def isAggV : Value → Bool
 | .agg _ => true
 | _ => false
theorem zero_vr {t : TypeId} {ti : TI} {z : Value} (ht : TOk P t ti z) (w : World) (Z : Nat → Prop) (E : Env) : VR w Z E (zeroP ti) z := by
 have hv := ht.vr w Z E
 have hone := ht.sx.one
 have e : isAggK ti.k = isAggV z := by
  have hagg := ht.sx.agg
  revert hagg
  cases ti.k <;> exact fun h => h
 unfold zeroP isAggT
 rw [e]
 clear e
 cases z with
 | agg cs =>
  simp only [isAggV, if_true, VR]
  obtain ⟨l⟩ := cs
  exact ⟨l, rfl, by simpa [cellsOf] using hone, hv⟩
 | _ =>
  simp only [isAggV, Bool.false_eq_true, if_false]
  obtain ⟨g1, g2⟩ := VRl.get hv
  simp only [cellsOf, List.length_singleton] at g1
  obtain ⟨v', a1, a2⟩ := g2 0 _ (getD_of_lt undefP (by omega))
  simp [cellsOf] at a1; subst a1
  exact a2
def Found (w : World) (Z : Nat → Prop) (E : Env) (n : Int) (ks vs : List PV) (l : List MapEntry) (i : Nat) : Option (Nat × Value) → Prop
 | none => mGet ks vs n = none ∧ (∀ v, mPutV ks vs n v = vs ++ [v])
 | some ju => i ≤ ju.1 ∧ ∃ (v : PV) (e : MapEntry), mGet ks vs n = some v ∧ VR w Z E v ju.2 ∧ l[ju.1 - i]? = some e ∧ e.key = .int .i64 n ∧
   (∀ (x : PV) (y : Value), VR w Z E x y → VRl w Z E vs ((l.modify (ju.1 - i) (fun e => { e with key := .int .i64 n, val := y })).map (·.val)) ∨ True) ∧
   (∀ (w2 : World) (Z2 : Nat → Prop) (E2 : Env) (x : PV) (y : Value), VR w2 Z2 E2 x y → VRl w2 Z2 E2 ks (l.map (·.key)) → VRl w2 Z2 E2 vs (l.map (·.val)) →
    VRl w2 Z2 E2 ks ((l.modify (ju.1 - i) (fun e => { e with key := .int .i64 n, val := y })).map (·.key)) ∧ VRl w2 Z2 E2 (mPutV ks vs n x) ((l.modify (ju.1 - i) (fun e => { e with key := .int .i64 n, val := y })).map (·.val)))
theorem mFind {n : Int} : ∀ {l : List MapEntry} {ks vs : List PV} (i : Nat), VRl w Z E ks (l.map (·.key)) → VRl w Z E vs (l.map (·.val)) → intKeys ks →
  ∃ a : Option (Nat × Value), Instr.findNow (.int .i64) (.int .i64 n) l i = some a ∧ Found w Z E n ks vs l i a
 | [], ks, vs, i, h1, h2, _ => by
  have e1 : ks = [] := List.eq_nil_of_length_eq_zero (by simpa using (VRl.get h1).1.symm)
  have e2 : vs = [] := List.eq_nil_of_length_eq_zero (by simpa using (VRl.get h2).1.symm)
  subst e1; subst e2
  exact ⟨none, rfl, rfl, fun _ => rfl⟩
 | e :: l, [], vs, i, h1, h2, _ => by simp [VRl] at h1
 | e :: l, k :: ks, [], i, h1, h2, _ => by simp [VRl] at h2
 | e :: l, k :: ks, u :: vs, i, h1, h2, hk => by
  obtain ⟨m, rfl⟩ := hk k (by simp)
  simp only [List.map_cons, VRl] at h1 h2
  obtain ⟨_, _, he1, hv1, h1⟩ := h1
  obtain ⟨_, _, he2, hv2, h2⟩ := h2
  injection he1 with q1 q2; subst q1; subst q2
  injection he2 with q1 q2; subst q1; subst q2
  have hv1 : e.key = .int .i64 m := by simpa only [VR] using hv1
  have hkk : intKeys ks := fun x hx => hk x (by simp [hx])
  by_cases hmn : m = n
  ·subst hmn
   refine ⟨some (i, e.val), by simp [Instr.findNow, Instr.sameNow, hv1], Nat.le_refl _, u, e, by simp [mGet], hv2, by simp, hv1, fun _ _ _ => .inr trivial, ?_⟩
   intro w2 Z2 E2 x y hx g1 g2
   simp only [Nat.sub_self, List.modify_zero_cons, List.map_cons, VRl, mPutV, if_true] at g1 g2 ⊢
   obtain ⟨_, _, he1, _, g1⟩ := g1
   obtain ⟨_, _, he2, _, g2⟩ := g2
   injection he1 with q1 q2; subst q2
   injection he2 with q1 q2; subst q2
   exact ⟨⟨_, _, rfl, by simp [VR], g1⟩, ⟨_, _, rfl, hx, g2⟩⟩
  ·obtain ⟨a, q1, q2⟩ := mFind (n := n) (i + 1) h1 h2 hkk
   refine ⟨a, by simp [Instr.findNow, Instr.sameNow, hv1, show (n == m) = false by simp [Ne.symm hmn], q1], ?_⟩
   cases a with
   | none => exact ⟨by simp [mGet, hmn, q2.1], fun v => by simp [mPutV, hmn, q2.2 v]⟩
   | some ju =>
    obtain ⟨j, x⟩ := ju
    obtain ⟨a1, v, e', a2, a3, a4, a5, _, a6⟩ := q2
    have hj : j - i = (j - (i + 1)) + 1 := by omega
    refine ⟨by omega, v, e', by simp [mGet, hmn, a2], a3, by rw [hj]; simpa using a4, a5, fun _ _ _ => .inr trivial, ?_⟩
    intro w2 Z2 E2 x y hx g1 g2
    rw [hj]
    simp only [List.modify_succ_cons, List.map_cons, VRl, mPutV, if_neg hmn] at g1 g2 ⊢
    obtain ⟨_, _, he1, r1, g1⟩ := g1
    obtain ⟨_, _, he2, r2, g2⟩ := g2
    injection he1 with q1 q2; subst q1; subst q2
    injection he2 with q1 q2; subst q1; subst q2
    obtain ⟨b1, b2⟩ := a6 w2 Z2 E2 x y hx g1 g2
    exact ⟨⟨_, _, rfl, r1, b1⟩, ⟨_, _, rfl, r2, b2⟩⟩
theorem sound_makeMap (h : HRel E F w) (hE : E nx = none) {t : TypeId} {r : Res} (hs : semMakeMap T nx t = some r) : ∃ v' w', (Instr.makeMap t none).run P w = .ok v' w' ∧ Gives E F nx w r v' w' := by
 unfold semMakeMap at hs
 split at hs
 rotate_left
 ·cases hs
 injection hs with hs; subst hs
 refine ⟨.map (some w.heap.size), w.alloc (.map #[] 0), by simp [Instr.makeMap, Result.andThen], E.set nx ⟨w.heap.size, 0, 1, 0, false, none⟩, ?_, StepR.new h hE (.map #[] 0) _ _ rfl (fun Z' _ => ?_), FreshIn.set⟩
 ·simp only [VR]; exact ⟨_, Env.set_self _ _ _, rfl, rfl⟩
 ·exact ⟨_, Env.set_self _ _ _, rfl, #[], 0, (MapKept.heap_alloc w _).1, by simp [MRel, VRl]⟩
theorem lookup_run (hT : T.Ok P) {t kt et : TypeId} {ti ki ei : TI} (hti : T.get t = some ti) (hk : ti.k = .map kt et) (hki : T.get kt = some ki) (hkk : ki.k = .int .i64) (hei : T.get et = some ei) {r : Nat} {ents : Array MapEntry} {clk : Nat} (hb : w.heap[r]? = some (.map ents clk))
  {ks vs : List PV} (hm : MRel w Z E ents ks vs) (hkeys : intKeys ks) (n : Int) (ok : Bool) (rd : List Nm) :
  ∃ v', (Instr.lookup t (.map (some r)) (.int .i64 n) ok).run P w = .ok v' w ∧ VR w Z E (lookRes ei ks vs n ok rd).v v' := by
 obtain ⟨z1, h1⟩ := hT _ _ hti
 obtain ⟨z2, h2⟩ := hT _ _ hki
 obtain ⟨z3, h3⟩ := hT _ _ hei
 obtain ⟨d, hd, hkd⟩ := h1.sx.desc
 simp only [hk] at hkd
 obtain rfl := tk_map hkd
 obtain ⟨d2, hd2, hkd2⟩ := h2.sx.desc
 simp only [hkk] at hkd2
 have hd2' : d2 = .int .i64 := by cases d2 <;> simp [tk] at hkd2; rw [hkd2]
 subst hd2'
 obtain ⟨a, q1, q2⟩ := mFind (n := n) 0 hm.1 hm.2 hkeys
 have hz : (zeroValue et).run P w = .ok z3 w := h3.run_zeroValue w
 have hik : MapKept.IsKey (.int .i64) (.int .i64 n) := by simp [MapKept.IsKey]
 cases a with
 | none =>
  refine ⟨if ok then .tuple #[z3, .bool false] else z3, ?_, ?_⟩
  ·simp [Instr.lookup, run_underlying hd, MapKept.run_getObj_map hb, MapKept.run_checkKey hd2 hik, MapKept.run_findKey hd2 q1, hz, Result.andThen]
  ·have := zero_vr h3 w Z E
   cases ok with
   | false => simpa [lookRes, q2.1] using this
   | true =>
    simp only [lookRes, q2.1, if_true, VR, Option.getD_none, Option.isSome_none]
    exact ⟨[z3, .bool false], rfl, by simp only [VRl]; exact ⟨_, _, rfl, this, _, _, rfl, by simp [VR], rfl⟩⟩
 | some ju =>
  obtain ⟨_, v, e, a2, a3, _⟩ := q2
  refine ⟨if ok then .tuple #[ju.2, .bool true] else ju.2, ?_, ?_⟩
  ·simp [Instr.lookup, run_underlying hd, MapKept.run_getObj_map hb, MapKept.run_checkKey hd2 hik, MapKept.run_findKey hd2 q1, Result.andThen]
  ·cases ok with
   | false => simpa [lookRes, a2] using a3
   | true =>
    simp only [lookRes, a2, if_true, VR, Option.getD_some, Option.isSome_some]
    exact ⟨[ju.2, .bool true], rfl, by simp only [VRl]; exact ⟨_, _, rfl, a3, _, _, rfl, by simp [VR], rfl⟩⟩
theorem sound_lookup (hT : T.Ok P) (h : HRel E F w) {t : TypeId} {x k : PV} {x' k' : Value} {ok : Bool} {r : Res} (hs : semLookup T F t x k ok = some r) (hvc : r.vc) (hx : VR w (Zn E F w) E x x') (hk : VR w (Zn E F w) E k k') :
  ∃ v', (Instr.lookup t x' k' ok).run P w = .ok v' w ∧ Gives E F nx w r v' w := by
 unfold semLookup at hs
 split at hs
 rotate_left
 ·cases hs
 rename_i kt et _ _ _ _ _ n hti
 simp only [VR] at hk; subst hk
 split at hs
 rotate_left
 ·cases hs
 rename_i _ _ _ _ _ ei hki hei
 split at hs
 ·rename_i rr
  split at hs
  rotate_left
  ·cases hs
  rename_i own p ks vs hF
  injection hs with hs; subst hs
  simp only [VR] at hx
  obtain ⟨j, hj, _, rfl⟩ := hx
  obtain ⟨i, hi, hz, ents, clk, hb, hm⟩ := h.blk _ _ hF
  rw [hj] at hi; injection hi with hi; subst hi
  obtain ⟨v', r1, r2⟩ := lookup_run hT hti rfl hki rfl hei hb hm hvc n ok [rr]
  exact ⟨v', r1, Gives.still h rfl (VR.up r2)⟩
 ·rename_i ks vs
  injection hs with hs; subst hs
  simp only [VR] at hx
  obtain ⟨rr, ents, clk, rfl, _, hb, q1, q2⟩ := hx
  obtain ⟨v', r1, r2⟩ := lookup_run hT hti rfl hki rfl hei hb ⟨q1, q2⟩ hvc n ok []
  exact ⟨v', r1, Gives.still h rfl (VR.mono ⟨Env.no_le _, fun _ h => h, fun _ _ => rfl⟩ _ _ r2)⟩
 ·cases hs
theorem VRl.snoc {l : List PV} {l' : List Value} {x : PV} {v : Value} (h : VRl w Z E l l') (hv : VR w Z E x v) : VRl w Z E (l ++ [x]) (l' ++ [v]) :=
 VRl.append h (by simp only [VRl]; exact ⟨v, [], rfl, hv, rfl⟩)
theorem StepR.setMap (h : HRel E F w) {n : Nm} {p p' : Bool} {ks vs ks' vs' : List PV} {i : BI} (hF : F n = some (.map true p ks vs)) (hi : E n = some i) (hz : i.z = false) {ents : Array MapEntry} {clk : Nat}
  (hm : ∀ (w2 : World) (Z2 : Nat → Prop), Ext E w (Zn E F w) E w2 Z2 → MRel w2 Z2 (EE E p') ents ks' vs') (hb : i.b < w.heap.size) :
  StepR E F w E (F.set n (.map true p' ks' vs')) { w with heap := w.heap.setIfInBounds i.b (.map ents clk) } := by
 refine StepR.change h hF rfl rfl hi hz (fun k hk => by simp [Ne.symm hk]) (by simp) rfl rfl rfl fun hX => ?_
 exact ⟨i, hi, hz, ents, clk, by simp [hb], hm _ _ hX⟩
theorem sound_mapUpdate (hT : T.Ok P) (h : HRel E F w) {t : TypeId} {x k v : PV} {x' k' v' : Value} {r : Res} (hs : semMapUpdate T F t x k v = some r) (hvc : r.vc) (hx : VR w (Zn E F w) E x x') (hk : VR w (Zn E F w) E k k') (hv : VR w (Zn E F w) E v v') :
  ∃ w', (Instr.mapUpdate t x' k' v').run P w = .ok () w' ∧ Gives E F nx w r undef w' := by
 unfold semMapUpdate at hs
 split at hs
 rotate_left
 ·cases hs
 rename_i kt et _ _ _ _ _ rr n hti
 split at hs
 rotate_left
 ·cases hs
 rename_i _ _ _ _ _ p ks vs hki hF
 injection hs with hs; subst hs
 simp only at hvc
 simp only [VR] at hk hx; subst hk
 obtain ⟨j, hj, _, rfl⟩ := hx
 obtain ⟨i, hi, hz, ents, clk, hb, hm⟩ := h.blk _ _ hF
 rw [hj] at hi; injection hi with hi; subst hi
 obtain ⟨z1, h1⟩ := hT _ _ hti
 obtain ⟨z2, h2⟩ := hT _ _ hki
 obtain ⟨d, hd, hkd⟩ := h1.sx.desc
 obtain rfl := tk_map hkd
 obtain ⟨d2, hd2, hkd2⟩ := h2.sx.desc
 have hd2' : d2 = .int .i64 := by cases d2 <;> simp [tk] at hkd2; rw [hkd2]
 subst hd2'
 obtain ⟨a, q1, q2⟩ := mFind (n := n) 0 hm.1 hm.2 hvc
 have hik : MapKept.IsKey (.int .i64) (.int .i64 n) := by simp [MapKept.IsKey]
 have hlt := heap_lt hb
 have ext1 : ∀ (w2 : World) (Z2 : Nat → Prop), Ext E w (Zn E F w) E w2 Z2 → Ext (EE E p) w (Zn E F w) (EE E (p && nf v)) w2 Z2 := by
  intro w2 Z2 hX
  refine ⟨?_, hX.zone, hX.heap⟩
  cases p with
  | true => exact Env.no_le _
  | false => exact Env.le.refl _
 have ext2 : ∀ (w2 : World) (Z2 : Nat → Prop), Ext E w (Zn E F w) E w2 Z2 → VR w2 Z2 (EE E (p && nf v)) v v' := by
  intro w2 Z2 hX
  have := VR.mono hX _ _ hv
  cases hp : (p && nf v) with
  | false => exact this
  | true => simp only [Bool.and_eq_true] at hp; exact VR.nf v v' hp.2 this
 cases a with
 | none =>
  refine ⟨_, by simp [Instr.mapUpdate, run_underlying hd, MapKept.run_getObj_map hb, MapKept.run_checkKey hd2 hik, MapKept.run_findKey hd2 q1, MapKept.run_setObj_map _ hb, Result.andThen]; rfl, E, VR_undef, StepR.setMap h hF hj hz (fun w2 Z2 hX => ?_) hlt, FreshIn.refl _ _⟩
  have e1 : mPutK ks vs n = ks ++ [.int .i64 n] := by simp [mPutK, q2.1]
  rw [e1, q2.2 v]
  have m1 := VRl.mono (ext1 w2 Z2 hX) _ _ hm.1
  have m2 := VRl.mono (ext1 w2 Z2 hX) _ _ hm.2
  refine ⟨?_, ?_⟩
  ·simp only [Array.toList_push, List.map_append, List.map_cons, List.map_nil]
   exact m1.snoc (by simp [VR])
  ·simp only [Array.toList_push, List.map_append, List.map_cons, List.map_nil]
   exact m2.snoc (ext2 w2 Z2 hX)
 | some ju =>
  obtain ⟨j', u⟩ := ju
  obtain ⟨_, v0, e, a2, a3, a4, a5, _, a6⟩ := q2
  simp only [Nat.sub_zero] at a4 a6
  have hj' : ents[j']? = some e := by simpa using a4
  refine ⟨_, by simp [Instr.mapUpdate, run_underlying hd, MapKept.run_getObj_map hb, MapKept.run_checkKey hd2 hik, MapKept.run_findKey hd2 q1, hj', a5, MapKept.run_keyThatStays hik, MapKept.run_setObj_map _ hb, Result.andThen]; rfl, E, VR_undef, StepR.setMap h hF hj hz (fun w2 Z2 hX => ?_) hlt, FreshIn.refl _ _⟩
  have e1 : mPutK ks vs n = ks := by simp [mPutK, a2]
  rw [e1]
  have m1 := VRl.mono (ext1 w2 Z2 hX) _ _ hm.1
  have m2 := VRl.mono (ext1 w2 Z2 hX) _ _ hm.2
  obtain ⟨b1, b2⟩ := a6 w2 Z2 _ v v' (ext2 w2 Z2 hX) m1 m2
  exact ⟨by rw [Array.toList_modify]; exact b1, by rw [Array.toList_modify]; exact b2⟩
end
end Go.Tx
end
