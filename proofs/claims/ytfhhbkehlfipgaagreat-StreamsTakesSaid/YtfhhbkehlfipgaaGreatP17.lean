/- Lemmas for the walk: ZC48, ZC34, ZC38, ZC53, ZC17, ZC18, ZC19, ZC20, ZC54, ZC60, ZC67a, ZC67, ZC66, ZC68, ZD9. -/
import Derived.Test.YtfhhbkehlfipgaaGreatP14
import Derived.Test.YtfhhbkehlfipgaaGreatShelfP
import Derived.Test.YtfhhbkehlfipgaaGreatP16
import Derived.Test.YtfhhbkehlfipgaaGreatP12
import Derived.Test.YtfhhbkehlfipgaaGreatP13
import Derived.Test.YtfhhbkehlfipgaaGreatP15
set_option linter.all false
section
namespace Go.Proofs.YtfhhbkehlfipgaaGreat
open Go.Tx
set_option maxRecDepth 100000
set_option maxHeartbeats 16000000
theorem fnRep : Tryz.prog.funcs[33]? = some Tryz.f33 := by kernel_rfl
theorem repeat_ok {F : SF} {L nx : Nat} (s : List UInt8) (c : Nat) (hc : c ≤ 1000000) (hl : s.length * c ≤ 140737488355328) : Con Tryz.prog 33 [.str s, .int .i64 c] F L nx nx (.str (Lib.repeatL s c)) [] [] := by
 refine ⟨Nat.le_refl _, fun F2 hF2 E w args' hR _ _ hv => ?_⟩
 simp only [VRl, VR] at hv
 obtain ⟨_, _, rfl, rfl, _, _, rfl, rfl, rfl⟩ := hv
 have h := Tryz.strings_Repeat ⟨s.toArray⟩ c w (by omega) (by rw [strV_size]; exact hl)
 rw [callFunc_run fnRep (by rfl) (by kernel_rfl)]
 refine Calls.mono h ?_
 rintro e w' ⟨rfl, hb⟩
 refine ⟨_, rfl, E, ?_, StepR.same hR hb.os hb.tape hb.output hb.size hb.block, fun n h1 h2 => absurd h1 h2⟩
 simp only [VR]
 rfl
theorem idx_getT : ∀ (ps : List Dat) (t : Int), (getT ps t = none ∧ idxI (fun d => d.tsn == t) ps = -1) ∨ (∃ i : Nat, ∃ h : i < ps.length, getT ps t = some ps[i] ∧ idxI (fun d => d.tsn == t) ps = i) := by
 intro ps t
 cases hg : getT ps t with
 | none =>
  left
  refine ⟨rfl, idxI_end fun j hj => ?_⟩
  unfold getT at hg
  rw [List.find?_eq_none] at hg
  simpa using hg _ (List.getElem_mem hj)
 | some d =>
  right
  unfold getT at hg
  rw [List.find?_eq_some_iff_getElem] at hg
  obtain ⟨h1, i, hi, h2, h3⟩ := hg
  exact ⟨i, hi, by rw [h2], idxI_stop hi (fun j hj hji => by simpa using h3 j hji) (by rw [h2]; exact h1)⟩
structure CutX where
 i : Nat
 q : Nat
 c : Nat
 t : Int
 d : Dat
 ns : List Int
def cutI (ps : List Dat) (cum : Int) (z : CutX) : Prop :=
 z.ns.length = z.i ∧ z.ns.Nodup ∧ (∀ x ∈ z.ns, x ∈ ps.map Dat.tsn) ∧ 0 ≤ z.t ∧ z.t < 4294967296 ∧ cutS ps (ps.length + 1 - z.i) z.t z.d z.ns = cutG ps cum ∧
 128 ≤ z.c ∧ 192 ≤ z.q ∧ z.q ≠ z.c ∧ z.c < 10000 * (z.i + 1) ∧ z.q < 10000 * (z.i + 1)
theorem cut_ok {F : SF} {L nx : Nat} (n : Nm) (hn : n.l ≤ L) (o p : Bool) (out inn num seen asked : PV) (ps : List Dat) (hlen : ps.length ≤ 80) (hall : ∀ x ∈ ps, x.ok = true) (cum : Int) (hc0 : 0 ≤ cum) (hc1 : cum < 4294967296)
  (hF : F n = some (.rows 110 6 o p [[out, inn, .fs 8 (ps.map Dat.row), num, seen, asked]])) :
  Con Tryz.prog 80 [.ptr n 0 0, .int .i64 cum] F L nx nx (.fs 1 ((cutG ps cum).map eI)) [] [n] := by
 refine bdy Tryz.f80 (hrd := (by simpa using hn)) ?_
 intro F3 hF1 hF2
 have hF := (hF1 n (by simp)).trans hF
 have q5 := nm_out' hn
 have q6 := nm_out hn
 simp only [Tryz.f80, cx, go_sem, meths]
 refine loopK.intro _ _ (I := fun z : CutX => ⟨[some (.ptr n 0 0), none, none, none, none, some (.sl ⟨L + 1, z.q⟩ 0 z.ns.length), some (.ptr ⟨L + 1, 64⟩ 0 0), some (.ptr ⟨L + 1, z.c⟩ 0 0), none, none, none, none, none, none, none, none, none, none, none, none, none, none, none, none, none, none, none, none, none, none, none, none, none, none, none, none, none, none, none, none, none, none, none, none, none, none, none, none, none, none, none, none, none, none, none, none, none, none, none, none, none, none, none, none, none, none, none, none, none, none, none, none, none, none, none, none, none, none, none, none],
  [(⟨L + 1, 64⟩, .rows 32 8 true true [z.d.row]), (⟨L + 1, z.c⟩, .rows 3 1 true true [[.int .i64 z.t]]), (⟨L + 1, z.q⟩, .rows 3 1 true true (z.ns.map eI))], 10000 * (z.i + 1)⟩)
  (pre := cutI ps cum) (μ := fun z => ps.length + 1 - z.i) ⟨0, 192, 128, cum, datZ, []⟩ ⟨rfl, by simp, by simp, hc0, hc1, rfl, by simp, by simp, by simp, by simp, by simp⟩ ?_ ?_
 ·refine Sub.trans (Sub.nilName 5 3 (wd := 1) (by omega) rfl) ?_
  refine Sub.of (hfz hF2) (by simp only [go_sem, subT, and_self]) ?_ (by simp [subK, keys, updH, setH]) (by simp)
  simp [subH, Tx.look, updH, setH, datZ, Dat.row]
 ·rintro ⟨i, q, c, t, b, ns⟩ ⟨h1, h2, h3, h4, h5, h6, k1, k2, k3, k4, k5⟩
  simp only at h1 h2 h3 h4 h5 h6 k1 k2 k3 k4 k5 ⊢
  have hil : i ≤ ps.length := by
   have := nodup_sub h2 h3
   simp at this; omega
  have c_64 : (c = 64) = False := by apply eq_false; omega
  have n64_c : (64 = c) = False := by apply eq_false; omega
  have c_n1 : ∀ kk, (10000 * (i + 1) + kk = c) = False := fun kk => by apply eq_false; omega
  have c_n2 : ∀ kk, (c = 10000 * (i + 1) + kk) = False := fun kk => by apply eq_false; omega
  have c_n3 : (10000 * (i + 1) = c) = False := by apply eq_false; omega
  have c_n4 : (c = 10000 * (i + 1)) = False := by apply eq_false; omega
  have c_n5 : ∀ kk, ((⟨L + 1, c⟩ : Nm) == ⟨L + 1, 10000 * (i + 1) + kk⟩) = false := fun kk => by simp; omega
  have q_0 : (q = 0) = False := by apply eq_false; omega
  have n0_q : (0 = q) = False := by apply eq_false; omega
  have q_64 : (q = 64) = False := by apply eq_false; omega
  have n64_q : (64 = q) = False := by apply eq_false; omega
  have q_c : (q = c) = False := by apply eq_false; omega
  have nc_q : (c = q) = False := by apply eq_false; omega
  have q_n1 : ∀ kk, (10000 * (i + 1) + kk = q) = False := fun kk => by apply eq_false; omega
  have q_n2 : ∀ kk, (q = 10000 * (i + 1) + kk) = False := fun kk => by apply eq_false; omega
  have q_n3 : (10000 * (i + 1) = q) = False := by apply eq_false; omega
  have q_n4 : (q = 10000 * (i + 1)) = False := by apply eq_false; omega
  have q_n5 : ∀ kk, ((⟨L + 1, q⟩ : Nm) == ⟨L + 1, 10000 * (i + 1) + kk⟩) = false := fun kk => by simp; omega
  simp only [q6, hF, Dat.row, Nat.add_assoc, Nat.add_zero, go_sem]
  refine CallVC.same (indexFuncD_ok ps 113 [] [.ptr ⟨L + 1, c⟩ 0 0] (fun d => d.tsn == t) [⟨L + 1, c⟩] (by simp) (by omega) (fun x hx L' nx' hL => cut1_ok x ⟨L + 1, c⟩ hL 3 true true t (by simp [c_64]))) ?_
  obtain ⟨k, hk⟩ : ∃ k, ps.length + 1 - i = k + 1 := ⟨ps.length - i, by omega⟩
  rw [hk, cutS] at h6
  rcases idx_getT ps t with ⟨g0, e0⟩ | ⟨j, hj, g0, e0⟩
  ·rw [g0] at h6
   simp only at h6
   rw [e0, ← h6]
   have f1 : decide ((-1 : Int) < 0) = true := rfl
   simp only [f1, Nat.add_assoc, go_sem]
   exact PostF.rs (v0 := .nilS) (.inr rfl)
  ·rw [g0] at h6
   simp only at h6
   rw [e0]
   have f1 : decide ((j : Int) < 0) = false := dF (by omega)
   have r0 := rowD' hj
   obtain ⟨d, hd⟩ : ∃ d, d = ps[j] := ⟨_, rfl⟩
   have hdm : d ∈ ps := by rw [hd]; exact List.getElem_mem hj
   have hdt : d.tsn = t := (getT_mem g0).2 ▸ by rw [hd]
   rw [← hd] at h6 r0
   cases hla : d.la with
   | true =>
    rw [hla] at h6
    simp only [Bool.true_or, if_true] at h6
    rw [← h6]
    simp only [f1, r0, hla, Int.toNat_natCast, q6, hF, Dat.row, Nat.add_assoc, List.length_map, Nat.add_zero, go_sem]
    repeat refine sd1 ?_
    exact PostF.rs (v0 := .nilS) (.inr rfl)
   | false =>
    rw [hla] at h6
    simp only [Bool.false_or] at h6
    simp only [f1, r0, hla, Int.toNat_natCast, q6, hF, Dat.row, nc_q, c_64, Nat.add_assoc, List.length_map, Nat.add_zero, go_sem]
    repeat refine sd1 ?_
    refine CallVC.pure (args2 := [.fs 1 (ns.map eI), _]) ⟨by simp [Wk, q_64, q_c, List.take_of_length_le], rfl, trivial⟩ (contains_ok ns t (by omega)) rfl ?_
    have h7 : ns.contains t = ns.any fun z => t == z := List.contains_eq_any_beq
    cases h8 : ns.any fun z => t == z with
    | true =>
     rw [h7, h8] at h6
     simp only [if_true] at h6
     rw [← h6]
     simp only [Nat.add_assoc, go_sem]
     repeat refine sd1 ?_
     exact PostF.rs (v0 := .nilS) (.inr rfl)
    | false =>
     rw [h7, h8] at h6
     simp only [if_false, Bool.false_eq_true] at h6
     have hnd' : (ns ++ [t]).Nodup := by
      rw [List.nodup_append]
      refine ⟨h2, by simp, fun a ha b hb => ?_⟩
      simp at hb
      intro hab
      have : ns.any (fun z => t == z) = true := List.any_eq_true.2 ⟨a, ha, by simp [hab, hb]⟩
      rw [h8] at this; cases this
     have hns' : ∀ n ∈ ns ++ [t], n ∈ ps.map Dat.tsn := by
      intro n hn'
      rcases List.mem_append.1 hn' with h | h
      ·exact h3 n h
      ·simp at h; subst h; exact List.mem_map.2 ⟨d, hdm, hdt⟩
     have e9 : decide ((0 : Int) < (ns.length : Int)) = decide (0 < ns.length) := by simp
     have e10 : (d.lo != b.lo) = !(d.lo == b.lo) := rfl
     have e11 : Go.Sx.ibits .and .i64 (t - 1) 4294967295 = (t - 1) % 4294967296 := and_mask (t - 1) 32 (by omega)
     rw [e10] at h6
     have key : (decide (0 < ns.length) && (d.st != b.st || d.sq != b.sq || !(d.lo == b.lo))) = false → ns.length + 1 ≤ ps.length + 1 := fun _ => by omega
     cases h9 : decide (0 < ns.length) with
     | false =>
      rw [h9] at h6 e9
      simp only [Bool.false_and, if_false, Bool.false_eq_true] at h6
      cases hfi : d.fi with
      | true =>
       rw [hfi] at h6
       simp only [if_true] at h6
       rw [← h6]
       simp only [r0, hla, e9, hfi, Int.toNat_natCast, q6, hF, Dat.row, q_64, n64_q, q_c, nc_q, q_n1, q_n2, q_n5, c_64, n64_c, c_n1, c_n2, nS2, nS2', Nat.add_assoc, List.length_map, Nat.add_zero, go_sem]
       repeat refine sd2 ?_
       refine ⟨okDyn_num (fun x => if x.i = q then 1 else if x.i = c then 2 else x.i % 10000 + 100) (by simp only [numF, List.map, n64_q, q_c, nc_q, q_n1, n64_c, c_n1, if_true, if_false, Nat.mul_add_mod, Nat.reduceMod]; kernel_rfl), ?_⟩
       exact PostF.rs (v0 := .sl ⟨L + 1, 10000 * (i + 1) + 1344⟩ 0 (ns.length + 1) ) (.inr rfl) (hw := by simp [Wk, Tx.look, List.take_of_length_le, eI, q_n1, c_n1])
      | false =>
       rw [hfi] at h6
       simp only [if_false, Bool.false_eq_true] at h6
       simp only [r0, hla, e9, hfi, Int.toNat_natCast, q6, hF, Dat.row, q_64, n64_q, q_c, nc_q, q_n1, q_n2, q_n5, c_64, n64_c, c_n1, c_n2, nS2, nS2', Nat.add_assoc, List.length_map, Nat.add_zero, go_sem]
       repeat refine sd2 ?_
       refine ⟨okDyn_num (fun x => if x.i = q then 1 else if x.i = c then 2 else x.i % 10000 + 100) (by simp only [numF, List.map, n64_q, q_c, nc_q, q_n1, n64_c, c_n1, if_true, if_false, Nat.mul_add_mod, Nat.reduceMod]; kernel_rfl), ⟨by omega, by omega⟩, ⟨i + 1, 10000 * (i + 1) + 1344, 10000 * (i + 1) + 1568, (t - 1) % 4294967296, d, ns ++ [t]⟩, ⟨by simp; omega, hnd', hns', by simp only []; omega, by simp only []; omega, by rw [← h6]; show cutS ps (ps.length + 1 - (i + 1)) _ _ _ = _; rw [show ps.length + 1 - (i + 1) = k by omega], by simp only []; omega, by simp only []; omega, by simp only []; omega, by simp only []; omega, by simp only []; omega⟩, by simp only []; omega, ?_⟩
       refine Sub.of (hfz hF2) (by simp only [List.length_append, go_sem, subT, and_self]) ?_ (by simp [subK, keys]) (by simp only []; omega)
       simp [subH, Tx.look, eI, e11, hfi, hla, q_n1, c_n1]
     | true =>
      rw [h9] at h6 e9
      simp only [Bool.true_and] at h6
      cases h11 : d.st != b.st with
      | true =>
       rw [h11] at h6
       simp only [Bool.true_or, if_true] at h6
       rw [← h6]
       simp only [r0, hla, e9, h11, Int.toNat_natCast, q6, hF, Dat.row, n64_q, q_n1, n64_c, c_n1, Nat.add_assoc, List.length_map, Nat.add_zero, go_sem]
       repeat refine sd1 ?_
       exact PostF.rs (v0 := .nilS) (.inr rfl)
      | false =>
       rw [h11] at h6
       simp only [Bool.false_or] at h6
       cases h12 : d.sq != b.sq with
       | true =>
        rw [h12] at h6
        simp only [Bool.true_or, if_true] at h6
        rw [← h6]
        simp only [r0, hla, e9, h11, h12, Int.toNat_natCast, q6, hF, Dat.row, n64_q, q_n1, n64_c, c_n1, Nat.add_assoc, List.length_map, Nat.add_zero, go_sem]
        repeat refine sd1 ?_
        exact PostF.rs (v0 := .nilS) (.inr rfl)
       | false =>
        rw [h12] at h6
        simp only [Bool.false_or] at h6
        cases h13 : d.lo == b.lo with
        | false =>
         rw [h13] at h6
         simp only [Bool.not_false, if_true] at h6
         rw [← h6]
         simp only [r0, hla, e9, h11, h12, h13, Int.toNat_natCast, q6, hF, Dat.row, n64_q, q_n1, n64_c, c_n1, Nat.add_assoc, List.length_map, Nat.add_zero, go_sem]
         repeat refine sd1 ?_
         exact PostF.rs (v0 := .nilS) (.inr rfl)
        | true =>
         rw [h13] at h6
         simp only [Bool.not_true, if_false, Bool.false_eq_true] at h6
         cases hfi : d.fi with
         | true =>
          rw [hfi] at h6
          simp only [if_true] at h6
          rw [← h6]
          simp only [r0, hla, e9, h11, h12, h13, hfi, Int.toNat_natCast, q6, hF, Dat.row, q_64, n64_q, q_c, nc_q, q_n1, q_n2, q_n5, c_64, n64_c, c_n1, c_n2, nS2, nS2', Nat.add_assoc, List.length_map, Nat.add_zero, go_sem]
          repeat refine sd2 ?_
          refine ⟨okDyn_num (fun x => if x.i = q then 1 else if x.i = c then 2 else x.i % 10000 + 100) (by simp only [numF, List.map, n64_q, q_c, nc_q, q_n1, n64_c, c_n1, if_true, if_false, Nat.mul_add_mod, Nat.reduceMod]; kernel_rfl), ?_⟩
          exact PostF.rs (v0 := .sl ⟨L + 1, 10000 * (i + 1) + 1952⟩ 0 (ns.length + 1) ) (.inr rfl) (hw := by simp [Wk, Tx.look, List.take_of_length_le, eI, q_n1, c_n1])
         | false =>
          rw [hfi] at h6
          simp only [if_false, Bool.false_eq_true] at h6
          simp only [r0, hla, e9, h11, h12, h13, hfi, Int.toNat_natCast, q6, hF, Dat.row, q_64, n64_q, q_c, nc_q, q_n1, q_n2, q_n5, c_64, n64_c, c_n1, c_n2, nS2, nS2', Nat.add_assoc, List.length_map, Nat.add_zero, go_sem]
          repeat refine sd2 ?_
          refine ⟨okDyn_num (fun x => if x.i = q then 1 else if x.i = c then 2 else x.i % 10000 + 100) (by simp only [numF, List.map, n64_q, q_c, nc_q, q_n1, n64_c, c_n1, if_true, if_false, Nat.mul_add_mod, Nat.reduceMod]; kernel_rfl), ⟨by omega, by omega⟩, ⟨i + 1, 10000 * (i + 1) + 1952, 10000 * (i + 1) + 2176, (t - 1) % 4294967296, d, ns ++ [t]⟩, ⟨by simp; omega, hnd', hns', by simp only []; omega, by simp only []; omega, by rw [← h6]; show cutS ps (ps.length + 1 - (i + 1)) _ _ _ = _; rw [show ps.length + 1 - (i + 1) = k by omega], by simp only []; omega, by simp only []; omega, by simp only []; omega, by simp only []; omega, by simp only []; omega⟩, by simp only []; omega, ?_⟩
          refine Sub.of (hfz hF2) (by simp only [List.length_append, go_sem, subT, and_self]) ?_ (by simp [subK, keys]) (by simp only []; omega)
          simp [subH, Tx.look, eI, e11, hfi, hla, q_n1, c_n1]
theorem PsOk.delP {inn : List Int} {ps : List Dat} (h : PsOk inn ps) (hi : inn.all (serB 16) = true) (hi2 : inn.length ≤ 16) : DelP inn ps where
 len := h.len
 ok := fun d hd => (partOk_ok (h.all d hd)).1
 st := fun d hd => (partOk_ok (h.all d hd)).2.1
 nodup := h.nodup
 i3 := hi
 i2 := hi2
theorem okSk_bounds {sk : List (Int × Int)} {cum : Int} (h : fwdV cum sk = true) : (∀ k ∈ sk, 0 ≤ k.1 ∧ 0 ≤ k.2 ∧ k.2 < 65536) ∧ 0 ≤ cum ∧ cum < 4294967296 ∧ sk.length ≤ 30 := by
 obtain ⟨b1, b2, b3⟩ := fwdV_all h
 have h16 : (2 : Int) ^ (Int.toNat 16) = 65536 := rfl
 have h32 : (2 : Int) ^ (Int.toNat 32) = 4294967296 := rfl
 simp only [serB, Bool.and_eq_true, decide_eq_true_eq, h32] at b2
 refine ⟨fun k hk => ?_, b2.1, b2.2, b3⟩
 have := b1 k hk
 simp only [serB, Bool.and_eq_true, decide_eq_true_eq, h16] at this
 exact ⟨this.1.1, this.2.1, this.2.2⟩
theorem cutS_len (ps : List Dat) : ∀ (k : Nat) (t : Int) (b : Dat) (ns : List Int), (cutS ps k t b ns).length ≤ k + ns.length
 | 0, _, _, _ => by simp [cutS]
 | k + 1, t, b, ns => by
  rw [cutS]
  split
  ·simp
  ·split
   ·simp
   ·split
    ·simp
    ·split
     ·simp; omega
     ·exact Nat.le_trans (cutS_len ps k _ _ _) (by simp; omega)
theorem cutG_len (ps : List Dat) (cum : Int) : (cutG ps cum).length ≤ ps.length + 1 := Nat.le_trans (cutS_len ps (ps.length + 1) cum datZ []) (by simp)
theorem skip_ok {F : SF} {L nx : Nat} (out inn asked : List Int) (num seen : Int) (hS : Str0 out inn num seen asked) (ps : List Dat) (hP : PsOk inn ps) (hD : dueG inn ps = none) (cum : Int) (sk : List (Int × Int)) (hV : fwdV cum sk = true) (hst : sk.any (fun k => decide ((inn.length : Int) ≤ k.1)) = false) :
    Con Tryz.prog 37 [strV out inn num seen asked ps, fwdP cum sk] F L nx nx (.tup [strV out (skipG inn ps cum sk).1 num seen asked (skipG inn ps cum sk).2.1, .fs 4 ((skipG inn ps cum sk).2.2.map Msg.row), .int .i64 0]) [] [] := by
  have hp80 := hP.len
  have ho2 := hS.o2
  have hi2 := hS.i2
  have ha2 := hS.a2
  obtain ⟨hk1, hc0, hc1, hk3⟩ := okSk_bounds hV
  have hk2 : ∀ k ∈ sk, k.1 < inn.length := by
    intro k hk
    rw [List.any_eq_false] at hst
    have := hst k hk
    simp at this; omega
  have hbg : ∀ F L nx, Con Tryz.prog 54 [strV out inn num seen asked ps] F L nx (nx + 5) (.tup [.ptr ⟨L, nx⟩ 0 0, .int .i64 0]) (stU L nx out inn asked num seen ps) [] := fun F L nx => begin_ok out inn asked num seen hS ps hP hD
  have hpf := fun F L nx => putForward_ok (F := F) (L := L) (nx := nx) cum sk (by omega)
  simp only [hV, if_true, fwdP] at hpf
  simp only [strV, stU] at hbg
  have f0 : ((0 : Int) != 0) = false := rfl
  refine bdy Tryz.f37 ?_
  intro F3 hF1 hF2
  simp only [Tryz.f37, cx, strV, fwdP, go_sem, meths]
  refine CallVC.same (hbg _ _ _) ?_
  simp only [f0, go_sem]
  refine CallVC.same (hpf _ _ _) ?_
  simp only [f0, go_sem]
  refine CallVC.same (containsFunc2_ok sk 78 [] [.ptr ⟨L + 1, 0⟩ 0 0] (fun k => decide ((inn.length : Int) ≤ k.1)) [⟨L + 1, 0⟩] (by simp) (by omega) (fun x hx L' nx' hL => skip1_ok x ⟨L + 1, 0⟩ hL 41 true true (.fs 1 (out.map eI)) (.fs 8 (ps.map Dat.row)) (.int .i64 num) (.int .i64 seen) (.fs 1 (asked.map eI)) inn (by simp))) ?_
  simp only [hst, List.length_map, go_sem]
  refine loopK.intro _ _ (I := fun i : Nat => ⟨[none, none, none, some (.ptr ⟨L + 1, 32⟩ 0 0), some (.ptr ⟨L + 1, 64⟩ 0 0), none, none, some (.ptr ⟨L + 1, 192⟩ 0 0), none, none, none, none, none, none, none, none, none, none, none, none, none, none, none, none, none, none, none, none, none, none, none, none, none, none, none, none, none, none, none, some (.fs 2 (sk.map kE)), some (.int .i64 sk.length), some (.int .i64 i), none, none, none, none, none, none, none, none, none, none, none, none, none, none, none, none, none, none, none, none, none, none, none, none, none, none, none, none, none, none, none, none, none, none, none, none, none, none, none, none, none, none, none, none, none],
    [(⟨L + 1, 32⟩, .rows 63 2 true true [[.int .i64 cum, .fs 2 (sk.map kE)]]), (⟨L + 1, 64⟩, .rows 41 6 true true [[.nilS, .nilS, .nilS, .int .i64 0, .int .i64 0, .nilS]]),
     (⟨L + 1, 192⟩, .rows 110 6 true false [[.sl ⟨L + 1, 193⟩ 0 out.length, .sl ⟨L + 1, 194⟩ 0 inn.length, .fs 8 ((skipL inn ps (sk.take i)).2.map Dat.row), .int .i64 num, .int .i64 seen, .sl ⟨L + 1, 196⟩ 0 asked.length]]),
     (⟨L + 1, 193⟩, .rows 3 1 true true (out.map eI)), (⟨L + 1, 194⟩, .rows 3 1 true true ((skipL inn ps (sk.take i)).1.map eI)), (⟨L + 1, 196⟩, .rows 3 1 true true (asked.map eI))], if i = sk.length then 1000000 else 10000 * (i + 1)⟩) (pre := fun i => i ≤ sk.length) (μ := fun i => sk.length - i) 0 (by omega) ?_ ?_
  · refine Sub.trans (Sub.freeze (n := ⟨L + 1, 192⟩) (e := 110) (wd := 6) (o := true) (rs := [[.sl ⟨L + 1, 193⟩ 0 out.length, .sl ⟨L + 1, 194⟩ 0 inn.length, .sl ⟨L + 1, 195⟩ 0 ps.length, .int .i64 num, .int .i64 seen, .sl ⟨L + 1, 196⟩ 0 asked.length]]) [[.sl ⟨L + 1, 193⟩ 0 out.length, .sl ⟨L + 1, 194⟩ 0 inn.length, .fs 8 (ps.map Dat.row), .int .i64 num, .int .i64 seen, .sl ⟨L + 1, 196⟩ 0 asked.length]] (by simp [Tx.look]) (by simp [WkLL, WkL, Wk, Tx.look, List.take_of_length_le]) (by simp [wkNLL, wkNL, wkN])) ?_
    refine Sub.of (hfz hF2) (by simp only [go_sem, subT, and_self, Int.natCast_zero]) ?_ ?_ (by simp only []; split <;> omega)
    · simp [subH, Tx.look, updH, setH, skipL, unown, wkNLL, wkNL, wkN]
    · simp [subK, keys, updH, setH, unown, wkNLL, wkNL, wkN, Tx.look]
  · intro i hi
    obtain ⟨v1, v2, v3⟩ := skipL_ok (sk.take i) (inn, ps) hP hS.i3 (fun k hk => (hk1 k (List.mem_of_mem_take hk)).1)
    obtain ⟨z, hz⟩ : ∃ z, z = skipL inn ps (sk.take i) := ⟨_, rfl⟩
    rw [show (sk.take i).foldl skipStep (inn, ps) = z from hz.symm] at v1 v2 v3
    simp only at v3
    rw [← hz]
    by_cases hlt : i < sk.length
    · have hiN : (i = sk.length) = False := by apply eq_false; omega
      have f1 : decide ((i : Int) < (sk.length : Int)) = true := dT (by omega)
      have r0 := rowK hlt
      obtain ⟨k, hk⟩ : ∃ k, k = sk.getD i (0, 0) := ⟨_, rfl⟩
      have hkm : k ∈ sk := by rw [hk]; simp [List.getD_eq_getElem?_getD, hlt]
      rw [← hk] at r0
      obtain ⟨a1, a2, a3⟩ := hk1 k hkm
      have a4 := hk2 k hkm
      have r1 := getD_eI z.1 (i := k.1.toNat) (by omega)
      obtain ⟨b1, b2⟩ := serB16_at v2 (k := k.1.toNat) (by omega)
      have hz1 : skipL inn ps (sk.take (i + 1)) = skipStep z k := by
        unfold skipL
        rw [List.take_succ_eq_append_getElem hlt, List.foldl_append, hz]
        simp only [List.foldl_cons, List.foldl_nil]
        rw [show sk[i] = k by rw [hk]; simp [List.getD_eq_getElem?_getD, hlt]]
        rfl
      simp only [f1, r0, r1, kE, eI, hiN, v3, nB, Nat.add_assoc, List.length_map, Nat.add_zero, go_sem]
      repeat refine sd1 ?_
      refine CallVC.same (lead16_ok k.2 (z.1.getD k.1.toNat 0) a2 a3 b1 b2) ?_
      unfold skipStep at hz1
      cases hle : decide (0 ≤ lead k.2 (z.1.getD k.1.toNat 0) 16) with
      | false =>
        rw [if_neg (by simpa using hle)] at hz1
        simp only [hle, Nat.add_assoc, go_sem]
        repeat refine sd1 ?_
        refine ⟨i + 1, by omega, by omega, ?_⟩
        refine Sub.of (hfz hF2) (by simp only [go_sem, subT, and_self, Int.natCast_succ]) ?_ (by simp [subK, keys]) (by simp only []; split <;> omega)
        simp [subH, Tx.look, hz1]
      | true =>
        rw [if_pos (by simpa using hle)] at hz1
        simp only [hle, nB, Nat.add_assoc, Nat.add_zero, go_sem]
        repeat refine sd1 ?_
        refine CallVC.same (next_ok ⟨L + 1, 192⟩ ⟨L + 1, 194⟩ (.inr ⟨rfl, by simp only []; omega⟩) (.inr ⟨rfl, by simp only []; omega⟩) (by simp) ⟨L + 1, 193⟩ ⟨L + 1, 196⟩ out.length asked.length num seen (Nat.le_refl _) (Nat.le_refl _) k.1 k.2 z.1 v2 a1 (by omega) a2 a3 z.2 (by have := v1.len; omega) (fun x hx => (partOk_ok (v1.all x hx)).1) (by simp [v3]) (by simp)) ?_
        simp only [v3, nB, Nat.add_assoc, go_sem]
        repeat refine sd1 ?_
        refine ⟨i + 1, by omega, by omega, ?_⟩
        refine Sub.of (hfz hF2) (by simp only [go_sem, subT, and_self, Int.natCast_succ]) ?_ (by simp [subK, keys]) (by simp only []; split <;> omega)
        simp [subH, Tx.look, hz1]
    · have f1 : decide ((i : Int) < (sk.length : Int)) = false := dF (by omega)
      have e : i = sk.length := by omega
      subst e
      have e3 : sk.take sk.length = sk := List.take_of_length_le (by omega)
      rw [e3] at hz
      simp only [f1, Nat.add_zero, go_sem]
      refine CallVC.same (cut_ok ⟨L + 1, 192⟩ (Nat.le_refl _) true false (.sl ⟨L + 1, 193⟩ 0 out.length) (.sl ⟨L + 1, 194⟩ 0 inn.length) (.int .i64 num) (.int .i64 seen) (.sl ⟨L + 1, 196⟩ 0 asked.length) z.2 v1.len (fun x hx => (partOk_ok (v1.all x hx)).1) cum hc0 hc1 (by simp)) ?_
      obtain ⟨kept, hkept⟩ : ∃ x, x = cutG z.2 cum := ⟨_, rfl⟩
      rw [← hkept]
      simp only [Nat.add_zero, go_sem]
      have hkl : kept.length ≤ 1000 := by rw [hkept]; exact Nat.le_trans (cutG_len _ _) (by have := v1.len; omega)
      refine CallVC.same (without_ok z.2 81 [] [.ptr ⟨L + 1, 32⟩ 0 0, .ptr ⟨L + 1, 1000128⟩ 0 0] (skB cum kept) [⟨L + 1, 32⟩, ⟨L + 1, 1000128⟩] (by simp) (by have := v1.len; omega) (fun x hx L' nx' hL => skip2_ok x (partOk_ok (v1.all x hx)).1 ⟨L + 1, 32⟩ ⟨L + 1, 1000128⟩ hL hL 63 38 true true true true cum hc0 hc1 (.fs 2 (sk.map kE)) kept hkl (by simp) (by simp))) ?_
      obtain ⟨ps2, hps2⟩ : ∃ x, x = withoutG z.2 (skB cum kept) := ⟨_, rfl⟩
      have hQ := v1.without (skB cum kept)
      rw [← hps2] at hQ ⊢
      have hQ2 := hQ.delP v2 (by omega)
      simp only [Nat.add_zero, go_sem]
      refine CallVC.same (deliver_ok ⟨L + 1, 192⟩ ⟨L + 1, 194⟩ (.inr ⟨rfl, by simp⟩) (.inr ⟨rfl, by simp⟩) (by simp) ⟨L + 1, 193⟩ ⟨L + 1, 196⟩ out.length asked.length num seen (Nat.le_refl _) (Nat.le_refl _) z.1 ps2 hQ2 (by simp [v3]) (by simp)) ?_
      have hrl := delG_len ps2.length z.1 ps2 []
      have hsg : skipG inn ps cum sk = delG ps2.length z.1 ps2 [] := by
        unfold skipG skipP
        rw [← hz, ← hkept, ← hps2]
      rw [hsg]
      obtain ⟨r, hr⟩ : ∃ r, r = delG ps2.length z.1 ps2 [] := ⟨_, rfl⟩
      rw [← hr] at hrl ⊢
      simp only [v3, Nat.add_zero, go_sem]
      have hrl2 := hrl.trans v3
      exact PostF.rs (v0 := .tup [.agg [.sl ⟨L + 1, 193⟩ 0 out.length, .sl ⟨L + 1, 194⟩ 0 inn.length, .fs 8 (r.2.1.map Dat.row), .int .i64 num, .int .i64 seen, .sl ⟨L + 1, 196⟩ 0 asked.length], .fs 4 (r.2.2.map Msg.row), .int .i64 0] ) (.inr rfl) (hw := by simp [Wk, WkL, Tx.look, List.take_of_length_le, hrl2])
theorem repeatL_one (c : UInt8) (n : Nat) : Lib.repeatL [c] n = List.replicate n c := by
 induction n with
 | zero => rfl
 | succ n ih => simp [Lib.repeatL, List.replicate_succ] at ih ⊢; exact ih
def txW : List UInt8 := List.replicate 2500 109
theorem txW_len : txW.length = 2500 := List.length_replicate
def mW : Msg := ⟨1, 0, false, txW⟩
def nW : Msg := ⟨1, 0, false, [110]⟩
def nW2 : Msg := ⟨1, 0, true, [110]⟩
def pW (i : Nat) : List UInt8 := pieceS txW i
theorem pW_len0 : (pW 0).length = 1000 := by simp [pW, pieceS, txW_len]
theorem pW_len1 : (pW 1).length = 1000 := by simp [pW, pieceS, txW_len]
theorem pW_len2 : (pW 2).length = 500 := by simp [pW, pieceS, txW_len]
theorem pW_all : pW 0 ++ (pW 1 ++ pW 2) = txW := by
 simp only [pW, pieceS, txW, List.drop_replicate, List.take_replicate, List.replicate_append_replicate]
 rfl
def l0 (p : List UInt8) : Dat := ⟨10, 1, 0, 0, true, false, false, p⟩
def l1 (p : List UInt8) : Dat := ⟨11, 1, 0, 0, false, false, false, p⟩
def l2 (p : List UInt8) : Dat := ⟨12, 1, 0, 0, false, true, false, p⟩
def l3 : Dat := ⟨13, 1, 1, 0, true, true, false, [110]⟩
def l4 : Dat := ⟨13, 1, 0, 0, true, true, true, [110]⟩
theorem numW : numG 10 [0, 0] [mW, nW] [] = ([0, 2], [l0 (pW 0), l1 (pW 1), l2 (pW 2), l3]) := by
 have h1 : cutsM [0, 0] mW = [⟨0, 1, 0, 0, true, false, false, pW 0⟩, ⟨0, 1, 0, 0, false, false, false, pW 1⟩, ⟨0, 1, 0, 0, false, true, false, pW 2⟩] := by
  unfold cutsM
  rw [show (mW.tx.length + 999) / 1000 = 3 by show (txW.length + 999) / 1000 = 3; rw [txW_len]]
  rfl
 have h2 : cutsM [0, 1] nW = [⟨0, 1, 1, 0, true, true, false, [110]⟩] := rfl
 rw [numG, h1, show outS [0, 0] mW.st.toNat mW.lo = [0, 1] from rfl, numG, h2]
 rfl
theorem comes1 (p q : List UInt8) : comesG [0, 0] [] [l3, l2 q, l0 p] [] = ([0, 0], [l3, l2 q, l0 p], []) := by kernel_rfl
theorem comes2 (p q r : List UInt8) : comesG [0, 0] [] [l3, l2 r, l0 p, l1 q] [] = ([0, 2], [], [⟨1, 0, false, (([] ++ p) ++ q) ++ r⟩, nW]) := by kernel_rfl
theorem comes3 : comesG [0, 0] [] [l4] [] = ([0, 0], [], [nW2]) := by kernel_rfl
theorem comes4 (p q r : List UInt8) : comesG [0, 0] [] [l4, l2 r, l0 p, l1 q] [] = ([0, 1], [], [nW2, ⟨1, 0, false, (([] ++ p) ++ q) ++ r⟩]) := by kernel_rfl
theorem comes5 : comesG [0, 0] [] [l3] [] = ([0, 0], [l3], []) := by kernel_rfl
theorem skipW : skipG [0, 0] [l3] 12 [(1, 0)] = ([0, 2], [], [nW]) := by kernel_rfl
def flW (p q r : List UInt8) : List Fl := [⟨l0 p, 0, 1, 0, false, false, false⟩, ⟨l1 q, 0, 1, 0, false, true, false⟩, ⟨l2 r, 0, 1, 0, false, false, false⟩]
theorem dropsW1 (p q r : List UInt8) : dropsR (flW p q r) [-1, 0] = ([10, 11, 12], 0) := by kernel_rfl
theorem dropsW2 (p q r : List UInt8) : dropsR (flW p q r) [-1, 1] = ([], 0) := by kernel_rfl
def zeroAt (out l : List Int) (k : Nat) : List Int := (l.take k).foldl (fun o i => o.set i.toNat 0) out
theorem zeroAt_len (out l : List Int) (k : Nat) : (zeroAt out l k).length = out.length := by
 unfold zeroAt
 generalize l.take k = m
 induction m generalizing out with
 | nil => rfl
 | cons x m ih => simp only [List.foldl_cons]; rw [ih]; simp
theorem zeroAt_succ (out l : List Int) (k : Nat) (h : k < l.length) : zeroAt out l (k + 1) = (zeroAt out l k).set (l.getD k 0).toNat 0 := by
 unfold zeroAt
 rw [List.take_succ_eq_append_getElem h, List.foldl_append, List.getD_eq_getElem?_getD, List.getElem?_eq_getElem h]
 rfl
theorem listedB_at {l : List Int} {n : Int} (h : listedB l n = true) (i : Nat) (hi : i < l.length) : 0 ≤ l.getD i 0 ∧ l.getD i 0 < n := by
 unfold listedB at h
 rw [List.all_eq_true] at h
 have := h i (by simpa using hi)
 unfold okAt at this
 simp only [Bool.and_eq_true, decide_eq_true_eq] at this
 exact this.1
theorem answered1_ok {F : SF} {L nx : Nat} (out inn : List Int) (num seen : Int) (l : List Int) (hl : 1 ≤ l.length) (hS : Str0 out inn num seen l) (hr : resetV 2 num 0 1 [] = true) :
    Con Tryz.prog 31 [strV0 out inn num seen l, rstP 2 num 0 1 (.fs 1 [])] F L nx nx (.tup [strV0 (zeroAt out l l.length) inn ((num + 1) % 4294967296) seen [], .int .i64 0]) [] [] := by
  refine bdy Tryz.f31 ?_
  intro F3 hF1 hF2
  have f0 : ((0 : Int) != 0) = false := rfl
  have f1 : ((2 : Int) != 2) = false := rfl
  have f2 : ((l.length : Int) == 0) = false := eqF (by omega)
  have f3 : (num != num) = false := neF rfl
  have f4 : ((1 : Int) == 6) = false := rfl
  have f5 : ((1 : Int) == 1) = true := rfl
  simp only [Tryz.f31, cx, strV0, rstP, go_sem, meths]
  refine CallVC.same (begin0_ok out inn l num seen hS.s hS.o1 hS.o2 hS.o3 hS.i1 hS.i2 hS.i3 hS.n hS.a hS.a2) ?_
  simp only [f0, go_sem]
  refine CallVC.same (putReset_ok 2 num 0 1 [] (by simp)) ?_
  simp only [hr, f0, f1, f2, f3, f4, f5, List.length_map, Nat.add_zero, go_sem]
  refine loopK.intro _ _ (I := fun i : Nat => ⟨[none, none, some (.ptr ⟨L + 1, 0⟩ 0 0), none, some (.ptr ⟨L + 1, 64⟩ 0 0), none, some (.ptr ⟨L + 1, 160⟩ 0 0), none, none, none, none, none, none, none, none, none, none, none, none, none, none, none, none, none, none, none, none, none, none, none, none, none, none, none, none, none, none, none, none, none, none, none, none, none, none, none, none, none, none, none, none, none, none, none, none, none, none, none, none, none, none, some (.fs 1 (l.map eI)), some (.int .i64 l.length), some (.int .i64 i), none, none, none, none, none, none, none, none, none, none, none, none, none, none, none, none, none, none, none, none, none, none, none, none, none, none],
    [(⟨L + 1, 0⟩, .rows 41 6 true true [[.fs 1 (out.map eI), .fs 1 (inn.map eI), .fs 8 [], .int .i64 num, .int .i64 seen, .fs 1 (l.map eI)]]), (⟨L + 1, 64⟩, .rows 41 6 true true [[.nilS, .nilS, .nilS, .int .i64 0, .int .i64 0, .nilS]]),
     (⟨L + 1, 160⟩, .rows 110 6 true false [[.sl ⟨L + 1, 161⟩ 0 out.length, .sl ⟨L + 1, 162⟩ 0 inn.length, .sl ⟨L + 1, 163⟩ 0 0, .int .i64 num, .int .i64 seen, .sl ⟨L + 1, 164⟩ 0 l.length]]),
     (⟨L + 1, 161⟩, .rows 3 1 true true ((zeroAt out l i).map eI)), (⟨L + 1, 162⟩, .rows 3 1 true true (inn.map eI)), (⟨L + 1, 163⟩, .rows 32 8 true true [])], 10000 * (i + 1)⟩) (pre := fun i => i ≤ l.length) (μ := fun i => l.length - i) 0 (by omega) ?_ ?_
  · refine Sub.of (hfz hF2) (by simp only [go_sem, subT, and_self, Int.natCast_zero]) ?_ (by simp only [go_sem, subK, and_self, true_or, or_true, List.not_mem_nil, List.mem_cons]) (by simp)
    simp [subH, Tx.look, zeroAt]
  · intro i hi
    have lz : ((zeroAt out l i).map eI).length = out.length := by rw [List.length_map, zeroAt_len]
    by_cases hlt : i < l.length
    · have f6 : decide ((i : Int) < (l.length : Int)) = true := dT (by omega)
      obtain ⟨b1, b2⟩ := listedB_at hS.a i hlt
      have ha2 := hS.a2
      have r0 := getD_eI l hlt
      have r1 := getD_eI (zeroAt out l i) (i := (l.getD i 0).toNat) (by rw [zeroAt_len]; omega)
      simp only [f6, lz, r0, r1, eI, set_eI, List.length_map, ← zeroAt_succ _ _ _ hlt, Nat.add_zero, go_sem]
      repeat refine sd1 ?_
      refine ⟨i + 1, by omega, by omega, ?_⟩
      refine Sub.of (hfz hF2) (by simp only [go_sem, subT, and_self, Int.natCast_succ]) ?_ (by simp only [go_sem, subK, and_self, true_or, or_true, List.not_mem_nil, List.mem_cons]) (by simp only []; omega)
      simp [subH, Tx.look]
    · have f6 : decide ((i : Int) < (l.length : Int)) = false := dF (by omega)
      have e : i = l.length := by omega
      subst e
      obtain ⟨en, bn⟩ := serB_nat (b := 32) (x := num) (by simpa using hS.n)
      have bn' : num.toNat < 4294967296 := bn
      have h32x : (2 : Int) ^ 32 = 4294967296 := rfl
      have h32 : (2 : Int) ^ (32 : Int).toNat = 4294967296 := rfl
      have h32' : (2 : Int) ^ (Int.toNat 32) = 4294967296 := rfl
      simp only [f6, go_sem]
      refine CallVC.same (behind_ok num 32 (by omega) (by omega) (by omega) (by omega)) ?_
      simp only [h32x, Nat.add_zero, go_sem]
      exact PostF.rs (v0 := .tup [.agg [.sl ⟨L + 1, 161⟩ 0 out.length, .sl ⟨L + 1, 162⟩ 0 inn.length, .sl ⟨L + 1, 163⟩ 0 0, .int .i64 ((num + 1) % 4294967296), .int .i64 seen, .nilS], .int .i64 0] ) (.inr rfl) (hw := by simp [Wk, WkL, Tx.look, List.take_of_length_le, zeroAt_len])
end Go.Proofs.YtfhhbkehlfipgaaGreat
end
section
namespace Go.Proofs.YtfhhbkehlfipgaaGreat
open Go.Tx
set_option maxRecDepth 100000
set_option maxHeartbeats 2000000
end Go.Proofs.YtfhhbkehlfipgaaGreat
end
section
namespace Go.Proofs.YtfhhbkehlfipgaaGreat
open Go.Tx
set_option maxRecDepth 100000
set_option maxHeartbeats 2000000
end Go.Proofs.YtfhhbkehlfipgaaGreat
end
section
namespace Go.Proofs.YtfhhbkehlfipgaaGreat
open Go.Tx
set_option maxRecDepth 100000
set_option maxHeartbeats 4000000
end Go.Proofs.YtfhhbkehlfipgaaGreat
end
section
namespace Go.Proofs.YtfhhbkehlfipgaaGreat
open Go.Tx
set_option maxRecDepth 100000
set_option maxHeartbeats 16000000
def strZ : PV := .agg [.nilS, .nilS, .nilS, .int .i64 0, .int .i64 0, .nilS]
theorem send8_ok {F : SF} {L nx : Nat} (out inn asked : List Int) (num seen : Int) (hS : Str0 out inn num seen asked) (ps : List Dat) (hP : PsOk inn ps) (hD : dueG inn ps = none) (st pr : Int) (lo : Bool) (s : List UInt8)
  (h1 : 0 ≤ st) (h2 : st < out.length) (hpr : [pr].all (serB 32) = true) (hs1 : 1 ≤ s.length) (hs2 : s.length ≤ 8000) (hA : (asked.any fun x => st == x) = true) :
  Con Tryz.prog 14 [strV out inn num seen asked ps, .agg [.int .i64 st, .int .i64 pr, .bool lo, .str s]] F L nx nx (.tup [strZ, .nilS, .int .i64 8]) [] [] := by
 have f0 : ((0 : Int) != 0) = false := rfl
 have f1 : decide (st < 0) = false := dF (by omega)
 have f2 : decide ((out.length : Int) ≤ st) = false := dF (by omega)
 have f3 : decide ((s.length : Int) < 1) = false := dF (by omega)
 have f4 : decide ((8000 : Int) < (s.length : Int)) = false := dF (by omega)
 have ha2 := hS.a2
 refine bdy Tryz.f14 ?_
 intro F3 hF1 hF2
 simp only [Tryz.f14, cx, strV, strZ, go_sem, meths]
 refine CallVC.same (begin_ok out inn asked num seen hS ps hP hD) ?_
 simp only [stU, f0, f1, f2, List.length_map, Nat.add_zero, go_sem]
 refine CallVC.pure (args2 := [_, .fs 1 ([pr].map eI)]) ⟨rfl, ?_, trivial⟩ (serial_ok 32 [pr] (by omega) (by omega) (by simp)) rfl ?_
 ·simp [Wk, eI]
 simp only [hpr, wkNL, wkN, f3, f4, Nat.add_zero, go_sem]
 refine CallVC.same (contains_ok asked st (by omega)) ?_
 simp only [hA, go_sem]
 exact PostF.rs (v0 := .tup [.agg [.nilS, .nilS, .nilS, .int .i64 0, .int .i64 0, .nilS], .nilS, .int .i64 8]) (.inr rfl)
theorem begin_bad {F : SF} {L nx : Nat} (out inn asked : List Int) (num seen : Int) (ps : List Dat) (ho : out.length ≤ 1000000) (hi : inn.length ≤ 1000000) (ha2 : asked.length ≤ 1000000) (hpl : ps.length ≤ 1000000) (hc : chkB out inn num seen asked ps = false) :
  Con Tryz.prog 54 [strV out inn num seen asked ps] F L nx nx (.tup [.nilP, .int .i64 350]) [] [] := by
 have hch := fun F L nx => check_all (F := F) (L := L) (nx := nx) out inn asked num seen ps ho hi ha2 hpl
 rw [hc] at hch
 simp only [strV, Bool.false_eq_true, if_false] at hch
 refine bdy Tryz.f54 ?_
 intro F3 hF1 hF2
 have f1 : ((350 : Int) != 0) = true := rfl
 simp only [Tryz.f54, cx, strV, go_sem, meths]
 refine CallVC.same (hch _ _ _) ?_
 simp only [f1, go_sem]
 exact PostF.rs (v0 := .tup [.nilP, .int .i64 350]) (.inr rfl)
def hasP (x : Int) (y : Int) : Bool := y == x
theorem has_ok {F : SF} {L nx : Nat} (xs : List Int) (x : Int) (hlen : xs.length ≤ 1000000) : Con Tryz.prog 16 [.fs 1 (xs.map eI), .int .i64 x] F L nx nx (.bool (xs.any (hasP x))) [] [] := by
 refine bdy Tryz.f16 ?_
 intro F3 hF1 hF2
 simp only [Tryz.f16, cx, go_sem, meths]
 refine loopK.intro _ _ (I := fun i : Nat => ⟨[some (.fs 1 (xs.map eI)), some (.int .i64 x), none, none, none, some (.int .i64 i), none, none, none, none, none, none, none, none, none, none, none, none], [], 10000 * (i + 1)⟩) (pre := fun i => i ≤ xs.length ∧ ∀ (j : Nat) (hj : j < xs.length), j < i → hasP x xs[j] = false) (μ := fun i => xs.length - i) 0 ⟨by omega, by intro j _ h; omega⟩ ?_ ?_
 ·exact Sub.of (hfz hF2) (by simp only [go_sem, subT, and_self, Int.natCast_zero]) trivial trivial (by simp)
 ·rintro i ⟨hi, hp⟩
  by_cases hlt : i < xs.length
  ·have f1 : decide ((i : Int) < (xs.length : Int)) = true := dT (by omega)
   have r0 := getD_eI xs hlt
   have e0 : xs.getD i 0 = xs[i] := by simp [List.getD_eq_getElem?_getD, hlt]
   rw [e0] at r0
   cases hpi : xs[i] == x
   ·simp only [f1, r0, eI, hpi, Int.toNat_natCast, List.length_map, go_sem]
    repeat refine sd2 ?_
    refine ⟨i + 1, ⟨by omega, fun j hj hji => ?_⟩, by omega, Sub.of (hfz hF2) (by simp only [go_sem, subT, and_self, Int.natCast_succ]) trivial trivial (by simp only []; omega)⟩
    by_cases he : j = i
    ·subst he; exact hpi
    ·exact hp j hj (by omega)
   ·simp only [f1, r0, eI, hpi, Int.toNat_natCast, List.length_map, go_sem]
    repeat refine sd2 ?_
    exact .bool (.inr rfl) rfl (by symm; rw [List.any_eq_true]; exact ⟨xs[i], List.getElem_mem hlt, hpi⟩) trivial
  ·have f1 : decide ((i : Int) < (xs.length : Int)) = false := dF (by omega)
   simp only [f1, List.length_map, go_sem]
   exact .bool (.inr rfl) rfl (by symm; rw [List.any_eq_false]; intro y hy; obtain ⟨j, hj, rfl⟩ := List.getElem_of_mem hy; simp [hp j hj (by omega)]) trivial
theorem sameData_ok {F : SF} {L nx : Nat} (ps : List Dat) (ha : ps.length ≤ 1000000) :
  Con Tryz.prog 18 [.fs 8 (ps.map Dat.row), .fs 8 (ps.map Dat.row)] F L nx nx (.bool true) [] [] := by
 refine bdy Tryz.f18 ?_
 intro F3 hF1 hF2
 have f0 : ((ps.length : Int) != (ps.length : Int)) = false := by simp
 simp only [Tryz.f18, cx, f0, List.length_map, go_sem, meths]
 refine loopK.intro _ _ (I := fun i : Nat => ⟨[some (.fs 8 (ps.map Dat.row)), some (.fs 8 (ps.map Dat.row)), none, none, none, some (.int .i64 i), none, none, none, none, none, none, none, none, none, none, none, none, none, none, none, none, none, none, none, none], [], 10000 * (i + 1)⟩) (pre := fun i => i ≤ ps.length) (μ := fun i => ps.length - i) 0 (by omega) ?_ ?_
 ·exact Sub.of (hfz hF2) (by simp only [go_sem, subT, and_self, Int.natCast_zero]) trivial trivial (by simp)
 ·intro i hi
  by_cases hlt : i < ps.length
  ·have f1 : decide ((i : Int) < (ps.length : Int)) = true := dT (by omega)
   have r0 := rowD hlt
   simp only [f1, r0, Dat.row, beq_self_eq_true, List.length_map, Nat.add_assoc, go_sem]
   repeat refine sd1 ?_
   refine ⟨i + 1, by omega, by omega, ?_⟩
   exact Sub.of (hfz hF2) (by simp only [go_sem, subT, and_self, Int.natCast_succ]) trivial trivial (by simp only []; omega)
  ·have f1 : decide ((i : Int) < (ps.length : Int)) = false := dF (by omega)
   simp only [f1, List.length_map, Nat.add_assoc, go_sem]
   exact .bool (.inr rfl) rfl rfl (by simp [UpdAll])
theorem sameS_ok {F : SF} {L nx : Nat} (out inn asked : List Int) (num seen : Int) (ps : List Dat) (h1 : out.length ≤ 1000000) (h2 : inn.length ≤ 1000000) (h3 : asked.length ≤ 1000000) (h4 : ps.length ≤ 1000000) :
  Con Tryz.prog 8 [strV out inn num seen asked ps, strV out inn num seen asked ps] F L nx nx (.bool true) [] [] := by
 refine bdy Tryz.f8 ?_
 intro F3 hF1 hF2
 have f1 : (num == num) = true := by simp
 have f2 : (seen == seen) = true := by simp
 simp only [Tryz.f8, cx, strV, Nat.add_zero, go_sem, meths]
 refine CallVC.same (ints_ok out out h1 h1) ?_
 simp only [beq_self_eq_true, go_sem]
 refine CallVC.same (ints_ok inn inn h2 h2) ?_
 simp only [beq_self_eq_true, go_sem]
 refine CallVC.same (ints_ok asked asked h3 h3) ?_
 simp only [beq_self_eq_true, go_sem]
 refine CallVC.same (sameData_ok ps h4) ?_
 simp only [f1, f2, go_sem]
 exact .bool (.inr rfl) rfl rfl (by simp [UpdAll])
theorem refDueN_ok {F : SF} {L nx : Nat} (m mo ma : Nm) (ol al : Nat) (hm : m.l ≤ L) (hmo : mo.l ≤ L) (hma : ma.l ≤ L) (inn : List Int) (num seen : Int) (ps : List Dat) (hlen : ps.length ≤ 80) (hall : ∀ x ∈ ps, x.ok = true) (hst : ∀ x ∈ ps, x.st < inn.length) (hnd : (ps.map Dat.tsn).Nodup) (hil : inn.length ≤ 1000000) (hFm : F m = some (.rows 3 1 true true (inn.map eI))) :
  Con Tryz.prog 48 [.agg [.sl mo 0 ol, .sl m 0 inn.length, .fs 8 (ps.map Dat.row), .int .i64 num, .int .i64 seen, .sl ma 0 al]] F L nx nx (.fs 1 (((numsC (dueG inn ps)).map (plI ps)).map eI)) [] [m] := by
 have hcm := fun F L nx m hm => refComplete_ok (F := F) (L := L) (nx := nx) ps hlen hall hnd m hm
 refine bdy Tryz.f48 (hrd := (by simp; omega)) ?_
 intro F3 hF1 hF2
 have hFm := (hF1 m (by simp)).trans hFm
 have q7 := nm_out' hm
 have q8 := nm_out hm
 simp only [Tryz.f48, cx, go_sem, meths]
 refine loopK.intro _ _ (I := fun i : Nat => ⟨[none, some (.ptr ⟨L + 1, 0⟩ 0 0), none, some (.int .i64 i), none, none, none, none, none, none, none, none, none, none, none, none, none, none, none, none, none, none, none, none, none, none, none, none, none, none, none, none, none, none, none, none, none, none, none], [(⟨L + 1, 0⟩, .rows 41 6 true false [[.sl mo 0 ol, .sl m 0 inn.length, .fs 8 (ps.map Dat.row), .int .i64 num, .int .i64 seen, .sl ma 0 al]])], 10000 * (i + 1)⟩)
  (pre := fun i => i ≤ ps.length ∧ dueG inn ps = (ps.drop i).findSome? (dueF inn ps)) (μ := fun i => ps.length - i) 0 ⟨by omega, rfl⟩ ?_ ?_
 ·refine Sub.of (hfz hF2) (by simp only [go_sem, subT, and_self, Int.natCast_zero]) ?_ (by simp [subK, keys]) (by simp)
  simp [subH, Tx.look]
 ·rintro i ⟨hi, hdi⟩
  by_cases hlt : i < ps.length
  ·have f1 : decide ((i : Int) < (ps.length : Int)) = true := dT (by omega)
   have r0 := rowD hlt
   have hd := List.getElem_mem hlt
   have hdr : ps.drop i = ps[i] :: ps.drop (i + 1) := List.drop_eq_getElem_cons hlt
   rw [hdr, List.findSome?_cons] at hdi
   have hc := fun F L nx => hcm F L nx i hlt
   obtain ⟨d, hdd⟩ : ∃ d, d = ps[i] := ⟨_, rfl⟩
   rw [← hdd] at r0 hd hdi
   simp only [← hdd] at hc
   have hok := Dat.ok_bounds (hall d hd)
   have hs2 := hst d hd
   have r1 := getD_eI inn (i := d.st.toNat) (by omega)
   have key : dueF inn ps d = none → (∃ y, (y ≤ ps.length ∧ dueG inn ps = (ps.drop y).findSome? (dueF inn ps)) ∧ ps.length - y < ps.length - i ∧ y = i + 1) := fun h => ⟨i + 1, ⟨by omega, by rw [hdi, h]⟩, by omega, rfl⟩
   have f0 : decide ((0 : Int) < ((0 : Nat) : Int)) = false := rfl
   cases hlo : d.lo with
   | true =>
    have hgd : dueF inn ps d = complete ps d := by simp [dueF, hlo]
    simp only [f1, r0, hlo, Dat.row, Int.toNat_natCast, List.length_map, Nat.add_assoc, go_sem]
    repeat refine sd1 ?_
    refine CallVC.same (hc _ _ _) ?_
    cases hcc : complete ps d with
    | none =>
     rw [hgd, hcc] at hdi
     simp only [numsC, List.map_nil, f0, Nat.add_assoc, go_sem]
     repeat refine sd1 ?_
     refine ⟨i + 1, ⟨by omega, hdi⟩, by omega, ?_⟩
     refine Sub.o hF2 ?_
     simp [subH, Tx.look]
    | some r =>
     obtain ⟨m, ns⟩ := r
     rw [hgd, hcc] at hdi
     rw [hdi]
     have f2 : decide ((0 : Int) < (ns.length : Int)) = true := dT (by have := complete_ne hcc; omega)
     simp only [numsC, f2, List.length_map, Nat.add_assoc, go_sem]
     exact PostF.rs (v0 := .fs 1 ((ns.map (plI ps)).map eI)) (.inr rfl)
   | false =>
    cases hsq : d.sq == inn.getD d.st.toNat 0 with
    | false =>
     have hgd : dueF inn ps d = none := by simp only [dueF, hlo, bne, hsq]; rfl
     rw [hgd] at hdi
     simp only [f1, r0, r1, eI, hlo, hsq, Dat.row, Int.toNat_natCast, List.length_map, hFm, q8, Nat.add_assoc, go_sem]
     repeat refine sd1 ?_
     refine ⟨i + 1, ⟨by omega, hdi⟩, by omega, ?_⟩
     refine Sub.o hF2 ?_
     simp [subH, Tx.look]
    | true =>
     have hgd : dueF inn ps d = complete ps d := by simp only [dueF, hlo, bne, hsq]; rfl
     simp only [f1, r0, r1, eI, hlo, hsq, Dat.row, Int.toNat_natCast, List.length_map, hFm, q8, Nat.add_assoc, go_sem]
     repeat refine sd1 ?_
     refine CallVC.same (hc _ _ _) ?_
     cases hcc : complete ps d with
     | none =>
      rw [hgd, hcc] at hdi
      simp only [numsC, List.map_nil, f0, Nat.add_assoc, go_sem]
      repeat refine sd1 ?_
      refine ⟨i + 1, ⟨by omega, hdi⟩, by omega, ?_⟩
      refine Sub.o hF2 ?_
      simp [subH, Tx.look]
     | some r =>
      obtain ⟨m, ns⟩ := r
      rw [hgd, hcc] at hdi
      rw [hdi]
      have f2 : decide ((0 : Int) < (ns.length : Int)) = true := dT (by have := complete_ne hcc; omega)
      simp only [numsC, f2, List.length_map, Nat.add_assoc, go_sem]
      exact PostF.rs (v0 := .fs 1 ((ns.map (plI ps)).map eI)) (.inr rfl)
  ·have f1 : decide ((i : Int) < (ps.length : Int)) = false := dF (by omega)
   have e4 : dueG inn ps = none := by rw [hdi, List.drop_of_length_le (by omega)]; rfl
   rw [e4]
   simp only [f1, numsC, List.map_nil, List.length_map, Nat.add_assoc, go_sem]
   exact PostF.rs (v0 := .nilS) (.inr rfl)
structure RnX where
 i : Nat
 q : Nat
def kept (h : Dat → Bool) (ps : List Dat) (i : Nat) : List Dat := withoutG (ps.take i) h
theorem kept_succ {h : Dat → Bool} {ps : List Dat} {i : Nat} (hi : i < ps.length) : kept h ps (i + 1) = kept h ps i ++ (if h ps[i] then [] else [ps[i]]) := by
 unfold kept withoutG
 rw [List.take_succ_eq_append_getElem hi, List.filter_append]
 cases hb : h ps[i] <;> simp [hb]
theorem kept_len (h : Dat → Bool) (ps : List Dat) (i : Nat) : (kept h ps i).length ≤ i := by
 unfold kept withoutG
 exact Nat.le_trans (List.length_filter_le _ _) (by simp; omega)
theorem kept_all (h : Dat → Bool) (ps : List Dat) : kept h ps ps.length = withoutG ps h := by simp [kept]
theorem refNext_ok {F : SF} {L nx : Nat} (m mo ma : Nm) (ol al : Nat) (hm : m.l < L ∨ (m.l = L ∧ m.i < nx)) (hmo : mo.l ≤ L) (hma : ma.l ≤ L) (num seen : Int) (st sq : Int) (inn : List Int) (hi3 : inn.all (serB 16) = true) (hst0 : 0 ≤ st) (hst : st < inn.length) (hsq : 0 ≤ sq) (hsq2 : sq < 65536) (hil : inn.length ≤ 1000000) (ps : List Dat) (hlen : ps.length ≤ 1000) (hall : ∀ x ∈ ps, x.ok = true)
  (hFm : F m = some (.rows 3 1 true true (inn.map eI))) :
  Con Tryz.prog 101 [.agg [.sl mo 0 ol, .sl m 0 inn.length, .fs 8 (ps.map Dat.row), .int .i64 num, .int .i64 seen, .sl ma 0 al], .int .i64 st, .int .i64 sq] F L nx nx (.agg [.sl mo 0 ol, .sl m 0 inn.length, .fs 8 ((nextP inn ps st sq).map Dat.row), .int .i64 num, .int .i64 seen, .sl ma 0 al]) [(m, .rows 3 1 true true ((nextI inn st sq).map eI))] [m] := by
 show Con Tryz.prog 101 _ F L nx (nx + 0) _ _ _
 refine bdyN Tryz.f101 (hrd := (by simp; omega)) ?_
 intro F3 hF1 hF2
 have hFm := (hF1 m (by simp)).trans hFm
 have hml : m.l ≤ L := by omega
 have q7 := nm_out' hml
 have q8 := nm_out hml
 have r1 := getD_eI inn (i := st.toNat) (by omega)
 have h16 : (2 : Int) ^ (Int.toNat 16) = 65536 := rfl
 obtain ⟨inn2, hi2⟩ : ∃ x, x = nextI inn st sq := ⟨_, rfl⟩
 have hl2 : inn2.length = inn.length := by rw [hi2]; exact nextI_len _ _ _
 have e9 : inn.set st.toNat ((sq + 1) % 65536) = inn2 := hi2.symm
 have hi3' : inn2.all (serB 16) = true := by rw [hi2]; exact nextI_ser hi3 _ _
 have hin := serB16_at hi3' (k := st.toNat) (by omega)
 have r2 := getD_eI inn2 (i := st.toNat) (by omega)
 have enp : nextP inn ps st sq = kept (oldB inn2 st) ps ps.length := by rw [kept_all, hi2]; rfl
 rw [enp, ← hi2]
 simp only [Tryz.f101, cx, go_sem, meths]
 repeat refine sd2 ?_
 refine CallVC.same (behind16R_ok sq (by omega) (by omega)) ?_
 simp only [hFm, q8, r1, eI, set_eI, e9, List.length_map, go_sem]
 repeat refine sd2 ?_
 refine ⟨okDyn_num (fun x => if x = m then 1 else x.i + 100) (by simp only [numF, List.map, q7, if_true, if_false]; kernel_rfl), ?_⟩
 refine loopK.intro _ _ (I := fun z : RnX => ⟨[none, some (.int .i64 st), some (.int .i64 sq), some (.ptr ⟨L + 1, 0⟩ 0 0), none, none, some (.ptr ⟨L + 1, 32⟩ 0 0), some (.sl ⟨L + 1, z.q⟩ 0 (kept (oldB inn2 st) ps z.i).length), some (.int .i64 z.i), none, none, none, none, none, none, none, none, none, none, none, none, none, none, none, none, none, none, none, none, none, none, none, none, none, none, none, none, none, none, none, none, none, none, none, none, none, none, none, none, none, none, none, none, none],
  [(⟨L + 1, 0⟩, .rows 41 6 true false [[.sl mo 0 ol, .sl m 0 inn.length, .fs 8 (ps.map Dat.row), .int .i64 num, .int .i64 seen, .sl ma 0 al]]), (⟨L + 1, 32⟩, .rows 41 6 true true [[.nilS, .nilS, .nilS, .int .i64 0, .int .i64 0, .nilS]]), (m, .rows 3 1 true true (inn2.map eI)), (⟨L + 1, z.q⟩, .rows 32 8 true true ((kept (oldB inn2 st) ps z.i).map Dat.row))], 10000 * (z.i + 1)⟩)
  (pre := fun z => z.i ≤ ps.length ∧ 64 ≤ z.q ∧ z.q < 10000 * (z.i + 1)) (μ := fun z => ps.length - z.i) ⟨0, 320⟩ ⟨by simp, by simp, by simp⟩ ?_ ?_
 ·have e0 : kept (oldB inn2 st) ps 0 = [] := rfl
  refine Sub.trans (Sub.nilName 7 32 (wd := 8) (by omega) rfl) ?_
  refine Sub.of (hfz hF2) (by simp only [e0, List.length_nil, go_sem, subT, and_self, Int.natCast_zero]) ?_ (by simp [subK, keys, updH, setH, q7, q8]) (by simp)
  simp [subH, Tx.look, updH, setH, e0, q7, q8]
 ·rintro ⟨i, q⟩ ⟨hi, k1, k2⟩
  simp only at hi k1 k2 ⊢
  have q_0 : (q = 0) = False := by apply eq_false; omega
  have n0_q : (0 = q) = False := by apply eq_false; omega
  have q_32 : (q = 32) = False := by apply eq_false; omega
  have n32_q : (32 = q) = False := by apply eq_false; omega
  have q_n1 : ∀ kk, (10000 * (i + 1) + kk = q) = False := fun kk => by apply eq_false; omega
  have q_n2 : ∀ kk, (q = 10000 * (i + 1) + kk) = False := fun kk => by apply eq_false; omega
  have q_n3 : (10000 * (i + 1) = q) = False := by apply eq_false; omega
  have q_n4 : (q = 10000 * (i + 1)) = False := by apply eq_false; omega
  have q_n5 : ∀ kk, ((⟨L + 1, q⟩ : Nm) == ⟨L + 1, 10000 * (i + 1) + kk⟩) = false := fun kk => by simp; omega
  have hkl := kept_len (oldB inn2 st) ps i
  by_cases hlt : i < ps.length
  ·have f1 : decide ((i : Int) < (ps.length : Int)) = true := dT (by omega)
   have r0 := rowD hlt
   have hks := kept_succ (h := oldB inn2 st) hlt
   have hok := Dat.ok_bounds (hall _ (List.getElem_mem hlt))
   obtain ⟨d, hd⟩ : ∃ d, d = ps[i] := ⟨_, rfl⟩
   rw [← hd] at r0 hks hok
   obtain ⟨K, hK⟩ : ∃ K, K = kept (oldB inn2 st) ps i := ⟨_, rfl⟩
   rw [← hK] at hks hkl ⊢
   have keep : oldB inn2 st d = false → (kept (oldB inn2 st) ps (i + 1)).map Dat.row = K.map Dat.row ++ [[.int .i64 d.tsn, .int .i64 d.st, .int .i64 d.sq, .int .i64 d.pr, .bool d.fi, .bool d.la, .bool d.lo, .str d.pl]] ∧ (kept (oldB inn2 st) ps (i + 1)).length = K.length + 1 := by
    intro h; rw [hks, h]; simp [Dat.row]
   have drop : oldB inn2 st d = true → kept (oldB inn2 st) ps (i + 1) = K := by
    intro h; rw [hks, h]; simp
   cases a1 : d.st == st with
   | false =>
    have b1 : (d.st != st) = true := by simp only [bne, a1, Bool.not_false]
    obtain ⟨e1, e2⟩ := keep (by simp only [oldB, a1, Bool.false_and])
    simp only [f1, r0, b1, Dat.row, Int.toNat_natCast, List.length_map, q_0, n0_q, q_32, q_n1, q_n2, q_n5, q7, nS2, Nat.add_assoc, go_sem]
    repeat refine sd2 ?_
    refine ⟨okDyn_num (fun x => if x = m then 1 else x.i % 10000 + 100) (by simp only [numF, List.map, q7, if_false, Nat.mul_add_mod, Nat.reduceMod, Nat.reduceAdd]; kernel_rfl), ?_⟩
    repeat refine sd2 ?_
    refine ⟨⟨i + 1, 10000 * (i + 1) + 736⟩, ⟨by simp only []; omega, by simp only []; omega, by simp only []; omega⟩, by simp only []; omega, ?_⟩
    refine Sub.of (hfz hF2) (by simp only [e2, go_sem, subT, and_self, Int.natCast_succ]) ?_ (by simp [subK, keys]) (by simp only []; omega)
    simp only [e1]
    simp [subH, Tx.look, q_n1, q7, q8, nB]
   | true =>
    have b1 : (d.st != st) = false := by simp only [bne, a1, Bool.not_true]
    cases a2 : d.lo with
    | true =>
     obtain ⟨e1, e2⟩ := keep (by simp only [oldB, a1, a2, Bool.not_true, Bool.and_false, Bool.false_and])
     rw [a2] at e1
     simp only [f1, r0, b1, a2, Dat.row, Int.toNat_natCast, List.length_map, q_0, n0_q, q_32, q_n1, q_n2, q_n5, q7, nS2, Nat.add_assoc, go_sem]
     repeat refine sd2 ?_
     refine ⟨okDyn_num (fun x => if x = m then 1 else x.i % 10000 + 100) (by simp only [numF, List.map, q7, if_false, Nat.mul_add_mod, Nat.reduceMod, Nat.reduceAdd]; kernel_rfl), ?_⟩
     repeat refine sd2 ?_
     refine ⟨⟨i + 1, 10000 * (i + 1) + 800⟩, ⟨by simp only []; omega, by simp only []; omega, by simp only []; omega⟩, by simp only []; omega, ?_⟩
     refine Sub.of (hfz hF2) (by simp only [e2, go_sem, subT, and_self, Int.natCast_succ]) ?_ (by simp [subK, keys]) (by simp only []; omega)
     simp only [e1]
     simp [subH, Tx.look, q_n1, q7, q8, nB]
    | false =>
     simp only [f1, r0, r2, eI, b1, a2, hl2, Dat.row, Int.toNat_natCast, List.length_map, n0_q, q_n1, hFm, q7, q8, Nat.add_assoc, go_sem]
     repeat refine sd2 ?_
     refine CallVC.same (rLead16_ok d.sq (inn2.getD st.toNat 0) (by omega) (by omega) (by omega) (by omega)) ?_
     by_cases a3 : lead d.sq (inn2.getD st.toNat 0) 16 < 0
     ·have g3 : decide (0 ≤ lead d.sq (inn2.getD st.toNat 0) 16) = false := dF (by omega)
      have e1 := drop (by simp only [oldB, a1, a2, Bool.not_false, Bool.and_true, Bool.true_and]; exact dT a3)
      simp only [g3, Nat.add_assoc, go_sem]
      repeat refine sd2 ?_
      refine ⟨okDyn_num (fun x => if x = m then 1 else x.i % 10000 + 100) (by simp only [numF, List.map, q7, if_true, if_false, Nat.mul_add_mod, Nat.reduceMod, Nat.reduceAdd]; kernel_rfl), ?_⟩
      repeat refine sd2 ?_
      refine ⟨⟨i + 1, q⟩, ⟨by simp only []; omega, by simp only []; omega, by simp only []; omega⟩, by simp only []; omega, ?_⟩
      refine Sub.of (hfz hF2) (by simp only [e1, go_sem, subT, and_self, Int.natCast_succ]) ?_ (by simp [subK, keys]) (by simp only []; omega)
      simp only [e1]
      simp [subH, Tx.look, q_0, q_32, q7, q8]
     ·have g3 : decide (0 ≤ lead d.sq (inn2.getD st.toNat 0) 16) = true := dT (by omega)
      obtain ⟨e1, e2⟩ := keep (by simp only [oldB, a1, a2, Bool.not_false, Bool.and_true, Bool.true_and]; exact dF a3)
      rw [a2] at e1
      simp only [g3, List.length_map, q_0, q_32, q_n1, q_n2, q_n5, q7, nS2, Nat.add_assoc, go_sem]
      repeat refine sd2 ?_
      refine ⟨okDyn_num (fun x => if x = m then 1 else x.i % 10000 + 100) (by simp only [numF, List.map, q7, if_true, if_false, Nat.mul_add_mod, Nat.reduceMod, Nat.reduceAdd]; kernel_rfl), ?_⟩
      repeat refine sd2 ?_
      refine ⟨⟨i + 1, 10000 * (i + 1) + 1056⟩, ⟨by simp only []; omega, by simp only []; omega, by simp only []; omega⟩, by simp only []; omega, ?_⟩
      refine Sub.of (hfz hF2) (by simp only [e2, go_sem, subT, and_self, Int.natCast_succ]) ?_ (by simp [subK, keys]) (by simp only []; omega)
      simp only [e1]
      simp [subH, Tx.look, q_n1, q7, q8, nB]
  ·have f1 : decide ((i : Int) < (ps.length : Int)) = false := dF (by omega)
   have e : i = ps.length := by omega
   subst e
   obtain ⟨K, hK⟩ : ∃ K, K = kept (oldB inn2 st) ps ps.length := ⟨_, rfl⟩
   rw [← hK] at hkl ⊢
   simp only [f1, List.length_map, n0_q, n32_q, q7, Nat.add_assoc, go_sem]
   repeat refine sd2 ?_
   refine .now (PostN.mk (.inr rfl) ⟨[], True, .agg [.sl mo 0 ol, .sl m 0 inn.length, .sl ⟨L + 1, q⟩ 0 K.length, .int .i64 num, .int .i64 seen, .sl ma 0 al], .agg [.sl mo 0 ol, .sl m 0 inn.length, .fs 8 (K.map Dat.row), .int .i64 num, .int .i64 seen, .sl ma 0 al], rfl, List.nodup_nil, by simp only [resVal, resVals, resVal1, one, go_sem], trivial, ?_, ?_, ?_, ?_, ⟨by omega, ?_, trivial⟩⟩ ?_)
   ·simp [Wk, WkL, Tx.look, q7, q_0, q_32, List.take_of_length_le]
   ·simp [wkN, wkNL]
   ·simp [nmA, nmAL, Dn]; omega
   ·simp [Tx.rn, Tx.rnL, sg_out hml, sg_out hmo, sg_out hma]
   ·rw [kp_nil]
    exact .pure (by simp [Tx.look, q8])
   ·simp [UpdAll, keys]
def plOf (ps : List Dat) (t : Int) : List UInt8 := match getT ps t with | some d => d.pl | none => []
theorem compG_text (ps : List Dat) (f : Dat) : ∀ (k : Nat) (d : Dat) (tx : List UInt8) (ns : List Int) (r : List UInt8 × List Int), compG ps f k d tx ns = some r → getT ps d.tsn = some d → tx = (ns.map (plOf ps)).flatten → (∀ t ∈ ns, ∃ y, getT ps t = some y) →
  r.1 = (r.2.map (plOf ps)).flatten ∧ (∀ t ∈ r.2, ∃ y, getT ps t = some y) ∧ ∃ l, r.2 = ns ++ d.tsn :: l
 | 0, _, _, _, _, h, _, _, _ => by simp [compG] at h
 | k + 1, d, tx, ns, r, h, hd, ht, hn => by
  rw [compG] at h
  have hpl : plOf ps d.tsn = d.pl := by unfold plOf; rw [hd]
  have ht2 : tx ++ d.pl = ((ns ++ [d.tsn]).map (plOf ps)).flatten := by simp [ht, hpl]
  have hn2 : ∀ t ∈ ns ++ [d.tsn], ∃ y, getT ps t = some y := by
   intro t h'
   rcases List.mem_append.1 h' with h' | h'
   ·exact hn t h'
   ·simp at h'; subst h'; exact ⟨d, hd⟩
  split at h
  ·cases h
  ·split at h
   ·injection h with h; subst h
    exact ⟨ht2, hn2, [], by simp⟩
   ·split at h
    ·cases h
    ·rename_i d' hg
     have hd' : getT ps d'.tsn = some d' := by rw [(getT_mem hg).2]; exact hg
     obtain ⟨a, b, l, hl⟩ := compG_text ps f k d' _ _ r h hd' ht2 hn2
     exact ⟨a, b, d'.tsn :: l, by rw [hl]; simp⟩
theorem complete_text {ps : List Dat} {f : Dat} {m : Msg} {ns : List Int} (hnd : (ps.map Dat.tsn).Nodup) (hf : f ∈ ps) (h : complete ps f = some (m, ns)) :
  m.tx = (ns.map (plOf ps)).flatten ∧ (∀ t ∈ ns, ∃ y, getT ps t = some y) ∧ (∃ l, ns = f.tsn :: l) ∧ m = ⟨f.st, f.pr, f.lo, m.tx⟩ := by
 unfold complete at h
 split at h
 ·cases hc : compG ps f (ps.length + 1) f [] [] with
  | none => rw [hc] at h; cases h
  | some r =>
   rw [hc] at h
   simp only [Option.map_some, Option.some.injEq, Prod.mk.injEq] at h
   obtain ⟨a, b, l, hl⟩ := compG_text ps f _ f [] [] r hc (getT_self hnd hf) rfl (by simp)
   obtain ⟨h1, h2⟩ := h
   subst h1; subst h2
   exact ⟨a, b, ⟨l, by simpa using hl⟩, rfl⟩
 ·cases h
def txN (ps : List Dat) (ns : List Int) (j : Nat) : List UInt8 := ((ns.take j).map (plOf ps)).flatten
theorem txN_succ {ps : List Dat} {ns : List Int} {j : Nat} (h : j < ns.length) : txN ps ns (j + 1) = txN ps ns j ++ plOf ps ns[j] := by
 unfold txN
 rw [List.take_succ_eq_append_getElem h, List.map_append, List.flatten_append]
 simp only [List.map_cons, List.map_nil, List.flatten_cons, List.flatten_nil, List.append_nil]
theorem plOf_len {ps : List Dat} (h : ∀ d ∈ ps, d.ok = true) (t : Int) : (plOf ps t).length ≤ 1100 := by
 unfold plOf
 split
 ·rename_i d hd
  have := Dat.ok_bounds (h d (getT_mem hd).1)
  omega
 ·simp
theorem txN_len {ps : List Dat} (h : ∀ d ∈ ps, d.ok = true) (ns : List Int) : ∀ j, (txN ps ns j).length ≤ 1100 * j
 | 0 => by simp [txN]
 | j + 1 => by
  by_cases hj : j < ns.length
  ·rw [txN_succ hj, List.length_append]
   have := plOf_len h ns[j]
   have := txN_len h ns j
   omega
  ·have e : txN ps ns (j + 1) = txN ps ns j := by unfold txN; rw [List.take_of_length_le (by omega), List.take_of_length_le (by omega)]
   rw [e]
   have := txN_len h ns j
   omega
theorem txN_all (ps : List Dat) (ns : List Int) : txN ps ns ns.length = (ns.map (plOf ps)).flatten := by simp [txN]
theorem place_of {ps : List Dat} {t : Int} {y : Dat} (h : getT ps t = some y) : ∃ k, ∃ hk : k < ps.length, plI ps t = (k : Int) ∧ ps[k] = y ∧ plOf ps t = y.pl := by
 obtain ⟨k, hk, h1, h2⟩ := idxI_getT h
 exact ⟨k, hk, h1, h2, by unfold plOf; rw [h]⟩
theorem places_any {ps : List Dat} {ns : List Int} (hnd : (ps.map Dat.tsn).Nodup) (hns : ∀ t ∈ ns, ∃ y, getT ps t = some y) {j : Nat} (hj : j < ps.length) : ((ns.map (plI ps)).any fun y => y == (j : Int)) = ns.contains ps[j].tsn := by
 rw [Bool.eq_iff_iff, List.any_eq_true, List.contains_iff_mem]
 constructor
 ·rintro ⟨x, hx, he⟩
  obtain ⟨t, ht, rfl⟩ := List.mem_map.1 hx
  obtain ⟨y, hy⟩ := hns t ht
  obtain ⟨k, hk, h1, h2, _⟩ := place_of hy
  have : k = j := by have := beq_iff_eq.1 he; omega
  subst this
  rw [h2, (getT_mem hy).2]; exact ht
 ·intro h
  exact ⟨_, List.mem_map_of_mem h, by rw [plI_at hnd hj]; simp⟩
def duP (inn : List Int) (ps : List Dat) : List Int := (numsC (dueG inn ps)).map (plI ps)
end Go.Proofs.YtfhhbkehlfipgaaGreat
end
