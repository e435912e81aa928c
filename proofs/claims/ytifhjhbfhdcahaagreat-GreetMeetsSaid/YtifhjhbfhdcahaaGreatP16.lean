/- Lemmas for the walk: GK81, GK82, GD36, GK83, GK84, GK85, GK91, GK92. -/
import Derived.Test.YtifhjhbfhdcahaaGreatP15
import Derived.Test.YtifhjhbfhdcahaaGreatP14
set_option linter.all false
section
namespace Go.Proofs.YtifhjhbfhdcahaaGreat
open Go.Tx
set_option maxRecDepth 100000
set_option maxHeartbeats 16000000
theorem isByte_g (t : List UInt8) : ∀ row ∈ t.map rowB, isByteP row := by
 intro row h
 obtain ⟨b, _, rfl⟩ := List.mem_map.1 h
 exact ⟨_, rfl⟩
theorem row_of (x : Nat) : [[PV.int .u8 (IntKind.u8.wrap (x : Int))]] = ([UInt8.ofNat (x % 256)] : List UInt8).map rowB := by
 have h1 : IntKind.u8.wrap (x : Int) = ((x % 256 : Nat) : Int) := by simp [IntKind.wrap, IntKind.signed, IntKind.bits]
 have h2 : (UInt8.ofNat (x % 256)).toNat = x % 256 := by simp
 rw [h1]
 simp only [List.map_cons, List.map_nil, rowB, h2]
theorem putB_take (m v : Nat) {j : Nat} (hj : j < m) : (putB m v).take (j + 1) = (putB m v).take j ++ [UInt8.ofNat (v / 256 ^ (m - 1 - j) % 256)] := by
 have h : j < (putB m v).length := by rw [putB_len]; exact hj
 rw [List.take_succ_eq_append_getElem h]
 congr 2
 simp [putB]
theorem rows4 (x : Nat) : [[PV.int .u8 (IntKind.u8.wrap ((x / 2 ^ 24 : Nat) : Int))], [PV.int .u8 (IntKind.u8.wrap ((x / 2 ^ 16 : Nat) : Int))], [PV.int .u8 (IntKind.u8.wrap ((x / 2 ^ 8 : Nat) : Int))], [PV.int .u8 (IntKind.u8.wrap (x : Int))]] = (putB 4 x).map rowB := by
 have h1 : ∀ a : Nat, IntKind.u8.wrap (a : Int) = (((UInt8.ofNat (a % 256)).toNat : Nat) : Int) := by intro a; simp [IntKind.wrap, IntKind.signed, IntKind.bits]
 simp only [h1]
 simp [putB, List.range, List.range.loop, rowB]
theorem end_ok {F : SF} {L nx : Nat} (v k : List Nat) (hv : W8 v) (hk : k.length = 64) (hk2 : ∀ i, k.getD i 0 < M32) (tl : List UInt8) (hl : tl.length < 64) (n : Nat) (hn : n ≤ 1000000000) :
  Con Tryz.prog 151 [.agg (hRow v tl n), .agg (k.map eW)] F L nx nx (.str (octS (mixsS k v (cloS tl n) ((cloS tl n).length / 64)))) [] [] := by
 have hkm : (k.map eW).length = 64 := by rw [List.length_map, hk]
 have hkn := eW_nf k
 obtain ⟨kk, hkk⟩ : ∃ kk, kk = k.map eW := ⟨_, rfl⟩
 have r8 := hRow_8 hv.1 tl n
 have r9 := hRow_9 hv.1 tl n
 have n1 := hRow_nf v tl n
 have l1 := hRow_len hv.1 tl n
 have hr9 : ∀ d, (hRow v tl n).getD 9 d = .int .i64 n := r9
 have e1 : ((119 : Int) - (tl.length : Int)).tmod 64 = (((119 - tl.length) % 64 : Nat) : Int) := by
  rw [Int.tmod_eq_emod_of_nonneg (by omega)]; omega
 have hw1 : IntKind.u64.wrap (IntKind.u64.wrap (n : Int) * 8) = ((8 * n : Nat) : Int) := by
  rw [wu64, Nat.mod_eq_of_lt (by omega), show ((n : Int) * 8) = ((8 * n : Nat) : Int) by omega, wu64, Nat.mod_eq_of_lt (by omega)]
 obtain ⟨z, hz⟩ : ∃ z, z = (119 - tl.length) % 64 := ⟨_, rfl⟩
 have hz64 : z < 64 := by omega
 have hzr : List.take z (List.replicate z [PV.int .u8 0]) = (List.replicate z (0 : UInt8)).map rowB := by
  rw [List.take_of_length_le (by simp), List.map_replicate]; rfl
 have hbz := rowB_bytes (List.replicate z (0 : UInt8))
 obtain ⟨pre, hpre⟩ : ∃ pre, pre = tl ++ [128] ++ List.replicate z 0 := ⟨_, rfl⟩
 have hpl : pre.length ≤ 200 := by rw [hpre]; simp; omega
 have hclo : cloS tl n = pre ++ putB 8 (8 * n) := by rw [hpre, hz, cloS]; simp only [List.append_assoc]
 rw [← hz] at e1
 rw [← hkk] at hkm hkn ⊢
 refine bdy Tryz.f151 ?_
 intro F3 hF1 hF2
 simp only [Tryz.f151, cx, hkm, hkn, r8, r9, l1, n1, e1, hw1, hzr, hbz, ← hpre, Int.toNat_natCast, Nat.add_zero, go_sem, meths]
 repeat refine sd2 ?_
 refine ⟨⟨by simp, isByte_g _⟩, by simp; omega, okDyn_num (fun x => x.i) (by kernel_rfl), ?_⟩
 refine loopK.intro _ _ (I := fun j : Nat => ⟨[none, none, some (.ptr ⟨L + 1, 0⟩ 0 0), some (.ptr ⟨L + 1, 32⟩ 0 0), some (.str []), some (.str (pre ++ (putB 8 (8 * n)).take j)), some (.int .u64 ((8 * n : Nat) : Int)), some (.int .i64 (56 - 8 * (j : Int)))] ++ oz 59, [(⟨L + 1, 0⟩, .rows 247 10 true true [hRow v tl n]), (⟨L + 1, 32⟩, .rows 220 64 true true [kk])], 10000 * (j + 1)⟩)
  (pre := fun j => j ≤ 8) (μ := fun j => 8 - j) 0 (by omega) ?_ ?_
 ·refine Sub.of (hfz hF2) (by simp only [go_sem, subT, List.take_zero, List.append_nil]; try trivial) ?_ (by simp [subK, keys]) (by simp)
  simp [subH, Tx.look]
 intro j hj
 by_cases hlt : j < 8
 ·have f1 : decide ((56 - 8 * (j : Int)) ≥ 0) = true := dT (by omega)
  have f1' : decide ((0 : Int) ≤ (56 - 8 * (j : Int))) = true := dT (by omega)
  have hsh := shrN (8 * n) (7 - j) (b := 56 - 8 * (j : Int)) (by omega) (by omega)
  have hrw := row_of (8 * n / 256 ^ (7 - j))
  have htk := putB_take 8 (8 * n) hlt
  rw [show 8 - 1 - j = 7 - j by omega] at htk
  obtain ⟨c, hc⟩ : ∃ c, c = UInt8.ofNat (8 * n / 256 ^ (7 - j) % 256) := ⟨_, rfl⟩
  rw [← hc] at hrw htk
  have hbc := rowB_bytes [c]
  have hbc2 : bytesP [rowB c] = [c] := rowB_bytes [c]
  simp only [f1, hsh, hrw, kS2, Nat.add_assoc, go_sem]
  repeat refine sd2 ?_
  refine ⟨isByte_g [c], by simp [hbc2, putB_len]; omega, ⟨by omega, by omega⟩, ?_⟩
  refine ⟨j + 1, by omega, by omega, ?_⟩
  have e7 : (56 - 8 * (j : Int) - 8) = 56 - 8 * ((j + 1 : Nat) : Int) := by omega
  rw [htk, e7]
  refine Sub.of (hfz hF2) (by simp only [go_sem, subT, and_self, List.append_assoc, hbc2]; try trivial) ?_ (by simp [subK, keys]) (by simp only []; omega)
  simp [subH, Tx.look]
 ·obtain rfl : j = 8 := by omega
  have f1 : decide ((56 - 8 * ((8 : Nat) : Int)) ≥ 0) = false := dF (by omega)
  have f1' : decide ((0 : Int) ≤ (56 - 8 * ((8 : Nat) : Int))) = false := dF (by omega)
  have ht8 : (putB 8 (8 * n)).take 8 = putB 8 (8 * n) := List.take_of_length_le (by rw [putB_len]; omega)
  rw [ht8, ← hclo]
  have hm := fun (F : SF) (nx : Nat) (hF : F ⟨L + 1, 0⟩ = _) => mix_ok (F := F) (L := L + 1) (nx := nx) ⟨L + 1, 0⟩ (by simp) v k hv hk hk2 (cloS tl n) (by rw [hclo, List.length_append, putB_len]; omega) tl n hF
  have hm8 := mixsS_8 hv k (cloS tl n) ((cloS tl n).length / 64)
  obtain ⟨u, hu⟩ : ∃ u, u = mixsS k v (cloS tl n) ((cloS tl n).length / 64) := ⟨_, rfl⟩
  rw [← hu, ← hkk] at hm
  rw [← hu] at hm8 ⊢
  have hun := hRow_nf u tl n
  have hul := hRow_len hm8.1 tl n
  have hut : List.take 8 (hRow u tl n) = u.map eW := by rw [hRow, List.take_append_of_le_length (by rw [List.length_map, hm8.1]; omega), List.take_of_length_le (by rw [List.length_map, hm8.1]; omega)]
  simp only [f1, go_sem]
  repeat refine sd2 ?_
  refine CallVC.same (hm _ _ (by simp [Tx.look])) ?_
  simp only [hut, Nat.add_zero, go_sem]
  repeat refine sd2 ?_
  refine loopK.intro _ _ (I := fun y : Nat × Nat => ⟨[none, none, none, none, some (.str []), none, none, none, some (.sl ⟨L + 1, y.2⟩ 0 (4 * y.1)), none, none, none, none, none, none, none, none, none, none, none, none, none, none, none, none, none, none, none, none, none, none, none, none, none, none, none, none, none, none, none, none, none, none, none, none, none, some (.agg (u.map eW)), some (.int .i64 y.1)] ++ oz 19, [(⟨L + 1, 0⟩, .rows 247 10 true true [hRow u tl n]), (⟨L + 1, 32⟩, .rows 220 64 true true [kk]), (⟨L + 1, y.2⟩, .rows 5 1 true true ((octS (u.take y.1)).map rowB))], 10000 * (9 + y.1 + 1)⟩)
   (pre := fun y => y.1 ≤ 8 ∧ 100 ≤ y.2 ∧ y.2 < 10000 * (9 + y.1 + 1)) (μ := fun y => 8 - y.1) (0, 90288) ⟨by simp, by simp, by simp⟩ ?_ ?_
  ·refine Sub.trans (Sub.nilName 8 5 (wd := 1) (by omega) rfl) ?_
   refine Sub.of (hfz hF2) (by simp only [Nat.mul_zero, go_sem, subT, and_self, Int.natCast_zero]; try trivial) ?_ ?_ ?_
   ·simp [subH, Tx.look, updH, setH, octS]
   ·simp [subK, keys, updH, setH]
   ·simp
  rintro ⟨j, q⟩ ⟨hj, hq0, hq⟩
  simp only at hj hq0 hq ⊢
  obtain ⟨i, hi⟩ : ∃ i, i = 9 + j := ⟨_, rfl⟩
  rw [← hi] at hq ⊢
  have q_0 : (q = 0) = False := by apply eq_false; omega
  have n0_q : (0 = q) = False := by apply eq_false; omega
  have q_32 : (q = 32) = False := by apply eq_false; omega
  have n32_q : (32 = q) = False := by apply eq_false; omega
  obtain ⟨q_n1, q_n2, q_n3, q_n4, q_n5⟩ := nqL L (i := i) (p := q) (by omega)
  have hoc : (octS (u.take j)).length = 4 * j := by
   have : ∀ l : List Nat, (octS l).length = 4 * l.length := by
    intro l
    induction l with
    | nil => rfl
    | cons a l ih => simp only [octS, List.flatMap_cons, List.length_append, List.length_cons, putB_len] at ih ⊢; omega
   rw [this, List.length_take, hm8.1]; omega
  by_cases hlt : j < 8
  ·have f3 : decide ((j : Int) < 8) = true := dT (by omega)
   have gj : ∀ d, (u.map eW).getD j d = .int .u32 ((u.getD j 0 : Nat) : Int) := fun d => eW_get u j d (by rw [hm8.1]; exact hlt)
   have gl : (u.map eW).length = 8 := by rw [List.length_map]; exact hm8.1
   have k5 : octS (u.take (j + 1)) = octS (u.take j) ++ putB 4 (u.getD j 0) := by
    have hjl : j < u.length := by rw [hm8.1]; exact hlt
    have hgd : u.getD j 0 = u[j] := by simp [List.getD_eq_getElem?_getD, hjl]
    rw [List.take_succ_eq_append_getElem hjl, hgd]
    simp only [octS, List.flatMap_append, List.flatMap_cons, List.flatMap_nil, List.append_nil]
   have hx := hm8.2 j
   obtain ⟨x, hx0⟩ : ∃ x, x = u.getD j 0 := ⟨_, rfl⟩
   rw [← hx0] at gj k5 hx
   have s1 := shr32' x 24 (by omega)
   have s2 := shr32' x 16 (by omega)
   have s3 := shr32' x 8 (by omega)
   simp only [f3, gj, gl, s1, s2, s3, Nat.mul_one, List.length_map, q_0, q_32, q_n1, q_n2, q_n5, kS2, kS3, Nat.add_assoc, go_sem]
   repeat refine sd2 ?_
   have hr4 := rows4 x
   refine ⟨(j + 1, 10000 * (i + 1) + 512), ⟨by simp only []; omega, by simp only []; omega, by simp only []; omega⟩, by simp only []; omega, ?_⟩
   refine Sub.of (hfz hF2) (by simp only [Nat.mul_add, Nat.mul_one, go_sem, subT, and_self, Int.natCast_succ]; try trivial) ?_ (by simp [subK, keys]) (by simp only []; omega)
   simp only [hr4, k5, List.map_append]
   simp [subH, Tx.look, q_n1, nB, kS2]
  ·obtain rfl : j = 8 := by omega
   have f3 : decide (((8 : Nat) : Int) < 8) = false := dF (by omega)
   have hu9 : u.take 8 = u := List.take_of_length_le (by rw [hm8.1]; omega)
   rw [hu9] at hoc ⊢
   have hb9 := rowB_bytes (octS u)
   have ht9 : List.take (4 * 8) ((octS u).map rowB) = (octS u).map rowB := List.take_of_length_le (by rw [List.length_map]; omega)
   simp only [f3, ht9, hb9, List.length_map, q_0, q_32, Nat.add_assoc, go_sem]
   repeat refine sd2 ?_
   refine ⟨⟨by omega, isByte_g _⟩, ?_⟩
   exact PostF.same (p := True) (.inr rfl) (by simp only [resVal, resVals, resVal1, one, go_sem]) trivial (by simp only [Tx.nf]) (by simp [UpdAll])
def addsS (k v : List Nat) (ls : List (List UInt8)) : Nat → List Nat × List UInt8 × Nat
 | 0 => (v, [], 0)
 | j + 1 => (mixsS k (addsS k v ls j).1 ((addsS k v ls j).2.1 ++ ls.getD j []) (((addsS k v ls j).2.1 ++ ls.getD j []).length / 64), ((addsS k v ls j).2.1 ++ ls.getD j []).drop (((addsS k v ls j).2.1 ++ ls.getD j []).length / 64 * 64), (addsS k v ls j).2.2 + (ls.getD j []).length)
theorem addsS_8 {v : List Nat} (hv : W8 v) (k : List Nat) (ls : List (List UInt8)) : ∀ j, W8 (addsS k v ls j).1
 | 0 => hv
 | j + 1 => mixsS_8 (addsS_8 hv k ls j) _ _ _
theorem addsS_tl (k v : List Nat) (ls : List (List UInt8)) : ∀ j, (addsS k v ls j).2.1.length < 64
 | 0 => by simp [addsS]
 | j + 1 => by simp only [addsS, List.length_drop]; omega
theorem getD_le {ls : List (List UInt8)} (hs : ∀ s ∈ ls, s.length ≤ 10000) (j : Nat) : (ls.getD j []).length ≤ 10000 := by
 by_cases h : j < ls.length
 ·have : ls.getD j [] = ls[j] := by simp [List.getD_eq_getElem?_getD, h]
  rw [this]; exact hs _ (List.getElem_mem h)
 ·rw [List.getD_eq_getElem?_getD, List.getElem?_eq_none (by omega)]; simp
theorem addsS_n (k v : List Nat) {ls : List (List UInt8)} (hs : ∀ s ∈ ls, s.length ≤ 10000) : ∀ j, (addsS k v ls j).2.2 ≤ 10000 * j
 | 0 => by simp [addsS]
 | j + 1 => by
  have := addsS_n k v hs j
  have := getD_le hs j
  simp only [addsS]; omega
theorem sum_ok {F : SF} {L nx : Nat} (v k : List Nat) (hv : W8 v) (hk : k.length = 64) (hk2 : ∀ i, k.getD i 0 < M32) (m : Nm) (hm : m.l ≤ L) (o p : Bool) (ls : List (List UInt8)) (hl : ls.length ≤ 100) (hs : ∀ s ∈ ls, s.length ≤ 10000) (hF : F m = some (.rows 9 1 o p (ls.map fun s => [.str s]))) :
  Con Tryz.prog 144 [.agg (v.map eW ++ k.map eW), .sl m 0 ls.length] F L nx nx (.str (octS (mixsS k (addsS k v ls ls.length).1 (cloS (addsS k v ls ls.length).2.1 (addsS k v ls ls.length).2.2) ((cloS (addsS k v ls ls.length).2.1 (addsS k v ls ls.length).2.2).length / 64)))) [] [m] := by
 have hkm : (k.map eW).length = 64 := by rw [List.length_map, hk]
 have hvm : (v.map eW).length = 8 := by rw [List.length_map, hv.1]
 have hkn := eW_nf k
 have hvn := eW_nf v
 obtain ⟨vv, hvv⟩ : ∃ vv, vv = v.map eW := ⟨_, rfl⟩
 obtain ⟨kk, hkk⟩ : ∃ kk, kk = k.map eW := ⟨_, rfl⟩
 rw [← hkk] at hkm hkn ⊢
 rw [← hvv] at hvm hvn ⊢
 have hlen : (vv ++ kk).length = 72 := by rw [List.length_append]; omega
 have hnf : nfl (vv ++ kk) = true := by rw [nfl_app, hvn, hkn]; rfl
 have ht : List.take 8 (vv ++ kk) = vv := by rw [List.take_append_of_le_length (by omega), List.take_of_length_le (by omega)]
 have hd : List.drop 8 (vv ++ kk) = kk := by rw [List.drop_append_of_le_length (by omega), List.drop_of_length_le (by omega), List.nil_append]
 have ht2 : List.take 64 kk = kk := List.take_of_length_le (by omega)
 refine bdy Tryz.f144 (hrd := (by simp; omega)) ?_
 intro F3 hF1 hF2
 have hFm : F3 m = some (.rows 9 1 o p (ls.map fun s => [.str s])) := (hF1 m (by simp)).trans hF
 have m1 : ∀ k, (m = (⟨L + 1, k⟩ : Nm)) = False := nm_out hm
 have m2 : ∀ k, ((⟨L + 1, k⟩ : Nm) = m) = False := nm_out' hm
 have hrow : vv ++ [PV.str [], PV.int .i64 0] = hRow v [] 0 := by rw [hvv]; rfl
 have hrl := hRow_len hv.1 [] 0
 have hrn := hRow_nf v [] 0
 simp only [Tryz.f144, cx, hlen, hnf, ht, hvm, Nat.add_zero, go_sem, meths]
 repeat refine sd2 ?_
 simp only [hrow, hrl, List.drop_succ_cons, List.drop_nil, List.append_nil, hrn]
 refine ⟨trivial, trivial, ?_⟩
 refine loopK.intro _ _ (I := fun j : Nat => ⟨[none, none, some (.ptr ⟨L + 1, 0⟩ 0 0), none, some (.str []), some (.ptr ⟨L + 1, 192⟩ 0 0), none, none, none, none, none, none, some (.sl m 0 ls.length), some (.int .i64 ls.length), some (.int .i64 j)] ++ oz 12, [(⟨L + 1, 0⟩, .rows 222 72 true true [vv ++ kk]), (⟨L + 1, 192⟩, .rows 247 10 true true [hRow (addsS k v ls j).1 (addsS k v ls j).2.1 ((addsS k v ls j).2.2 : Nat)])], 10000 * (j + 1)⟩)
  (pre := fun j => j ≤ ls.length) (μ := fun j => ls.length - j) 0 (by omega) ?_ ?_
 ·refine Sub.of (hfz hF2) (by simp only [go_sem, subT]; try trivial) ?_ (by simp [subK, keys]) (by simp)
  simp [subH, Tx.look, addsS]
 intro j hj
 have hw := addsS_8 hv k ls j
 have htl := addsS_tl k v ls j
 have hn := addsS_n k v hs j
 by_cases hlt : j < ls.length
 ·have f1 : decide ((j : Int) < (ls.length : Int)) = true := dT (by omega)
  have hll : (ls.map fun s => [PV.str s]).length = ls.length := List.length_map ..
  have hget : ((ls.map fun s => [PV.str s]).getD j []).getD 0 (.tup []) = .str (ls.getD j []) := by simp [hlt, List.getD_eq_getElem?_getD]
  have hg := getD_le hs j
  have ha := fun (F : SF) (nx : Nat) (hF : F ⟨L + 1, 192⟩ = _) => add_ok (F := F) (L := L + 1) (nx := nx) ⟨L + 1, 192⟩ (by simp) _ k hw hk hk2 (ls.getD j []) (addsS k v ls j).2.1 (by omega) (addsS k v ls j).2.2 (by omega) hF
  have hnx : addsS k v ls (j + 1) = _ := rfl
  simp only [← hkk] at ha
  simp only [f1, hFm, hget, hll, m1, hd, ht2, Int.toNat_natCast, Nat.add_assoc, go_sem]
  repeat refine sd2 ?_
  refine CallVC.same (ha _ _ (by simp [Tx.look])) ?_
  simp only [Nat.add_assoc, go_sem]
  repeat refine sd2 ?_
  refine ⟨j + 1, by omega, by omega, ?_⟩
  refine Sub.of (hfz hF2) (by simp only [go_sem, subT, and_self, Int.natCast_succ]; try trivial) ?_ (by simp [subK, keys]) (by simp only []; omega)
  simp only [subH, Tx.look, addsS, nm_eq, Nat.reduceEqDiff, if_true, if_false, and_true]
  try simp
 ·obtain rfl : j = ls.length := by omega
  have f1 : decide ((ls.length : Int) < (ls.length : Int)) = false := dF (by omega)
  have he := fun (F : SF) (L nx : Nat) => end_ok (F := F) (L := L) (nx := nx) _ k hw hk hk2 _ htl (addsS k v ls ls.length).2.2 (by omega : (addsS k v ls ls.length).2.2 ≤ 1000000000)
  simp only [← hkk] at he
  simp only [f1, hd, ht2, Nat.add_assoc, go_sem]
  repeat refine sd2 ?_
  refine CallVC.same (he _ _ _) ?_
  simp only [Nat.add_assoc, go_sem]
  exact PostF.same (p := True) (.inr rfl) (by simp only [resVal, resVals, resVal1, one, go_sem]) trivial (by simp only [Tx.nf]) (by simp [UpdAll])
theorem mixsS_pre {k v : List Nat} {a b : List UInt8} : ∀ i, 64 * i ≤ a.length → mixsS k v (a ++ b) i = mixsS k v a i
 | 0, _ => rfl
 | i + 1, h => by
  rw [mixsS, mixsS, mixsS_pre i (by omega), List.drop_append_of_le_length (by omega), List.take_append_of_le_length (by rw [List.length_drop]; omega)]
theorem mixsS_split (k v : List Nat) (s : List UInt8) (i : Nat) : ∀ j, mixsS k v s (i + j) = mixsS k (mixsS k v s i) (s.drop (64 * i)) j
 | 0 => rfl
 | j + 1 => by
  rw [← Nat.add_assoc, mixsS, mixsS, mixsS_split k v s i j, List.drop_drop, Nat.mul_add]
theorem addsS_eq (k v : List Nat) (ls : List (List UInt8)) : ∀ j, j ≤ ls.length → addsS k v ls j = (mixsS k v (ls.take j).flatten ((ls.take j).flatten.length / 64), (ls.take j).flatten.drop ((ls.take j).flatten.length / 64 * 64), (ls.take j).flatten.length)
 | 0, _ => by simp [addsS, mixsS]
 | j + 1, h => by
  have hg : ls.getD j [] = ls[j] := by simp [List.getD_eq_getElem?_getD, show j < ls.length by omega]
  have hf : (ls.take (j + 1)).flatten = (ls.take j).flatten ++ ls[j] := by
   rw [List.take_succ_eq_append_getElem (by omega), List.flatten_append]
   simp only [List.flatten_cons, List.flatten_nil, List.append_nil]
  rw [addsS, addsS_eq k v ls j (by omega), hg, hf]
  generalize (ls.take j).flatten = t
  generalize ls[j] = s
  simp only
  obtain ⟨m, hm⟩ : ∃ m, m = t.length / 64 := ⟨_, rfl⟩
  rw [← hm]
  have hd : t.drop (m * 64) ++ s = (t ++ s).drop (64 * m) := by rw [Nat.mul_comm m, List.drop_append_of_le_length (by omega)]
  have hl : ((t ++ s).drop (64 * m)).length = (t ++ s).length - 64 * m := List.length_drop ..
  have hq : (t ++ s).length / 64 = m + ((t ++ s).length - 64 * m) / 64 := by
   have : (t ++ s).length = t.length + s.length := List.length_append
   omega
  rw [hd, hl, ← mixsS_pre (b := s) m (by omega), ← mixsS_split, ← hq, List.drop_drop, List.length_append]
  congr 3
  rw [List.length_append] at hq
  omega
theorem sumH_eq (k v : List Nat) (ls : List (List UInt8)) : octS (mixsS k (addsS k v ls ls.length).1 (cloS (addsS k v ls ls.length).2.1 (addsS k v ls ls.length).2.2) ((cloS (addsS k v ls ls.length).2.1 (addsS k v ls ls.length).2.2).length / 64)) = sumH k v ls.flatten := by
 rw [addsS_eq k v ls _ (Nat.le_refl _), List.take_length]
 generalize ls.flatten = s
 simp only [sumH]
 congr 1
 obtain ⟨m, hm⟩ : ∃ m, m = s.length / 64 := ⟨_, rfl⟩
 rw [← hm]
 generalize cloS (s.drop (m * 64)) s.length = c
 have ht : (s.take (m * 64)).length = 64 * m := by rw [List.length_take]; omega
 have h1 : mixsS k v s m = mixsS k v (s.take (m * 64) ++ c) m := by
  rw [mixsS_pre m (by omega)]
  have h2 := mixsS_pre (k := k) (v := v) (a := s.take (m * 64)) (b := s.drop (m * 64)) m (by omega)
  rw [List.take_append_drop] at h2
  exact h2
 have h3 : (m * 64 + c.length) / 64 = m + c.length / 64 := by omega
 rw [h3, mixsS_split, ← h1, List.drop_append, ht, Nat.sub_self, List.drop_zero, List.drop_of_length_le (by omega), List.nil_append]
def macL (key : List UInt8) (c : UInt8) (i : Nat) : List UInt8 := (List.range 64).map fun j => if j < i then key.getD j 0 ^^^ c else key.getD j 0
theorem macL_len (key : List UInt8) (c : UInt8) (i : Nat) : (macL key c i).length = 64 := by simp [macL]
theorem macL_get (key : List UInt8) (c : UInt8) {i : Nat} (hi : i < 64) : (macL key c i).getD i 0 = key.getD i 0 := by
 unfold macL
 rw [List.getD_eq_getElem?_getD, List.getElem?_map, List.getElem?_range hi]
 simp
theorem macL_set (key : List UInt8) (c : UInt8) {i : Nat} (hi : i < 64) : (macL key c i).set i (key.getD i 0 ^^^ c) = macL key c (i + 1) := by
 apply List.ext_getElem (by simp [macL])
 intro k h1 h2
 have hk : k < 64 := by simpa [macL] using h2
 rw [List.getElem_set]
 simp only [macL, List.getElem_map, List.getElem_range]
 by_cases e : i = k
 ·subst e; simp
 ·rw [if_neg e]
  have : (k < i) = (k < i + 1) := by apply propext; omega
  simp only [this]
theorem macL_all (key : List UInt8) (c : UInt8) : macL key c 64 = keyS key c := by
 apply List.ext_getElem (by simp [macL, keyS])
 intro k h1 h2
 have hk : k < 64 := by simpa [macL] using h1
 simp [macL, keyS, hk]
theorem macL_zero {key : List UInt8} (c : UInt8) (h : key.length ≤ 64) : key ++ (List.replicate 64 (0 : UInt8)).drop key.length = macL key c 0 := by
 apply List.ext_getElem (by simp [macL]; omega)
 intro k h1 h2
 have hk : k < 64 := by simpa [macL] using h2
 simp only [macL, List.getElem_map, List.getElem_range, Nat.not_lt_zero, if_false]
 rw [List.getElem_append]
 by_cases hkl : k < key.length
 ·rw [dif_pos hkl]; simp [List.getD_eq_getElem?_getD, hkl]
 ·rw [dif_neg hkl, List.getElem_drop, List.getElem_replicate]; simp [List.getD_eq_getElem?_getD, hkl]
theorem rowB_set (l : List UInt8) (i : Nat) (v : UInt8) : (l.map rowB).set i [.int .u8 ((v.toNat : Nat) : Int)] = (l.set i v).map rowB := by rw [List.map_set]; rfl
theorem rowB_getD (l : List UInt8) {i : Nat} (h : i < l.length) : (l.map rowB).getD i [] = [.int .u8 (((l.getD i 0).toNat : Nat) : Int)] := by
 simp [List.getD_eq_getElem?_getD, h, rowB]
theorem xor8' (a b : UInt8) : Sx.ibits .xor .u8 ((a.toNat : Nat) : Int) ((b.toNat : Nat) : Int) = (((a ^^^ b).toNat : Nat) : Int) := by
 rw [xor8 a.toNat_lt b.toNat_lt, UInt8.toNat_xor]
theorem mkMac1_ok {F : SF} {L nx : Nat} (q : Nm) (hq : q.l ≤ L) (o pu : Bool) (key : List UInt8) (hk : key.length ≤ 64) (c : UInt8) (hF : F q = some (.rows 9 1 o pu [[.str key]])) : Con Tryz.prog 145 [.int .u8 ((c.toNat : Nat) : Int), .ptr q 0 0] F L nx nx (.str (keyS key c)) [] [q] := by
 have z0 : ([[.int .u8 0], [.int .u8 0], [.int .u8 0], [.int .u8 0], [.int .u8 0], [.int .u8 0], [.int .u8 0], [.int .u8 0], [.int .u8 0], [.int .u8 0], [.int .u8 0], [.int .u8 0], [.int .u8 0], [.int .u8 0], [.int .u8 0], [.int .u8 0], [.int .u8 0], [.int .u8 0], [.int .u8 0], [.int .u8 0], [.int .u8 0], [.int .u8 0], [.int .u8 0], [.int .u8 0], [.int .u8 0], [.int .u8 0], [.int .u8 0], [.int .u8 0], [.int .u8 0], [.int .u8 0], [.int .u8 0], [.int .u8 0], [.int .u8 0], [.int .u8 0], [.int .u8 0], [.int .u8 0], [.int .u8 0], [.int .u8 0], [.int .u8 0], [.int .u8 0], [.int .u8 0], [.int .u8 0], [.int .u8 0], [.int .u8 0], [.int .u8 0], [.int .u8 0], [.int .u8 0], [.int .u8 0], [.int .u8 0], [.int .u8 0], [.int .u8 0], [.int .u8 0], [.int .u8 0], [.int .u8 0], [.int .u8 0], [.int .u8 0], [.int .u8 0], [.int .u8 0], [.int .u8 0], [.int .u8 0], [.int .u8 0], [.int .u8 0], [.int .u8 0], [.int .u8 0]] : List (List PV)) = (List.replicate 64 (0 : UInt8)).map rowB := by rw [List.map_replicate]; rfl
 have e0 : (key.map fun b : UInt8 => [PV.int .u8 ((b.toNat : Nat) : Int)]) = key.map rowB := rfl
 have e1 : key.map rowB ++ List.drop key.length ((List.replicate 64 (0 : UInt8)).map rowB) = (macL key c 0).map rowB := by
  rw [← List.map_drop, ← List.map_append, macL_zero c hk]
 have m1 : ∀ k, (q = (⟨L + 1, k⟩ : Nm)) = False := nm_out hq
 have m2 : ∀ k, ((⟨L + 1, k⟩ : Nm) = q) = False := nm_out' hq
 refine bdy Tryz.f145 (hrd := (by simp; omega)) ?_
 intro F3 hF1 hF2
 have kq : F3 q = some (.rows 9 1 o pu [[.str key]]) := (hF1 q (by simp)).trans hF
 have hml : ∀ i, ((macL key c i).map rowB).length = 64 := fun i => by rw [List.length_map, macL_len]
 simp only [Tryz.f145, cx, kq, m1, go_sem, meths]
 repeat refine sd2 ?_
 rw [z0, e0, List.length_map, e1]
 refine ⟨hk, ?_⟩
 refine loopK.intro _ _ (I := fun i : Nat => ⟨[some (.int .u8 ((c.toNat : Nat) : Int)), some (.ptr q 0 0), none, none, some (.sl ⟨L + 1, 32⟩ 0 64), none, none, none, none, none, none, some (.int .i64 64), some (.int .i64 i)] ++ oz 12, [(⟨L + 1, 32⟩, .rows 5 1 true true ((macL key c i).map rowB))], 10000 * (i + 1)⟩)
  (pre := fun i => i ≤ 64) (μ := fun i => 64 - i) 0 (by omega) ?_ ?_
 ·refine Sub.of (hfz hF2) (by simp only [go_sem, subT, and_self, Int.natCast_zero]; try trivial) ?_ (by simp [subK, keys]) (by simp)
  simp [subH, Tx.look]
 intro i hi
 by_cases hlt : i < 64
 ·have g1 : decide ((i : Int) < 64) = true := dT (by omega)
  have gd := rowB_getD (macL key c i) (i := i) (by rw [macL_len]; omega)
  rw [macL_get key c hlt] at gd
  have hx := xor8' (key.getD i 0) c
  have hs := rowB_set (macL key c i) i (key.getD i 0 ^^^ c)
  rw [macL_set key c hlt] at hs
  simp only [g1, gd, hx, hs, hml, Int.toNat_natCast, Nat.add_assoc, go_sem]
  repeat refine sd2 ?_
  refine ⟨i + 1, by omega, by omega, ?_⟩
  refine Sub.of (hfz hF2) (by simp only [go_sem, subT, and_self, Int.natCast_succ]; try trivial) ?_ (by simp [subK, keys]) (by simp only []; omega)
  simp only [subH, Tx.look, if_true, and_true]
 ·have g1 : decide ((i : Int) < 64) = false := dF (by omega)
  obtain rfl : i = 64 := by omega
  have hb := rowB_bytes (keyS key c)
  have ht : List.take 64 ((keyS key c).map rowB) = (keyS key c).map rowB := List.take_of_length_le (by simp [keyS])
  rw [macL_all]
  have hl : ((keyS key c).map rowB).length = 64 := by simp [keyS]
  simp only [g1, ht, hb, hl, go_sem]
  refine ⟨isByte_g _, ?_⟩
  exact PostF.same (p := True) (.inr rfl) (by simp only [resVal, resVals, resVal1, one, go_sem]) trivial (by simp only [Tx.nf]) (by simp [UpdAll])
theorem hT_8 : W8 hT := by
 rw [hT_all]
 exact W8.cons (by decide) (by decide) (by decide) (by decide) (by decide) (by decide) (by decide) (by decide)
theorem kT_len : kT.length = 64 := by rw [kT, List.length_map, prms_len]
theorem kT_lt (i : Nat) : kT.getD i 0 < M32 := by
 by_cases h : i < kT.length
 ·rw [List.getD_eq_getElem?_getD, List.getElem?_eq_getElem h, Option.getD_some]
  simp only [kT, List.getElem_map]
  exact Nat.mod_lt _ (by decide)
 ·rw [List.getD_eq_getElem?_getD, List.getElem?_eq_none (by omega)]; decide
theorem sumS_ok {F : SF} {L nx : Nat} (m : Nm) (hm : m.l ≤ L) (o p : Bool) (ls : List (List UInt8)) (hl : ls.length ≤ 100) (hs : ∀ s ∈ ls, s.length ≤ 10000) (hF : F m = some (.rows 9 1 o p (ls.map fun s => [.str s]))) :
  Con Tryz.prog 144 [.agg (hT.map eW ++ kT.map eW), .sl m 0 ls.length] F L nx nx (.str (sumH kT hT ls.flatten)) [] [m] := by
 have h := sum_ok (F := F) (L := L) (nx := nx) hT kT hT_8 kT_len kT_lt m hm o p ls hl hs hF
 rw [sumH_eq] at h
 exact h
theorem octS_len : ∀ l : List Nat, (octS l).length = 4 * l.length := by
 intro l
 induction l with
 | nil => rfl
 | cons a l ih => simp only [octS, List.flatMap_cons, List.length_append, List.length_cons, putB_len] at ih ⊢; omega
theorem sumH_len (s : List UInt8) : (sumH kT hT s).length = 32 := by
 unfold sumH
 rw [octS_len, (mixsS_8 hT_8 _ _ _).1]
theorem keyS_len (key : List UInt8) (c : UInt8) : (keyS key c).length = 64 := by simp [keyS]
theorem macH_len (key s : List UInt8) : (macH kT hT key s).length = 32 := sumH_len _
theorem mkMac_ok {F : SF} {L nx : Nat} (m : Nm) (hm : m.l ≤ L) (o : Bool) (key : List UInt8) (hk : key.length ≤ 64) (ls : List (List UInt8)) (hl : ls.length ≤ 90) (hs : ∀ s ∈ ls, s.length ≤ 10000) (hF : F m = some (.rows 9 1 o true (ls.map fun s => [.str s]))) :
  Con Tryz.prog 129 [.agg (hT.map eW ++ kT.map eW), .str key, .sl m 0 ls.length] F L nx nx (.str (macH kT hT key ls.flatten)) [] [m] := by
 have w1 := fun (q : Nm) (hq : q.l ≤ L + 1) (F : SF) (nx : Nat) (hF : F q = _) => mkMac1_ok (F := F) (L := L + 1) (nx := nx) q hq true true key hk 92 hF
 have w2 := fun (q : Nm) (hq : q.l ≤ L + 1) (F : SF) (nx : Nat) (hF : F q = _) => mkMac1_ok (F := F) (L := L + 1) (nx := nx) q hq true true key hk 54 hF
 have l1 : (hT.map eW ++ kT.map eW).length = 72 := by rw [List.length_append, List.length_map, List.length_map, kT_len, hT_8.1]
 have n1 : nfl (hT.map eW ++ kT.map eW) = true := by rw [nfl_app, eW_nf, eW_nf]; rfl
 have su := fun (q : Nm) (hq : q.l ≤ L + 1) (F : SF) (nx : Nat) (ls : List (List UInt8)) (hl : ls.length ≤ 100) (hs : ∀ s ∈ ls, s.length ≤ 10000) (hF : F q = _) => sumS_ok (F := F) (L := L + 1) (nx := nx) q hq true true ls hl hs hF
 have hk5 := keyS_len key 54
 have hk9 := keyS_len key 92
 obtain ⟨k5, e5⟩ : ∃ k, k = keyS key 54 := ⟨_, rfl⟩
 obtain ⟨k9, e9⟩ : ∃ k, k = keyS key 92 := ⟨_, rfl⟩
 have hin := sumH_len (k5 ++ ls.flatten)
 have hmac : macH kT hT key ls.flatten = sumH kT hT (k9 ++ sumH kT hT (k5 ++ ls.flatten)) := by rw [e5, e9]; rfl
 rw [← e5] at hk5 w2
 rw [← e9] at hk9 w1
 obtain ⟨mk, hmk⟩ : ∃ mk, mk = hT.map eW ++ kT.map eW := ⟨_, rfl⟩
 rw [← hmk] at l1 n1 su ⊢
 rw [hmac]
 refine bdy Tryz.f129 (hrd := (by simp; omega)) ?_
 intro F3 hF1 hF2
 have kq : F3 m = some (.rows 9 1 o true (ls.map fun s => [.str s])) := (hF1 m (by simp)).trans hF
 have m1 : ∀ k, (m = (⟨L + 1, k⟩ : Nm)) = False := nm_out hm
 have m2 : ∀ k, ((⟨L + 1, k⟩ : Nm) = m) = False := nm_out' hm
 have b1 : ∀ k, ((⟨L + 1, k⟩ : Nm) == m) = false := fun k => by rw [beq_eq_false_iff_ne]; intro h; rw [m2 k] at h; exact h
 have tl : List.take ls.length (ls.map fun s => [PV.str s]) = ls.map fun s => [PV.str s] := List.take_of_length_le (by simp)
 have hll : (ls.map fun s => [PV.str s]).length = ls.length := List.length_map ..
 have f1 : decide ((key.length : Int) > 64) = false := dF (by omega)
 have f1' : decide ((64 : Int) < (key.length : Int)) = false := dF (by omega)
 simp only [Tryz.f129, cx, l1, n1, f1, go_sem, meths]
 repeat refine sd2 ?_
 refine CallVC.same (w1 ⟨L + 1, 32⟩ (by simp) _ _ (by simp [Tx.look])) ?_
 simp only [go_sem]
 repeat refine sd2 ?_
 refine CallVC.same (w2 ⟨L + 1, 32⟩ (by simp) _ _ (by simp [Tx.look])) ?_
 simp only [kq, m1, b1, tl, hll, go_sem]
 repeat refine sd2 ?_
 have s1 := su ⟨L + 1, 448⟩ (by simp)
 have q1 := fun (F : SF) (nx : Nat) (hF : F _ = _) => s1 F nx (k5 :: ls) (by simp; omega) (by intro s hm; rcases List.mem_cons.1 hm with rfl | hm; omega; exact hs s hm) hF
 rw [List.length_cons, Nat.add_comm ls.length 1] at q1
 refine CallVC.same (q1 _ _ (by simp [Tx.look])) ?_
 simp only [List.flatten_cons, go_sem]
 repeat refine sd2 ?_
 have s2 := su ⟨L + 1, 480⟩ (by simp)
 have q2 := fun (F : SF) (nx : Nat) (hF : F _ = _) => s2 F nx [k9, sumH kT hT (k5 ++ ls.flatten)] (by simp) (by intro s hm; simp only [List.mem_cons, List.not_mem_nil, or_false] at hm; rcases hm with rfl | rfl <;> omega) hF
 refine CallVC.same (q2 _ _ (by simp [Tx.look])) ?_
 simp only [List.flatten_cons, List.flatten_nil, go_sem]
 repeat refine sd2 ?_
 refine ⟨dyn1 m2, ?_⟩
 exact PostF.same (p := True) (.inr rfl) (by simp only [resVal, resVals, resVal1, one, go_sem]) trivial (by simp only [Tx.nf]) (by simp [UpdAll])
theorem dMac_ok {F : SF} {L nx : Nat} (key s : List UInt8) (hk : key.length ≤ 64) (hs : s.length ≤ 4096) : Con Tryz.prog 96 [.str key, .str s] F L nx nx (.tup [.str (macH kT hT key s), .int .i64 0]) [] [] := by
 have lo := fun (q : Nm) (hq : q.l ≤ L + 1) (F : SF) (nx : Nat) (hF : F q = _) => long_ok (F := F) (L := L + 1) (nx := nx) q hq true true [key, s] (by simp) (by intro x hx; simp only [List.mem_cons, List.not_mem_nil, or_false] at hx; rcases hx with rfl | rfl <;> omega) hF
 have mm := fun (q : Nm) (hq : q.l ≤ L + 1) (F : SF) (nx : Nat) (hF : F q = _) => mkMac_ok (F := F) (L := L + 1) (nx := nx) q hq true key hk [s] (by simp) (by intro x hx; simp only [List.mem_cons, List.not_mem_nil, or_false] at hx; subst hx; omega) hF
 have md := fun (F : SF) (nx : Nat) => made_ok (F := F) (L := L + 1) (nx := nx)
 have l1 : (hT.map eW ++ kT.map eW).length = 72 := by rw [List.length_append, List.length_map, List.length_map, kT_len, hT_8.1]
 have n1 : nfl (hT.map eW ++ kT.map eW) = true := by rw [nfl_app, eW_nf, eW_nf]; rfl
 obtain ⟨mk, hmk⟩ : ∃ mk, mk = hT.map eW ++ kT.map eW := ⟨_, rfl⟩
 rw [← hmk] at l1 n1
 simp only [← hmk] at mm md
 refine bdy Tryz.f96 ?_
 intro F3 hF1 hF2
 simp only [Tryz.f96, cx, go_sem, meths]
 repeat refine sd2 ?_
 refine CallVC.same (lo ⟨L + 1, 128⟩ (by simp) _ _ (by simp [Tx.look])) ?_
 simp only [go_sem]
 repeat refine sd2 ?_
 refine CallVC.same (md _ _) ?_
 simp only [go_sem]
 repeat refine sd2 ?_
 refine CallVC.same (mm ⟨L + 1, 224⟩ (by simp) _ _ (by simp [Tx.look])) ?_
 simp only [List.flatten_cons, List.flatten_nil, List.append_nil, go_sem]
 repeat refine sd2 ?_
 exact PostF.same (p := True) (.inr rfl) (by simp only [resVal, resVals, resVal1, one, go_sem]) trivial (by simp only [Tx.nf, nfl, Bool.and_true]) (by simp [UpdAll])
def joinS (ps : List (Nat × Nat)) : List UInt8 := ps.flatMap fun p => putB p.1 p.2
def joinR (ps : List (Nat × Nat)) : List (List PV) := ps.flatMap fun p => [[.int .i64 (p.1 : Int)], [.int .i64 (p.2 : Int)]]
theorem joinR_len (ps : List (Nat × Nat)) : (joinR ps).length = 2 * ps.length := by
 induction ps with
 | nil => rfl
 | cons p ps ih => simp only [joinR, List.flatMap_cons, List.length_append, List.length_cons, List.length_nil] at ih ⊢; omega
theorem joinR_get (ps : List (Nat × Nat)) : ∀ {i : Nat} (h : i < ps.length), (joinR ps).getD (2 * i) [] = [.int .i64 ((ps.getD i (0, 0)).1 : Int)] ∧ (joinR ps).getD (2 * i + 1) [] = [.int .i64 ((ps.getD i (0, 0)).2 : Int)] := by
 induction ps with
 | nil => intro i h; simp at h
 | cons p ps ih =>
  intro i h
  cases i with
  | zero => exact ⟨rfl, rfl⟩
  | succ i =>
   have := ih (i := i) (by simpa using h)
   simp only [joinR, List.flatMap_cons, List.cons_append, List.nil_append] at this ⊢
   rw [show 2 * (i + 1) = 2 * i + 1 + 1 by omega]
   simp only [List.getD_cons_succ]
   exact this
theorem joinS_len : ∀ ps : List (Nat × Nat), (∀ q ∈ ps, 1 ≤ q.1 ∧ q.1 ≤ 7 ∧ q.2 < 256 ^ q.1) → (joinS ps).length ≤ 7 * ps.length
 | [], _ => by simp [joinS]
 | p :: ps, h => by
  have h1 := joinS_len ps fun q hq => h q (by simp [hq])
  have h2 := (h p (by simp)).2.1
  simp only [joinS, List.flatMap_cons, List.length_append, putB_len, List.length_cons] at h1 ⊢
  omega
theorem gJoined_ok {F : SF} {L nx : Nat} (m : Nm) (hm : m.l ≤ L) (o p : Bool) (ps : List (Nat × Nat)) (hl : ps.length ≤ 10) (hs : ∀ q ∈ ps, 1 ≤ q.1 ∧ q.1 ≤ 7 ∧ q.2 < 256 ^ q.1) (hF : F m = some (.rows 3 1 o p (joinR ps))) :
  Con Tryz.prog 95 [.sl m 0 (2 * ps.length)] F L nx nx (.str (joinS ps)) [] [m] := by
 have hrl := joinR_len ps
 have m1 : ∀ k, (m = (⟨L + 1, k⟩ : Nm)) = False := nm_out hm
 have m2 : ∀ k, ((⟨L + 1, k⟩ : Nm) = m) = False := nm_out' hm
 refine bdy Tryz.f95 (hrd := (by simp; omega)) ?_
 intro F3 hF1 hF2
 have kq : F3 m = some (.rows 3 1 o p (joinR ps)) := (hF1 m (by simp)).trans hF
 simp only [Tryz.f95, cx, go_sem, meths]
 repeat refine sd2 ?_
 refine loopK.intro _ _ (I := fun i : Nat => ⟨[some (.sl m 0 (2 * ps.length)), none, none, some (.str (joinS (ps.take i))), some (.int .i64 (2 * i))] ++ oz 26, [], 10000 * (i + 1)⟩)
  (pre := fun i => i ≤ ps.length) (μ := fun i => ps.length - i) 0 (by omega) ?_ ?_
 ·refine Sub.of (hfz hF2) (by simp only [go_sem, subT, and_self, Int.natCast_zero, joinS, List.take_zero, List.flatMap_nil, Int.mul_zero]; try trivial) ?_ (by simp [subK]) (by simp)
  simp [subH]
 intro i hi
 by_cases hlt : i < ps.length
 ·have g1 : decide ((2 * (i : Int) + 1) < ((2 * ps.length : Nat) : Int)) = true := dT (by omega)
  have t1 : (2 * (i : Int)).toNat = 2 * i := by omega
  have t2 : (2 * (i : Int) + 1).toNat = 2 * i + 1 := by omega
  obtain ⟨r1, r2⟩ := joinR_get ps hlt
  have hq := hs _ (List.getElem_mem hlt)
  have hg : ps.getD i (0, 0) = ps[i] := by simp [List.getD_eq_getElem?_getD, hlt]
  rw [hg] at r1 r2
  have hj : joinS (ps.take (i + 1)) = joinS (ps.take i) ++ putB ps[i].1 ps[i].2 := by
   rw [List.take_succ_eq_append_getElem hlt, joinS, joinS, List.flatMap_append, List.flatMap_cons, List.flatMap_nil, List.append_nil]
  obtain ⟨⟨a, b⟩, hab⟩ : ∃ q, q = ps[i] := ⟨_, rfl⟩
  rw [← hab] at r1 r2 hq hj
  simp only at r1 r2 hq hj
  have hp := fun F L nx => put_ok (F := F) (L := L) (nx := nx) a b hq.1 hq.2.1 hq.2.2
  simp only [g1, kq, t1, t2, r1, r2, hrl, Nat.add_assoc, go_sem]
  repeat refine sd2 ?_
  refine CallVC.same (hp _ _ _) ?_
  simp only [Nat.add_assoc, go_sem]
  repeat refine sd2 ?_
  have hj2 := joinS_len (ps.take i) fun q hq => hs q (List.mem_of_mem_take hq)
  have hj3 : (ps.take i).length ≤ 10 := by rw [List.length_take]; omega
  refine ⟨okDyn_num (fun _ => 0) (by simp only [numF, List.map]; kernel_rfl), by rw [putB_len]; omega, ⟨by omega, by omega⟩, i + 1, by omega, by omega, ?_⟩
  rw [hj]
  refine Sub.of (hfz hF2) (by simp only [go_sem, subT, and_self, Int.natCast_succ, show 2 * ((i : Int) + 1) = 2 * (i : Int) + 2 by omega]; try trivial) ?_ (by simp [subK]) (by simp only []; omega)
  simp [subH]
 ·obtain rfl : i = ps.length := by omega
  have g1 : decide ((2 * (ps.length : Int) + 1) < ((2 * ps.length : Nat) : Int)) = false := dF (by omega)
  rw [List.take_length]
  simp only [g1, Nat.add_assoc, go_sem]
  repeat refine sd2 ?_
  exact PostF.same (p := True) (.inr rfl) (by simp only [resVal, resVals, resVal1, one, go_sem]) trivial (by simp only [Tx.nf]) (by simp [UpdAll])
def Gx.mrow (g : Gx) (now : Int) (o : PV) : List PV := g.row ++ [.int .i64 now, o]
theorem mCookie_ok {F : SF} {L nx : Nat} (m : Nm) (hm : m.l ≤ L) (ow : Bool) (g : Gx) (now : Int) (u : PV) (body : List UInt8) (t : Nat) (ht : t < 256 ^ 6) (hb : body.length ≤ 1000) (h1 : 0 ≤ g.own.tag ∧ g.own.tag < 4294967296) (h2 : 0 ≤ g.fr ∧ g.fr < 65536) (h3 : 0 ≤ g.tt ∧ g.tt < 65536) (hs : g.sec.length ≤ 64) (hF : F m = some (.rows 123 22 ow true [g.mrow now u])) :
  Con Tryz.prog 52 [.ptr m 0 0, .str body, .int .i64 t] F L nx nx (.str (ckS g body t)) [] [m] := by
 obtain ⟨tg, htg⟩ : ∃ x : Nat, g.own.tag = x := ⟨g.own.tag.toNat, by omega⟩
 obtain ⟨fr, hfr⟩ : ∃ x : Nat, g.fr = x := ⟨g.fr.toNat, by omega⟩
 obtain ⟨tt, htt⟩ : ∃ x : Nat, g.tt = x := ⟨g.tt.toNat, by omega⟩
 have j1 := fun (q : Nm) (hq : q.l ≤ L + 1) (F : SF) (nx : Nat) (hF : F q = _) => gJoined_ok (F := F) (L := L + 1) (nx := nx) q hq true true [(6, t)] (by simp) (by intro q hq; simp only [List.mem_cons, List.not_mem_nil, or_false] at hq; subst hq; exact ⟨by simp, by simp, ht⟩) hF
 have j2 := fun (q : Nm) (hq : q.l ≤ L + 1) (F : SF) (nx : Nat) (hF : F q = _) => gJoined_ok (F := F) (L := L + 1) (nx := nx) q hq true true [(4, tg), (2, fr), (2, tt)] (by simp) (by
  intro q hq; simp only [List.mem_cons, List.not_mem_nil, or_false] at hq
  rcases hq with rfl | rfl | rfl
  ·exact ⟨by simp, by simp, by simp only []; omega⟩
  ·exact ⟨by simp, by simp, by simp only []; omega⟩
  ·exact ⟨by simp, by simp, by simp only []; omega⟩) hF
 have e1 : joinS [(6, t)] = putB 6 t := by simp [joinS]
 have e2 : joinS [(4, tg), (2, fr), (2, tt)] = putB 4 tg ++ (putB 2 fr ++ putB 2 tt) := by simp [joinS]
 rw [e1] at j1
 rw [e2] at j2
 obtain ⟨s, hs9⟩ : ∃ s, s = putB 6 t ++ body ++ (putB 4 tg ++ (putB 2 fr ++ putB 2 tt)) := ⟨_, rfl⟩
 have hsl : s.length = body.length + 14 := by rw [hs9]; simp only [List.length_append, putB_len]; omega
 have hmac := fun F L nx => dMac_ok (F := F) (L := L) (nx := nx) g.sec s hs (by omega)
 have hml := macH_len g.sec s
 have hck : ckS g body t = s ++ macH kT hT g.sec s := by
  unfold ckS
  rw [htg, hfr, htt]
  simp only [Int.toNat_natCast, hs9, List.append_assoc]
 rw [hck]
 obtain ⟨mc, hmc⟩ : ∃ x, x = macH kT hT g.sec s := ⟨_, rfl⟩
 rw [← hmc] at hml ⊢
 simp only [← hmc] at hmac
 have m1 : ∀ k, (m = (⟨L + 1, k⟩ : Nm)) = False := nm_out hm
 have m2 : ∀ k, ((⟨L + 1, k⟩ : Nm) = m) = False := nm_out' hm
 simp only [Gx.mrow, Gx.row, htg, hfr, htt] at hF
 refine bdy Tryz.f52 (hrd := (by simp; omega)) ?_
 intro F3 hF1 hF2
 have kq := (hF1 m (by simp)).trans hF
 simp only [Tryz.f52, cx, go_sem, meths]
 repeat refine sd2 ?_
 refine CallVC.same (j1 ⟨L + 1, 64⟩ (by simp) _ _ (by simp [joinR])) ?_
 simp only [kq, m1, Nat.add_zero, go_sem]
 repeat refine sd2 ?_
 refine ⟨by rw [putB_len]; omega, CallVC.same (j2 ⟨L + 1, 672⟩ (by simp) _ _ (by simp [joinR])) ?_⟩
 simp only [kq, m1, Nat.add_zero, go_sem]
 repeat refine sd2 ?_
 have hs8 : putB 6 t ++ body ++ (putB 4 tg ++ (putB 2 fr ++ putB 2 tt)) = s := hs9.symm
 refine ⟨by simp only [List.length_append, putB_len]; omega, dyn1 m2, ?_⟩
 simp only [hs8, go_sem]
 repeat refine sd2 ?_
 refine CallVC.same (hmac _ _ _) ?_
 simp only [go_sem]
 repeat refine sd2 ?_
 exact PostF.same (p := True) (.inr rfl) (by simp only [resVal, resVals, resVal1, one, go_sem]) trivial (by simp only [Tx.nf]) (by simp [UpdAll])
theorem ckS_len (g : Gx) (body : List UInt8) (t : Int) : (ckS g body t).length = body.length + 46 := by
 unfold ckS
 simp only [List.length_append, putB_len, macH_len]
 omega
theorem Gx.ok_hd {g : Gx} (h : g.ok = true) : g.hd = true := by
 unfold Gx.ok at h
 simp only [Bool.and_eq_true] at h
 exact h.1.1
theorem serB32_of {n : Int} (h : serB 32 n = true) : 0 ≤ n ∧ n < 4294967296 := by
 unfold serB at h; simp at h; omega
theorem plainB_ok {d : Ini} (h : plainB d = true) : d.ok = true ∧ d.ck = [] := by
 unfold plainB at h
 simp only [Bool.and_eq_true, beq_iff_eq] at h
 exact h
theorem Ini.ok_tag {d : Ini} (h : d.ok = true) : 0 < d.tag ∧ d.tag < 4294967296 := by
 unfold Ini.ok at h
 simp only [Bool.and_eq_true, decide_eq_true_eq] at h
 have := serB32_of h.1.1
 omega
theorem timB_iff (t : Int) : timB t = true ↔ 0 ≤ t ∧ t ≤ 1099511627776 := by unfold timB; simp
theorem outP_one (p : Pkx) : outP [p] = .fs 4 [(pR p)] := rfl
theorem mSend_ok {F : SF} {L nx : Nat} (m : Nm) (hm : m.l ≤ L) (g : Gx) (now tag : Int) (c : Ckx) (hF : F m = some (.rows 123 22 true true [g.mrow now .nilS])) :
  Con Tryz.prog 130 [.ptr m 0 0, .int .i64 tag, .agg c.row] F L nx nx (.tup []) [(m, .rows 123 22 true true [g.mrow now (outP (gSend g tag c))])] [m] := by
 have m1 : ∀ k, (m = (⟨L + 1, k⟩ : Nm)) = False := nm_out hm
 have m2 : ∀ k, ((⟨L + 1, k⟩ : Nm) = m) = False := nm_out' hm
 simp only [Gx.mrow, Gx.row, Ckx.row, List.cons_append, List.nil_append] at hF ⊢
 show Con _ _ _ F L nx (nx + 0) _ _ _
 refine Con.bodyNT (cxOk (L + 1)) rfl rfl (fn := Tryz.f130) (c := Tryz.f130.body.getD .skip) (by kernel_rfl) (by rfl) (by kernel_rfl) rfl  (by simp; omega) ?_
 intro F3 hF1 hF2
 have kq := (hF1 m (by simp)).trans hF
 refine vcu ⟨[some (.ptr m 0 0), some (.int .i64 tag), none, none, none, some (.ptr ⟨L + 1, 0⟩ 0 0)] ++ oz 23, [(⟨L + 1, 0⟩, .rows 73 3 true true [c.row])], 10000⟩ ?_ ?_
 ·simp only [Tryz.f130, hdC, Option.getD_some, cx, go_sem, meths]
  repeat refine sd2 ?_
  refine ⟨(), (so0 hF2 (h2 := by simp [subH, Tx.look, Ckx.row]))⟩
 refine VT.of (cxOk (L + 1)) ?_
 simp only [Tryz.f130, tlC, Option.getD_some, cx, kq, m1, Ckx.row, Nat.add_zero, go_sem, meths]
 repeat refine sd2 ?_
 refine ⟨dyn1 m2, ?_⟩
 refine ⟨_, (Sub.frzRow ⟨L + 1, 10640⟩ (e := 38) (wd := 4) (o := true) (p := false) (row := [.int .i64 g.fr, .int .i64 g.tt, .int .i64 tag, .sl ⟨L + 1, 10544⟩ 0 1]) [.int .i64 g.fr, .int .i64 g.tt, .int .i64 tag, .fs 3 [[.int .i64 c.kd, .int .i64 c.fl, .str c.bd]]] (by simp [Tx.look]) rfl (by simp [Wk, WkL, Tx.look]) (by simp [wkNL, wkN]) (by simp [nfl, Tx.nf])).trans
  (Sub.frzRow m (e := 123) (wd := 22) (o := true) (p := false) (row := (gR g [.int .i64 now, .sl ⟨L + 1, 10640⟩ 0 1])) (gR g [.int .i64 now, .fs 4 [[.int .i64 g.fr, .int .i64 g.tt, .int .i64 tag, .fs 3 [[.int .i64 c.kd, .int .i64 c.fl, .str c.bd]]]]]) (by simp [Tx.look, updH, setH, unown, wkNL, wkN, m1]) rfl (by simp [Wk, WkL, Tx.look, updH, setH, unown, wkNL, wkN]) (by simp [wkNL, wkN, m1]) (by simp [nfl, Tx.nf])), ?_⟩
 simp only [Tx.look, updH, setH, unown, wkNL, wkN, m1, m2, List.cons_append, List.nil_append, outP_one, gSend, List.map, Ckx.row, go_sem]
 refine .val [] (.inl rfl) (by simp) (p := True) (v0 := .tup []) ?_ trivial ?_ ?_ ⟨hm, ?_, trivial⟩ ?_
 ·simp only [resVal, resVals, one, go_sem]
 ·simp [nmA, nmAL]
 ·simp [Tx.rn, Tx.rnL]
 ·rw [kp_nil]
  exact .pure (by simp [Tx.look, m1])
 ·simp [UpdAll, keys]
theorem mBegin_ok {F : SF} {L nx : Nat} (m : Nm) (hm : m.l ≤ L) (g : Gx) (now : Int) (u : PV) (s : Int) (hn : 0 ≤ now ∧ now ≤ 1099511627776) (hF : F m = some (.rows 123 22 true true [g.mrow now u])) :
  Con Tryz.prog 97 [.ptr m 0 0, .int .i64 s] F L nx nx (.tup []) [(m, .rows 123 22 true true [(gBegin g s now).mrow now u])] [m] := by
 have m1 : ∀ k, (m = (⟨L + 1, k⟩ : Nm)) = False := nm_out hm
 have m2 : ∀ k, ((⟨L + 1, k⟩ : Nm) = m) = False := nm_out' hm
 simp only [Gx.mrow, Gx.row, gBegin, List.cons_append, List.nil_append] at hF ⊢
 refine bdy Tryz.f97 (hrd := (by simp; omega)) ?_
 intro F3 hF1 hF2
 have kq := (hF1 m (by simp)).trans hF
 simp only [Tryz.f97, cx, kq, Nat.add_zero, go_sem, meths]
 repeat refine sd2 ?_
 exact PostF.of (p := True) (v0 := .tup []) (.inl rfl) (by simp only [resVal, resVals, one, go_sem]) trivial (by simp [Wk, WkL]) (by simp [wkN, wkNL]) (by simp [Tx.nf, nfl]) ⟨hm, by simp [Tx.look, BW], trivial⟩ (by simp [UpdAll, keys])
theorem mRest_ok {F : SF} {L nx : Nat} (m : Nm) (hm : m.l ≤ L) (g : Gx) (now : Int) (u : PV) (s : Int) (hF : F m = some (.rows 123 22 true true [g.mrow now u])) :
  Con Tryz.prog 100 [.ptr m 0 0, .int .i64 s] F L nx nx (.tup []) [(m, .rows 123 22 true true [(gRest g s).mrow now u])] [m] := by
 have m1 : ∀ k, (m = (⟨L + 1, k⟩ : Nm)) = False := nm_out hm
 have m2 : ∀ k, ((⟨L + 1, k⟩ : Nm) = m) = False := nm_out' hm
 simp only [Gx.mrow, Gx.row, gRest, List.cons_append, List.nil_append] at hF ⊢
 refine bdy Tryz.f100 (hrd := (by simp; omega)) ?_
 intro F3 hF1 hF2
 have kq := (hF1 m (by simp)).trans hF
 simp only [Tryz.f100, cx, kq, Nat.add_zero, go_sem, meths]
 repeat refine sd2 ?_
 exact PostF.of (p := True) (v0 := .tup []) (.inl rfl) (by simp only [resVal, resVals, one, go_sem]) trivial (by simp [Wk, WkL]) (by simp [wkN, wkNL]) (by simp [Tx.nf, nfl]) ⟨hm, by simp [Tx.look, BW], trivial⟩ (by simp [UpdAll, keys])
theorem mTell_ok {F : SF} {L nx : Nat} (m : Nm) (hm : m.l ≤ L) (g : Gx) (now k : Int) (hF : F m = some (.rows 123 22 true true [g.mrow now .nilS])) :
  Con Tryz.prog 99 [.ptr m 0 0, .int .i64 k] F L nx nx (.tup []) [(m, .rows 123 22 true true [g.mrow now (outP (gTell g k))])] [m] := by
 have m1 : ∀ k, (m = (⟨L + 1, k⟩ : Nm)) = False := nm_out hm
 have m2 : ∀ k, ((⟨L + 1, k⟩ : Nm) = m) = False := nm_out' hm
 have hc := fun (F : SF) (nx : Nat) (hF : F m = _) => mSend_ok (F := F) (L := L + 1) (nx := nx) m (by omega) g now g.peer.tag ⟨k, 0, []⟩ hF
 unfold gTell
 obtain ⟨o, ho⟩ : ∃ o, o = outP (gSend g g.peer.tag ⟨k, 0, []⟩) := ⟨_, rfl⟩
 rw [← ho]
 simp only [← ho] at hc
 simp only [Gx.mrow, Gx.row, Ckx.row, List.cons_append, List.nil_append] at hF hc ⊢
 refine bdy Tryz.f99 (hrd := (by simp; omega)) ?_
 intro F3 hF1 hF2
 have kq := (hF1 m (by simp)).trans hF
 simp only [Tryz.f99, cx, kq, Nat.add_zero, go_sem, meths]
 repeat refine sd2 ?_
 refine CallVC.same (hc _ _ (by simp [kq])) ?_
 simp only [go_sem]
 repeat refine sd2 ?_
 exact PostF.of (p := True) (v0 := .tup []) (.inl rfl) (by simp only [resVal, resVals, one, go_sem]) trivial (by simp [Wk, WkL]) (by simp [wkN, wkNL]) (by simp [Tx.nf, nfl]) ⟨hm, by simp [Tx.look, BW], trivial⟩ (by simp [UpdAll, keys])
theorem mAgain_ok {F : SF} {L nx : Nat} (m : Nm) (hm : m.l ≤ L) (g : Gx) (now : Int) (hg : g.own.ok = true ∧ g.own.ck = []) (hF : F m = some (.rows 123 22 true true [g.mrow now .nilS])) :
  Con Tryz.prog 98 [.ptr m 0 0] F L nx nx (.tup []) [(m, .rows 123 22 true true [g.mrow now (outP (gAgain g))])] [m] := by
 have m1 : ∀ k, (m = (⟨L + 1, k⟩ : Nm)) = False := nm_out hm
 have m2 : ∀ k, ((⟨L + 1, k⟩ : Nm) = m) = False := nm_out' hm
 unfold gAgain
 by_cases h2 : g.st = 2
 ·rw [if_pos h2]
  have hI := fun F L nx => putInit_ok (F := F) (L := L) (nx := nx) g.own
  rw [hg.1, if_pos rfl, hg.2, show iniK [] = 1 from rfl] at hI
  have hc := fun (F : SF) (nx : Nat) (hF : F m = _) => mSend_ok (F := F) (L := L + 1) (nx := nx) m (by omega) g now 0 ⟨1, 0, g.own.oct⟩ hF
  obtain ⟨o, ho⟩ : ∃ o, o = outP (gSend g 0 ⟨1, 0, g.own.oct⟩) := ⟨_, rfl⟩
  rw [← ho]
  simp only [← ho] at hc
  have s2 : (g.st == 2) = true := by simp; omega
  simp only [Gx.mrow, Gx.row, Ckx.row, Ini.row, List.cons_append, List.nil_append] at hF hc hI ⊢
  refine bdy Tryz.f98 (hrd := (by simp; omega)) ?_
  intro F3 hF1 hF2
  have kq := (hF1 m (by simp)).trans hF
  simp only [Tryz.f98, cx, kq, s2, Nat.add_zero, go_sem, meths]
  repeat refine sd2 ?_
  refine CallVC.same (hI _ _ _) ?_
  simp only [go_sem]
  repeat refine sd2 ?_
  refine CallVC.same (hc _ _ (by simp [kq, m1])) ?_
  simp only [m1, go_sem]
  repeat refine sd2 ?_
  exact PostF.of (p := True) (v0 := .tup []) (by first | exact .inl rfl | exact .inr rfl) (by simp only [resVal, resVals, one, go_sem]) trivial (by simp [Wk, WkL]) (by simp [wkN, wkNL]) (by simp [Tx.nf, nfl]) ⟨hm, by simp [Tx.look, BW, m1], trivial⟩ (by simp [UpdAll, keys])
 rw [if_neg h2]
 have s2 : (g.st == 2) = false := by simp; omega
 by_cases h3 : g.st = 3
 ·rw [if_pos h3]
  have hc := fun (F : SF) (nx : Nat) (hF : F m = _) => mSend_ok (F := F) (L := L + 1) (nx := nx) m (by omega) g now g.peer.tag ⟨10, 0, g.ck⟩ hF
  obtain ⟨o, ho⟩ : ∃ o, o = outP (gSend g g.peer.tag ⟨10, 0, g.ck⟩) := ⟨_, rfl⟩
  rw [← ho]
  simp only [← ho] at hc
  have s3 : (g.st == 3) = true := by simp; omega
  simp only [Gx.mrow, Gx.row, Ckx.row, List.cons_append, List.nil_append] at hF hc ⊢
  refine bdy Tryz.f98 (hrd := (by simp; omega)) ?_
  intro F3 hF1 hF2
  have kq := (hF1 m (by simp)).trans hF
  simp only [Tryz.f98, cx, kq, s2, s3, Nat.add_zero, go_sem, meths]
  repeat refine sd2 ?_
  refine CallVC.same (hc _ _ (by simp [kq])) ?_
  simp only [go_sem]
  repeat refine sd2 ?_
  refine ⟨okDyn_num (fun _ => 0) (by simp only [numF, List.map]; kernel_rfl), ?_⟩
  exact PostF.of (p := True) (v0 := .tup []) (by first | exact .inl rfl | exact .inr rfl) (by simp only [resVal, resVals, one, go_sem]) trivial (by simp [Wk, WkL]) (by simp [wkN, wkNL]) (by simp [Tx.nf, nfl]) ⟨hm, by simp [Tx.look, BW], trivial⟩ (by simp [UpdAll, keys])
 rw [if_neg h3]
 have s3 : (g.st == 3) = false := by simp; omega
 by_cases h5 : g.st = 5
 ·rw [if_pos h5]
  have hc := fun (F : SF) (nx : Nat) (hF : F m = _) => mTell_ok (F := F) (L := L + 1) (nx := nx) m (by omega) g now 7 hF
  obtain ⟨o, ho⟩ : ∃ o, o = outP (gTell g 7) := ⟨_, rfl⟩
  rw [← ho]
  simp only [← ho] at hc
  have s5 : (g.st == 5) = true := by simp; omega
  simp only [Gx.mrow, Gx.row, List.cons_append, List.nil_append] at hF hc ⊢
  refine bdy Tryz.f98 (hrd := (by simp; omega)) ?_
  intro F3 hF1 hF2
  have kq := (hF1 m (by simp)).trans hF
  simp only [Tryz.f98, cx, kq, s2, s3, s5, Nat.add_zero, go_sem, meths]
  repeat refine sd2 ?_
  refine CallVC.same (hc _ _ (by simp [kq])) ?_
  simp only [go_sem]
  repeat refine sd2 ?_
  exact PostF.of (p := True) (v0 := .tup []) (by first | exact .inl rfl | exact .inr rfl) (by simp only [resVal, resVals, one, go_sem]) trivial (by simp [Wk, WkL]) (by simp [wkN, wkNL]) (by simp [Tx.nf, nfl]) ⟨hm, by simp [Tx.look, BW], trivial⟩ (by simp [UpdAll, keys])
 rw [if_neg h5]
 have s5 : (g.st == 5) = false := by simp; omega
 by_cases h6 : g.st = 6
 ·rw [if_pos h6]
  have hc := fun (F : SF) (nx : Nat) (hF : F m = _) => mTell_ok (F := F) (L := L + 1) (nx := nx) m (by omega) g now 8 hF
  obtain ⟨o, ho⟩ : ∃ o, o = outP (gTell g 8) := ⟨_, rfl⟩
  rw [← ho]
  simp only [← ho] at hc
  have s6 : (g.st == 6) = true := by simp; omega
  simp only [Gx.mrow, Gx.row, List.cons_append, List.nil_append] at hF hc ⊢
  refine bdy Tryz.f98 (hrd := (by simp; omega)) ?_
  intro F3 hF1 hF2
  have kq := (hF1 m (by simp)).trans hF
  simp only [Tryz.f98, cx, kq, s2, s3, s5, s6, Nat.add_zero, go_sem, meths]
  repeat refine sd2 ?_
  refine CallVC.same (hc _ _ (by simp [kq])) ?_
  simp only [go_sem]
  repeat refine sd2 ?_
  exact PostF.of (p := True) (v0 := .tup []) (by first | exact .inl rfl | exact .inr rfl) (by simp only [resVal, resVals, one, go_sem]) trivial (by simp [Wk, WkL]) (by simp [wkN, wkNL]) (by simp [Tx.nf, nfl]) ⟨hm, by simp [Tx.look, BW], trivial⟩ (by simp [UpdAll, keys])
 rw [if_neg h6]
 have s6 : (g.st == 6) = false := by simp; omega
 simp only [Gx.mrow, Gx.row, List.cons_append, List.nil_append, outP] at hF ⊢
 refine bdy Tryz.f98 (hrd := (by simp; omega)) ?_
 intro F3 hF1 hF2
 have kq := (hF1 m (by simp)).trans hF
 simp only [Tryz.f98, cx, kq, s2, s3, s5, s6, Nat.add_zero, go_sem, meths]
 repeat refine sd2 ?_
 exact PostF.of (p := True) (v0 := .tup []) (by first | exact .inl rfl | exact .inr rfl) (by simp only [resVal, resVals, one, go_sem]) trivial (by simp [Wk, WkL]) (by simp [wkN, wkNL]) (by simp [Tx.nf, nfl]) ⟨hm, by simp [Tx.look, BW, kq], trivial⟩ (by simp [UpdAll])
end Go.Proofs.YtifhjhbfhdcahaaGreat
end
