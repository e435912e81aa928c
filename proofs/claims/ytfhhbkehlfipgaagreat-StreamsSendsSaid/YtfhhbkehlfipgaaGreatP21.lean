/- Lemmas for the walk: ZC74. -/
import Derived.Test.YtfhhbkehlfipgaaGreatP20
set_option linter.all false
section
namespace Go.Proofs.YtfhhbkehlfipgaaGreat
open Go.Tx
set_option maxRecDepth 100000
set_option maxHeartbeats 16000000
structure SdX where
 k : Nat
 i : Nat
structure SdY where
 j : Nat
 i : Nat
def Msg.cut (m : Msg) (k : Nat) : Msg := { m with tx := m.tx.take k }
theorem cutN {G : Nat → Prop} {P : Prop} (h : (∀ l, 160 ≤ l → l < 9000 → G l) → P) (g : ∀ l, 160 ≤ l → l < 9000 → G l) : P := h g
theorem newRF_ok {F : SF} {L nx : Nat} (n m : Nat) (hn : n ≤ 1000000) (hm : m ≤ 1000000) :
  Con Tryz.prog 9 [.int .i64 n, .int .i64 m] F L nx nx (strV (zrs n) (zrs m) 0 (-1) [] []) [] [] := by
 have h := refNew_ok (F := F) (L := L + 1) (nx := 0) n m hn hm
 have e1 : (zrs n).length = n := by simp [zrs]
 have e2 : (zrs m).length = m := by simp [zrs]
 refine Con.frozen h (by simp [keys]) (fun F => ?_) ?_ ?_
 ·simp [strV, Wk, WkL, SF.upd, SF.set, e1, e2, List.take_of_length_le]
 ·simp [strV, wkN, wkNL]
 ·simp [strV, Tx.nf, nfl]
theorem sendsLaw_ok {F : SF} {L nx : Nat} (po pi : Int) (raw : Msg) (hraw : raw.tx.length ≤ 9223372036854775807) (d : Df) (hd : d.ok) (b c : Bd) (hb : b.ok) (hc : c.ok) (w : Wd) (hw : w.ok) (n : Nat) (hn : n < 65536) :
  Con Tryz.prog 3 [.int .i64 po, .int .i64 pi, .agg raw.row, .agg d.row, .agg b.row, .agg c.row, .agg w.row, .int .u16 n] F L nx nx (.bool true) [] [] := by
 have ho := hd.o
 have t1 : (min (raw.tx.length : Int) 9000).toNat = min raw.tx.length 9000 := by omega
 have t2 : ((d.o : Int).tmod 16) = ((d.o % 16 : Nat) : Int) := rfl
 have t3 : (1 : Int) + ((d.o % 16 : Nat) : Int) = ((1 + d.o % 16 : Nat) : Int) := by omega
 have t4 : ((n : Int).tmod 9000) = ((n % 9000 : Nat) : Int) := rfl
 obtain ⟨X, hX⟩ : ∃ X, X = List.take (min raw.tx.length 9000 - 0) raw.tx := ⟨_, rfl⟩
 have t0 : List.take (min raw.tx.length 9000 - 0) raw.tx = X := hX.symm
 have hXl : X.length ≤ 9000 := by rw [hX]; simp; omega
 have hms := fun F L nx => message_ok (F := F) (L := L) (nx := nx) w.st w.kd w.sz (1 + d.o % 16) w.lo hw.1 hw.2.1 hw.2.2 (by omega) (by omega)
 have hss := fun F L nx => states_ok (F := F) (L := L) (nx := nx) d hd b c hb hc
 obtain ⟨ALL, hALL⟩ : ∃ x, x = stA d b c := ⟨_, rfl⟩
 rw [← hALL] at hss
 simp only [Df.row, Bd.row] at hss
 obtain ⟨Z, hZ⟩ : ∃ x, x = bytesP (List.take (n % 9000) (List.replicate (n % 9000) [PV.int .u8 0])) := ⟨_, rfl⟩
 have hZl : Z.length ≤ 9000 := by rw [hZ]; simp [bytesP]; omega
 have hsz := fun F L nx => sameS_ok (F := F) (L := L) (nx := nx) [] [] [] 0 0 [] (by simp) (by simp) (by simp) (by simp)
 have hdz := fun F L nx => sameData_ok (F := F) (L := L) (nx := nx) [] (by simp)
 simp only [strV, List.map_nil] at hsz hdz
 refine Con.body (cxOk (L + 1)) rfl rfl (fn := Tryz.f3) (c := Tryz.f3.body.getD .skip) (by kernel_rfl) (by rfl) (by kernel_rfl) rfl (by simp) ?_
 intro F3 hF1 hF2
 apply cutN
 ·intro key
  by_cases hri : 1 ≤ po ∧ po ≤ 16 ∧ 1 ≤ pi ∧ pi ≤ 16
  ·obtain ⟨x, hx⟩ : ∃ x : Nat, po = x := ⟨po.toNat, by omega⟩
   obtain ⟨y, hy⟩ : ∃ y : Nat, pi = y := ⟨pi.toNat, by omega⟩
   have y1 : decide ((1 : Int) ≤ po) = true := dT (by omega)
   have y2 : decide (po ≤ 16) = true := dT (by omega)
   have y3 : decide ((1 : Int) ≤ pi) = true := dT (by omega)
   have y4 : decide (pi ≤ 16) = true := dT (by omega)
   have q7 : ((0 : Int) != 0) = false := rfl
   have hnw := fun F L nx => new_ok (F := F) (L := L) (nx := nx) x y (by omega) (by omega) (by omega) (by omega)
   have hrn := fun F L nx => newRF_ok (F := F) (L := L) (nx := nx) x y (by omega) (by omega)
   have hsa := fun F L nx => sameS_ok (F := F) (L := L) (nx := nx) (zrs x) (zrs y) [] 0 (-1) [] (by simp [zrs]; omega) (by simp [zrs]; omega) (by simp) (by simp)
   simp only [strV, List.map_nil] at hnw hrn hsa
   rw [← hx, ← hy] at hnw hrn
   simp only [Tryz.f3, cx, Msg.row, Df.row, Bd.row, Wd.row, go_sem, meths]
   refine CallVC.same works_ok ?_
   simp only [t0, t1, go_sem]
   repeat refine And.intro (by first | omega | exact ⟨by omega, by omega⟩ | exact okS (by kernel_rfl)) ?_
   refine CallVC.same (hnw _ _ _) ?_
   simp only [q7, y1, y2, y3, y4, go_sem]
   repeat refine And.intro (by first | omega | exact ⟨by omega, by omega⟩ | exact okS (by kernel_rfl)) ?_
   refine CallVC.same (hrn _ _ _) ?_
   simp only [go_sem]
   repeat refine And.intro (by first | omega | exact ⟨by omega, by omega⟩ | exact okS (by kernel_rfl)) ?_
   refine CallVC.same (hsa _ _ _) ?_
   simp only [t2, t3, Nat.add_zero, go_sem]
   repeat refine And.intro (by first | omega | exact ⟨by omega, by omega⟩ | exact okS (by kernel_rfl)) ?_
   refine ⟨okDyn_num (fun x => x.i) (by kernel_rfl), ?_⟩
   repeat refine And.intro (by first | omega | exact ⟨by omega, by omega⟩ | exact okS (by kernel_rfl)) ?_
   refine CallVC.same (hms _ _ _) ?_
   simp only [t4, go_sem]
   repeat refine And.intro (by first | omega | exact ⟨by omega, by omega⟩ | exact okS (by kernel_rfl)) ?_
   have hZ1 : ∀ row ∈ List.take (n % 9000) (List.replicate (n % 9000) [PV.int .u8 0]), isByteP row := by
    intro row hr
    have h := List.eq_of_mem_replicate (List.mem_of_mem_take hr)
    rw [h]; exact ⟨0, rfl⟩
   refine ⟨⟨by simp, hZ1⟩, ?_⟩
   refine CallVC.same (hss _ _ _) ?_
   rw [← hZ]
   simp only [go_sem]
   repeat refine And.intro (by first | omega | exact ⟨by omega, by omega⟩ | exact okS (by kernel_rfl)) ?_
   obtain ⟨l, hl⟩ : ∃ l, l = 1984 := ⟨_, rfl⟩
   simp only [← hl]
   have l0 : (l = 0) = False := by apply eq_false; omega
   have l1 : (0 = l) = False := by apply eq_false; omega
   have l2 : (l = 32) = False := by apply eq_false; omega
   have l3 : (32 = l) = False := by apply eq_false; omega
   have l4 : (l = 128) = False := by apply eq_false; omega
   have l5 : (128 = l) = False := by apply eq_false; omega
   refine loopK.intro _ _ (I := fun z : SdX => ⟨[none, none, none, none, none, none, none, none, none, none, some (.ptr ⟨L + 1, 0⟩ 0 0), some (.ptr ⟨L + 1, 32⟩ 0 0), none, none, some (.ptr ⟨L + 1, 128⟩ 0 0), none, some (.bool false), none, none, none, some (.ptr ⟨L + 1, l⟩ 0 0), none, none, none, none, none, none, none, none, none, none, none, none, none, none, none, none, none, none, none, none, none, none, none, none, none, none, none, none, none, none, none, none, none, none, none, none, none, none, none, none, none, none, none, none, none, none, none, none, none, none, none, none, none, none, none, none, none, none, none, none, none, none, none, none, none, none, none, none, none, none, none, none, none, none, none, none, none, none, none, none, none, none, none, none, some (.agg ALL), some (.int .i64 z.k), none, none, none, none, none, none, none, none, none, none, none, none, none, none, none, none, none, none, none, none, none, none, none, none, none, none, none, none, none, none, none, none, none, none, none, none, none, none, none, none, none, none, none, none, none, none, none, none, none, none, none, none, none, none, none, none, none, none, none, none, none, none, none, none, none, none, none, none, none, none, none, none, none, none, none, none, none], [(⟨L + 1, 0⟩, .rows 23 4 true true [[.int .i64 raw.st, .int .i64 raw.pr, .bool raw.lo, .str X]]), (⟨L + 1, 32⟩, .rows 30 7 true true [[.int .u8 d.o, .int .u8 d.i, .int .u32 d.f, .int .u16 d.a, .int .u16 d.b, .fs 4 (d.ws.map Wd.row), .fs 1 (d.ks.map oU)]]), (⟨L + 1, 128⟩, .rows 36 4 true true [[.int .u8 w.st, .int .u8 w.kd, .int .u16 w.sz, .bool w.lo]]), (⟨L + 1, l⟩, .rows 23 4 true true [[.int .i64 ((w.st % (1 + d.o % 16) : Nat) : Int), .int .i64 ((50 + w.kd % 4 : Nat) : Int), .bool w.lo, .str Z]])], 10000 * (z.i + 1)⟩)
    (pre := fun z => z.k ≤ 3) (μ := fun z => 3 - z.k) ⟨0, 0⟩ (by simp) ?_ (key l (by omega) (by omega))
   refine Sub.of (fun n hn => hF2 n (by have : n.l = L + 1 := hn; omega)) (by simp only [go_sem, subT, and_self, Int.natCast_zero]) ?_ (by simp [subK, keys]) (by simp)
   subst hl
   simp [subH, Tx.look]
  by_cases h1 : 1 ≤ po
  ·by_cases h2 : po ≤ 16
   ·by_cases h3 : 1 ≤ pi
    ·have y1 : decide ((1 : Int) ≤ po) = true := dT (by omega)
     have y2 : decide (po ≤ 16) = true := dT (by omega)
     have y3 : decide ((1 : Int) ≤ pi) = true := dT (by omega)
     have y4 : decide (pi ≤ 16) = false := dF (by omega)
     have q5 : ((2 : Int) != 2) = false := rfl
     have hnb := fun F L nx => newBad_ok (F := F) (L := L) (nx := nx) po pi (by omega)
     simp only [strZ] at hnb
     simp only [Tryz.f3, cx, Msg.row, Df.row, Bd.row, Wd.row, go_sem, meths]
     refine CallVC.same works_ok ?_
     simp only [t0, t1, go_sem]
     repeat refine And.intro (by first | omega | exact ⟨by omega, by omega⟩ | exact okS (by kernel_rfl)) ?_
     refine CallVC.same (hnb _ _ _) ?_
     simp only [y1, y2, y3, y4, q5, go_sem]
     repeat refine And.intro (by first | omega | exact ⟨by omega, by omega⟩ | exact okS (by kernel_rfl)) ?_
     refine CallVC.gen (args2 := [.agg [.fs 1 [], .fs 1 [], .fs 8 [], .int .i64 0, .int .i64 0, .fs 1 []], .agg [.fs 1 [], .fs 1 [], .fs 8 [], .int .i64 0, .int .i64 0, .fs 1 []]]) (by simp [WkL, Wk]) (hsz _ _ _) ?_
     simp only [wkNL, wkN, unown, t2, t3, Nat.add_zero, go_sem]
     repeat refine And.intro (by first | omega | exact ⟨by omega, by omega⟩ | exact okS (by kernel_rfl)) ?_
     refine ⟨okDyn_num (fun x => x.i) (by kernel_rfl), ?_⟩
     repeat refine And.intro (by first | omega | exact ⟨by omega, by omega⟩ | exact okS (by kernel_rfl)) ?_
     refine CallVC.same (hms _ _ _) ?_
     simp only [t4, go_sem]
     repeat refine And.intro (by first | omega | exact ⟨by omega, by omega⟩ | exact okS (by kernel_rfl)) ?_
     have hZ1 : ∀ row ∈ List.take (n % 9000) (List.replicate (n % 9000) [PV.int .u8 0]), isByteP row := by
      intro row hr
      have h := List.eq_of_mem_replicate (List.mem_of_mem_take hr)
      rw [h]; exact ⟨0, rfl⟩
     refine ⟨⟨by simp, hZ1⟩, ?_⟩
     refine CallVC.same (hss _ _ _) ?_
     rw [← hZ]
     simp only [go_sem]
     repeat refine And.intro (by first | omega | exact ⟨by omega, by omega⟩ | exact okS (by kernel_rfl)) ?_
     obtain ⟨l, hl⟩ : ∃ l, l = 1952 := ⟨_, rfl⟩
     simp only [← hl]
     have l0 : (l = 0) = False := by apply eq_false; omega
     have l1 : (0 = l) = False := by apply eq_false; omega
     have l2 : (l = 32) = False := by apply eq_false; omega
     have l3 : (32 = l) = False := by apply eq_false; omega
     have l4 : (l = 128) = False := by apply eq_false; omega
     have l5 : (128 = l) = False := by apply eq_false; omega
     refine loopK.intro _ _ (I := fun z : SdX => ⟨[none, none, none, none, none, none, none, none, none, none, some (.ptr ⟨L + 1, 0⟩ 0 0), some (.ptr ⟨L + 1, 32⟩ 0 0), none, none, some (.ptr ⟨L + 1, 128⟩ 0 0), none, some (.bool false), none, none, none, some (.ptr ⟨L + 1, l⟩ 0 0), none, none, none, none, none, none, none, none, none, none, none, none, none, none, none, none, none, none, none, none, none, none, none, none, none, none, none, none, none, none, none, none, none, none, none, none, none, none, none, none, none, none, none, none, none, none, none, none, none, none, none, none, none, none, none, none, none, none, none, none, none, none, none, none, none, none, none, none, none, none, none, none, none, none, none, none, none, none, none, none, none, none, none, none, some (.agg ALL), some (.int .i64 z.k), none, none, none, none, none, none, none, none, none, none, none, none, none, none, none, none, none, none, none, none, none, none, none, none, none, none, none, none, none, none, none, none, none, none, none, none, none, none, none, none, none, none, none, none, none, none, none, none, none, none, none, none, none, none, none, none, none, none, none, none, none, none, none, none, none, none, none, none, none, none, none, none, none, none, none, none, none], [(⟨L + 1, 0⟩, .rows 23 4 true true [[.int .i64 raw.st, .int .i64 raw.pr, .bool raw.lo, .str X]]), (⟨L + 1, 32⟩, .rows 30 7 true true [[.int .u8 d.o, .int .u8 d.i, .int .u32 d.f, .int .u16 d.a, .int .u16 d.b, .fs 4 (d.ws.map Wd.row), .fs 1 (d.ks.map oU)]]), (⟨L + 1, 128⟩, .rows 36 4 true true [[.int .u8 w.st, .int .u8 w.kd, .int .u16 w.sz, .bool w.lo]]), (⟨L + 1, l⟩, .rows 23 4 true true [[.int .i64 ((w.st % (1 + d.o % 16) : Nat) : Int), .int .i64 ((50 + w.kd % 4 : Nat) : Int), .bool w.lo, .str Z]])], 10000 * (z.i + 1)⟩)
      (pre := fun z => z.k ≤ 3) (μ := fun z => 3 - z.k) ⟨0, 0⟩ (by simp) ?_ (key l (by omega) (by omega))
     refine Sub.of (fun n hn => hF2 n (by have : n.l = L + 1 := hn; omega)) (by simp only [go_sem, subT, and_self, Int.natCast_zero]) ?_ (by simp [subK, keys]) (by simp)
     subst hl
     simp [subH, Tx.look]
    ·have y1 : decide ((1 : Int) ≤ po) = true := dT (by omega)
     have y2 : decide (po ≤ 16) = true := dT (by omega)
     have y3 : decide ((1 : Int) ≤ pi) = false := dF (by omega)
     have q5 : ((2 : Int) != 2) = false := rfl
     have hnb := fun F L nx => newBad_ok (F := F) (L := L) (nx := nx) po pi (by omega)
     simp only [strZ] at hnb
     simp only [Tryz.f3, cx, Msg.row, Df.row, Bd.row, Wd.row, go_sem, meths]
     refine CallVC.same works_ok ?_
     simp only [t0, t1, go_sem]
     repeat refine And.intro (by first | omega | exact ⟨by omega, by omega⟩ | exact okS (by kernel_rfl)) ?_
     refine CallVC.same (hnb _ _ _) ?_
     simp only [y1, y2, y3, q5, go_sem]
     repeat refine And.intro (by first | omega | exact ⟨by omega, by omega⟩ | exact okS (by kernel_rfl)) ?_
     refine CallVC.gen (args2 := [.agg [.fs 1 [], .fs 1 [], .fs 8 [], .int .i64 0, .int .i64 0, .fs 1 []], .agg [.fs 1 [], .fs 1 [], .fs 8 [], .int .i64 0, .int .i64 0, .fs 1 []]]) (by simp [WkL, Wk]) (hsz _ _ _) ?_
     simp only [wkNL, wkN, unown, t2, t3, Nat.add_zero, go_sem]
     repeat refine And.intro (by first | omega | exact ⟨by omega, by omega⟩ | exact okS (by kernel_rfl)) ?_
     refine ⟨okDyn_num (fun x => x.i) (by kernel_rfl), ?_⟩
     repeat refine And.intro (by first | omega | exact ⟨by omega, by omega⟩ | exact okS (by kernel_rfl)) ?_
     refine CallVC.same (hms _ _ _) ?_
     simp only [t4, go_sem]
     repeat refine And.intro (by first | omega | exact ⟨by omega, by omega⟩ | exact okS (by kernel_rfl)) ?_
     have hZ1 : ∀ row ∈ List.take (n % 9000) (List.replicate (n % 9000) [PV.int .u8 0]), isByteP row := by
      intro row hr
      have h := List.eq_of_mem_replicate (List.mem_of_mem_take hr)
      rw [h]; exact ⟨0, rfl⟩
     refine ⟨⟨by simp, hZ1⟩, ?_⟩
     refine CallVC.same (hss _ _ _) ?_
     rw [← hZ]
     simp only [go_sem]
     repeat refine And.intro (by first | omega | exact ⟨by omega, by omega⟩ | exact okS (by kernel_rfl)) ?_
     obtain ⟨l, hl⟩ : ∃ l, l = 1888 := ⟨_, rfl⟩
     simp only [← hl]
     have l0 : (l = 0) = False := by apply eq_false; omega
     have l1 : (0 = l) = False := by apply eq_false; omega
     have l2 : (l = 32) = False := by apply eq_false; omega
     have l3 : (32 = l) = False := by apply eq_false; omega
     have l4 : (l = 128) = False := by apply eq_false; omega
     have l5 : (128 = l) = False := by apply eq_false; omega
     refine loopK.intro _ _ (I := fun z : SdX => ⟨[none, none, none, none, none, none, none, none, none, none, some (.ptr ⟨L + 1, 0⟩ 0 0), some (.ptr ⟨L + 1, 32⟩ 0 0), none, none, some (.ptr ⟨L + 1, 128⟩ 0 0), none, some (.bool false), none, none, none, some (.ptr ⟨L + 1, l⟩ 0 0), none, none, none, none, none, none, none, none, none, none, none, none, none, none, none, none, none, none, none, none, none, none, none, none, none, none, none, none, none, none, none, none, none, none, none, none, none, none, none, none, none, none, none, none, none, none, none, none, none, none, none, none, none, none, none, none, none, none, none, none, none, none, none, none, none, none, none, none, none, none, none, none, none, none, none, none, none, none, none, none, none, none, none, none, some (.agg ALL), some (.int .i64 z.k), none, none, none, none, none, none, none, none, none, none, none, none, none, none, none, none, none, none, none, none, none, none, none, none, none, none, none, none, none, none, none, none, none, none, none, none, none, none, none, none, none, none, none, none, none, none, none, none, none, none, none, none, none, none, none, none, none, none, none, none, none, none, none, none, none, none, none, none, none, none, none, none, none, none, none, none, none], [(⟨L + 1, 0⟩, .rows 23 4 true true [[.int .i64 raw.st, .int .i64 raw.pr, .bool raw.lo, .str X]]), (⟨L + 1, 32⟩, .rows 30 7 true true [[.int .u8 d.o, .int .u8 d.i, .int .u32 d.f, .int .u16 d.a, .int .u16 d.b, .fs 4 (d.ws.map Wd.row), .fs 1 (d.ks.map oU)]]), (⟨L + 1, 128⟩, .rows 36 4 true true [[.int .u8 w.st, .int .u8 w.kd, .int .u16 w.sz, .bool w.lo]]), (⟨L + 1, l⟩, .rows 23 4 true true [[.int .i64 ((w.st % (1 + d.o % 16) : Nat) : Int), .int .i64 ((50 + w.kd % 4 : Nat) : Int), .bool w.lo, .str Z]])], 10000 * (z.i + 1)⟩)
      (pre := fun z => z.k ≤ 3) (μ := fun z => 3 - z.k) ⟨0, 0⟩ (by simp) ?_ (key l (by omega) (by omega))
     refine Sub.of (fun n hn => hF2 n (by have : n.l = L + 1 := hn; omega)) (by simp only [go_sem, subT, and_self, Int.natCast_zero]) ?_ (by simp [subK, keys]) (by simp)
     subst hl
     simp [subH, Tx.look]
   ·have y1 : decide ((1 : Int) ≤ po) = true := dT (by omega)
    have y2 : decide (po ≤ 16) = false := dF (by omega)
    have q5 : ((2 : Int) != 2) = false := rfl
    have hnb := fun F L nx => newBad_ok (F := F) (L := L) (nx := nx) po pi (by omega)
    simp only [strZ] at hnb
    simp only [Tryz.f3, cx, Msg.row, Df.row, Bd.row, Wd.row, go_sem, meths]
    refine CallVC.same works_ok ?_
    simp only [t0, t1, go_sem]
    repeat refine And.intro (by first | omega | exact ⟨by omega, by omega⟩ | exact okS (by kernel_rfl)) ?_
    refine CallVC.same (hnb _ _ _) ?_
    simp only [y1, y2, q5, go_sem]
    repeat refine And.intro (by first | omega | exact ⟨by omega, by omega⟩ | exact okS (by kernel_rfl)) ?_
    refine CallVC.gen (args2 := [.agg [.fs 1 [], .fs 1 [], .fs 8 [], .int .i64 0, .int .i64 0, .fs 1 []], .agg [.fs 1 [], .fs 1 [], .fs 8 [], .int .i64 0, .int .i64 0, .fs 1 []]]) (by simp [WkL, Wk]) (hsz _ _ _) ?_
    simp only [wkNL, wkN, unown, t2, t3, Nat.add_zero, go_sem]
    repeat refine And.intro (by first | omega | exact ⟨by omega, by omega⟩ | exact okS (by kernel_rfl)) ?_
    refine ⟨okDyn_num (fun x => x.i) (by kernel_rfl), ?_⟩
    repeat refine And.intro (by first | omega | exact ⟨by omega, by omega⟩ | exact okS (by kernel_rfl)) ?_
    refine CallVC.same (hms _ _ _) ?_
    simp only [t4, go_sem]
    repeat refine And.intro (by first | omega | exact ⟨by omega, by omega⟩ | exact okS (by kernel_rfl)) ?_
    have hZ1 : ∀ row ∈ List.take (n % 9000) (List.replicate (n % 9000) [PV.int .u8 0]), isByteP row := by
     intro row hr
     have h := List.eq_of_mem_replicate (List.mem_of_mem_take hr)
     rw [h]; exact ⟨0, rfl⟩
    refine ⟨⟨by simp, hZ1⟩, ?_⟩
    refine CallVC.same (hss _ _ _) ?_
    rw [← hZ]
    simp only [go_sem]
    repeat refine And.intro (by first | omega | exact ⟨by omega, by omega⟩ | exact okS (by kernel_rfl)) ?_
    obtain ⟨l, hl⟩ : ∃ l, l = 1824 := ⟨_, rfl⟩
    simp only [← hl]
    have l0 : (l = 0) = False := by apply eq_false; omega
    have l1 : (0 = l) = False := by apply eq_false; omega
    have l2 : (l = 32) = False := by apply eq_false; omega
    have l3 : (32 = l) = False := by apply eq_false; omega
    have l4 : (l = 128) = False := by apply eq_false; omega
    have l5 : (128 = l) = False := by apply eq_false; omega
    refine loopK.intro _ _ (I := fun z : SdX => ⟨[none, none, none, none, none, none, none, none, none, none, some (.ptr ⟨L + 1, 0⟩ 0 0), some (.ptr ⟨L + 1, 32⟩ 0 0), none, none, some (.ptr ⟨L + 1, 128⟩ 0 0), none, some (.bool false), none, none, none, some (.ptr ⟨L + 1, l⟩ 0 0), none, none, none, none, none, none, none, none, none, none, none, none, none, none, none, none, none, none, none, none, none, none, none, none, none, none, none, none, none, none, none, none, none, none, none, none, none, none, none, none, none, none, none, none, none, none, none, none, none, none, none, none, none, none, none, none, none, none, none, none, none, none, none, none, none, none, none, none, none, none, none, none, none, none, none, none, none, none, none, none, none, none, none, none, some (.agg ALL), some (.int .i64 z.k), none, none, none, none, none, none, none, none, none, none, none, none, none, none, none, none, none, none, none, none, none, none, none, none, none, none, none, none, none, none, none, none, none, none, none, none, none, none, none, none, none, none, none, none, none, none, none, none, none, none, none, none, none, none, none, none, none, none, none, none, none, none, none, none, none, none, none, none, none, none, none, none, none, none, none, none, none], [(⟨L + 1, 0⟩, .rows 23 4 true true [[.int .i64 raw.st, .int .i64 raw.pr, .bool raw.lo, .str X]]), (⟨L + 1, 32⟩, .rows 30 7 true true [[.int .u8 d.o, .int .u8 d.i, .int .u32 d.f, .int .u16 d.a, .int .u16 d.b, .fs 4 (d.ws.map Wd.row), .fs 1 (d.ks.map oU)]]), (⟨L + 1, 128⟩, .rows 36 4 true true [[.int .u8 w.st, .int .u8 w.kd, .int .u16 w.sz, .bool w.lo]]), (⟨L + 1, l⟩, .rows 23 4 true true [[.int .i64 ((w.st % (1 + d.o % 16) : Nat) : Int), .int .i64 ((50 + w.kd % 4 : Nat) : Int), .bool w.lo, .str Z]])], 10000 * (z.i + 1)⟩)
     (pre := fun z => z.k ≤ 3) (μ := fun z => 3 - z.k) ⟨0, 0⟩ (by simp) ?_ (key l (by omega) (by omega))
    refine Sub.of (fun n hn => hF2 n (by have : n.l = L + 1 := hn; omega)) (by simp only [go_sem, subT, and_self, Int.natCast_zero]) ?_ (by simp [subK, keys]) (by simp)
    subst hl
    simp [subH, Tx.look]
  ·have y1 : decide ((1 : Int) ≤ po) = false := dF (by omega)
   have q5 : ((2 : Int) != 2) = false := rfl
   have hnb := fun F L nx => newBad_ok (F := F) (L := L) (nx := nx) po pi (by omega)
   simp only [strZ] at hnb
   simp only [Tryz.f3, cx, Msg.row, Df.row, Bd.row, Wd.row, go_sem, meths]
   refine CallVC.same works_ok ?_
   simp only [t0, t1, go_sem]
   repeat refine And.intro (by first | omega | exact ⟨by omega, by omega⟩ | exact okS (by kernel_rfl)) ?_
   refine CallVC.same (hnb _ _ _) ?_
   simp only [y1, q5, go_sem]
   repeat refine And.intro (by first | omega | exact ⟨by omega, by omega⟩ | exact okS (by kernel_rfl)) ?_
   refine CallVC.gen (args2 := [.agg [.fs 1 [], .fs 1 [], .fs 8 [], .int .i64 0, .int .i64 0, .fs 1 []], .agg [.fs 1 [], .fs 1 [], .fs 8 [], .int .i64 0, .int .i64 0, .fs 1 []]]) (by simp [WkL, Wk]) (hsz _ _ _) ?_
   simp only [wkNL, wkN, unown, t2, t3, Nat.add_zero, go_sem]
   repeat refine And.intro (by first | omega | exact ⟨by omega, by omega⟩ | exact okS (by kernel_rfl)) ?_
   refine ⟨okDyn_num (fun x => x.i) (by kernel_rfl), ?_⟩
   repeat refine And.intro (by first | omega | exact ⟨by omega, by omega⟩ | exact okS (by kernel_rfl)) ?_
   refine CallVC.same (hms _ _ _) ?_
   simp only [t4, go_sem]
   repeat refine And.intro (by first | omega | exact ⟨by omega, by omega⟩ | exact okS (by kernel_rfl)) ?_
   have hZ1 : ∀ row ∈ List.take (n % 9000) (List.replicate (n % 9000) [PV.int .u8 0]), isByteP row := by
    intro row hr
    have h := List.eq_of_mem_replicate (List.mem_of_mem_take hr)
    rw [h]; exact ⟨0, rfl⟩
   refine ⟨⟨by simp, hZ1⟩, ?_⟩
   refine CallVC.same (hss _ _ _) ?_
   rw [← hZ]
   simp only [go_sem]
   repeat refine And.intro (by first | omega | exact ⟨by omega, by omega⟩ | exact okS (by kernel_rfl)) ?_
   obtain ⟨l, hl⟩ : ∃ l, l = 1760 := ⟨_, rfl⟩
   simp only [← hl]
   have l0 : (l = 0) = False := by apply eq_false; omega
   have l1 : (0 = l) = False := by apply eq_false; omega
   have l2 : (l = 32) = False := by apply eq_false; omega
   have l3 : (32 = l) = False := by apply eq_false; omega
   have l4 : (l = 128) = False := by apply eq_false; omega
   have l5 : (128 = l) = False := by apply eq_false; omega
   refine loopK.intro _ _ (I := fun z : SdX => ⟨[none, none, none, none, none, none, none, none, none, none, some (.ptr ⟨L + 1, 0⟩ 0 0), some (.ptr ⟨L + 1, 32⟩ 0 0), none, none, some (.ptr ⟨L + 1, 128⟩ 0 0), none, some (.bool false), none, none, none, some (.ptr ⟨L + 1, l⟩ 0 0), none, none, none, none, none, none, none, none, none, none, none, none, none, none, none, none, none, none, none, none, none, none, none, none, none, none, none, none, none, none, none, none, none, none, none, none, none, none, none, none, none, none, none, none, none, none, none, none, none, none, none, none, none, none, none, none, none, none, none, none, none, none, none, none, none, none, none, none, none, none, none, none, none, none, none, none, none, none, none, none, none, none, none, none, some (.agg ALL), some (.int .i64 z.k), none, none, none, none, none, none, none, none, none, none, none, none, none, none, none, none, none, none, none, none, none, none, none, none, none, none, none, none, none, none, none, none, none, none, none, none, none, none, none, none, none, none, none, none, none, none, none, none, none, none, none, none, none, none, none, none, none, none, none, none, none, none, none, none, none, none, none, none, none, none, none, none, none, none, none, none, none], [(⟨L + 1, 0⟩, .rows 23 4 true true [[.int .i64 raw.st, .int .i64 raw.pr, .bool raw.lo, .str X]]), (⟨L + 1, 32⟩, .rows 30 7 true true [[.int .u8 d.o, .int .u8 d.i, .int .u32 d.f, .int .u16 d.a, .int .u16 d.b, .fs 4 (d.ws.map Wd.row), .fs 1 (d.ks.map oU)]]), (⟨L + 1, 128⟩, .rows 36 4 true true [[.int .u8 w.st, .int .u8 w.kd, .int .u16 w.sz, .bool w.lo]]), (⟨L + 1, l⟩, .rows 23 4 true true [[.int .i64 ((w.st % (1 + d.o % 16) : Nat) : Int), .int .i64 ((50 + w.kd % 4 : Nat) : Int), .bool w.lo, .str Z]])], 10000 * (z.i + 1)⟩)
    (pre := fun z => z.k ≤ 3) (μ := fun z => 3 - z.k) ⟨0, 0⟩ (by simp) ?_ (key l (by omega) (by omega))
   refine Sub.of (fun n hn => hF2 n (by have : n.l = L + 1 := hn; omega)) (by simp only [go_sem, subT, and_self, Int.natCast_zero]) ?_ (by simp [subK, keys]) (by simp)
   subst hl
   simp [subH, Tx.look]
 ·intro l hl1 hl2
  rintro ⟨k, i⟩ g0
  simp only at g0 ⊢
  have l_0 : (l = 0) = False := by apply eq_false; omega
  have n0_l : (0 = l) = False := by apply eq_false; omega
  have l_32 : (l = 32) = False := by apply eq_false; omega
  have n32_l : (32 = l) = False := by apply eq_false; omega
  have l_128 : (l = 128) = False := by apply eq_false; omega
  have n128_l : (128 = l) = False := by apply eq_false; omega
  have l_n1 : ∀ kk, (10000 * (i + 1) + kk = l) = False := fun kk => by apply eq_false; omega
  have l_n2 : ∀ kk, (l = 10000 * (i + 1) + kk) = False := fun kk => by apply eq_false; omega
  have l_n3 : (10000 * (i + 1) = l) = False := by apply eq_false; omega
  have l_n4 : (l = 10000 * (i + 1)) = False := by apply eq_false; omega
  have l_n5 : ∀ kk, ((⟨L + 1, l⟩ : Nm) == ⟨L + 1, 10000 * (i + 1) + kk⟩) = false := fun kk => by simp; omega
  by_cases hk : k < 3
  ·have f1 : decide ((k : Int) < 3) = true := dT (by omega)
   have hA := stA_at d b c hk
   have hle := stG_le hd b c k
   rw [← hALL] at hA
   obtain ⟨S, hS⟩ : ∃ x, x = stG d b c k := ⟨_, rfl⟩
   rw [← hS] at hA hle
   obtain ⟨l1, l2, l3, l4⟩ := hle
   simp only [StX.cells] at hA
   have hri := fun F L nx => right_ok (F := F) (L := L) (nx := nx) S.out S.inn S.asked S.num S.seen S.ps (by omega) (by omega) (by omega) (by omega)
   have hck := fun F L nx => check_all (F := F) (L := L) (nx := nx) S.out S.inn S.asked S.num S.seen S.ps (by omega) (by omega) (by omega) (by omega)
   simp only [strV] at hri hck
   have q1 : ((0 : Int) == 0) = true := rfl
   have q2 : ((350 : Int) == 0) = false := rfl
   have q3 : ((350 : Int) != 350) = false := rfl
   have q4 : ((350 : Int) != 350) = false := rfl
   have q5 : ((2 : Int) != 2) = false := rfl
   have q6 : ((8 : Int) != 8) = false := rfl
   have q7 : ((0 : Int) != 0) = false := rfl
   simp only [f1, hA, Int.toNat_natCast, l_n1, nB, Nat.add_assoc, go_sem]
   repeat refine And.intro (by first | omega | exact ⟨by omega, by omega⟩ | exact okS (by kernel_rfl)) ?_
   refine CallVC.same (hri _ _ _) ?_
   simp only [l_n1, nB, Nat.add_assoc, go_sem]
   repeat refine And.intro (by first | omega | exact ⟨by omega, by omega⟩ | exact okS (by kernel_rfl)) ?_
   refine CallVC.same (hck _ _ _) ?_
   cases hR : chkB S.out S.inn S.num S.seen S.asked S.ps with
   | false =>
    simp only [q2, Bool.false_eq_true, l_n1, nB, Nat.add_assoc, go_sem]
    repeat refine And.intro (by first | omega | exact ⟨by omega, by omega⟩ | exact okS (by kernel_rfl)) ?_
    simp only [hR, Bool.false_eq_true, if_false] at hck
    refine CallVC.same (hck _ _ _) ?_
    simp only [q3, t2, t3, n0_l, n32_l, n128_l, nB, Nat.add_assoc, Nat.add_zero, go_sem]
    repeat refine And.intro (by first | omega | exact ⟨by omega, by omega⟩ | exact okS (by kernel_rfl)) ?_
    refine CallVC.same (hms _ _ _) ?_
    simp only [l_0, l_32, l_128, l_n2, Nat.add_assoc, go_sem]
    repeat refine And.intro (by first | omega | exact ⟨by omega, by omega⟩ | exact okS (by kernel_rfl)) ?_
    refine ⟨okDyn_num (fun x => if x.i = l then 1 else x.i % 10000 + 100) (by simp only [numF, List.map, n0_l, n32_l, n128_l, eq_self, if_true, if_false, Nat.reduceMod, Nat.reduceAdd]; kernel_rfl), ?_⟩
    repeat refine And.intro (by first | omega | exact ⟨by omega, by omega⟩ | exact okS (by kernel_rfl)) ?_
    obtain ⟨MS, hMS⟩ : ∃ x : List PV, x = [.int .i64 raw.st, .int .i64 raw.pr, .bool raw.lo, .str X] ++ ([.int .i64 ((w.st % (1 + d.o % 16) : Nat) : Int), .int .i64 ((50 + w.kd % 4 : Nat) : Int), .bool w.lo, .str (msgText w.sz)] ++ [.int .i64 ((w.st % (1 + d.o % 16) : Nat) : Int), .int .i64 ((50 + w.kd % 4 : Nat) : Int), .bool w.lo, .str Z]) := ⟨_, rfl⟩
    have hM : ∀ j, j < 3 → ∃ m : Msg, m.tx.length ≤ 9000 ∧ (MS.drop (j * 4)).take 4 = [.int .i64 m.st, .int .i64 m.pr, .bool m.lo, .str m.tx] := by
     intro j hj
     rcases (show j = 0 ∨ j = 1 ∨ j = 2 by omega) with rfl | rfl | rfl
     ·exact ⟨⟨raw.st, raw.pr, raw.lo, X⟩, hXl, by rw [hMS]; rfl⟩
     ·exact ⟨⟨((w.st % (1 + d.o % 16) : Nat) : Int), ((50 + w.kd % 4 : Nat) : Int), w.lo, msgText w.sz⟩, Nat.le_trans (msgText_len w.sz).2 (by omega), by rw [hMS]; rfl⟩
     ·exact ⟨⟨((w.st % (1 + d.o % 16) : Nat) : Int), ((50 + w.kd % 4 : Nat) : Int), w.lo, Z⟩, hZl, by rw [hMS]; rfl⟩
    obtain ⟨a, ha⟩ : ∃ a, a = 10000 * (i + 1) + 64 := ⟨_, rfl⟩
    have haq : l < a := by omega
    have hl5 : l < 9000 := hl2
    simp only [← ha]
    refine loopK.intro _ _ (I := fun z : SdY => ⟨[none, none, none, none, none, none, none, none, none, none, some (.ptr ⟨L + 1, 0⟩ 0 0), some (.ptr ⟨L + 1, 32⟩ 0 0), none, none, some (.ptr ⟨L + 1, 128⟩ 0 0), none, some (.bool false), none, none, none, some (.ptr ⟨L + 1, l⟩ 0 0), none, some (.ptr ⟨L + 1, a⟩ 0 0), some (.bool false), none, none, none, none, none, none, none, none, none, none, none, none, none, none, none, none, none, none, none, none, none, none, none, none, none, none, none, none, none, none, none, none, none, none, none, none, none, none, none, none, none, none, none, none, none, none, none, none, none, none, none, none, none, none, none, none, none, none, none, none, none, none, none, none, none, none, none, none, none, none, none, none, none, none, none, none, none, none, none, none, none, some (.agg ALL), some (.int .i64 k), none, none, none, none, none, none, none, none, none, none, none, none, none, none, none, none, none, none, none, none, none, none, none, none, none, none, none, some (.agg MS), some (.int .i64 z.j), none, none, none, none, none, none, none, none, none, none, none, none, none, none, none, none, none, none, none, none, none, none, none, none, none, none, none, none, none, none, none, none, none, none, none, none, none, none, none, none, none, none, none, none, none, none, none, none],
     [(⟨L + 1, 0⟩, .rows 23 4 true true [[.int .i64 raw.st, .int .i64 raw.pr, .bool raw.lo, .str X]]), (⟨L + 1, 32⟩, .rows 30 7 true true [[.int .u8 d.o, .int .u8 d.i, .int .u32 d.f, .int .u16 d.a, .int .u16 d.b, .fs 4 (d.ws.map Wd.row), .fs 1 (d.ks.map oU)]]), (⟨L + 1, 128⟩, .rows 36 4 true true [[.int .u8 w.st, .int .u8 w.kd, .int .u16 w.sz, .bool w.lo]]), (⟨L + 1, l⟩, .rows 23 4 true true [[.int .i64 ((w.st % (1 + d.o % 16) : Nat) : Int), .int .i64 ((50 + w.kd % 4 : Nat) : Int), .bool w.lo, .str Z]]), (⟨L + 1, a⟩, .rows 41 6 true true [[.fs 1 (S.out.map eI), .fs 1 (S.inn.map eI), .fs 8 (S.ps.map Dat.row), .int .i64 S.num, .int .i64 S.seen, .fs 1 (S.asked.map eI)]])], 10000 * (z.i + 1)⟩)
     (pre := fun z => z.j ≤ 3 ∧ a < 10000 * (z.i + 1)) (μ := fun z => 3 - z.j) ⟨0, i + 1⟩ ⟨by simp, by simp only []; omega⟩ ?_ ?_
    ·have e0a : (a = 0) = False := by apply eq_false; omega
     have e0b : (0 = a) = False := by apply eq_false; omega
     have e32a : (a = 32) = False := by apply eq_false; omega
     have e32b : (32 = a) = False := by apply eq_false; omega
     have e128a : (a = 128) = False := by apply eq_false; omega
     have e128b : (128 = a) = False := by apply eq_false; omega
     have ela : (a = l) = False := by apply eq_false; omega
     have elb : (l = a) = False := by apply eq_false; omega
     refine Sub.of (fun n hn => hF2 n (by have : n.l = L + 1 := hn; omega)) (by simp only [hMS, List.cons_append, List.nil_append, go_sem, subT, and_self, Int.natCast_zero]) ?_ (by simp [subK, keys]) (by simp only []; omega)
     simp [subH, Tx.look, l_0, l_32, l_128, e0a, e32a, e128a, ela]
    ·clear l_0 n0_l l_32 n32_l l_128 n128_l l_n1 l_n2 l_n3 l_n4 l_n5 ha i
     rintro ⟨j, i⟩ ⟨g1, g2⟩
     simp only at g1 g2 ⊢
     have a_0 : (a = 0) = False := by apply eq_false; omega
     have n0_a : (0 = a) = False := by apply eq_false; omega
     have a_32 : (a = 32) = False := by apply eq_false; omega
     have n32_a : (32 = a) = False := by apply eq_false; omega
     have a_128 : (a = 128) = False := by apply eq_false; omega
     have n128_a : (128 = a) = False := by apply eq_false; omega
     have a_l : (a = l) = False := by apply eq_false; omega
     have nl_a : (l = a) = False := by apply eq_false; omega
     have a_n1 : ∀ kk, (10000 * (i + 1) + kk = a) = False := fun kk => by apply eq_false; omega
     have a_n2 : ∀ kk, (a = 10000 * (i + 1) + kk) = False := fun kk => by apply eq_false; omega
     have a_n3 : (10000 * (i + 1) = a) = False := by apply eq_false; omega
     have a_n4 : (a = 10000 * (i + 1)) = False := by apply eq_false; omega
     have a_n5 : ∀ kk, ((⟨L + 1, a⟩ : Nm) == ⟨L + 1, 10000 * (i + 1) + kk⟩) = false := fun kk => by simp; omega
     have l_0 : (l = 0) = False := by apply eq_false; omega
     have n0_l : (0 = l) = False := by apply eq_false; omega
     have l_32 : (l = 32) = False := by apply eq_false; omega
     have n32_l : (32 = l) = False := by apply eq_false; omega
     have l_128 : (l = 128) = False := by apply eq_false; omega
     have n128_l : (128 = l) = False := by apply eq_false; omega
     have l_n1 : ∀ kk, (10000 * (i + 1) + kk = l) = False := fun kk => by apply eq_false; omega
     have l_n2 : ∀ kk, (l = 10000 * (i + 1) + kk) = False := fun kk => by apply eq_false; omega
     have l_n3 : (10000 * (i + 1) = l) = False := by apply eq_false; omega
     have l_n4 : (l = 10000 * (i + 1)) = False := by apply eq_false; omega
     have l_n5 : ∀ kk, ((⟨L + 1, l⟩ : Nm) == ⟨L + 1, 10000 * (i + 1) + kk⟩) = false := fun kk => by simp; omega
     by_cases hj : j < 3
     ·have f2 : decide ((j : Int) < 3) = true := dT (by omega)
      obtain ⟨m, hm1, hm2⟩ := hM j hj
      have hsd := fun F L nx => sendAll_ok (F := F) (L := L) (nx := nx) S.out S.inn S.asked S.num S.seen S.ps (by omega) (by omega) (by omega) (by omega) m
      simp only [strV, Msg.row] at hsd
      simp only [f2, hm2, Int.toNat_natCast, a_0, a_32, a_128, a_l, a_n1, a_n2, l_n1, nB, Nat.add_assoc, go_sem]
      repeat refine And.intro (by first | omega | exact ⟨by omega, by omega⟩ | exact okS (by kernel_rfl)) ?_
      refine CallVC.same (hsd _ _ _) ?_
      have hv : sendV S.out S.inn S.num S.seen S.asked S.ps m = .tup [strZ, .nilS, .int .i64 350] := by simp [sendV, sendE, hR]
      rw [hv]
      simp only [strZ, q4, a_n1, l_n1, nS2, nS2', Nat.add_assoc, go_sem]
      repeat refine And.intro (by first | omega | exact ⟨by omega, by omega⟩ | exact okS (by kernel_rfl)) ?_
      refine CallVC.gen (args2 := [.agg [.fs 1 [], .fs 1 [], .fs 8 [], .int .i64 0, .int .i64 0, .fs 1 []], .agg [.fs 1 [], .fs 1 [], .fs 8 [], .int .i64 0, .int .i64 0, .fs 1 []]]) (by simp [WkL, Wk]) (hsz _ _ _) ?_
      simp only [wkNL, wkN, unown, Nat.add_assoc, go_sem]
      repeat refine And.intro (by first | omega | exact ⟨by omega, by omega⟩ | exact okS (by kernel_rfl)) ?_
      refine CallVC.gen (args2 := [.fs 8 [], .fs 8 []]) (by simp [WkL, Wk]) (hdz _ _ _) ?_
      simp only [wkNL, wkN, unown, Nat.add_assoc, go_sem]
      repeat refine And.intro (by first | omega | exact ⟨by omega, by omega⟩ | exact okS (by kernel_rfl)) ?_
      refine ⟨⟨j + 1, i + 1⟩, ⟨by simp only []; omega, by simp only []; omega⟩, by simp only []; omega, ?_⟩
      refine Sub.of (fun n hn => hF2 n (by have : n.l = L + 1 := hn; omega)) (by simp only [go_sem, subT, and_self, Int.natCast_succ]) ?_ (by simp [subK, keys]) (by simp only []; omega)
      simp [subH, Tx.look, a_0, a_32, a_128, a_l, l_0, l_32, l_128]
     ·have f2 : decide ((j : Int) < 3) = false := dF (by omega)
      simp only [f2, Nat.add_assoc, go_sem]
      repeat refine And.intro (by first | omega | exact ⟨by omega, by omega⟩ | exact okS (by kernel_rfl)) ?_
      refine ⟨⟨k + 1, i + 1⟩, by simp only []; omega, by simp only []; omega, ?_⟩
      refine Sub.of (fun n hn => hF2 n (by have : n.l = L + 1 := hn; omega)) (by simp only [go_sem, subT, and_self, Int.natCast_succ]) ?_ (by simp [subK, keys]) (by simp only []; omega)
      simp [subH, Tx.look, l_0, l_32, l_128]
   | true =>
    simp only [q1, t2, t3, n0_l, n32_l, n128_l, nB, Nat.add_assoc, Nat.add_zero, go_sem]
    repeat refine And.intro (by first | omega | exact ⟨by omega, by omega⟩ | exact okS (by kernel_rfl)) ?_
    refine CallVC.same (hms _ _ _) ?_
    simp only [l_0, l_32, l_128, l_n2, Nat.add_assoc, go_sem]
    repeat refine And.intro (by first | omega | exact ⟨by omega, by omega⟩ | exact okS (by kernel_rfl)) ?_
    refine ⟨okDyn_num (fun x => if x.i = l then 1 else x.i % 10000 + 100) (by simp only [numF, List.map, n0_l, n32_l, n128_l, eq_self, if_true, if_false, Nat.reduceMod, Nat.reduceAdd]; kernel_rfl), ?_⟩
    repeat refine And.intro (by first | omega | exact ⟨by omega, by omega⟩ | exact okS (by kernel_rfl)) ?_
    obtain ⟨MS, hMS⟩ : ∃ x : List PV, x = [.int .i64 raw.st, .int .i64 raw.pr, .bool raw.lo, .str X] ++ ([.int .i64 ((w.st % (1 + d.o % 16) : Nat) : Int), .int .i64 ((50 + w.kd % 4 : Nat) : Int), .bool w.lo, .str (msgText w.sz)] ++ [.int .i64 ((w.st % (1 + d.o % 16) : Nat) : Int), .int .i64 ((50 + w.kd % 4 : Nat) : Int), .bool w.lo, .str Z]) := ⟨_, rfl⟩
    have hM : ∀ j, j < 3 → ∃ m : Msg, m.tx.length ≤ 9000 ∧ (MS.drop (j * 4)).take 4 = [.int .i64 m.st, .int .i64 m.pr, .bool m.lo, .str m.tx] := by
     intro j hj
     rcases (show j = 0 ∨ j = 1 ∨ j = 2 by omega) with rfl | rfl | rfl
     ·exact ⟨⟨raw.st, raw.pr, raw.lo, X⟩, hXl, by rw [hMS]; rfl⟩
     ·exact ⟨⟨((w.st % (1 + d.o % 16) : Nat) : Int), ((50 + w.kd % 4 : Nat) : Int), w.lo, msgText w.sz⟩, Nat.le_trans (msgText_len w.sz).2 (by omega), by rw [hMS]; rfl⟩
     ·exact ⟨⟨((w.st % (1 + d.o % 16) : Nat) : Int), ((50 + w.kd % 4 : Nat) : Int), w.lo, Z⟩, hZl, by rw [hMS]; rfl⟩
    obtain ⟨a, ha⟩ : ∃ a, a = 10000 * (i + 1) + 64 := ⟨_, rfl⟩
    have haq : l < a := by omega
    have hl5 : l < 9000 := hl2
    simp only [← ha]
    refine loopK.intro _ _ (I := fun z : SdY => ⟨[none, none, none, none, none, none, none, none, none, none, some (.ptr ⟨L + 1, 0⟩ 0 0), some (.ptr ⟨L + 1, 32⟩ 0 0), none, none, some (.ptr ⟨L + 1, 128⟩ 0 0), none, some (.bool false), none, none, none, some (.ptr ⟨L + 1, l⟩ 0 0), none, some (.ptr ⟨L + 1, a⟩ 0 0), some (.bool true), none, none, none, none, none, none, none, none, none, none, none, none, none, none, none, none, none, none, none, none, none, none, none, none, none, none, none, none, none, none, none, none, none, none, none, none, none, none, none, none, none, none, none, none, none, none, none, none, none, none, none, none, none, none, none, none, none, none, none, none, none, none, none, none, none, none, none, none, none, none, none, none, none, none, none, none, none, none, none, none, none, some (.agg ALL), some (.int .i64 k), none, none, none, none, none, none, none, none, none, none, none, none, none, none, none, none, none, none, none, none, none, none, none, none, none, none, none, some (.agg MS), some (.int .i64 z.j), none, none, none, none, none, none, none, none, none, none, none, none, none, none, none, none, none, none, none, none, none, none, none, none, none, none, none, none, none, none, none, none, none, none, none, none, none, none, none, none, none, none, none, none, none, none, none, none],
     [(⟨L + 1, 0⟩, .rows 23 4 true true [[.int .i64 raw.st, .int .i64 raw.pr, .bool raw.lo, .str X]]), (⟨L + 1, 32⟩, .rows 30 7 true true [[.int .u8 d.o, .int .u8 d.i, .int .u32 d.f, .int .u16 d.a, .int .u16 d.b, .fs 4 (d.ws.map Wd.row), .fs 1 (d.ks.map oU)]]), (⟨L + 1, 128⟩, .rows 36 4 true true [[.int .u8 w.st, .int .u8 w.kd, .int .u16 w.sz, .bool w.lo]]), (⟨L + 1, l⟩, .rows 23 4 true true [[.int .i64 ((w.st % (1 + d.o % 16) : Nat) : Int), .int .i64 ((50 + w.kd % 4 : Nat) : Int), .bool w.lo, .str Z]]), (⟨L + 1, a⟩, .rows 41 6 true true [[.fs 1 (S.out.map eI), .fs 1 (S.inn.map eI), .fs 8 (S.ps.map Dat.row), .int .i64 S.num, .int .i64 S.seen, .fs 1 (S.asked.map eI)]])], 10000 * (z.i + 1)⟩)
     (pre := fun z => z.j ≤ 3 ∧ a < 10000 * (z.i + 1)) (μ := fun z => 3 - z.j) ⟨0, i + 1⟩ ⟨by simp, by simp only []; omega⟩ ?_ ?_
    ·have e0a : (a = 0) = False := by apply eq_false; omega
     have e0b : (0 = a) = False := by apply eq_false; omega
     have e32a : (a = 32) = False := by apply eq_false; omega
     have e32b : (32 = a) = False := by apply eq_false; omega
     have e128a : (a = 128) = False := by apply eq_false; omega
     have e128b : (128 = a) = False := by apply eq_false; omega
     have ela : (a = l) = False := by apply eq_false; omega
     have elb : (l = a) = False := by apply eq_false; omega
     refine Sub.of (fun n hn => hF2 n (by have : n.l = L + 1 := hn; omega)) (by simp only [hMS, List.cons_append, List.nil_append, go_sem, subT, and_self, Int.natCast_zero]) ?_ (by simp [subK, keys]) (by simp only []; omega)
     simp [subH, Tx.look, l_0, l_32, l_128, e0a, e32a, e128a, ela]
    ·clear l_0 n0_l l_32 n32_l l_128 n128_l l_n1 l_n2 l_n3 l_n4 l_n5 ha i
     rintro ⟨j, i⟩ ⟨g1, g2⟩
     simp only at g1 g2 ⊢
     have a_0 : (a = 0) = False := by apply eq_false; omega
     have n0_a : (0 = a) = False := by apply eq_false; omega
     have a_32 : (a = 32) = False := by apply eq_false; omega
     have n32_a : (32 = a) = False := by apply eq_false; omega
     have a_128 : (a = 128) = False := by apply eq_false; omega
     have n128_a : (128 = a) = False := by apply eq_false; omega
     have a_l : (a = l) = False := by apply eq_false; omega
     have nl_a : (l = a) = False := by apply eq_false; omega
     have a_n1 : ∀ kk, (10000 * (i + 1) + kk = a) = False := fun kk => by apply eq_false; omega
     have a_n2 : ∀ kk, (a = 10000 * (i + 1) + kk) = False := fun kk => by apply eq_false; omega
     have a_n3 : (10000 * (i + 1) = a) = False := by apply eq_false; omega
     have a_n4 : (a = 10000 * (i + 1)) = False := by apply eq_false; omega
     have a_n5 : ∀ kk, ((⟨L + 1, a⟩ : Nm) == ⟨L + 1, 10000 * (i + 1) + kk⟩) = false := fun kk => by simp; omega
     have l_0 : (l = 0) = False := by apply eq_false; omega
     have n0_l : (0 = l) = False := by apply eq_false; omega
     have l_32 : (l = 32) = False := by apply eq_false; omega
     have n32_l : (32 = l) = False := by apply eq_false; omega
     have l_128 : (l = 128) = False := by apply eq_false; omega
     have n128_l : (128 = l) = False := by apply eq_false; omega
     have l_n1 : ∀ kk, (10000 * (i + 1) + kk = l) = False := fun kk => by apply eq_false; omega
     have l_n2 : ∀ kk, (l = 10000 * (i + 1) + kk) = False := fun kk => by apply eq_false; omega
     have l_n3 : (10000 * (i + 1) = l) = False := by apply eq_false; omega
     have l_n4 : (l = 10000 * (i + 1)) = False := by apply eq_false; omega
     have l_n5 : ∀ kk, ((⟨L + 1, l⟩ : Nm) == ⟨L + 1, 10000 * (i + 1) + kk⟩) = false := fun kk => by simp; omega
     by_cases hj : j < 3
     ·have f2 : decide ((j : Int) < 3) = true := dT (by omega)
      obtain ⟨m, hm1, hm2⟩ := hM j hj
      have hsd := fun F L nx => sendAll_ok (F := F) (L := L) (nx := nx) S.out S.inn S.asked S.num S.seen S.ps (by omega) (by omega) (by omega) (by omega) m
      simp only [strV, Msg.row] at hsd
      simp only [f2, hm2, Int.toNat_natCast, a_0, a_32, a_128, a_l, a_n1, a_n2, l_n1, nB, Nat.add_assoc, go_sem]
      repeat refine And.intro (by first | omega | exact ⟨by omega, by omega⟩ | exact okS (by kernel_rfl)) ?_
      refine CallVC.same (hsd _ _ _) ?_
      have hrm := fun F L nx => rightMessage_ok (F := F) (L := L) (nx := nx) m S.out.length (by omega)
      simp only [Msg.row] at hrm
      cases hB : msgB S.out.length m with
      | false =>
       rw [hB] at hrm
       have hv : sendV S.out S.inn S.num S.seen S.asked S.ps m = .tup [strZ, .nilS, .int .i64 2] := by simp [sendV, sendE, hR, hB]
       rw [hv]
       simp only [strZ, a_0, a_32, a_128, a_l, a_n1, a_n2, l_n1, nB, nS2, nS2', Nat.add_assoc, List.length_map, Nat.add_zero, go_sem]
       repeat refine And.intro (by first | omega | exact ⟨by omega, by omega⟩ | exact okS (by kernel_rfl)) ?_
       refine CallVC.same (hrm _ _ _) ?_
       simp only [q5, a_n1, l_n1, nS2, nS2', Nat.add_assoc, go_sem]
       repeat refine And.intro (by first | omega | exact ⟨by omega, by omega⟩ | exact okS (by kernel_rfl)) ?_
       refine CallVC.gen (args2 := [.agg [.fs 1 [], .fs 1 [], .fs 8 [], .int .i64 0, .int .i64 0, .fs 1 []], .agg [.fs 1 [], .fs 1 [], .fs 8 [], .int .i64 0, .int .i64 0, .fs 1 []]]) (by simp [WkL, Wk]) (hsz _ _ _) ?_
       simp only [wkNL, wkN, unown, Nat.add_assoc, go_sem]
       repeat refine And.intro (by first | omega | exact ⟨by omega, by omega⟩ | exact okS (by kernel_rfl)) ?_
       refine CallVC.gen (args2 := [.fs 8 [], .fs 8 []]) (by simp [WkL, Wk]) (hdz _ _ _) ?_
       simp only [wkNL, wkN, unown, Nat.add_assoc, go_sem]
       repeat refine And.intro (by first | omega | exact ⟨by omega, by omega⟩ | exact okS (by kernel_rfl)) ?_
       refine ⟨⟨j + 1, i + 1⟩, ⟨by simp only []; omega, by simp only []; omega⟩, by simp only []; omega, ?_⟩
       refine Sub.of (fun n hn => hF2 n (by have : n.l = L + 1 := hn; omega)) (by simp only [go_sem, subT, and_self, Int.natCast_succ]) ?_ (by simp [subK, keys]) (by simp only []; omega)
       simp [subH, Tx.look, a_0, a_32, a_128, a_l, l_0, l_32, l_128]
      | true =>
       rw [hB] at hrm
       have hha := fun F L nx => has_ok (F := F) (L := L) (nx := nx) S.asked m.st (by omega)
       have hhe : S.asked.any (hasP m.st) = S.asked.any (fun x => m.st == x) := by
        congr 1; funext x; rw [Bool.eq_iff_iff]; simp only [hasP, beq_iff_eq]; exact eq_comm
       cases hH : S.asked.any (fun x => m.st == x) with
       | true =>
        rw [hhe, hH] at hha
        have hv : sendV S.out S.inn S.num S.seen S.asked S.ps m = .tup [strZ, .nilS, .int .i64 8] := by simp only [sendV, sendE, hR, hB, hH]; rfl
        rw [hv]
        simp only [strZ, a_0, a_32, a_128, a_l, a_n1, a_n2, l_n1, nB, nS2, nS2', Nat.add_assoc, List.length_map, Nat.add_zero, go_sem]
        repeat refine And.intro (by first | omega | exact ⟨by omega, by omega⟩ | exact okS (by kernel_rfl)) ?_
        refine CallVC.same (hrm _ _ _) ?_
        simp only [a_0, a_32, a_128, a_l, a_n1, a_n2, l_n1, nB, nS2', Nat.add_assoc, Nat.add_zero, go_sem]
        repeat refine And.intro (by first | omega | exact ⟨by omega, by omega⟩ | exact okS (by kernel_rfl)) ?_
        refine CallVC.same (hha _ _ _) ?_
        simp only [q6, a_n1, l_n1, nS2, nS2', Nat.add_assoc, go_sem]
        repeat refine And.intro (by first | omega | exact ⟨by omega, by omega⟩ | exact okS (by kernel_rfl)) ?_
        refine CallVC.gen (args2 := [.agg [.fs 1 [], .fs 1 [], .fs 8 [], .int .i64 0, .int .i64 0, .fs 1 []], .agg [.fs 1 [], .fs 1 [], .fs 8 [], .int .i64 0, .int .i64 0, .fs 1 []]]) (by simp [WkL, Wk]) (hsz _ _ _) ?_
        simp only [wkNL, wkN, unown, Nat.add_assoc, go_sem]
        repeat refine And.intro (by first | omega | exact ⟨by omega, by omega⟩ | exact okS (by kernel_rfl)) ?_
        refine CallVC.gen (args2 := [.fs 8 [], .fs 8 []]) (by simp [WkL, Wk]) (hdz _ _ _) ?_
        simp only [wkNL, wkN, unown, Nat.add_assoc, go_sem]
        repeat refine And.intro (by first | omega | exact ⟨by omega, by omega⟩ | exact okS (by kernel_rfl)) ?_
        refine ⟨⟨j + 1, i + 1⟩, ⟨by simp only []; omega, by simp only []; omega⟩, by simp only []; omega, ?_⟩
        refine Sub.of (fun n hn => hF2 n (by have : n.l = L + 1 := hn; omega)) (by simp only [go_sem, subT, and_self, Int.natCast_succ]) ?_ (by simp [subK, keys]) (by simp only []; omega)
        simp [subH, Tx.look, a_0, a_32, a_128, a_l, l_0, l_32, l_128]
       | false =>
        rw [hhe, hH] at hha
        have hmb := hB
        simp only [msgB, Bool.and_eq_true, decide_eq_true_eq] at hmb
        obtain ⟨b1, b2, _⟩ := hmb
        obtain ⟨c1, _, _⟩ := chkB_ok hR (by omega)
        have hrs := fun F L nx => refSend_ok (F := F) (L := L) (nx := nx) S.out S.inn S.asked S.num S.seen S.ps (by omega) (by omega) (by omega) (by omega) c1.o3 m.st.toNat m.pr m.lo m.tx (by omega) (by omega)
        rw [show ((m.st.toNat : Nat) : Int) = m.st by omega] at hrs
        have hv : sendV S.out S.inn S.num S.seen S.asked S.ps m = .tup [strV (outS S.out m.st.toNat m.lo) S.inn S.num S.seen S.asked S.ps, .fs 8 ((sendD m.st m.pr (seqS S.out m.st.toNat m.lo) m.lo m.tx ((m.tx.length + 999) / 1000)).map Dat.row), .int .i64 0] := by simp only [sendV, sendE, hR, hB, hH]; rfl
        rw [hv]
        have ho4 := outS_len S.out m.st.toNat m.lo
        have hd4 := sendD_len m.st m.pr (seqS S.out m.st.toNat m.lo) m.lo m.tx ((m.tx.length + 999) / 1000)
        obtain ⟨o4, ho5⟩ : ∃ x, x = outS S.out m.st.toNat m.lo := ⟨_, rfl⟩
        obtain ⟨d4, hd5⟩ : ∃ x, x = sendD m.st m.pr (seqS S.out m.st.toNat m.lo) m.lo m.tx ((m.tx.length + 999) / 1000) := ⟨_, rfl⟩
        rw [← ho5] at ho4
        rw [← hd5] at hd4
        rw [← ho5, ← hd5] at hrs
        rw [← ho5, ← hd5]
        have hs4 := fun F L nx => sameS_ok (F := F) (L := L) (nx := nx) o4 S.inn S.asked S.num S.seen S.ps (by omega) (by omega) (by omega) (by omega)
        have hs5 := fun F L nx => sameData_ok (F := F) (L := L) (nx := nx) d4 (by omega)
        simp only [strV] at hrs hs4
        simp only [strV, a_0, a_32, a_128, a_l, a_n1, a_n2, l_n1, nB, nS2, nS2', Nat.add_assoc, List.length_map, Nat.add_zero, go_sem]
        repeat refine And.intro (by first | omega | exact ⟨by omega, by omega⟩ | exact okS (by kernel_rfl)) ?_
        refine CallVC.same (hrm _ _ _) ?_
        simp only [a_0, a_32, a_128, a_l, a_n1, a_n2, l_n1, nB, nS2', Nat.add_assoc, Nat.add_zero, go_sem]
        repeat refine And.intro (by first | omega | exact ⟨by omega, by omega⟩ | exact okS (by kernel_rfl)) ?_
        refine CallVC.same (hha _ _ _) ?_
        simp only [a_0, a_32, a_128, a_l, a_n1, a_n2, l_n1, nB, nS2', Nat.add_assoc, go_sem]
        repeat refine And.intro (by first | omega | exact ⟨by omega, by omega⟩ | exact okS (by kernel_rfl)) ?_
        refine CallVC.same (hrs _ _ _) ?_
        simp only [q7, a_n1, l_n1, nS2, nS2', Nat.add_assoc, go_sem]
        repeat refine And.intro (by first | omega | exact ⟨by omega, by omega⟩ | exact okS (by kernel_rfl)) ?_
        refine CallVC.same (hs4 _ _ _) ?_
        simp only [Nat.add_assoc, go_sem]
        repeat refine And.intro (by first | omega | exact ⟨by omega, by omega⟩ | exact okS (by kernel_rfl)) ?_
        refine CallVC.same (hs5 _ _ _) ?_
        simp only [Nat.add_assoc, go_sem]
        repeat refine And.intro (by first | omega | exact ⟨by omega, by omega⟩ | exact okS (by kernel_rfl)) ?_
        refine ⟨⟨j + 1, i + 1⟩, ⟨by simp only []; omega, by simp only []; omega⟩, by simp only []; omega, ?_⟩
        refine Sub.of (fun n hn => hF2 n (by have : n.l = L + 1 := hn; omega)) (by simp only [go_sem, subT, and_self, Int.natCast_succ]) ?_ (by simp [subK, keys]) (by simp only []; omega)
        simp [subH, Tx.look, a_0, a_32, a_128, a_l, l_0, l_32, l_128]
     ·have f2 : decide ((j : Int) < 3) = false := dF (by omega)
      simp only [f2, Nat.add_assoc, go_sem]
      repeat refine And.intro (by first | omega | exact ⟨by omega, by omega⟩ | exact okS (by kernel_rfl)) ?_
      refine ⟨⟨k + 1, i + 1⟩, by simp only []; omega, by simp only []; omega, ?_⟩
      refine Sub.of (fun n hn => hF2 n (by have : n.l = L + 1 := hn; omega)) (by simp only [go_sem, subT, and_self, Int.natCast_succ]) ?_ (by simp [subK, keys]) (by simp only []; omega)
      simp [subH, Tx.look, l_0, l_32, l_128]
  ·have f1 : decide ((k : Int) < 3) = false := dF (by omega)
   simp only [f1, Nat.add_assoc, go_sem]
   exact .bool (.inr rfl) rfl rfl (by simp [UpdAll])
end Go.Proofs.YtfhhbkehlfipgaaGreat
end
