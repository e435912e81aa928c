/- Lemmas for the walk: YtfhhbkehlfipgaaGreatTxT. -/
import Derived.Test.YtfhhbkehlfipgaaGreatProg
import Derived.Test.YtfhhbkehlfipgaaGreatP09
import Derived.KernelRfl
set_option linter.all false
section
namespace Go.Proofs.YtfhhbkehlfipgaaGreat
open Go.Tx
def TysAll (P : Program) : Tys → Prop
 | [] => True
 | (t, i) :: l => (∃ z, TOk P t i z) ∧ TysAll P l
theorem TysAll.ok {P : Program} : ∀ {T : Tys}, TysAll P T → T.Ok P
 | [], _, t, i, h => by cases h
 | (u, j) :: l, h, t, i, hg => by
  simp only [Tys.get] at hg
  split at hg
  ·rename_i he
   injection hg with hg; subst hg
   have := eq_of_beq he; subst this
   exact h.1
  ·exact TysAll.ok h.2 t i hg
def tys : Tys := [
 (3, ⟨.int .i64, [.int .i64 0], 1, 8, false, []⟩),
 (4, ⟨.bool, [.bool false], 1, 1, false, []⟩),
 (5, ⟨.int .u8, [.int .u8 0], 1, 1, false, []⟩),
 (9, ⟨.str, [.str []], 1, 16, false, []⟩),
 (23, ⟨.struct [(0, 3), (1, 3), (2, 4), (3, 9)], [.int .i64 0, .int .i64 0, .bool false, .str []], 4, 40, true, []⟩),
 (24, ⟨.int .u32, [.int .u32 0], 1, 4, false, []⟩),
 (25, ⟨.int .u16, [.int .u16 0], 1, 2, false, []⟩),
 (26, ⟨.array 2 25, [.int .u16 0, .int .u16 0], 2, 4, false, []⟩),
 (27, ⟨.slice 36, [.nilS], 1, 24, false, []⟩),
 (28, ⟨.slice 5, [.nilS], 1, 24, false, []⟩),
 (30, ⟨.struct [(0, 5), (1, 5), (2, 24), (3, 26), (5, 27), (6, 28)], [.int .u8 0, .int .u8 0, .int .u32 0, .int .u16 0, .int .u16 0, .nilS, .nilS], 7, 64, false, []⟩),
 (32, ⟨.struct [(0, 3), (1, 3), (2, 3), (3, 3), (4, 4), (5, 4), (6, 4), (7, 9)], [.int .i64 0, .int .i64 0, .int .i64 0, .int .i64 0, .bool false, .bool false, .bool false, .str []], 8, 56, true, []⟩),
 (34, ⟨.struct [(0, 5), (1, 5), (2, 3), (3, 32)], [.int .u8 0, .int .u8 0, .int .i64 0, .int .i64 0, .int .i64 0, .int .i64 0, .int .i64 0, .bool false, .bool false, .bool false, .str []], 11, 72, true, []⟩),
 (36, ⟨.struct [(0, 5), (1, 5), (2, 25), (3, 4)], [.int .u8 0, .int .u8 0, .int .u16 0, .bool false], 4, 6, true, []⟩),
 (38, ⟨.slice 3, [.nilS], 1, 24, false, []⟩),
 (39, ⟨.slice 32, [.nilS], 1, 24, false, []⟩),
 (41, ⟨.struct [(0, 38), (1, 38), (2, 39), (3, 3), (4, 3), (5, 38)], [.nilS, .nilS, .nilS, .int .i64 0, .int .i64 0, .nilS], 6, 112, false, []⟩),
 (42, ⟨.int .i64, [.int .i64 0], 1, 8, false, []⟩),
 (48, ⟨.array 3 41, [.nilS, .nilS, .nilS, .int .i64 0, .int .i64 0, .nilS, .nilS, .nilS, .nilS, .int .i64 0, .int .i64 0, .nilS, .nilS, .nilS, .nilS, .int .i64 0, .int .i64 0, .nilS], 18, 336, false, []⟩),
 (52, ⟨.array 3 23, [.int .i64 0, .int .i64 0, .bool false, .str [], .int .i64 0, .int .i64 0, .bool false, .str [], .int .i64 0, .int .i64 0, .bool false, .str []], 12, 120, false, []⟩),
 (61, ⟨.slice 71, [.nilS], 1, 24, false, []⟩),
 (63, ⟨.struct [(0, 3), (1, 61)], [.int .i64 0, .nilS], 2, 32, false, []⟩),
 (68, ⟨.slice 23, [.nilS], 1, 24, false, []⟩),
 (71, ⟨.array 2 3, [.int .i64 0, .int .i64 0], 2, 16, false, []⟩),
 (75, ⟨.struct [(0, 3), (1, 3), (2, 3), (3, 3), (4, 38)], [.int .i64 0, .int .i64 0, .int .i64 0, .int .i64 0, .nilS], 5, 56, false, []⟩),
 (76, ⟨.int .i8, [.int .i8 0], 1, 1, false, []⟩),
 (77, ⟨.array 2 38, [.nilS, .nilS], 2, 48, false, []⟩),
 (81, ⟨.array 3 75, [.int .i64 0, .int .i64 0, .int .i64 0, .int .i64 0, .nilS, .int .i64 0, .int .i64 0, .int .i64 0, .int .i64 0, .nilS, .int .i64 0, .int .i64 0, .int .i64 0, .int .i64 0, .nilS], 15, 168, false, []⟩),
 (93, ⟨.struct [(0, 32), (8, 3), (9, 3), (10, 3), (11, 4), (12, 4), (13, 4)], [.int .i64 0, .int .i64 0, .int .i64 0, .int .i64 0, .bool false, .bool false, .bool false, .str [], .int .i64 0, .int .i64 0, .int .i64 0, .bool false, .bool false, .bool false], 14, 88, true, []⟩),
 (94, ⟨.slice 93, [.nilS], 1, 24, false, []⟩),
 (99, ⟨.func, [.nilF], 1, 8, false, []⟩),
 (100, ⟨.func, [.nilF], 1, 8, false, []⟩),
 (105, ⟨.map 3 4, [.nilM], 1, 8, false, []⟩),
 (108, ⟨.ptr 110, [.nilP], 1, 8, false, []⟩),
 (110, ⟨.struct [(0, 41)], [.nilS, .nilS, .nilS, .int .i64 0, .int .i64 0, .nilS], 6, 112, false, []⟩),
 (115, ⟨.func, [.nilF], 1, 8, false, []⟩),
 (122, ⟨.struct [(0, 3), (1, 3), (2, 9)], [.int .i64 0, .int .i64 0, .str []], 3, 32, true, []⟩),
 (127, ⟨.int .u64, [.int .u64 0], 1, 8, false, []⟩),
 (131, ⟨.ptr 133, [.nilP], 1, 8, false, []⟩),
 (133, ⟨.struct [(0, 131), (1, 28)], [.nilP, .nilS], 2, 32, false, [(0, 133)]⟩),
 (136, ⟨.iface, [.nilI], 1, 16, false, []⟩),
 (143, ⟨.func, [.nilF], 1, 8, false, []⟩),
 (149, ⟨.func, [.nilF], 1, 8, false, []⟩),
 (155, ⟨.map 3 32, [.nilM], 1, 8, false, []⟩),
 (159, ⟨.func, [.nilF], 1, 8, false, []⟩),
 (165, ⟨.struct [(0, 75)], [.int .i64 0, .int .i64 0, .int .i64 0, .int .i64 0, .nilS], 5, 56, false, []⟩),
 (168, ⟨.int .u64, [.int .u64 0], 1, 8, false, []⟩),
 (171, ⟨.ptr 5, [.nilP], 1, 8, false, []⟩),
 (173, ⟨.struct [(0, 63)], [.int .i64 0, .nilS], 2, 32, false, []⟩),
 (179, ⟨.struct [(0, 32)], [.int .i64 0, .int .i64 0, .int .i64 0, .int .i64 0, .bool false, .bool false, .bool false, .str []], 8, 56, true, []⟩),
 (182, ⟨.iface, [.nilI], 1, 16, false, []⟩),
 (184, ⟨.struct [(0, 133)], [.nilP, .nilS], 2, 32, false, [(0, 133)]⟩),
 (187, ⟨.ptr 184, [.nilP], 1, 8, false, []⟩),
 (188, ⟨.uptr, [.nilP], 1, 8, false, []⟩),
 (206, ⟨.array 3 4, [.bool false, .bool false, .bool false], 3, 3, false, []⟩)]
theorem g3 : Tys.get tys 3 = some ⟨.int .i64, [.int .i64 0], 1, 8, false, []⟩ := rfl
theorem g4 : Tys.get tys 4 = some ⟨.bool, [.bool false], 1, 1, false, []⟩ := rfl
theorem g5 : Tys.get tys 5 = some ⟨.int .u8, [.int .u8 0], 1, 1, false, []⟩ := rfl
theorem g9 : Tys.get tys 9 = some ⟨.str, [.str []], 1, 16, false, []⟩ := rfl
theorem g23 : Tys.get tys 23 = some ⟨.struct [(0, 3), (1, 3), (2, 4), (3, 9)], [.int .i64 0, .int .i64 0, .bool false, .str []], 4, 40, true, []⟩ := rfl
theorem g24 : Tys.get tys 24 = some ⟨.int .u32, [.int .u32 0], 1, 4, false, []⟩ := rfl
theorem g25 : Tys.get tys 25 = some ⟨.int .u16, [.int .u16 0], 1, 2, false, []⟩ := rfl
theorem g26 : Tys.get tys 26 = some ⟨.array 2 25, [.int .u16 0, .int .u16 0], 2, 4, false, []⟩ := rfl
theorem g27 : Tys.get tys 27 = some ⟨.slice 36, [.nilS], 1, 24, false, []⟩ := rfl
theorem g28 : Tys.get tys 28 = some ⟨.slice 5, [.nilS], 1, 24, false, []⟩ := rfl
theorem g30 : Tys.get tys 30 = some ⟨.struct [(0, 5), (1, 5), (2, 24), (3, 26), (5, 27), (6, 28)], [.int .u8 0, .int .u8 0, .int .u32 0, .int .u16 0, .int .u16 0, .nilS, .nilS], 7, 64, false, []⟩ := rfl
theorem g32 : Tys.get tys 32 = some ⟨.struct [(0, 3), (1, 3), (2, 3), (3, 3), (4, 4), (5, 4), (6, 4), (7, 9)], [.int .i64 0, .int .i64 0, .int .i64 0, .int .i64 0, .bool false, .bool false, .bool false, .str []], 8, 56, true, []⟩ := rfl
theorem g34 : Tys.get tys 34 = some ⟨.struct [(0, 5), (1, 5), (2, 3), (3, 32)], [.int .u8 0, .int .u8 0, .int .i64 0, .int .i64 0, .int .i64 0, .int .i64 0, .int .i64 0, .bool false, .bool false, .bool false, .str []], 11, 72, true, []⟩ := rfl
theorem g36 : Tys.get tys 36 = some ⟨.struct [(0, 5), (1, 5), (2, 25), (3, 4)], [.int .u8 0, .int .u8 0, .int .u16 0, .bool false], 4, 6, true, []⟩ := rfl
theorem g38 : Tys.get tys 38 = some ⟨.slice 3, [.nilS], 1, 24, false, []⟩ := rfl
theorem g39 : Tys.get tys 39 = some ⟨.slice 32, [.nilS], 1, 24, false, []⟩ := rfl
theorem g41 : Tys.get tys 41 = some ⟨.struct [(0, 38), (1, 38), (2, 39), (3, 3), (4, 3), (5, 38)], [.nilS, .nilS, .nilS, .int .i64 0, .int .i64 0, .nilS], 6, 112, false, []⟩ := rfl
theorem g42 : Tys.get tys 42 = some ⟨.int .i64, [.int .i64 0], 1, 8, false, []⟩ := rfl
theorem g48 : Tys.get tys 48 = some ⟨.array 3 41, [.nilS, .nilS, .nilS, .int .i64 0, .int .i64 0, .nilS, .nilS, .nilS, .nilS, .int .i64 0, .int .i64 0, .nilS, .nilS, .nilS, .nilS, .int .i64 0, .int .i64 0, .nilS], 18, 336, false, []⟩ := rfl
theorem g52 : Tys.get tys 52 = some ⟨.array 3 23, [.int .i64 0, .int .i64 0, .bool false, .str [], .int .i64 0, .int .i64 0, .bool false, .str [], .int .i64 0, .int .i64 0, .bool false, .str []], 12, 120, false, []⟩ := rfl
theorem g61 : Tys.get tys 61 = some ⟨.slice 71, [.nilS], 1, 24, false, []⟩ := rfl
theorem g63 : Tys.get tys 63 = some ⟨.struct [(0, 3), (1, 61)], [.int .i64 0, .nilS], 2, 32, false, []⟩ := rfl
theorem g68 : Tys.get tys 68 = some ⟨.slice 23, [.nilS], 1, 24, false, []⟩ := rfl
theorem g71 : Tys.get tys 71 = some ⟨.array 2 3, [.int .i64 0, .int .i64 0], 2, 16, false, []⟩ := rfl
theorem g75 : Tys.get tys 75 = some ⟨.struct [(0, 3), (1, 3), (2, 3), (3, 3), (4, 38)], [.int .i64 0, .int .i64 0, .int .i64 0, .int .i64 0, .nilS], 5, 56, false, []⟩ := rfl
theorem g76 : Tys.get tys 76 = some ⟨.int .i8, [.int .i8 0], 1, 1, false, []⟩ := rfl
theorem g77 : Tys.get tys 77 = some ⟨.array 2 38, [.nilS, .nilS], 2, 48, false, []⟩ := rfl
theorem g81 : Tys.get tys 81 = some ⟨.array 3 75, [.int .i64 0, .int .i64 0, .int .i64 0, .int .i64 0, .nilS, .int .i64 0, .int .i64 0, .int .i64 0, .int .i64 0, .nilS, .int .i64 0, .int .i64 0, .int .i64 0, .int .i64 0, .nilS], 15, 168, false, []⟩ := rfl
theorem g93 : Tys.get tys 93 = some ⟨.struct [(0, 32), (8, 3), (9, 3), (10, 3), (11, 4), (12, 4), (13, 4)], [.int .i64 0, .int .i64 0, .int .i64 0, .int .i64 0, .bool false, .bool false, .bool false, .str [], .int .i64 0, .int .i64 0, .int .i64 0, .bool false, .bool false, .bool false], 14, 88, true, []⟩ := rfl
theorem g94 : Tys.get tys 94 = some ⟨.slice 93, [.nilS], 1, 24, false, []⟩ := rfl
theorem g99 : Tys.get tys 99 = some ⟨.func, [.nilF], 1, 8, false, []⟩ := rfl
theorem g100 : Tys.get tys 100 = some ⟨.func, [.nilF], 1, 8, false, []⟩ := rfl
theorem g105 : Tys.get tys 105 = some ⟨.map 3 4, [.nilM], 1, 8, false, []⟩ := rfl
theorem g108 : Tys.get tys 108 = some ⟨.ptr 110, [.nilP], 1, 8, false, []⟩ := rfl
theorem g110 : Tys.get tys 110 = some ⟨.struct [(0, 41)], [.nilS, .nilS, .nilS, .int .i64 0, .int .i64 0, .nilS], 6, 112, false, []⟩ := rfl
theorem g115 : Tys.get tys 115 = some ⟨.func, [.nilF], 1, 8, false, []⟩ := rfl
theorem g122 : Tys.get tys 122 = some ⟨.struct [(0, 3), (1, 3), (2, 9)], [.int .i64 0, .int .i64 0, .str []], 3, 32, true, []⟩ := rfl
theorem g127 : Tys.get tys 127 = some ⟨.int .u64, [.int .u64 0], 1, 8, false, []⟩ := rfl
theorem g131 : Tys.get tys 131 = some ⟨.ptr 133, [.nilP], 1, 8, false, []⟩ := rfl
theorem g133 : Tys.get tys 133 = some ⟨.struct [(0, 131), (1, 28)], [.nilP, .nilS], 2, 32, false, [(0, 133)]⟩ := rfl
theorem g136 : Tys.get tys 136 = some ⟨.iface, [.nilI], 1, 16, false, []⟩ := rfl
theorem g143 : Tys.get tys 143 = some ⟨.func, [.nilF], 1, 8, false, []⟩ := rfl
theorem g149 : Tys.get tys 149 = some ⟨.func, [.nilF], 1, 8, false, []⟩ := rfl
theorem g155 : Tys.get tys 155 = some ⟨.map 3 32, [.nilM], 1, 8, false, []⟩ := rfl
theorem g159 : Tys.get tys 159 = some ⟨.func, [.nilF], 1, 8, false, []⟩ := rfl
theorem g165 : Tys.get tys 165 = some ⟨.struct [(0, 75)], [.int .i64 0, .int .i64 0, .int .i64 0, .int .i64 0, .nilS], 5, 56, false, []⟩ := rfl
theorem g168 : Tys.get tys 168 = some ⟨.int .u64, [.int .u64 0], 1, 8, false, []⟩ := rfl
theorem g171 : Tys.get tys 171 = some ⟨.ptr 5, [.nilP], 1, 8, false, []⟩ := rfl
theorem g173 : Tys.get tys 173 = some ⟨.struct [(0, 63)], [.int .i64 0, .nilS], 2, 32, false, []⟩ := rfl
theorem g179 : Tys.get tys 179 = some ⟨.struct [(0, 32)], [.int .i64 0, .int .i64 0, .int .i64 0, .int .i64 0, .bool false, .bool false, .bool false, .str []], 8, 56, true, []⟩ := rfl
theorem g182 : Tys.get tys 182 = some ⟨.iface, [.nilI], 1, 16, false, []⟩ := rfl
theorem g184 : Tys.get tys 184 = some ⟨.struct [(0, 133)], [.nilP, .nilS], 2, 32, false, [(0, 133)]⟩ := rfl
theorem g187 : Tys.get tys 187 = some ⟨.ptr 184, [.nilP], 1, 8, false, []⟩ := rfl
theorem g188 : Tys.get tys 188 = some ⟨.uptr, [.nilP], 1, 8, false, []⟩ := rfl
theorem g206 : Tys.get tys 206 = some ⟨.array 3 4, [.bool false, .bool false, .bool false], 3, 3, false, []⟩ := rfl
theorem tok3 : TOk Tryz.prog 3 ⟨.int .i64, [.int .i64 0], 1, 8, false, []⟩ (.int IntKind.i64 0) := ⟨⟨by kernel_rfl, by kernel_rfl, rfl, rfl, rfl, (fun h => by cases h), rfl⟩, by simp [ofVl, ofV, Go.Sx.cellsOf], by simp⟩
theorem tok4 : TOk Tryz.prog 4 ⟨.bool, [.bool false], 1, 1, false, []⟩ (.bool false) := ⟨⟨by kernel_rfl, by kernel_rfl, rfl, rfl, rfl, (fun h => by cases h), rfl⟩, by simp [ofVl, ofV, Go.Sx.cellsOf], by simp⟩
theorem tok5 : TOk Tryz.prog 5 ⟨.int .u8, [.int .u8 0], 1, 1, false, []⟩ (.int IntKind.u8 0) := ⟨⟨by kernel_rfl, by kernel_rfl, rfl, rfl, rfl, (fun h => by cases h), rfl⟩, by simp [ofVl, ofV, Go.Sx.cellsOf], by simp⟩
theorem tok9 : TOk Tryz.prog 9 ⟨.str, [.str []], 1, 16, false, []⟩ (.string { data := #[] }) := ⟨⟨by kernel_rfl, by kernel_rfl, rfl, rfl, rfl, (fun h => by cases h), rfl⟩, by simp [ofVl, ofV, Go.Sx.cellsOf], by simp⟩
theorem tok23 : TOk Tryz.prog 23 ⟨.struct [(0, 3), (1, 3), (2, 4), (3, 9)], [.int .i64 0, .int .i64 0, .bool false, .str []], 4, 40, true, []⟩ (.agg #[Value.int IntKind.i64 0, Value.int IntKind.i64 0, Value.bool false, Value.string { data := #[] }]) := ⟨⟨by kernel_rfl, by kernel_rfl, rfl, rfl, rfl, (fun _ => ⟨by kernel_rfl, by kernel_rfl, by kernel_rfl⟩), rfl⟩, by simp [ofVl, ofV, Go.Sx.cellsOf], by simp⟩
theorem tok24 : TOk Tryz.prog 24 ⟨.int .u32, [.int .u32 0], 1, 4, false, []⟩ (.int IntKind.u32 0) := ⟨⟨by kernel_rfl, by kernel_rfl, rfl, rfl, rfl, (fun h => by cases h), rfl⟩, by simp [ofVl, ofV, Go.Sx.cellsOf], by simp⟩
theorem tok25 : TOk Tryz.prog 25 ⟨.int .u16, [.int .u16 0], 1, 2, false, []⟩ (.int IntKind.u16 0) := ⟨⟨by kernel_rfl, by kernel_rfl, rfl, rfl, rfl, (fun h => by cases h), rfl⟩, by simp [ofVl, ofV, Go.Sx.cellsOf], by simp⟩
theorem tok26 : TOk Tryz.prog 26 ⟨.array 2 25, [.int .u16 0, .int .u16 0], 2, 4, false, []⟩ (.agg #[Value.int IntKind.u16 0, Value.int IntKind.u16 0]) := ⟨⟨by kernel_rfl, by kernel_rfl, rfl, rfl, rfl, (fun h => by cases h), rfl⟩, by simp [ofVl, ofV, Go.Sx.cellsOf], by simp⟩
theorem tok27 : TOk Tryz.prog 27 ⟨.slice 36, [.nilS], 1, 24, false, []⟩ (.slice none 0 0) := ⟨⟨by kernel_rfl, by kernel_rfl, rfl, rfl, rfl, (fun h => by cases h), rfl⟩, by simp [ofVl, ofV, Go.Sx.cellsOf], by simp⟩
theorem tok28 : TOk Tryz.prog 28 ⟨.slice 5, [.nilS], 1, 24, false, []⟩ (.slice none 0 0) := ⟨⟨by kernel_rfl, by kernel_rfl, rfl, rfl, rfl, (fun h => by cases h), rfl⟩, by simp [ofVl, ofV, Go.Sx.cellsOf], by simp⟩
theorem tok30 : TOk Tryz.prog 30 ⟨.struct [(0, 5), (1, 5), (2, 24), (3, 26), (5, 27), (6, 28)], [.int .u8 0, .int .u8 0, .int .u32 0, .int .u16 0, .int .u16 0, .nilS, .nilS], 7, 64, false, []⟩ (.agg #[Value.int IntKind.u8 0, Value.int IntKind.u8 0, Value.int IntKind.u32 0, Value.int IntKind.u16 0, Value.int IntKind.u16 0, Value.slice none 0 0, Value.slice none 0 0]) := ⟨⟨by kernel_rfl, by kernel_rfl, rfl, rfl, rfl, (fun h => by cases h), rfl⟩, by simp [ofVl, ofV, Go.Sx.cellsOf], by simp⟩
theorem tok32 : TOk Tryz.prog 32 ⟨.struct [(0, 3), (1, 3), (2, 3), (3, 3), (4, 4), (5, 4), (6, 4), (7, 9)], [.int .i64 0, .int .i64 0, .int .i64 0, .int .i64 0, .bool false, .bool false, .bool false, .str []], 8, 56, true, []⟩ (.agg #[Value.int IntKind.i64 0, Value.int IntKind.i64 0, Value.int IntKind.i64 0, Value.int IntKind.i64 0, Value.bool false, Value.bool false, Value.bool false, Value.string { data := #[] }]) := ⟨⟨by kernel_rfl, by kernel_rfl, rfl, rfl, rfl, (fun _ => ⟨by kernel_rfl, by kernel_rfl, by kernel_rfl⟩), rfl⟩, by simp [ofVl, ofV, Go.Sx.cellsOf], by simp⟩
theorem tok34 : TOk Tryz.prog 34 ⟨.struct [(0, 5), (1, 5), (2, 3), (3, 32)], [.int .u8 0, .int .u8 0, .int .i64 0, .int .i64 0, .int .i64 0, .int .i64 0, .int .i64 0, .bool false, .bool false, .bool false, .str []], 11, 72, true, []⟩ (.agg #[Value.int IntKind.u8 0, Value.int IntKind.u8 0, Value.int IntKind.i64 0, Value.int IntKind.i64 0, Value.int IntKind.i64 0, Value.int IntKind.i64 0, Value.int IntKind.i64 0, Value.bool false, Value.bool false, Value.bool false, Value.string { data := #[] }]) := ⟨⟨by kernel_rfl, by kernel_rfl, rfl, rfl, rfl, (fun _ => ⟨by kernel_rfl, by kernel_rfl, by kernel_rfl⟩), rfl⟩, by simp [ofVl, ofV, Go.Sx.cellsOf], by simp⟩
theorem tok36 : TOk Tryz.prog 36 ⟨.struct [(0, 5), (1, 5), (2, 25), (3, 4)], [.int .u8 0, .int .u8 0, .int .u16 0, .bool false], 4, 6, true, []⟩ (.agg #[Value.int IntKind.u8 0, Value.int IntKind.u8 0, Value.int IntKind.u16 0, Value.bool false]) := ⟨⟨by kernel_rfl, by kernel_rfl, rfl, rfl, rfl, (fun _ => ⟨by kernel_rfl, by kernel_rfl, by kernel_rfl⟩), rfl⟩, by simp [ofVl, ofV, Go.Sx.cellsOf], by simp⟩
theorem tok38 : TOk Tryz.prog 38 ⟨.slice 3, [.nilS], 1, 24, false, []⟩ (.slice none 0 0) := ⟨⟨by kernel_rfl, by kernel_rfl, rfl, rfl, rfl, (fun h => by cases h), rfl⟩, by simp [ofVl, ofV, Go.Sx.cellsOf], by simp⟩
theorem tok39 : TOk Tryz.prog 39 ⟨.slice 32, [.nilS], 1, 24, false, []⟩ (.slice none 0 0) := ⟨⟨by kernel_rfl, by kernel_rfl, rfl, rfl, rfl, (fun h => by cases h), rfl⟩, by simp [ofVl, ofV, Go.Sx.cellsOf], by simp⟩
theorem tok41 : TOk Tryz.prog 41 ⟨.struct [(0, 38), (1, 38), (2, 39), (3, 3), (4, 3), (5, 38)], [.nilS, .nilS, .nilS, .int .i64 0, .int .i64 0, .nilS], 6, 112, false, []⟩ (.agg #[Value.slice none 0 0, Value.slice none 0 0, Value.slice none 0 0, Value.int IntKind.i64 0, Value.int IntKind.i64 0, Value.slice none 0 0]) := ⟨⟨by kernel_rfl, by kernel_rfl, rfl, rfl, rfl, (fun h => by cases h), rfl⟩, by simp [ofVl, ofV, Go.Sx.cellsOf], by simp⟩
theorem tok42 : TOk Tryz.prog 42 ⟨.int .i64, [.int .i64 0], 1, 8, false, []⟩ (.int IntKind.i64 0) := ⟨⟨by kernel_rfl, by kernel_rfl, rfl, rfl, rfl, (fun h => by cases h), rfl⟩, by simp [ofVl, ofV, Go.Sx.cellsOf], by simp⟩
theorem tok48 : TOk Tryz.prog 48 ⟨.array 3 41, [.nilS, .nilS, .nilS, .int .i64 0, .int .i64 0, .nilS, .nilS, .nilS, .nilS, .int .i64 0, .int .i64 0, .nilS, .nilS, .nilS, .nilS, .int .i64 0, .int .i64 0, .nilS], 18, 336, false, []⟩ (.agg #[Value.slice none 0 0, Value.slice none 0 0, Value.slice none 0 0, Value.int IntKind.i64 0, Value.int IntKind.i64 0, Value.slice none 0 0, Value.slice none 0 0, Value.slice none 0 0, Value.slice none 0 0, Value.int IntKind.i64 0, Value.int IntKind.i64 0, Value.slice none 0 0, Value.slice none 0 0, Value.slice none 0 0, Value.slice none 0 0, Value.int IntKind.i64 0, Value.int IntKind.i64 0, Value.slice none 0 0]) := ⟨⟨by kernel_rfl, by kernel_rfl, rfl, rfl, rfl, (fun h => by cases h), rfl⟩, by simp [ofVl, ofV, Go.Sx.cellsOf], by simp⟩
theorem tok52 : TOk Tryz.prog 52 ⟨.array 3 23, [.int .i64 0, .int .i64 0, .bool false, .str [], .int .i64 0, .int .i64 0, .bool false, .str [], .int .i64 0, .int .i64 0, .bool false, .str []], 12, 120, false, []⟩ (.agg #[Value.int IntKind.i64 0, Value.int IntKind.i64 0, Value.bool false, Value.string { data := #[] }, Value.int IntKind.i64 0, Value.int IntKind.i64 0, Value.bool false, Value.string { data := #[] }, Value.int IntKind.i64 0, Value.int IntKind.i64 0, Value.bool false, Value.string { data := #[] }]) := ⟨⟨by kernel_rfl, by kernel_rfl, rfl, rfl, rfl, (fun h => by cases h), rfl⟩, by simp [ofVl, ofV, Go.Sx.cellsOf], by simp⟩
theorem tok61 : TOk Tryz.prog 61 ⟨.slice 71, [.nilS], 1, 24, false, []⟩ (.slice none 0 0) := ⟨⟨by kernel_rfl, by kernel_rfl, rfl, rfl, rfl, (fun h => by cases h), rfl⟩, by simp [ofVl, ofV, Go.Sx.cellsOf], by simp⟩
theorem tok63 : TOk Tryz.prog 63 ⟨.struct [(0, 3), (1, 61)], [.int .i64 0, .nilS], 2, 32, false, []⟩ (.agg #[Value.int IntKind.i64 0, Value.slice none 0 0]) := ⟨⟨by kernel_rfl, by kernel_rfl, rfl, rfl, rfl, (fun h => by cases h), rfl⟩, by simp [ofVl, ofV, Go.Sx.cellsOf], by simp⟩
theorem tok68 : TOk Tryz.prog 68 ⟨.slice 23, [.nilS], 1, 24, false, []⟩ (.slice none 0 0) := ⟨⟨by kernel_rfl, by kernel_rfl, rfl, rfl, rfl, (fun h => by cases h), rfl⟩, by simp [ofVl, ofV, Go.Sx.cellsOf], by simp⟩
theorem tok71 : TOk Tryz.prog 71 ⟨.array 2 3, [.int .i64 0, .int .i64 0], 2, 16, false, []⟩ (.agg #[Value.int IntKind.i64 0, Value.int IntKind.i64 0]) := ⟨⟨by kernel_rfl, by kernel_rfl, rfl, rfl, rfl, (fun h => by cases h), rfl⟩, by simp [ofVl, ofV, Go.Sx.cellsOf], by simp⟩
theorem tok75 : TOk Tryz.prog 75 ⟨.struct [(0, 3), (1, 3), (2, 3), (3, 3), (4, 38)], [.int .i64 0, .int .i64 0, .int .i64 0, .int .i64 0, .nilS], 5, 56, false, []⟩ (.agg #[Value.int IntKind.i64 0, Value.int IntKind.i64 0, Value.int IntKind.i64 0, Value.int IntKind.i64 0, Value.slice none 0 0]) := ⟨⟨by kernel_rfl, by kernel_rfl, rfl, rfl, rfl, (fun h => by cases h), rfl⟩, by simp [ofVl, ofV, Go.Sx.cellsOf], by simp⟩
theorem tok76 : TOk Tryz.prog 76 ⟨.int .i8, [.int .i8 0], 1, 1, false, []⟩ (.int IntKind.i8 0) := ⟨⟨by kernel_rfl, by kernel_rfl, rfl, rfl, rfl, (fun h => by cases h), rfl⟩, by simp [ofVl, ofV, Go.Sx.cellsOf], by simp⟩
theorem tok77 : TOk Tryz.prog 77 ⟨.array 2 38, [.nilS, .nilS], 2, 48, false, []⟩ (.agg #[Value.slice none 0 0, Value.slice none 0 0]) := ⟨⟨by kernel_rfl, by kernel_rfl, rfl, rfl, rfl, (fun h => by cases h), rfl⟩, by simp [ofVl, ofV, Go.Sx.cellsOf], by simp⟩
theorem tok81 : TOk Tryz.prog 81 ⟨.array 3 75, [.int .i64 0, .int .i64 0, .int .i64 0, .int .i64 0, .nilS, .int .i64 0, .int .i64 0, .int .i64 0, .int .i64 0, .nilS, .int .i64 0, .int .i64 0, .int .i64 0, .int .i64 0, .nilS], 15, 168, false, []⟩ (.agg #[Value.int IntKind.i64 0, Value.int IntKind.i64 0, Value.int IntKind.i64 0, Value.int IntKind.i64 0, Value.slice none 0 0, Value.int IntKind.i64 0, Value.int IntKind.i64 0, Value.int IntKind.i64 0, Value.int IntKind.i64 0, Value.slice none 0 0, Value.int IntKind.i64 0, Value.int IntKind.i64 0, Value.int IntKind.i64 0, Value.int IntKind.i64 0, Value.slice none 0 0]) := ⟨⟨by kernel_rfl, by kernel_rfl, rfl, rfl, rfl, (fun h => by cases h), rfl⟩, by simp [ofVl, ofV, Go.Sx.cellsOf], by simp⟩
theorem tok93 : TOk Tryz.prog 93 ⟨.struct [(0, 32), (8, 3), (9, 3), (10, 3), (11, 4), (12, 4), (13, 4)], [.int .i64 0, .int .i64 0, .int .i64 0, .int .i64 0, .bool false, .bool false, .bool false, .str [], .int .i64 0, .int .i64 0, .int .i64 0, .bool false, .bool false, .bool false], 14, 88, true, []⟩ (.agg #[Value.int IntKind.i64 0, Value.int IntKind.i64 0, Value.int IntKind.i64 0, Value.int IntKind.i64 0, Value.bool false, Value.bool false, Value.bool false, Value.string { data := #[] }, Value.int IntKind.i64 0, Value.int IntKind.i64 0, Value.int IntKind.i64 0, Value.bool false, Value.bool false, Value.bool false]) := ⟨⟨by kernel_rfl, by kernel_rfl, rfl, rfl, rfl, (fun _ => ⟨by kernel_rfl, by kernel_rfl, by kernel_rfl⟩), rfl⟩, by simp [ofVl, ofV, Go.Sx.cellsOf], by simp⟩
theorem tok94 : TOk Tryz.prog 94 ⟨.slice 93, [.nilS], 1, 24, false, []⟩ (.slice none 0 0) := ⟨⟨by kernel_rfl, by kernel_rfl, rfl, rfl, rfl, (fun h => by cases h), rfl⟩, by simp [ofVl, ofV, Go.Sx.cellsOf], by simp⟩
theorem tok99 : TOk Tryz.prog 99 ⟨.func, [.nilF], 1, 8, false, []⟩ (.nilFunc) := ⟨⟨by kernel_rfl, by kernel_rfl, rfl, rfl, rfl, (fun h => by cases h), rfl⟩, by simp [ofVl, ofV, Go.Sx.cellsOf], by simp⟩
theorem tok100 : TOk Tryz.prog 100 ⟨.func, [.nilF], 1, 8, false, []⟩ (.nilFunc) := ⟨⟨by kernel_rfl, by kernel_rfl, rfl, rfl, rfl, (fun h => by cases h), rfl⟩, by simp [ofVl, ofV, Go.Sx.cellsOf], by simp⟩
theorem tok105 : TOk Tryz.prog 105 ⟨.map 3 4, [.nilM], 1, 8, false, []⟩ (.map none) := ⟨⟨by kernel_rfl, by kernel_rfl, rfl, rfl, rfl, (fun h => by cases h), rfl⟩, by simp [ofVl, ofV, Go.Sx.cellsOf], by simp⟩
theorem tok108 : TOk Tryz.prog 108 ⟨.ptr 110, [.nilP], 1, 8, false, []⟩ (.pointer none) := ⟨⟨by kernel_rfl, by kernel_rfl, rfl, rfl, rfl, (fun h => by cases h), rfl⟩, by simp [ofVl, ofV, Go.Sx.cellsOf], by simp⟩
theorem tok110 : TOk Tryz.prog 110 ⟨.struct [(0, 41)], [.nilS, .nilS, .nilS, .int .i64 0, .int .i64 0, .nilS], 6, 112, false, []⟩ (.agg #[Value.slice none 0 0, Value.slice none 0 0, Value.slice none 0 0, Value.int IntKind.i64 0, Value.int IntKind.i64 0, Value.slice none 0 0]) := ⟨⟨by kernel_rfl, by kernel_rfl, rfl, rfl, rfl, (fun h => by cases h), rfl⟩, by simp [ofVl, ofV, Go.Sx.cellsOf], by simp⟩
theorem tok115 : TOk Tryz.prog 115 ⟨.func, [.nilF], 1, 8, false, []⟩ (.nilFunc) := ⟨⟨by kernel_rfl, by kernel_rfl, rfl, rfl, rfl, (fun h => by cases h), rfl⟩, by simp [ofVl, ofV, Go.Sx.cellsOf], by simp⟩
theorem tok122 : TOk Tryz.prog 122 ⟨.struct [(0, 3), (1, 3), (2, 9)], [.int .i64 0, .int .i64 0, .str []], 3, 32, true, []⟩ (.agg #[Value.int IntKind.i64 0, Value.int IntKind.i64 0, Value.string { data := #[] }]) := ⟨⟨by kernel_rfl, by kernel_rfl, rfl, rfl, rfl, (fun _ => ⟨by kernel_rfl, by kernel_rfl, by kernel_rfl⟩), rfl⟩, by simp [ofVl, ofV, Go.Sx.cellsOf], by simp⟩
theorem tok127 : TOk Tryz.prog 127 ⟨.int .u64, [.int .u64 0], 1, 8, false, []⟩ (.int IntKind.u64 0) := ⟨⟨by kernel_rfl, by kernel_rfl, rfl, rfl, rfl, (fun h => by cases h), rfl⟩, by simp [ofVl, ofV, Go.Sx.cellsOf], by simp⟩
theorem tok131 : TOk Tryz.prog 131 ⟨.ptr 133, [.nilP], 1, 8, false, []⟩ (.pointer none) := ⟨⟨by kernel_rfl, by kernel_rfl, rfl, rfl, rfl, (fun h => by cases h), rfl⟩, by simp [ofVl, ofV, Go.Sx.cellsOf], by simp⟩
theorem tok133 : TOk Tryz.prog 133 ⟨.struct [(0, 131), (1, 28)], [.nilP, .nilS], 2, 32, false, [(0, 133)]⟩ (.agg #[Value.pointer none, Value.slice none 0 0]) := ⟨⟨by kernel_rfl, by kernel_rfl, rfl, rfl, rfl, (fun h => by cases h), rfl⟩, by simp [ofVl, ofV, Go.Sx.cellsOf], by intro x hx; simp only [List.mem_cons, List.not_mem_nil, or_false] at hx; subst hx; kernel_rfl⟩
theorem tok136 : TOk Tryz.prog 136 ⟨.iface, [.nilI], 1, 16, false, []⟩ (.nilIface) := ⟨⟨by kernel_rfl, by kernel_rfl, rfl, rfl, rfl, (fun h => by cases h), rfl⟩, by simp [ofVl, ofV, Go.Sx.cellsOf], by simp⟩
theorem tok143 : TOk Tryz.prog 143 ⟨.func, [.nilF], 1, 8, false, []⟩ (.nilFunc) := ⟨⟨by kernel_rfl, by kernel_rfl, rfl, rfl, rfl, (fun h => by cases h), rfl⟩, by simp [ofVl, ofV, Go.Sx.cellsOf], by simp⟩
theorem tok149 : TOk Tryz.prog 149 ⟨.func, [.nilF], 1, 8, false, []⟩ (.nilFunc) := ⟨⟨by kernel_rfl, by kernel_rfl, rfl, rfl, rfl, (fun h => by cases h), rfl⟩, by simp [ofVl, ofV, Go.Sx.cellsOf], by simp⟩
theorem tok155 : TOk Tryz.prog 155 ⟨.map 3 32, [.nilM], 1, 8, false, []⟩ (.map none) := ⟨⟨by kernel_rfl, by kernel_rfl, rfl, rfl, rfl, (fun h => by cases h), rfl⟩, by simp [ofVl, ofV, Go.Sx.cellsOf], by simp⟩
theorem tok159 : TOk Tryz.prog 159 ⟨.func, [.nilF], 1, 8, false, []⟩ (.nilFunc) := ⟨⟨by kernel_rfl, by kernel_rfl, rfl, rfl, rfl, (fun h => by cases h), rfl⟩, by simp [ofVl, ofV, Go.Sx.cellsOf], by simp⟩
theorem tok165 : TOk Tryz.prog 165 ⟨.struct [(0, 75)], [.int .i64 0, .int .i64 0, .int .i64 0, .int .i64 0, .nilS], 5, 56, false, []⟩ (.agg #[Value.int IntKind.i64 0, Value.int IntKind.i64 0, Value.int IntKind.i64 0, Value.int IntKind.i64 0, Value.slice none 0 0]) := ⟨⟨by kernel_rfl, by kernel_rfl, rfl, rfl, rfl, (fun h => by cases h), rfl⟩, by simp [ofVl, ofV, Go.Sx.cellsOf], by simp⟩
theorem tok168 : TOk Tryz.prog 168 ⟨.int .u64, [.int .u64 0], 1, 8, false, []⟩ (.int IntKind.u64 0) := ⟨⟨by kernel_rfl, by kernel_rfl, rfl, rfl, rfl, (fun h => by cases h), rfl⟩, by simp [ofVl, ofV, Go.Sx.cellsOf], by simp⟩
theorem tok171 : TOk Tryz.prog 171 ⟨.ptr 5, [.nilP], 1, 8, false, []⟩ (.pointer none) := ⟨⟨by kernel_rfl, by kernel_rfl, rfl, rfl, rfl, (fun h => by cases h), rfl⟩, by simp [ofVl, ofV, Go.Sx.cellsOf], by simp⟩
theorem tok173 : TOk Tryz.prog 173 ⟨.struct [(0, 63)], [.int .i64 0, .nilS], 2, 32, false, []⟩ (.agg #[Value.int IntKind.i64 0, Value.slice none 0 0]) := ⟨⟨by kernel_rfl, by kernel_rfl, rfl, rfl, rfl, (fun h => by cases h), rfl⟩, by simp [ofVl, ofV, Go.Sx.cellsOf], by simp⟩
theorem tok179 : TOk Tryz.prog 179 ⟨.struct [(0, 32)], [.int .i64 0, .int .i64 0, .int .i64 0, .int .i64 0, .bool false, .bool false, .bool false, .str []], 8, 56, true, []⟩ (.agg #[Value.int IntKind.i64 0, Value.int IntKind.i64 0, Value.int IntKind.i64 0, Value.int IntKind.i64 0, Value.bool false, Value.bool false, Value.bool false, Value.string { data := #[] }]) := ⟨⟨by kernel_rfl, by kernel_rfl, rfl, rfl, rfl, (fun _ => ⟨by kernel_rfl, by kernel_rfl, by kernel_rfl⟩), rfl⟩, by simp [ofVl, ofV, Go.Sx.cellsOf], by simp⟩
theorem tok182 : TOk Tryz.prog 182 ⟨.iface, [.nilI], 1, 16, false, []⟩ (.nilIface) := ⟨⟨by kernel_rfl, by kernel_rfl, rfl, rfl, rfl, (fun h => by cases h), rfl⟩, by simp [ofVl, ofV, Go.Sx.cellsOf], by simp⟩
theorem tok184 : TOk Tryz.prog 184 ⟨.struct [(0, 133)], [.nilP, .nilS], 2, 32, false, [(0, 133)]⟩ (.agg #[Value.pointer none, Value.slice none 0 0]) := ⟨⟨by kernel_rfl, by kernel_rfl, rfl, rfl, rfl, (fun h => by cases h), rfl⟩, by simp [ofVl, ofV, Go.Sx.cellsOf], by intro x hx; simp only [List.mem_cons, List.not_mem_nil, or_false] at hx; subst hx; kernel_rfl⟩
theorem tok187 : TOk Tryz.prog 187 ⟨.ptr 184, [.nilP], 1, 8, false, []⟩ (.pointer none) := ⟨⟨by kernel_rfl, by kernel_rfl, rfl, rfl, rfl, (fun h => by cases h), rfl⟩, by simp [ofVl, ofV, Go.Sx.cellsOf], by simp⟩
theorem tok188 : TOk Tryz.prog 188 ⟨.uptr, [.nilP], 1, 8, false, []⟩ (.pointer none) := ⟨⟨by kernel_rfl, by kernel_rfl, rfl, rfl, rfl, (fun h => by cases h), rfl⟩, by simp [ofVl, ofV, Go.Sx.cellsOf], by simp⟩
theorem tok206 : TOk Tryz.prog 206 ⟨.array 3 4, [.bool false, .bool false, .bool false], 3, 3, false, []⟩ (.agg #[Value.bool false, Value.bool false, Value.bool false]) := ⟨⟨by kernel_rfl, by kernel_rfl, rfl, rfl, rfl, (fun h => by cases h), rfl⟩, by simp [ofVl, ofV, Go.Sx.cellsOf], by simp⟩
theorem tysOk : Tys.Ok Tryz.prog tys := TysAll.ok ⟨⟨_, tok3⟩, ⟨_, tok4⟩, ⟨_, tok5⟩, ⟨_, tok9⟩, ⟨_, tok23⟩, ⟨_, tok24⟩, ⟨_, tok25⟩, ⟨_, tok26⟩, ⟨_, tok27⟩, ⟨_, tok28⟩, ⟨_, tok30⟩, ⟨_, tok32⟩, ⟨_, tok34⟩, ⟨_, tok36⟩, ⟨_, tok38⟩, ⟨_, tok39⟩, ⟨_, tok41⟩, ⟨_, tok42⟩, ⟨_, tok48⟩, ⟨_, tok52⟩, ⟨_, tok61⟩, ⟨_, tok63⟩, ⟨_, tok68⟩, ⟨_, tok71⟩, ⟨_, tok75⟩, ⟨_, tok76⟩, ⟨_, tok77⟩, ⟨_, tok81⟩, ⟨_, tok93⟩, ⟨_, tok94⟩, ⟨_, tok99⟩, ⟨_, tok100⟩, ⟨_, tok105⟩, ⟨_, tok108⟩, ⟨_, tok110⟩, ⟨_, tok115⟩, ⟨_, tok122⟩, ⟨_, tok127⟩, ⟨_, tok131⟩, ⟨_, tok133⟩, ⟨_, tok136⟩, ⟨_, tok143⟩, ⟨_, tok149⟩, ⟨_, tok155⟩, ⟨_, tok159⟩, ⟨_, tok165⟩, ⟨_, tok168⟩, ⟨_, tok171⟩, ⟨_, tok173⟩, ⟨_, tok179⟩, ⟨_, tok182⟩, ⟨_, tok184⟩, ⟨_, tok187⟩, ⟨_, tok188⟩, ⟨_, tok206⟩, trivial⟩
def FieldsIn (T : Tys) : Tys → Bool
 | [] => true
 | (_, i) :: l => (match i.k with | .struct fs => fs.all (fun f => (T.get f.2).isSome) | _ => true) && FieldsIn T l
theorem FieldsIn.ok {T : Tys} : ∀ {L : Tys}, FieldsIn T L = true → ∀ t i fs, L.get t = some i → i.k = .struct fs → ∀ f ∈ fs, ∃ fi, T.get f.2 = some fi
 | [], _, t, i, fs, h => by cases h
 | (u, j) :: l, h, t, i, fs, hg => by
  simp only [FieldsIn, Bool.and_eq_true] at h
  simp only [Tys.get] at hg
  split at hg
  ·injection hg with hg; subst hg
   intro hk f hf
   have h1 := h.1
   rw [hk] at h1
   simp only [List.all_eq_true] at h1
   exact Option.isSome_iff_exists.1 (h1 f hf)
  ·exact FieldsIn.ok h.2 t i fs hg
theorem fieldsOk : AllFields tys := FieldsIn.ok (by kernel_rfl)
theorem mixedOk : Tryz.prog.follows .mixedOrders = true := by kernel_rfl
def meths : Meths := [(165, "tannoy/chunk.valid", 137), (165, "tannoy/chunk.write", 138), (173, "tannoy/chunk.valid", 142), (173, "tannoy/chunk.write", 143), (179, "tannoy/chunk.valid", 144), (179, "tannoy/chunk.write", 145)]
theorem meth0 (v : Value) (w : World) : (method (Tryz.prog.types.size + Made.depth) 165 v "tannoy/chunk.valid").run Tryz.prog w = .ok (137, v) w := by kernel_rfl
theorem meth1 (v : Value) (w : World) : (method (Tryz.prog.types.size + Made.depth) 165 v "tannoy/chunk.write").run Tryz.prog w = .ok (138, v) w := by kernel_rfl
theorem meth2 (v : Value) (w : World) : (method (Tryz.prog.types.size + Made.depth) 173 v "tannoy/chunk.valid").run Tryz.prog w = .ok (142, v) w := by kernel_rfl
theorem meth3 (v : Value) (w : World) : (method (Tryz.prog.types.size + Made.depth) 173 v "tannoy/chunk.write").run Tryz.prog w = .ok (143, v) w := by kernel_rfl
theorem meth4 (v : Value) (w : World) : (method (Tryz.prog.types.size + Made.depth) 179 v "tannoy/chunk.valid").run Tryz.prog w = .ok (144, v) w := by kernel_rfl
theorem meth5 (v : Value) (w : World) : (method (Tryz.prog.types.size + Made.depth) 179 v "tannoy/chunk.write").run Tryz.prog w = .ok (145, v) w := by kernel_rfl
theorem methsOk : meths.Ok Tryz.prog := by
 intro t n f h v w
 simp only [meths, Meths.get] at h
 split at h
 ·rename_i hc; obtain ⟨e1, e2⟩ := hc; simp only [Option.some.injEq] at h; rw [← e1, ← e2, ← h]; exact meth0 v w
 split at h
 ·rename_i hc; obtain ⟨e1, e2⟩ := hc; simp only [Option.some.injEq] at h; rw [← e1, ← e2, ← h]; exact meth1 v w
 split at h
 ·rename_i hc; obtain ⟨e1, e2⟩ := hc; simp only [Option.some.injEq] at h; rw [← e1, ← e2, ← h]; exact meth2 v w
 split at h
 ·rename_i hc; obtain ⟨e1, e2⟩ := hc; simp only [Option.some.injEq] at h; rw [← e1, ← e2, ← h]; exact meth3 v w
 split at h
 ·rename_i hc; obtain ⟨e1, e2⟩ := hc; simp only [Option.some.injEq] at h; rw [← e1, ← e2, ← h]; exact meth4 v w
 split at h
 ·rename_i hc; obtain ⟨e1, e2⟩ := hc; simp only [Option.some.injEq] at h; rw [← e1, ← e2, ← h]; exact meth5 v w
 cases h
noncomputable def cx (L : Nat) : Cx := ⟨Tryz.prog, tys, meths, false, L, none, []⟩
theorem cxOk (L : Nat) : (cx L).Ok := ⟨tysOk, fieldsOk, mixedOk, methsOk⟩
attribute [go_sem] g3 g4 g5 g9 g23 g24 g25 g26 g27 g28 g30 g32 g34 g36 g38 g39 g41 g42 g48 g52 g61 g63 g68 g71 g75 g76 g77 g81 g93 g94 g99 g100 g105 g108 g110 g115 g122 g127 g131 g133 g136 g143 g149 g155 g159 g165 g168 g171 g173 g179 g182 g184 g187 g188 g206
theorem bdy (fn : Func) {f : FuncId} {args : List PV} {F : SF} {L nx : Nat} {v : PV} {upd : List (Nm × SBlk)} {rd : List Nm} (H : ∀ F3 : SF, (∀ n ∈ rd, F3 n = F n) → (∀ n : Nm, L < n.l → F3 n = none) → vcC (cx (L + 1)) F3 (fn.body.getD .skip) ⟨initT args fn.ntmps, [], 0⟩ (PostF (cx (L + 1)).T F3 fn.results.toList L v upd)) (hrd : ∀ n ∈ rd, n.l ≤ L := by simp) (hf : Tryz.prog.funcs[f]? = some fn := by kernel_rfl) (hb : fn.body = some (fn.body.getD .skip) := by rfl) (hnum : (fn.name == "runtime.NumGoroutine") = false := by kernel_rfl) : Con Tryz.prog f args F L nx nx v upd rd := Con.body (cxOk (L + 1)) rfl rfl hf hb hnum rfl hrd H
theorem bdyN (fn : Func) {f : FuncId} {args : List PV} {F : SF} {L nx k : Nat} {v : PV} {upd : List (Nm × SBlk)} {rd : List Nm} (H : ∀ F3 : SF, (∀ n ∈ rd, F3 n = F n) → (∀ n : Nm, L < n.l → F3 n = none) → vcC (cx (L + 1)) F3 (fn.body.getD .skip) ⟨initT args fn.ntmps, [], 0⟩ (PostS (cx (L + 1)).T F3 fn.results.toList L nx v upd k)) (hrd : ∀ n ∈ rd, n.l ≤ L := by simp) (hf : Tryz.prog.funcs[f]? = some fn := by kernel_rfl) (hb : fn.body = some (fn.body.getD .skip) := by rfl) (hnum : (fn.name == "runtime.NumGoroutine") = false := by kernel_rfl) : Con Tryz.prog f args F L nx (nx + k) v upd rd := Con.bodyN (cxOk (L + 1)) rfl rfl hf hb hnum rfl hrd H
end Go.Proofs.YtfhhbkehlfipgaaGreat
end
