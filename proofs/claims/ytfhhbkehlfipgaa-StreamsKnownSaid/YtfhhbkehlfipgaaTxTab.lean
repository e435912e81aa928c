/- Lemmas for the walk: YtfhhbkehlfipgaaTxT. -/
import Derived.Test.YtfhhbkehlfipgaaProg
import Derived.Test.YtfhhbkehlfipgaaP08
import Derived.KernelRfl
set_option linter.all false
section
namespace Go.Proofs.Ytfhhbkehlfipgaa
open Go.Tx
def TysAll (P : Program) : Tys → Prop
 | [] => True
 | (t, i) :: l => (∃ z, TOk P t i z) ∧ TysAll P l
theorem TysAll.ok {P : Program} : ∀ {T : Tys}, TysAll P T → T.Ok P
 | [], _, t, i, h => by cases h
 | (u, j) :: l, h, t, i, hg => by
  simp only [Tys.get] at hg
  split at hg
  ·rename_i he
   injection hg with hg; subst hg
   have := eq_of_beq he; subst this
   exact h.1
  ·exact TysAll.ok h.2 t i hg
def tys : Tys := [
 (3, ⟨.int .i64, [.int .i64 0], 1, 8, false, []⟩),
 (4, ⟨.bool, [.bool false], 1, 1, false, []⟩),
 (5, ⟨.int .u8, [.int .u8 0], 1, 1, false, []⟩),
 (9, ⟨.str, [.str []], 1, 16, false, []⟩),
 (22, ⟨.int .u32, [.int .u32 0], 1, 4, false, []⟩),
 (23, ⟨.int .u16, [.int .u16 0], 1, 2, false, []⟩),
 (24, ⟨.array 2 23, [.int .u16 0, .int .u16 0], 2, 4, false, []⟩),
 (25, ⟨.slice 30, [.nilS], 1, 24, false, []⟩),
 (26, ⟨.slice 5, [.nilS], 1, 24, false, []⟩),
 (28, ⟨.struct [(0, 5), (1, 5), (2, 22), (3, 24), (5, 25), (6, 26)], [.int .u8 0, .int .u8 0, .int .u32 0, .int .u16 0, .int .u16 0, .nilS, .nilS], 7, 64, false, []⟩),
 (30, ⟨.struct [(0, 5), (1, 5), (2, 23), (3, 4)], [.int .u8 0, .int .u8 0, .int .u16 0, .bool false], 4, 6, true, []⟩),
 (31, ⟨.slice 3, [.nilS], 1, 24, false, []⟩),
 (32, ⟨.slice 43, [.nilS], 1, 24, false, []⟩),
 (34, ⟨.struct [(0, 31), (1, 31), (2, 32), (3, 3), (4, 3), (5, 31)], [.nilS, .nilS, .nilS, .int .i64 0, .int .i64 0, .nilS], 6, 112, false, []⟩),
 (37, ⟨.struct [(0, 3), (1, 3), (2, 4), (3, 9)], [.int .i64 0, .int .i64 0, .bool false, .str []], 4, 40, true, []⟩),
 (39, ⟨.int .i64, [.int .i64 0], 1, 8, false, []⟩),
 (43, ⟨.struct [(0, 3), (1, 3), (2, 3), (3, 3), (4, 4), (5, 4), (6, 4), (7, 9)], [.int .i64 0, .int .i64 0, .int .i64 0, .int .i64 0, .bool false, .bool false, .bool false, .str []], 8, 56, true, []⟩),
 (48, ⟨.struct [(0, 3), (1, 3), (2, 3), (3, 3), (4, 31)], [.int .i64 0, .int .i64 0, .int .i64 0, .int .i64 0, .nilS], 5, 56, false, []⟩),
 (58, ⟨.slice 37, [.nilS], 1, 24, false, []⟩),
 (67, ⟨.func, [.nilF], 1, 8, false, []⟩),
 (73, ⟨.slice 77, [.nilS], 1, 24, false, []⟩),
 (75, ⟨.struct [(0, 3), (1, 73)], [.int .i64 0, .nilS], 2, 32, false, []⟩),
 (77, ⟨.array 2 3, [.int .i64 0, .int .i64 0], 2, 16, false, []⟩),
 (80, ⟨.slice 85, [.nilS], 1, 24, false, []⟩),
 (81, ⟨.int .i8, [.int .i8 0], 1, 1, false, []⟩),
 (82, ⟨.array 16 81, [.int .i8 0, .int .i8 0, .int .i8 0, .int .i8 0, .int .i8 0, .int .i8 0, .int .i8 0, .int .i8 0, .int .i8 0, .int .i8 0, .int .i8 0, .int .i8 0, .int .i8 0, .int .i8 0, .int .i8 0, .int .i8 0], 16, 16, false, []⟩),
 (85, ⟨.struct [(0, 43), (8, 3), (9, 3), (10, 3), (11, 4), (12, 4), (13, 4)], [.int .i64 0, .int .i64 0, .int .i64 0, .int .i64 0, .bool false, .bool false, .bool false, .str [], .int .i64 0, .int .i64 0, .int .i64 0, .bool false, .bool false, .bool false], 14, 88, true, []⟩),
 (87, ⟨.array 3 80, [.nilS, .nilS, .nilS], 3, 72, false, []⟩),
 (88, ⟨.array 3 31, [.nilS, .nilS, .nilS], 3, 72, false, []⟩),
 (95, ⟨.struct [(0, 5), (1, 5), (2, 3), (3, 43)], [.int .u8 0, .int .u8 0, .int .i64 0, .int .i64 0, .int .i64 0, .int .i64 0, .int .i64 0, .bool false, .bool false, .bool false, .str []], 11, 72, true, []⟩),
 (100, ⟨.ptr 106, [.nilP], 1, 8, false, []⟩),
 (106, ⟨.struct [(0, 34)], [.nilS, .nilS, .nilS, .int .i64 0, .int .i64 0, .nilS], 6, 112, false, []⟩),
 (109, ⟨.func, [.nilF], 1, 8, false, []⟩),
 (112, ⟨.struct [(0, 3), (1, 3), (2, 9)], [.int .i64 0, .int .i64 0, .str []], 3, 32, true, []⟩),
 (117, ⟨.func, [.nilF], 1, 8, false, []⟩),
 (124, ⟨.func, [.nilF], 1, 8, false, []⟩),
 (128, ⟨.array 2 31, [.nilS, .nilS], 2, 48, false, []⟩),
 (129, ⟨.map 3 4, [.nilM], 1, 8, false, []⟩),
 (136, ⟨.func, [.nilF], 1, 8, false, []⟩),
 (138, ⟨.func, [.nilF], 1, 8, false, []⟩),
 (141, ⟨.int .u64, [.int .u64 0], 1, 8, false, []⟩),
 (145, ⟨.ptr 147, [.nilP], 1, 8, false, []⟩),
 (147, ⟨.struct [(0, 145), (1, 26)], [.nilP, .nilS], 2, 32, false, [(0, 147)]⟩),
 (150, ⟨.iface, [.nilI], 1, 16, false, []⟩),
 (157, ⟨.func, [.nilF], 1, 8, false, []⟩),
 (160, ⟨.struct [(0, 48)], [.int .i64 0, .int .i64 0, .int .i64 0, .int .i64 0, .nilS], 5, 56, false, []⟩),
 (164, ⟨.struct [(0, 75)], [.int .i64 0, .nilS], 2, 32, false, []⟩),
 (168, ⟨.map 3 43, [.nilM], 1, 8, false, []⟩),
 (174, ⟨.int .u64, [.int .u64 0], 1, 8, false, []⟩),
 (177, ⟨.ptr 5, [.nilP], 1, 8, false, []⟩),
 (179, ⟨.iface, [.nilI], 1, 16, false, []⟩),
 (181, ⟨.struct [(0, 147)], [.nilP, .nilS], 2, 32, false, [(0, 147)]⟩),
 (184, ⟨.ptr 181, [.nilP], 1, 8, false, []⟩),
 (186, ⟨.struct [(0, 43)], [.int .i64 0, .int .i64 0, .int .i64 0, .int .i64 0, .bool false, .bool false, .bool false, .str []], 8, 56, true, []⟩),
 (188, ⟨.uptr, [.nilP], 1, 8, false, []⟩),
 (206, ⟨.array 3 4, [.bool false, .bool false, .bool false], 3, 3, false, []⟩)]
theorem g3 : Tys.get tys 3 = some ⟨.int .i64, [.int .i64 0], 1, 8, false, []⟩ := rfl
theorem g4 : Tys.get tys 4 = some ⟨.bool, [.bool false], 1, 1, false, []⟩ := rfl
theorem g5 : Tys.get tys 5 = some ⟨.int .u8, [.int .u8 0], 1, 1, false, []⟩ := rfl
theorem g9 : Tys.get tys 9 = some ⟨.str, [.str []], 1, 16, false, []⟩ := rfl
theorem g22 : Tys.get tys 22 = some ⟨.int .u32, [.int .u32 0], 1, 4, false, []⟩ := rfl
theorem g23 : Tys.get tys 23 = some ⟨.int .u16, [.int .u16 0], 1, 2, false, []⟩ := rfl
theorem g24 : Tys.get tys 24 = some ⟨.array 2 23, [.int .u16 0, .int .u16 0], 2, 4, false, []⟩ := rfl
theorem g25 : Tys.get tys 25 = some ⟨.slice 30, [.nilS], 1, 24, false, []⟩ := rfl
theorem g26 : Tys.get tys 26 = some ⟨.slice 5, [.nilS], 1, 24, false, []⟩ := rfl
theorem g28 : Tys.get tys 28 = some ⟨.struct [(0, 5), (1, 5), (2, 22), (3, 24), (5, 25), (6, 26)], [.int .u8 0, .int .u8 0, .int .u32 0, .int .u16 0, .int .u16 0, .nilS, .nilS], 7, 64, false, []⟩ := rfl
theorem g30 : Tys.get tys 30 = some ⟨.struct [(0, 5), (1, 5), (2, 23), (3, 4)], [.int .u8 0, .int .u8 0, .int .u16 0, .bool false], 4, 6, true, []⟩ := rfl
theorem g31 : Tys.get tys 31 = some ⟨.slice 3, [.nilS], 1, 24, false, []⟩ := rfl
theorem g32 : Tys.get tys 32 = some ⟨.slice 43, [.nilS], 1, 24, false, []⟩ := rfl
theorem g34 : Tys.get tys 34 = some ⟨.struct [(0, 31), (1, 31), (2, 32), (3, 3), (4, 3), (5, 31)], [.nilS, .nilS, .nilS, .int .i64 0, .int .i64 0, .nilS], 6, 112, false, []⟩ := rfl
theorem g37 : Tys.get tys 37 = some ⟨.struct [(0, 3), (1, 3), (2, 4), (3, 9)], [.int .i64 0, .int .i64 0, .bool false, .str []], 4, 40, true, []⟩ := rfl
theorem g39 : Tys.get tys 39 = some ⟨.int .i64, [.int .i64 0], 1, 8, false, []⟩ := rfl
theorem g43 : Tys.get tys 43 = some ⟨.struct [(0, 3), (1, 3), (2, 3), (3, 3), (4, 4), (5, 4), (6, 4), (7, 9)], [.int .i64 0, .int .i64 0, .int .i64 0, .int .i64 0, .bool false, .bool false, .bool false, .str []], 8, 56, true, []⟩ := rfl
theorem g48 : Tys.get tys 48 = some ⟨.struct [(0, 3), (1, 3), (2, 3), (3, 3), (4, 31)], [.int .i64 0, .int .i64 0, .int .i64 0, .int .i64 0, .nilS], 5, 56, false, []⟩ := rfl
theorem g58 : Tys.get tys 58 = some ⟨.slice 37, [.nilS], 1, 24, false, []⟩ := rfl
theorem g67 : Tys.get tys 67 = some ⟨.func, [.nilF], 1, 8, false, []⟩ := rfl
theorem g73 : Tys.get tys 73 = some ⟨.slice 77, [.nilS], 1, 24, false, []⟩ := rfl
theorem g75 : Tys.get tys 75 = some ⟨.struct [(0, 3), (1, 73)], [.int .i64 0, .nilS], 2, 32, false, []⟩ := rfl
theorem g77 : Tys.get tys 77 = some ⟨.array 2 3, [.int .i64 0, .int .i64 0], 2, 16, false, []⟩ := rfl
theorem g80 : Tys.get tys 80 = some ⟨.slice 85, [.nilS], 1, 24, false, []⟩ := rfl
theorem g81 : Tys.get tys 81 = some ⟨.int .i8, [.int .i8 0], 1, 1, false, []⟩ := rfl
theorem g82 : Tys.get tys 82 = some ⟨.array 16 81, [.int .i8 0, .int .i8 0, .int .i8 0, .int .i8 0, .int .i8 0, .int .i8 0, .int .i8 0, .int .i8 0, .int .i8 0, .int .i8 0, .int .i8 0, .int .i8 0, .int .i8 0, .int .i8 0, .int .i8 0, .int .i8 0], 16, 16, false, []⟩ := rfl
theorem g85 : Tys.get tys 85 = some ⟨.struct [(0, 43), (8, 3), (9, 3), (10, 3), (11, 4), (12, 4), (13, 4)], [.int .i64 0, .int .i64 0, .int .i64 0, .int .i64 0, .bool false, .bool false, .bool false, .str [], .int .i64 0, .int .i64 0, .int .i64 0, .bool false, .bool false, .bool false], 14, 88, true, []⟩ := rfl
theorem g87 : Tys.get tys 87 = some ⟨.array 3 80, [.nilS, .nilS, .nilS], 3, 72, false, []⟩ := rfl
theorem g88 : Tys.get tys 88 = some ⟨.array 3 31, [.nilS, .nilS, .nilS], 3, 72, false, []⟩ := rfl
theorem g95 : Tys.get tys 95 = some ⟨.struct [(0, 5), (1, 5), (2, 3), (3, 43)], [.int .u8 0, .int .u8 0, .int .i64 0, .int .i64 0, .int .i64 0, .int .i64 0, .int .i64 0, .bool false, .bool false, .bool false, .str []], 11, 72, true, []⟩ := rfl
theorem g100 : Tys.get tys 100 = some ⟨.ptr 106, [.nilP], 1, 8, false, []⟩ := rfl
theorem g106 : Tys.get tys 106 = some ⟨.struct [(0, 34)], [.nilS, .nilS, .nilS, .int .i64 0, .int .i64 0, .nilS], 6, 112, false, []⟩ := rfl
theorem g109 : Tys.get tys 109 = some ⟨.func, [.nilF], 1, 8, false, []⟩ := rfl
theorem g112 : Tys.get tys 112 = some ⟨.struct [(0, 3), (1, 3), (2, 9)], [.int .i64 0, .int .i64 0, .str []], 3, 32, true, []⟩ := rfl
theorem g117 : Tys.get tys 117 = some ⟨.func, [.nilF], 1, 8, false, []⟩ := rfl
theorem g124 : Tys.get tys 124 = some ⟨.func, [.nilF], 1, 8, false, []⟩ := rfl
theorem g128 : Tys.get tys 128 = some ⟨.array 2 31, [.nilS, .nilS], 2, 48, false, []⟩ := rfl
theorem g129 : Tys.get tys 129 = some ⟨.map 3 4, [.nilM], 1, 8, false, []⟩ := rfl
theorem g136 : Tys.get tys 136 = some ⟨.func, [.nilF], 1, 8, false, []⟩ := rfl
theorem g138 : Tys.get tys 138 = some ⟨.func, [.nilF], 1, 8, false, []⟩ := rfl
theorem g141 : Tys.get tys 141 = some ⟨.int .u64, [.int .u64 0], 1, 8, false, []⟩ := rfl
theorem g145 : Tys.get tys 145 = some ⟨.ptr 147, [.nilP], 1, 8, false, []⟩ := rfl
theorem g147 : Tys.get tys 147 = some ⟨.struct [(0, 145), (1, 26)], [.nilP, .nilS], 2, 32, false, [(0, 147)]⟩ := rfl
theorem g150 : Tys.get tys 150 = some ⟨.iface, [.nilI], 1, 16, false, []⟩ := rfl
theorem g157 : Tys.get tys 157 = some ⟨.func, [.nilF], 1, 8, false, []⟩ := rfl
theorem g160 : Tys.get tys 160 = some ⟨.struct [(0, 48)], [.int .i64 0, .int .i64 0, .int .i64 0, .int .i64 0, .nilS], 5, 56, false, []⟩ := rfl
theorem g164 : Tys.get tys 164 = some ⟨.struct [(0, 75)], [.int .i64 0, .nilS], 2, 32, false, []⟩ := rfl
theorem g168 : Tys.get tys 168 = some ⟨.map 3 43, [.nilM], 1, 8, false, []⟩ := rfl
theorem g174 : Tys.get tys 174 = some ⟨.int .u64, [.int .u64 0], 1, 8, false, []⟩ := rfl
theorem g177 : Tys.get tys 177 = some ⟨.ptr 5, [.nilP], 1, 8, false, []⟩ := rfl
theorem g179 : Tys.get tys 179 = some ⟨.iface, [.nilI], 1, 16, false, []⟩ := rfl
theorem g181 : Tys.get tys 181 = some ⟨.struct [(0, 147)], [.nilP, .nilS], 2, 32, false, [(0, 147)]⟩ := rfl
theorem g184 : Tys.get tys 184 = some ⟨.ptr 181, [.nilP], 1, 8, false, []⟩ := rfl
theorem g186 : Tys.get tys 186 = some ⟨.struct [(0, 43)], [.int .i64 0, .int .i64 0, .int .i64 0, .int .i64 0, .bool false, .bool false, .bool false, .str []], 8, 56, true, []⟩ := rfl
theorem g188 : Tys.get tys 188 = some ⟨.uptr, [.nilP], 1, 8, false, []⟩ := rfl
theorem g206 : Tys.get tys 206 = some ⟨.array 3 4, [.bool false, .bool false, .bool false], 3, 3, false, []⟩ := rfl
theorem tok3 : TOk Try.prog 3 ⟨.int .i64, [.int .i64 0], 1, 8, false, []⟩ (.int IntKind.i64 0) := ⟨⟨by kernel_rfl, by kernel_rfl, rfl, rfl, rfl, (fun h => by cases h), rfl⟩, by simp [ofVl, ofV, Go.Sx.cellsOf], by simp⟩
theorem tok4 : TOk Try.prog 4 ⟨.bool, [.bool false], 1, 1, false, []⟩ (.bool false) := ⟨⟨by kernel_rfl, by kernel_rfl, rfl, rfl, rfl, (fun h => by cases h), rfl⟩, by simp [ofVl, ofV, Go.Sx.cellsOf], by simp⟩
theorem tok5 : TOk Try.prog 5 ⟨.int .u8, [.int .u8 0], 1, 1, false, []⟩ (.int IntKind.u8 0) := ⟨⟨by kernel_rfl, by kernel_rfl, rfl, rfl, rfl, (fun h => by cases h), rfl⟩, by simp [ofVl, ofV, Go.Sx.cellsOf], by simp⟩
theorem tok9 : TOk Try.prog 9 ⟨.str, [.str []], 1, 16, false, []⟩ (.string { data := #[] }) := ⟨⟨by kernel_rfl, by kernel_rfl, rfl, rfl, rfl, (fun h => by cases h), rfl⟩, by simp [ofVl, ofV, Go.Sx.cellsOf], by simp⟩
theorem tok22 : TOk Try.prog 22 ⟨.int .u32, [.int .u32 0], 1, 4, false, []⟩ (.int IntKind.u32 0) := ⟨⟨by kernel_rfl, by kernel_rfl, rfl, rfl, rfl, (fun h => by cases h), rfl⟩, by simp [ofVl, ofV, Go.Sx.cellsOf], by simp⟩
theorem tok23 : TOk Try.prog 23 ⟨.int .u16, [.int .u16 0], 1, 2, false, []⟩ (.int IntKind.u16 0) := ⟨⟨by kernel_rfl, by kernel_rfl, rfl, rfl, rfl, (fun h => by cases h), rfl⟩, by simp [ofVl, ofV, Go.Sx.cellsOf], by simp⟩
theorem tok24 : TOk Try.prog 24 ⟨.array 2 23, [.int .u16 0, .int .u16 0], 2, 4, false, []⟩ (.agg #[Value.int IntKind.u16 0, Value.int IntKind.u16 0]) := ⟨⟨by kernel_rfl, by kernel_rfl, rfl, rfl, rfl, (fun h => by cases h), rfl⟩, by simp [ofVl, ofV, Go.Sx.cellsOf], by simp⟩
theorem tok25 : TOk Try.prog 25 ⟨.slice 30, [.nilS], 1, 24, false, []⟩ (.slice none 0 0) := ⟨⟨by kernel_rfl, by kernel_rfl, rfl, rfl, rfl, (fun h => by cases h), rfl⟩, by simp [ofVl, ofV, Go.Sx.cellsOf], by simp⟩
theorem tok26 : TOk Try.prog 26 ⟨.slice 5, [.nilS], 1, 24, false, []⟩ (.slice none 0 0) := ⟨⟨by kernel_rfl, by kernel_rfl, rfl, rfl, rfl, (fun h => by cases h), rfl⟩, by simp [ofVl, ofV, Go.Sx.cellsOf], by simp⟩
theorem tok28 : TOk Try.prog 28 ⟨.struct [(0, 5), (1, 5), (2, 22), (3, 24), (5, 25), (6, 26)], [.int .u8 0, .int .u8 0, .int .u32 0, .int .u16 0, .int .u16 0, .nilS, .nilS], 7, 64, false, []⟩ (.agg #[Value.int IntKind.u8 0, Value.int IntKind.u8 0, Value.int IntKind.u32 0, Value.int IntKind.u16 0, Value.int IntKind.u16 0, Value.slice none 0 0, Value.slice none 0 0]) := ⟨⟨by kernel_rfl, by kernel_rfl, rfl, rfl, rfl, (fun h => by cases h), rfl⟩, by simp [ofVl, ofV, Go.Sx.cellsOf], by simp⟩
theorem tok30 : TOk Try.prog 30 ⟨.struct [(0, 5), (1, 5), (2, 23), (3, 4)], [.int .u8 0, .int .u8 0, .int .u16 0, .bool false], 4, 6, true, []⟩ (.agg #[Value.int IntKind.u8 0, Value.int IntKind.u8 0, Value.int IntKind.u16 0, Value.bool false]) := ⟨⟨by kernel_rfl, by kernel_rfl, rfl, rfl, rfl, (fun _ => ⟨by kernel_rfl, by kernel_rfl, by kernel_rfl⟩), rfl⟩, by simp [ofVl, ofV, Go.Sx.cellsOf], by simp⟩
theorem tok31 : TOk Try.prog 31 ⟨.slice 3, [.nilS], 1, 24, false, []⟩ (.slice none 0 0) := ⟨⟨by kernel_rfl, by kernel_rfl, rfl, rfl, rfl, (fun h => by cases h), rfl⟩, by simp [ofVl, ofV, Go.Sx.cellsOf], by simp⟩
theorem tok32 : TOk Try.prog 32 ⟨.slice 43, [.nilS], 1, 24, false, []⟩ (.slice none 0 0) := ⟨⟨by kernel_rfl, by kernel_rfl, rfl, rfl, rfl, (fun h => by cases h), rfl⟩, by simp [ofVl, ofV, Go.Sx.cellsOf], by simp⟩
theorem tok34 : TOk Try.prog 34 ⟨.struct [(0, 31), (1, 31), (2, 32), (3, 3), (4, 3), (5, 31)], [.nilS, .nilS, .nilS, .int .i64 0, .int .i64 0, .nilS], 6, 112, false, []⟩ (.agg #[Value.slice none 0 0, Value.slice none 0 0, Value.slice none 0 0, Value.int IntKind.i64 0, Value.int IntKind.i64 0, Value.slice none 0 0]) := ⟨⟨by kernel_rfl, by kernel_rfl, rfl, rfl, rfl, (fun h => by cases h), rfl⟩, by simp [ofVl, ofV, Go.Sx.cellsOf], by simp⟩
theorem tok37 : TOk Try.prog 37 ⟨.struct [(0, 3), (1, 3), (2, 4), (3, 9)], [.int .i64 0, .int .i64 0, .bool false, .str []], 4, 40, true, []⟩ (.agg #[Value.int IntKind.i64 0, Value.int IntKind.i64 0, Value.bool false, Value.string { data := #[] }]) := ⟨⟨by kernel_rfl, by kernel_rfl, rfl, rfl, rfl, (fun _ => ⟨by kernel_rfl, by kernel_rfl, by kernel_rfl⟩), rfl⟩, by simp [ofVl, ofV, Go.Sx.cellsOf], by simp⟩
theorem tok39 : TOk Try.prog 39 ⟨.int .i64, [.int .i64 0], 1, 8, false, []⟩ (.int IntKind.i64 0) := ⟨⟨by kernel_rfl, by kernel_rfl, rfl, rfl, rfl, (fun h => by cases h), rfl⟩, by simp [ofVl, ofV, Go.Sx.cellsOf], by simp⟩
theorem tok43 : TOk Try.prog 43 ⟨.struct [(0, 3), (1, 3), (2, 3), (3, 3), (4, 4), (5, 4), (6, 4), (7, 9)], [.int .i64 0, .int .i64 0, .int .i64 0, .int .i64 0, .bool false, .bool false, .bool false, .str []], 8, 56, true, []⟩ (.agg #[Value.int IntKind.i64 0, Value.int IntKind.i64 0, Value.int IntKind.i64 0, Value.int IntKind.i64 0, Value.bool false, Value.bool false, Value.bool false, Value.string { data := #[] }]) := ⟨⟨by kernel_rfl, by kernel_rfl, rfl, rfl, rfl, (fun _ => ⟨by kernel_rfl, by kernel_rfl, by kernel_rfl⟩), rfl⟩, by simp [ofVl, ofV, Go.Sx.cellsOf], by simp⟩
theorem tok48 : TOk Try.prog 48 ⟨.struct [(0, 3), (1, 3), (2, 3), (3, 3), (4, 31)], [.int .i64 0, .int .i64 0, .int .i64 0, .int .i64 0, .nilS], 5, 56, false, []⟩ (.agg #[Value.int IntKind.i64 0, Value.int IntKind.i64 0, Value.int IntKind.i64 0, Value.int IntKind.i64 0, Value.slice none 0 0]) := ⟨⟨by kernel_rfl, by kernel_rfl, rfl, rfl, rfl, (fun h => by cases h), rfl⟩, by simp [ofVl, ofV, Go.Sx.cellsOf], by simp⟩
theorem tok58 : TOk Try.prog 58 ⟨.slice 37, [.nilS], 1, 24, false, []⟩ (.slice none 0 0) := ⟨⟨by kernel_rfl, by kernel_rfl, rfl, rfl, rfl, (fun h => by cases h), rfl⟩, by simp [ofVl, ofV, Go.Sx.cellsOf], by simp⟩
theorem tok67 : TOk Try.prog 67 ⟨.func, [.nilF], 1, 8, false, []⟩ (.nilFunc) := ⟨⟨by kernel_rfl, by kernel_rfl, rfl, rfl, rfl, (fun h => by cases h), rfl⟩, by simp [ofVl, ofV, Go.Sx.cellsOf], by simp⟩
theorem tok73 : TOk Try.prog 73 ⟨.slice 77, [.nilS], 1, 24, false, []⟩ (.slice none 0 0) := ⟨⟨by kernel_rfl, by kernel_rfl, rfl, rfl, rfl, (fun h => by cases h), rfl⟩, by simp [ofVl, ofV, Go.Sx.cellsOf], by simp⟩
theorem tok75 : TOk Try.prog 75 ⟨.struct [(0, 3), (1, 73)], [.int .i64 0, .nilS], 2, 32, false, []⟩ (.agg #[Value.int IntKind.i64 0, Value.slice none 0 0]) := ⟨⟨by kernel_rfl, by kernel_rfl, rfl, rfl, rfl, (fun h => by cases h), rfl⟩, by simp [ofVl, ofV, Go.Sx.cellsOf], by simp⟩
theorem tok77 : TOk Try.prog 77 ⟨.array 2 3, [.int .i64 0, .int .i64 0], 2, 16, false, []⟩ (.agg #[Value.int IntKind.i64 0, Value.int IntKind.i64 0]) := ⟨⟨by kernel_rfl, by kernel_rfl, rfl, rfl, rfl, (fun h => by cases h), rfl⟩, by simp [ofVl, ofV, Go.Sx.cellsOf], by simp⟩
theorem tok80 : TOk Try.prog 80 ⟨.slice 85, [.nilS], 1, 24, false, []⟩ (.slice none 0 0) := ⟨⟨by kernel_rfl, by kernel_rfl, rfl, rfl, rfl, (fun h => by cases h), rfl⟩, by simp [ofVl, ofV, Go.Sx.cellsOf], by simp⟩
theorem tok81 : TOk Try.prog 81 ⟨.int .i8, [.int .i8 0], 1, 1, false, []⟩ (.int IntKind.i8 0) := ⟨⟨by kernel_rfl, by kernel_rfl, rfl, rfl, rfl, (fun h => by cases h), rfl⟩, by simp [ofVl, ofV, Go.Sx.cellsOf], by simp⟩
theorem tok82 : TOk Try.prog 82 ⟨.array 16 81, [.int .i8 0, .int .i8 0, .int .i8 0, .int .i8 0, .int .i8 0, .int .i8 0, .int .i8 0, .int .i8 0, .int .i8 0, .int .i8 0, .int .i8 0, .int .i8 0, .int .i8 0, .int .i8 0, .int .i8 0, .int .i8 0], 16, 16, false, []⟩ (.agg #[Value.int IntKind.i8 0, Value.int IntKind.i8 0, Value.int IntKind.i8 0, Value.int IntKind.i8 0, Value.int IntKind.i8 0, Value.int IntKind.i8 0, Value.int IntKind.i8 0, Value.int IntKind.i8 0, Value.int IntKind.i8 0, Value.int IntKind.i8 0, Value.int IntKind.i8 0, Value.int IntKind.i8 0, Value.int IntKind.i8 0, Value.int IntKind.i8 0, Value.int IntKind.i8 0, Value.int IntKind.i8 0]) := ⟨⟨by kernel_rfl, by kernel_rfl, rfl, rfl, rfl, (fun h => by cases h), rfl⟩, by simp [ofVl, ofV, Go.Sx.cellsOf], by simp⟩
theorem tok85 : TOk Try.prog 85 ⟨.struct [(0, 43), (8, 3), (9, 3), (10, 3), (11, 4), (12, 4), (13, 4)], [.int .i64 0, .int .i64 0, .int .i64 0, .int .i64 0, .bool false, .bool false, .bool false, .str [], .int .i64 0, .int .i64 0, .int .i64 0, .bool false, .bool false, .bool false], 14, 88, true, []⟩ (.agg #[Value.int IntKind.i64 0, Value.int IntKind.i64 0, Value.int IntKind.i64 0, Value.int IntKind.i64 0, Value.bool false, Value.bool false, Value.bool false, Value.string { data := #[] }, Value.int IntKind.i64 0, Value.int IntKind.i64 0, Value.int IntKind.i64 0, Value.bool false, Value.bool false, Value.bool false]) := ⟨⟨by kernel_rfl, by kernel_rfl, rfl, rfl, rfl, (fun _ => ⟨by kernel_rfl, by kernel_rfl, by kernel_rfl⟩), rfl⟩, by simp [ofVl, ofV, Go.Sx.cellsOf], by simp⟩
theorem tok87 : TOk Try.prog 87 ⟨.array 3 80, [.nilS, .nilS, .nilS], 3, 72, false, []⟩ (.agg #[Value.slice none 0 0, Value.slice none 0 0, Value.slice none 0 0]) := ⟨⟨by kernel_rfl, by kernel_rfl, rfl, rfl, rfl, (fun h => by cases h), rfl⟩, by simp [ofVl, ofV, Go.Sx.cellsOf], by simp⟩
theorem tok88 : TOk Try.prog 88 ⟨.array 3 31, [.nilS, .nilS, .nilS], 3, 72, false, []⟩ (.agg #[Value.slice none 0 0, Value.slice none 0 0, Value.slice none 0 0]) := ⟨⟨by kernel_rfl, by kernel_rfl, rfl, rfl, rfl, (fun h => by cases h), rfl⟩, by simp [ofVl, ofV, Go.Sx.cellsOf], by simp⟩
theorem tok95 : TOk Try.prog 95 ⟨.struct [(0, 5), (1, 5), (2, 3), (3, 43)], [.int .u8 0, .int .u8 0, .int .i64 0, .int .i64 0, .int .i64 0, .int .i64 0, .int .i64 0, .bool false, .bool false, .bool false, .str []], 11, 72, true, []⟩ (.agg #[Value.int IntKind.u8 0, Value.int IntKind.u8 0, Value.int IntKind.i64 0, Value.int IntKind.i64 0, Value.int IntKind.i64 0, Value.int IntKind.i64 0, Value.int IntKind.i64 0, Value.bool false, Value.bool false, Value.bool false, Value.string { data := #[] }]) := ⟨⟨by kernel_rfl, by kernel_rfl, rfl, rfl, rfl, (fun _ => ⟨by kernel_rfl, by kernel_rfl, by kernel_rfl⟩), rfl⟩, by simp [ofVl, ofV, Go.Sx.cellsOf], by simp⟩
theorem tok100 : TOk Try.prog 100 ⟨.ptr 106, [.nilP], 1, 8, false, []⟩ (.pointer none) := ⟨⟨by kernel_rfl, by kernel_rfl, rfl, rfl, rfl, (fun h => by cases h), rfl⟩, by simp [ofVl, ofV, Go.Sx.cellsOf], by simp⟩
theorem tok106 : TOk Try.prog 106 ⟨.struct [(0, 34)], [.nilS, .nilS, .nilS, .int .i64 0, .int .i64 0, .nilS], 6, 112, false, []⟩ (.agg #[Value.slice none 0 0, Value.slice none 0 0, Value.slice none 0 0, Value.int IntKind.i64 0, Value.int IntKind.i64 0, Value.slice none 0 0]) := ⟨⟨by kernel_rfl, by kernel_rfl, rfl, rfl, rfl, (fun h => by cases h), rfl⟩, by simp [ofVl, ofV, Go.Sx.cellsOf], by simp⟩
theorem tok109 : TOk Try.prog 109 ⟨.func, [.nilF], 1, 8, false, []⟩ (.nilFunc) := ⟨⟨by kernel_rfl, by kernel_rfl, rfl, rfl, rfl, (fun h => by cases h), rfl⟩, by simp [ofVl, ofV, Go.Sx.cellsOf], by simp⟩
theorem tok112 : TOk Try.prog 112 ⟨.struct [(0, 3), (1, 3), (2, 9)], [.int .i64 0, .int .i64 0, .str []], 3, 32, true, []⟩ (.agg #[Value.int IntKind.i64 0, Value.int IntKind.i64 0, Value.string { data := #[] }]) := ⟨⟨by kernel_rfl, by kernel_rfl, rfl, rfl, rfl, (fun _ => ⟨by kernel_rfl, by kernel_rfl, by kernel_rfl⟩), rfl⟩, by simp [ofVl, ofV, Go.Sx.cellsOf], by simp⟩
theorem tok117 : TOk Try.prog 117 ⟨.func, [.nilF], 1, 8, false, []⟩ (.nilFunc) := ⟨⟨by kernel_rfl, by kernel_rfl, rfl, rfl, rfl, (fun h => by cases h), rfl⟩, by simp [ofVl, ofV, Go.Sx.cellsOf], by simp⟩
theorem tok124 : TOk Try.prog 124 ⟨.func, [.nilF], 1, 8, false, []⟩ (.nilFunc) := ⟨⟨by kernel_rfl, by kernel_rfl, rfl, rfl, rfl, (fun h => by cases h), rfl⟩, by simp [ofVl, ofV, Go.Sx.cellsOf], by simp⟩
theorem tok128 : TOk Try.prog 128 ⟨.array 2 31, [.nilS, .nilS], 2, 48, false, []⟩ (.agg #[Value.slice none 0 0, Value.slice none 0 0]) := ⟨⟨by kernel_rfl, by kernel_rfl, rfl, rfl, rfl, (fun h => by cases h), rfl⟩, by simp [ofVl, ofV, Go.Sx.cellsOf], by simp⟩
theorem tok129 : TOk Try.prog 129 ⟨.map 3 4, [.nilM], 1, 8, false, []⟩ (.map none) := ⟨⟨by kernel_rfl, by kernel_rfl, rfl, rfl, rfl, (fun h => by cases h), rfl⟩, by simp [ofVl, ofV, Go.Sx.cellsOf], by simp⟩
theorem tok136 : TOk Try.prog 136 ⟨.func, [.nilF], 1, 8, false, []⟩ (.nilFunc) := ⟨⟨by kernel_rfl, by kernel_rfl, rfl, rfl, rfl, (fun h => by cases h), rfl⟩, by simp [ofVl, ofV, Go.Sx.cellsOf], by simp⟩
theorem tok138 : TOk Try.prog 138 ⟨.func, [.nilF], 1, 8, false, []⟩ (.nilFunc) := ⟨⟨by kernel_rfl, by kernel_rfl, rfl, rfl, rfl, (fun h => by cases h), rfl⟩, by simp [ofVl, ofV, Go.Sx.cellsOf], by simp⟩
theorem tok141 : TOk Try.prog 141 ⟨.int .u64, [.int .u64 0], 1, 8, false, []⟩ (.int IntKind.u64 0) := ⟨⟨by kernel_rfl, by kernel_rfl, rfl, rfl, rfl, (fun h => by cases h), rfl⟩, by simp [ofVl, ofV, Go.Sx.cellsOf], by simp⟩
theorem tok145 : TOk Try.prog 145 ⟨.ptr 147, [.nilP], 1, 8, false, []⟩ (.pointer none) := ⟨⟨by kernel_rfl, by kernel_rfl, rfl, rfl, rfl, (fun h => by cases h), rfl⟩, by simp [ofVl, ofV, Go.Sx.cellsOf], by simp⟩
theorem tok147 : TOk Try.prog 147 ⟨.struct [(0, 145), (1, 26)], [.nilP, .nilS], 2, 32, false, [(0, 147)]⟩ (.agg #[Value.pointer none, Value.slice none 0 0]) := ⟨⟨by kernel_rfl, by kernel_rfl, rfl, rfl, rfl, (fun h => by cases h), rfl⟩, by simp [ofVl, ofV, Go.Sx.cellsOf], by intro x hx; simp only [List.mem_cons, List.not_mem_nil, or_false] at hx; subst hx; kernel_rfl⟩
theorem tok150 : TOk Try.prog 150 ⟨.iface, [.nilI], 1, 16, false, []⟩ (.nilIface) := ⟨⟨by kernel_rfl, by kernel_rfl, rfl, rfl, rfl, (fun h => by cases h), rfl⟩, by simp [ofVl, ofV, Go.Sx.cellsOf], by simp⟩
theorem tok157 : TOk Try.prog 157 ⟨.func, [.nilF], 1, 8, false, []⟩ (.nilFunc) := ⟨⟨by kernel_rfl, by kernel_rfl, rfl, rfl, rfl, (fun h => by cases h), rfl⟩, by simp [ofVl, ofV, Go.Sx.cellsOf], by simp⟩
theorem tok160 : TOk Try.prog 160 ⟨.struct [(0, 48)], [.int .i64 0, .int .i64 0, .int .i64 0, .int .i64 0, .nilS], 5, 56, false, []⟩ (.agg #[Value.int IntKind.i64 0, Value.int IntKind.i64 0, Value.int IntKind.i64 0, Value.int IntKind.i64 0, Value.slice none 0 0]) := ⟨⟨by kernel_rfl, by kernel_rfl, rfl, rfl, rfl, (fun h => by cases h), rfl⟩, by simp [ofVl, ofV, Go.Sx.cellsOf], by simp⟩
theorem tok164 : TOk Try.prog 164 ⟨.struct [(0, 75)], [.int .i64 0, .nilS], 2, 32, false, []⟩ (.agg #[Value.int IntKind.i64 0, Value.slice none 0 0]) := ⟨⟨by kernel_rfl, by kernel_rfl, rfl, rfl, rfl, (fun h => by cases h), rfl⟩, by simp [ofVl, ofV, Go.Sx.cellsOf], by simp⟩
theorem tok168 : TOk Try.prog 168 ⟨.map 3 43, [.nilM], 1, 8, false, []⟩ (.map none) := ⟨⟨by kernel_rfl, by kernel_rfl, rfl, rfl, rfl, (fun h => by cases h), rfl⟩, by simp [ofVl, ofV, Go.Sx.cellsOf], by simp⟩
theorem tok174 : TOk Try.prog 174 ⟨.int .u64, [.int .u64 0], 1, 8, false, []⟩ (.int IntKind.u64 0) := ⟨⟨by kernel_rfl, by kernel_rfl, rfl, rfl, rfl, (fun h => by cases h), rfl⟩, by simp [ofVl, ofV, Go.Sx.cellsOf], by simp⟩
theorem tok177 : TOk Try.prog 177 ⟨.ptr 5, [.nilP], 1, 8, false, []⟩ (.pointer none) := ⟨⟨by kernel_rfl, by kernel_rfl, rfl, rfl, rfl, (fun h => by cases h), rfl⟩, by simp [ofVl, ofV, Go.Sx.cellsOf], by simp⟩
theorem tok179 : TOk Try.prog 179 ⟨.iface, [.nilI], 1, 16, false, []⟩ (.nilIface) := ⟨⟨by kernel_rfl, by kernel_rfl, rfl, rfl, rfl, (fun h => by cases h), rfl⟩, by simp [ofVl, ofV, Go.Sx.cellsOf], by simp⟩
theorem tok181 : TOk Try.prog 181 ⟨.struct [(0, 147)], [.nilP, .nilS], 2, 32, false, [(0, 147)]⟩ (.agg #[Value.pointer none, Value.slice none 0 0]) := ⟨⟨by kernel_rfl, by kernel_rfl, rfl, rfl, rfl, (fun h => by cases h), rfl⟩, by simp [ofVl, ofV, Go.Sx.cellsOf], by intro x hx; simp only [List.mem_cons, List.not_mem_nil, or_false] at hx; subst hx; kernel_rfl⟩
theorem tok184 : TOk Try.prog 184 ⟨.ptr 181, [.nilP], 1, 8, false, []⟩ (.pointer none) := ⟨⟨by kernel_rfl, by kernel_rfl, rfl, rfl, rfl, (fun h => by cases h), rfl⟩, by simp [ofVl, ofV, Go.Sx.cellsOf], by simp⟩
theorem tok186 : TOk Try.prog 186 ⟨.struct [(0, 43)], [.int .i64 0, .int .i64 0, .int .i64 0, .int .i64 0, .bool false, .bool false, .bool false, .str []], 8, 56, true, []⟩ (.agg #[Value.int IntKind.i64 0, Value.int IntKind.i64 0, Value.int IntKind.i64 0, Value.int IntKind.i64 0, Value.bool false, Value.bool false, Value.bool false, Value.string { data := #[] }]) := ⟨⟨by kernel_rfl, by kernel_rfl, rfl, rfl, rfl, (fun _ => ⟨by kernel_rfl, by kernel_rfl, by kernel_rfl⟩), rfl⟩, by simp [ofVl, ofV, Go.Sx.cellsOf], by simp⟩
theorem tok188 : TOk Try.prog 188 ⟨.uptr, [.nilP], 1, 8, false, []⟩ (.pointer none) := ⟨⟨by kernel_rfl, by kernel_rfl, rfl, rfl, rfl, (fun h => by cases h), rfl⟩, by simp [ofVl, ofV, Go.Sx.cellsOf], by simp⟩
theorem tok206 : TOk Try.prog 206 ⟨.array 3 4, [.bool false, .bool false, .bool false], 3, 3, false, []⟩ (.agg #[Value.bool false, Value.bool false, Value.bool false]) := ⟨⟨by kernel_rfl, by kernel_rfl, rfl, rfl, rfl, (fun h => by cases h), rfl⟩, by simp [ofVl, ofV, Go.Sx.cellsOf], by simp⟩
theorem tysOk : Tys.Ok Try.prog tys := TysAll.ok ⟨⟨_, tok3⟩, ⟨_, tok4⟩, ⟨_, tok5⟩, ⟨_, tok9⟩, ⟨_, tok22⟩, ⟨_, tok23⟩, ⟨_, tok24⟩, ⟨_, tok25⟩, ⟨_, tok26⟩, ⟨_, tok28⟩, ⟨_, tok30⟩, ⟨_, tok31⟩, ⟨_, tok32⟩, ⟨_, tok34⟩, ⟨_, tok37⟩, ⟨_, tok39⟩, ⟨_, tok43⟩, ⟨_, tok48⟩, ⟨_, tok58⟩, ⟨_, tok67⟩, ⟨_, tok73⟩, ⟨_, tok75⟩, ⟨_, tok77⟩, ⟨_, tok80⟩, ⟨_, tok81⟩, ⟨_, tok82⟩, ⟨_, tok85⟩, ⟨_, tok87⟩, ⟨_, tok88⟩, ⟨_, tok95⟩, ⟨_, tok100⟩, ⟨_, tok106⟩, ⟨_, tok109⟩, ⟨_, tok112⟩, ⟨_, tok117⟩, ⟨_, tok124⟩, ⟨_, tok128⟩, ⟨_, tok129⟩, ⟨_, tok136⟩, ⟨_, tok138⟩, ⟨_, tok141⟩, ⟨_, tok145⟩, ⟨_, tok147⟩, ⟨_, tok150⟩, ⟨_, tok157⟩, ⟨_, tok160⟩, ⟨_, tok164⟩, ⟨_, tok168⟩, ⟨_, tok174⟩, ⟨_, tok177⟩, ⟨_, tok179⟩, ⟨_, tok181⟩, ⟨_, tok184⟩, ⟨_, tok186⟩, ⟨_, tok188⟩, ⟨_, tok206⟩, trivial⟩
def FieldsIn (T : Tys) : Tys → Bool
 | [] => true
 | (_, i) :: l => (match i.k with | .struct fs => fs.all (fun f => (T.get f.2).isSome) | _ => true) && FieldsIn T l
theorem FieldsIn.ok {T : Tys} : ∀ {L : Tys}, FieldsIn T L = true → ∀ t i fs, L.get t = some i → i.k = .struct fs → ∀ f ∈ fs, ∃ fi, T.get f.2 = some fi
 | [], _, t, i, fs, h => by cases h
 | (u, j) :: l, h, t, i, fs, hg => by
  simp only [FieldsIn, Bool.and_eq_true] at h
  simp only [Tys.get] at hg
  split at hg
  ·injection hg with hg; subst hg
   intro hk f hf
   have h1 := h.1
   rw [hk] at h1
   simp only [List.all_eq_true] at h1
   exact Option.isSome_iff_exists.1 (h1 f hf)
  ·exact FieldsIn.ok h.2 t i fs hg
theorem fieldsOk : AllFields tys := FieldsIn.ok (by kernel_rfl)
theorem mixedOk : Try.prog.follows .mixedOrders = true := by kernel_rfl
def meths : Meths := [(160, "tannoy/chunk.valid", 121), (160, "tannoy/chunk.write", 122), (164, "tannoy/chunk.valid", 126), (164, "tannoy/chunk.write", 127), (186, "tannoy/chunk.valid", 128), (186, "tannoy/chunk.write", 129)]
theorem meth0 (v : Value) (w : World) : (method (Try.prog.types.size + Made.depth) 160 v "tannoy/chunk.valid").run Try.prog w = .ok (121, v) w := by kernel_rfl
theorem meth1 (v : Value) (w : World) : (method (Try.prog.types.size + Made.depth) 160 v "tannoy/chunk.write").run Try.prog w = .ok (122, v) w := by kernel_rfl
theorem meth2 (v : Value) (w : World) : (method (Try.prog.types.size + Made.depth) 164 v "tannoy/chunk.valid").run Try.prog w = .ok (126, v) w := by kernel_rfl
theorem meth3 (v : Value) (w : World) : (method (Try.prog.types.size + Made.depth) 164 v "tannoy/chunk.write").run Try.prog w = .ok (127, v) w := by kernel_rfl
theorem meth4 (v : Value) (w : World) : (method (Try.prog.types.size + Made.depth) 186 v "tannoy/chunk.valid").run Try.prog w = .ok (128, v) w := by kernel_rfl
theorem meth5 (v : Value) (w : World) : (method (Try.prog.types.size + Made.depth) 186 v "tannoy/chunk.write").run Try.prog w = .ok (129, v) w := by kernel_rfl
theorem methsOk : meths.Ok Try.prog := by
 intro t n f h v w
 simp only [meths, Meths.get] at h
 split at h
 ·rename_i hc; obtain ⟨e1, e2⟩ := hc; simp only [Option.some.injEq] at h; rw [← e1, ← e2, ← h]; exact meth0 v w
 split at h
 ·rename_i hc; obtain ⟨e1, e2⟩ := hc; simp only [Option.some.injEq] at h; rw [← e1, ← e2, ← h]; exact meth1 v w
 split at h
 ·rename_i hc; obtain ⟨e1, e2⟩ := hc; simp only [Option.some.injEq] at h; rw [← e1, ← e2, ← h]; exact meth2 v w
 split at h
 ·rename_i hc; obtain ⟨e1, e2⟩ := hc; simp only [Option.some.injEq] at h; rw [← e1, ← e2, ← h]; exact meth3 v w
 split at h
 ·rename_i hc; obtain ⟨e1, e2⟩ := hc; simp only [Option.some.injEq] at h; rw [← e1, ← e2, ← h]; exact meth4 v w
 split at h
 ·rename_i hc; obtain ⟨e1, e2⟩ := hc; simp only [Option.some.injEq] at h; rw [← e1, ← e2, ← h]; exact meth5 v w
 cases h
noncomputable def cx (L : Nat) : Cx := ⟨Try.prog, tys, meths, false, L, none, []⟩
theorem cxOk (L : Nat) : (cx L).Ok := ⟨tysOk, fieldsOk, mixedOk, methsOk⟩
attribute [go_sem] g3 g4 g5 g9 g22 g23 g24 g25 g26 g28 g30 g31 g32 g34 g37 g39 g43 g48 g58 g67 g73 g75 g77 g80 g81 g82 g85 g87 g88 g95 g100 g106 g109 g112 g117 g124 g128 g129 g136 g138 g141 g145 g147 g150 g157 g160 g164 g168 g174 g177 g179 g181 g184 g186 g188 g206
theorem bdy (fn : Func) {f : FuncId} {args : List PV} {F : SF} {L nx : Nat} {v : PV} {upd : List (Nm × SBlk)} {rd : List Nm} (H : ∀ F3 : SF, (∀ n ∈ rd, F3 n = F n) → (∀ n : Nm, L < n.l → F3 n = none) → vcC (cx (L + 1)) F3 (fn.body.getD .skip) ⟨initT args fn.ntmps, [], 0⟩ (PostF (cx (L + 1)).T F3 fn.results.toList L v upd)) (hrd : ∀ n ∈ rd, n.l ≤ L := by simp) (hf : Try.prog.funcs[f]? = some fn := by kernel_rfl) (hb : fn.body = some (fn.body.getD .skip) := by rfl) (hnum : (fn.name == "runtime.NumGoroutine") = false := by kernel_rfl) : Con Try.prog f args F L nx nx v upd rd := Con.body (cxOk (L + 1)) rfl rfl hf hb hnum rfl hrd H
theorem bdyN (fn : Func) {f : FuncId} {args : List PV} {F : SF} {L nx k : Nat} {v : PV} {upd : List (Nm × SBlk)} {rd : List Nm} (H : ∀ F3 : SF, (∀ n ∈ rd, F3 n = F n) → (∀ n : Nm, L < n.l → F3 n = none) → vcC (cx (L + 1)) F3 (fn.body.getD .skip) ⟨initT args fn.ntmps, [], 0⟩ (PostS (cx (L + 1)).T F3 fn.results.toList L nx v upd k)) (hrd : ∀ n ∈ rd, n.l ≤ L := by simp) (hf : Try.prog.funcs[f]? = some fn := by kernel_rfl) (hb : fn.body = some (fn.body.getD .skip) := by rfl) (hnum : (fn.name == "runtime.NumGoroutine") = false := by kernel_rfl) : Con Try.prog f args F L nx (nx + k) v upd rd := Con.bodyN (cxOk (L + 1)) rfl rfl hf hb hnum rfl hrd H
end Go.Proofs.Ytfhhbkehlfipgaa
end
