/- Lemmas for the walk: YtaacfnngodhecaaGreatDoorTxT. -/
import Derived.Test.YtaacfnngodhecaaGreatDoorProg
import Derived.Test.YtaacfnngodhecaaGreatDoorP10
import Derived.KernelRfl
set_option linter.all false
section
namespace Go.Proofs.YtaacfnngodhecaaGreatDoor
open Go.Tx
def TysAll (P : Program) : Tys → Prop
 | [] => True
 | (t, i) :: l => (∃ z, TOk P t i z) ∧ TysAll P l
theorem TysAll.ok {P : Program} : ∀ {T : Tys}, TysAll P T → T.Ok P
 | [], _, t, i, h => by cases h
 | (u, j) :: l, h, t, i, hg => by
  simp only [Tys.get] at hg
  split at hg
  ·rename_i he
   injection hg with hg; subst hg
   have := eq_of_beq he; subst this
   exact h.1
  ·exact TysAll.ok h.2 t i hg
def tys : Tys := [
 (3, ⟨.int .i64, [.int .i64 0], 1, 8, false, []⟩),
 (4, ⟨.bool, [.bool false], 1, 1, false, []⟩),
 (5, ⟨.int .u8, [.int .u8 0], 1, 1, false, []⟩),
 (9, ⟨.str, [.str []], 1, 16, false, []⟩),
 (20, ⟨.iface, [.nilI], 1, 16, false, []⟩),
 (21, ⟨.int .i32, [.int .i32 0], 1, 4, false, []⟩),
 (22, ⟨.slice 34, [.nilS], 1, 24, false, []⟩),
 (24, ⟨.struct [(0, 3), (1, 3), (2, 3), (3, 22)], [.int .i64 0, .int .i64 0, .int .i64 0, .nilS], 4, 48, false, []⟩),
 (25, ⟨.int .u16, [.int .u16 0], 1, 2, false, []⟩),
 (26, ⟨.int .u32, [.int .u32 0], 1, 4, false, []⟩),
 (27, ⟨.slice 65, [.nilS], 1, 24, false, []⟩),
 (29, ⟨.struct [(0, 25), (1, 25), (2, 26), (3, 27)], [.int .u16 0, .int .u16 0, .int .u32 0, .nilS], 4, 32, false, []⟩),
 (31, ⟨.struct [(0, 25), (1, 5), (2, 9)], [.int .u16 0, .int .u8 0, .str []], 3, 24, true, []⟩),
 (34, ⟨.struct [(0, 3), (1, 3), (2, 9)], [.int .i64 0, .int .i64 0, .str []], 3, 32, true, []⟩),
 (36, ⟨.slice 5, [.nilS], 1, 24, false, []⟩),
 (37, ⟨.array 3 24, [.int .i64 0, .int .i64 0, .int .i64 0, .nilS, .int .i64 0, .int .i64 0, .int .i64 0, .nilS, .int .i64 0, .int .i64 0, .int .i64 0, .nilS], 12, 144, false, []⟩),
 (38, ⟨.int .i64, [.int .i64 0], 1, 8, false, []⟩),
 (44, ⟨.func, [.nilF], 1, 8, false, []⟩),
 (45, ⟨.slice 9, [.nilS], 1, 24, false, []⟩),
 (51, ⟨.struct [(0, 3), (1, 3), (2, 3), (3, 3), (4, 4), (5, 4), (6, 4), (7, 9)], [.int .i64 0, .int .i64 0, .int .i64 0, .int .i64 0, .bool false, .bool false, .bool false, .str []], 8, 56, true, []⟩),
 (52, ⟨.slice 118, [.nilS], 1, 24, false, []⟩),
 (53, ⟨.slice 3, [.nilS], 1, 24, false, []⟩),
 (55, ⟨.struct [(0, 3), (1, 3), (2, 52), (3, 53)], [.int .i64 0, .int .i64 0, .nilS, .nilS], 4, 64, false, []⟩),
 (57, ⟨.struct [(0, 3), (1, 3), (2, 3), (3, 3), (4, 3), (5, 9)], [.int .i64 0, .int .i64 0, .int .i64 0, .int .i64 0, .int .i64 0, .str []], 6, 56, true, []⟩),
 (59, ⟨.struct [(0, 3), (1, 52)], [.int .i64 0, .nilS], 2, 32, false, []⟩),
 (61, ⟨.struct [(0, 3), (1, 3), (2, 3), (3, 3), (4, 53)], [.int .i64 0, .int .i64 0, .int .i64 0, .int .i64 0, .nilS], 5, 56, false, []⟩),
 (62, ⟨.array 4 26, [.int .u32 0, .int .u32 0, .int .u32 0, .int .u32 0], 4, 16, false, []⟩),
 (63, ⟨.slice 151, [.nilS], 1, 24, false, []⟩),
 (65, ⟨.struct [(0, 5), (1, 62), (5, 63), (6, 9)], [.int .u8 0, .int .u32 0, .int .u32 0, .int .u32 0, .int .u32 0, .nilS, .str []], 7, 64, false, []⟩),
 (67, ⟨.array 2 51, [.int .i64 0, .int .i64 0, .int .i64 0, .int .i64 0, .bool false, .bool false, .bool false, .str [], .int .i64 0, .int .i64 0, .int .i64 0, .int .i64 0, .bool false, .bool false, .bool false, .str []], 16, 112, false, []⟩),
 (69, ⟨.func, [.nilF], 1, 8, false, []⟩),
 (74, ⟨.array 2 55, [.int .i64 0, .int .i64 0, .nilS, .nilS, .int .i64 0, .int .i64 0, .nilS, .nilS], 8, 128, false, []⟩),
 (75, ⟨.func, [.nilF], 1, 8, false, []⟩),
 (79, ⟨.array 3 57, [.int .i64 0, .int .i64 0, .int .i64 0, .int .i64 0, .int .i64 0, .str [], .int .i64 0, .int .i64 0, .int .i64 0, .int .i64 0, .int .i64 0, .str [], .int .i64 0, .int .i64 0, .int .i64 0, .int .i64 0, .int .i64 0, .str []], 18, 168, false, []⟩),
 (80, ⟨.func, [.nilF], 1, 8, false, []⟩),
 (84, ⟨.array 2 59, [.int .i64 0, .nilS, .int .i64 0, .nilS], 4, 64, false, []⟩),
 (85, ⟨.func, [.nilF], 1, 8, false, []⟩),
 (89, ⟨.array 2 61, [.int .i64 0, .int .i64 0, .int .i64 0, .int .i64 0, .nilS, .int .i64 0, .int .i64 0, .int .i64 0, .int .i64 0, .nilS], 10, 112, false, []⟩),
 (90, ⟨.func, [.nilF], 1, 8, false, []⟩),
 (96, ⟨.array 6 3, [.int .i64 0, .int .i64 0, .int .i64 0, .int .i64 0, .int .i64 0, .int .i64 0], 6, 48, false, []⟩),
 (97, ⟨.func, [.nilF], 1, 8, false, []⟩),
 (117, ⟨.array 6 24, [.int .i64 0, .int .i64 0, .int .i64 0, .nilS, .int .i64 0, .int .i64 0, .int .i64 0, .nilS, .int .i64 0, .int .i64 0, .int .i64 0, .nilS, .int .i64 0, .int .i64 0, .int .i64 0, .nilS, .int .i64 0, .int .i64 0, .int .i64 0, .nilS, .int .i64 0, .int .i64 0, .int .i64 0, .nilS], 24, 288, false, []⟩),
 (118, ⟨.array 2 3, [.int .i64 0, .int .i64 0], 2, 16, false, []⟩),
 (119, ⟨.func, [.nilF], 1, 8, false, []⟩),
 (126, ⟨.ptr 128, [.nilP], 1, 8, false, []⟩),
 (128, ⟨.struct [(0, 126), (1, 36)], [.nilP, .nilS], 2, 32, false, [(0, 128)]⟩),
 (130, ⟨.struct [(0, 128)], [.nilP, .nilS], 2, 32, false, [(0, 128)]⟩),
 (135, ⟨.iface, [.nilI], 1, 16, false, []⟩),
 (140, ⟨.ptr 173, [.nilP], 1, 8, false, []⟩),
 (143, ⟨.func, [.nilF], 1, 8, false, []⟩),
 (146, ⟨.func, [.nilF], 1, 8, false, []⟩),
 (147, ⟨.func, [.nilF], 1, 8, false, []⟩),
 (150, ⟨.struct [(0, 51)], [.int .i64 0, .int .i64 0, .int .i64 0, .int .i64 0, .bool false, .bool false, .bool false, .str []], 8, 56, true, []⟩),
 (151, ⟨.array 2 5, [.int .u8 0, .int .u8 0], 2, 2, false, []⟩),
 (153, ⟨.struct [(0, 55)], [.int .i64 0, .int .i64 0, .nilS, .nilS], 4, 64, false, []⟩),
 (155, ⟨.struct [(0, 57)], [.int .i64 0, .int .i64 0, .int .i64 0, .int .i64 0, .int .i64 0, .str []], 6, 56, true, []⟩),
 (157, ⟨.struct [(0, 59)], [.int .i64 0, .nilS], 2, 32, false, []⟩),
 (159, ⟨.struct [(0, 61)], [.int .i64 0, .int .i64 0, .int .i64 0, .int .i64 0, .nilS], 5, 56, false, []⟩),
 (160, ⟨.array 8 3, [.int .i64 0, .int .i64 0, .int .i64 0, .int .i64 0, .int .i64 0, .int .i64 0, .int .i64 0, .int .i64 0], 8, 64, false, []⟩),
 (162, ⟨.func, [.nilF], 1, 8, false, []⟩),
 (164, ⟨.func, [.nilF], 1, 8, false, []⟩),
 (168, ⟨.func, [.nilF], 1, 8, false, []⟩),
 (171, ⟨.struct [(0, 9), (1, 3)], [.str [], .int .i64 0], 2, 24, true, []⟩),
 (173, ⟨.struct [(0, 171)], [.str [], .int .i64 0], 2, 24, true, []⟩),
 (174, ⟨.func, [.nilF], 1, 8, false, []⟩),
 (175, ⟨.func, [.nilF], 1, 8, false, []⟩),
 (179, ⟨.int .u64, [.int .u64 0], 1, 8, false, []⟩),
 (186, ⟨.ptr 130, [.nilP], 1, 8, false, []⟩),
 (190, ⟨.ptr 5, [.nilP], 1, 8, false, []⟩),
 (192, ⟨.struct [], [], 0, 0, true, []⟩),
 (200, ⟨.iface, [.nilI], 1, 16, false, []⟩),
 (212, ⟨.int .u64, [.int .u64 0], 1, 8, false, []⟩),
 (215, ⟨.array 16 5, [.int .u8 0, .int .u8 0, .int .u8 0, .int .u8 0, .int .u8 0, .int .u8 0, .int .u8 0, .int .u8 0, .int .u8 0, .int .u8 0, .int .u8 0, .int .u8 0, .int .u8 0, .int .u8 0, .int .u8 0, .int .u8 0], 16, 16, false, []⟩),
 (217, ⟨.slice 4, [.nilS], 1, 24, false, []⟩),
 (221, ⟨.array 32 4, [.bool false, .bool false, .bool false, .bool false, .bool false, .bool false, .bool false, .bool false, .bool false, .bool false, .bool false, .bool false, .bool false, .bool false, .bool false, .bool false, .bool false, .bool false, .bool false, .bool false, .bool false, .bool false, .bool false, .bool false, .bool false, .bool false, .bool false, .bool false, .bool false, .bool false, .bool false, .bool false], 32, 32, false, []⟩),
 (223, ⟨.uptr, [.nilP], 1, 8, false, []⟩),
 (235, ⟨.ptr 231, [.nilP], 1, 8, false, []⟩),
 (243, ⟨.struct [(0, 171)], [.str [], .int .i64 0], 2, 24, true, []⟩),
 (252, ⟨.array 3 26, [.int .u32 0, .int .u32 0, .int .u32 0], 3, 12, false, []⟩),
 (255, ⟨.struct [(0, 5), (1, 5)], [.int .u8 0, .int .u8 0], 2, 2, true, []⟩),
 (256, ⟨.array 16 255, [.int .u8 0, .int .u8 0, .int .u8 0, .int .u8 0, .int .u8 0, .int .u8 0, .int .u8 0, .int .u8 0, .int .u8 0, .int .u8 0, .int .u8 0, .int .u8 0, .int .u8 0, .int .u8 0, .int .u8 0, .int .u8 0, .int .u8 0, .int .u8 0, .int .u8 0, .int .u8 0, .int .u8 0, .int .u8 0, .int .u8 0, .int .u8 0, .int .u8 0, .int .u8 0, .int .u8 0, .int .u8 0, .int .u8 0, .int .u8 0, .int .u8 0, .int .u8 0], 32, 32, false, []⟩),
 (272, ⟨.array 3 4, [.bool false, .bool false, .bool false], 3, 3, false, []⟩)]
theorem g3 : Tys.get tys 3 = some ⟨.int .i64, [.int .i64 0], 1, 8, false, []⟩ := rfl
theorem g4 : Tys.get tys 4 = some ⟨.bool, [.bool false], 1, 1, false, []⟩ := rfl
theorem g5 : Tys.get tys 5 = some ⟨.int .u8, [.int .u8 0], 1, 1, false, []⟩ := rfl
theorem g9 : Tys.get tys 9 = some ⟨.str, [.str []], 1, 16, false, []⟩ := rfl
theorem g20 : Tys.get tys 20 = some ⟨.iface, [.nilI], 1, 16, false, []⟩ := rfl
theorem g21 : Tys.get tys 21 = some ⟨.int .i32, [.int .i32 0], 1, 4, false, []⟩ := rfl
theorem g22 : Tys.get tys 22 = some ⟨.slice 34, [.nilS], 1, 24, false, []⟩ := rfl
theorem g24 : Tys.get tys 24 = some ⟨.struct [(0, 3), (1, 3), (2, 3), (3, 22)], [.int .i64 0, .int .i64 0, .int .i64 0, .nilS], 4, 48, false, []⟩ := rfl
theorem g25 : Tys.get tys 25 = some ⟨.int .u16, [.int .u16 0], 1, 2, false, []⟩ := rfl
theorem g26 : Tys.get tys 26 = some ⟨.int .u32, [.int .u32 0], 1, 4, false, []⟩ := rfl
theorem g27 : Tys.get tys 27 = some ⟨.slice 65, [.nilS], 1, 24, false, []⟩ := rfl
theorem g29 : Tys.get tys 29 = some ⟨.struct [(0, 25), (1, 25), (2, 26), (3, 27)], [.int .u16 0, .int .u16 0, .int .u32 0, .nilS], 4, 32, false, []⟩ := rfl
theorem g31 : Tys.get tys 31 = some ⟨.struct [(0, 25), (1, 5), (2, 9)], [.int .u16 0, .int .u8 0, .str []], 3, 24, true, []⟩ := rfl
theorem g34 : Tys.get tys 34 = some ⟨.struct [(0, 3), (1, 3), (2, 9)], [.int .i64 0, .int .i64 0, .str []], 3, 32, true, []⟩ := rfl
theorem g36 : Tys.get tys 36 = some ⟨.slice 5, [.nilS], 1, 24, false, []⟩ := rfl
theorem g37 : Tys.get tys 37 = some ⟨.array 3 24, [.int .i64 0, .int .i64 0, .int .i64 0, .nilS, .int .i64 0, .int .i64 0, .int .i64 0, .nilS, .int .i64 0, .int .i64 0, .int .i64 0, .nilS], 12, 144, false, []⟩ := rfl
theorem g38 : Tys.get tys 38 = some ⟨.int .i64, [.int .i64 0], 1, 8, false, []⟩ := rfl
theorem g44 : Tys.get tys 44 = some ⟨.func, [.nilF], 1, 8, false, []⟩ := rfl
theorem g45 : Tys.get tys 45 = some ⟨.slice 9, [.nilS], 1, 24, false, []⟩ := rfl
theorem g51 : Tys.get tys 51 = some ⟨.struct [(0, 3), (1, 3), (2, 3), (3, 3), (4, 4), (5, 4), (6, 4), (7, 9)], [.int .i64 0, .int .i64 0, .int .i64 0, .int .i64 0, .bool false, .bool false, .bool false, .str []], 8, 56, true, []⟩ := rfl
theorem g52 : Tys.get tys 52 = some ⟨.slice 118, [.nilS], 1, 24, false, []⟩ := rfl
theorem g53 : Tys.get tys 53 = some ⟨.slice 3, [.nilS], 1, 24, false, []⟩ := rfl
theorem g55 : Tys.get tys 55 = some ⟨.struct [(0, 3), (1, 3), (2, 52), (3, 53)], [.int .i64 0, .int .i64 0, .nilS, .nilS], 4, 64, false, []⟩ := rfl
theorem g57 : Tys.get tys 57 = some ⟨.struct [(0, 3), (1, 3), (2, 3), (3, 3), (4, 3), (5, 9)], [.int .i64 0, .int .i64 0, .int .i64 0, .int .i64 0, .int .i64 0, .str []], 6, 56, true, []⟩ := rfl
theorem g59 : Tys.get tys 59 = some ⟨.struct [(0, 3), (1, 52)], [.int .i64 0, .nilS], 2, 32, false, []⟩ := rfl
theorem g61 : Tys.get tys 61 = some ⟨.struct [(0, 3), (1, 3), (2, 3), (3, 3), (4, 53)], [.int .i64 0, .int .i64 0, .int .i64 0, .int .i64 0, .nilS], 5, 56, false, []⟩ := rfl
theorem g62 : Tys.get tys 62 = some ⟨.array 4 26, [.int .u32 0, .int .u32 0, .int .u32 0, .int .u32 0], 4, 16, false, []⟩ := rfl
theorem g63 : Tys.get tys 63 = some ⟨.slice 151, [.nilS], 1, 24, false, []⟩ := rfl
theorem g65 : Tys.get tys 65 = some ⟨.struct [(0, 5), (1, 62), (5, 63), (6, 9)], [.int .u8 0, .int .u32 0, .int .u32 0, .int .u32 0, .int .u32 0, .nilS, .str []], 7, 64, false, []⟩ := rfl
theorem g67 : Tys.get tys 67 = some ⟨.array 2 51, [.int .i64 0, .int .i64 0, .int .i64 0, .int .i64 0, .bool false, .bool false, .bool false, .str [], .int .i64 0, .int .i64 0, .int .i64 0, .int .i64 0, .bool false, .bool false, .bool false, .str []], 16, 112, false, []⟩ := rfl
theorem g69 : Tys.get tys 69 = some ⟨.func, [.nilF], 1, 8, false, []⟩ := rfl
theorem g74 : Tys.get tys 74 = some ⟨.array 2 55, [.int .i64 0, .int .i64 0, .nilS, .nilS, .int .i64 0, .int .i64 0, .nilS, .nilS], 8, 128, false, []⟩ := rfl
theorem g75 : Tys.get tys 75 = some ⟨.func, [.nilF], 1, 8, false, []⟩ := rfl
theorem g79 : Tys.get tys 79 = some ⟨.array 3 57, [.int .i64 0, .int .i64 0, .int .i64 0, .int .i64 0, .int .i64 0, .str [], .int .i64 0, .int .i64 0, .int .i64 0, .int .i64 0, .int .i64 0, .str [], .int .i64 0, .int .i64 0, .int .i64 0, .int .i64 0, .int .i64 0, .str []], 18, 168, false, []⟩ := rfl
theorem g80 : Tys.get tys 80 = some ⟨.func, [.nilF], 1, 8, false, []⟩ := rfl
theorem g84 : Tys.get tys 84 = some ⟨.array 2 59, [.int .i64 0, .nilS, .int .i64 0, .nilS], 4, 64, false, []⟩ := rfl
theorem g85 : Tys.get tys 85 = some ⟨.func, [.nilF], 1, 8, false, []⟩ := rfl
theorem g89 : Tys.get tys 89 = some ⟨.array 2 61, [.int .i64 0, .int .i64 0, .int .i64 0, .int .i64 0, .nilS, .int .i64 0, .int .i64 0, .int .i64 0, .int .i64 0, .nilS], 10, 112, false, []⟩ := rfl
theorem g90 : Tys.get tys 90 = some ⟨.func, [.nilF], 1, 8, false, []⟩ := rfl
theorem g96 : Tys.get tys 96 = some ⟨.array 6 3, [.int .i64 0, .int .i64 0, .int .i64 0, .int .i64 0, .int .i64 0, .int .i64 0], 6, 48, false, []⟩ := rfl
theorem g97 : Tys.get tys 97 = some ⟨.func, [.nilF], 1, 8, false, []⟩ := rfl
theorem g117 : Tys.get tys 117 = some ⟨.array 6 24, [.int .i64 0, .int .i64 0, .int .i64 0, .nilS, .int .i64 0, .int .i64 0, .int .i64 0, .nilS, .int .i64 0, .int .i64 0, .int .i64 0, .nilS, .int .i64 0, .int .i64 0, .int .i64 0, .nilS, .int .i64 0, .int .i64 0, .int .i64 0, .nilS, .int .i64 0, .int .i64 0, .int .i64 0, .nilS], 24, 288, false, []⟩ := rfl
theorem g118 : Tys.get tys 118 = some ⟨.array 2 3, [.int .i64 0, .int .i64 0], 2, 16, false, []⟩ := rfl
theorem g119 : Tys.get tys 119 = some ⟨.func, [.nilF], 1, 8, false, []⟩ := rfl
theorem g126 : Tys.get tys 126 = some ⟨.ptr 128, [.nilP], 1, 8, false, []⟩ := rfl
theorem g128 : Tys.get tys 128 = some ⟨.struct [(0, 126), (1, 36)], [.nilP, .nilS], 2, 32, false, [(0, 128)]⟩ := rfl
theorem g130 : Tys.get tys 130 = some ⟨.struct [(0, 128)], [.nilP, .nilS], 2, 32, false, [(0, 128)]⟩ := rfl
theorem g135 : Tys.get tys 135 = some ⟨.iface, [.nilI], 1, 16, false, []⟩ := rfl
theorem g140 : Tys.get tys 140 = some ⟨.ptr 173, [.nilP], 1, 8, false, []⟩ := rfl
theorem g143 : Tys.get tys 143 = some ⟨.func, [.nilF], 1, 8, false, []⟩ := rfl
theorem g146 : Tys.get tys 146 = some ⟨.func, [.nilF], 1, 8, false, []⟩ := rfl
theorem g147 : Tys.get tys 147 = some ⟨.func, [.nilF], 1, 8, false, []⟩ := rfl
theorem g150 : Tys.get tys 150 = some ⟨.struct [(0, 51)], [.int .i64 0, .int .i64 0, .int .i64 0, .int .i64 0, .bool false, .bool false, .bool false, .str []], 8, 56, true, []⟩ := rfl
theorem g151 : Tys.get tys 151 = some ⟨.array 2 5, [.int .u8 0, .int .u8 0], 2, 2, false, []⟩ := rfl
theorem g153 : Tys.get tys 153 = some ⟨.struct [(0, 55)], [.int .i64 0, .int .i64 0, .nilS, .nilS], 4, 64, false, []⟩ := rfl
theorem g155 : Tys.get tys 155 = some ⟨.struct [(0, 57)], [.int .i64 0, .int .i64 0, .int .i64 0, .int .i64 0, .int .i64 0, .str []], 6, 56, true, []⟩ := rfl
theorem g157 : Tys.get tys 157 = some ⟨.struct [(0, 59)], [.int .i64 0, .nilS], 2, 32, false, []⟩ := rfl
theorem g159 : Tys.get tys 159 = some ⟨.struct [(0, 61)], [.int .i64 0, .int .i64 0, .int .i64 0, .int .i64 0, .nilS], 5, 56, false, []⟩ := rfl
theorem g160 : Tys.get tys 160 = some ⟨.array 8 3, [.int .i64 0, .int .i64 0, .int .i64 0, .int .i64 0, .int .i64 0, .int .i64 0, .int .i64 0, .int .i64 0], 8, 64, false, []⟩ := rfl
theorem g162 : Tys.get tys 162 = some ⟨.func, [.nilF], 1, 8, false, []⟩ := rfl
theorem g164 : Tys.get tys 164 = some ⟨.func, [.nilF], 1, 8, false, []⟩ := rfl
theorem g168 : Tys.get tys 168 = some ⟨.func, [.nilF], 1, 8, false, []⟩ := rfl
theorem g171 : Tys.get tys 171 = some ⟨.struct [(0, 9), (1, 3)], [.str [], .int .i64 0], 2, 24, true, []⟩ := rfl
theorem g173 : Tys.get tys 173 = some ⟨.struct [(0, 171)], [.str [], .int .i64 0], 2, 24, true, []⟩ := rfl
theorem g174 : Tys.get tys 174 = some ⟨.func, [.nilF], 1, 8, false, []⟩ := rfl
theorem g175 : Tys.get tys 175 = some ⟨.func, [.nilF], 1, 8, false, []⟩ := rfl
theorem g179 : Tys.get tys 179 = some ⟨.int .u64, [.int .u64 0], 1, 8, false, []⟩ := rfl
theorem g186 : Tys.get tys 186 = some ⟨.ptr 130, [.nilP], 1, 8, false, []⟩ := rfl
theorem g190 : Tys.get tys 190 = some ⟨.ptr 5, [.nilP], 1, 8, false, []⟩ := rfl
theorem g192 : Tys.get tys 192 = some ⟨.struct [], [], 0, 0, true, []⟩ := rfl
theorem g200 : Tys.get tys 200 = some ⟨.iface, [.nilI], 1, 16, false, []⟩ := rfl
theorem g212 : Tys.get tys 212 = some ⟨.int .u64, [.int .u64 0], 1, 8, false, []⟩ := rfl
theorem g215 : Tys.get tys 215 = some ⟨.array 16 5, [.int .u8 0, .int .u8 0, .int .u8 0, .int .u8 0, .int .u8 0, .int .u8 0, .int .u8 0, .int .u8 0, .int .u8 0, .int .u8 0, .int .u8 0, .int .u8 0, .int .u8 0, .int .u8 0, .int .u8 0, .int .u8 0], 16, 16, false, []⟩ := rfl
theorem g217 : Tys.get tys 217 = some ⟨.slice 4, [.nilS], 1, 24, false, []⟩ := rfl
theorem g221 : Tys.get tys 221 = some ⟨.array 32 4, [.bool false, .bool false, .bool false, .bool false, .bool false, .bool false, .bool false, .bool false, .bool false, .bool false, .bool false, .bool false, .bool false, .bool false, .bool false, .bool false, .bool false, .bool false, .bool false, .bool false, .bool false, .bool false, .bool false, .bool false, .bool false, .bool false, .bool false, .bool false, .bool false, .bool false, .bool false, .bool false], 32, 32, false, []⟩ := rfl
theorem g223 : Tys.get tys 223 = some ⟨.uptr, [.nilP], 1, 8, false, []⟩ := rfl
theorem g235 : Tys.get tys 235 = some ⟨.ptr 231, [.nilP], 1, 8, false, []⟩ := rfl
theorem g243 : Tys.get tys 243 = some ⟨.struct [(0, 171)], [.str [], .int .i64 0], 2, 24, true, []⟩ := rfl
theorem g252 : Tys.get tys 252 = some ⟨.array 3 26, [.int .u32 0, .int .u32 0, .int .u32 0], 3, 12, false, []⟩ := rfl
theorem g255 : Tys.get tys 255 = some ⟨.struct [(0, 5), (1, 5)], [.int .u8 0, .int .u8 0], 2, 2, true, []⟩ := rfl
theorem g256 : Tys.get tys 256 = some ⟨.array 16 255, [.int .u8 0, .int .u8 0, .int .u8 0, .int .u8 0, .int .u8 0, .int .u8 0, .int .u8 0, .int .u8 0, .int .u8 0, .int .u8 0, .int .u8 0, .int .u8 0, .int .u8 0, .int .u8 0, .int .u8 0, .int .u8 0, .int .u8 0, .int .u8 0, .int .u8 0, .int .u8 0, .int .u8 0, .int .u8 0, .int .u8 0, .int .u8 0, .int .u8 0, .int .u8 0, .int .u8 0, .int .u8 0, .int .u8 0, .int .u8 0, .int .u8 0, .int .u8 0], 32, 32, false, []⟩ := rfl
theorem g272 : Tys.get tys 272 = some ⟨.array 3 4, [.bool false, .bool false, .bool false], 3, 3, false, []⟩ := rfl
theorem tok3 : TOk Tryz.prog 3 ⟨.int .i64, [.int .i64 0], 1, 8, false, []⟩ (.int IntKind.i64 0) := ⟨⟨by kernel_rfl, by kernel_rfl, rfl, rfl, rfl, (fun h => by cases h), rfl⟩, by simp [ofVl, ofV, Go.Sx.cellsOf], by simp⟩
theorem tok4 : TOk Tryz.prog 4 ⟨.bool, [.bool false], 1, 1, false, []⟩ (.bool false) := ⟨⟨by kernel_rfl, by kernel_rfl, rfl, rfl, rfl, (fun h => by cases h), rfl⟩, by simp [ofVl, ofV, Go.Sx.cellsOf], by simp⟩
theorem tok5 : TOk Tryz.prog 5 ⟨.int .u8, [.int .u8 0], 1, 1, false, []⟩ (.int IntKind.u8 0) := ⟨⟨by kernel_rfl, by kernel_rfl, rfl, rfl, rfl, (fun h => by cases h), rfl⟩, by simp [ofVl, ofV, Go.Sx.cellsOf], by simp⟩
theorem tok9 : TOk Tryz.prog 9 ⟨.str, [.str []], 1, 16, false, []⟩ (.string { data := #[] }) := ⟨⟨by kernel_rfl, by kernel_rfl, rfl, rfl, rfl, (fun h => by cases h), rfl⟩, by simp [ofVl, ofV, Go.Sx.cellsOf], by simp⟩
theorem tok20 : TOk Tryz.prog 20 ⟨.iface, [.nilI], 1, 16, false, []⟩ (.nilIface) := ⟨⟨by kernel_rfl, by kernel_rfl, rfl, rfl, rfl, (fun h => by cases h), rfl⟩, by simp [ofVl, ofV, Go.Sx.cellsOf], by simp⟩
theorem tok21 : TOk Tryz.prog 21 ⟨.int .i32, [.int .i32 0], 1, 4, false, []⟩ (.int IntKind.i32 0) := ⟨⟨by kernel_rfl, by kernel_rfl, rfl, rfl, rfl, (fun h => by cases h), rfl⟩, by simp [ofVl, ofV, Go.Sx.cellsOf], by simp⟩
theorem tok22 : TOk Tryz.prog 22 ⟨.slice 34, [.nilS], 1, 24, false, []⟩ (.slice none 0 0) := ⟨⟨by kernel_rfl, by kernel_rfl, rfl, rfl, rfl, (fun h => by cases h), rfl⟩, by simp [ofVl, ofV, Go.Sx.cellsOf], by simp⟩
theorem tok24 : TOk Tryz.prog 24 ⟨.struct [(0, 3), (1, 3), (2, 3), (3, 22)], [.int .i64 0, .int .i64 0, .int .i64 0, .nilS], 4, 48, false, []⟩ (.agg #[Value.int IntKind.i64 0, Value.int IntKind.i64 0, Value.int IntKind.i64 0, Value.slice none 0 0]) := ⟨⟨by kernel_rfl, by kernel_rfl, rfl, rfl, rfl, (fun h => by cases h), rfl⟩, by simp [ofVl, ofV, Go.Sx.cellsOf], by simp⟩
theorem tok25 : TOk Tryz.prog 25 ⟨.int .u16, [.int .u16 0], 1, 2, false, []⟩ (.int IntKind.u16 0) := ⟨⟨by kernel_rfl, by kernel_rfl, rfl, rfl, rfl, (fun h => by cases h), rfl⟩, by simp [ofVl, ofV, Go.Sx.cellsOf], by simp⟩
theorem tok26 : TOk Tryz.prog 26 ⟨.int .u32, [.int .u32 0], 1, 4, false, []⟩ (.int IntKind.u32 0) := ⟨⟨by kernel_rfl, by kernel_rfl, rfl, rfl, rfl, (fun h => by cases h), rfl⟩, by simp [ofVl, ofV, Go.Sx.cellsOf], by simp⟩
theorem tok27 : TOk Tryz.prog 27 ⟨.slice 65, [.nilS], 1, 24, false, []⟩ (.slice none 0 0) := ⟨⟨by kernel_rfl, by kernel_rfl, rfl, rfl, rfl, (fun h => by cases h), rfl⟩, by simp [ofVl, ofV, Go.Sx.cellsOf], by simp⟩
theorem tok29 : TOk Tryz.prog 29 ⟨.struct [(0, 25), (1, 25), (2, 26), (3, 27)], [.int .u16 0, .int .u16 0, .int .u32 0, .nilS], 4, 32, false, []⟩ (.agg #[Value.int IntKind.u16 0, Value.int IntKind.u16 0, Value.int IntKind.u32 0, Value.slice none 0 0]) := ⟨⟨by kernel_rfl, by kernel_rfl, rfl, rfl, rfl, (fun h => by cases h), rfl⟩, by simp [ofVl, ofV, Go.Sx.cellsOf], by simp⟩
theorem tok31 : TOk Tryz.prog 31 ⟨.struct [(0, 25), (1, 5), (2, 9)], [.int .u16 0, .int .u8 0, .str []], 3, 24, true, []⟩ (.agg #[Value.int IntKind.u16 0, Value.int IntKind.u8 0, Value.string { data := #[] }]) := ⟨⟨by kernel_rfl, by kernel_rfl, rfl, rfl, rfl, (fun _ => ⟨by kernel_rfl, by kernel_rfl, by kernel_rfl⟩), rfl⟩, by simp [ofVl, ofV, Go.Sx.cellsOf], by simp⟩
theorem tok34 : TOk Tryz.prog 34 ⟨.struct [(0, 3), (1, 3), (2, 9)], [.int .i64 0, .int .i64 0, .str []], 3, 32, true, []⟩ (.agg #[Value.int IntKind.i64 0, Value.int IntKind.i64 0, Value.string { data := #[] }]) := ⟨⟨by kernel_rfl, by kernel_rfl, rfl, rfl, rfl, (fun _ => ⟨by kernel_rfl, by kernel_rfl, by kernel_rfl⟩), rfl⟩, by simp [ofVl, ofV, Go.Sx.cellsOf], by simp⟩
theorem tok36 : TOk Tryz.prog 36 ⟨.slice 5, [.nilS], 1, 24, false, []⟩ (.slice none 0 0) := ⟨⟨by kernel_rfl, by kernel_rfl, rfl, rfl, rfl, (fun h => by cases h), rfl⟩, by simp [ofVl, ofV, Go.Sx.cellsOf], by simp⟩
theorem tok37 : TOk Tryz.prog 37 ⟨.array 3 24, [.int .i64 0, .int .i64 0, .int .i64 0, .nilS, .int .i64 0, .int .i64 0, .int .i64 0, .nilS, .int .i64 0, .int .i64 0, .int .i64 0, .nilS], 12, 144, false, []⟩ (.agg #[Value.int IntKind.i64 0, Value.int IntKind.i64 0, Value.int IntKind.i64 0, Value.slice none 0 0, Value.int IntKind.i64 0, Value.int IntKind.i64 0, Value.int IntKind.i64 0, Value.slice none 0 0, Value.int IntKind.i64 0, Value.int IntKind.i64 0, Value.int IntKind.i64 0, Value.slice none 0 0]) := ⟨⟨by kernel_rfl, by kernel_rfl, rfl, rfl, rfl, (fun h => by cases h), rfl⟩, by simp [ofVl, ofV, Go.Sx.cellsOf], by simp⟩
theorem tok38 : TOk Tryz.prog 38 ⟨.int .i64, [.int .i64 0], 1, 8, false, []⟩ (.int IntKind.i64 0) := ⟨⟨by kernel_rfl, by kernel_rfl, rfl, rfl, rfl, (fun h => by cases h), rfl⟩, by simp [ofVl, ofV, Go.Sx.cellsOf], by simp⟩
theorem tok44 : TOk Tryz.prog 44 ⟨.func, [.nilF], 1, 8, false, []⟩ (.nilFunc) := ⟨⟨by kernel_rfl, by kernel_rfl, rfl, rfl, rfl, (fun h => by cases h), rfl⟩, by simp [ofVl, ofV, Go.Sx.cellsOf], by simp⟩
theorem tok45 : TOk Tryz.prog 45 ⟨.slice 9, [.nilS], 1, 24, false, []⟩ (.slice none 0 0) := ⟨⟨by kernel_rfl, by kernel_rfl, rfl, rfl, rfl, (fun h => by cases h), rfl⟩, by simp [ofVl, ofV, Go.Sx.cellsOf], by simp⟩
theorem tok51 : TOk Tryz.prog 51 ⟨.struct [(0, 3), (1, 3), (2, 3), (3, 3), (4, 4), (5, 4), (6, 4), (7, 9)], [.int .i64 0, .int .i64 0, .int .i64 0, .int .i64 0, .bool false, .bool false, .bool false, .str []], 8, 56, true, []⟩ (.agg #[Value.int IntKind.i64 0, Value.int IntKind.i64 0, Value.int IntKind.i64 0, Value.int IntKind.i64 0, Value.bool false, Value.bool false, Value.bool false, Value.string { data := #[] }]) := ⟨⟨by kernel_rfl, by kernel_rfl, rfl, rfl, rfl, (fun _ => ⟨by kernel_rfl, by kernel_rfl, by kernel_rfl⟩), rfl⟩, by simp [ofVl, ofV, Go.Sx.cellsOf], by simp⟩
theorem tok52 : TOk Tryz.prog 52 ⟨.slice 118, [.nilS], 1, 24, false, []⟩ (.slice none 0 0) := ⟨⟨by kernel_rfl, by kernel_rfl, rfl, rfl, rfl, (fun h => by cases h), rfl⟩, by simp [ofVl, ofV, Go.Sx.cellsOf], by simp⟩
theorem tok53 : TOk Tryz.prog 53 ⟨.slice 3, [.nilS], 1, 24, false, []⟩ (.slice none 0 0) := ⟨⟨by kernel_rfl, by kernel_rfl, rfl, rfl, rfl, (fun h => by cases h), rfl⟩, by simp [ofVl, ofV, Go.Sx.cellsOf], by simp⟩
theorem tok55 : TOk Tryz.prog 55 ⟨.struct [(0, 3), (1, 3), (2, 52), (3, 53)], [.int .i64 0, .int .i64 0, .nilS, .nilS], 4, 64, false, []⟩ (.agg #[Value.int IntKind.i64 0, Value.int IntKind.i64 0, Value.slice none 0 0, Value.slice none 0 0]) := ⟨⟨by kernel_rfl, by kernel_rfl, rfl, rfl, rfl, (fun h => by cases h), rfl⟩, by simp [ofVl, ofV, Go.Sx.cellsOf], by simp⟩
theorem tok57 : TOk Tryz.prog 57 ⟨.struct [(0, 3), (1, 3), (2, 3), (3, 3), (4, 3), (5, 9)], [.int .i64 0, .int .i64 0, .int .i64 0, .int .i64 0, .int .i64 0, .str []], 6, 56, true, []⟩ (.agg #[Value.int IntKind.i64 0, Value.int IntKind.i64 0, Value.int IntKind.i64 0, Value.int IntKind.i64 0, Value.int IntKind.i64 0, Value.string { data := #[] }]) := ⟨⟨by kernel_rfl, by kernel_rfl, rfl, rfl, rfl, (fun _ => ⟨by kernel_rfl, by kernel_rfl, by kernel_rfl⟩), rfl⟩, by simp [ofVl, ofV, Go.Sx.cellsOf], by simp⟩
theorem tok59 : TOk Tryz.prog 59 ⟨.struct [(0, 3), (1, 52)], [.int .i64 0, .nilS], 2, 32, false, []⟩ (.agg #[Value.int IntKind.i64 0, Value.slice none 0 0]) := ⟨⟨by kernel_rfl, by kernel_rfl, rfl, rfl, rfl, (fun h => by cases h), rfl⟩, by simp [ofVl, ofV, Go.Sx.cellsOf], by simp⟩
theorem tok61 : TOk Tryz.prog 61 ⟨.struct [(0, 3), (1, 3), (2, 3), (3, 3), (4, 53)], [.int .i64 0, .int .i64 0, .int .i64 0, .int .i64 0, .nilS], 5, 56, false, []⟩ (.agg #[Value.int IntKind.i64 0, Value.int IntKind.i64 0, Value.int IntKind.i64 0, Value.int IntKind.i64 0, Value.slice none 0 0]) := ⟨⟨by kernel_rfl, by kernel_rfl, rfl, rfl, rfl, (fun h => by cases h), rfl⟩, by simp [ofVl, ofV, Go.Sx.cellsOf], by simp⟩
theorem tok62 : TOk Tryz.prog 62 ⟨.array 4 26, [.int .u32 0, .int .u32 0, .int .u32 0, .int .u32 0], 4, 16, false, []⟩ (.agg #[Value.int IntKind.u32 0, Value.int IntKind.u32 0, Value.int IntKind.u32 0, Value.int IntKind.u32 0]) := ⟨⟨by kernel_rfl, by kernel_rfl, rfl, rfl, rfl, (fun h => by cases h), rfl⟩, by simp [ofVl, ofV, Go.Sx.cellsOf], by simp⟩
theorem tok63 : TOk Tryz.prog 63 ⟨.slice 151, [.nilS], 1, 24, false, []⟩ (.slice none 0 0) := ⟨⟨by kernel_rfl, by kernel_rfl, rfl, rfl, rfl, (fun h => by cases h), rfl⟩, by simp [ofVl, ofV, Go.Sx.cellsOf], by simp⟩
theorem tok65 : TOk Tryz.prog 65 ⟨.struct [(0, 5), (1, 62), (5, 63), (6, 9)], [.int .u8 0, .int .u32 0, .int .u32 0, .int .u32 0, .int .u32 0, .nilS, .str []], 7, 64, false, []⟩ (.agg #[Value.int IntKind.u8 0, Value.int IntKind.u32 0, Value.int IntKind.u32 0, Value.int IntKind.u32 0, Value.int IntKind.u32 0, Value.slice none 0 0, Value.string { data := #[] }]) := ⟨⟨by kernel_rfl, by kernel_rfl, rfl, rfl, rfl, (fun h => by cases h), rfl⟩, by simp [ofVl, ofV, Go.Sx.cellsOf], by simp⟩
theorem tok67 : TOk Tryz.prog 67 ⟨.array 2 51, [.int .i64 0, .int .i64 0, .int .i64 0, .int .i64 0, .bool false, .bool false, .bool false, .str [], .int .i64 0, .int .i64 0, .int .i64 0, .int .i64 0, .bool false, .bool false, .bool false, .str []], 16, 112, false, []⟩ (.agg #[Value.int IntKind.i64 0, Value.int IntKind.i64 0, Value.int IntKind.i64 0, Value.int IntKind.i64 0, Value.bool false, Value.bool false, Value.bool false, Value.string { data := #[] }, Value.int IntKind.i64 0, Value.int IntKind.i64 0, Value.int IntKind.i64 0, Value.int IntKind.i64 0, Value.bool false, Value.bool false, Value.bool false, Value.string { data := #[] }]) := ⟨⟨by kernel_rfl, by kernel_rfl, rfl, rfl, rfl, (fun h => by cases h), rfl⟩, by simp [ofVl, ofV, Go.Sx.cellsOf], by simp⟩
theorem tok69 : TOk Tryz.prog 69 ⟨.func, [.nilF], 1, 8, false, []⟩ (.nilFunc) := ⟨⟨by kernel_rfl, by kernel_rfl, rfl, rfl, rfl, (fun h => by cases h), rfl⟩, by simp [ofVl, ofV, Go.Sx.cellsOf], by simp⟩
theorem tok74 : TOk Tryz.prog 74 ⟨.array 2 55, [.int .i64 0, .int .i64 0, .nilS, .nilS, .int .i64 0, .int .i64 0, .nilS, .nilS], 8, 128, false, []⟩ (.agg #[Value.int IntKind.i64 0, Value.int IntKind.i64 0, Value.slice none 0 0, Value.slice none 0 0, Value.int IntKind.i64 0, Value.int IntKind.i64 0, Value.slice none 0 0, Value.slice none 0 0]) := ⟨⟨by kernel_rfl, by kernel_rfl, rfl, rfl, rfl, (fun h => by cases h), rfl⟩, by simp [ofVl, ofV, Go.Sx.cellsOf], by simp⟩
theorem tok75 : TOk Tryz.prog 75 ⟨.func, [.nilF], 1, 8, false, []⟩ (.nilFunc) := ⟨⟨by kernel_rfl, by kernel_rfl, rfl, rfl, rfl, (fun h => by cases h), rfl⟩, by simp [ofVl, ofV, Go.Sx.cellsOf], by simp⟩
theorem tok79 : TOk Tryz.prog 79 ⟨.array 3 57, [.int .i64 0, .int .i64 0, .int .i64 0, .int .i64 0, .int .i64 0, .str [], .int .i64 0, .int .i64 0, .int .i64 0, .int .i64 0, .int .i64 0, .str [], .int .i64 0, .int .i64 0, .int .i64 0, .int .i64 0, .int .i64 0, .str []], 18, 168, false, []⟩ (.agg #[Value.int IntKind.i64 0, Value.int IntKind.i64 0, Value.int IntKind.i64 0, Value.int IntKind.i64 0, Value.int IntKind.i64 0, Value.string { data := #[] }, Value.int IntKind.i64 0, Value.int IntKind.i64 0, Value.int IntKind.i64 0, Value.int IntKind.i64 0, Value.int IntKind.i64 0, Value.string { data := #[] }, Value.int IntKind.i64 0, Value.int IntKind.i64 0, Value.int IntKind.i64 0, Value.int IntKind.i64 0, Value.int IntKind.i64 0, Value.string { data := #[] }]) := ⟨⟨by kernel_rfl, by kernel_rfl, rfl, rfl, rfl, (fun h => by cases h), rfl⟩, by simp [ofVl, ofV, Go.Sx.cellsOf], by simp⟩
theorem tok80 : TOk Tryz.prog 80 ⟨.func, [.nilF], 1, 8, false, []⟩ (.nilFunc) := ⟨⟨by kernel_rfl, by kernel_rfl, rfl, rfl, rfl, (fun h => by cases h), rfl⟩, by simp [ofVl, ofV, Go.Sx.cellsOf], by simp⟩
theorem tok84 : TOk Tryz.prog 84 ⟨.array 2 59, [.int .i64 0, .nilS, .int .i64 0, .nilS], 4, 64, false, []⟩ (.agg #[Value.int IntKind.i64 0, Value.slice none 0 0, Value.int IntKind.i64 0, Value.slice none 0 0]) := ⟨⟨by kernel_rfl, by kernel_rfl, rfl, rfl, rfl, (fun h => by cases h), rfl⟩, by simp [ofVl, ofV, Go.Sx.cellsOf], by simp⟩
theorem tok85 : TOk Tryz.prog 85 ⟨.func, [.nilF], 1, 8, false, []⟩ (.nilFunc) := ⟨⟨by kernel_rfl, by kernel_rfl, rfl, rfl, rfl, (fun h => by cases h), rfl⟩, by simp [ofVl, ofV, Go.Sx.cellsOf], by simp⟩
theorem tok89 : TOk Tryz.prog 89 ⟨.array 2 61, [.int .i64 0, .int .i64 0, .int .i64 0, .int .i64 0, .nilS, .int .i64 0, .int .i64 0, .int .i64 0, .int .i64 0, .nilS], 10, 112, false, []⟩ (.agg #[Value.int IntKind.i64 0, Value.int IntKind.i64 0, Value.int IntKind.i64 0, Value.int IntKind.i64 0, Value.slice none 0 0, Value.int IntKind.i64 0, Value.int IntKind.i64 0, Value.int IntKind.i64 0, Value.int IntKind.i64 0, Value.slice none 0 0]) := ⟨⟨by kernel_rfl, by kernel_rfl, rfl, rfl, rfl, (fun h => by cases h), rfl⟩, by simp [ofVl, ofV, Go.Sx.cellsOf], by simp⟩
theorem tok90 : TOk Tryz.prog 90 ⟨.func, [.nilF], 1, 8, false, []⟩ (.nilFunc) := ⟨⟨by kernel_rfl, by kernel_rfl, rfl, rfl, rfl, (fun h => by cases h), rfl⟩, by simp [ofVl, ofV, Go.Sx.cellsOf], by simp⟩
theorem tok96 : TOk Tryz.prog 96 ⟨.array 6 3, [.int .i64 0, .int .i64 0, .int .i64 0, .int .i64 0, .int .i64 0, .int .i64 0], 6, 48, false, []⟩ (.agg #[Value.int IntKind.i64 0, Value.int IntKind.i64 0, Value.int IntKind.i64 0, Value.int IntKind.i64 0, Value.int IntKind.i64 0, Value.int IntKind.i64 0]) := ⟨⟨by kernel_rfl, by kernel_rfl, rfl, rfl, rfl, (fun h => by cases h), rfl⟩, by simp [ofVl, ofV, Go.Sx.cellsOf], by simp⟩
theorem tok97 : TOk Tryz.prog 97 ⟨.func, [.nilF], 1, 8, false, []⟩ (.nilFunc) := ⟨⟨by kernel_rfl, by kernel_rfl, rfl, rfl, rfl, (fun h => by cases h), rfl⟩, by simp [ofVl, ofV, Go.Sx.cellsOf], by simp⟩
theorem tok117 : TOk Tryz.prog 117 ⟨.array 6 24, [.int .i64 0, .int .i64 0, .int .i64 0, .nilS, .int .i64 0, .int .i64 0, .int .i64 0, .nilS, .int .i64 0, .int .i64 0, .int .i64 0, .nilS, .int .i64 0, .int .i64 0, .int .i64 0, .nilS, .int .i64 0, .int .i64 0, .int .i64 0, .nilS, .int .i64 0, .int .i64 0, .int .i64 0, .nilS], 24, 288, false, []⟩ (.agg #[Value.int IntKind.i64 0, Value.int IntKind.i64 0, Value.int IntKind.i64 0, Value.slice none 0 0, Value.int IntKind.i64 0, Value.int IntKind.i64 0, Value.int IntKind.i64 0, Value.slice none 0 0, Value.int IntKind.i64 0, Value.int IntKind.i64 0, Value.int IntKind.i64 0, Value.slice none 0 0, Value.int IntKind.i64 0, Value.int IntKind.i64 0, Value.int IntKind.i64 0, Value.slice none 0 0, Value.int IntKind.i64 0, Value.int IntKind.i64 0, Value.int IntKind.i64 0, Value.slice none 0 0, Value.int IntKind.i64 0, Value.int IntKind.i64 0, Value.int IntKind.i64 0, Value.slice none 0 0]) := ⟨⟨by kernel_rfl, by kernel_rfl, rfl, rfl, rfl, (fun h => by cases h), rfl⟩, by simp [ofVl, ofV, Go.Sx.cellsOf], by simp⟩
theorem tok118 : TOk Tryz.prog 118 ⟨.array 2 3, [.int .i64 0, .int .i64 0], 2, 16, false, []⟩ (.agg #[Value.int IntKind.i64 0, Value.int IntKind.i64 0]) := ⟨⟨by kernel_rfl, by kernel_rfl, rfl, rfl, rfl, (fun h => by cases h), rfl⟩, by simp [ofVl, ofV, Go.Sx.cellsOf], by simp⟩
theorem tok119 : TOk Tryz.prog 119 ⟨.func, [.nilF], 1, 8, false, []⟩ (.nilFunc) := ⟨⟨by kernel_rfl, by kernel_rfl, rfl, rfl, rfl, (fun h => by cases h), rfl⟩, by simp [ofVl, ofV, Go.Sx.cellsOf], by simp⟩
theorem tok126 : TOk Tryz.prog 126 ⟨.ptr 128, [.nilP], 1, 8, false, []⟩ (.pointer none) := ⟨⟨by kernel_rfl, by kernel_rfl, rfl, rfl, rfl, (fun h => by cases h), rfl⟩, by simp [ofVl, ofV, Go.Sx.cellsOf], by simp⟩
theorem tok128 : TOk Tryz.prog 128 ⟨.struct [(0, 126), (1, 36)], [.nilP, .nilS], 2, 32, false, [(0, 128)]⟩ (.agg #[Value.pointer none, Value.slice none 0 0]) := ⟨⟨by kernel_rfl, by kernel_rfl, rfl, rfl, rfl, (fun h => by cases h), rfl⟩, by simp [ofVl, ofV, Go.Sx.cellsOf], by intro x hx; simp only [List.mem_cons, List.not_mem_nil, or_false] at hx; subst hx; kernel_rfl⟩
theorem tok130 : TOk Tryz.prog 130 ⟨.struct [(0, 128)], [.nilP, .nilS], 2, 32, false, [(0, 128)]⟩ (.agg #[Value.pointer none, Value.slice none 0 0]) := ⟨⟨by kernel_rfl, by kernel_rfl, rfl, rfl, rfl, (fun h => by cases h), rfl⟩, by simp [ofVl, ofV, Go.Sx.cellsOf], by intro x hx; simp only [List.mem_cons, List.not_mem_nil, or_false] at hx; subst hx; kernel_rfl⟩
theorem tok135 : TOk Tryz.prog 135 ⟨.iface, [.nilI], 1, 16, false, []⟩ (.nilIface) := ⟨⟨by kernel_rfl, by kernel_rfl, rfl, rfl, rfl, (fun h => by cases h), rfl⟩, by simp [ofVl, ofV, Go.Sx.cellsOf], by simp⟩
theorem tok140 : TOk Tryz.prog 140 ⟨.ptr 173, [.nilP], 1, 8, false, []⟩ (.pointer none) := ⟨⟨by kernel_rfl, by kernel_rfl, rfl, rfl, rfl, (fun h => by cases h), rfl⟩, by simp [ofVl, ofV, Go.Sx.cellsOf], by simp⟩
theorem tok143 : TOk Tryz.prog 143 ⟨.func, [.nilF], 1, 8, false, []⟩ (.nilFunc) := ⟨⟨by kernel_rfl, by kernel_rfl, rfl, rfl, rfl, (fun h => by cases h), rfl⟩, by simp [ofVl, ofV, Go.Sx.cellsOf], by simp⟩
theorem tok146 : TOk Tryz.prog 146 ⟨.func, [.nilF], 1, 8, false, []⟩ (.nilFunc) := ⟨⟨by kernel_rfl, by kernel_rfl, rfl, rfl, rfl, (fun h => by cases h), rfl⟩, by simp [ofVl, ofV, Go.Sx.cellsOf], by simp⟩
theorem tok147 : TOk Tryz.prog 147 ⟨.func, [.nilF], 1, 8, false, []⟩ (.nilFunc) := ⟨⟨by kernel_rfl, by kernel_rfl, rfl, rfl, rfl, (fun h => by cases h), rfl⟩, by simp [ofVl, ofV, Go.Sx.cellsOf], by simp⟩
theorem tok150 : TOk Tryz.prog 150 ⟨.struct [(0, 51)], [.int .i64 0, .int .i64 0, .int .i64 0, .int .i64 0, .bool false, .bool false, .bool false, .str []], 8, 56, true, []⟩ (.agg #[Value.int IntKind.i64 0, Value.int IntKind.i64 0, Value.int IntKind.i64 0, Value.int IntKind.i64 0, Value.bool false, Value.bool false, Value.bool false, Value.string { data := #[] }]) := ⟨⟨by kernel_rfl, by kernel_rfl, rfl, rfl, rfl, (fun _ => ⟨by kernel_rfl, by kernel_rfl, by kernel_rfl⟩), rfl⟩, by simp [ofVl, ofV, Go.Sx.cellsOf], by simp⟩
theorem tok151 : TOk Tryz.prog 151 ⟨.array 2 5, [.int .u8 0, .int .u8 0], 2, 2, false, []⟩ (.agg #[Value.int IntKind.u8 0, Value.int IntKind.u8 0]) := ⟨⟨by kernel_rfl, by kernel_rfl, rfl, rfl, rfl, (fun h => by cases h), rfl⟩, by simp [ofVl, ofV, Go.Sx.cellsOf], by simp⟩
theorem tok153 : TOk Tryz.prog 153 ⟨.struct [(0, 55)], [.int .i64 0, .int .i64 0, .nilS, .nilS], 4, 64, false, []⟩ (.agg #[Value.int IntKind.i64 0, Value.int IntKind.i64 0, Value.slice none 0 0, Value.slice none 0 0]) := ⟨⟨by kernel_rfl, by kernel_rfl, rfl, rfl, rfl, (fun h => by cases h), rfl⟩, by simp [ofVl, ofV, Go.Sx.cellsOf], by simp⟩
theorem tok155 : TOk Tryz.prog 155 ⟨.struct [(0, 57)], [.int .i64 0, .int .i64 0, .int .i64 0, .int .i64 0, .int .i64 0, .str []], 6, 56, true, []⟩ (.agg #[Value.int IntKind.i64 0, Value.int IntKind.i64 0, Value.int IntKind.i64 0, Value.int IntKind.i64 0, Value.int IntKind.i64 0, Value.string { data := #[] }]) := ⟨⟨by kernel_rfl, by kernel_rfl, rfl, rfl, rfl, (fun _ => ⟨by kernel_rfl, by kernel_rfl, by kernel_rfl⟩), rfl⟩, by simp [ofVl, ofV, Go.Sx.cellsOf], by simp⟩
theorem tok157 : TOk Tryz.prog 157 ⟨.struct [(0, 59)], [.int .i64 0, .nilS], 2, 32, false, []⟩ (.agg #[Value.int IntKind.i64 0, Value.slice none 0 0]) := ⟨⟨by kernel_rfl, by kernel_rfl, rfl, rfl, rfl, (fun h => by cases h), rfl⟩, by simp [ofVl, ofV, Go.Sx.cellsOf], by simp⟩
theorem tok159 : TOk Tryz.prog 159 ⟨.struct [(0, 61)], [.int .i64 0, .int .i64 0, .int .i64 0, .int .i64 0, .nilS], 5, 56, false, []⟩ (.agg #[Value.int IntKind.i64 0, Value.int IntKind.i64 0, Value.int IntKind.i64 0, Value.int IntKind.i64 0, Value.slice none 0 0]) := ⟨⟨by kernel_rfl, by kernel_rfl, rfl, rfl, rfl, (fun h => by cases h), rfl⟩, by simp [ofVl, ofV, Go.Sx.cellsOf], by simp⟩
theorem tok160 : TOk Tryz.prog 160 ⟨.array 8 3, [.int .i64 0, .int .i64 0, .int .i64 0, .int .i64 0, .int .i64 0, .int .i64 0, .int .i64 0, .int .i64 0], 8, 64, false, []⟩ (.agg #[Value.int IntKind.i64 0, Value.int IntKind.i64 0, Value.int IntKind.i64 0, Value.int IntKind.i64 0, Value.int IntKind.i64 0, Value.int IntKind.i64 0, Value.int IntKind.i64 0, Value.int IntKind.i64 0]) := ⟨⟨by kernel_rfl, by kernel_rfl, rfl, rfl, rfl, (fun h => by cases h), rfl⟩, by simp [ofVl, ofV, Go.Sx.cellsOf], by simp⟩
theorem tok162 : TOk Tryz.prog 162 ⟨.func, [.nilF], 1, 8, false, []⟩ (.nilFunc) := ⟨⟨by kernel_rfl, by kernel_rfl, rfl, rfl, rfl, (fun h => by cases h), rfl⟩, by simp [ofVl, ofV, Go.Sx.cellsOf], by simp⟩
theorem tok164 : TOk Tryz.prog 164 ⟨.func, [.nilF], 1, 8, false, []⟩ (.nilFunc) := ⟨⟨by kernel_rfl, by kernel_rfl, rfl, rfl, rfl, (fun h => by cases h), rfl⟩, by simp [ofVl, ofV, Go.Sx.cellsOf], by simp⟩
theorem tok168 : TOk Tryz.prog 168 ⟨.func, [.nilF], 1, 8, false, []⟩ (.nilFunc) := ⟨⟨by kernel_rfl, by kernel_rfl, rfl, rfl, rfl, (fun h => by cases h), rfl⟩, by simp [ofVl, ofV, Go.Sx.cellsOf], by simp⟩
theorem tok171 : TOk Tryz.prog 171 ⟨.struct [(0, 9), (1, 3)], [.str [], .int .i64 0], 2, 24, true, []⟩ (.agg #[Value.string { data := #[] }, Value.int IntKind.i64 0]) := ⟨⟨by kernel_rfl, by kernel_rfl, rfl, rfl, rfl, (fun _ => ⟨by kernel_rfl, by kernel_rfl, by kernel_rfl⟩), rfl⟩, by simp [ofVl, ofV, Go.Sx.cellsOf], by simp⟩
theorem tok173 : TOk Tryz.prog 173 ⟨.struct [(0, 171)], [.str [], .int .i64 0], 2, 24, true, []⟩ (.agg #[Value.string { data := #[] }, Value.int IntKind.i64 0]) := ⟨⟨by kernel_rfl, by kernel_rfl, rfl, rfl, rfl, (fun _ => ⟨by kernel_rfl, by kernel_rfl, by kernel_rfl⟩), rfl⟩, by simp [ofVl, ofV, Go.Sx.cellsOf], by simp⟩
theorem tok174 : TOk Tryz.prog 174 ⟨.func, [.nilF], 1, 8, false, []⟩ (.nilFunc) := ⟨⟨by kernel_rfl, by kernel_rfl, rfl, rfl, rfl, (fun h => by cases h), rfl⟩, by simp [ofVl, ofV, Go.Sx.cellsOf], by simp⟩
theorem tok175 : TOk Tryz.prog 175 ⟨.func, [.nilF], 1, 8, false, []⟩ (.nilFunc) := ⟨⟨by kernel_rfl, by kernel_rfl, rfl, rfl, rfl, (fun h => by cases h), rfl⟩, by simp [ofVl, ofV, Go.Sx.cellsOf], by simp⟩
theorem tok179 : TOk Tryz.prog 179 ⟨.int .u64, [.int .u64 0], 1, 8, false, []⟩ (.int IntKind.u64 0) := ⟨⟨by kernel_rfl, by kernel_rfl, rfl, rfl, rfl, (fun h => by cases h), rfl⟩, by simp [ofVl, ofV, Go.Sx.cellsOf], by simp⟩
theorem tok186 : TOk Tryz.prog 186 ⟨.ptr 130, [.nilP], 1, 8, false, []⟩ (.pointer none) := ⟨⟨by kernel_rfl, by kernel_rfl, rfl, rfl, rfl, (fun h => by cases h), rfl⟩, by simp [ofVl, ofV, Go.Sx.cellsOf], by simp⟩
theorem tok190 : TOk Tryz.prog 190 ⟨.ptr 5, [.nilP], 1, 8, false, []⟩ (.pointer none) := ⟨⟨by kernel_rfl, by kernel_rfl, rfl, rfl, rfl, (fun h => by cases h), rfl⟩, by simp [ofVl, ofV, Go.Sx.cellsOf], by simp⟩
theorem tok192 : TOk Tryz.prog 192 ⟨.struct [], [], 0, 0, true, []⟩ (.agg #[]) := ⟨⟨by kernel_rfl, by kernel_rfl, rfl, rfl, rfl, (fun _ => ⟨by kernel_rfl, by kernel_rfl, by kernel_rfl⟩), rfl⟩, by simp [ofVl, ofV, Go.Sx.cellsOf], by simp⟩
theorem tok200 : TOk Tryz.prog 200 ⟨.iface, [.nilI], 1, 16, false, []⟩ (.nilIface) := ⟨⟨by kernel_rfl, by kernel_rfl, rfl, rfl, rfl, (fun h => by cases h), rfl⟩, by simp [ofVl, ofV, Go.Sx.cellsOf], by simp⟩
theorem tok212 : TOk Tryz.prog 212 ⟨.int .u64, [.int .u64 0], 1, 8, false, []⟩ (.int IntKind.u64 0) := ⟨⟨by kernel_rfl, by kernel_rfl, rfl, rfl, rfl, (fun h => by cases h), rfl⟩, by simp [ofVl, ofV, Go.Sx.cellsOf], by simp⟩
theorem tok215 : TOk Tryz.prog 215 ⟨.array 16 5, [.int .u8 0, .int .u8 0, .int .u8 0, .int .u8 0, .int .u8 0, .int .u8 0, .int .u8 0, .int .u8 0, .int .u8 0, .int .u8 0, .int .u8 0, .int .u8 0, .int .u8 0, .int .u8 0, .int .u8 0, .int .u8 0], 16, 16, false, []⟩ (.agg #[Value.int IntKind.u8 0, Value.int IntKind.u8 0, Value.int IntKind.u8 0, Value.int IntKind.u8 0, Value.int IntKind.u8 0, Value.int IntKind.u8 0, Value.int IntKind.u8 0, Value.int IntKind.u8 0, Value.int IntKind.u8 0, Value.int IntKind.u8 0, Value.int IntKind.u8 0, Value.int IntKind.u8 0, Value.int IntKind.u8 0, Value.int IntKind.u8 0, Value.int IntKind.u8 0, Value.int IntKind.u8 0]) := ⟨⟨by kernel_rfl, by kernel_rfl, rfl, rfl, rfl, (fun h => by cases h), rfl⟩, by simp [ofVl, ofV, Go.Sx.cellsOf], by simp⟩
theorem tok217 : TOk Tryz.prog 217 ⟨.slice 4, [.nilS], 1, 24, false, []⟩ (.slice none 0 0) := ⟨⟨by kernel_rfl, by kernel_rfl, rfl, rfl, rfl, (fun h => by cases h), rfl⟩, by simp [ofVl, ofV, Go.Sx.cellsOf], by simp⟩
theorem tok221 : TOk Tryz.prog 221 ⟨.array 32 4, [.bool false, .bool false, .bool false, .bool false, .bool false, .bool false, .bool false, .bool false, .bool false, .bool false, .bool false, .bool false, .bool false, .bool false, .bool false, .bool false, .bool false, .bool false, .bool false, .bool false, .bool false, .bool false, .bool false, .bool false, .bool false, .bool false, .bool false, .bool false, .bool false, .bool false, .bool false, .bool false], 32, 32, false, []⟩ (.agg #[Value.bool false, Value.bool false, Value.bool false, Value.bool false, Value.bool false, Value.bool false, Value.bool false, Value.bool false, Value.bool false, Value.bool false, Value.bool false, Value.bool false, Value.bool false, Value.bool false, Value.bool false, Value.bool false, Value.bool false, Value.bool false, Value.bool false, Value.bool false, Value.bool false, Value.bool false, Value.bool false, Value.bool false, Value.bool false, Value.bool false, Value.bool false, Value.bool false, Value.bool false, Value.bool false, Value.bool false, Value.bool false]) := ⟨⟨by kernel_rfl, by kernel_rfl, rfl, rfl, rfl, (fun h => by cases h), rfl⟩, by simp [ofVl, ofV, Go.Sx.cellsOf], by simp⟩
theorem tok223 : TOk Tryz.prog 223 ⟨.uptr, [.nilP], 1, 8, false, []⟩ (.pointer none) := ⟨⟨by kernel_rfl, by kernel_rfl, rfl, rfl, rfl, (fun h => by cases h), rfl⟩, by simp [ofVl, ofV, Go.Sx.cellsOf], by simp⟩
theorem tok235 : TOk Tryz.prog 235 ⟨.ptr 231, [.nilP], 1, 8, false, []⟩ (.pointer none) := ⟨⟨by kernel_rfl, by kernel_rfl, rfl, rfl, rfl, (fun h => by cases h), rfl⟩, by simp [ofVl, ofV, Go.Sx.cellsOf], by simp⟩
theorem tok243 : TOk Tryz.prog 243 ⟨.struct [(0, 171)], [.str [], .int .i64 0], 2, 24, true, []⟩ (.agg #[Value.string { data := #[] }, Value.int IntKind.i64 0]) := ⟨⟨by kernel_rfl, by kernel_rfl, rfl, rfl, rfl, (fun _ => ⟨by kernel_rfl, by kernel_rfl, by kernel_rfl⟩), rfl⟩, by simp [ofVl, ofV, Go.Sx.cellsOf], by simp⟩
theorem tok252 : TOk Tryz.prog 252 ⟨.array 3 26, [.int .u32 0, .int .u32 0, .int .u32 0], 3, 12, false, []⟩ (.agg #[Value.int IntKind.u32 0, Value.int IntKind.u32 0, Value.int IntKind.u32 0]) := ⟨⟨by kernel_rfl, by kernel_rfl, rfl, rfl, rfl, (fun h => by cases h), rfl⟩, by simp [ofVl, ofV, Go.Sx.cellsOf], by simp⟩
theorem tok255 : TOk Tryz.prog 255 ⟨.struct [(0, 5), (1, 5)], [.int .u8 0, .int .u8 0], 2, 2, true, []⟩ (.agg #[Value.int IntKind.u8 0, Value.int IntKind.u8 0]) := ⟨⟨by kernel_rfl, by kernel_rfl, rfl, rfl, rfl, (fun _ => ⟨by kernel_rfl, by kernel_rfl, by kernel_rfl⟩), rfl⟩, by simp [ofVl, ofV, Go.Sx.cellsOf], by simp⟩
theorem tok256 : TOk Tryz.prog 256 ⟨.array 16 255, [.int .u8 0, .int .u8 0, .int .u8 0, .int .u8 0, .int .u8 0, .int .u8 0, .int .u8 0, .int .u8 0, .int .u8 0, .int .u8 0, .int .u8 0, .int .u8 0, .int .u8 0, .int .u8 0, .int .u8 0, .int .u8 0, .int .u8 0, .int .u8 0, .int .u8 0, .int .u8 0, .int .u8 0, .int .u8 0, .int .u8 0, .int .u8 0, .int .u8 0, .int .u8 0, .int .u8 0, .int .u8 0, .int .u8 0, .int .u8 0, .int .u8 0, .int .u8 0], 32, 32, false, []⟩ (.agg #[Value.int IntKind.u8 0, Value.int IntKind.u8 0, Value.int IntKind.u8 0, Value.int IntKind.u8 0, Value.int IntKind.u8 0, Value.int IntKind.u8 0, Value.int IntKind.u8 0, Value.int IntKind.u8 0, Value.int IntKind.u8 0, Value.int IntKind.u8 0, Value.int IntKind.u8 0, Value.int IntKind.u8 0, Value.int IntKind.u8 0, Value.int IntKind.u8 0, Value.int IntKind.u8 0, Value.int IntKind.u8 0, Value.int IntKind.u8 0, Value.int IntKind.u8 0, Value.int IntKind.u8 0, Value.int IntKind.u8 0, Value.int IntKind.u8 0, Value.int IntKind.u8 0, Value.int IntKind.u8 0, Value.int IntKind.u8 0, Value.int IntKind.u8 0, Value.int IntKind.u8 0, Value.int IntKind.u8 0, Value.int IntKind.u8 0, Value.int IntKind.u8 0, Value.int IntKind.u8 0, Value.int IntKind.u8 0, Value.int IntKind.u8 0]) := ⟨⟨by kernel_rfl, by kernel_rfl, rfl, rfl, rfl, (fun h => by cases h), rfl⟩, by simp [ofVl, ofV, Go.Sx.cellsOf], by simp⟩
theorem tok272 : TOk Tryz.prog 272 ⟨.array 3 4, [.bool false, .bool false, .bool false], 3, 3, false, []⟩ (.agg #[Value.bool false, Value.bool false, Value.bool false]) := ⟨⟨by kernel_rfl, by kernel_rfl, rfl, rfl, rfl, (fun h => by cases h), rfl⟩, by simp [ofVl, ofV, Go.Sx.cellsOf], by simp⟩
theorem tysOk : Tys.Ok Tryz.prog tys := TysAll.ok ⟨⟨_, tok3⟩, ⟨_, tok4⟩, ⟨_, tok5⟩, ⟨_, tok9⟩, ⟨_, tok20⟩, ⟨_, tok21⟩, ⟨_, tok22⟩, ⟨_, tok24⟩, ⟨_, tok25⟩, ⟨_, tok26⟩, ⟨_, tok27⟩, ⟨_, tok29⟩, ⟨_, tok31⟩, ⟨_, tok34⟩, ⟨_, tok36⟩, ⟨_, tok37⟩, ⟨_, tok38⟩, ⟨_, tok44⟩, ⟨_, tok45⟩, ⟨_, tok51⟩, ⟨_, tok52⟩, ⟨_, tok53⟩, ⟨_, tok55⟩, ⟨_, tok57⟩, ⟨_, tok59⟩, ⟨_, tok61⟩, ⟨_, tok62⟩, ⟨_, tok63⟩, ⟨_, tok65⟩, ⟨_, tok67⟩, ⟨_, tok69⟩, ⟨_, tok74⟩, ⟨_, tok75⟩, ⟨_, tok79⟩, ⟨_, tok80⟩, ⟨_, tok84⟩, ⟨_, tok85⟩, ⟨_, tok89⟩, ⟨_, tok90⟩, ⟨_, tok96⟩, ⟨_, tok97⟩, ⟨_, tok117⟩, ⟨_, tok118⟩, ⟨_, tok119⟩, ⟨_, tok126⟩, ⟨_, tok128⟩, ⟨_, tok130⟩, ⟨_, tok135⟩, ⟨_, tok140⟩, ⟨_, tok143⟩, ⟨_, tok146⟩, ⟨_, tok147⟩, ⟨_, tok150⟩, ⟨_, tok151⟩, ⟨_, tok153⟩, ⟨_, tok155⟩, ⟨_, tok157⟩, ⟨_, tok159⟩, ⟨_, tok160⟩, ⟨_, tok162⟩, ⟨_, tok164⟩, ⟨_, tok168⟩, ⟨_, tok171⟩, ⟨_, tok173⟩, ⟨_, tok174⟩, ⟨_, tok175⟩, ⟨_, tok179⟩, ⟨_, tok186⟩, ⟨_, tok190⟩, ⟨_, tok192⟩, ⟨_, tok200⟩, ⟨_, tok212⟩, ⟨_, tok215⟩, ⟨_, tok217⟩, ⟨_, tok221⟩, ⟨_, tok223⟩, ⟨_, tok235⟩, ⟨_, tok243⟩, ⟨_, tok252⟩, ⟨_, tok255⟩, ⟨_, tok256⟩, ⟨_, tok272⟩, trivial⟩
def FieldsIn (T : Tys) : Tys → Bool
 | [] => true
 | (_, i) :: l => (match i.k with | .struct fs => fs.all (fun f => (T.get f.2).isSome) | _ => true) && FieldsIn T l
theorem FieldsIn.ok {T : Tys} : ∀ {L : Tys}, FieldsIn T L = true → ∀ t i fs, L.get t = some i → i.k = .struct fs → ∀ f ∈ fs, ∃ fi, T.get f.2 = some fi
 | [], _, t, i, fs, h => by cases h
 | (u, j) :: l, h, t, i, fs, hg => by
  simp only [FieldsIn, Bool.and_eq_true] at h
  simp only [Tys.get] at hg
  split at hg
  ·injection hg with hg; subst hg
   intro hk f hf
   have h1 := h.1
   rw [hk] at h1
   simp only [List.all_eq_true] at h1
   exact Option.isSome_iff_exists.1 (h1 f hf)
  ·exact FieldsIn.ok h.2 t i fs hg
theorem fieldsOk : AllFields tys := FieldsIn.ok (by kernel_rfl)
theorem mixedOk : Tryz.prog.follows .mixedOrders = true := by kernel_rfl
def meths : Meths := [(150, "tannoy/chunk.valid", 195), (150, "tannoy/chunk.write", 196), (153, "tannoy/chunk.valid", 197), (153, "tannoy/chunk.write", 198), (155, "tannoy/chunk.valid", 199), (155, "tannoy/chunk.write", 200), (157, "tannoy/chunk.valid", 201), (157, "tannoy/chunk.write", 202), (159, "tannoy/chunk.valid", 203), (159, "tannoy/chunk.write", 204)]
theorem meth0 (v : Value) (w : World) : (method (Tryz.prog.types.size + Made.depth) 150 v "tannoy/chunk.valid").run Tryz.prog w = .ok (195, v) w := by kernel_rfl
theorem meth1 (v : Value) (w : World) : (method (Tryz.prog.types.size + Made.depth) 150 v "tannoy/chunk.write").run Tryz.prog w = .ok (196, v) w := by kernel_rfl
theorem meth2 (v : Value) (w : World) : (method (Tryz.prog.types.size + Made.depth) 153 v "tannoy/chunk.valid").run Tryz.prog w = .ok (197, v) w := by kernel_rfl
theorem meth3 (v : Value) (w : World) : (method (Tryz.prog.types.size + Made.depth) 153 v "tannoy/chunk.write").run Tryz.prog w = .ok (198, v) w := by kernel_rfl
theorem meth4 (v : Value) (w : World) : (method (Tryz.prog.types.size + Made.depth) 155 v "tannoy/chunk.valid").run Tryz.prog w = .ok (199, v) w := by kernel_rfl
theorem meth5 (v : Value) (w : World) : (method (Tryz.prog.types.size + Made.depth) 155 v "tannoy/chunk.write").run Tryz.prog w = .ok (200, v) w := by kernel_rfl
theorem meth6 (v : Value) (w : World) : (method (Tryz.prog.types.size + Made.depth) 157 v "tannoy/chunk.valid").run Tryz.prog w = .ok (201, v) w := by kernel_rfl
theorem meth7 (v : Value) (w : World) : (method (Tryz.prog.types.size + Made.depth) 157 v "tannoy/chunk.write").run Tryz.prog w = .ok (202, v) w := by kernel_rfl
theorem meth8 (v : Value) (w : World) : (method (Tryz.prog.types.size + Made.depth) 159 v "tannoy/chunk.valid").run Tryz.prog w = .ok (203, v) w := by kernel_rfl
theorem meth9 (v : Value) (w : World) : (method (Tryz.prog.types.size + Made.depth) 159 v "tannoy/chunk.write").run Tryz.prog w = .ok (204, v) w := by kernel_rfl
theorem methsOk : meths.Ok Tryz.prog := by
 intro t n f h v w
 simp only [meths, Meths.get] at h
 split at h
 ·rename_i hc; obtain ⟨e1, e2⟩ := hc; simp only [Option.some.injEq] at h; rw [← e1, ← e2, ← h]; exact meth0 v w
 split at h
 ·rename_i hc; obtain ⟨e1, e2⟩ := hc; simp only [Option.some.injEq] at h; rw [← e1, ← e2, ← h]; exact meth1 v w
 split at h
 ·rename_i hc; obtain ⟨e1, e2⟩ := hc; simp only [Option.some.injEq] at h; rw [← e1, ← e2, ← h]; exact meth2 v w
 split at h
 ·rename_i hc; obtain ⟨e1, e2⟩ := hc; simp only [Option.some.injEq] at h; rw [← e1, ← e2, ← h]; exact meth3 v w
 split at h
 ·rename_i hc; obtain ⟨e1, e2⟩ := hc; simp only [Option.some.injEq] at h; rw [← e1, ← e2, ← h]; exact meth4 v w
 split at h
 ·rename_i hc; obtain ⟨e1, e2⟩ := hc; simp only [Option.some.injEq] at h; rw [← e1, ← e2, ← h]; exact meth5 v w
 split at h
 ·rename_i hc; obtain ⟨e1, e2⟩ := hc; simp only [Option.some.injEq] at h; rw [← e1, ← e2, ← h]; exact meth6 v w
 split at h
 ·rename_i hc; obtain ⟨e1, e2⟩ := hc; simp only [Option.some.injEq] at h; rw [← e1, ← e2, ← h]; exact meth7 v w
 split at h
 ·rename_i hc; obtain ⟨e1, e2⟩ := hc; simp only [Option.some.injEq] at h; rw [← e1, ← e2, ← h]; exact meth8 v w
 split at h
 ·rename_i hc; obtain ⟨e1, e2⟩ := hc; simp only [Option.some.injEq] at h; rw [← e1, ← e2, ← h]; exact meth9 v w
 cases h
noncomputable def cx (L : Nat) : Cx := ⟨Tryz.prog, tys, meths, false, L, none, [], [], false, [], fun _ => False⟩
theorem cxOk (L : Nat) : (cx L).Ok := ⟨tysOk, fieldsOk, mixedOk, methsOk⟩
attribute [go_sem] g3 g4 g5 g9 g20 g21 g22 g24 g25 g26 g27 g29 g31 g34 g36 g37 g38 g44 g45 g51 g52 g53 g55 g57 g59 g61 g62 g63 g65 g67 g69 g74 g75 g79 g80 g84 g85 g89 g90 g96 g97 g117 g118 g119 g126 g128 g130 g135 g140 g143 g146 g147 g150 g151 g153 g155 g157 g159 g160 g162 g164 g168 g171 g173 g174 g175 g179 g186 g190 g192 g200 g212 g215 g217 g221 g223 g235 g243 g252 g255 g256 g272
theorem bdy (fn : Func) {f : FuncId} {args : List PV} {F : SF} {L nx : Nat} {v : PV} {upd : List (Nm × SBlk)} {rd : List Nm} (H : ∀ F3 : SF, (∀ n ∈ rd, F3 n = F n) → (∀ n : Nm, L < n.l → F3 n = none) → vcC (cx (L + 1)) F3 (fn.body.getD .skip) ⟨initT args fn.ntmps, [], 0⟩ (PostF (cx (L + 1)).T F3 fn.results.toList L v upd)) (hrd : ∀ n ∈ rd, n.l ≤ L := by simp) (hf : Tryz.prog.funcs[f]? = some fn := by kernel_rfl) (hb : fn.body = some (fn.body.getD .skip) := by rfl) (hnum : (fn.name == "runtime.NumGoroutine") = false := by kernel_rfl) : Con Tryz.prog f args F L nx nx v upd rd := Con.body (cxOk (L + 1)) rfl rfl hf hb hnum rfl hrd H
theorem bdyN (fn : Func) {f : FuncId} {args : List PV} {F : SF} {L nx k : Nat} {v : PV} {upd : List (Nm × SBlk)} {rd : List Nm} (H : ∀ F3 : SF, (∀ n ∈ rd, F3 n = F n) → (∀ n : Nm, L < n.l → F3 n = none) → vcC (cx (L + 1)) F3 (fn.body.getD .skip) ⟨initT args fn.ntmps, [], 0⟩ (PostS (cx (L + 1)).T F3 fn.results.toList L nx v upd k)) (hrd : ∀ n ∈ rd, n.l ≤ L := by simp) (hf : Tryz.prog.funcs[f]? = some fn := by kernel_rfl) (hb : fn.body = some (fn.body.getD .skip) := by rfl) (hnum : (fn.name == "runtime.NumGoroutine") = false := by kernel_rfl) : Con Tryz.prog f args F L nx (nx + k) v upd rd := Con.bodyN (cxOk (L + 1)) rfl rfl hf hb hnum rfl hrd H
end Go.Proofs.YtaacfnngodhecaaGreatDoor
end
