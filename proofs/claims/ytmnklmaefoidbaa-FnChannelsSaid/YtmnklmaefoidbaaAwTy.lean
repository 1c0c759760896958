/-
  The types of this seat, as the walk on abstract values needs them.
-/
import Derived.Test.YtmnklmaefoidbaaProg
import Derived.Test.YtmnklmaefoidbaaAwStep
import Derived.KernelRfl
namespace Go.Proofs.Ytmnklmaefoidbaa.Aw
open Go Go.RowKit

def allTy (P : Program) : List (Nat × TI) → Prop
  | [] => True
  | (t, i) :: l => tiOf P t = some i ∧ allTy P l
theorem look_allTy {P : Program} : ∀ {l : List (Nat × TI)} {t : Nat} {i : TI}, allTy P l → look l t = some i → tiOf P t = some i
  | [], _, _, _, h => by simp [look_nil] at h
  | (u, x) :: l, t, i, ha, h => by
    rw [look_cons] at h
    split at h
    · rename_i he; subst he; simp only [Option.some.injEq] at h; subst h; exact ha.1
    · exact look_allTy ha.2 h

theorem ty_1 : tiOf Try.prog 1 = some ⟨1, false, 8, [.nilFunc], .other⟩ := by kernel_rfl
theorem ty_2 : tiOf Try.prog 2 = some ⟨1, false, 8, [.int .i64 0], .int .i64⟩ := by kernel_rfl
theorem ty_3 : tiOf Try.prog 3 = some ⟨1, false, 8, [.int .i64 0], .int .i64⟩ := by kernel_rfl
theorem ty_4 : tiOf Try.prog 4 = some ⟨1, false, 1, [.bool false], .bool⟩ := by kernel_rfl
theorem ty_5 : tiOf Try.prog 5 = some ⟨1, false, 1, [.int .u8 0], .int .u8⟩ := by kernel_rfl
theorem ty_6 : tiOf Try.prog 6 = some ⟨1, false, 1, [.int .u8 0], .int .u8⟩ := by kernel_rfl
theorem ty_7 : tiOf Try.prog 7 = some ⟨4, true, 24, [.int .i64 0, .int .i64 0, .bool false, .int .u8 0], .struct [(0, 1, false), (1, 1, false), (2, 1, false), (3, 1, false)]⟩ := by kernel_rfl
theorem ty_8 : tiOf Try.prog 8 = some ⟨4, true, 24, [.int .i64 0, .int .i64 0, .bool false, .int .u8 0], .struct [(0, 1, false), (1, 1, false), (2, 1, false), (3, 1, false)]⟩ := by kernel_rfl
theorem ty_9 : tiOf Try.prog 9 = some ⟨1, false, 16, [.string ByteArray.empty], .str⟩ := by kernel_rfl
theorem ty_10 : tiOf Try.prog 10 = some ⟨1, false, 16, [.string ByteArray.empty], .str⟩ := by kernel_rfl
theorem ty_11 : tiOf Try.prog 11 = some ⟨1, false, 16, [.string ByteArray.empty], .str⟩ := by kernel_rfl
theorem ty_12 : tiOf Try.prog 12 = some ⟨1, false, 8, [.int .u64 0], .int .u64⟩ := by kernel_rfl
theorem ty_13 : tiOf Try.prog 13 = some ⟨2, true, 24, [.string ByteArray.empty, .int .u64 0], .struct [(0, 1, false), (1, 1, false)]⟩ := by kernel_rfl
theorem ty_14 : tiOf Try.prog 14 = some ⟨2, true, 24, [.string ByteArray.empty, .int .u64 0], .struct [(0, 1, false), (1, 1, false)]⟩ := by kernel_rfl
theorem ty_15 : tiOf Try.prog 15 = some ⟨1, false, 8, [.pointer none], .other⟩ := by kernel_rfl
theorem ty_16 : tiOf Try.prog 16 = some ⟨1, false, 8, [.pointer none], .other⟩ := by kernel_rfl
theorem ty_17 : tiOf Try.prog 17 = some ⟨1, false, 8, [.pointer none], .other⟩ := by kernel_rfl
theorem ty_18 : tiOf Try.prog 18 = some ⟨1, true, 8, [.pointer none], .struct [(0, 1, false)]⟩ := by kernel_rfl
theorem ty_19 : tiOf Try.prog 19 = some ⟨1, true, 8, [.pointer none], .struct [(0, 1, false)]⟩ := by kernel_rfl
theorem ty_21 : tiOf Try.prog 21 = some ⟨1, false, 4, [.int .i32 0], .int .i32⟩ := by kernel_rfl
theorem ty_22 : tiOf Try.prog 22 = some ⟨5, true, 48, [.string ByteArray.empty, .int .i64 0, .int .i64 0, .int .i64 0, .int .i64 0], .struct [(0, 1, false), (1, 1, false), (2, 1, false), (3, 1, false), (4, 1, false)]⟩ := by kernel_rfl
theorem ty_23 : tiOf Try.prog 23 = some ⟨5, true, 48, [.string ByteArray.empty, .int .i64 0, .int .i64 0, .int .i64 0, .int .i64 0], .struct [(0, 1, false), (1, 1, false), (2, 1, false), (3, 1, false), (4, 1, false)]⟩ := by kernel_rfl
theorem ty_24 : tiOf Try.prog 24 = some ⟨1, false, 8, [.nilFunc], .other⟩ := by kernel_rfl
theorem ty_26 : tiOf Try.prog 26 = some ⟨1, false, 8, [.nilFunc], .other⟩ := by kernel_rfl
theorem ty_27 : tiOf Try.prog 27 = some ⟨5, true, 48, [.string ByteArray.empty, .int .i64 0, .int .i64 0, .int .i64 0, .int .i64 0], .struct [(0, 1, false), (1, 1, false), (2, 1, false), (3, 1, false), (4, 1, false)]⟩ := by kernel_rfl
theorem ty_28 : tiOf Try.prog 28 = some ⟨1, false, 8, [.nilFunc], .other⟩ := by kernel_rfl
theorem ty_29 : tiOf Try.prog 29 = some ⟨1, false, 8, [.nilFunc], .other⟩ := by kernel_rfl
theorem ty_31 : tiOf Try.prog 31 = some ⟨1, false, 8, [.nilFunc], .other⟩ := by kernel_rfl
theorem ty_32 : tiOf Try.prog 32 = some ⟨1, false, 8, [.nilFunc], .other⟩ := by kernel_rfl
theorem ty_33 : tiOf Try.prog 33 = some ⟨1, false, 8, [.nilFunc], .other⟩ := by kernel_rfl
theorem ty_34 : tiOf Try.prog 34 = some ⟨1, false, 24, [.slice none 0 0], .slice 2 1 8 [.int .i64 0]⟩ := by kernel_rfl
theorem ty_35 : tiOf Try.prog 35 = some ⟨4, true, 48, [.int .i64 0, .int .i64 0, .int .i64 0, .slice none 0 0], .struct [(0, 1, false), (1, 1, false), (2, 1, false), (3, 1, false)]⟩ := by kernel_rfl
theorem ty_36 : tiOf Try.prog 36 = some ⟨4, true, 48, [.int .i64 0, .int .i64 0, .int .i64 0, .slice none 0 0], .struct [(0, 1, false), (1, 1, false), (2, 1, false), (3, 1, false)]⟩ := by kernel_rfl
theorem ty_37 : tiOf Try.prog 37 = some ⟨1, false, 8, [.nilFunc], .other⟩ := by kernel_rfl
theorem ty_38 : tiOf Try.prog 38 = some ⟨1, false, 8, [.nilFunc], .other⟩ := by kernel_rfl
theorem ty_39 : tiOf Try.prog 39 = some ⟨4, true, 48, [.int .i64 0, .int .i64 0, .int .i64 0, .slice none 0 0], .struct [(0, 1, false), (1, 1, false), (2, 1, false), (3, 1, false)]⟩ := by kernel_rfl
theorem ty_40 : tiOf Try.prog 40 = some ⟨1, false, 8, [.nilFunc], .other⟩ := by kernel_rfl
theorem ty_41 : tiOf Try.prog 41 = some ⟨1, false, 8, [.nilFunc], .other⟩ := by kernel_rfl
theorem ty_42 : tiOf Try.prog 42 = some ⟨1, false, 8, [.nilFunc], .other⟩ := by kernel_rfl
theorem ty_43 : tiOf Try.prog 43 = some ⟨1, false, 24, [.slice none 0 0], .slice 5 1 1 [.int .u8 0]⟩ := by kernel_rfl
theorem ty_44 : tiOf Try.prog 44 = some ⟨1, false, 8, [.nilFunc], .other⟩ := by kernel_rfl
theorem ty_46 : tiOf Try.prog 46 = some ⟨1, false, 8, [.nilFunc], .other⟩ := by kernel_rfl
theorem ty_47 : tiOf Try.prog 47 = some ⟨1, false, 8, [.nilFunc], .other⟩ := by kernel_rfl
theorem ty_48 : tiOf Try.prog 48 = some ⟨1, false, 8, [.nilFunc], .other⟩ := by kernel_rfl
theorem ty_49 : tiOf Try.prog 49 = some ⟨1, false, 8, [.pointer none], .other⟩ := by kernel_rfl
theorem ty_50 : tiOf Try.prog 50 = some ⟨1, false, 8, [.nilFunc], .other⟩ := by kernel_rfl
theorem ty_51 : tiOf Try.prog 51 = some ⟨1, false, 8, [.nilFunc], .other⟩ := by kernel_rfl
theorem ty_52 : tiOf Try.prog 52 = some ⟨1, false, 8, [.nilFunc], .other⟩ := by kernel_rfl
theorem ty_53 : tiOf Try.prog 53 = some ⟨1, false, 8, [.nilFunc], .other⟩ := by kernel_rfl
theorem ty_54 : tiOf Try.prog 54 = some ⟨1, false, 8, [.nilFunc], .other⟩ := by kernel_rfl
theorem ty_55 : tiOf Try.prog 55 = some ⟨1, false, 8, [.nilFunc], .other⟩ := by kernel_rfl
theorem ty_56 : tiOf Try.prog 56 = some ⟨1, false, 8, [.nilFunc], .other⟩ := by kernel_rfl
theorem ty_57 : tiOf Try.prog 57 = some ⟨1, false, 8, [.pointer none], .other⟩ := by kernel_rfl
theorem ty_58 : tiOf Try.prog 58 = some ⟨1, false, 8, [.nilFunc], .other⟩ := by kernel_rfl
theorem ty_59 : tiOf Try.prog 59 = some ⟨1, false, 8, [.nilFunc], .other⟩ := by kernel_rfl
theorem ty_60 : tiOf Try.prog 60 = some ⟨1, false, 8, [.pointer none], .other⟩ := by kernel_rfl
theorem ty_61 : tiOf Try.prog 61 = some ⟨1, false, 8, [.nilFunc], .other⟩ := by kernel_rfl
theorem ty_62 : tiOf Try.prog 62 = some ⟨1, false, 8, [.nilFunc], .other⟩ := by kernel_rfl
theorem ty_63 : tiOf Try.prog 63 = some ⟨1, false, 8, [.nilFunc], .other⟩ := by kernel_rfl
theorem ty_64 : tiOf Try.prog 64 = some ⟨1, false, 8, [.nilFunc], .other⟩ := by kernel_rfl
theorem ty_65 : tiOf Try.prog 65 = some ⟨1, false, 8, [.nilFunc], .other⟩ := by kernel_rfl
theorem ty_66 : tiOf Try.prog 66 = some ⟨1, false, 8, [.nilFunc], .other⟩ := by kernel_rfl
theorem ty_67 : tiOf Try.prog 67 = some ⟨1, false, 8, [.nilFunc], .other⟩ := by kernel_rfl
theorem ty_68 : tiOf Try.prog 68 = some ⟨1, false, 8, [.nilFunc], .other⟩ := by kernel_rfl
theorem ty_69 : tiOf Try.prog 69 = some ⟨1, false, 8, [.nilFunc], .other⟩ := by kernel_rfl
theorem ty_70 : tiOf Try.prog 70 = some ⟨1, false, 8, [.nilFunc], .other⟩ := by kernel_rfl
theorem ty_71 : tiOf Try.prog 71 = some ⟨1, false, 8, [.int .u64 0], .int .u64⟩ := by kernel_rfl
theorem ty_72 : tiOf Try.prog 72 = some ⟨3, true, 40, [.slice none 0 0, .int .i64 0, .int .u64 0], .struct [(0, 1, false), (1, 1, false), (2, 1, false)]⟩ := by kernel_rfl
theorem ty_73 : tiOf Try.prog 73 = some ⟨3, true, 40, [.slice none 0 0, .int .i64 0, .int .u64 0], .struct [(0, 1, false), (1, 1, false), (2, 1, false)]⟩ := by kernel_rfl
theorem ty_74 : tiOf Try.prog 74 = some ⟨1, false, 8, [.nilFunc], .other⟩ := by kernel_rfl
theorem ty_75 : tiOf Try.prog 75 = some ⟨1, false, 8, [.nilFunc], .other⟩ := by kernel_rfl
theorem ty_76 : tiOf Try.prog 76 = some ⟨1, false, 8, [.nilFunc], .other⟩ := by kernel_rfl
theorem ty_77 : tiOf Try.prog 77 = some ⟨1, false, 8, [.nilFunc], .other⟩ := by kernel_rfl
theorem ty_78 : tiOf Try.prog 78 = some ⟨1, false, 8, [.nilFunc], .other⟩ := by kernel_rfl
theorem ty_79 : tiOf Try.prog 79 = some ⟨1, false, 8, [.nilFunc], .other⟩ := by kernel_rfl
theorem ty_80 : tiOf Try.prog 80 = some ⟨1, false, 8, [.nilFunc], .other⟩ := by kernel_rfl
theorem ty_81 : tiOf Try.prog 81 = some ⟨1, false, 24, [.slice none 0 0], .slice 9 1 16 [.string ByteArray.empty]⟩ := by kernel_rfl
theorem ty_82 : tiOf Try.prog 82 = some ⟨1, false, 8, [.nilFunc], .other⟩ := by kernel_rfl
theorem ty_83 : tiOf Try.prog 83 = some ⟨1, false, 8, [.int .u64 0], .int .u64⟩ := by kernel_rfl
theorem ty_84 : tiOf Try.prog 84 = some ⟨1, false, 8, [.nilFunc], .other⟩ := by kernel_rfl
theorem ty_85 : tiOf Try.prog 85 = some ⟨1, false, 8, [.nilFunc], .other⟩ := by kernel_rfl
theorem ty_86 : tiOf Try.prog 86 = some ⟨4, true, 40, [.pointer none, .pointer none, .pointer none, .string ByteArray.empty], .struct [(0, 1, false), (1, 1, false), (2, 1, false), (3, 1, false)]⟩ := by kernel_rfl
theorem ty_87 : tiOf Try.prog 87 = some ⟨4, true, 40, [.pointer none, .pointer none, .pointer none, .string ByteArray.empty], .struct [(0, 1, false), (1, 1, false), (2, 1, false), (3, 1, false)]⟩ := by kernel_rfl
theorem ty_88 : tiOf Try.prog 88 = some ⟨0, true, 0, [], .array 0 1 false⟩ := by kernel_rfl
theorem ty_89 : tiOf Try.prog 89 = some ⟨0, true, 0, [], .struct [(0, 0, true)]⟩ := by kernel_rfl
theorem ty_90 : tiOf Try.prog 90 = some ⟨0, true, 0, [], .struct [(0, 0, true)]⟩ := by kernel_rfl
theorem ty_91 : tiOf Try.prog 91 = some ⟨1, false, 8, [.nilFunc], .other⟩ := by kernel_rfl
theorem ty_92 : tiOf Try.prog 92 = some ⟨1, false, 4, [.int .u32 0], .int .u32⟩ := by kernel_rfl
theorem ty_93 : tiOf Try.prog 93 = some ⟨1, false, 1, [.int .u8 0], .int .u8⟩ := by kernel_rfl
theorem ty_94 : tiOf Try.prog 94 = some ⟨1, false, 1, [.int .u8 0], .int .u8⟩ := by kernel_rfl
theorem ty_95 : tiOf Try.prog 95 = some ⟨1, false, 8, [.nilFunc], .other⟩ := by kernel_rfl
theorem ty_96 : tiOf Try.prog 96 = some ⟨1, false, 8, [.pointer none], .other⟩ := by kernel_rfl
theorem ty_97 : tiOf Try.prog 97 = some ⟨1, false, 4, [.int .i32 0], .int .i32⟩ := by kernel_rfl
theorem ty_98 : tiOf Try.prog 98 = some ⟨1, false, 4, [.int .i32 0], .int .i32⟩ := by kernel_rfl
theorem ty_99 : tiOf Try.prog 99 = some ⟨11, true, 48, [.int .u64 0, .int .u64 0, .int .u32 0, .int .u8 0, .int .u8 0, .int .u8 0, .int .u8 0, .nilFunc, .pointer none, .int .i32 0, .int .i32 0], .struct [(0, 1, false), (1, 1, false), (2, 1, false), (3, 1, false), (4, 1, false), (5, 1, false), (6, 1, false), (7, 1, false), (8, 1, false), (9, 1, false), (10, 1, false)]⟩ := by kernel_rfl
theorem ty_100 : tiOf Try.prog 100 = some ⟨11, true, 48, [.int .u64 0, .int .u64 0, .int .u32 0, .int .u8 0, .int .u8 0, .int .u8 0, .int .u8 0, .nilFunc, .pointer none, .int .i32 0, .int .i32 0], .struct [(0, 1, false), (1, 1, false), (2, 1, false), (3, 1, false), (4, 1, false), (5, 1, false), (6, 1, false), (7, 1, false), (8, 1, false), (9, 1, false), (10, 1, false)]⟩ := by kernel_rfl

def tyL : List (Nat × TI) := [
  (1, ⟨1, false, 8, [.nilFunc], .other⟩),
  (2, ⟨1, false, 8, [.int .i64 0], .int .i64⟩),
  (3, ⟨1, false, 8, [.int .i64 0], .int .i64⟩),
  (4, ⟨1, false, 1, [.bool false], .bool⟩),
  (5, ⟨1, false, 1, [.int .u8 0], .int .u8⟩),
  (6, ⟨1, false, 1, [.int .u8 0], .int .u8⟩),
  (7, ⟨4, true, 24, [.int .i64 0, .int .i64 0, .bool false, .int .u8 0], .struct [(0, 1, false), (1, 1, false), (2, 1, false), (3, 1, false)]⟩),
  (8, ⟨4, true, 24, [.int .i64 0, .int .i64 0, .bool false, .int .u8 0], .struct [(0, 1, false), (1, 1, false), (2, 1, false), (3, 1, false)]⟩),
  (9, ⟨1, false, 16, [.string ByteArray.empty], .str⟩),
  (10, ⟨1, false, 16, [.string ByteArray.empty], .str⟩),
  (11, ⟨1, false, 16, [.string ByteArray.empty], .str⟩),
  (12, ⟨1, false, 8, [.int .u64 0], .int .u64⟩),
  (13, ⟨2, true, 24, [.string ByteArray.empty, .int .u64 0], .struct [(0, 1, false), (1, 1, false)]⟩),
  (14, ⟨2, true, 24, [.string ByteArray.empty, .int .u64 0], .struct [(0, 1, false), (1, 1, false)]⟩),
  (15, ⟨1, false, 8, [.pointer none], .other⟩),
  (16, ⟨1, false, 8, [.pointer none], .other⟩),
  (17, ⟨1, false, 8, [.pointer none], .other⟩),
  (18, ⟨1, true, 8, [.pointer none], .struct [(0, 1, false)]⟩),
  (19, ⟨1, true, 8, [.pointer none], .struct [(0, 1, false)]⟩),
  (21, ⟨1, false, 4, [.int .i32 0], .int .i32⟩),
  (22, ⟨5, true, 48, [.string ByteArray.empty, .int .i64 0, .int .i64 0, .int .i64 0, .int .i64 0], .struct [(0, 1, false), (1, 1, false), (2, 1, false), (3, 1, false), (4, 1, false)]⟩),
  (23, ⟨5, true, 48, [.string ByteArray.empty, .int .i64 0, .int .i64 0, .int .i64 0, .int .i64 0], .struct [(0, 1, false), (1, 1, false), (2, 1, false), (3, 1, false), (4, 1, false)]⟩),
  (24, ⟨1, false, 8, [.nilFunc], .other⟩),
  (26, ⟨1, false, 8, [.nilFunc], .other⟩),
  (27, ⟨5, true, 48, [.string ByteArray.empty, .int .i64 0, .int .i64 0, .int .i64 0, .int .i64 0], .struct [(0, 1, false), (1, 1, false), (2, 1, false), (3, 1, false), (4, 1, false)]⟩),
  (28, ⟨1, false, 8, [.nilFunc], .other⟩),
  (29, ⟨1, false, 8, [.nilFunc], .other⟩),
  (31, ⟨1, false, 8, [.nilFunc], .other⟩),
  (32, ⟨1, false, 8, [.nilFunc], .other⟩),
  (33, ⟨1, false, 8, [.nilFunc], .other⟩),
  (34, ⟨1, false, 24, [.slice none 0 0], .slice 2 1 8 [.int .i64 0]⟩),
  (35, ⟨4, true, 48, [.int .i64 0, .int .i64 0, .int .i64 0, .slice none 0 0], .struct [(0, 1, false), (1, 1, false), (2, 1, false), (3, 1, false)]⟩),
  (36, ⟨4, true, 48, [.int .i64 0, .int .i64 0, .int .i64 0, .slice none 0 0], .struct [(0, 1, false), (1, 1, false), (2, 1, false), (3, 1, false)]⟩),
  (37, ⟨1, false, 8, [.nilFunc], .other⟩),
  (38, ⟨1, false, 8, [.nilFunc], .other⟩),
  (39, ⟨4, true, 48, [.int .i64 0, .int .i64 0, .int .i64 0, .slice none 0 0], .struct [(0, 1, false), (1, 1, false), (2, 1, false), (3, 1, false)]⟩),
  (40, ⟨1, false, 8, [.nilFunc], .other⟩),
  (41, ⟨1, false, 8, [.nilFunc], .other⟩),
  (42, ⟨1, false, 8, [.nilFunc], .other⟩),
  (43, ⟨1, false, 24, [.slice none 0 0], .slice 5 1 1 [.int .u8 0]⟩),
  (44, ⟨1, false, 8, [.nilFunc], .other⟩),
  (46, ⟨1, false, 8, [.nilFunc], .other⟩),
  (47, ⟨1, false, 8, [.nilFunc], .other⟩),
  (48, ⟨1, false, 8, [.nilFunc], .other⟩),
  (49, ⟨1, false, 8, [.pointer none], .other⟩),
  (50, ⟨1, false, 8, [.nilFunc], .other⟩),
  (51, ⟨1, false, 8, [.nilFunc], .other⟩),
  (52, ⟨1, false, 8, [.nilFunc], .other⟩),
  (53, ⟨1, false, 8, [.nilFunc], .other⟩),
  (54, ⟨1, false, 8, [.nilFunc], .other⟩),
  (55, ⟨1, false, 8, [.nilFunc], .other⟩),
  (56, ⟨1, false, 8, [.nilFunc], .other⟩),
  (57, ⟨1, false, 8, [.pointer none], .other⟩),
  (58, ⟨1, false, 8, [.nilFunc], .other⟩),
  (59, ⟨1, false, 8, [.nilFunc], .other⟩),
  (60, ⟨1, false, 8, [.pointer none], .other⟩),
  (61, ⟨1, false, 8, [.nilFunc], .other⟩),
  (62, ⟨1, false, 8, [.nilFunc], .other⟩),
  (63, ⟨1, false, 8, [.nilFunc], .other⟩),
  (64, ⟨1, false, 8, [.nilFunc], .other⟩),
  (65, ⟨1, false, 8, [.nilFunc], .other⟩),
  (66, ⟨1, false, 8, [.nilFunc], .other⟩),
  (67, ⟨1, false, 8, [.nilFunc], .other⟩),
  (68, ⟨1, false, 8, [.nilFunc], .other⟩),
  (69, ⟨1, false, 8, [.nilFunc], .other⟩),
  (70, ⟨1, false, 8, [.nilFunc], .other⟩),
  (71, ⟨1, false, 8, [.int .u64 0], .int .u64⟩),
  (72, ⟨3, true, 40, [.slice none 0 0, .int .i64 0, .int .u64 0], .struct [(0, 1, false), (1, 1, false), (2, 1, false)]⟩),
  (73, ⟨3, true, 40, [.slice none 0 0, .int .i64 0, .int .u64 0], .struct [(0, 1, false), (1, 1, false), (2, 1, false)]⟩),
  (74, ⟨1, false, 8, [.nilFunc], .other⟩),
  (75, ⟨1, false, 8, [.nilFunc], .other⟩),
  (76, ⟨1, false, 8, [.nilFunc], .other⟩),
  (77, ⟨1, false, 8, [.nilFunc], .other⟩),
  (78, ⟨1, false, 8, [.nilFunc], .other⟩),
  (79, ⟨1, false, 8, [.nilFunc], .other⟩),
  (80, ⟨1, false, 8, [.nilFunc], .other⟩),
  (81, ⟨1, false, 24, [.slice none 0 0], .slice 9 1 16 [.string ByteArray.empty]⟩),
  (82, ⟨1, false, 8, [.nilFunc], .other⟩),
  (83, ⟨1, false, 8, [.int .u64 0], .int .u64⟩),
  (84, ⟨1, false, 8, [.nilFunc], .other⟩),
  (85, ⟨1, false, 8, [.nilFunc], .other⟩),
  (86, ⟨4, true, 40, [.pointer none, .pointer none, .pointer none, .string ByteArray.empty], .struct [(0, 1, false), (1, 1, false), (2, 1, false), (3, 1, false)]⟩),
  (87, ⟨4, true, 40, [.pointer none, .pointer none, .pointer none, .string ByteArray.empty], .struct [(0, 1, false), (1, 1, false), (2, 1, false), (3, 1, false)]⟩),
  (88, ⟨0, true, 0, [], .array 0 1 false⟩),
  (89, ⟨0, true, 0, [], .struct [(0, 0, true)]⟩),
  (90, ⟨0, true, 0, [], .struct [(0, 0, true)]⟩),
  (91, ⟨1, false, 8, [.nilFunc], .other⟩),
  (92, ⟨1, false, 4, [.int .u32 0], .int .u32⟩),
  (93, ⟨1, false, 1, [.int .u8 0], .int .u8⟩),
  (94, ⟨1, false, 1, [.int .u8 0], .int .u8⟩),
  (95, ⟨1, false, 8, [.nilFunc], .other⟩),
  (96, ⟨1, false, 8, [.pointer none], .other⟩),
  (97, ⟨1, false, 4, [.int .i32 0], .int .i32⟩),
  (98, ⟨1, false, 4, [.int .i32 0], .int .i32⟩),
  (99, ⟨11, true, 48, [.int .u64 0, .int .u64 0, .int .u32 0, .int .u8 0, .int .u8 0, .int .u8 0, .int .u8 0, .nilFunc, .pointer none, .int .i32 0, .int .i32 0], .struct [(0, 1, false), (1, 1, false), (2, 1, false), (3, 1, false), (4, 1, false), (5, 1, false), (6, 1, false), (7, 1, false), (8, 1, false), (9, 1, false), (10, 1, false)]⟩),
  (100, ⟨11, true, 48, [.int .u64 0, .int .u64 0, .int .u32 0, .int .u8 0, .int .u8 0, .int .u8 0, .int .u8 0, .nilFunc, .pointer none, .int .i32 0, .int .i32 0], .struct [(0, 1, false), (1, 1, false), (2, 1, false), (3, 1, false), (4, 1, false), (5, 1, false), (6, 1, false), (7, 1, false), (8, 1, false), (9, 1, false), (10, 1, false)]⟩)]
theorem ty_all : allTy Try.prog tyL := ⟨ty_1, ty_2, ty_3, ty_4, ty_5, ty_6, ty_7, ty_8, ty_9, ty_10, ty_11, ty_12, ty_13, ty_14, ty_15, ty_16, ty_17, ty_18, ty_19, ty_21, ty_22, ty_23, ty_24, ty_26, ty_27, ty_28, ty_29, ty_31, ty_32, ty_33, ty_34, ty_35, ty_36, ty_37, ty_38, ty_39, ty_40, ty_41, ty_42, ty_43, ty_44, ty_46, ty_47, ty_48, ty_49, ty_50, ty_51, ty_52, ty_53, ty_54, ty_55, ty_56, ty_57, ty_58, ty_59, ty_60, ty_61, ty_62, ty_63, ty_64, ty_65, ty_66, ty_67, ty_68, ty_69, ty_70, ty_71, ty_72, ty_73, ty_74, ty_75, ty_76, ty_77, ty_78, ty_79, ty_80, ty_81, ty_82, ty_83, ty_84, ty_85, ty_86, ty_87, ty_88, ty_89, ty_90, ty_91, ty_92, ty_93, ty_94, ty_95, ty_96, ty_97, ty_98, ty_99, ty_100, trivial⟩
theorem ty {t : Nat} {i : TI} (h : look tyL t = some i) : tiOf Try.prog t = some i := look_allTy ty_all h
theorem mixed : Try.prog.follows .mixedOrders = true := by kernel_rfl

end Go.Proofs.Ytmnklmaefoidbaa.Aw
