/-
  The types of this seat, as the walk on abstract values needs them.
-/
import Derived.Test.YtglfcaioapdiaaaProg
import Derived.Test.YtglfcaioapdiaaaAwStep
import Derived.KernelRfl
namespace Go.Proofs.Ytglfcaioapdiaaa.Aw
open Go Go.RowKit

def allTy (P : Program) : List (Nat × TI) → Prop
  | [] => True
  | (t, i) :: l => tiOf P t = some i ∧ allTy P l
theorem look_allTy {P : Program} : ∀ {l : List (Nat × TI)} {t : Nat} {i : TI}, allTy P l → look l t = some i → tiOf P t = some i
  | [], _, _, _, h => by simp [look_nil] at h
  | (u, x) :: l, t, i, ha, h => by
    rw [look_cons] at h
    split at h
    · rename_i he; subst he; simp only [Option.some.injEq] at h; subst h; exact ha.1
    · exact look_allTy ha.2 h

theorem ty_1 : tiOf Try.prog 1 = some ⟨1, false, 8, [.nilFunc], .other⟩ := by kernel_rfl
theorem ty_2 : tiOf Try.prog 2 = some ⟨1, false, 8, [.int .i64 0], .int .i64⟩ := by kernel_rfl
theorem ty_3 : tiOf Try.prog 3 = some ⟨1, false, 8, [.int .i64 0], .int .i64⟩ := by kernel_rfl
theorem ty_4 : tiOf Try.prog 4 = some ⟨1, false, 1, [.bool false], .bool⟩ := by kernel_rfl
theorem ty_5 : tiOf Try.prog 5 = some ⟨1, false, 1, [.int .u8 0], .int .u8⟩ := by kernel_rfl
theorem ty_6 : tiOf Try.prog 6 = some ⟨1, false, 1, [.int .u8 0], .int .u8⟩ := by kernel_rfl
theorem ty_7 : tiOf Try.prog 7 = some ⟨4, true, 24, [.int .i64 0, .int .i64 0, .bool false, .int .u8 0], .struct [(0, 1, false), (1, 1, false), (2, 1, false), (3, 1, false)]⟩ := by kernel_rfl
theorem ty_8 : tiOf Try.prog 8 = some ⟨4, true, 24, [.int .i64 0, .int .i64 0, .bool false, .int .u8 0], .struct [(0, 1, false), (1, 1, false), (2, 1, false), (3, 1, false)]⟩ := by kernel_rfl
theorem ty_9 : tiOf Try.prog 9 = some ⟨1, false, 16, [.string ByteArray.empty], .str⟩ := by kernel_rfl
theorem ty_10 : tiOf Try.prog 10 = some ⟨1, false, 16, [.string ByteArray.empty], .str⟩ := by kernel_rfl
theorem ty_11 : tiOf Try.prog 11 = some ⟨1, false, 16, [.string ByteArray.empty], .str⟩ := by kernel_rfl
theorem ty_12 : tiOf Try.prog 12 = some ⟨1, false, 8, [.int .u64 0], .int .u64⟩ := by kernel_rfl
theorem ty_13 : tiOf Try.prog 13 = some ⟨2, true, 24, [.string ByteArray.empty, .int .u64 0], .struct [(0, 1, false), (1, 1, false)]⟩ := by kernel_rfl
theorem ty_14 : tiOf Try.prog 14 = some ⟨2, true, 24, [.string ByteArray.empty, .int .u64 0], .struct [(0, 1, false), (1, 1, false)]⟩ := by kernel_rfl
theorem ty_15 : tiOf Try.prog 15 = some ⟨1, false, 8, [.pointer none], .other⟩ := by kernel_rfl
theorem ty_16 : tiOf Try.prog 16 = some ⟨1, false, 8, [.pointer none], .other⟩ := by kernel_rfl
theorem ty_17 : tiOf Try.prog 17 = some ⟨1, false, 8, [.pointer none], .other⟩ := by kernel_rfl
theorem ty_18 : tiOf Try.prog 18 = some ⟨1, true, 8, [.pointer none], .struct [(0, 1, false)]⟩ := by kernel_rfl
theorem ty_19 : tiOf Try.prog 19 = some ⟨1, true, 8, [.pointer none], .struct [(0, 1, false)]⟩ := by kernel_rfl
theorem ty_21 : tiOf Try.prog 21 = some ⟨1, false, 4, [.int .i32 0], .int .i32⟩ := by kernel_rfl
theorem ty_22 : tiOf Try.prog 22 = some ⟨1, false, 24, [.slice none 0 0], .slice 113 4 32 [.int .i64 0, .int .i64 0, .int .i64 0, .int .i64 0]⟩ := by kernel_rfl
theorem ty_23 : tiOf Try.prog 23 = some ⟨2, true, 32, [.int .i64 0, .slice none 0 0], .struct [(0, 1, false), (1, 1, false)]⟩ := by kernel_rfl
theorem ty_24 : tiOf Try.prog 24 = some ⟨2, true, 32, [.int .i64 0, .slice none 0 0], .struct [(0, 1, false), (1, 1, false)]⟩ := by kernel_rfl
theorem ty_25 : tiOf Try.prog 25 = some ⟨1, false, 8, [.nilFunc], .other⟩ := by kernel_rfl
theorem ty_26 : tiOf Try.prog 26 = some ⟨1, false, 24, [.slice none 0 0], .slice 2 1 8 [.int .i64 0]⟩ := by kernel_rfl
theorem ty_28 : tiOf Try.prog 28 = some ⟨1, false, 8, [.nilFunc], .other⟩ := by kernel_rfl
theorem ty_29 : tiOf Try.prog 29 = some ⟨1, false, 24, [.slice none 0 0], .slice 56 4 32 [.int .i64 0, .int .i64 0, .int .i64 0, .int .i64 0]⟩ := by kernel_rfl
theorem ty_30 : tiOf Try.prog 30 = some ⟨2, true, 32, [.int .i64 0, .slice none 0 0], .struct [(0, 1, false), (1, 1, false)]⟩ := by kernel_rfl
theorem ty_31 : tiOf Try.prog 31 = some ⟨2, true, 32, [.int .i64 0, .slice none 0 0], .struct [(0, 1, false), (1, 1, false)]⟩ := by kernel_rfl
theorem ty_32 : tiOf Try.prog 32 = some ⟨1, false, 8, [.nilFunc], .other⟩ := by kernel_rfl
theorem ty_33 : tiOf Try.prog 33 = some ⟨1, false, 8, [.nilFunc], .other⟩ := by kernel_rfl
theorem ty_34 : tiOf Try.prog 34 = some ⟨1, false, 8, [.nilFunc], .other⟩ := by kernel_rfl
theorem ty_35 : tiOf Try.prog 35 = some ⟨1, false, 8, [.nilFunc], .other⟩ := by kernel_rfl
theorem ty_36 : tiOf Try.prog 36 = some ⟨1, false, 8, [.nilFunc], .other⟩ := by kernel_rfl
theorem ty_37 : tiOf Try.prog 37 = some ⟨1, false, 8, [.nilFunc], .other⟩ := by kernel_rfl
theorem ty_39 : tiOf Try.prog 39 = some ⟨1, false, 8, [.nilFunc], .other⟩ := by kernel_rfl
theorem ty_40 : tiOf Try.prog 40 = some ⟨1, false, 8, [.nilFunc], .other⟩ := by kernel_rfl
theorem ty_41 : tiOf Try.prog 41 = some ⟨1, false, 8, [.nilFunc], .other⟩ := by kernel_rfl
theorem ty_42 : tiOf Try.prog 42 = some ⟨1, false, 8, [.nilFunc], .other⟩ := by kernel_rfl
theorem ty_44 : tiOf Try.prog 44 = some ⟨1, false, 8, [.nilFunc], .other⟩ := by kernel_rfl
theorem ty_45 : tiOf Try.prog 45 = some ⟨1, false, 8, [.nilFunc], .other⟩ := by kernel_rfl
theorem ty_46 : tiOf Try.prog 46 = some ⟨1, false, 8, [.nilFunc], .other⟩ := by kernel_rfl
theorem ty_47 : tiOf Try.prog 47 = some ⟨1, false, 24, [.slice none 0 0], .slice 5 1 1 [.int .u8 0]⟩ := by kernel_rfl
theorem ty_48 : tiOf Try.prog 48 = some ⟨1, false, 8, [.nilFunc], .other⟩ := by kernel_rfl
theorem ty_50 : tiOf Try.prog 50 = some ⟨1, false, 8, [.nilFunc], .other⟩ := by kernel_rfl
theorem ty_51 : tiOf Try.prog 51 = some ⟨1, false, 8, [.nilFunc], .other⟩ := by kernel_rfl
theorem ty_52 : tiOf Try.prog 52 = some ⟨1, false, 8, [.nilFunc], .other⟩ := by kernel_rfl
theorem ty_53 : tiOf Try.prog 53 = some ⟨1, false, 8, [.nilFunc], .other⟩ := by kernel_rfl
theorem ty_54 : tiOf Try.prog 54 = some ⟨1, false, 8, [.nilFunc], .other⟩ := by kernel_rfl
theorem ty_55 : tiOf Try.prog 55 = some ⟨4, true, 32, [.int .i64 0, .int .i64 0, .int .i64 0, .int .i64 0], .struct [(0, 1, false), (1, 1, false), (2, 1, false), (3, 1, false)]⟩ := by kernel_rfl
theorem ty_56 : tiOf Try.prog 56 = some ⟨4, true, 32, [.int .i64 0, .int .i64 0, .int .i64 0, .int .i64 0], .struct [(0, 1, false), (1, 1, false), (2, 1, false), (3, 1, false)]⟩ := by kernel_rfl
theorem ty_57 : tiOf Try.prog 57 = some ⟨1, false, 8, [.nilFunc], .other⟩ := by kernel_rfl
theorem ty_58 : tiOf Try.prog 58 = some ⟨1, false, 8, [.nilFunc], .other⟩ := by kernel_rfl
theorem ty_60 : tiOf Try.prog 60 = some ⟨1, false, 8, [.nilFunc], .other⟩ := by kernel_rfl
theorem ty_61 : tiOf Try.prog 61 = some ⟨1, false, 8, [.nilFunc], .other⟩ := by kernel_rfl
theorem ty_62 : tiOf Try.prog 62 = some ⟨1, false, 8, [.nilFunc], .other⟩ := by kernel_rfl
theorem ty_63 : tiOf Try.prog 63 = some ⟨1, false, 8, [.nilFunc], .other⟩ := by kernel_rfl
theorem ty_64 : tiOf Try.prog 64 = some ⟨1, false, 8, [.nilFunc], .other⟩ := by kernel_rfl
theorem ty_65 : tiOf Try.prog 65 = some ⟨1, false, 8, [.pointer none], .other⟩ := by kernel_rfl
theorem ty_67 : tiOf Try.prog 67 = some ⟨1, false, 8, [.nilFunc], .other⟩ := by kernel_rfl
theorem ty_68 : tiOf Try.prog 68 = some ⟨1, false, 24, [.slice none 0 0], .slice 4 1 1 [.bool false]⟩ := by kernel_rfl
theorem ty_69 : tiOf Try.prog 69 = some ⟨1, false, 8, [.nilFunc], .other⟩ := by kernel_rfl
theorem ty_70 : tiOf Try.prog 70 = some ⟨1, false, 8, [.nilFunc], .other⟩ := by kernel_rfl
theorem ty_71 : tiOf Try.prog 71 = some ⟨1, false, 8, [.nilFunc], .other⟩ := by kernel_rfl
theorem ty_72 : tiOf Try.prog 72 = some ⟨1, false, 8, [.nilFunc], .other⟩ := by kernel_rfl
theorem ty_73 : tiOf Try.prog 73 = some ⟨1, false, 8, [.nilFunc], .other⟩ := by kernel_rfl
theorem ty_74 : tiOf Try.prog 74 = some ⟨1, false, 8, [.nilFunc], .other⟩ := by kernel_rfl
theorem ty_76 : tiOf Try.prog 76 = some ⟨1, false, 8, [.nilFunc], .other⟩ := by kernel_rfl
theorem ty_78 : tiOf Try.prog 78 = some ⟨1, false, 8, [.nilFunc], .other⟩ := by kernel_rfl
theorem ty_79 : tiOf Try.prog 79 = some ⟨1, false, 8, [.nilFunc], .other⟩ := by kernel_rfl
theorem ty_80 : tiOf Try.prog 80 = some ⟨1, false, 8, [.nilFunc], .other⟩ := by kernel_rfl
theorem ty_81 : tiOf Try.prog 81 = some ⟨1, false, 8, [.nilFunc], .other⟩ := by kernel_rfl
theorem ty_82 : tiOf Try.prog 82 = some ⟨1, false, 8, [.nilFunc], .other⟩ := by kernel_rfl
theorem ty_83 : tiOf Try.prog 83 = some ⟨1, false, 8, [.nilFunc], .other⟩ := by kernel_rfl
theorem ty_84 : tiOf Try.prog 84 = some ⟨1, false, 8, [.nilFunc], .other⟩ := by kernel_rfl
theorem ty_85 : tiOf Try.prog 85 = some ⟨1, false, 8, [.nilFunc], .other⟩ := by kernel_rfl
theorem ty_86 : tiOf Try.prog 86 = some ⟨1, false, 8, [.nilFunc], .other⟩ := by kernel_rfl
theorem ty_87 : tiOf Try.prog 87 = some ⟨1, false, 8, [.nilFunc], .other⟩ := by kernel_rfl
theorem ty_88 : tiOf Try.prog 88 = some ⟨1, false, 8, [.nilFunc], .other⟩ := by kernel_rfl
theorem ty_89 : tiOf Try.prog 89 = some ⟨1, false, 8, [.nilFunc], .other⟩ := by kernel_rfl
theorem ty_90 : tiOf Try.prog 90 = some ⟨1, false, 8, [.nilFunc], .other⟩ := by kernel_rfl
theorem ty_91 : tiOf Try.prog 91 = some ⟨1, false, 8, [.nilFunc], .other⟩ := by kernel_rfl
theorem ty_92 : tiOf Try.prog 92 = some ⟨1, false, 8, [.nilFunc], .other⟩ := by kernel_rfl
theorem ty_93 : tiOf Try.prog 93 = some ⟨1, false, 8, [.nilFunc], .other⟩ := by kernel_rfl
theorem ty_94 : tiOf Try.prog 94 = some ⟨1, false, 8, [.nilFunc], .other⟩ := by kernel_rfl
theorem ty_95 : tiOf Try.prog 95 = some ⟨1, false, 8, [.nilFunc], .other⟩ := by kernel_rfl
theorem ty_96 : tiOf Try.prog 96 = some ⟨1, false, 8, [.nilFunc], .other⟩ := by kernel_rfl
theorem ty_97 : tiOf Try.prog 97 = some ⟨1, false, 8, [.nilFunc], .other⟩ := by kernel_rfl
theorem ty_98 : tiOf Try.prog 98 = some ⟨1, false, 8, [.nilFunc], .other⟩ := by kernel_rfl
theorem ty_99 : tiOf Try.prog 99 = some ⟨1, false, 8, [.pointer none], .other⟩ := by kernel_rfl
theorem ty_100 : tiOf Try.prog 100 = some ⟨1, false, 8, [.nilFunc], .other⟩ := by kernel_rfl
theorem ty_101 : tiOf Try.prog 101 = some ⟨1, false, 8, [.nilFunc], .other⟩ := by kernel_rfl
theorem ty_102 : tiOf Try.prog 102 = some ⟨1, false, 8, [.nilFunc], .other⟩ := by kernel_rfl
theorem ty_104 : tiOf Try.prog 104 = some ⟨1, false, 8, [.nilFunc], .other⟩ := by kernel_rfl
theorem ty_105 : tiOf Try.prog 105 = some ⟨1, false, 8, [.nilFunc], .other⟩ := by kernel_rfl
theorem ty_106 : tiOf Try.prog 106 = some ⟨1, false, 8, [.nilFunc], .other⟩ := by kernel_rfl
theorem ty_107 : tiOf Try.prog 107 = some ⟨1, false, 24, [.slice none 0 0], .slice 109 3 40 [.slice none 0 0, .int .i64 0, .bool false]⟩ := by kernel_rfl
theorem ty_108 : tiOf Try.prog 108 = some ⟨3, true, 40, [.slice none 0 0, .int .i64 0, .bool false], .struct [(0, 1, false), (1, 1, false), (2, 1, false)]⟩ := by kernel_rfl
theorem ty_109 : tiOf Try.prog 109 = some ⟨3, true, 40, [.slice none 0 0, .int .i64 0, .bool false], .struct [(0, 1, false), (1, 1, false), (2, 1, false)]⟩ := by kernel_rfl
theorem ty_110 : tiOf Try.prog 110 = some ⟨1, false, 8, [.nilFunc], .other⟩ := by kernel_rfl
theorem ty_111 : tiOf Try.prog 111 = some ⟨1, false, 8, [.pointer none], .other⟩ := by kernel_rfl
theorem ty_112 : tiOf Try.prog 112 = some ⟨1, false, 8, [.nilFunc], .other⟩ := by kernel_rfl
theorem ty_113 : tiOf Try.prog 113 = some ⟨4, true, 32, [.int .i64 0, .int .i64 0, .int .i64 0, .int .i64 0], .struct [(0, 1, false), (1, 1, false), (2, 1, false), (3, 1, false)]⟩ := by kernel_rfl
theorem ty_114 : tiOf Try.prog 114 = some ⟨1, false, 8, [.map none], .other⟩ := by kernel_rfl
theorem ty_115 : tiOf Try.prog 115 = some ⟨1, false, 8, [.nilFunc], .other⟩ := by kernel_rfl
theorem ty_116 : tiOf Try.prog 116 = some ⟨2, true, 16, [.int .i64 0, .int .i64 0], .struct [(0, 1, false), (1, 1, false)]⟩ := by kernel_rfl
theorem ty_117 : tiOf Try.prog 117 = some ⟨2, true, 16, [.int .i64 0, .int .i64 0], .struct [(0, 1, false), (1, 1, false)]⟩ := by kernel_rfl
theorem ty_120 : tiOf Try.prog 120 = some ⟨1, false, 8, [.nilFunc], .other⟩ := by kernel_rfl
theorem ty_121 : tiOf Try.prog 121 = some ⟨1, false, 8, [.nilFunc], .other⟩ := by kernel_rfl
theorem ty_122 : tiOf Try.prog 122 = some ⟨1, false, 8, [.nilFunc], .other⟩ := by kernel_rfl
theorem ty_123 : tiOf Try.prog 123 = some ⟨1, false, 8, [.nilFunc], .other⟩ := by kernel_rfl
theorem ty_124 : tiOf Try.prog 124 = some ⟨1, false, 8, [.nilFunc], .other⟩ := by kernel_rfl
theorem ty_125 : tiOf Try.prog 125 = some ⟨1, false, 8, [.nilFunc], .other⟩ := by kernel_rfl
theorem ty_126 : tiOf Try.prog 126 = some ⟨1, false, 8, [.nilFunc], .other⟩ := by kernel_rfl
theorem ty_127 : tiOf Try.prog 127 = some ⟨1, false, 8, [.int .u64 0], .int .u64⟩ := by kernel_rfl
theorem ty_128 : tiOf Try.prog 128 = some ⟨1, false, 8, [.nilFunc], .other⟩ := by kernel_rfl
theorem ty_129 : tiOf Try.prog 129 = some ⟨1, false, 8, [.nilFunc], .other⟩ := by kernel_rfl
theorem ty_130 : tiOf Try.prog 130 = some ⟨1, false, 8, [.nilFunc], .other⟩ := by kernel_rfl
theorem ty_131 : tiOf Try.prog 131 = some ⟨1, false, 8, [.int .u64 0], .int .u64⟩ := by kernel_rfl
theorem ty_132 : tiOf Try.prog 132 = some ⟨3, true, 40, [.slice none 0 0, .int .i64 0, .int .u64 0], .struct [(0, 1, false), (1, 1, false), (2, 1, false)]⟩ := by kernel_rfl
theorem ty_133 : tiOf Try.prog 133 = some ⟨3, true, 40, [.slice none 0 0, .int .i64 0, .int .u64 0], .struct [(0, 1, false), (1, 1, false), (2, 1, false)]⟩ := by kernel_rfl
theorem ty_134 : tiOf Try.prog 134 = some ⟨1, false, 8, [.nilFunc], .other⟩ := by kernel_rfl
theorem ty_135 : tiOf Try.prog 135 = some ⟨1, false, 8, [.nilFunc], .other⟩ := by kernel_rfl
theorem ty_136 : tiOf Try.prog 136 = some ⟨1, false, 8, [.nilFunc], .other⟩ := by kernel_rfl
theorem ty_137 : tiOf Try.prog 137 = some ⟨1, false, 8, [.nilFunc], .other⟩ := by kernel_rfl
theorem ty_138 : tiOf Try.prog 138 = some ⟨2, true, 16, [.int .i64 0, .int .i64 0], .array 2 1 false⟩ := by kernel_rfl
theorem ty_139 : tiOf Try.prog 139 = some ⟨4, true, 32, [.int .i64 0, .int .i64 0, .int .i64 0, .int .i64 0], .array 2 2 true⟩ := by kernel_rfl
theorem ty_140 : tiOf Try.prog 140 = some ⟨1, false, 8, [.nilFunc], .other⟩ := by kernel_rfl
theorem ty_141 : tiOf Try.prog 141 = some ⟨1, false, 8, [.nilFunc], .other⟩ := by kernel_rfl
theorem ty_142 : tiOf Try.prog 142 = some ⟨1, false, 8, [.int .i64 0], .int .i64⟩ := by kernel_rfl
theorem ty_144 : tiOf Try.prog 144 = some ⟨1, false, 8, [.nilFunc], .other⟩ := by kernel_rfl
theorem ty_145 : tiOf Try.prog 145 = some ⟨1, false, 8, [.nilFunc], .other⟩ := by kernel_rfl
theorem ty_146 : tiOf Try.prog 146 = some ⟨1, false, 8, [.nilFunc], .other⟩ := by kernel_rfl
theorem ty_147 : tiOf Try.prog 147 = some ⟨1, false, 8, [.nilFunc], .other⟩ := by kernel_rfl
theorem ty_149 : tiOf Try.prog 149 = some ⟨1, false, 8, [.nilFunc], .other⟩ := by kernel_rfl
theorem ty_150 : tiOf Try.prog 150 = some ⟨1, false, 8, [.nilFunc], .other⟩ := by kernel_rfl
theorem ty_151 : tiOf Try.prog 151 = some ⟨1, false, 4, [.int .u32 0], .int .u32⟩ := by kernel_rfl
theorem ty_152 : tiOf Try.prog 152 = some ⟨1, false, 8, [.nilFunc], .other⟩ := by kernel_rfl
theorem ty_153 : tiOf Try.prog 153 = some ⟨1, false, 24, [.slice none 0 0], .slice 3 1 8 [.int .i64 0]⟩ := by kernel_rfl
theorem ty_154 : tiOf Try.prog 154 = some ⟨1, false, 8, [.nilFunc], .other⟩ := by kernel_rfl
theorem ty_155 : tiOf Try.prog 155 = some ⟨1, false, 8, [.nilFunc], .other⟩ := by kernel_rfl
theorem ty_156 : tiOf Try.prog 156 = some ⟨1, false, 8, [.int .u64 0], .int .u64⟩ := by kernel_rfl
theorem ty_157 : tiOf Try.prog 157 = some ⟨1, false, 8, [.nilFunc], .other⟩ := by kernel_rfl
theorem ty_158 : tiOf Try.prog 158 = some ⟨1, false, 8, [.nilFunc], .other⟩ := by kernel_rfl
theorem ty_159 : tiOf Try.prog 159 = some ⟨1, false, 8, [.nilFunc], .other⟩ := by kernel_rfl
theorem ty_160 : tiOf Try.prog 160 = some ⟨1, false, 8, [.pointer none], .other⟩ := by kernel_rfl
theorem ty_161 : tiOf Try.prog 161 = some ⟨1, false, 8, [.nilFunc], .other⟩ := by kernel_rfl
theorem ty_162 : tiOf Try.prog 162 = some ⟨1, false, 8, [.pointer none], .other⟩ := by kernel_rfl
theorem ty_164 : tiOf Try.prog 164 = some ⟨1, false, 8, [.nilFunc], .other⟩ := by kernel_rfl
theorem ty_165 : tiOf Try.prog 165 = some ⟨1, false, 8, [.nilFunc], .other⟩ := by kernel_rfl
theorem ty_166 : tiOf Try.prog 166 = some ⟨4, true, 40, [.pointer none, .pointer none, .pointer none, .string ByteArray.empty], .struct [(0, 1, false), (1, 1, false), (2, 1, false), (3, 1, false)]⟩ := by kernel_rfl
theorem ty_167 : tiOf Try.prog 167 = some ⟨4, true, 40, [.pointer none, .pointer none, .pointer none, .string ByteArray.empty], .struct [(0, 1, false), (1, 1, false), (2, 1, false), (3, 1, false)]⟩ := by kernel_rfl
theorem ty_168 : tiOf Try.prog 168 = some ⟨0, true, 0, [], .array 0 1 false⟩ := by kernel_rfl
theorem ty_169 : tiOf Try.prog 169 = some ⟨0, true, 0, [], .struct [(0, 0, true)]⟩ := by kernel_rfl
theorem ty_170 : tiOf Try.prog 170 = some ⟨0, true, 0, [], .struct [(0, 0, true)]⟩ := by kernel_rfl
theorem ty_171 : tiOf Try.prog 171 = some ⟨1, false, 8, [.nilFunc], .other⟩ := by kernel_rfl
theorem ty_172 : tiOf Try.prog 172 = some ⟨1, false, 1, [.int .u8 0], .int .u8⟩ := by kernel_rfl
theorem ty_173 : tiOf Try.prog 173 = some ⟨1, false, 1, [.int .u8 0], .int .u8⟩ := by kernel_rfl
theorem ty_174 : tiOf Try.prog 174 = some ⟨1, false, 8, [.nilFunc], .other⟩ := by kernel_rfl
theorem ty_175 : tiOf Try.prog 175 = some ⟨1, false, 8, [.pointer none], .other⟩ := by kernel_rfl
theorem ty_176 : tiOf Try.prog 176 = some ⟨1, false, 4, [.int .i32 0], .int .i32⟩ := by kernel_rfl
theorem ty_177 : tiOf Try.prog 177 = some ⟨1, false, 4, [.int .i32 0], .int .i32⟩ := by kernel_rfl
theorem ty_178 : tiOf Try.prog 178 = some ⟨11, true, 48, [.int .u64 0, .int .u64 0, .int .u32 0, .int .u8 0, .int .u8 0, .int .u8 0, .int .u8 0, .nilFunc, .pointer none, .int .i32 0, .int .i32 0], .struct [(0, 1, false), (1, 1, false), (2, 1, false), (3, 1, false), (4, 1, false), (5, 1, false), (6, 1, false), (7, 1, false), (8, 1, false), (9, 1, false), (10, 1, false)]⟩ := by kernel_rfl
theorem ty_179 : tiOf Try.prog 179 = some ⟨11, true, 48, [.int .u64 0, .int .u64 0, .int .u32 0, .int .u8 0, .int .u8 0, .int .u8 0, .int .u8 0, .nilFunc, .pointer none, .int .i32 0, .int .i32 0], .struct [(0, 1, false), (1, 1, false), (2, 1, false), (3, 1, false), (4, 1, false), (5, 1, false), (6, 1, false), (7, 1, false), (8, 1, false), (9, 1, false), (10, 1, false)]⟩ := by kernel_rfl

def tyL : List (Nat × TI) := [
  (1, ⟨1, false, 8, [.nilFunc], .other⟩),
  (2, ⟨1, false, 8, [.int .i64 0], .int .i64⟩),
  (3, ⟨1, false, 8, [.int .i64 0], .int .i64⟩),
  (4, ⟨1, false, 1, [.bool false], .bool⟩),
  (5, ⟨1, false, 1, [.int .u8 0], .int .u8⟩),
  (6, ⟨1, false, 1, [.int .u8 0], .int .u8⟩),
  (7, ⟨4, true, 24, [.int .i64 0, .int .i64 0, .bool false, .int .u8 0], .struct [(0, 1, false), (1, 1, false), (2, 1, false), (3, 1, false)]⟩),
  (8, ⟨4, true, 24, [.int .i64 0, .int .i64 0, .bool false, .int .u8 0], .struct [(0, 1, false), (1, 1, false), (2, 1, false), (3, 1, false)]⟩),
  (9, ⟨1, false, 16, [.string ByteArray.empty], .str⟩),
  (10, ⟨1, false, 16, [.string ByteArray.empty], .str⟩),
  (11, ⟨1, false, 16, [.string ByteArray.empty], .str⟩),
  (12, ⟨1, false, 8, [.int .u64 0], .int .u64⟩),
  (13, ⟨2, true, 24, [.string ByteArray.empty, .int .u64 0], .struct [(0, 1, false), (1, 1, false)]⟩),
  (14, ⟨2, true, 24, [.string ByteArray.empty, .int .u64 0], .struct [(0, 1, false), (1, 1, false)]⟩),
  (15, ⟨1, false, 8, [.pointer none], .other⟩),
  (16, ⟨1, false, 8, [.pointer none], .other⟩),
  (17, ⟨1, false, 8, [.pointer none], .other⟩),
  (18, ⟨1, true, 8, [.pointer none], .struct [(0, 1, false)]⟩),
  (19, ⟨1, true, 8, [.pointer none], .struct [(0, 1, false)]⟩),
  (21, ⟨1, false, 4, [.int .i32 0], .int .i32⟩),
  (22, ⟨1, false, 24, [.slice none 0 0], .slice 113 4 32 [.int .i64 0, .int .i64 0, .int .i64 0, .int .i64 0]⟩),
  (23, ⟨2, true, 32, [.int .i64 0, .slice none 0 0], .struct [(0, 1, false), (1, 1, false)]⟩),
  (24, ⟨2, true, 32, [.int .i64 0, .slice none 0 0], .struct [(0, 1, false), (1, 1, false)]⟩),
  (25, ⟨1, false, 8, [.nilFunc], .other⟩),
  (26, ⟨1, false, 24, [.slice none 0 0], .slice 2 1 8 [.int .i64 0]⟩),
  (28, ⟨1, false, 8, [.nilFunc], .other⟩),
  (29, ⟨1, false, 24, [.slice none 0 0], .slice 56 4 32 [.int .i64 0, .int .i64 0, .int .i64 0, .int .i64 0]⟩),
  (30, ⟨2, true, 32, [.int .i64 0, .slice none 0 0], .struct [(0, 1, false), (1, 1, false)]⟩),
  (31, ⟨2, true, 32, [.int .i64 0, .slice none 0 0], .struct [(0, 1, false), (1, 1, false)]⟩),
  (32, ⟨1, false, 8, [.nilFunc], .other⟩),
  (33, ⟨1, false, 8, [.nilFunc], .other⟩),
  (34, ⟨1, false, 8, [.nilFunc], .other⟩),
  (35, ⟨1, false, 8, [.nilFunc], .other⟩),
  (36, ⟨1, false, 8, [.nilFunc], .other⟩),
  (37, ⟨1, false, 8, [.nilFunc], .other⟩),
  (39, ⟨1, false, 8, [.nilFunc], .other⟩),
  (40, ⟨1, false, 8, [.nilFunc], .other⟩),
  (41, ⟨1, false, 8, [.nilFunc], .other⟩),
  (42, ⟨1, false, 8, [.nilFunc], .other⟩),
  (44, ⟨1, false, 8, [.nilFunc], .other⟩),
  (45, ⟨1, false, 8, [.nilFunc], .other⟩),
  (46, ⟨1, false, 8, [.nilFunc], .other⟩),
  (47, ⟨1, false, 24, [.slice none 0 0], .slice 5 1 1 [.int .u8 0]⟩),
  (48, ⟨1, false, 8, [.nilFunc], .other⟩),
  (50, ⟨1, false, 8, [.nilFunc], .other⟩),
  (51, ⟨1, false, 8, [.nilFunc], .other⟩),
  (52, ⟨1, false, 8, [.nilFunc], .other⟩),
  (53, ⟨1, false, 8, [.nilFunc], .other⟩),
  (54, ⟨1, false, 8, [.nilFunc], .other⟩),
  (55, ⟨4, true, 32, [.int .i64 0, .int .i64 0, .int .i64 0, .int .i64 0], .struct [(0, 1, false), (1, 1, false), (2, 1, false), (3, 1, false)]⟩),
  (56, ⟨4, true, 32, [.int .i64 0, .int .i64 0, .int .i64 0, .int .i64 0], .struct [(0, 1, false), (1, 1, false), (2, 1, false), (3, 1, false)]⟩),
  (57, ⟨1, false, 8, [.nilFunc], .other⟩),
  (58, ⟨1, false, 8, [.nilFunc], .other⟩),
  (60, ⟨1, false, 8, [.nilFunc], .other⟩),
  (61, ⟨1, false, 8, [.nilFunc], .other⟩),
  (62, ⟨1, false, 8, [.nilFunc], .other⟩),
  (63, ⟨1, false, 8, [.nilFunc], .other⟩),
  (64, ⟨1, false, 8, [.nilFunc], .other⟩),
  (65, ⟨1, false, 8, [.pointer none], .other⟩),
  (67, ⟨1, false, 8, [.nilFunc], .other⟩),
  (68, ⟨1, false, 24, [.slice none 0 0], .slice 4 1 1 [.bool false]⟩),
  (69, ⟨1, false, 8, [.nilFunc], .other⟩),
  (70, ⟨1, false, 8, [.nilFunc], .other⟩),
  (71, ⟨1, false, 8, [.nilFunc], .other⟩),
  (72, ⟨1, false, 8, [.nilFunc], .other⟩),
  (73, ⟨1, false, 8, [.nilFunc], .other⟩),
  (74, ⟨1, false, 8, [.nilFunc], .other⟩),
  (76, ⟨1, false, 8, [.nilFunc], .other⟩),
  (78, ⟨1, false, 8, [.nilFunc], .other⟩),
  (79, ⟨1, false, 8, [.nilFunc], .other⟩),
  (80, ⟨1, false, 8, [.nilFunc], .other⟩),
  (81, ⟨1, false, 8, [.nilFunc], .other⟩),
  (82, ⟨1, false, 8, [.nilFunc], .other⟩),
  (83, ⟨1, false, 8, [.nilFunc], .other⟩),
  (84, ⟨1, false, 8, [.nilFunc], .other⟩),
  (85, ⟨1, false, 8, [.nilFunc], .other⟩),
  (86, ⟨1, false, 8, [.nilFunc], .other⟩),
  (87, ⟨1, false, 8, [.nilFunc], .other⟩),
  (88, ⟨1, false, 8, [.nilFunc], .other⟩),
  (89, ⟨1, false, 8, [.nilFunc], .other⟩),
  (90, ⟨1, false, 8, [.nilFunc], .other⟩),
  (91, ⟨1, false, 8, [.nilFunc], .other⟩),
  (92, ⟨1, false, 8, [.nilFunc], .other⟩),
  (93, ⟨1, false, 8, [.nilFunc], .other⟩),
  (94, ⟨1, false, 8, [.nilFunc], .other⟩),
  (95, ⟨1, false, 8, [.nilFunc], .other⟩),
  (96, ⟨1, false, 8, [.nilFunc], .other⟩),
  (97, ⟨1, false, 8, [.nilFunc], .other⟩),
  (98, ⟨1, false, 8, [.nilFunc], .other⟩),
  (99, ⟨1, false, 8, [.pointer none], .other⟩),
  (100, ⟨1, false, 8, [.nilFunc], .other⟩),
  (101, ⟨1, false, 8, [.nilFunc], .other⟩),
  (102, ⟨1, false, 8, [.nilFunc], .other⟩),
  (104, ⟨1, false, 8, [.nilFunc], .other⟩),
  (105, ⟨1, false, 8, [.nilFunc], .other⟩),
  (106, ⟨1, false, 8, [.nilFunc], .other⟩),
  (107, ⟨1, false, 24, [.slice none 0 0], .slice 109 3 40 [.slice none 0 0, .int .i64 0, .bool false]⟩),
  (108, ⟨3, true, 40, [.slice none 0 0, .int .i64 0, .bool false], .struct [(0, 1, false), (1, 1, false), (2, 1, false)]⟩),
  (109, ⟨3, true, 40, [.slice none 0 0, .int .i64 0, .bool false], .struct [(0, 1, false), (1, 1, false), (2, 1, false)]⟩),
  (110, ⟨1, false, 8, [.nilFunc], .other⟩),
  (111, ⟨1, false, 8, [.pointer none], .other⟩),
  (112, ⟨1, false, 8, [.nilFunc], .other⟩),
  (113, ⟨4, true, 32, [.int .i64 0, .int .i64 0, .int .i64 0, .int .i64 0], .struct [(0, 1, false), (1, 1, false), (2, 1, false), (3, 1, false)]⟩),
  (114, ⟨1, false, 8, [.map none], .other⟩),
  (115, ⟨1, false, 8, [.nilFunc], .other⟩),
  (116, ⟨2, true, 16, [.int .i64 0, .int .i64 0], .struct [(0, 1, false), (1, 1, false)]⟩),
  (117, ⟨2, true, 16, [.int .i64 0, .int .i64 0], .struct [(0, 1, false), (1, 1, false)]⟩),
  (120, ⟨1, false, 8, [.nilFunc], .other⟩),
  (121, ⟨1, false, 8, [.nilFunc], .other⟩),
  (122, ⟨1, false, 8, [.nilFunc], .other⟩),
  (123, ⟨1, false, 8, [.nilFunc], .other⟩),
  (124, ⟨1, false, 8, [.nilFunc], .other⟩),
  (125, ⟨1, false, 8, [.nilFunc], .other⟩),
  (126, ⟨1, false, 8, [.nilFunc], .other⟩),
  (127, ⟨1, false, 8, [.int .u64 0], .int .u64⟩),
  (128, ⟨1, false, 8, [.nilFunc], .other⟩),
  (129, ⟨1, false, 8, [.nilFunc], .other⟩),
  (130, ⟨1, false, 8, [.nilFunc], .other⟩),
  (131, ⟨1, false, 8, [.int .u64 0], .int .u64⟩),
  (132, ⟨3, true, 40, [.slice none 0 0, .int .i64 0, .int .u64 0], .struct [(0, 1, false), (1, 1, false), (2, 1, false)]⟩),
  (133, ⟨3, true, 40, [.slice none 0 0, .int .i64 0, .int .u64 0], .struct [(0, 1, false), (1, 1, false), (2, 1, false)]⟩),
  (134, ⟨1, false, 8, [.nilFunc], .other⟩),
  (135, ⟨1, false, 8, [.nilFunc], .other⟩),
  (136, ⟨1, false, 8, [.nilFunc], .other⟩),
  (137, ⟨1, false, 8, [.nilFunc], .other⟩),
  (138, ⟨2, true, 16, [.int .i64 0, .int .i64 0], .array 2 1 false⟩),
  (139, ⟨4, true, 32, [.int .i64 0, .int .i64 0, .int .i64 0, .int .i64 0], .array 2 2 true⟩),
  (140, ⟨1, false, 8, [.nilFunc], .other⟩),
  (141, ⟨1, false, 8, [.nilFunc], .other⟩),
  (142, ⟨1, false, 8, [.int .i64 0], .int .i64⟩),
  (144, ⟨1, false, 8, [.nilFunc], .other⟩),
  (145, ⟨1, false, 8, [.nilFunc], .other⟩),
  (146, ⟨1, false, 8, [.nilFunc], .other⟩),
  (147, ⟨1, false, 8, [.nilFunc], .other⟩),
  (149, ⟨1, false, 8, [.nilFunc], .other⟩),
  (150, ⟨1, false, 8, [.nilFunc], .other⟩),
  (151, ⟨1, false, 4, [.int .u32 0], .int .u32⟩),
  (152, ⟨1, false, 8, [.nilFunc], .other⟩),
  (153, ⟨1, false, 24, [.slice none 0 0], .slice 3 1 8 [.int .i64 0]⟩),
  (154, ⟨1, false, 8, [.nilFunc], .other⟩),
  (155, ⟨1, false, 8, [.nilFunc], .other⟩),
  (156, ⟨1, false, 8, [.int .u64 0], .int .u64⟩),
  (157, ⟨1, false, 8, [.nilFunc], .other⟩),
  (158, ⟨1, false, 8, [.nilFunc], .other⟩),
  (159, ⟨1, false, 8, [.nilFunc], .other⟩),
  (160, ⟨1, false, 8, [.pointer none], .other⟩),
  (161, ⟨1, false, 8, [.nilFunc], .other⟩),
  (162, ⟨1, false, 8, [.pointer none], .other⟩),
  (164, ⟨1, false, 8, [.nilFunc], .other⟩),
  (165, ⟨1, false, 8, [.nilFunc], .other⟩),
  (166, ⟨4, true, 40, [.pointer none, .pointer none, .pointer none, .string ByteArray.empty], .struct [(0, 1, false), (1, 1, false), (2, 1, false), (3, 1, false)]⟩),
  (167, ⟨4, true, 40, [.pointer none, .pointer none, .pointer none, .string ByteArray.empty], .struct [(0, 1, false), (1, 1, false), (2, 1, false), (3, 1, false)]⟩),
  (168, ⟨0, true, 0, [], .array 0 1 false⟩),
  (169, ⟨0, true, 0, [], .struct [(0, 0, true)]⟩),
  (170, ⟨0, true, 0, [], .struct [(0, 0, true)]⟩),
  (171, ⟨1, false, 8, [.nilFunc], .other⟩),
  (172, ⟨1, false, 1, [.int .u8 0], .int .u8⟩),
  (173, ⟨1, false, 1, [.int .u8 0], .int .u8⟩),
  (174, ⟨1, false, 8, [.nilFunc], .other⟩),
  (175, ⟨1, false, 8, [.pointer none], .other⟩),
  (176, ⟨1, false, 4, [.int .i32 0], .int .i32⟩),
  (177, ⟨1, false, 4, [.int .i32 0], .int .i32⟩),
  (178, ⟨11, true, 48, [.int .u64 0, .int .u64 0, .int .u32 0, .int .u8 0, .int .u8 0, .int .u8 0, .int .u8 0, .nilFunc, .pointer none, .int .i32 0, .int .i32 0], .struct [(0, 1, false), (1, 1, false), (2, 1, false), (3, 1, false), (4, 1, false), (5, 1, false), (6, 1, false), (7, 1, false), (8, 1, false), (9, 1, false), (10, 1, false)]⟩),
  (179, ⟨11, true, 48, [.int .u64 0, .int .u64 0, .int .u32 0, .int .u8 0, .int .u8 0, .int .u8 0, .int .u8 0, .nilFunc, .pointer none, .int .i32 0, .int .i32 0], .struct [(0, 1, false), (1, 1, false), (2, 1, false), (3, 1, false), (4, 1, false), (5, 1, false), (6, 1, false), (7, 1, false), (8, 1, false), (9, 1, false), (10, 1, false)]⟩)]
theorem ty_all : allTy Try.prog tyL := ⟨ty_1, ty_2, ty_3, ty_4, ty_5, ty_6, ty_7, ty_8, ty_9, ty_10, ty_11, ty_12, ty_13, ty_14, ty_15, ty_16, ty_17, ty_18, ty_19, ty_21, ty_22, ty_23, ty_24, ty_25, ty_26, ty_28, ty_29, ty_30, ty_31, ty_32, ty_33, ty_34, ty_35, ty_36, ty_37, ty_39, ty_40, ty_41, ty_42, ty_44, ty_45, ty_46, ty_47, ty_48, ty_50, ty_51, ty_52, ty_53, ty_54, ty_55, ty_56, ty_57, ty_58, ty_60, ty_61, ty_62, ty_63, ty_64, ty_65, ty_67, ty_68, ty_69, ty_70, ty_71, ty_72, ty_73, ty_74, ty_76, ty_78, ty_79, ty_80, ty_81, ty_82, ty_83, ty_84, ty_85, ty_86, ty_87, ty_88, ty_89, ty_90, ty_91, ty_92, ty_93, ty_94, ty_95, ty_96, ty_97, ty_98, ty_99, ty_100, ty_101, ty_102, ty_104, ty_105, ty_106, ty_107, ty_108, ty_109, ty_110, ty_111, ty_112, ty_113, ty_114, ty_115, ty_116, ty_117, ty_120, ty_121, ty_122, ty_123, ty_124, ty_125, ty_126, ty_127, ty_128, ty_129, ty_130, ty_131, ty_132, ty_133, ty_134, ty_135, ty_136, ty_137, ty_138, ty_139, ty_140, ty_141, ty_142, ty_144, ty_145, ty_146, ty_147, ty_149, ty_150, ty_151, ty_152, ty_153, ty_154, ty_155, ty_156, ty_157, ty_158, ty_159, ty_160, ty_161, ty_162, ty_164, ty_165, ty_166, ty_167, ty_168, ty_169, ty_170, ty_171, ty_172, ty_173, ty_174, ty_175, ty_176, ty_177, ty_178, ty_179, trivial⟩
theorem ty {t : Nat} {i : TI} (h : look tyL t = some i) : tiOf Try.prog t = some i := look_allTy ty_all h
theorem mixed : Try.prog.follows .mixedOrders = true := by kernel_rfl

end Go.Proofs.Ytglfcaioapdiaaa.Aw
