/- The table of the types of this program, read off its own facts. -/
import Derived.Test.YtamielbdedbnaaaA16
import Derived.Test.YtamielbdedbnaaaProg
import Derived.KernelRfl
set_option linter.unusedVariables false
namespace Go.Proofs.Ytamielbdedbnaaa
open Go.Ab
def T : Tab := fun t => match t with
  | 1 => some ⟨1, 8, .func, .nilFunc⟩
  | 2 => some ⟨1, 8, .int .i64, .int .i64 0⟩
  | 3 => some ⟨1, 8, .int .i64, .int .i64 0⟩
  | 4 => some ⟨1, 1, .bool, .bool false⟩
  | 5 => some ⟨1, 1, .int .u8, .int .u8 0⟩
  | 6 => some ⟨1, 1, .int .u8, .int .u8 0⟩
  | 7 => some ⟨4, 24, .struct [(0, 1, 2), (1, 1, 3), (2, 1, 4), (3, 1, 6)], .agg #[.int .i64 0, .int .i64 0, .bool false, .int .u8 0]⟩
  | 8 => some ⟨4, 24, .struct [(0, 1, 2), (1, 1, 3), (2, 1, 4), (3, 1, 6)], .agg #[.int .i64 0, .int .i64 0, .bool false, .int .u8 0]⟩
  | 9 => some ⟨1, 16, .str, .string ⟨#[]⟩⟩
  | 10 => some ⟨1, 16, .str, .string ⟨#[]⟩⟩
  | 11 => some ⟨1, 16, .str, .string ⟨#[]⟩⟩
  | 12 => some ⟨1, 8, .int .u64, .int .u64 0⟩
  | 13 => some ⟨2, 24, .struct [(0, 1, 9), (1, 1, 12)], .agg #[.string ⟨#[]⟩, .int .u64 0]⟩
  | 14 => some ⟨2, 24, .struct [(0, 1, 9), (1, 1, 12)], .agg #[.string ⟨#[]⟩, .int .u64 0]⟩
  | 15 => some ⟨1, 8, .ptr 112, .pointer none⟩
  | 16 => some ⟨1, 8, .ptr 115, .pointer none⟩
  | 17 => some ⟨1, 8, .ptr 125, .pointer none⟩
  | 18 => some ⟨1, 8, .struct [(0, 1, 17)], .agg #[.pointer none]⟩
  | 19 => some ⟨1, 8, .struct [(0, 1, 17)], .agg #[.pointer none]⟩
  | 20 => some ⟨1, 16, .iface, .nilIface⟩
  | 21 => some ⟨1, 4, .int .i32, .int .i32 0⟩
  | 22 => some ⟨1, 24, .slice 5, .slice none 0 0⟩
  | 23 => some ⟨1, 8, .func, .nilFunc⟩
  | 24 => some ⟨1, 24, .slice 32, .slice none 0 0⟩
  | 26 => some ⟨1, 8, .func, .nilFunc⟩
  | 27 => some ⟨1, 24, .slice 9, .slice none 0 0⟩
  | 29 => some ⟨1, 8, .func, .nilFunc⟩
  | 30 => some ⟨1, 8, .func, .nilFunc⟩
  | 31 => some ⟨7, 64, .struct [(0, 1, 9), (1, 1, 2), (2, 1, 2), (3, 1, 2), (4, 1, 2), (5, 1, 2), (6, 1, 2)], .agg #[.string ⟨#[]⟩, .int .i64 0, .int .i64 0, .int .i64 0, .int .i64 0, .int .i64 0, .int .i64 0]⟩
  | 32 => some ⟨7, 64, .struct [(0, 1, 9), (1, 1, 2), (2, 1, 2), (3, 1, 2), (4, 1, 2), (5, 1, 2), (6, 1, 2)], .agg #[.string ⟨#[]⟩, .int .i64 0, .int .i64 0, .int .i64 0, .int .i64 0, .int .i64 0, .int .i64 0]⟩
  | 33 => some ⟨1, 8, .func, .nilFunc⟩
  | 35 => some ⟨1, 8, .func, .nilFunc⟩
  | 36 => some ⟨1, 8, .func, .nilFunc⟩
  | 38 => some ⟨1, 8, .func, .nilFunc⟩
  | 39 => some ⟨1, 24, .slice 42, .slice none 0 0⟩
  | 41 => some ⟨1, 8, .func, .nilFunc⟩
  | 42 => some ⟨1, 24, .slice 2, .slice none 0 0⟩
  | 44 => some ⟨1, 8, .func, .nilFunc⟩
  | 45 => some ⟨1, 8, .func, .nilFunc⟩
  | 46 => some ⟨1, 24, .slice 75, .slice none 0 0⟩
  | 47 => some ⟨1, 8, .func, .nilFunc⟩
  | 48 => some ⟨1, 8, .func, .nilFunc⟩
  | 49 => some ⟨1, 8, .func, .nilFunc⟩
  | 50 => some ⟨1, 8, .func, .nilFunc⟩
  | 51 => some ⟨1, 8, .func, .nilFunc⟩
  | 52 => some ⟨1, 8, .func, .nilFunc⟩
  | 53 => some ⟨1, 8, .func, .nilFunc⟩
  | 54 => some ⟨1, 8, .ptr 87, .pointer none⟩
  | 55 => some ⟨1, 8, .func, .nilFunc⟩
  | 56 => some ⟨1, 8, .func, .nilFunc⟩
  | 57 => some ⟨1, 8, .func, .nilFunc⟩
  | 58 => some ⟨1, 8, .func, .nilFunc⟩
  | 59 => some ⟨1, 8, .func, .nilFunc⟩
  | 60 => some ⟨1, 8, .func, .nilFunc⟩
  | 61 => some ⟨1, 8, .func, .nilFunc⟩
  | 62 => some ⟨1, 8, .func, .nilFunc⟩
  | 63 => some ⟨1, 8, .func, .nilFunc⟩
  | 64 => some ⟨1, 8, .func, .nilFunc⟩
  | 65 => some ⟨1, 24, .slice 4, .slice none 0 0⟩
  | 66 => some ⟨7, 120, .struct [(0, 1, 24), (1, 1, 2), (2, 1, 2), (3, 1, 65), (4, 1, 39), (5, 1, 39), (6, 1, 2)], .agg #[.slice none 0 0, .int .i64 0, .int .i64 0, .slice none 0 0, .slice none 0 0, .slice none 0 0, .int .i64 0]⟩
  | 67 => some ⟨7, 120, .struct [(0, 1, 24), (1, 1, 2), (2, 1, 2), (3, 1, 65), (4, 1, 39), (5, 1, 39), (6, 1, 2)], .agg #[.slice none 0 0, .int .i64 0, .int .i64 0, .slice none 0 0, .slice none 0 0, .slice none 0 0, .int .i64 0]⟩
  | 68 => some ⟨1, 8, .func, .nilFunc⟩
  | 69 => some ⟨1, 8, .func, .nilFunc⟩
  | 70 => some ⟨1, 8, .ptr 32, .pointer none⟩
  | 71 => some ⟨1, 8, .func, .nilFunc⟩
  | 72 => some ⟨1, 8, .func, .nilFunc⟩
  | 73 => some ⟨1, 8, .func, .nilFunc⟩
  | 74 => some ⟨1, 8, .func, .nilFunc⟩
  | 75 => some ⟨7, 64, .struct [(0, 1, 9), (1, 1, 2), (2, 1, 2), (3, 1, 2), (4, 1, 2), (5, 1, 2), (6, 1, 2)], .agg #[.string ⟨#[]⟩, .int .i64 0, .int .i64 0, .int .i64 0, .int .i64 0, .int .i64 0, .int .i64 0]⟩
  | 76 => some ⟨1, 8, .ptr 78, .pointer none⟩
  | 77 => some ⟨9, 136, .struct [(0, 1, 24), (1, 1, 2), (2, 1, 65), (3, 1, 39), (4, 1, 39), (5, 1, 2), (6, 1, 2), (7, 1, 2), (8, 1, 4)], .agg #[.slice none 0 0, .int .i64 0, .slice none 0 0, .slice none 0 0, .slice none 0 0, .int .i64 0, .int .i64 0, .int .i64 0, .bool false]⟩
  | 78 => some ⟨9, 136, .struct [(0, 1, 24), (1, 1, 2), (2, 1, 65), (3, 1, 39), (4, 1, 39), (5, 1, 2), (6, 1, 2), (7, 1, 2), (8, 1, 4)], .agg #[.slice none 0 0, .int .i64 0, .slice none 0 0, .slice none 0 0, .slice none 0 0, .int .i64 0, .int .i64 0, .int .i64 0, .bool false]⟩
  | 79 => some ⟨1, 8, .func, .nilFunc⟩
  | 80 => some ⟨1, 8, .func, .nilFunc⟩
  | 81 => some ⟨1, 8, .func, .nilFunc⟩
  | 82 => some ⟨1, 8, .func, .nilFunc⟩
  | 83 => some ⟨1, 8, .func, .nilFunc⟩
  | 84 => some ⟨1, 8, .func, .nilFunc⟩
  | 85 => some ⟨1, 8, .int .u64, .int .u64 0⟩
  | 86 => some ⟨3, 40, .struct [(0, 1, 22), (1, 1, 3), (2, 1, 85)], .agg #[.slice none 0 0, .int .i64 0, .int .u64 0]⟩
  | 87 => some ⟨3, 40, .struct [(0, 1, 22), (1, 1, 3), (2, 1, 85)], .agg #[.slice none 0 0, .int .i64 0, .int .u64 0]⟩
  | 88 => some ⟨1, 8, .func, .nilFunc⟩
  | 89 => some ⟨1, 8, .func, .nilFunc⟩
  | 90 => some ⟨1, 8, .func, .nilFunc⟩
  | 91 => some ⟨1, 8, .func, .nilFunc⟩
  | 92 => some ⟨1, 8, .func, .nilFunc⟩
  | 93 => some ⟨1, 8, .ptr 2, .pointer none⟩
  | 94 => some ⟨3, 24, .arr 3 93, .agg #[.pointer none, .pointer none, .pointer none]⟩
  | 95 => some ⟨1, 8, .func, .nilFunc⟩
  | 96 => some ⟨3, 48, .arr 3 9, .agg #[.string ⟨#[]⟩, .string ⟨#[]⟩, .string ⟨#[]⟩]⟩
  | 97 => some ⟨1, 8, .ptr 67, .pointer none⟩
  | 98 => some ⟨1, 8, .func, .nilFunc⟩
  | 99 => some ⟨1, 8, .func, .nilFunc⟩
  | 100 => some ⟨1, 8, .func, .nilFunc⟩
  | 101 => some ⟨1, 8, .func, .nilFunc⟩
  | 102 => some ⟨1, 8, .func, .nilFunc⟩
  | 103 => some ⟨1, 8, .func, .nilFunc⟩
  | 104 => some ⟨1, 8, .func, .nilFunc⟩
  | 105 => some ⟨1, 8, .func, .nilFunc⟩
  | 106 => some ⟨1, 8, .func, .nilFunc⟩
  | 107 => some ⟨1, 8, .func, .nilFunc⟩
  | 108 => some ⟨1, 8, .int .u64, .int .u64 0⟩
  | 109 => some ⟨1, 8, .func, .nilFunc⟩
  | 110 => some ⟨1, 8, .func, .nilFunc⟩
  | 111 => some ⟨4, 40, .struct [(0, 1, 17), (1, 1, 17), (2, 1, 17), (3, 1, 9)], .agg #[.pointer none, .pointer none, .pointer none, .string ⟨#[]⟩]⟩
  | 112 => some ⟨4, 40, .struct [(0, 1, 17), (1, 1, 17), (2, 1, 17), (3, 1, 9)], .agg #[.pointer none, .pointer none, .pointer none, .string ⟨#[]⟩]⟩
  | 116 => some ⟨1, 8, .func, .nilFunc⟩
  | 117 => some ⟨1, 4, .int .u32, .int .u32 0⟩
  | 118 => some ⟨1, 1, .int .u8, .int .u8 0⟩
  | 119 => some ⟨1, 1, .int .u8, .int .u8 0⟩
  | 120 => some ⟨1, 8, .func, .nilFunc⟩
  | 121 => some ⟨1, 8, .ptr 5, .pointer none⟩
  | 122 => some ⟨1, 4, .int .i32, .int .i32 0⟩
  | 123 => some ⟨1, 4, .int .i32, .int .i32 0⟩
  | 124 => some ⟨11, 48, .struct [(0, 1, 12), (1, 1, 12), (2, 1, 117), (3, 1, 118), (4, 1, 5), (5, 1, 5), (6, 1, 119), (7, 1, 120), (8, 1, 121), (9, 1, 122), (10, 1, 123)], .agg #[.int .u64 0, .int .u64 0, .int .u32 0, .int .u8 0, .int .u8 0, .int .u8 0, .int .u8 0, .nilFunc, .pointer none, .int .i32 0, .int .i32 0]⟩
  | 125 => some ⟨11, 48, .struct [(0, 1, 12), (1, 1, 12), (2, 1, 117), (3, 1, 118), (4, 1, 5), (5, 1, 5), (6, 1, 119), (7, 1, 120), (8, 1, 121), (9, 1, 122), (10, 1, 123)], .agg #[.int .u64 0, .int .u64 0, .int .u32 0, .int .u8 0, .int .u8 0, .int .u8 0, .int .u8 0, .nilFunc, .pointer none, .int .i32 0, .int .i32 0]⟩
  | _ => none
theorem T_1 : T 1 = some ⟨1, 8, .func, .nilFunc⟩ := rfl
theorem T_2 : T 2 = some ⟨1, 8, .int .i64, .int .i64 0⟩ := rfl
theorem T_3 : T 3 = some ⟨1, 8, .int .i64, .int .i64 0⟩ := rfl
theorem T_4 : T 4 = some ⟨1, 1, .bool, .bool false⟩ := rfl
theorem T_5 : T 5 = some ⟨1, 1, .int .u8, .int .u8 0⟩ := rfl
theorem T_6 : T 6 = some ⟨1, 1, .int .u8, .int .u8 0⟩ := rfl
theorem T_7 : T 7 = some ⟨4, 24, .struct [(0, 1, 2), (1, 1, 3), (2, 1, 4), (3, 1, 6)], .agg #[.int .i64 0, .int .i64 0, .bool false, .int .u8 0]⟩ := rfl
theorem T_8 : T 8 = some ⟨4, 24, .struct [(0, 1, 2), (1, 1, 3), (2, 1, 4), (3, 1, 6)], .agg #[.int .i64 0, .int .i64 0, .bool false, .int .u8 0]⟩ := rfl
theorem T_9 : T 9 = some ⟨1, 16, .str, .string ⟨#[]⟩⟩ := rfl
theorem T_10 : T 10 = some ⟨1, 16, .str, .string ⟨#[]⟩⟩ := rfl
theorem T_11 : T 11 = some ⟨1, 16, .str, .string ⟨#[]⟩⟩ := rfl
theorem T_12 : T 12 = some ⟨1, 8, .int .u64, .int .u64 0⟩ := rfl
theorem T_13 : T 13 = some ⟨2, 24, .struct [(0, 1, 9), (1, 1, 12)], .agg #[.string ⟨#[]⟩, .int .u64 0]⟩ := rfl
theorem T_14 : T 14 = some ⟨2, 24, .struct [(0, 1, 9), (1, 1, 12)], .agg #[.string ⟨#[]⟩, .int .u64 0]⟩ := rfl
theorem T_15 : T 15 = some ⟨1, 8, .ptr 112, .pointer none⟩ := rfl
theorem T_16 : T 16 = some ⟨1, 8, .ptr 115, .pointer none⟩ := rfl
theorem T_17 : T 17 = some ⟨1, 8, .ptr 125, .pointer none⟩ := rfl
theorem T_18 : T 18 = some ⟨1, 8, .struct [(0, 1, 17)], .agg #[.pointer none]⟩ := rfl
theorem T_19 : T 19 = some ⟨1, 8, .struct [(0, 1, 17)], .agg #[.pointer none]⟩ := rfl
theorem T_20 : T 20 = some ⟨1, 16, .iface, .nilIface⟩ := rfl
theorem T_21 : T 21 = some ⟨1, 4, .int .i32, .int .i32 0⟩ := rfl
theorem T_22 : T 22 = some ⟨1, 24, .slice 5, .slice none 0 0⟩ := rfl
theorem T_23 : T 23 = some ⟨1, 8, .func, .nilFunc⟩ := rfl
theorem T_24 : T 24 = some ⟨1, 24, .slice 32, .slice none 0 0⟩ := rfl
theorem T_26 : T 26 = some ⟨1, 8, .func, .nilFunc⟩ := rfl
theorem T_27 : T 27 = some ⟨1, 24, .slice 9, .slice none 0 0⟩ := rfl
theorem T_29 : T 29 = some ⟨1, 8, .func, .nilFunc⟩ := rfl
theorem T_30 : T 30 = some ⟨1, 8, .func, .nilFunc⟩ := rfl
theorem T_31 : T 31 = some ⟨7, 64, .struct [(0, 1, 9), (1, 1, 2), (2, 1, 2), (3, 1, 2), (4, 1, 2), (5, 1, 2), (6, 1, 2)], .agg #[.string ⟨#[]⟩, .int .i64 0, .int .i64 0, .int .i64 0, .int .i64 0, .int .i64 0, .int .i64 0]⟩ := rfl
theorem T_32 : T 32 = some ⟨7, 64, .struct [(0, 1, 9), (1, 1, 2), (2, 1, 2), (3, 1, 2), (4, 1, 2), (5, 1, 2), (6, 1, 2)], .agg #[.string ⟨#[]⟩, .int .i64 0, .int .i64 0, .int .i64 0, .int .i64 0, .int .i64 0, .int .i64 0]⟩ := rfl
theorem T_33 : T 33 = some ⟨1, 8, .func, .nilFunc⟩ := rfl
theorem T_35 : T 35 = some ⟨1, 8, .func, .nilFunc⟩ := rfl
theorem T_36 : T 36 = some ⟨1, 8, .func, .nilFunc⟩ := rfl
theorem T_38 : T 38 = some ⟨1, 8, .func, .nilFunc⟩ := rfl
theorem T_39 : T 39 = some ⟨1, 24, .slice 42, .slice none 0 0⟩ := rfl
theorem T_41 : T 41 = some ⟨1, 8, .func, .nilFunc⟩ := rfl
theorem T_42 : T 42 = some ⟨1, 24, .slice 2, .slice none 0 0⟩ := rfl
theorem T_44 : T 44 = some ⟨1, 8, .func, .nilFunc⟩ := rfl
theorem T_45 : T 45 = some ⟨1, 8, .func, .nilFunc⟩ := rfl
theorem T_46 : T 46 = some ⟨1, 24, .slice 75, .slice none 0 0⟩ := rfl
theorem T_47 : T 47 = some ⟨1, 8, .func, .nilFunc⟩ := rfl
theorem T_48 : T 48 = some ⟨1, 8, .func, .nilFunc⟩ := rfl
theorem T_49 : T 49 = some ⟨1, 8, .func, .nilFunc⟩ := rfl
theorem T_50 : T 50 = some ⟨1, 8, .func, .nilFunc⟩ := rfl
theorem T_51 : T 51 = some ⟨1, 8, .func, .nilFunc⟩ := rfl
theorem T_52 : T 52 = some ⟨1, 8, .func, .nilFunc⟩ := rfl
theorem T_53 : T 53 = some ⟨1, 8, .func, .nilFunc⟩ := rfl
theorem T_54 : T 54 = some ⟨1, 8, .ptr 87, .pointer none⟩ := rfl
theorem T_55 : T 55 = some ⟨1, 8, .func, .nilFunc⟩ := rfl
theorem T_56 : T 56 = some ⟨1, 8, .func, .nilFunc⟩ := rfl
theorem T_57 : T 57 = some ⟨1, 8, .func, .nilFunc⟩ := rfl
theorem T_58 : T 58 = some ⟨1, 8, .func, .nilFunc⟩ := rfl
theorem T_59 : T 59 = some ⟨1, 8, .func, .nilFunc⟩ := rfl
theorem T_60 : T 60 = some ⟨1, 8, .func, .nilFunc⟩ := rfl
theorem T_61 : T 61 = some ⟨1, 8, .func, .nilFunc⟩ := rfl
theorem T_62 : T 62 = some ⟨1, 8, .func, .nilFunc⟩ := rfl
theorem T_63 : T 63 = some ⟨1, 8, .func, .nilFunc⟩ := rfl
theorem T_64 : T 64 = some ⟨1, 8, .func, .nilFunc⟩ := rfl
theorem T_65 : T 65 = some ⟨1, 24, .slice 4, .slice none 0 0⟩ := rfl
theorem T_66 : T 66 = some ⟨7, 120, .struct [(0, 1, 24), (1, 1, 2), (2, 1, 2), (3, 1, 65), (4, 1, 39), (5, 1, 39), (6, 1, 2)], .agg #[.slice none 0 0, .int .i64 0, .int .i64 0, .slice none 0 0, .slice none 0 0, .slice none 0 0, .int .i64 0]⟩ := rfl
theorem T_67 : T 67 = some ⟨7, 120, .struct [(0, 1, 24), (1, 1, 2), (2, 1, 2), (3, 1, 65), (4, 1, 39), (5, 1, 39), (6, 1, 2)], .agg #[.slice none 0 0, .int .i64 0, .int .i64 0, .slice none 0 0, .slice none 0 0, .slice none 0 0, .int .i64 0]⟩ := rfl
theorem T_68 : T 68 = some ⟨1, 8, .func, .nilFunc⟩ := rfl
theorem T_69 : T 69 = some ⟨1, 8, .func, .nilFunc⟩ := rfl
theorem T_70 : T 70 = some ⟨1, 8, .ptr 32, .pointer none⟩ := rfl
theorem T_71 : T 71 = some ⟨1, 8, .func, .nilFunc⟩ := rfl
theorem T_72 : T 72 = some ⟨1, 8, .func, .nilFunc⟩ := rfl
theorem T_73 : T 73 = some ⟨1, 8, .func, .nilFunc⟩ := rfl
theorem T_74 : T 74 = some ⟨1, 8, .func, .nilFunc⟩ := rfl
theorem T_75 : T 75 = some ⟨7, 64, .struct [(0, 1, 9), (1, 1, 2), (2, 1, 2), (3, 1, 2), (4, 1, 2), (5, 1, 2), (6, 1, 2)], .agg #[.string ⟨#[]⟩, .int .i64 0, .int .i64 0, .int .i64 0, .int .i64 0, .int .i64 0, .int .i64 0]⟩ := rfl
theorem T_76 : T 76 = some ⟨1, 8, .ptr 78, .pointer none⟩ := rfl
theorem T_77 : T 77 = some ⟨9, 136, .struct [(0, 1, 24), (1, 1, 2), (2, 1, 65), (3, 1, 39), (4, 1, 39), (5, 1, 2), (6, 1, 2), (7, 1, 2), (8, 1, 4)], .agg #[.slice none 0 0, .int .i64 0, .slice none 0 0, .slice none 0 0, .slice none 0 0, .int .i64 0, .int .i64 0, .int .i64 0, .bool false]⟩ := rfl
theorem T_78 : T 78 = some ⟨9, 136, .struct [(0, 1, 24), (1, 1, 2), (2, 1, 65), (3, 1, 39), (4, 1, 39), (5, 1, 2), (6, 1, 2), (7, 1, 2), (8, 1, 4)], .agg #[.slice none 0 0, .int .i64 0, .slice none 0 0, .slice none 0 0, .slice none 0 0, .int .i64 0, .int .i64 0, .int .i64 0, .bool false]⟩ := rfl
theorem T_79 : T 79 = some ⟨1, 8, .func, .nilFunc⟩ := rfl
theorem T_80 : T 80 = some ⟨1, 8, .func, .nilFunc⟩ := rfl
theorem T_81 : T 81 = some ⟨1, 8, .func, .nilFunc⟩ := rfl
theorem T_82 : T 82 = some ⟨1, 8, .func, .nilFunc⟩ := rfl
theorem T_83 : T 83 = some ⟨1, 8, .func, .nilFunc⟩ := rfl
theorem T_84 : T 84 = some ⟨1, 8, .func, .nilFunc⟩ := rfl
theorem T_85 : T 85 = some ⟨1, 8, .int .u64, .int .u64 0⟩ := rfl
theorem T_86 : T 86 = some ⟨3, 40, .struct [(0, 1, 22), (1, 1, 3), (2, 1, 85)], .agg #[.slice none 0 0, .int .i64 0, .int .u64 0]⟩ := rfl
theorem T_87 : T 87 = some ⟨3, 40, .struct [(0, 1, 22), (1, 1, 3), (2, 1, 85)], .agg #[.slice none 0 0, .int .i64 0, .int .u64 0]⟩ := rfl
theorem T_88 : T 88 = some ⟨1, 8, .func, .nilFunc⟩ := rfl
theorem T_89 : T 89 = some ⟨1, 8, .func, .nilFunc⟩ := rfl
theorem T_90 : T 90 = some ⟨1, 8, .func, .nilFunc⟩ := rfl
theorem T_91 : T 91 = some ⟨1, 8, .func, .nilFunc⟩ := rfl
theorem T_92 : T 92 = some ⟨1, 8, .func, .nilFunc⟩ := rfl
theorem T_93 : T 93 = some ⟨1, 8, .ptr 2, .pointer none⟩ := rfl
theorem T_94 : T 94 = some ⟨3, 24, .arr 3 93, .agg #[.pointer none, .pointer none, .pointer none]⟩ := rfl
theorem T_95 : T 95 = some ⟨1, 8, .func, .nilFunc⟩ := rfl
theorem T_96 : T 96 = some ⟨3, 48, .arr 3 9, .agg #[.string ⟨#[]⟩, .string ⟨#[]⟩, .string ⟨#[]⟩]⟩ := rfl
theorem T_97 : T 97 = some ⟨1, 8, .ptr 67, .pointer none⟩ := rfl
theorem T_98 : T 98 = some ⟨1, 8, .func, .nilFunc⟩ := rfl
theorem T_99 : T 99 = some ⟨1, 8, .func, .nilFunc⟩ := rfl
theorem T_100 : T 100 = some ⟨1, 8, .func, .nilFunc⟩ := rfl
theorem T_101 : T 101 = some ⟨1, 8, .func, .nilFunc⟩ := rfl
theorem T_102 : T 102 = some ⟨1, 8, .func, .nilFunc⟩ := rfl
theorem T_103 : T 103 = some ⟨1, 8, .func, .nilFunc⟩ := rfl
theorem T_104 : T 104 = some ⟨1, 8, .func, .nilFunc⟩ := rfl
theorem T_105 : T 105 = some ⟨1, 8, .func, .nilFunc⟩ := rfl
theorem T_106 : T 106 = some ⟨1, 8, .func, .nilFunc⟩ := rfl
theorem T_107 : T 107 = some ⟨1, 8, .func, .nilFunc⟩ := rfl
theorem T_108 : T 108 = some ⟨1, 8, .int .u64, .int .u64 0⟩ := rfl
theorem T_109 : T 109 = some ⟨1, 8, .func, .nilFunc⟩ := rfl
theorem T_110 : T 110 = some ⟨1, 8, .func, .nilFunc⟩ := rfl
theorem T_111 : T 111 = some ⟨4, 40, .struct [(0, 1, 17), (1, 1, 17), (2, 1, 17), (3, 1, 9)], .agg #[.pointer none, .pointer none, .pointer none, .string ⟨#[]⟩]⟩ := rfl
theorem T_112 : T 112 = some ⟨4, 40, .struct [(0, 1, 17), (1, 1, 17), (2, 1, 17), (3, 1, 9)], .agg #[.pointer none, .pointer none, .pointer none, .string ⟨#[]⟩]⟩ := rfl
theorem T_116 : T 116 = some ⟨1, 8, .func, .nilFunc⟩ := rfl
theorem T_117 : T 117 = some ⟨1, 4, .int .u32, .int .u32 0⟩ := rfl
theorem T_118 : T 118 = some ⟨1, 1, .int .u8, .int .u8 0⟩ := rfl
theorem T_119 : T 119 = some ⟨1, 1, .int .u8, .int .u8 0⟩ := rfl
theorem T_120 : T 120 = some ⟨1, 8, .func, .nilFunc⟩ := rfl
theorem T_121 : T 121 = some ⟨1, 8, .ptr 5, .pointer none⟩ := rfl
theorem T_122 : T 122 = some ⟨1, 4, .int .i32, .int .i32 0⟩ := rfl
theorem T_123 : T 123 = some ⟨1, 4, .int .i32, .int .i32 0⟩ := rfl
theorem T_124 : T 124 = some ⟨11, 48, .struct [(0, 1, 12), (1, 1, 12), (2, 1, 117), (3, 1, 118), (4, 1, 5), (5, 1, 5), (6, 1, 119), (7, 1, 120), (8, 1, 121), (9, 1, 122), (10, 1, 123)], .agg #[.int .u64 0, .int .u64 0, .int .u32 0, .int .u8 0, .int .u8 0, .int .u8 0, .int .u8 0, .nilFunc, .pointer none, .int .i32 0, .int .i32 0]⟩ := rfl
theorem T_125 : T 125 = some ⟨11, 48, .struct [(0, 1, 12), (1, 1, 12), (2, 1, 117), (3, 1, 118), (4, 1, 5), (5, 1, 5), (6, 1, 119), (7, 1, 120), (8, 1, 121), (9, 1, 122), (10, 1, 123)], .agg #[.int .u64 0, .int .u64 0, .int .u32 0, .int .u8 0, .int .u8 0, .int .u8 0, .int .u8 0, .nilFunc, .pointer none, .int .i32 0, .int .i32 0]⟩ := rfl
attribute [go_sem] T_1 T_2 T_3 T_4 T_5 T_6 T_7 T_8 T_9 T_10 T_11 T_12 T_13 T_14 T_15 T_16 T_17 T_18 T_19 T_20 T_21 T_22 T_23 T_24 T_26 T_27 T_29 T_30 T_31 T_32 T_33 T_35 T_36 T_38 T_39 T_41 T_42 T_44 T_45 T_46 T_47 T_48 T_49 T_50 T_51 T_52 T_53 T_54 T_55 T_56 T_57 T_58 T_59 T_60 T_61 T_62 T_63 T_64 T_65 T_66 T_67 T_68 T_69 T_70 T_71 T_72 T_73 T_74 T_75 T_76 T_77 T_78 T_79 T_80 T_81 T_82 T_83 T_84 T_85 T_86 T_87 T_88 T_89 T_90 T_91 T_92 T_93 T_94 T_95 T_96 T_97 T_98 T_99 T_100 T_101 T_102 T_103 T_104 T_105 T_106 T_107 T_108 T_109 T_110 T_111 T_112 T_116 T_117 T_118 T_119 T_120 T_121 T_122 T_123 T_124 T_125
theorem E_1 : TEntry Try.prog 1 ⟨1, 8, .func, .nilFunc⟩ := ⟨by kernel_rfl, by kernel_rfl⟩
theorem E_2 : TEntry Try.prog 2 ⟨1, 8, .int .i64, .int .i64 0⟩ := ⟨by kernel_rfl, by kernel_rfl⟩
theorem E_3 : TEntry Try.prog 3 ⟨1, 8, .int .i64, .int .i64 0⟩ := ⟨by kernel_rfl, by kernel_rfl⟩
theorem E_4 : TEntry Try.prog 4 ⟨1, 1, .bool, .bool false⟩ := ⟨by kernel_rfl, by kernel_rfl⟩
theorem E_5 : TEntry Try.prog 5 ⟨1, 1, .int .u8, .int .u8 0⟩ := ⟨by kernel_rfl, by kernel_rfl⟩
theorem E_6 : TEntry Try.prog 6 ⟨1, 1, .int .u8, .int .u8 0⟩ := ⟨by kernel_rfl, by kernel_rfl⟩
theorem E_7 : TEntry Try.prog 7 ⟨4, 24, .struct [(0, 1, 2), (1, 1, 3), (2, 1, 4), (3, 1, 6)], .agg #[.int .i64 0, .int .i64 0, .bool false, .int .u8 0]⟩ := ⟨by kernel_rfl, by kernel_rfl⟩
theorem E_8 : TEntry Try.prog 8 ⟨4, 24, .struct [(0, 1, 2), (1, 1, 3), (2, 1, 4), (3, 1, 6)], .agg #[.int .i64 0, .int .i64 0, .bool false, .int .u8 0]⟩ := ⟨by kernel_rfl, by kernel_rfl⟩
theorem E_9 : TEntry Try.prog 9 ⟨1, 16, .str, .string ⟨#[]⟩⟩ := ⟨by kernel_rfl, by kernel_rfl⟩
theorem E_10 : TEntry Try.prog 10 ⟨1, 16, .str, .string ⟨#[]⟩⟩ := ⟨by kernel_rfl, by kernel_rfl⟩
theorem E_11 : TEntry Try.prog 11 ⟨1, 16, .str, .string ⟨#[]⟩⟩ := ⟨by kernel_rfl, by kernel_rfl⟩
theorem E_12 : TEntry Try.prog 12 ⟨1, 8, .int .u64, .int .u64 0⟩ := ⟨by kernel_rfl, by kernel_rfl⟩
theorem E_13 : TEntry Try.prog 13 ⟨2, 24, .struct [(0, 1, 9), (1, 1, 12)], .agg #[.string ⟨#[]⟩, .int .u64 0]⟩ := ⟨by kernel_rfl, by kernel_rfl⟩
theorem E_14 : TEntry Try.prog 14 ⟨2, 24, .struct [(0, 1, 9), (1, 1, 12)], .agg #[.string ⟨#[]⟩, .int .u64 0]⟩ := ⟨by kernel_rfl, by kernel_rfl⟩
theorem E_15 : TEntry Try.prog 15 ⟨1, 8, .ptr 112, .pointer none⟩ := ⟨by kernel_rfl, by kernel_rfl⟩
theorem E_16 : TEntry Try.prog 16 ⟨1, 8, .ptr 115, .pointer none⟩ := ⟨by kernel_rfl, by kernel_rfl⟩
theorem E_17 : TEntry Try.prog 17 ⟨1, 8, .ptr 125, .pointer none⟩ := ⟨by kernel_rfl, by kernel_rfl⟩
theorem E_18 : TEntry Try.prog 18 ⟨1, 8, .struct [(0, 1, 17)], .agg #[.pointer none]⟩ := ⟨by kernel_rfl, by kernel_rfl⟩
theorem E_19 : TEntry Try.prog 19 ⟨1, 8, .struct [(0, 1, 17)], .agg #[.pointer none]⟩ := ⟨by kernel_rfl, by kernel_rfl⟩
theorem E_20 : TEntry Try.prog 20 ⟨1, 16, .iface, .nilIface⟩ := ⟨by kernel_rfl, by kernel_rfl⟩
theorem E_21 : TEntry Try.prog 21 ⟨1, 4, .int .i32, .int .i32 0⟩ := ⟨by kernel_rfl, by kernel_rfl⟩
theorem E_22 : TEntry Try.prog 22 ⟨1, 24, .slice 5, .slice none 0 0⟩ := ⟨by kernel_rfl, by kernel_rfl⟩
theorem E_23 : TEntry Try.prog 23 ⟨1, 8, .func, .nilFunc⟩ := ⟨by kernel_rfl, by kernel_rfl⟩
theorem E_24 : TEntry Try.prog 24 ⟨1, 24, .slice 32, .slice none 0 0⟩ := ⟨by kernel_rfl, by kernel_rfl⟩
theorem E_26 : TEntry Try.prog 26 ⟨1, 8, .func, .nilFunc⟩ := ⟨by kernel_rfl, by kernel_rfl⟩
theorem E_27 : TEntry Try.prog 27 ⟨1, 24, .slice 9, .slice none 0 0⟩ := ⟨by kernel_rfl, by kernel_rfl⟩
theorem E_29 : TEntry Try.prog 29 ⟨1, 8, .func, .nilFunc⟩ := ⟨by kernel_rfl, by kernel_rfl⟩
theorem E_30 : TEntry Try.prog 30 ⟨1, 8, .func, .nilFunc⟩ := ⟨by kernel_rfl, by kernel_rfl⟩
theorem E_31 : TEntry Try.prog 31 ⟨7, 64, .struct [(0, 1, 9), (1, 1, 2), (2, 1, 2), (3, 1, 2), (4, 1, 2), (5, 1, 2), (6, 1, 2)], .agg #[.string ⟨#[]⟩, .int .i64 0, .int .i64 0, .int .i64 0, .int .i64 0, .int .i64 0, .int .i64 0]⟩ := ⟨by kernel_rfl, by kernel_rfl⟩
theorem E_32 : TEntry Try.prog 32 ⟨7, 64, .struct [(0, 1, 9), (1, 1, 2), (2, 1, 2), (3, 1, 2), (4, 1, 2), (5, 1, 2), (6, 1, 2)], .agg #[.string ⟨#[]⟩, .int .i64 0, .int .i64 0, .int .i64 0, .int .i64 0, .int .i64 0, .int .i64 0]⟩ := ⟨by kernel_rfl, by kernel_rfl⟩
theorem E_33 : TEntry Try.prog 33 ⟨1, 8, .func, .nilFunc⟩ := ⟨by kernel_rfl, by kernel_rfl⟩
theorem E_35 : TEntry Try.prog 35 ⟨1, 8, .func, .nilFunc⟩ := ⟨by kernel_rfl, by kernel_rfl⟩
theorem E_36 : TEntry Try.prog 36 ⟨1, 8, .func, .nilFunc⟩ := ⟨by kernel_rfl, by kernel_rfl⟩
theorem E_38 : TEntry Try.prog 38 ⟨1, 8, .func, .nilFunc⟩ := ⟨by kernel_rfl, by kernel_rfl⟩
theorem E_39 : TEntry Try.prog 39 ⟨1, 24, .slice 42, .slice none 0 0⟩ := ⟨by kernel_rfl, by kernel_rfl⟩
theorem E_41 : TEntry Try.prog 41 ⟨1, 8, .func, .nilFunc⟩ := ⟨by kernel_rfl, by kernel_rfl⟩
theorem E_42 : TEntry Try.prog 42 ⟨1, 24, .slice 2, .slice none 0 0⟩ := ⟨by kernel_rfl, by kernel_rfl⟩
theorem E_44 : TEntry Try.prog 44 ⟨1, 8, .func, .nilFunc⟩ := ⟨by kernel_rfl, by kernel_rfl⟩
theorem E_45 : TEntry Try.prog 45 ⟨1, 8, .func, .nilFunc⟩ := ⟨by kernel_rfl, by kernel_rfl⟩
theorem E_46 : TEntry Try.prog 46 ⟨1, 24, .slice 75, .slice none 0 0⟩ := ⟨by kernel_rfl, by kernel_rfl⟩
theorem E_47 : TEntry Try.prog 47 ⟨1, 8, .func, .nilFunc⟩ := ⟨by kernel_rfl, by kernel_rfl⟩
theorem E_48 : TEntry Try.prog 48 ⟨1, 8, .func, .nilFunc⟩ := ⟨by kernel_rfl, by kernel_rfl⟩
theorem E_49 : TEntry Try.prog 49 ⟨1, 8, .func, .nilFunc⟩ := ⟨by kernel_rfl, by kernel_rfl⟩
theorem E_50 : TEntry Try.prog 50 ⟨1, 8, .func, .nilFunc⟩ := ⟨by kernel_rfl, by kernel_rfl⟩
theorem E_51 : TEntry Try.prog 51 ⟨1, 8, .func, .nilFunc⟩ := ⟨by kernel_rfl, by kernel_rfl⟩
theorem E_52 : TEntry Try.prog 52 ⟨1, 8, .func, .nilFunc⟩ := ⟨by kernel_rfl, by kernel_rfl⟩
theorem E_53 : TEntry Try.prog 53 ⟨1, 8, .func, .nilFunc⟩ := ⟨by kernel_rfl, by kernel_rfl⟩
theorem E_54 : TEntry Try.prog 54 ⟨1, 8, .ptr 87, .pointer none⟩ := ⟨by kernel_rfl, by kernel_rfl⟩
theorem E_55 : TEntry Try.prog 55 ⟨1, 8, .func, .nilFunc⟩ := ⟨by kernel_rfl, by kernel_rfl⟩
theorem E_56 : TEntry Try.prog 56 ⟨1, 8, .func, .nilFunc⟩ := ⟨by kernel_rfl, by kernel_rfl⟩
theorem E_57 : TEntry Try.prog 57 ⟨1, 8, .func, .nilFunc⟩ := ⟨by kernel_rfl, by kernel_rfl⟩
theorem E_58 : TEntry Try.prog 58 ⟨1, 8, .func, .nilFunc⟩ := ⟨by kernel_rfl, by kernel_rfl⟩
theorem E_59 : TEntry Try.prog 59 ⟨1, 8, .func, .nilFunc⟩ := ⟨by kernel_rfl, by kernel_rfl⟩
theorem E_60 : TEntry Try.prog 60 ⟨1, 8, .func, .nilFunc⟩ := ⟨by kernel_rfl, by kernel_rfl⟩
theorem E_61 : TEntry Try.prog 61 ⟨1, 8, .func, .nilFunc⟩ := ⟨by kernel_rfl, by kernel_rfl⟩
theorem E_62 : TEntry Try.prog 62 ⟨1, 8, .func, .nilFunc⟩ := ⟨by kernel_rfl, by kernel_rfl⟩
theorem E_63 : TEntry Try.prog 63 ⟨1, 8, .func, .nilFunc⟩ := ⟨by kernel_rfl, by kernel_rfl⟩
theorem E_64 : TEntry Try.prog 64 ⟨1, 8, .func, .nilFunc⟩ := ⟨by kernel_rfl, by kernel_rfl⟩
theorem E_65 : TEntry Try.prog 65 ⟨1, 24, .slice 4, .slice none 0 0⟩ := ⟨by kernel_rfl, by kernel_rfl⟩
theorem E_66 : TEntry Try.prog 66 ⟨7, 120, .struct [(0, 1, 24), (1, 1, 2), (2, 1, 2), (3, 1, 65), (4, 1, 39), (5, 1, 39), (6, 1, 2)], .agg #[.slice none 0 0, .int .i64 0, .int .i64 0, .slice none 0 0, .slice none 0 0, .slice none 0 0, .int .i64 0]⟩ := ⟨by kernel_rfl, by kernel_rfl⟩
theorem E_67 : TEntry Try.prog 67 ⟨7, 120, .struct [(0, 1, 24), (1, 1, 2), (2, 1, 2), (3, 1, 65), (4, 1, 39), (5, 1, 39), (6, 1, 2)], .agg #[.slice none 0 0, .int .i64 0, .int .i64 0, .slice none 0 0, .slice none 0 0, .slice none 0 0, .int .i64 0]⟩ := ⟨by kernel_rfl, by kernel_rfl⟩
theorem E_68 : TEntry Try.prog 68 ⟨1, 8, .func, .nilFunc⟩ := ⟨by kernel_rfl, by kernel_rfl⟩
theorem E_69 : TEntry Try.prog 69 ⟨1, 8, .func, .nilFunc⟩ := ⟨by kernel_rfl, by kernel_rfl⟩
theorem E_70 : TEntry Try.prog 70 ⟨1, 8, .ptr 32, .pointer none⟩ := ⟨by kernel_rfl, by kernel_rfl⟩
theorem E_71 : TEntry Try.prog 71 ⟨1, 8, .func, .nilFunc⟩ := ⟨by kernel_rfl, by kernel_rfl⟩
theorem E_72 : TEntry Try.prog 72 ⟨1, 8, .func, .nilFunc⟩ := ⟨by kernel_rfl, by kernel_rfl⟩
theorem E_73 : TEntry Try.prog 73 ⟨1, 8, .func, .nilFunc⟩ := ⟨by kernel_rfl, by kernel_rfl⟩
theorem E_74 : TEntry Try.prog 74 ⟨1, 8, .func, .nilFunc⟩ := ⟨by kernel_rfl, by kernel_rfl⟩
theorem E_75 : TEntry Try.prog 75 ⟨7, 64, .struct [(0, 1, 9), (1, 1, 2), (2, 1, 2), (3, 1, 2), (4, 1, 2), (5, 1, 2), (6, 1, 2)], .agg #[.string ⟨#[]⟩, .int .i64 0, .int .i64 0, .int .i64 0, .int .i64 0, .int .i64 0, .int .i64 0]⟩ := ⟨by kernel_rfl, by kernel_rfl⟩
theorem E_76 : TEntry Try.prog 76 ⟨1, 8, .ptr 78, .pointer none⟩ := ⟨by kernel_rfl, by kernel_rfl⟩
theorem E_77 : TEntry Try.prog 77 ⟨9, 136, .struct [(0, 1, 24), (1, 1, 2), (2, 1, 65), (3, 1, 39), (4, 1, 39), (5, 1, 2), (6, 1, 2), (7, 1, 2), (8, 1, 4)], .agg #[.slice none 0 0, .int .i64 0, .slice none 0 0, .slice none 0 0, .slice none 0 0, .int .i64 0, .int .i64 0, .int .i64 0, .bool false]⟩ := ⟨by kernel_rfl, by kernel_rfl⟩
theorem E_78 : TEntry Try.prog 78 ⟨9, 136, .struct [(0, 1, 24), (1, 1, 2), (2, 1, 65), (3, 1, 39), (4, 1, 39), (5, 1, 2), (6, 1, 2), (7, 1, 2), (8, 1, 4)], .agg #[.slice none 0 0, .int .i64 0, .slice none 0 0, .slice none 0 0, .slice none 0 0, .int .i64 0, .int .i64 0, .int .i64 0, .bool false]⟩ := ⟨by kernel_rfl, by kernel_rfl⟩
theorem E_79 : TEntry Try.prog 79 ⟨1, 8, .func, .nilFunc⟩ := ⟨by kernel_rfl, by kernel_rfl⟩
theorem E_80 : TEntry Try.prog 80 ⟨1, 8, .func, .nilFunc⟩ := ⟨by kernel_rfl, by kernel_rfl⟩
theorem E_81 : TEntry Try.prog 81 ⟨1, 8, .func, .nilFunc⟩ := ⟨by kernel_rfl, by kernel_rfl⟩
theorem E_82 : TEntry Try.prog 82 ⟨1, 8, .func, .nilFunc⟩ := ⟨by kernel_rfl, by kernel_rfl⟩
theorem E_83 : TEntry Try.prog 83 ⟨1, 8, .func, .nilFunc⟩ := ⟨by kernel_rfl, by kernel_rfl⟩
theorem E_84 : TEntry Try.prog 84 ⟨1, 8, .func, .nilFunc⟩ := ⟨by kernel_rfl, by kernel_rfl⟩
theorem E_85 : TEntry Try.prog 85 ⟨1, 8, .int .u64, .int .u64 0⟩ := ⟨by kernel_rfl, by kernel_rfl⟩
theorem E_86 : TEntry Try.prog 86 ⟨3, 40, .struct [(0, 1, 22), (1, 1, 3), (2, 1, 85)], .agg #[.slice none 0 0, .int .i64 0, .int .u64 0]⟩ := ⟨by kernel_rfl, by kernel_rfl⟩
theorem E_87 : TEntry Try.prog 87 ⟨3, 40, .struct [(0, 1, 22), (1, 1, 3), (2, 1, 85)], .agg #[.slice none 0 0, .int .i64 0, .int .u64 0]⟩ := ⟨by kernel_rfl, by kernel_rfl⟩
theorem E_88 : TEntry Try.prog 88 ⟨1, 8, .func, .nilFunc⟩ := ⟨by kernel_rfl, by kernel_rfl⟩
theorem E_89 : TEntry Try.prog 89 ⟨1, 8, .func, .nilFunc⟩ := ⟨by kernel_rfl, by kernel_rfl⟩
theorem E_90 : TEntry Try.prog 90 ⟨1, 8, .func, .nilFunc⟩ := ⟨by kernel_rfl, by kernel_rfl⟩
theorem E_91 : TEntry Try.prog 91 ⟨1, 8, .func, .nilFunc⟩ := ⟨by kernel_rfl, by kernel_rfl⟩
theorem E_92 : TEntry Try.prog 92 ⟨1, 8, .func, .nilFunc⟩ := ⟨by kernel_rfl, by kernel_rfl⟩
theorem E_93 : TEntry Try.prog 93 ⟨1, 8, .ptr 2, .pointer none⟩ := ⟨by kernel_rfl, by kernel_rfl⟩
theorem E_94 : TEntry Try.prog 94 ⟨3, 24, .arr 3 93, .agg #[.pointer none, .pointer none, .pointer none]⟩ := ⟨by kernel_rfl, by kernel_rfl⟩
theorem E_95 : TEntry Try.prog 95 ⟨1, 8, .func, .nilFunc⟩ := ⟨by kernel_rfl, by kernel_rfl⟩
theorem E_96 : TEntry Try.prog 96 ⟨3, 48, .arr 3 9, .agg #[.string ⟨#[]⟩, .string ⟨#[]⟩, .string ⟨#[]⟩]⟩ := ⟨by kernel_rfl, by kernel_rfl⟩
theorem E_97 : TEntry Try.prog 97 ⟨1, 8, .ptr 67, .pointer none⟩ := ⟨by kernel_rfl, by kernel_rfl⟩
theorem E_98 : TEntry Try.prog 98 ⟨1, 8, .func, .nilFunc⟩ := ⟨by kernel_rfl, by kernel_rfl⟩
theorem E_99 : TEntry Try.prog 99 ⟨1, 8, .func, .nilFunc⟩ := ⟨by kernel_rfl, by kernel_rfl⟩
theorem E_100 : TEntry Try.prog 100 ⟨1, 8, .func, .nilFunc⟩ := ⟨by kernel_rfl, by kernel_rfl⟩
theorem E_101 : TEntry Try.prog 101 ⟨1, 8, .func, .nilFunc⟩ := ⟨by kernel_rfl, by kernel_rfl⟩
theorem E_102 : TEntry Try.prog 102 ⟨1, 8, .func, .nilFunc⟩ := ⟨by kernel_rfl, by kernel_rfl⟩
theorem E_103 : TEntry Try.prog 103 ⟨1, 8, .func, .nilFunc⟩ := ⟨by kernel_rfl, by kernel_rfl⟩
theorem E_104 : TEntry Try.prog 104 ⟨1, 8, .func, .nilFunc⟩ := ⟨by kernel_rfl, by kernel_rfl⟩
theorem E_105 : TEntry Try.prog 105 ⟨1, 8, .func, .nilFunc⟩ := ⟨by kernel_rfl, by kernel_rfl⟩
theorem E_106 : TEntry Try.prog 106 ⟨1, 8, .func, .nilFunc⟩ := ⟨by kernel_rfl, by kernel_rfl⟩
theorem E_107 : TEntry Try.prog 107 ⟨1, 8, .func, .nilFunc⟩ := ⟨by kernel_rfl, by kernel_rfl⟩
theorem E_108 : TEntry Try.prog 108 ⟨1, 8, .int .u64, .int .u64 0⟩ := ⟨by kernel_rfl, by kernel_rfl⟩
theorem E_109 : TEntry Try.prog 109 ⟨1, 8, .func, .nilFunc⟩ := ⟨by kernel_rfl, by kernel_rfl⟩
theorem E_110 : TEntry Try.prog 110 ⟨1, 8, .func, .nilFunc⟩ := ⟨by kernel_rfl, by kernel_rfl⟩
theorem E_111 : TEntry Try.prog 111 ⟨4, 40, .struct [(0, 1, 17), (1, 1, 17), (2, 1, 17), (3, 1, 9)], .agg #[.pointer none, .pointer none, .pointer none, .string ⟨#[]⟩]⟩ := ⟨by kernel_rfl, by kernel_rfl⟩
theorem E_112 : TEntry Try.prog 112 ⟨4, 40, .struct [(0, 1, 17), (1, 1, 17), (2, 1, 17), (3, 1, 9)], .agg #[.pointer none, .pointer none, .pointer none, .string ⟨#[]⟩]⟩ := ⟨by kernel_rfl, by kernel_rfl⟩
theorem E_116 : TEntry Try.prog 116 ⟨1, 8, .func, .nilFunc⟩ := ⟨by kernel_rfl, by kernel_rfl⟩
theorem E_117 : TEntry Try.prog 117 ⟨1, 4, .int .u32, .int .u32 0⟩ := ⟨by kernel_rfl, by kernel_rfl⟩
theorem E_118 : TEntry Try.prog 118 ⟨1, 1, .int .u8, .int .u8 0⟩ := ⟨by kernel_rfl, by kernel_rfl⟩
theorem E_119 : TEntry Try.prog 119 ⟨1, 1, .int .u8, .int .u8 0⟩ := ⟨by kernel_rfl, by kernel_rfl⟩
theorem E_120 : TEntry Try.prog 120 ⟨1, 8, .func, .nilFunc⟩ := ⟨by kernel_rfl, by kernel_rfl⟩
theorem E_121 : TEntry Try.prog 121 ⟨1, 8, .ptr 5, .pointer none⟩ := ⟨by kernel_rfl, by kernel_rfl⟩
theorem E_122 : TEntry Try.prog 122 ⟨1, 4, .int .i32, .int .i32 0⟩ := ⟨by kernel_rfl, by kernel_rfl⟩
theorem E_123 : TEntry Try.prog 123 ⟨1, 4, .int .i32, .int .i32 0⟩ := ⟨by kernel_rfl, by kernel_rfl⟩
theorem E_124 : TEntry Try.prog 124 ⟨11, 48, .struct [(0, 1, 12), (1, 1, 12), (2, 1, 117), (3, 1, 118), (4, 1, 5), (5, 1, 5), (6, 1, 119), (7, 1, 120), (8, 1, 121), (9, 1, 122), (10, 1, 123)], .agg #[.int .u64 0, .int .u64 0, .int .u32 0, .int .u8 0, .int .u8 0, .int .u8 0, .int .u8 0, .nilFunc, .pointer none, .int .i32 0, .int .i32 0]⟩ := ⟨by kernel_rfl, by kernel_rfl⟩
theorem E_125 : TEntry Try.prog 125 ⟨11, 48, .struct [(0, 1, 12), (1, 1, 12), (2, 1, 117), (3, 1, 118), (4, 1, 5), (5, 1, 5), (6, 1, 119), (7, 1, 120), (8, 1, 121), (9, 1, 122), (10, 1, 123)], .agg #[.int .u64 0, .int .u64 0, .int .u32 0, .int .u8 0, .int .u8 0, .int .u8 0, .int .u8 0, .nilFunc, .pointer none, .int .i32 0, .int .i32 0]⟩ := ⟨by kernel_rfl, by kernel_rfl⟩
theorem tabOk : TabOk Try.prog T := by
  intro t ti h
  unfold T at h
  split at h
  · cases h; exact E_1
  · cases h; exact E_2
  · cases h; exact E_3
  · cases h; exact E_4
  · cases h; exact E_5
  · cases h; exact E_6
  · cases h; exact E_7
  · cases h; exact E_8
  · cases h; exact E_9
  · cases h; exact E_10
  · cases h; exact E_11
  · cases h; exact E_12
  · cases h; exact E_13
  · cases h; exact E_14
  · cases h; exact E_15
  · cases h; exact E_16
  · cases h; exact E_17
  · cases h; exact E_18
  · cases h; exact E_19
  · cases h; exact E_20
  · cases h; exact E_21
  · cases h; exact E_22
  · cases h; exact E_23
  · cases h; exact E_24
  · cases h; exact E_26
  · cases h; exact E_27
  · cases h; exact E_29
  · cases h; exact E_30
  · cases h; exact E_31
  · cases h; exact E_32
  · cases h; exact E_33
  · cases h; exact E_35
  · cases h; exact E_36
  · cases h; exact E_38
  · cases h; exact E_39
  · cases h; exact E_41
  · cases h; exact E_42
  · cases h; exact E_44
  · cases h; exact E_45
  · cases h; exact E_46
  · cases h; exact E_47
  · cases h; exact E_48
  · cases h; exact E_49
  · cases h; exact E_50
  · cases h; exact E_51
  · cases h; exact E_52
  · cases h; exact E_53
  · cases h; exact E_54
  · cases h; exact E_55
  · cases h; exact E_56
  · cases h; exact E_57
  · cases h; exact E_58
  · cases h; exact E_59
  · cases h; exact E_60
  · cases h; exact E_61
  · cases h; exact E_62
  · cases h; exact E_63
  · cases h; exact E_64
  · cases h; exact E_65
  · cases h; exact E_66
  · cases h; exact E_67
  · cases h; exact E_68
  · cases h; exact E_69
  · cases h; exact E_70
  · cases h; exact E_71
  · cases h; exact E_72
  · cases h; exact E_73
  · cases h; exact E_74
  · cases h; exact E_75
  · cases h; exact E_76
  · cases h; exact E_77
  · cases h; exact E_78
  · cases h; exact E_79
  · cases h; exact E_80
  · cases h; exact E_81
  · cases h; exact E_82
  · cases h; exact E_83
  · cases h; exact E_84
  · cases h; exact E_85
  · cases h; exact E_86
  · cases h; exact E_87
  · cases h; exact E_88
  · cases h; exact E_89
  · cases h; exact E_90
  · cases h; exact E_91
  · cases h; exact E_92
  · cases h; exact E_93
  · cases h; exact E_94
  · cases h; exact E_95
  · cases h; exact E_96
  · cases h; exact E_97
  · cases h; exact E_98
  · cases h; exact E_99
  · cases h; exact E_100
  · cases h; exact E_101
  · cases h; exact E_102
  · cases h; exact E_103
  · cases h; exact E_104
  · cases h; exact E_105
  · cases h; exact E_106
  · cases h; exact E_107
  · cases h; exact E_108
  · cases h; exact E_109
  · cases h; exact E_110
  · cases h; exact E_111
  · cases h; exact E_112
  · cases h; exact E_116
  · cases h; exact E_117
  · cases h; exact E_118
  · cases h; exact E_119
  · cases h; exact E_120
  · cases h; exact E_121
  · cases h; exact E_122
  · cases h; exact E_123
  · cases h; exact E_124
  · cases h; exact E_125
  · cases h
end Go.Proofs.Ytamielbdedbnaaa
