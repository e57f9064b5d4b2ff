/- The table of the program's types, written by a program, with its proofs. Conditions: none. -/
import Derived.Test.YtebilmfljoiaeaaDoorAb
import Derived.Test.YtebilmfljoiaeaaDoorRows
namespace Go.Proofs.YtebilmfljoiaeaaDoor
def tb : TypeId → Option TI
  | 1 => some ⟨.func, 1, 8, [.nilFunc]⟩
  | 2 => some ⟨.int .i64, 1, 8, [.int .i64 0]⟩
  | 3 => some ⟨.int .i64, 1, 8, [.int .i64 0]⟩
  | 4 => some ⟨.bool, 1, 1, [.bool false]⟩
  | 5 => some ⟨.int .u8, 1, 1, [.int .u8 0]⟩
  | 6 => some ⟨.int .u8, 1, 1, [.int .u8 0]⟩
  | 7 => some ⟨.struct [(0, 2), (1, 3), (2, 4), (3, 6)], 4, 24, [.int .i64 0, .int .i64 0, .bool false, .int .u8 0]⟩
  | 8 => some ⟨.struct [(0, 2), (1, 3), (2, 4), (3, 6)], 4, 24, [.int .i64 0, .int .i64 0, .bool false, .int .u8 0]⟩
  | 9 => some ⟨.string, 1, 16, [.string ByteArray.empty]⟩
  | 10 => some ⟨.string, 1, 16, [.string ByteArray.empty]⟩
  | 11 => some ⟨.string, 1, 16, [.string ByteArray.empty]⟩
  | 12 => some ⟨.int .u64, 1, 8, [.int .u64 0]⟩
  | 13 => some ⟨.struct [(0, 9), (1, 12)], 2, 24, [.string ByteArray.empty, .int .u64 0]⟩
  | 14 => some ⟨.struct [(0, 9), (1, 12)], 2, 24, [.string ByteArray.empty, .int .u64 0]⟩
  | 15 => some ⟨.ptr 151, 1, 8, [.pointer none]⟩
  | 16 => some ⟨.ptr 154, 1, 8, [.pointer none]⟩
  | 17 => some ⟨.ptr 162, 1, 8, [.pointer none]⟩
  | 18 => some ⟨.struct [(0, 17)], 1, 8, [.pointer none]⟩
  | 19 => some ⟨.struct [(0, 17)], 1, 8, [.pointer none]⟩
  | 21 => some ⟨.int .i32, 1, 4, [.int .i32 0]⟩
  | 22 => some ⟨.ptr 46, 1, 8, [.pointer none]⟩
  | 23 => some ⟨.int .i64, 1, 8, [.int .i64 0]⟩
  | 25 => some ⟨.func, 1, 8, [.nilFunc]⟩
  | 26 => some ⟨.ptr 50, 1, 8, [.pointer none]⟩
  | 28 => some ⟨.func, 1, 8, [.nilFunc]⟩
  | 29 => some ⟨.array 3 3, 3, 24, [.int .i64 0, .int .i64 0, .int .i64 0]⟩
  | 30 => some ⟨.func, 1, 8, [.nilFunc]⟩
  | 31 => some ⟨.slice 5, 1, 24, [.slice none 0 0]⟩
  | 33 => some ⟨.func, 1, 8, [.nilFunc]⟩
  | 34 => some ⟨.func, 1, 8, [.nilFunc]⟩
  | 35 => some ⟨.func, 1, 8, [.nilFunc]⟩
  | 36 => some ⟨.func, 1, 8, [.nilFunc]⟩
  | 37 => some ⟨.func, 1, 8, [.nilFunc]⟩
  | 38 => some ⟨.slice 31, 1, 24, [.slice none 0 0]⟩
  | 40 => some ⟨.func, 1, 8, [.nilFunc]⟩
  | 42 => some ⟨.func, 1, 8, [.nilFunc]⟩
  | 43 => some ⟨.func, 1, 8, [.nilFunc]⟩
  | 44 => some ⟨.func, 1, 8, [.nilFunc]⟩
  | 45 => some ⟨.struct [(0, 31), (1, 3), (2, 3), (3, 3), (4, 4), (5, 3)], 6, 64, [.slice none 0 0, .int .i64 0, .int .i64 0, .int .i64 0, .bool false, .int .i64 0]⟩
  | 46 => some ⟨.struct [(0, 31), (1, 3), (2, 3), (3, 3), (4, 4), (5, 3)], 6, 64, [.slice none 0 0, .int .i64 0, .int .i64 0, .int .i64 0, .bool false, .int .i64 0]⟩
  | 47 => some ⟨.ptr 76, 1, 8, [.pointer none]⟩
  | 48 => some ⟨.array 2 47, 2, 16, [.pointer none, .pointer none]⟩
  | 49 => some ⟨.struct [(0, 22), (1, 48)], 3, 24, [.pointer none, .pointer none, .pointer none]⟩
  | 50 => some ⟨.struct [(0, 22), (1, 48)], 3, 24, [.pointer none, .pointer none, .pointer none]⟩
  | 52 => some ⟨.func, 1, 8, [.nilFunc]⟩
  | 53 => some ⟨.int .u32, 1, 4, [.int .u32 0]⟩
  | 55 => some ⟨.func, 1, 8, [.nilFunc]⟩
  | 56 => some ⟨.func, 1, 8, [.nilFunc]⟩
  | 57 => some ⟨.func, 1, 8, [.nilFunc]⟩
  | 58 => some ⟨.slice 68, 1, 24, [.slice none 0 0]⟩
  | 59 => some ⟨.struct [(0, 47), (1, 58), (2, 58), (3, 3), (4, 4)], 5, 72, [.pointer none, .slice none 0 0, .slice none 0 0, .int .i64 0, .bool false]⟩
  | 60 => some ⟨.struct [(0, 47), (1, 58), (2, 58), (3, 3), (4, 4)], 5, 72, [.pointer none, .slice none 0 0, .slice none 0 0, .int .i64 0, .bool false]⟩
  | 62 => some ⟨.func, 1, 8, [.nilFunc]⟩
  | 63 => some ⟨.func, 1, 8, [.nilFunc]⟩
  | 64 => some ⟨.func, 1, 8, [.nilFunc]⟩
  | 65 => some ⟨.func, 1, 8, [.nilFunc]⟩
  | 66 => some ⟨.func, 1, 8, [.nilFunc]⟩
  | 67 => some ⟨.struct [(0, 31), (1, 31), (2, 4)], 3, 56, [.slice none 0 0, .slice none 0 0, .bool false]⟩
  | 68 => some ⟨.struct [(0, 31), (1, 31), (2, 4)], 3, 56, [.slice none 0 0, .slice none 0 0, .bool false]⟩
  | 69 => some ⟨.func, 1, 8, [.nilFunc]⟩
  | 70 => some ⟨.func, 1, 8, [.nilFunc]⟩
  | 71 => some ⟨.int .u64, 1, 8, [.int .u64 0]⟩
  | 73 => some ⟨.func, 1, 8, [.nilFunc]⟩
  | 74 => some ⟨.func, 1, 8, [.nilFunc]⟩
  | 75 => some ⟨.struct [(0, 22), (1, 3), (2, 3)], 3, 24, [.pointer none, .int .i64 0, .int .i64 0]⟩
  | 76 => some ⟨.struct [(0, 22), (1, 3), (2, 3)], 3, 24, [.pointer none, .int .i64 0, .int .i64 0]⟩
  | 77 => some ⟨.array 2 53, 2, 8, [.int .u32 0, .int .u32 0]⟩
  | 78 => some ⟨.array 2 4, 2, 2, [.bool false, .bool false]⟩
  | 80 => some ⟨.func, 1, 8, [.nilFunc]⟩
  | 81 => some ⟨.func, 1, 8, [.nilFunc]⟩
  | 83 => some ⟨.func, 1, 8, [.nilFunc]⟩
  | 84 => some ⟨.func, 1, 8, [.nilFunc]⟩
  | 85 => some ⟨.func, 1, 8, [.nilFunc]⟩
  | 86 => some ⟨.func, 1, 8, [.nilFunc]⟩
  | 87 => some ⟨.slice 3, 1, 24, [.slice none 0 0]⟩
  | 89 => some ⟨.func, 1, 8, [.nilFunc]⟩
  | 90 => some ⟨.func, 1, 8, [.nilFunc]⟩
  | 91 => some ⟨.func, 1, 8, [.nilFunc]⟩
  | 92 => some ⟨.func, 1, 8, [.nilFunc]⟩
  | 93 => some ⟨.func, 1, 8, [.nilFunc]⟩
  | 95 => some ⟨.func, 1, 8, [.nilFunc]⟩
  | 96 => some ⟨.int .u64, 1, 8, [.int .u64 0]⟩
  | 98 => some ⟨.func, 1, 8, [.nilFunc]⟩
  | 100 => some ⟨.func, 1, 8, [.nilFunc]⟩
  | 101 => some ⟨.func, 1, 8, [.nilFunc]⟩
  | 102 => some ⟨.func, 1, 8, [.nilFunc]⟩
  | 103 => some ⟨.func, 1, 8, [.nilFunc]⟩
  | 104 => some ⟨.func, 1, 8, [.nilFunc]⟩
  | 105 => some ⟨.func, 1, 8, [.nilFunc]⟩
  | 106 => some ⟨.func, 1, 8, [.nilFunc]⟩
  | 107 => some ⟨.func, 1, 8, [.nilFunc]⟩
  | 108 => some ⟨.func, 1, 8, [.nilFunc]⟩
  | 109 => some ⟨.func, 1, 8, [.nilFunc]⟩
  | 110 => some ⟨.func, 1, 8, [.nilFunc]⟩
  | 111 => some ⟨.func, 1, 8, [.nilFunc]⟩
  | 112 => some ⟨.int .i64, 1, 8, [.int .i64 0]⟩
  | 114 => some ⟨.func, 1, 8, [.nilFunc]⟩
  | 115 => some ⟨.func, 1, 8, [.nilFunc]⟩
  | 116 => some ⟨.func, 1, 8, [.nilFunc]⟩
  | 118 => some ⟨.func, 1, 8, [.nilFunc]⟩
  | 119 => some ⟨.func, 1, 8, [.nilFunc]⟩
  | 120 => some ⟨.func, 1, 8, [.nilFunc]⟩
  | 121 => some ⟨.func, 1, 8, [.nilFunc]⟩
  | 123 => some ⟨.func, 1, 8, [.nilFunc]⟩
  | 124 => some ⟨.func, 1, 8, [.nilFunc]⟩
  | 125 => some ⟨.func, 1, 8, [.nilFunc]⟩
  | 126 => some ⟨.func, 1, 8, [.nilFunc]⟩
  | 128 => some ⟨.func, 1, 8, [.nilFunc]⟩
  | 129 => some ⟨.func, 1, 8, [.nilFunc]⟩
  | 130 => some ⟨.func, 1, 8, [.nilFunc]⟩
  | 131 => some ⟨.func, 1, 8, [.nilFunc]⟩
  | 132 => some ⟨.array 16 53, 16, 64, [.int .u32 0, .int .u32 0, .int .u32 0, .int .u32 0, .int .u32 0, .int .u32 0, .int .u32 0, .int .u32 0, .int .u32 0, .int .u32 0, .int .u32 0, .int .u32 0, .int .u32 0, .int .u32 0, .int .u32 0, .int .u32 0]⟩
  | 133 => some ⟨.int .u64, 1, 8, [.int .u64 0]⟩
  | 134 => some ⟨.func, 1, 8, [.nilFunc]⟩
  | 135 => some ⟨.func, 1, 8, [.nilFunc]⟩
  | 136 => some ⟨.func, 1, 8, [.nilFunc]⟩
  | 137 => some ⟨.ptr 3, 1, 8, [.pointer none]⟩
  | 138 => some ⟨.func, 1, 8, [.nilFunc]⟩
  | 139 => some ⟨.func, 1, 8, [.nilFunc]⟩
  | 140 => some ⟨.func, 1, 8, [.nilFunc]⟩
  | 141 => some ⟨.func, 1, 8, [.nilFunc]⟩
  | 142 => some ⟨.ptr 133, 1, 8, [.pointer none]⟩
  | 144 => some ⟨.func, 1, 8, [.nilFunc]⟩
  | 145 => some ⟨.func, 1, 8, [.nilFunc]⟩
  | 146 => some ⟨.array 4 3, 4, 32, [.int .i64 0, .int .i64 0, .int .i64 0, .int .i64 0]⟩
  | 147 => some ⟨.func, 1, 8, [.nilFunc]⟩
  | 148 => some ⟨.func, 1, 8, [.nilFunc]⟩
  | 149 => some ⟨.func, 1, 8, [.nilFunc]⟩
  | 150 => some ⟨.struct [(0, 17), (1, 17), (2, 17), (3, 9)], 4, 40, [.pointer none, .pointer none, .pointer none, .string ByteArray.empty]⟩
  | 151 => some ⟨.struct [(0, 17), (1, 17), (2, 17), (3, 9)], 4, 40, [.pointer none, .pointer none, .pointer none, .string ByteArray.empty]⟩
  | 152 => some ⟨.array 0 16, 0, 0, []⟩
  | 153 => some ⟨.struct [(0, 152)], 0, 0, []⟩
  | 154 => some ⟨.struct [(0, 152)], 0, 0, []⟩
  | 155 => some ⟨.int .u8, 1, 1, [.int .u8 0]⟩
  | 156 => some ⟨.int .u8, 1, 1, [.int .u8 0]⟩
  | 157 => some ⟨.func, 1, 8, [.nilFunc]⟩
  | 158 => some ⟨.ptr 5, 1, 8, [.pointer none]⟩
  | 159 => some ⟨.int .i32, 1, 4, [.int .i32 0]⟩
  | 160 => some ⟨.int .i32, 1, 4, [.int .i32 0]⟩
  | 161 => some ⟨.struct [(0, 12), (1, 12), (2, 53), (3, 155), (4, 5), (5, 5), (6, 156), (7, 157), (8, 158), (9, 159), (10, 160)], 11, 48, [.int .u64 0, .int .u64 0, .int .u32 0, .int .u8 0, .int .u8 0, .int .u8 0, .int .u8 0, .nilFunc, .pointer none, .int .i32 0, .int .i32 0]⟩
  | 162 => some ⟨.struct [(0, 12), (1, 12), (2, 53), (3, 155), (4, 5), (5, 5), (6, 156), (7, 157), (8, 158), (9, 159), (10, 160)], 11, 48, [.int .u64 0, .int .u64 0, .int .u32 0, .int .u8 0, .int .u8 0, .int .u8 0, .int .u8 0, .nilFunc, .pointer none, .int .i32 0, .int .i32 0]⟩
  | _ => none
theorem ti1 : TIok Tryd.prog 1 ⟨.func, 1, 8, [.nilFunc]⟩ := ⟨⟨_, _, _, Tryd.underlying1⟩, ⟨(.nilFunc), by kernel_rfl, rfl⟩, rfl⟩
theorem ti2 : TIok Tryd.prog 2 ⟨.int .i64, 1, 8, [.int .i64 0]⟩ := ⟨Tryd.underlying2, ⟨(.int .i64 0), by kernel_rfl, rfl⟩, rfl⟩
theorem ti3 : TIok Tryd.prog 3 ⟨.int .i64, 1, 8, [.int .i64 0]⟩ := ⟨Tryd.underlying3, ⟨(.int .i64 0), by kernel_rfl, rfl⟩, rfl⟩
theorem ti4 : TIok Tryd.prog 4 ⟨.bool, 1, 1, [.bool false]⟩ := ⟨Tryd.underlying4, ⟨(.bool false), by kernel_rfl, rfl⟩, rfl⟩
theorem ti5 : TIok Tryd.prog 5 ⟨.int .u8, 1, 1, [.int .u8 0]⟩ := ⟨Tryd.underlying5, ⟨(.int .u8 0), by kernel_rfl, rfl⟩, rfl⟩
theorem ti6 : TIok Tryd.prog 6 ⟨.int .u8, 1, 1, [.int .u8 0]⟩ := ⟨Tryd.underlying6, ⟨(.int .u8 0), by kernel_rfl, rfl⟩, rfl⟩
theorem ti7 : TIok Tryd.prog 7 ⟨.struct [(0, 2), (1, 3), (2, 4), (3, 6)], 4, 24, [.int .i64 0, .int .i64 0, .bool false, .int .u8 0]⟩ := ⟨⟨_, Tryd.underlying7, rfl⟩, ⟨(.agg #[.int .i64 0, .int .i64 0, .bool false, .int .u8 0]), by kernel_rfl, rfl⟩, rfl⟩
theorem ti8 : TIok Tryd.prog 8 ⟨.struct [(0, 2), (1, 3), (2, 4), (3, 6)], 4, 24, [.int .i64 0, .int .i64 0, .bool false, .int .u8 0]⟩ := ⟨⟨_, Tryd.underlying8, rfl⟩, ⟨(.agg #[.int .i64 0, .int .i64 0, .bool false, .int .u8 0]), by kernel_rfl, rfl⟩, rfl⟩
theorem ti9 : TIok Tryd.prog 9 ⟨.string, 1, 16, [.string ByteArray.empty]⟩ := ⟨Tryd.underlying9, ⟨(.string ByteArray.empty), by kernel_rfl, rfl⟩, rfl⟩
theorem ti10 : TIok Tryd.prog 10 ⟨.string, 1, 16, [.string ByteArray.empty]⟩ := ⟨Tryd.underlying10, ⟨(.string ByteArray.empty), by kernel_rfl, rfl⟩, rfl⟩
theorem ti11 : TIok Tryd.prog 11 ⟨.string, 1, 16, [.string ByteArray.empty]⟩ := ⟨Tryd.underlying11, ⟨(.string ByteArray.empty), by kernel_rfl, rfl⟩, rfl⟩
theorem ti12 : TIok Tryd.prog 12 ⟨.int .u64, 1, 8, [.int .u64 0]⟩ := ⟨Tryd.underlying12, ⟨(.int .u64 0), by kernel_rfl, rfl⟩, rfl⟩
theorem ti13 : TIok Tryd.prog 13 ⟨.struct [(0, 9), (1, 12)], 2, 24, [.string ByteArray.empty, .int .u64 0]⟩ := ⟨⟨_, Tryd.underlying13, rfl⟩, ⟨(.agg #[.string ByteArray.empty, .int .u64 0]), by kernel_rfl, rfl⟩, rfl⟩
theorem ti14 : TIok Tryd.prog 14 ⟨.struct [(0, 9), (1, 12)], 2, 24, [.string ByteArray.empty, .int .u64 0]⟩ := ⟨⟨_, Tryd.underlying14, rfl⟩, ⟨(.agg #[.string ByteArray.empty, .int .u64 0]), by kernel_rfl, rfl⟩, rfl⟩
theorem ti15 : TIok Tryd.prog 15 ⟨.ptr 151, 1, 8, [.pointer none]⟩ := ⟨Tryd.underlying15, ⟨(.pointer none), by kernel_rfl, rfl⟩, rfl⟩
theorem ti16 : TIok Tryd.prog 16 ⟨.ptr 154, 1, 8, [.pointer none]⟩ := ⟨Tryd.underlying16, ⟨(.pointer none), by kernel_rfl, rfl⟩, rfl⟩
theorem ti17 : TIok Tryd.prog 17 ⟨.ptr 162, 1, 8, [.pointer none]⟩ := ⟨Tryd.underlying17, ⟨(.pointer none), by kernel_rfl, rfl⟩, rfl⟩
theorem ti18 : TIok Tryd.prog 18 ⟨.struct [(0, 17)], 1, 8, [.pointer none]⟩ := ⟨⟨_, Tryd.underlying18, rfl⟩, ⟨(.agg #[.pointer none]), by kernel_rfl, rfl⟩, rfl⟩
theorem ti19 : TIok Tryd.prog 19 ⟨.struct [(0, 17)], 1, 8, [.pointer none]⟩ := ⟨⟨_, Tryd.underlying19, rfl⟩, ⟨(.agg #[.pointer none]), by kernel_rfl, rfl⟩, rfl⟩
theorem ti21 : TIok Tryd.prog 21 ⟨.int .i32, 1, 4, [.int .i32 0]⟩ := ⟨Tryd.underlying21, ⟨(.int .i32 0), by kernel_rfl, rfl⟩, rfl⟩
theorem ti22 : TIok Tryd.prog 22 ⟨.ptr 46, 1, 8, [.pointer none]⟩ := ⟨Tryd.underlying22, ⟨(.pointer none), by kernel_rfl, rfl⟩, rfl⟩
theorem ti23 : TIok Tryd.prog 23 ⟨.int .i64, 1, 8, [.int .i64 0]⟩ := ⟨Tryd.underlying23, ⟨(.int .i64 0), by kernel_rfl, rfl⟩, rfl⟩
theorem ti25 : TIok Tryd.prog 25 ⟨.func, 1, 8, [.nilFunc]⟩ := ⟨⟨_, _, _, Tryd.underlying25⟩, ⟨(.nilFunc), by kernel_rfl, rfl⟩, rfl⟩
theorem ti26 : TIok Tryd.prog 26 ⟨.ptr 50, 1, 8, [.pointer none]⟩ := ⟨Tryd.underlying26, ⟨(.pointer none), by kernel_rfl, rfl⟩, rfl⟩
theorem ti28 : TIok Tryd.prog 28 ⟨.func, 1, 8, [.nilFunc]⟩ := ⟨⟨_, _, _, Tryd.underlying28⟩, ⟨(.nilFunc), by kernel_rfl, rfl⟩, rfl⟩
theorem ti29 : TIok Tryd.prog 29 ⟨.array 3 3, 3, 24, [.int .i64 0, .int .i64 0, .int .i64 0]⟩ := ⟨Tryd.underlying29, ⟨(.agg #[.int .i64 0, .int .i64 0, .int .i64 0]), by kernel_rfl, rfl⟩, rfl⟩
theorem ti30 : TIok Tryd.prog 30 ⟨.func, 1, 8, [.nilFunc]⟩ := ⟨⟨_, _, _, Tryd.underlying30⟩, ⟨(.nilFunc), by kernel_rfl, rfl⟩, rfl⟩
theorem ti31 : TIok Tryd.prog 31 ⟨.slice 5, 1, 24, [.slice none 0 0]⟩ := ⟨Tryd.underlying31, ⟨(.slice none 0 0), by kernel_rfl, rfl⟩, rfl⟩
theorem ti33 : TIok Tryd.prog 33 ⟨.func, 1, 8, [.nilFunc]⟩ := ⟨⟨_, _, _, Tryd.underlying33⟩, ⟨(.nilFunc), by kernel_rfl, rfl⟩, rfl⟩
theorem ti34 : TIok Tryd.prog 34 ⟨.func, 1, 8, [.nilFunc]⟩ := ⟨⟨_, _, _, Tryd.underlying34⟩, ⟨(.nilFunc), by kernel_rfl, rfl⟩, rfl⟩
theorem ti35 : TIok Tryd.prog 35 ⟨.func, 1, 8, [.nilFunc]⟩ := ⟨⟨_, _, _, Tryd.underlying35⟩, ⟨(.nilFunc), by kernel_rfl, rfl⟩, rfl⟩
theorem ti36 : TIok Tryd.prog 36 ⟨.func, 1, 8, [.nilFunc]⟩ := ⟨⟨_, _, _, Tryd.underlying36⟩, ⟨(.nilFunc), by kernel_rfl, rfl⟩, rfl⟩
theorem ti37 : TIok Tryd.prog 37 ⟨.func, 1, 8, [.nilFunc]⟩ := ⟨⟨_, _, _, Tryd.underlying37⟩, ⟨(.nilFunc), by kernel_rfl, rfl⟩, rfl⟩
theorem ti38 : TIok Tryd.prog 38 ⟨.slice 31, 1, 24, [.slice none 0 0]⟩ := ⟨Tryd.underlying38, ⟨(.slice none 0 0), by kernel_rfl, rfl⟩, rfl⟩
theorem ti40 : TIok Tryd.prog 40 ⟨.func, 1, 8, [.nilFunc]⟩ := ⟨⟨_, _, _, Tryd.underlying40⟩, ⟨(.nilFunc), by kernel_rfl, rfl⟩, rfl⟩
theorem ti42 : TIok Tryd.prog 42 ⟨.func, 1, 8, [.nilFunc]⟩ := ⟨⟨_, _, _, Tryd.underlying42⟩, ⟨(.nilFunc), by kernel_rfl, rfl⟩, rfl⟩
theorem ti43 : TIok Tryd.prog 43 ⟨.func, 1, 8, [.nilFunc]⟩ := ⟨⟨_, _, _, Tryd.underlying43⟩, ⟨(.nilFunc), by kernel_rfl, rfl⟩, rfl⟩
theorem ti44 : TIok Tryd.prog 44 ⟨.func, 1, 8, [.nilFunc]⟩ := ⟨⟨_, _, _, Tryd.underlying44⟩, ⟨(.nilFunc), by kernel_rfl, rfl⟩, rfl⟩
theorem ti45 : TIok Tryd.prog 45 ⟨.struct [(0, 31), (1, 3), (2, 3), (3, 3), (4, 4), (5, 3)], 6, 64, [.slice none 0 0, .int .i64 0, .int .i64 0, .int .i64 0, .bool false, .int .i64 0]⟩ := ⟨⟨_, Tryd.underlying45, rfl⟩, ⟨(.agg #[.slice none 0 0, .int .i64 0, .int .i64 0, .int .i64 0, .bool false, .int .i64 0]), by kernel_rfl, rfl⟩, rfl⟩
theorem ti46 : TIok Tryd.prog 46 ⟨.struct [(0, 31), (1, 3), (2, 3), (3, 3), (4, 4), (5, 3)], 6, 64, [.slice none 0 0, .int .i64 0, .int .i64 0, .int .i64 0, .bool false, .int .i64 0]⟩ := ⟨⟨_, Tryd.underlying46, rfl⟩, ⟨(.agg #[.slice none 0 0, .int .i64 0, .int .i64 0, .int .i64 0, .bool false, .int .i64 0]), by kernel_rfl, rfl⟩, rfl⟩
theorem ti47 : TIok Tryd.prog 47 ⟨.ptr 76, 1, 8, [.pointer none]⟩ := ⟨Tryd.underlying47, ⟨(.pointer none), by kernel_rfl, rfl⟩, rfl⟩
theorem ti48 : TIok Tryd.prog 48 ⟨.array 2 47, 2, 16, [.pointer none, .pointer none]⟩ := ⟨Tryd.underlying48, ⟨(.agg #[.pointer none, .pointer none]), by kernel_rfl, rfl⟩, rfl⟩
theorem ti49 : TIok Tryd.prog 49 ⟨.struct [(0, 22), (1, 48)], 3, 24, [.pointer none, .pointer none, .pointer none]⟩ := ⟨⟨_, Tryd.underlying49, rfl⟩, ⟨(.agg #[.pointer none, .pointer none, .pointer none]), by kernel_rfl, rfl⟩, rfl⟩
theorem ti50 : TIok Tryd.prog 50 ⟨.struct [(0, 22), (1, 48)], 3, 24, [.pointer none, .pointer none, .pointer none]⟩ := ⟨⟨_, Tryd.underlying50, rfl⟩, ⟨(.agg #[.pointer none, .pointer none, .pointer none]), by kernel_rfl, rfl⟩, rfl⟩
theorem ti52 : TIok Tryd.prog 52 ⟨.func, 1, 8, [.nilFunc]⟩ := ⟨⟨_, _, _, Tryd.underlying52⟩, ⟨(.nilFunc), by kernel_rfl, rfl⟩, rfl⟩
theorem ti53 : TIok Tryd.prog 53 ⟨.int .u32, 1, 4, [.int .u32 0]⟩ := ⟨Tryd.underlying53, ⟨(.int .u32 0), by kernel_rfl, rfl⟩, rfl⟩
theorem ti55 : TIok Tryd.prog 55 ⟨.func, 1, 8, [.nilFunc]⟩ := ⟨⟨_, _, _, Tryd.underlying55⟩, ⟨(.nilFunc), by kernel_rfl, rfl⟩, rfl⟩
theorem ti56 : TIok Tryd.prog 56 ⟨.func, 1, 8, [.nilFunc]⟩ := ⟨⟨_, _, _, Tryd.underlying56⟩, ⟨(.nilFunc), by kernel_rfl, rfl⟩, rfl⟩
theorem ti57 : TIok Tryd.prog 57 ⟨.func, 1, 8, [.nilFunc]⟩ := ⟨⟨_, _, _, Tryd.underlying57⟩, ⟨(.nilFunc), by kernel_rfl, rfl⟩, rfl⟩
theorem ti58 : TIok Tryd.prog 58 ⟨.slice 68, 1, 24, [.slice none 0 0]⟩ := ⟨Tryd.underlying58, ⟨(.slice none 0 0), by kernel_rfl, rfl⟩, rfl⟩
theorem ti59 : TIok Tryd.prog 59 ⟨.struct [(0, 47), (1, 58), (2, 58), (3, 3), (4, 4)], 5, 72, [.pointer none, .slice none 0 0, .slice none 0 0, .int .i64 0, .bool false]⟩ := ⟨⟨_, Tryd.underlying59, rfl⟩, ⟨(.agg #[.pointer none, .slice none 0 0, .slice none 0 0, .int .i64 0, .bool false]), by kernel_rfl, rfl⟩, rfl⟩
theorem ti60 : TIok Tryd.prog 60 ⟨.struct [(0, 47), (1, 58), (2, 58), (3, 3), (4, 4)], 5, 72, [.pointer none, .slice none 0 0, .slice none 0 0, .int .i64 0, .bool false]⟩ := ⟨⟨_, Tryd.underlying60, rfl⟩, ⟨(.agg #[.pointer none, .slice none 0 0, .slice none 0 0, .int .i64 0, .bool false]), by kernel_rfl, rfl⟩, rfl⟩
theorem ti62 : TIok Tryd.prog 62 ⟨.func, 1, 8, [.nilFunc]⟩ := ⟨⟨_, _, _, Tryd.underlying62⟩, ⟨(.nilFunc), by kernel_rfl, rfl⟩, rfl⟩
theorem ti63 : TIok Tryd.prog 63 ⟨.func, 1, 8, [.nilFunc]⟩ := ⟨⟨_, _, _, Tryd.underlying63⟩, ⟨(.nilFunc), by kernel_rfl, rfl⟩, rfl⟩
theorem ti64 : TIok Tryd.prog 64 ⟨.func, 1, 8, [.nilFunc]⟩ := ⟨⟨_, _, _, Tryd.underlying64⟩, ⟨(.nilFunc), by kernel_rfl, rfl⟩, rfl⟩
theorem ti65 : TIok Tryd.prog 65 ⟨.func, 1, 8, [.nilFunc]⟩ := ⟨⟨_, _, _, Tryd.underlying65⟩, ⟨(.nilFunc), by kernel_rfl, rfl⟩, rfl⟩
theorem ti66 : TIok Tryd.prog 66 ⟨.func, 1, 8, [.nilFunc]⟩ := ⟨⟨_, _, _, Tryd.underlying66⟩, ⟨(.nilFunc), by kernel_rfl, rfl⟩, rfl⟩
theorem ti67 : TIok Tryd.prog 67 ⟨.struct [(0, 31), (1, 31), (2, 4)], 3, 56, [.slice none 0 0, .slice none 0 0, .bool false]⟩ := ⟨⟨_, Tryd.underlying67, rfl⟩, ⟨(.agg #[.slice none 0 0, .slice none 0 0, .bool false]), by kernel_rfl, rfl⟩, rfl⟩
theorem ti68 : TIok Tryd.prog 68 ⟨.struct [(0, 31), (1, 31), (2, 4)], 3, 56, [.slice none 0 0, .slice none 0 0, .bool false]⟩ := ⟨⟨_, Tryd.underlying68, rfl⟩, ⟨(.agg #[.slice none 0 0, .slice none 0 0, .bool false]), by kernel_rfl, rfl⟩, rfl⟩
theorem ti69 : TIok Tryd.prog 69 ⟨.func, 1, 8, [.nilFunc]⟩ := ⟨⟨_, _, _, Tryd.underlying69⟩, ⟨(.nilFunc), by kernel_rfl, rfl⟩, rfl⟩
theorem ti70 : TIok Tryd.prog 70 ⟨.func, 1, 8, [.nilFunc]⟩ := ⟨⟨_, _, _, Tryd.underlying70⟩, ⟨(.nilFunc), by kernel_rfl, rfl⟩, rfl⟩
theorem ti71 : TIok Tryd.prog 71 ⟨.int .u64, 1, 8, [.int .u64 0]⟩ := ⟨Tryd.underlying71, ⟨(.int .u64 0), by kernel_rfl, rfl⟩, rfl⟩
theorem ti73 : TIok Tryd.prog 73 ⟨.func, 1, 8, [.nilFunc]⟩ := ⟨⟨_, _, _, Tryd.underlying73⟩, ⟨(.nilFunc), by kernel_rfl, rfl⟩, rfl⟩
theorem ti74 : TIok Tryd.prog 74 ⟨.func, 1, 8, [.nilFunc]⟩ := ⟨⟨_, _, _, Tryd.underlying74⟩, ⟨(.nilFunc), by kernel_rfl, rfl⟩, rfl⟩
theorem ti75 : TIok Tryd.prog 75 ⟨.struct [(0, 22), (1, 3), (2, 3)], 3, 24, [.pointer none, .int .i64 0, .int .i64 0]⟩ := ⟨⟨_, Tryd.underlying75, rfl⟩, ⟨(.agg #[.pointer none, .int .i64 0, .int .i64 0]), by kernel_rfl, rfl⟩, rfl⟩
theorem ti76 : TIok Tryd.prog 76 ⟨.struct [(0, 22), (1, 3), (2, 3)], 3, 24, [.pointer none, .int .i64 0, .int .i64 0]⟩ := ⟨⟨_, Tryd.underlying76, rfl⟩, ⟨(.agg #[.pointer none, .int .i64 0, .int .i64 0]), by kernel_rfl, rfl⟩, rfl⟩
theorem ti77 : TIok Tryd.prog 77 ⟨.array 2 53, 2, 8, [.int .u32 0, .int .u32 0]⟩ := ⟨Tryd.underlying77, ⟨(.agg #[.int .u32 0, .int .u32 0]), by kernel_rfl, rfl⟩, rfl⟩
theorem ti78 : TIok Tryd.prog 78 ⟨.array 2 4, 2, 2, [.bool false, .bool false]⟩ := ⟨Tryd.underlying78, ⟨(.agg #[.bool false, .bool false]), by kernel_rfl, rfl⟩, rfl⟩
theorem ti80 : TIok Tryd.prog 80 ⟨.func, 1, 8, [.nilFunc]⟩ := ⟨⟨_, _, _, Tryd.underlying80⟩, ⟨(.nilFunc), by kernel_rfl, rfl⟩, rfl⟩
theorem ti81 : TIok Tryd.prog 81 ⟨.func, 1, 8, [.nilFunc]⟩ := ⟨⟨_, _, _, Tryd.underlying81⟩, ⟨(.nilFunc), by kernel_rfl, rfl⟩, rfl⟩
theorem ti83 : TIok Tryd.prog 83 ⟨.func, 1, 8, [.nilFunc]⟩ := ⟨⟨_, _, _, Tryd.underlying83⟩, ⟨(.nilFunc), by kernel_rfl, rfl⟩, rfl⟩
theorem ti84 : TIok Tryd.prog 84 ⟨.func, 1, 8, [.nilFunc]⟩ := ⟨⟨_, _, _, Tryd.underlying84⟩, ⟨(.nilFunc), by kernel_rfl, rfl⟩, rfl⟩
theorem ti85 : TIok Tryd.prog 85 ⟨.func, 1, 8, [.nilFunc]⟩ := ⟨⟨_, _, _, Tryd.underlying85⟩, ⟨(.nilFunc), by kernel_rfl, rfl⟩, rfl⟩
theorem ti86 : TIok Tryd.prog 86 ⟨.func, 1, 8, [.nilFunc]⟩ := ⟨⟨_, _, _, Tryd.underlying86⟩, ⟨(.nilFunc), by kernel_rfl, rfl⟩, rfl⟩
theorem ti87 : TIok Tryd.prog 87 ⟨.slice 3, 1, 24, [.slice none 0 0]⟩ := ⟨Tryd.underlying87, ⟨(.slice none 0 0), by kernel_rfl, rfl⟩, rfl⟩
theorem ti89 : TIok Tryd.prog 89 ⟨.func, 1, 8, [.nilFunc]⟩ := ⟨⟨_, _, _, Tryd.underlying89⟩, ⟨(.nilFunc), by kernel_rfl, rfl⟩, rfl⟩
theorem ti90 : TIok Tryd.prog 90 ⟨.func, 1, 8, [.nilFunc]⟩ := ⟨⟨_, _, _, Tryd.underlying90⟩, ⟨(.nilFunc), by kernel_rfl, rfl⟩, rfl⟩
theorem ti91 : TIok Tryd.prog 91 ⟨.func, 1, 8, [.nilFunc]⟩ := ⟨⟨_, _, _, Tryd.underlying91⟩, ⟨(.nilFunc), by kernel_rfl, rfl⟩, rfl⟩
theorem ti92 : TIok Tryd.prog 92 ⟨.func, 1, 8, [.nilFunc]⟩ := ⟨⟨_, _, _, Tryd.underlying92⟩, ⟨(.nilFunc), by kernel_rfl, rfl⟩, rfl⟩
theorem ti93 : TIok Tryd.prog 93 ⟨.func, 1, 8, [.nilFunc]⟩ := ⟨⟨_, _, _, Tryd.underlying93⟩, ⟨(.nilFunc), by kernel_rfl, rfl⟩, rfl⟩
theorem ti95 : TIok Tryd.prog 95 ⟨.func, 1, 8, [.nilFunc]⟩ := ⟨⟨_, _, _, Tryd.underlying95⟩, ⟨(.nilFunc), by kernel_rfl, rfl⟩, rfl⟩
theorem ti96 : TIok Tryd.prog 96 ⟨.int .u64, 1, 8, [.int .u64 0]⟩ := ⟨Tryd.underlying96, ⟨(.int .u64 0), by kernel_rfl, rfl⟩, rfl⟩
theorem ti98 : TIok Tryd.prog 98 ⟨.func, 1, 8, [.nilFunc]⟩ := ⟨⟨_, _, _, Tryd.underlying98⟩, ⟨(.nilFunc), by kernel_rfl, rfl⟩, rfl⟩
theorem ti100 : TIok Tryd.prog 100 ⟨.func, 1, 8, [.nilFunc]⟩ := ⟨⟨_, _, _, Tryd.underlying100⟩, ⟨(.nilFunc), by kernel_rfl, rfl⟩, rfl⟩
theorem ti101 : TIok Tryd.prog 101 ⟨.func, 1, 8, [.nilFunc]⟩ := ⟨⟨_, _, _, Tryd.underlying101⟩, ⟨(.nilFunc), by kernel_rfl, rfl⟩, rfl⟩
theorem ti102 : TIok Tryd.prog 102 ⟨.func, 1, 8, [.nilFunc]⟩ := ⟨⟨_, _, _, Tryd.underlying102⟩, ⟨(.nilFunc), by kernel_rfl, rfl⟩, rfl⟩
theorem ti103 : TIok Tryd.prog 103 ⟨.func, 1, 8, [.nilFunc]⟩ := ⟨⟨_, _, _, Tryd.underlying103⟩, ⟨(.nilFunc), by kernel_rfl, rfl⟩, rfl⟩
theorem ti104 : TIok Tryd.prog 104 ⟨.func, 1, 8, [.nilFunc]⟩ := ⟨⟨_, _, _, Tryd.underlying104⟩, ⟨(.nilFunc), by kernel_rfl, rfl⟩, rfl⟩
theorem ti105 : TIok Tryd.prog 105 ⟨.func, 1, 8, [.nilFunc]⟩ := ⟨⟨_, _, _, Tryd.underlying105⟩, ⟨(.nilFunc), by kernel_rfl, rfl⟩, rfl⟩
theorem ti106 : TIok Tryd.prog 106 ⟨.func, 1, 8, [.nilFunc]⟩ := ⟨⟨_, _, _, Tryd.underlying106⟩, ⟨(.nilFunc), by kernel_rfl, rfl⟩, rfl⟩
theorem ti107 : TIok Tryd.prog 107 ⟨.func, 1, 8, [.nilFunc]⟩ := ⟨⟨_, _, _, Tryd.underlying107⟩, ⟨(.nilFunc), by kernel_rfl, rfl⟩, rfl⟩
theorem ti108 : TIok Tryd.prog 108 ⟨.func, 1, 8, [.nilFunc]⟩ := ⟨⟨_, _, _, Tryd.underlying108⟩, ⟨(.nilFunc), by kernel_rfl, rfl⟩, rfl⟩
theorem ti109 : TIok Tryd.prog 109 ⟨.func, 1, 8, [.nilFunc]⟩ := ⟨⟨_, _, _, Tryd.underlying109⟩, ⟨(.nilFunc), by kernel_rfl, rfl⟩, rfl⟩
theorem ti110 : TIok Tryd.prog 110 ⟨.func, 1, 8, [.nilFunc]⟩ := ⟨⟨_, _, _, Tryd.underlying110⟩, ⟨(.nilFunc), by kernel_rfl, rfl⟩, rfl⟩
theorem ti111 : TIok Tryd.prog 111 ⟨.func, 1, 8, [.nilFunc]⟩ := ⟨⟨_, _, _, Tryd.underlying111⟩, ⟨(.nilFunc), by kernel_rfl, rfl⟩, rfl⟩
theorem ti112 : TIok Tryd.prog 112 ⟨.int .i64, 1, 8, [.int .i64 0]⟩ := ⟨Tryd.underlying112, ⟨(.int .i64 0), by kernel_rfl, rfl⟩, rfl⟩
theorem ti114 : TIok Tryd.prog 114 ⟨.func, 1, 8, [.nilFunc]⟩ := ⟨⟨_, _, _, Tryd.underlying114⟩, ⟨(.nilFunc), by kernel_rfl, rfl⟩, rfl⟩
theorem ti115 : TIok Tryd.prog 115 ⟨.func, 1, 8, [.nilFunc]⟩ := ⟨⟨_, _, _, Tryd.underlying115⟩, ⟨(.nilFunc), by kernel_rfl, rfl⟩, rfl⟩
theorem ti116 : TIok Tryd.prog 116 ⟨.func, 1, 8, [.nilFunc]⟩ := ⟨⟨_, _, _, Tryd.underlying116⟩, ⟨(.nilFunc), by kernel_rfl, rfl⟩, rfl⟩
theorem ti118 : TIok Tryd.prog 118 ⟨.func, 1, 8, [.nilFunc]⟩ := ⟨⟨_, _, _, Tryd.underlying118⟩, ⟨(.nilFunc), by kernel_rfl, rfl⟩, rfl⟩
theorem ti119 : TIok Tryd.prog 119 ⟨.func, 1, 8, [.nilFunc]⟩ := ⟨⟨_, _, _, Tryd.underlying119⟩, ⟨(.nilFunc), by kernel_rfl, rfl⟩, rfl⟩
theorem ti120 : TIok Tryd.prog 120 ⟨.func, 1, 8, [.nilFunc]⟩ := ⟨⟨_, _, _, Tryd.underlying120⟩, ⟨(.nilFunc), by kernel_rfl, rfl⟩, rfl⟩
theorem ti121 : TIok Tryd.prog 121 ⟨.func, 1, 8, [.nilFunc]⟩ := ⟨⟨_, _, _, Tryd.underlying121⟩, ⟨(.nilFunc), by kernel_rfl, rfl⟩, rfl⟩
theorem ti123 : TIok Tryd.prog 123 ⟨.func, 1, 8, [.nilFunc]⟩ := ⟨⟨_, _, _, Tryd.underlying123⟩, ⟨(.nilFunc), by kernel_rfl, rfl⟩, rfl⟩
theorem ti124 : TIok Tryd.prog 124 ⟨.func, 1, 8, [.nilFunc]⟩ := ⟨⟨_, _, _, Tryd.underlying124⟩, ⟨(.nilFunc), by kernel_rfl, rfl⟩, rfl⟩
theorem ti125 : TIok Tryd.prog 125 ⟨.func, 1, 8, [.nilFunc]⟩ := ⟨⟨_, _, _, Tryd.underlying125⟩, ⟨(.nilFunc), by kernel_rfl, rfl⟩, rfl⟩
theorem ti126 : TIok Tryd.prog 126 ⟨.func, 1, 8, [.nilFunc]⟩ := ⟨⟨_, _, _, Tryd.underlying126⟩, ⟨(.nilFunc), by kernel_rfl, rfl⟩, rfl⟩
theorem ti128 : TIok Tryd.prog 128 ⟨.func, 1, 8, [.nilFunc]⟩ := ⟨⟨_, _, _, Tryd.underlying128⟩, ⟨(.nilFunc), by kernel_rfl, rfl⟩, rfl⟩
theorem ti129 : TIok Tryd.prog 129 ⟨.func, 1, 8, [.nilFunc]⟩ := ⟨⟨_, _, _, Tryd.underlying129⟩, ⟨(.nilFunc), by kernel_rfl, rfl⟩, rfl⟩
theorem ti130 : TIok Tryd.prog 130 ⟨.func, 1, 8, [.nilFunc]⟩ := ⟨⟨_, _, _, Tryd.underlying130⟩, ⟨(.nilFunc), by kernel_rfl, rfl⟩, rfl⟩
theorem ti131 : TIok Tryd.prog 131 ⟨.func, 1, 8, [.nilFunc]⟩ := ⟨⟨_, _, _, Tryd.underlying131⟩, ⟨(.nilFunc), by kernel_rfl, rfl⟩, rfl⟩
theorem ti132 : TIok Tryd.prog 132 ⟨.array 16 53, 16, 64, [.int .u32 0, .int .u32 0, .int .u32 0, .int .u32 0, .int .u32 0, .int .u32 0, .int .u32 0, .int .u32 0, .int .u32 0, .int .u32 0, .int .u32 0, .int .u32 0, .int .u32 0, .int .u32 0, .int .u32 0, .int .u32 0]⟩ := ⟨Tryd.underlying132, ⟨(.agg #[.int .u32 0, .int .u32 0, .int .u32 0, .int .u32 0, .int .u32 0, .int .u32 0, .int .u32 0, .int .u32 0, .int .u32 0, .int .u32 0, .int .u32 0, .int .u32 0, .int .u32 0, .int .u32 0, .int .u32 0, .int .u32 0]), by kernel_rfl, rfl⟩, rfl⟩
theorem ti133 : TIok Tryd.prog 133 ⟨.int .u64, 1, 8, [.int .u64 0]⟩ := ⟨Tryd.underlying133, ⟨(.int .u64 0), by kernel_rfl, rfl⟩, rfl⟩
theorem ti134 : TIok Tryd.prog 134 ⟨.func, 1, 8, [.nilFunc]⟩ := ⟨⟨_, _, _, Tryd.underlying134⟩, ⟨(.nilFunc), by kernel_rfl, rfl⟩, rfl⟩
theorem ti135 : TIok Tryd.prog 135 ⟨.func, 1, 8, [.nilFunc]⟩ := ⟨⟨_, _, _, Tryd.underlying135⟩, ⟨(.nilFunc), by kernel_rfl, rfl⟩, rfl⟩
theorem ti136 : TIok Tryd.prog 136 ⟨.func, 1, 8, [.nilFunc]⟩ := ⟨⟨_, _, _, Tryd.underlying136⟩, ⟨(.nilFunc), by kernel_rfl, rfl⟩, rfl⟩
theorem ti137 : TIok Tryd.prog 137 ⟨.ptr 3, 1, 8, [.pointer none]⟩ := ⟨Tryd.underlying137, ⟨(.pointer none), by kernel_rfl, rfl⟩, rfl⟩
theorem ti138 : TIok Tryd.prog 138 ⟨.func, 1, 8, [.nilFunc]⟩ := ⟨⟨_, _, _, Tryd.underlying138⟩, ⟨(.nilFunc), by kernel_rfl, rfl⟩, rfl⟩
theorem ti139 : TIok Tryd.prog 139 ⟨.func, 1, 8, [.nilFunc]⟩ := ⟨⟨_, _, _, Tryd.underlying139⟩, ⟨(.nilFunc), by kernel_rfl, rfl⟩, rfl⟩
theorem ti140 : TIok Tryd.prog 140 ⟨.func, 1, 8, [.nilFunc]⟩ := ⟨⟨_, _, _, Tryd.underlying140⟩, ⟨(.nilFunc), by kernel_rfl, rfl⟩, rfl⟩
theorem ti141 : TIok Tryd.prog 141 ⟨.func, 1, 8, [.nilFunc]⟩ := ⟨⟨_, _, _, Tryd.underlying141⟩, ⟨(.nilFunc), by kernel_rfl, rfl⟩, rfl⟩
theorem ti142 : TIok Tryd.prog 142 ⟨.ptr 133, 1, 8, [.pointer none]⟩ := ⟨Tryd.underlying142, ⟨(.pointer none), by kernel_rfl, rfl⟩, rfl⟩
theorem ti144 : TIok Tryd.prog 144 ⟨.func, 1, 8, [.nilFunc]⟩ := ⟨⟨_, _, _, Tryd.underlying144⟩, ⟨(.nilFunc), by kernel_rfl, rfl⟩, rfl⟩
theorem ti145 : TIok Tryd.prog 145 ⟨.func, 1, 8, [.nilFunc]⟩ := ⟨⟨_, _, _, Tryd.underlying145⟩, ⟨(.nilFunc), by kernel_rfl, rfl⟩, rfl⟩
theorem ti146 : TIok Tryd.prog 146 ⟨.array 4 3, 4, 32, [.int .i64 0, .int .i64 0, .int .i64 0, .int .i64 0]⟩ := ⟨Tryd.underlying146, ⟨(.agg #[.int .i64 0, .int .i64 0, .int .i64 0, .int .i64 0]), by kernel_rfl, rfl⟩, rfl⟩
theorem ti147 : TIok Tryd.prog 147 ⟨.func, 1, 8, [.nilFunc]⟩ := ⟨⟨_, _, _, Tryd.underlying147⟩, ⟨(.nilFunc), by kernel_rfl, rfl⟩, rfl⟩
theorem ti148 : TIok Tryd.prog 148 ⟨.func, 1, 8, [.nilFunc]⟩ := ⟨⟨_, _, _, Tryd.underlying148⟩, ⟨(.nilFunc), by kernel_rfl, rfl⟩, rfl⟩
theorem ti149 : TIok Tryd.prog 149 ⟨.func, 1, 8, [.nilFunc]⟩ := ⟨⟨_, _, _, Tryd.underlying149⟩, ⟨(.nilFunc), by kernel_rfl, rfl⟩, rfl⟩
theorem ti150 : TIok Tryd.prog 150 ⟨.struct [(0, 17), (1, 17), (2, 17), (3, 9)], 4, 40, [.pointer none, .pointer none, .pointer none, .string ByteArray.empty]⟩ := ⟨⟨_, Tryd.underlying150, rfl⟩, ⟨(.agg #[.pointer none, .pointer none, .pointer none, .string ByteArray.empty]), by kernel_rfl, rfl⟩, rfl⟩
theorem ti151 : TIok Tryd.prog 151 ⟨.struct [(0, 17), (1, 17), (2, 17), (3, 9)], 4, 40, [.pointer none, .pointer none, .pointer none, .string ByteArray.empty]⟩ := ⟨⟨_, Tryd.underlying151, rfl⟩, ⟨(.agg #[.pointer none, .pointer none, .pointer none, .string ByteArray.empty]), by kernel_rfl, rfl⟩, rfl⟩
theorem ti152 : TIok Tryd.prog 152 ⟨.array 0 16, 0, 0, []⟩ := ⟨Tryd.underlying152, ⟨(.agg #[]), by kernel_rfl, rfl⟩, rfl⟩
theorem ti153 : TIok Tryd.prog 153 ⟨.struct [(0, 152)], 0, 0, []⟩ := ⟨⟨_, Tryd.underlying153, rfl⟩, ⟨(.agg #[]), by kernel_rfl, rfl⟩, rfl⟩
theorem ti154 : TIok Tryd.prog 154 ⟨.struct [(0, 152)], 0, 0, []⟩ := ⟨⟨_, Tryd.underlying154, rfl⟩, ⟨(.agg #[]), by kernel_rfl, rfl⟩, rfl⟩
theorem ti155 : TIok Tryd.prog 155 ⟨.int .u8, 1, 1, [.int .u8 0]⟩ := ⟨Tryd.underlying155, ⟨(.int .u8 0), by kernel_rfl, rfl⟩, rfl⟩
theorem ti156 : TIok Tryd.prog 156 ⟨.int .u8, 1, 1, [.int .u8 0]⟩ := ⟨Tryd.underlying156, ⟨(.int .u8 0), by kernel_rfl, rfl⟩, rfl⟩
theorem ti157 : TIok Tryd.prog 157 ⟨.func, 1, 8, [.nilFunc]⟩ := ⟨⟨_, _, _, Tryd.underlying157⟩, ⟨(.nilFunc), by kernel_rfl, rfl⟩, rfl⟩
theorem ti158 : TIok Tryd.prog 158 ⟨.ptr 5, 1, 8, [.pointer none]⟩ := ⟨Tryd.underlying158, ⟨(.pointer none), by kernel_rfl, rfl⟩, rfl⟩
theorem ti159 : TIok Tryd.prog 159 ⟨.int .i32, 1, 4, [.int .i32 0]⟩ := ⟨Tryd.underlying159, ⟨(.int .i32 0), by kernel_rfl, rfl⟩, rfl⟩
theorem ti160 : TIok Tryd.prog 160 ⟨.int .i32, 1, 4, [.int .i32 0]⟩ := ⟨Tryd.underlying160, ⟨(.int .i32 0), by kernel_rfl, rfl⟩, rfl⟩
theorem ti161 : TIok Tryd.prog 161 ⟨.struct [(0, 12), (1, 12), (2, 53), (3, 155), (4, 5), (5, 5), (6, 156), (7, 157), (8, 158), (9, 159), (10, 160)], 11, 48, [.int .u64 0, .int .u64 0, .int .u32 0, .int .u8 0, .int .u8 0, .int .u8 0, .int .u8 0, .nilFunc, .pointer none, .int .i32 0, .int .i32 0]⟩ := ⟨⟨_, Tryd.underlying161, rfl⟩, ⟨(.agg #[.int .u64 0, .int .u64 0, .int .u32 0, .int .u8 0, .int .u8 0, .int .u8 0, .int .u8 0, .nilFunc, .pointer none, .int .i32 0, .int .i32 0]), by kernel_rfl, rfl⟩, rfl⟩
theorem ti162 : TIok Tryd.prog 162 ⟨.struct [(0, 12), (1, 12), (2, 53), (3, 155), (4, 5), (5, 5), (6, 156), (7, 157), (8, 158), (9, 159), (10, 160)], 11, 48, [.int .u64 0, .int .u64 0, .int .u32 0, .int .u8 0, .int .u8 0, .int .u8 0, .int .u8 0, .nilFunc, .pointer none, .int .i32 0, .int .i32 0]⟩ := ⟨⟨_, Tryd.underlying162, rfl⟩, ⟨(.agg #[.int .u64 0, .int .u64 0, .int .u32 0, .int .u8 0, .int .u8 0, .int .u8 0, .int .u8 0, .nilFunc, .pointer none, .int .i32 0, .int .i32 0]), by kernel_rfl, rfl⟩, rfl⟩
theorem tbOk : TbOk Tryd.prog tb := by
  intro t ti h
  unfold tb at h
  split at h
  · cases h; exact ti1
  · cases h; exact ti2
  · cases h; exact ti3
  · cases h; exact ti4
  · cases h; exact ti5
  · cases h; exact ti6
  · cases h; exact ti7
  · cases h; exact ti8
  · cases h; exact ti9
  · cases h; exact ti10
  · cases h; exact ti11
  · cases h; exact ti12
  · cases h; exact ti13
  · cases h; exact ti14
  · cases h; exact ti15
  · cases h; exact ti16
  · cases h; exact ti17
  · cases h; exact ti18
  · cases h; exact ti19
  · cases h; exact ti21
  · cases h; exact ti22
  · cases h; exact ti23
  · cases h; exact ti25
  · cases h; exact ti26
  · cases h; exact ti28
  · cases h; exact ti29
  · cases h; exact ti30
  · cases h; exact ti31
  · cases h; exact ti33
  · cases h; exact ti34
  · cases h; exact ti35
  · cases h; exact ti36
  · cases h; exact ti37
  · cases h; exact ti38
  · cases h; exact ti40
  · cases h; exact ti42
  · cases h; exact ti43
  · cases h; exact ti44
  · cases h; exact ti45
  · cases h; exact ti46
  · cases h; exact ti47
  · cases h; exact ti48
  · cases h; exact ti49
  · cases h; exact ti50
  · cases h; exact ti52
  · cases h; exact ti53
  · cases h; exact ti55
  · cases h; exact ti56
  · cases h; exact ti57
  · cases h; exact ti58
  · cases h; exact ti59
  · cases h; exact ti60
  · cases h; exact ti62
  · cases h; exact ti63
  · cases h; exact ti64
  · cases h; exact ti65
  · cases h; exact ti66
  · cases h; exact ti67
  · cases h; exact ti68
  · cases h; exact ti69
  · cases h; exact ti70
  · cases h; exact ti71
  · cases h; exact ti73
  · cases h; exact ti74
  · cases h; exact ti75
  · cases h; exact ti76
  · cases h; exact ti77
  · cases h; exact ti78
  · cases h; exact ti80
  · cases h; exact ti81
  · cases h; exact ti83
  · cases h; exact ti84
  · cases h; exact ti85
  · cases h; exact ti86
  · cases h; exact ti87
  · cases h; exact ti89
  · cases h; exact ti90
  · cases h; exact ti91
  · cases h; exact ti92
  · cases h; exact ti93
  · cases h; exact ti95
  · cases h; exact ti96
  · cases h; exact ti98
  · cases h; exact ti100
  · cases h; exact ti101
  · cases h; exact ti102
  · cases h; exact ti103
  · cases h; exact ti104
  · cases h; exact ti105
  · cases h; exact ti106
  · cases h; exact ti107
  · cases h; exact ti108
  · cases h; exact ti109
  · cases h; exact ti110
  · cases h; exact ti111
  · cases h; exact ti112
  · cases h; exact ti114
  · cases h; exact ti115
  · cases h; exact ti116
  · cases h; exact ti118
  · cases h; exact ti119
  · cases h; exact ti120
  · cases h; exact ti121
  · cases h; exact ti123
  · cases h; exact ti124
  · cases h; exact ti125
  · cases h; exact ti126
  · cases h; exact ti128
  · cases h; exact ti129
  · cases h; exact ti130
  · cases h; exact ti131
  · cases h; exact ti132
  · cases h; exact ti133
  · cases h; exact ti134
  · cases h; exact ti135
  · cases h; exact ti136
  · cases h; exact ti137
  · cases h; exact ti138
  · cases h; exact ti139
  · cases h; exact ti140
  · cases h; exact ti141
  · cases h; exact ti142
  · cases h; exact ti144
  · cases h; exact ti145
  · cases h; exact ti146
  · cases h; exact ti147
  · cases h; exact ti148
  · cases h; exact ti149
  · cases h; exact ti150
  · cases h; exact ti151
  · cases h; exact ti152
  · cases h; exact ti153
  · cases h; exact ti154
  · cases h; exact ti155
  · cases h; exact ti156
  · cases h; exact ti157
  · cases h; exact ti158
  · cases h; exact ti159
  · cases h; exact ti160
  · cases h; exact ti161
  · cases h; exact ti162
  · cases h
end Go.Proofs.YtebilmfljoiaeaaDoor
