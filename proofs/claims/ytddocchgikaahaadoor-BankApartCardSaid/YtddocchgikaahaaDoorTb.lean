/- The table of the program's types, written by a program, with its proofs. Conditions: none. -/
import Derived.Test.YtddocchgikaahaaDoorAb
import Derived.Test.YtddocchgikaahaaDoorRows
namespace Go.Proofs.YtddocchgikaahaaDoor
def tb : TypeId → Option TI
  | 1 => some ⟨.func, 1, 8, [.nilFunc]⟩
  | 2 => some ⟨.int .i64, 1, 8, [.int .i64 0]⟩
  | 3 => some ⟨.int .i64, 1, 8, [.int .i64 0]⟩
  | 4 => some ⟨.bool, 1, 1, [.bool false]⟩
  | 5 => some ⟨.int .u8, 1, 1, [.int .u8 0]⟩
  | 6 => some ⟨.int .u8, 1, 1, [.int .u8 0]⟩
  | 7 => some ⟨.struct [(0, 2), (1, 3), (2, 4), (3, 6)], 4, 24, [.int .i64 0, .int .i64 0, .bool false, .int .u8 0]⟩
  | 8 => some ⟨.struct [(0, 2), (1, 3), (2, 4), (3, 6)], 4, 24, [.int .i64 0, .int .i64 0, .bool false, .int .u8 0]⟩
  | 9 => some ⟨.string, 1, 16, [.string ByteArray.empty]⟩
  | 10 => some ⟨.string, 1, 16, [.string ByteArray.empty]⟩
  | 11 => some ⟨.string, 1, 16, [.string ByteArray.empty]⟩
  | 12 => some ⟨.int .u64, 1, 8, [.int .u64 0]⟩
  | 13 => some ⟨.struct [(0, 9), (1, 12)], 2, 24, [.string ByteArray.empty, .int .u64 0]⟩
  | 14 => some ⟨.struct [(0, 9), (1, 12)], 2, 24, [.string ByteArray.empty, .int .u64 0]⟩
  | 15 => some ⟨.ptr 125, 1, 8, [.pointer none]⟩
  | 16 => some ⟨.ptr 128, 1, 8, [.pointer none]⟩
  | 17 => some ⟨.ptr 136, 1, 8, [.pointer none]⟩
  | 18 => some ⟨.struct [(0, 17)], 1, 8, [.pointer none]⟩
  | 19 => some ⟨.struct [(0, 17)], 1, 8, [.pointer none]⟩
  | 21 => some ⟨.int .i32, 1, 4, [.int .i32 0]⟩
  | 22 => some ⟨.slice 38, 1, 24, [.slice none 0 0]⟩
  | 23 => some ⟨.func, 1, 8, [.nilFunc]⟩
  | 24 => some ⟨.ptr 75, 1, 8, [.pointer none]⟩
  | 25 => some ⟨.int .i64, 1, 8, [.int .i64 0]⟩
  | 27 => some ⟨.func, 1, 8, [.nilFunc]⟩
  | 28 => some ⟨.ptr 77, 1, 8, [.pointer none]⟩
  | 30 => some ⟨.func, 1, 8, [.nilFunc]⟩
  | 31 => some ⟨.func, 1, 8, [.nilFunc]⟩
  | 32 => some ⟨.int .u32, 1, 4, [.int .u32 0]⟩
  | 33 => some ⟨.func, 1, 8, [.nilFunc]⟩
  | 34 => some ⟨.func, 1, 8, [.nilFunc]⟩
  | 35 => some ⟨.slice 43, 1, 24, [.slice none 0 0]⟩
  | 36 => some ⟨.slice 5, 1, 24, [.slice none 0 0]⟩
  | 37 => some ⟨.struct [(0, 3), (1, 3), (2, 3), (3, 36), (4, 36)], 5, 72, [.int .i64 0, .int .i64 0, .int .i64 0, .slice none 0 0, .slice none 0 0]⟩
  | 38 => some ⟨.struct [(0, 3), (1, 3), (2, 3), (3, 36), (4, 36)], 5, 72, [.int .i64 0, .int .i64 0, .int .i64 0, .slice none 0 0, .slice none 0 0]⟩
  | 39 => some ⟨.func, 1, 8, [.nilFunc]⟩
  | 40 => some ⟨.func, 1, 8, [.nilFunc]⟩
  | 41 => some ⟨.func, 1, 8, [.nilFunc]⟩
  | 42 => some ⟨.struct [(0, 36), (1, 36), (2, 4)], 3, 56, [.slice none 0 0, .slice none 0 0, .bool false]⟩
  | 43 => some ⟨.struct [(0, 36), (1, 36), (2, 4)], 3, 56, [.slice none 0 0, .slice none 0 0, .bool false]⟩
  | 45 => some ⟨.func, 1, 8, [.nilFunc]⟩
  | 47 => some ⟨.func, 1, 8, [.nilFunc]⟩
  | 48 => some ⟨.func, 1, 8, [.nilFunc]⟩
  | 49 => some ⟨.func, 1, 8, [.nilFunc]⟩
  | 50 => some ⟨.func, 1, 8, [.nilFunc]⟩
  | 51 => some ⟨.func, 1, 8, [.nilFunc]⟩
  | 53 => some ⟨.func, 1, 8, [.nilFunc]⟩
  | 54 => some ⟨.func, 1, 8, [.nilFunc]⟩
  | 55 => some ⟨.func, 1, 8, [.nilFunc]⟩
  | 56 => some ⟨.func, 1, 8, [.nilFunc]⟩
  | 57 => some ⟨.func, 1, 8, [.nilFunc]⟩
  | 58 => some ⟨.func, 1, 8, [.nilFunc]⟩
  | 59 => some ⟨.struct [(0, 3), (1, 3), (2, 3), (3, 3)], 4, 32, [.int .i64 0, .int .i64 0, .int .i64 0, .int .i64 0]⟩
  | 60 => some ⟨.struct [(0, 3), (1, 3), (2, 3), (3, 3)], 4, 32, [.int .i64 0, .int .i64 0, .int .i64 0, .int .i64 0]⟩
  | 61 => some ⟨.struct [(0, 35), (1, 3), (2, 4), (3, 25)], 4, 48, [.slice none 0 0, .int .i64 0, .bool false, .int .i64 0]⟩
  | 62 => some ⟨.struct [(0, 35), (1, 3), (2, 4), (3, 25)], 4, 48, [.slice none 0 0, .int .i64 0, .bool false, .int .i64 0]⟩
  | 64 => some ⟨.func, 1, 8, [.nilFunc]⟩
  | 65 => some ⟨.func, 1, 8, [.nilFunc]⟩
  | 66 => some ⟨.func, 1, 8, [.nilFunc]⟩
  | 67 => some ⟨.int .u16, 1, 2, [.int .u16 0]⟩
  | 68 => some ⟨.slice 72, 1, 24, [.slice none 0 0]⟩
  | 70 => some ⟨.func, 1, 8, [.nilFunc]⟩
  | 71 => some ⟨.func, 1, 8, [.nilFunc]⟩
  | 72 => some ⟨.struct [(0, 36), (1, 36), (2, 4)], 3, 56, [.slice none 0 0, .slice none 0 0, .bool false]⟩
  | 73 => some ⟨.func, 1, 8, [.nilFunc]⟩
  | 74 => some ⟨.struct [(0, 36), (1, 3), (2, 3), (3, 3), (4, 4), (5, 3)], 6, 64, [.slice none 0 0, .int .i64 0, .int .i64 0, .int .i64 0, .bool false, .int .i64 0]⟩
  | 75 => some ⟨.struct [(0, 36), (1, 3), (2, 3), (3, 3), (4, 4), (5, 3)], 6, 64, [.slice none 0 0, .int .i64 0, .int .i64 0, .int .i64 0, .bool false, .int .i64 0]⟩
  | 76 => some ⟨.struct [(0, 24), (1, 3), (2, 3)], 3, 24, [.pointer none, .int .i64 0, .int .i64 0]⟩
  | 77 => some ⟨.struct [(0, 24), (1, 3), (2, 3)], 3, 24, [.pointer none, .int .i64 0, .int .i64 0]⟩
  | 78 => some ⟨.func, 1, 8, [.nilFunc]⟩
  | 79 => some ⟨.func, 1, 8, [.nilFunc]⟩
  | 80 => some ⟨.slice 3, 1, 24, [.slice none 0 0]⟩
  | 82 => some ⟨.func, 1, 8, [.nilFunc]⟩
  | 83 => some ⟨.func, 1, 8, [.nilFunc]⟩
  | 84 => some ⟨.func, 1, 8, [.nilFunc]⟩
  | 86 => some ⟨.func, 1, 8, [.nilFunc]⟩
  | 87 => some ⟨.func, 1, 8, [.nilFunc]⟩
  | 88 => some ⟨.func, 1, 8, [.nilFunc]⟩
  | 89 => some ⟨.int .u64, 1, 8, [.int .u64 0]⟩
  | 91 => some ⟨.func, 1, 8, [.nilFunc]⟩
  | 92 => some ⟨.func, 1, 8, [.nilFunc]⟩
  | 93 => some ⟨.func, 1, 8, [.nilFunc]⟩
  | 94 => some ⟨.func, 1, 8, [.nilFunc]⟩
  | 95 => some ⟨.func, 1, 8, [.nilFunc]⟩
  | 96 => some ⟨.int .u64, 1, 8, [.int .u64 0]⟩
  | 97 => some ⟨.func, 1, 8, [.nilFunc]⟩
  | 98 => some ⟨.func, 1, 8, [.nilFunc]⟩
  | 99 => some ⟨.func, 1, 8, [.nilFunc]⟩
  | 100 => some ⟨.func, 1, 8, [.nilFunc]⟩
  | 101 => some ⟨.func, 1, 8, [.nilFunc]⟩
  | 102 => some ⟨.func, 1, 8, [.nilFunc]⟩
  | 104 => some ⟨.func, 1, 8, [.nilFunc]⟩
  | 105 => some ⟨.func, 1, 8, [.nilFunc]⟩
  | 107 => some ⟨.func, 1, 8, [.nilFunc]⟩
  | 109 => some ⟨.func, 1, 8, [.nilFunc]⟩
  | 110 => some ⟨.func, 1, 8, [.nilFunc]⟩
  | 111 => some ⟨.func, 1, 8, [.nilFunc]⟩
  | 112 => some ⟨.func, 1, 8, [.nilFunc]⟩
  | 114 => some ⟨.func, 1, 8, [.nilFunc]⟩
  | 115 => some ⟨.array 16 32, 16, 64, [.int .u32 0, .int .u32 0, .int .u32 0, .int .u32 0, .int .u32 0, .int .u32 0, .int .u32 0, .int .u32 0, .int .u32 0, .int .u32 0, .int .u32 0, .int .u32 0, .int .u32 0, .int .u32 0, .int .u32 0, .int .u32 0]⟩
  | 116 => some ⟨.slice 36, 1, 24, [.slice none 0 0]⟩
  | 117 => some ⟨.func, 1, 8, [.nilFunc]⟩
  | 118 => some ⟨.func, 1, 8, [.nilFunc]⟩
  | 119 => some ⟨.func, 1, 8, [.nilFunc]⟩
  | 120 => some ⟨.array 4 3, 4, 32, [.int .i64 0, .int .i64 0, .int .i64 0, .int .i64 0]⟩
  | 121 => some ⟨.func, 1, 8, [.nilFunc]⟩
  | 122 => some ⟨.func, 1, 8, [.nilFunc]⟩
  | 123 => some ⟨.func, 1, 8, [.nilFunc]⟩
  | 124 => some ⟨.struct [(0, 17), (1, 17), (2, 17), (3, 9)], 4, 40, [.pointer none, .pointer none, .pointer none, .string ByteArray.empty]⟩
  | 125 => some ⟨.struct [(0, 17), (1, 17), (2, 17), (3, 9)], 4, 40, [.pointer none, .pointer none, .pointer none, .string ByteArray.empty]⟩
  | 126 => some ⟨.array 0 16, 0, 0, []⟩
  | 127 => some ⟨.struct [(0, 126)], 0, 0, []⟩
  | 128 => some ⟨.struct [(0, 126)], 0, 0, []⟩
  | 129 => some ⟨.int .u8, 1, 1, [.int .u8 0]⟩
  | 130 => some ⟨.int .u8, 1, 1, [.int .u8 0]⟩
  | 131 => some ⟨.func, 1, 8, [.nilFunc]⟩
  | 132 => some ⟨.ptr 5, 1, 8, [.pointer none]⟩
  | 133 => some ⟨.int .i32, 1, 4, [.int .i32 0]⟩
  | 134 => some ⟨.int .i32, 1, 4, [.int .i32 0]⟩
  | 135 => some ⟨.struct [(0, 12), (1, 12), (2, 32), (3, 129), (4, 5), (5, 5), (6, 130), (7, 131), (8, 132), (9, 133), (10, 134)], 11, 48, [.int .u64 0, .int .u64 0, .int .u32 0, .int .u8 0, .int .u8 0, .int .u8 0, .int .u8 0, .nilFunc, .pointer none, .int .i32 0, .int .i32 0]⟩
  | 136 => some ⟨.struct [(0, 12), (1, 12), (2, 32), (3, 129), (4, 5), (5, 5), (6, 130), (7, 131), (8, 132), (9, 133), (10, 134)], 11, 48, [.int .u64 0, .int .u64 0, .int .u32 0, .int .u8 0, .int .u8 0, .int .u8 0, .int .u8 0, .nilFunc, .pointer none, .int .i32 0, .int .i32 0]⟩
  | _ => none
theorem ti1 : TIok Tryd.prog 1 ⟨.func, 1, 8, [.nilFunc]⟩ := ⟨⟨_, _, _, Tryd.underlying1⟩, ⟨(.nilFunc), by kernel_rfl, rfl⟩, rfl⟩
theorem ti2 : TIok Tryd.prog 2 ⟨.int .i64, 1, 8, [.int .i64 0]⟩ := ⟨Tryd.underlying2, ⟨(.int .i64 0), by kernel_rfl, rfl⟩, rfl⟩
theorem ti3 : TIok Tryd.prog 3 ⟨.int .i64, 1, 8, [.int .i64 0]⟩ := ⟨Tryd.underlying3, ⟨(.int .i64 0), by kernel_rfl, rfl⟩, rfl⟩
theorem ti4 : TIok Tryd.prog 4 ⟨.bool, 1, 1, [.bool false]⟩ := ⟨Tryd.underlying4, ⟨(.bool false), by kernel_rfl, rfl⟩, rfl⟩
theorem ti5 : TIok Tryd.prog 5 ⟨.int .u8, 1, 1, [.int .u8 0]⟩ := ⟨Tryd.underlying5, ⟨(.int .u8 0), by kernel_rfl, rfl⟩, rfl⟩
theorem ti6 : TIok Tryd.prog 6 ⟨.int .u8, 1, 1, [.int .u8 0]⟩ := ⟨Tryd.underlying6, ⟨(.int .u8 0), by kernel_rfl, rfl⟩, rfl⟩
theorem ti7 : TIok Tryd.prog 7 ⟨.struct [(0, 2), (1, 3), (2, 4), (3, 6)], 4, 24, [.int .i64 0, .int .i64 0, .bool false, .int .u8 0]⟩ := ⟨⟨_, Tryd.underlying7, rfl⟩, ⟨(.agg #[.int .i64 0, .int .i64 0, .bool false, .int .u8 0]), by kernel_rfl, rfl⟩, rfl⟩
theorem ti8 : TIok Tryd.prog 8 ⟨.struct [(0, 2), (1, 3), (2, 4), (3, 6)], 4, 24, [.int .i64 0, .int .i64 0, .bool false, .int .u8 0]⟩ := ⟨⟨_, Tryd.underlying8, rfl⟩, ⟨(.agg #[.int .i64 0, .int .i64 0, .bool false, .int .u8 0]), by kernel_rfl, rfl⟩, rfl⟩
theorem ti9 : TIok Tryd.prog 9 ⟨.string, 1, 16, [.string ByteArray.empty]⟩ := ⟨Tryd.underlying9, ⟨(.string ByteArray.empty), by kernel_rfl, rfl⟩, rfl⟩
theorem ti10 : TIok Tryd.prog 10 ⟨.string, 1, 16, [.string ByteArray.empty]⟩ := ⟨Tryd.underlying10, ⟨(.string ByteArray.empty), by kernel_rfl, rfl⟩, rfl⟩
theorem ti11 : TIok Tryd.prog 11 ⟨.string, 1, 16, [.string ByteArray.empty]⟩ := ⟨Tryd.underlying11, ⟨(.string ByteArray.empty), by kernel_rfl, rfl⟩, rfl⟩
theorem ti12 : TIok Tryd.prog 12 ⟨.int .u64, 1, 8, [.int .u64 0]⟩ := ⟨Tryd.underlying12, ⟨(.int .u64 0), by kernel_rfl, rfl⟩, rfl⟩
theorem ti13 : TIok Tryd.prog 13 ⟨.struct [(0, 9), (1, 12)], 2, 24, [.string ByteArray.empty, .int .u64 0]⟩ := ⟨⟨_, Tryd.underlying13, rfl⟩, ⟨(.agg #[.string ByteArray.empty, .int .u64 0]), by kernel_rfl, rfl⟩, rfl⟩
theorem ti14 : TIok Tryd.prog 14 ⟨.struct [(0, 9), (1, 12)], 2, 24, [.string ByteArray.empty, .int .u64 0]⟩ := ⟨⟨_, Tryd.underlying14, rfl⟩, ⟨(.agg #[.string ByteArray.empty, .int .u64 0]), by kernel_rfl, rfl⟩, rfl⟩
theorem ti15 : TIok Tryd.prog 15 ⟨.ptr 125, 1, 8, [.pointer none]⟩ := ⟨Tryd.underlying15, ⟨(.pointer none), by kernel_rfl, rfl⟩, rfl⟩
theorem ti16 : TIok Tryd.prog 16 ⟨.ptr 128, 1, 8, [.pointer none]⟩ := ⟨Tryd.underlying16, ⟨(.pointer none), by kernel_rfl, rfl⟩, rfl⟩
theorem ti17 : TIok Tryd.prog 17 ⟨.ptr 136, 1, 8, [.pointer none]⟩ := ⟨Tryd.underlying17, ⟨(.pointer none), by kernel_rfl, rfl⟩, rfl⟩
theorem ti18 : TIok Tryd.prog 18 ⟨.struct [(0, 17)], 1, 8, [.pointer none]⟩ := ⟨⟨_, Tryd.underlying18, rfl⟩, ⟨(.agg #[.pointer none]), by kernel_rfl, rfl⟩, rfl⟩
theorem ti19 : TIok Tryd.prog 19 ⟨.struct [(0, 17)], 1, 8, [.pointer none]⟩ := ⟨⟨_, Tryd.underlying19, rfl⟩, ⟨(.agg #[.pointer none]), by kernel_rfl, rfl⟩, rfl⟩
theorem ti21 : TIok Tryd.prog 21 ⟨.int .i32, 1, 4, [.int .i32 0]⟩ := ⟨Tryd.underlying21, ⟨(.int .i32 0), by kernel_rfl, rfl⟩, rfl⟩
theorem ti22 : TIok Tryd.prog 22 ⟨.slice 38, 1, 24, [.slice none 0 0]⟩ := ⟨Tryd.underlying22, ⟨(.slice none 0 0), by kernel_rfl, rfl⟩, rfl⟩
theorem ti23 : TIok Tryd.prog 23 ⟨.func, 1, 8, [.nilFunc]⟩ := ⟨⟨_, _, _, Tryd.underlying23⟩, ⟨(.nilFunc), by kernel_rfl, rfl⟩, rfl⟩
theorem ti24 : TIok Tryd.prog 24 ⟨.ptr 75, 1, 8, [.pointer none]⟩ := ⟨Tryd.underlying24, ⟨(.pointer none), by kernel_rfl, rfl⟩, rfl⟩
theorem ti25 : TIok Tryd.prog 25 ⟨.int .i64, 1, 8, [.int .i64 0]⟩ := ⟨Tryd.underlying25, ⟨(.int .i64 0), by kernel_rfl, rfl⟩, rfl⟩
theorem ti27 : TIok Tryd.prog 27 ⟨.func, 1, 8, [.nilFunc]⟩ := ⟨⟨_, _, _, Tryd.underlying27⟩, ⟨(.nilFunc), by kernel_rfl, rfl⟩, rfl⟩
theorem ti28 : TIok Tryd.prog 28 ⟨.ptr 77, 1, 8, [.pointer none]⟩ := ⟨Tryd.underlying28, ⟨(.pointer none), by kernel_rfl, rfl⟩, rfl⟩
theorem ti30 : TIok Tryd.prog 30 ⟨.func, 1, 8, [.nilFunc]⟩ := ⟨⟨_, _, _, Tryd.underlying30⟩, ⟨(.nilFunc), by kernel_rfl, rfl⟩, rfl⟩
theorem ti31 : TIok Tryd.prog 31 ⟨.func, 1, 8, [.nilFunc]⟩ := ⟨⟨_, _, _, Tryd.underlying31⟩, ⟨(.nilFunc), by kernel_rfl, rfl⟩, rfl⟩
theorem ti32 : TIok Tryd.prog 32 ⟨.int .u32, 1, 4, [.int .u32 0]⟩ := ⟨Tryd.underlying32, ⟨(.int .u32 0), by kernel_rfl, rfl⟩, rfl⟩
theorem ti33 : TIok Tryd.prog 33 ⟨.func, 1, 8, [.nilFunc]⟩ := ⟨⟨_, _, _, Tryd.underlying33⟩, ⟨(.nilFunc), by kernel_rfl, rfl⟩, rfl⟩
theorem ti34 : TIok Tryd.prog 34 ⟨.func, 1, 8, [.nilFunc]⟩ := ⟨⟨_, _, _, Tryd.underlying34⟩, ⟨(.nilFunc), by kernel_rfl, rfl⟩, rfl⟩
theorem ti35 : TIok Tryd.prog 35 ⟨.slice 43, 1, 24, [.slice none 0 0]⟩ := ⟨Tryd.underlying35, ⟨(.slice none 0 0), by kernel_rfl, rfl⟩, rfl⟩
theorem ti36 : TIok Tryd.prog 36 ⟨.slice 5, 1, 24, [.slice none 0 0]⟩ := ⟨Tryd.underlying36, ⟨(.slice none 0 0), by kernel_rfl, rfl⟩, rfl⟩
theorem ti37 : TIok Tryd.prog 37 ⟨.struct [(0, 3), (1, 3), (2, 3), (3, 36), (4, 36)], 5, 72, [.int .i64 0, .int .i64 0, .int .i64 0, .slice none 0 0, .slice none 0 0]⟩ := ⟨⟨_, Tryd.underlying37, rfl⟩, ⟨(.agg #[.int .i64 0, .int .i64 0, .int .i64 0, .slice none 0 0, .slice none 0 0]), by kernel_rfl, rfl⟩, rfl⟩
theorem ti38 : TIok Tryd.prog 38 ⟨.struct [(0, 3), (1, 3), (2, 3), (3, 36), (4, 36)], 5, 72, [.int .i64 0, .int .i64 0, .int .i64 0, .slice none 0 0, .slice none 0 0]⟩ := ⟨⟨_, Tryd.underlying38, rfl⟩, ⟨(.agg #[.int .i64 0, .int .i64 0, .int .i64 0, .slice none 0 0, .slice none 0 0]), by kernel_rfl, rfl⟩, rfl⟩
theorem ti39 : TIok Tryd.prog 39 ⟨.func, 1, 8, [.nilFunc]⟩ := ⟨⟨_, _, _, Tryd.underlying39⟩, ⟨(.nilFunc), by kernel_rfl, rfl⟩, rfl⟩
theorem ti40 : TIok Tryd.prog 40 ⟨.func, 1, 8, [.nilFunc]⟩ := ⟨⟨_, _, _, Tryd.underlying40⟩, ⟨(.nilFunc), by kernel_rfl, rfl⟩, rfl⟩
theorem ti41 : TIok Tryd.prog 41 ⟨.func, 1, 8, [.nilFunc]⟩ := ⟨⟨_, _, _, Tryd.underlying41⟩, ⟨(.nilFunc), by kernel_rfl, rfl⟩, rfl⟩
theorem ti42 : TIok Tryd.prog 42 ⟨.struct [(0, 36), (1, 36), (2, 4)], 3, 56, [.slice none 0 0, .slice none 0 0, .bool false]⟩ := ⟨⟨_, Tryd.underlying42, rfl⟩, ⟨(.agg #[.slice none 0 0, .slice none 0 0, .bool false]), by kernel_rfl, rfl⟩, rfl⟩
theorem ti43 : TIok Tryd.prog 43 ⟨.struct [(0, 36), (1, 36), (2, 4)], 3, 56, [.slice none 0 0, .slice none 0 0, .bool false]⟩ := ⟨⟨_, Tryd.underlying43, rfl⟩, ⟨(.agg #[.slice none 0 0, .slice none 0 0, .bool false]), by kernel_rfl, rfl⟩, rfl⟩
theorem ti45 : TIok Tryd.prog 45 ⟨.func, 1, 8, [.nilFunc]⟩ := ⟨⟨_, _, _, Tryd.underlying45⟩, ⟨(.nilFunc), by kernel_rfl, rfl⟩, rfl⟩
theorem ti47 : TIok Tryd.prog 47 ⟨.func, 1, 8, [.nilFunc]⟩ := ⟨⟨_, _, _, Tryd.underlying47⟩, ⟨(.nilFunc), by kernel_rfl, rfl⟩, rfl⟩
theorem ti48 : TIok Tryd.prog 48 ⟨.func, 1, 8, [.nilFunc]⟩ := ⟨⟨_, _, _, Tryd.underlying48⟩, ⟨(.nilFunc), by kernel_rfl, rfl⟩, rfl⟩
theorem ti49 : TIok Tryd.prog 49 ⟨.func, 1, 8, [.nilFunc]⟩ := ⟨⟨_, _, _, Tryd.underlying49⟩, ⟨(.nilFunc), by kernel_rfl, rfl⟩, rfl⟩
theorem ti50 : TIok Tryd.prog 50 ⟨.func, 1, 8, [.nilFunc]⟩ := ⟨⟨_, _, _, Tryd.underlying50⟩, ⟨(.nilFunc), by kernel_rfl, rfl⟩, rfl⟩
theorem ti51 : TIok Tryd.prog 51 ⟨.func, 1, 8, [.nilFunc]⟩ := ⟨⟨_, _, _, Tryd.underlying51⟩, ⟨(.nilFunc), by kernel_rfl, rfl⟩, rfl⟩
theorem ti53 : TIok Tryd.prog 53 ⟨.func, 1, 8, [.nilFunc]⟩ := ⟨⟨_, _, _, Tryd.underlying53⟩, ⟨(.nilFunc), by kernel_rfl, rfl⟩, rfl⟩
theorem ti54 : TIok Tryd.prog 54 ⟨.func, 1, 8, [.nilFunc]⟩ := ⟨⟨_, _, _, Tryd.underlying54⟩, ⟨(.nilFunc), by kernel_rfl, rfl⟩, rfl⟩
theorem ti55 : TIok Tryd.prog 55 ⟨.func, 1, 8, [.nilFunc]⟩ := ⟨⟨_, _, _, Tryd.underlying55⟩, ⟨(.nilFunc), by kernel_rfl, rfl⟩, rfl⟩
theorem ti56 : TIok Tryd.prog 56 ⟨.func, 1, 8, [.nilFunc]⟩ := ⟨⟨_, _, _, Tryd.underlying56⟩, ⟨(.nilFunc), by kernel_rfl, rfl⟩, rfl⟩
theorem ti57 : TIok Tryd.prog 57 ⟨.func, 1, 8, [.nilFunc]⟩ := ⟨⟨_, _, _, Tryd.underlying57⟩, ⟨(.nilFunc), by kernel_rfl, rfl⟩, rfl⟩
theorem ti58 : TIok Tryd.prog 58 ⟨.func, 1, 8, [.nilFunc]⟩ := ⟨⟨_, _, _, Tryd.underlying58⟩, ⟨(.nilFunc), by kernel_rfl, rfl⟩, rfl⟩
theorem ti59 : TIok Tryd.prog 59 ⟨.struct [(0, 3), (1, 3), (2, 3), (3, 3)], 4, 32, [.int .i64 0, .int .i64 0, .int .i64 0, .int .i64 0]⟩ := ⟨⟨_, Tryd.underlying59, rfl⟩, ⟨(.agg #[.int .i64 0, .int .i64 0, .int .i64 0, .int .i64 0]), by kernel_rfl, rfl⟩, rfl⟩
theorem ti60 : TIok Tryd.prog 60 ⟨.struct [(0, 3), (1, 3), (2, 3), (3, 3)], 4, 32, [.int .i64 0, .int .i64 0, .int .i64 0, .int .i64 0]⟩ := ⟨⟨_, Tryd.underlying60, rfl⟩, ⟨(.agg #[.int .i64 0, .int .i64 0, .int .i64 0, .int .i64 0]), by kernel_rfl, rfl⟩, rfl⟩
theorem ti61 : TIok Tryd.prog 61 ⟨.struct [(0, 35), (1, 3), (2, 4), (3, 25)], 4, 48, [.slice none 0 0, .int .i64 0, .bool false, .int .i64 0]⟩ := ⟨⟨_, Tryd.underlying61, rfl⟩, ⟨(.agg #[.slice none 0 0, .int .i64 0, .bool false, .int .i64 0]), by kernel_rfl, rfl⟩, rfl⟩
theorem ti62 : TIok Tryd.prog 62 ⟨.struct [(0, 35), (1, 3), (2, 4), (3, 25)], 4, 48, [.slice none 0 0, .int .i64 0, .bool false, .int .i64 0]⟩ := ⟨⟨_, Tryd.underlying62, rfl⟩, ⟨(.agg #[.slice none 0 0, .int .i64 0, .bool false, .int .i64 0]), by kernel_rfl, rfl⟩, rfl⟩
theorem ti64 : TIok Tryd.prog 64 ⟨.func, 1, 8, [.nilFunc]⟩ := ⟨⟨_, _, _, Tryd.underlying64⟩, ⟨(.nilFunc), by kernel_rfl, rfl⟩, rfl⟩
theorem ti65 : TIok Tryd.prog 65 ⟨.func, 1, 8, [.nilFunc]⟩ := ⟨⟨_, _, _, Tryd.underlying65⟩, ⟨(.nilFunc), by kernel_rfl, rfl⟩, rfl⟩
theorem ti66 : TIok Tryd.prog 66 ⟨.func, 1, 8, [.nilFunc]⟩ := ⟨⟨_, _, _, Tryd.underlying66⟩, ⟨(.nilFunc), by kernel_rfl, rfl⟩, rfl⟩
theorem ti67 : TIok Tryd.prog 67 ⟨.int .u16, 1, 2, [.int .u16 0]⟩ := ⟨Tryd.underlying67, ⟨(.int .u16 0), by kernel_rfl, rfl⟩, rfl⟩
theorem ti68 : TIok Tryd.prog 68 ⟨.slice 72, 1, 24, [.slice none 0 0]⟩ := ⟨Tryd.underlying68, ⟨(.slice none 0 0), by kernel_rfl, rfl⟩, rfl⟩
theorem ti70 : TIok Tryd.prog 70 ⟨.func, 1, 8, [.nilFunc]⟩ := ⟨⟨_, _, _, Tryd.underlying70⟩, ⟨(.nilFunc), by kernel_rfl, rfl⟩, rfl⟩
theorem ti71 : TIok Tryd.prog 71 ⟨.func, 1, 8, [.nilFunc]⟩ := ⟨⟨_, _, _, Tryd.underlying71⟩, ⟨(.nilFunc), by kernel_rfl, rfl⟩, rfl⟩
theorem ti72 : TIok Tryd.prog 72 ⟨.struct [(0, 36), (1, 36), (2, 4)], 3, 56, [.slice none 0 0, .slice none 0 0, .bool false]⟩ := ⟨⟨_, Tryd.underlying72, rfl⟩, ⟨(.agg #[.slice none 0 0, .slice none 0 0, .bool false]), by kernel_rfl, rfl⟩, rfl⟩
theorem ti73 : TIok Tryd.prog 73 ⟨.func, 1, 8, [.nilFunc]⟩ := ⟨⟨_, _, _, Tryd.underlying73⟩, ⟨(.nilFunc), by kernel_rfl, rfl⟩, rfl⟩
theorem ti74 : TIok Tryd.prog 74 ⟨.struct [(0, 36), (1, 3), (2, 3), (3, 3), (4, 4), (5, 3)], 6, 64, [.slice none 0 0, .int .i64 0, .int .i64 0, .int .i64 0, .bool false, .int .i64 0]⟩ := ⟨⟨_, Tryd.underlying74, rfl⟩, ⟨(.agg #[.slice none 0 0, .int .i64 0, .int .i64 0, .int .i64 0, .bool false, .int .i64 0]), by kernel_rfl, rfl⟩, rfl⟩
theorem ti75 : TIok Tryd.prog 75 ⟨.struct [(0, 36), (1, 3), (2, 3), (3, 3), (4, 4), (5, 3)], 6, 64, [.slice none 0 0, .int .i64 0, .int .i64 0, .int .i64 0, .bool false, .int .i64 0]⟩ := ⟨⟨_, Tryd.underlying75, rfl⟩, ⟨(.agg #[.slice none 0 0, .int .i64 0, .int .i64 0, .int .i64 0, .bool false, .int .i64 0]), by kernel_rfl, rfl⟩, rfl⟩
theorem ti76 : TIok Tryd.prog 76 ⟨.struct [(0, 24), (1, 3), (2, 3)], 3, 24, [.pointer none, .int .i64 0, .int .i64 0]⟩ := ⟨⟨_, Tryd.underlying76, rfl⟩, ⟨(.agg #[.pointer none, .int .i64 0, .int .i64 0]), by kernel_rfl, rfl⟩, rfl⟩
theorem ti77 : TIok Tryd.prog 77 ⟨.struct [(0, 24), (1, 3), (2, 3)], 3, 24, [.pointer none, .int .i64 0, .int .i64 0]⟩ := ⟨⟨_, Tryd.underlying77, rfl⟩, ⟨(.agg #[.pointer none, .int .i64 0, .int .i64 0]), by kernel_rfl, rfl⟩, rfl⟩
theorem ti78 : TIok Tryd.prog 78 ⟨.func, 1, 8, [.nilFunc]⟩ := ⟨⟨_, _, _, Tryd.underlying78⟩, ⟨(.nilFunc), by kernel_rfl, rfl⟩, rfl⟩
theorem ti79 : TIok Tryd.prog 79 ⟨.func, 1, 8, [.nilFunc]⟩ := ⟨⟨_, _, _, Tryd.underlying79⟩, ⟨(.nilFunc), by kernel_rfl, rfl⟩, rfl⟩
theorem ti80 : TIok Tryd.prog 80 ⟨.slice 3, 1, 24, [.slice none 0 0]⟩ := ⟨Tryd.underlying80, ⟨(.slice none 0 0), by kernel_rfl, rfl⟩, rfl⟩
theorem ti82 : TIok Tryd.prog 82 ⟨.func, 1, 8, [.nilFunc]⟩ := ⟨⟨_, _, _, Tryd.underlying82⟩, ⟨(.nilFunc), by kernel_rfl, rfl⟩, rfl⟩
theorem ti83 : TIok Tryd.prog 83 ⟨.func, 1, 8, [.nilFunc]⟩ := ⟨⟨_, _, _, Tryd.underlying83⟩, ⟨(.nilFunc), by kernel_rfl, rfl⟩, rfl⟩
theorem ti84 : TIok Tryd.prog 84 ⟨.func, 1, 8, [.nilFunc]⟩ := ⟨⟨_, _, _, Tryd.underlying84⟩, ⟨(.nilFunc), by kernel_rfl, rfl⟩, rfl⟩
theorem ti86 : TIok Tryd.prog 86 ⟨.func, 1, 8, [.nilFunc]⟩ := ⟨⟨_, _, _, Tryd.underlying86⟩, ⟨(.nilFunc), by kernel_rfl, rfl⟩, rfl⟩
theorem ti87 : TIok Tryd.prog 87 ⟨.func, 1, 8, [.nilFunc]⟩ := ⟨⟨_, _, _, Tryd.underlying87⟩, ⟨(.nilFunc), by kernel_rfl, rfl⟩, rfl⟩
theorem ti88 : TIok Tryd.prog 88 ⟨.func, 1, 8, [.nilFunc]⟩ := ⟨⟨_, _, _, Tryd.underlying88⟩, ⟨(.nilFunc), by kernel_rfl, rfl⟩, rfl⟩
theorem ti89 : TIok Tryd.prog 89 ⟨.int .u64, 1, 8, [.int .u64 0]⟩ := ⟨Tryd.underlying89, ⟨(.int .u64 0), by kernel_rfl, rfl⟩, rfl⟩
theorem ti91 : TIok Tryd.prog 91 ⟨.func, 1, 8, [.nilFunc]⟩ := ⟨⟨_, _, _, Tryd.underlying91⟩, ⟨(.nilFunc), by kernel_rfl, rfl⟩, rfl⟩
theorem ti92 : TIok Tryd.prog 92 ⟨.func, 1, 8, [.nilFunc]⟩ := ⟨⟨_, _, _, Tryd.underlying92⟩, ⟨(.nilFunc), by kernel_rfl, rfl⟩, rfl⟩
theorem ti93 : TIok Tryd.prog 93 ⟨.func, 1, 8, [.nilFunc]⟩ := ⟨⟨_, _, _, Tryd.underlying93⟩, ⟨(.nilFunc), by kernel_rfl, rfl⟩, rfl⟩
theorem ti94 : TIok Tryd.prog 94 ⟨.func, 1, 8, [.nilFunc]⟩ := ⟨⟨_, _, _, Tryd.underlying94⟩, ⟨(.nilFunc), by kernel_rfl, rfl⟩, rfl⟩
theorem ti95 : TIok Tryd.prog 95 ⟨.func, 1, 8, [.nilFunc]⟩ := ⟨⟨_, _, _, Tryd.underlying95⟩, ⟨(.nilFunc), by kernel_rfl, rfl⟩, rfl⟩
theorem ti96 : TIok Tryd.prog 96 ⟨.int .u64, 1, 8, [.int .u64 0]⟩ := ⟨Tryd.underlying96, ⟨(.int .u64 0), by kernel_rfl, rfl⟩, rfl⟩
theorem ti97 : TIok Tryd.prog 97 ⟨.func, 1, 8, [.nilFunc]⟩ := ⟨⟨_, _, _, Tryd.underlying97⟩, ⟨(.nilFunc), by kernel_rfl, rfl⟩, rfl⟩
theorem ti98 : TIok Tryd.prog 98 ⟨.func, 1, 8, [.nilFunc]⟩ := ⟨⟨_, _, _, Tryd.underlying98⟩, ⟨(.nilFunc), by kernel_rfl, rfl⟩, rfl⟩
theorem ti99 : TIok Tryd.prog 99 ⟨.func, 1, 8, [.nilFunc]⟩ := ⟨⟨_, _, _, Tryd.underlying99⟩, ⟨(.nilFunc), by kernel_rfl, rfl⟩, rfl⟩
theorem ti100 : TIok Tryd.prog 100 ⟨.func, 1, 8, [.nilFunc]⟩ := ⟨⟨_, _, _, Tryd.underlying100⟩, ⟨(.nilFunc), by kernel_rfl, rfl⟩, rfl⟩
theorem ti101 : TIok Tryd.prog 101 ⟨.func, 1, 8, [.nilFunc]⟩ := ⟨⟨_, _, _, Tryd.underlying101⟩, ⟨(.nilFunc), by kernel_rfl, rfl⟩, rfl⟩
theorem ti102 : TIok Tryd.prog 102 ⟨.func, 1, 8, [.nilFunc]⟩ := ⟨⟨_, _, _, Tryd.underlying102⟩, ⟨(.nilFunc), by kernel_rfl, rfl⟩, rfl⟩
theorem ti104 : TIok Tryd.prog 104 ⟨.func, 1, 8, [.nilFunc]⟩ := ⟨⟨_, _, _, Tryd.underlying104⟩, ⟨(.nilFunc), by kernel_rfl, rfl⟩, rfl⟩
theorem ti105 : TIok Tryd.prog 105 ⟨.func, 1, 8, [.nilFunc]⟩ := ⟨⟨_, _, _, Tryd.underlying105⟩, ⟨(.nilFunc), by kernel_rfl, rfl⟩, rfl⟩
theorem ti107 : TIok Tryd.prog 107 ⟨.func, 1, 8, [.nilFunc]⟩ := ⟨⟨_, _, _, Tryd.underlying107⟩, ⟨(.nilFunc), by kernel_rfl, rfl⟩, rfl⟩
theorem ti109 : TIok Tryd.prog 109 ⟨.func, 1, 8, [.nilFunc]⟩ := ⟨⟨_, _, _, Tryd.underlying109⟩, ⟨(.nilFunc), by kernel_rfl, rfl⟩, rfl⟩
theorem ti110 : TIok Tryd.prog 110 ⟨.func, 1, 8, [.nilFunc]⟩ := ⟨⟨_, _, _, Tryd.underlying110⟩, ⟨(.nilFunc), by kernel_rfl, rfl⟩, rfl⟩
theorem ti111 : TIok Tryd.prog 111 ⟨.func, 1, 8, [.nilFunc]⟩ := ⟨⟨_, _, _, Tryd.underlying111⟩, ⟨(.nilFunc), by kernel_rfl, rfl⟩, rfl⟩
theorem ti112 : TIok Tryd.prog 112 ⟨.func, 1, 8, [.nilFunc]⟩ := ⟨⟨_, _, _, Tryd.underlying112⟩, ⟨(.nilFunc), by kernel_rfl, rfl⟩, rfl⟩
theorem ti114 : TIok Tryd.prog 114 ⟨.func, 1, 8, [.nilFunc]⟩ := ⟨⟨_, _, _, Tryd.underlying114⟩, ⟨(.nilFunc), by kernel_rfl, rfl⟩, rfl⟩
theorem ti115 : TIok Tryd.prog 115 ⟨.array 16 32, 16, 64, [.int .u32 0, .int .u32 0, .int .u32 0, .int .u32 0, .int .u32 0, .int .u32 0, .int .u32 0, .int .u32 0, .int .u32 0, .int .u32 0, .int .u32 0, .int .u32 0, .int .u32 0, .int .u32 0, .int .u32 0, .int .u32 0]⟩ := ⟨Tryd.underlying115, ⟨(.agg #[.int .u32 0, .int .u32 0, .int .u32 0, .int .u32 0, .int .u32 0, .int .u32 0, .int .u32 0, .int .u32 0, .int .u32 0, .int .u32 0, .int .u32 0, .int .u32 0, .int .u32 0, .int .u32 0, .int .u32 0, .int .u32 0]), by kernel_rfl, rfl⟩, rfl⟩
theorem ti116 : TIok Tryd.prog 116 ⟨.slice 36, 1, 24, [.slice none 0 0]⟩ := ⟨Tryd.underlying116, ⟨(.slice none 0 0), by kernel_rfl, rfl⟩, rfl⟩
theorem ti117 : TIok Tryd.prog 117 ⟨.func, 1, 8, [.nilFunc]⟩ := ⟨⟨_, _, _, Tryd.underlying117⟩, ⟨(.nilFunc), by kernel_rfl, rfl⟩, rfl⟩
theorem ti118 : TIok Tryd.prog 118 ⟨.func, 1, 8, [.nilFunc]⟩ := ⟨⟨_, _, _, Tryd.underlying118⟩, ⟨(.nilFunc), by kernel_rfl, rfl⟩, rfl⟩
theorem ti119 : TIok Tryd.prog 119 ⟨.func, 1, 8, [.nilFunc]⟩ := ⟨⟨_, _, _, Tryd.underlying119⟩, ⟨(.nilFunc), by kernel_rfl, rfl⟩, rfl⟩
theorem ti120 : TIok Tryd.prog 120 ⟨.array 4 3, 4, 32, [.int .i64 0, .int .i64 0, .int .i64 0, .int .i64 0]⟩ := ⟨Tryd.underlying120, ⟨(.agg #[.int .i64 0, .int .i64 0, .int .i64 0, .int .i64 0]), by kernel_rfl, rfl⟩, rfl⟩
theorem ti121 : TIok Tryd.prog 121 ⟨.func, 1, 8, [.nilFunc]⟩ := ⟨⟨_, _, _, Tryd.underlying121⟩, ⟨(.nilFunc), by kernel_rfl, rfl⟩, rfl⟩
theorem ti122 : TIok Tryd.prog 122 ⟨.func, 1, 8, [.nilFunc]⟩ := ⟨⟨_, _, _, Tryd.underlying122⟩, ⟨(.nilFunc), by kernel_rfl, rfl⟩, rfl⟩
theorem ti123 : TIok Tryd.prog 123 ⟨.func, 1, 8, [.nilFunc]⟩ := ⟨⟨_, _, _, Tryd.underlying123⟩, ⟨(.nilFunc), by kernel_rfl, rfl⟩, rfl⟩
theorem ti124 : TIok Tryd.prog 124 ⟨.struct [(0, 17), (1, 17), (2, 17), (3, 9)], 4, 40, [.pointer none, .pointer none, .pointer none, .string ByteArray.empty]⟩ := ⟨⟨_, Tryd.underlying124, rfl⟩, ⟨(.agg #[.pointer none, .pointer none, .pointer none, .string ByteArray.empty]), by kernel_rfl, rfl⟩, rfl⟩
theorem ti125 : TIok Tryd.prog 125 ⟨.struct [(0, 17), (1, 17), (2, 17), (3, 9)], 4, 40, [.pointer none, .pointer none, .pointer none, .string ByteArray.empty]⟩ := ⟨⟨_, Tryd.underlying125, rfl⟩, ⟨(.agg #[.pointer none, .pointer none, .pointer none, .string ByteArray.empty]), by kernel_rfl, rfl⟩, rfl⟩
theorem ti126 : TIok Tryd.prog 126 ⟨.array 0 16, 0, 0, []⟩ := ⟨Tryd.underlying126, ⟨(.agg #[]), by kernel_rfl, rfl⟩, rfl⟩
theorem ti127 : TIok Tryd.prog 127 ⟨.struct [(0, 126)], 0, 0, []⟩ := ⟨⟨_, Tryd.underlying127, rfl⟩, ⟨(.agg #[]), by kernel_rfl, rfl⟩, rfl⟩
theorem ti128 : TIok Tryd.prog 128 ⟨.struct [(0, 126)], 0, 0, []⟩ := ⟨⟨_, Tryd.underlying128, rfl⟩, ⟨(.agg #[]), by kernel_rfl, rfl⟩, rfl⟩
theorem ti129 : TIok Tryd.prog 129 ⟨.int .u8, 1, 1, [.int .u8 0]⟩ := ⟨Tryd.underlying129, ⟨(.int .u8 0), by kernel_rfl, rfl⟩, rfl⟩
theorem ti130 : TIok Tryd.prog 130 ⟨.int .u8, 1, 1, [.int .u8 0]⟩ := ⟨Tryd.underlying130, ⟨(.int .u8 0), by kernel_rfl, rfl⟩, rfl⟩
theorem ti131 : TIok Tryd.prog 131 ⟨.func, 1, 8, [.nilFunc]⟩ := ⟨⟨_, _, _, Tryd.underlying131⟩, ⟨(.nilFunc), by kernel_rfl, rfl⟩, rfl⟩
theorem ti132 : TIok Tryd.prog 132 ⟨.ptr 5, 1, 8, [.pointer none]⟩ := ⟨Tryd.underlying132, ⟨(.pointer none), by kernel_rfl, rfl⟩, rfl⟩
theorem ti133 : TIok Tryd.prog 133 ⟨.int .i32, 1, 4, [.int .i32 0]⟩ := ⟨Tryd.underlying133, ⟨(.int .i32 0), by kernel_rfl, rfl⟩, rfl⟩
theorem ti134 : TIok Tryd.prog 134 ⟨.int .i32, 1, 4, [.int .i32 0]⟩ := ⟨Tryd.underlying134, ⟨(.int .i32 0), by kernel_rfl, rfl⟩, rfl⟩
theorem ti135 : TIok Tryd.prog 135 ⟨.struct [(0, 12), (1, 12), (2, 32), (3, 129), (4, 5), (5, 5), (6, 130), (7, 131), (8, 132), (9, 133), (10, 134)], 11, 48, [.int .u64 0, .int .u64 0, .int .u32 0, .int .u8 0, .int .u8 0, .int .u8 0, .int .u8 0, .nilFunc, .pointer none, .int .i32 0, .int .i32 0]⟩ := ⟨⟨_, Tryd.underlying135, rfl⟩, ⟨(.agg #[.int .u64 0, .int .u64 0, .int .u32 0, .int .u8 0, .int .u8 0, .int .u8 0, .int .u8 0, .nilFunc, .pointer none, .int .i32 0, .int .i32 0]), by kernel_rfl, rfl⟩, rfl⟩
theorem ti136 : TIok Tryd.prog 136 ⟨.struct [(0, 12), (1, 12), (2, 32), (3, 129), (4, 5), (5, 5), (6, 130), (7, 131), (8, 132), (9, 133), (10, 134)], 11, 48, [.int .u64 0, .int .u64 0, .int .u32 0, .int .u8 0, .int .u8 0, .int .u8 0, .int .u8 0, .nilFunc, .pointer none, .int .i32 0, .int .i32 0]⟩ := ⟨⟨_, Tryd.underlying136, rfl⟩, ⟨(.agg #[.int .u64 0, .int .u64 0, .int .u32 0, .int .u8 0, .int .u8 0, .int .u8 0, .int .u8 0, .nilFunc, .pointer none, .int .i32 0, .int .i32 0]), by kernel_rfl, rfl⟩, rfl⟩
theorem tbOk : TbOk Tryd.prog tb := by
  intro t ti h
  unfold tb at h
  split at h
  · cases h; exact ti1
  · cases h; exact ti2
  · cases h; exact ti3
  · cases h; exact ti4
  · cases h; exact ti5
  · cases h; exact ti6
  · cases h; exact ti7
  · cases h; exact ti8
  · cases h; exact ti9
  · cases h; exact ti10
  · cases h; exact ti11
  · cases h; exact ti12
  · cases h; exact ti13
  · cases h; exact ti14
  · cases h; exact ti15
  · cases h; exact ti16
  · cases h; exact ti17
  · cases h; exact ti18
  · cases h; exact ti19
  · cases h; exact ti21
  · cases h; exact ti22
  · cases h; exact ti23
  · cases h; exact ti24
  · cases h; exact ti25
  · cases h; exact ti27
  · cases h; exact ti28
  · cases h; exact ti30
  · cases h; exact ti31
  · cases h; exact ti32
  · cases h; exact ti33
  · cases h; exact ti34
  · cases h; exact ti35
  · cases h; exact ti36
  · cases h; exact ti37
  · cases h; exact ti38
  · cases h; exact ti39
  · cases h; exact ti40
  · cases h; exact ti41
  · cases h; exact ti42
  · cases h; exact ti43
  · cases h; exact ti45
  · cases h; exact ti47
  · cases h; exact ti48
  · cases h; exact ti49
  · cases h; exact ti50
  · cases h; exact ti51
  · cases h; exact ti53
  · cases h; exact ti54
  · cases h; exact ti55
  · cases h; exact ti56
  · cases h; exact ti57
  · cases h; exact ti58
  · cases h; exact ti59
  · cases h; exact ti60
  · cases h; exact ti61
  · cases h; exact ti62
  · cases h; exact ti64
  · cases h; exact ti65
  · cases h; exact ti66
  · cases h; exact ti67
  · cases h; exact ti68
  · cases h; exact ti70
  · cases h; exact ti71
  · cases h; exact ti72
  · cases h; exact ti73
  · cases h; exact ti74
  · cases h; exact ti75
  · cases h; exact ti76
  · cases h; exact ti77
  · cases h; exact ti78
  · cases h; exact ti79
  · cases h; exact ti80
  · cases h; exact ti82
  · cases h; exact ti83
  · cases h; exact ti84
  · cases h; exact ti86
  · cases h; exact ti87
  · cases h; exact ti88
  · cases h; exact ti89
  · cases h; exact ti91
  · cases h; exact ti92
  · cases h; exact ti93
  · cases h; exact ti94
  · cases h; exact ti95
  · cases h; exact ti96
  · cases h; exact ti97
  · cases h; exact ti98
  · cases h; exact ti99
  · cases h; exact ti100
  · cases h; exact ti101
  · cases h; exact ti102
  · cases h; exact ti104
  · cases h; exact ti105
  · cases h; exact ti107
  · cases h; exact ti109
  · cases h; exact ti110
  · cases h; exact ti111
  · cases h; exact ti112
  · cases h; exact ti114
  · cases h; exact ti115
  · cases h; exact ti116
  · cases h; exact ti117
  · cases h; exact ti118
  · cases h; exact ti119
  · cases h; exact ti120
  · cases h; exact ti121
  · cases h; exact ti122
  · cases h; exact ti123
  · cases h; exact ti124
  · cases h; exact ti125
  · cases h; exact ti126
  · cases h; exact ti127
  · cases h; exact ti128
  · cases h; exact ti129
  · cases h; exact ti130
  · cases h; exact ti131
  · cases h; exact ti132
  · cases h; exact ti133
  · cases h; exact ti134
  · cases h; exact ti135
  · cases h; exact ti136
  · cases h
end Go.Proofs.YtddocchgikaahaaDoor
