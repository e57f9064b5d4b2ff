/- The table of the program's types, written by a program, with its proofs. Conditions: none. -/
import Derived.Test.YtjfenbkhgamidaaAb
import Derived.Test.YtjfenbkhgamidaaRows
namespace Go.Proofs.Ytjfenbkhgamidaa
def tb : TypeId → Option TI
  | 1 => some ⟨.func, 1, 8, [.nilFunc]⟩
  | 2 => some ⟨.int .i64, 1, 8, [.int .i64 0]⟩
  | 3 => some ⟨.int .i64, 1, 8, [.int .i64 0]⟩
  | 4 => some ⟨.bool, 1, 1, [.bool false]⟩
  | 5 => some ⟨.int .u8, 1, 1, [.int .u8 0]⟩
  | 6 => some ⟨.int .u8, 1, 1, [.int .u8 0]⟩
  | 7 => some ⟨.struct [(0, 2), (1, 3), (2, 4), (3, 6)], 4, 24, [.int .i64 0, .int .i64 0, .bool false, .int .u8 0]⟩
  | 8 => some ⟨.struct [(0, 2), (1, 3), (2, 4), (3, 6)], 4, 24, [.int .i64 0, .int .i64 0, .bool false, .int .u8 0]⟩
  | 9 => some ⟨.string, 1, 16, [.string ByteArray.empty]⟩
  | 10 => some ⟨.string, 1, 16, [.string ByteArray.empty]⟩
  | 11 => some ⟨.string, 1, 16, [.string ByteArray.empty]⟩
  | 12 => some ⟨.int .u64, 1, 8, [.int .u64 0]⟩
  | 13 => some ⟨.struct [(0, 9), (1, 12)], 2, 24, [.string ByteArray.empty, .int .u64 0]⟩
  | 14 => some ⟨.struct [(0, 9), (1, 12)], 2, 24, [.string ByteArray.empty, .int .u64 0]⟩
  | 15 => some ⟨.ptr 67, 1, 8, [.pointer none]⟩
  | 16 => some ⟨.ptr 70, 1, 8, [.pointer none]⟩
  | 17 => some ⟨.ptr 78, 1, 8, [.pointer none]⟩
  | 18 => some ⟨.struct [(0, 17)], 1, 8, [.pointer none]⟩
  | 19 => some ⟨.struct [(0, 17)], 1, 8, [.pointer none]⟩
  | 21 => some ⟨.int .i32, 1, 4, [.int .i32 0]⟩
  | 22 => some ⟨.slice 26, 1, 24, [.slice none 0 0]⟩
  | 23 => some ⟨.slice 5, 1, 24, [.slice none 0 0]⟩
  | 24 => some ⟨.func, 1, 8, [.nilFunc]⟩
  | 25 => some ⟨.struct [(0, 3), (1, 3), (2, 3), (3, 23)], 4, 48, [.int .i64 0, .int .i64 0, .int .i64 0, .slice none 0 0]⟩
  | 26 => some ⟨.struct [(0, 3), (1, 3), (2, 3), (3, 23)], 4, 48, [.int .i64 0, .int .i64 0, .int .i64 0, .slice none 0 0]⟩
  | 27 => some ⟨.func, 1, 8, [.nilFunc]⟩
  | 28 => some ⟨.ptr 50, 1, 8, [.pointer none]⟩
  | 29 => some ⟨.func, 1, 8, [.nilFunc]⟩
  | 30 => some ⟨.func, 1, 8, [.nilFunc]⟩
  | 31 => some ⟨.int .i64, 1, 8, [.int .i64 0]⟩
  | 33 => some ⟨.func, 1, 8, [.nilFunc]⟩
  | 34 => some ⟨.func, 1, 8, [.nilFunc]⟩
  | 35 => some ⟨.func, 1, 8, [.nilFunc]⟩
  | 36 => some ⟨.func, 1, 8, [.nilFunc]⟩
  | 37 => some ⟨.func, 1, 8, [.nilFunc]⟩
  | 38 => some ⟨.func, 1, 8, [.nilFunc]⟩
  | 40 => some ⟨.func, 1, 8, [.nilFunc]⟩
  | 41 => some ⟨.func, 1, 8, [.nilFunc]⟩
  | 42 => some ⟨.func, 1, 8, [.nilFunc]⟩
  | 43 => some ⟨.int .u16, 1, 2, [.int .u16 0]⟩
  | 44 => some ⟨.func, 1, 8, [.nilFunc]⟩
  | 45 => some ⟨.func, 1, 8, [.nilFunc]⟩
  | 47 => some ⟨.func, 1, 8, [.nilFunc]⟩
  | 48 => some ⟨.func, 1, 8, [.nilFunc]⟩
  | 49 => some ⟨.struct [(0, 23), (1, 3), (2, 3), (3, 3), (4, 4), (5, 3)], 6, 64, [.slice none 0 0, .int .i64 0, .int .i64 0, .int .i64 0, .bool false, .int .i64 0]⟩
  | 50 => some ⟨.struct [(0, 23), (1, 3), (2, 3), (3, 3), (4, 4), (5, 3)], 6, 64, [.slice none 0 0, .int .i64 0, .int .i64 0, .int .i64 0, .bool false, .int .i64 0]⟩
  | 51 => some ⟨.func, 1, 8, [.nilFunc]⟩
  | 52 => some ⟨.func, 1, 8, [.nilFunc]⟩
  | 53 => some ⟨.func, 1, 8, [.nilFunc]⟩
  | 54 => some ⟨.func, 1, 8, [.nilFunc]⟩
  | 55 => some ⟨.int .u64, 1, 8, [.int .u64 0]⟩
  | 57 => some ⟨.func, 1, 8, [.nilFunc]⟩
  | 58 => some ⟨.func, 1, 8, [.nilFunc]⟩
  | 59 => some ⟨.int .u32, 1, 4, [.int .u32 0]⟩
  | 61 => some ⟨.func, 1, 8, [.nilFunc]⟩
  | 62 => some ⟨.int .u64, 1, 8, [.int .u64 0]⟩
  | 64 => some ⟨.func, 1, 8, [.nilFunc]⟩
  | 65 => some ⟨.func, 1, 8, [.nilFunc]⟩
  | 66 => some ⟨.struct [(0, 17), (1, 17), (2, 17), (3, 9)], 4, 40, [.pointer none, .pointer none, .pointer none, .string ByteArray.empty]⟩
  | 67 => some ⟨.struct [(0, 17), (1, 17), (2, 17), (3, 9)], 4, 40, [.pointer none, .pointer none, .pointer none, .string ByteArray.empty]⟩
  | 68 => some ⟨.array 0 16, 0, 0, []⟩
  | 69 => some ⟨.struct [(0, 68)], 0, 0, []⟩
  | 70 => some ⟨.struct [(0, 68)], 0, 0, []⟩
  | 71 => some ⟨.int .u8, 1, 1, [.int .u8 0]⟩
  | 72 => some ⟨.int .u8, 1, 1, [.int .u8 0]⟩
  | 73 => some ⟨.func, 1, 8, [.nilFunc]⟩
  | 74 => some ⟨.ptr 5, 1, 8, [.pointer none]⟩
  | 75 => some ⟨.int .i32, 1, 4, [.int .i32 0]⟩
  | 76 => some ⟨.int .i32, 1, 4, [.int .i32 0]⟩
  | 77 => some ⟨.struct [(0, 12), (1, 12), (2, 59), (3, 71), (4, 5), (5, 5), (6, 72), (7, 73), (8, 74), (9, 75), (10, 76)], 11, 48, [.int .u64 0, .int .u64 0, .int .u32 0, .int .u8 0, .int .u8 0, .int .u8 0, .int .u8 0, .nilFunc, .pointer none, .int .i32 0, .int .i32 0]⟩
  | 78 => some ⟨.struct [(0, 12), (1, 12), (2, 59), (3, 71), (4, 5), (5, 5), (6, 72), (7, 73), (8, 74), (9, 75), (10, 76)], 11, 48, [.int .u64 0, .int .u64 0, .int .u32 0, .int .u8 0, .int .u8 0, .int .u8 0, .int .u8 0, .nilFunc, .pointer none, .int .i32 0, .int .i32 0]⟩
  | _ => none
theorem ti1 : TIok Try.prog 1 ⟨.func, 1, 8, [.nilFunc]⟩ := ⟨⟨_, _, _, Try.underlying1⟩, ⟨(.nilFunc), by kernel_rfl, rfl⟩, rfl⟩
theorem ti2 : TIok Try.prog 2 ⟨.int .i64, 1, 8, [.int .i64 0]⟩ := ⟨Try.underlying2, ⟨(.int .i64 0), by kernel_rfl, rfl⟩, rfl⟩
theorem ti3 : TIok Try.prog 3 ⟨.int .i64, 1, 8, [.int .i64 0]⟩ := ⟨Try.underlying3, ⟨(.int .i64 0), by kernel_rfl, rfl⟩, rfl⟩
theorem ti4 : TIok Try.prog 4 ⟨.bool, 1, 1, [.bool false]⟩ := ⟨Try.underlying4, ⟨(.bool false), by kernel_rfl, rfl⟩, rfl⟩
theorem ti5 : TIok Try.prog 5 ⟨.int .u8, 1, 1, [.int .u8 0]⟩ := ⟨Try.underlying5, ⟨(.int .u8 0), by kernel_rfl, rfl⟩, rfl⟩
theorem ti6 : TIok Try.prog 6 ⟨.int .u8, 1, 1, [.int .u8 0]⟩ := ⟨Try.underlying6, ⟨(.int .u8 0), by kernel_rfl, rfl⟩, rfl⟩
theorem ti7 : TIok Try.prog 7 ⟨.struct [(0, 2), (1, 3), (2, 4), (3, 6)], 4, 24, [.int .i64 0, .int .i64 0, .bool false, .int .u8 0]⟩ := ⟨⟨_, Try.underlying7, rfl⟩, ⟨(.agg #[.int .i64 0, .int .i64 0, .bool false, .int .u8 0]), by kernel_rfl, rfl⟩, rfl⟩
theorem ti8 : TIok Try.prog 8 ⟨.struct [(0, 2), (1, 3), (2, 4), (3, 6)], 4, 24, [.int .i64 0, .int .i64 0, .bool false, .int .u8 0]⟩ := ⟨⟨_, Try.underlying8, rfl⟩, ⟨(.agg #[.int .i64 0, .int .i64 0, .bool false, .int .u8 0]), by kernel_rfl, rfl⟩, rfl⟩
theorem ti9 : TIok Try.prog 9 ⟨.string, 1, 16, [.string ByteArray.empty]⟩ := ⟨Try.underlying9, ⟨(.string ByteArray.empty), by kernel_rfl, rfl⟩, rfl⟩
theorem ti10 : TIok Try.prog 10 ⟨.string, 1, 16, [.string ByteArray.empty]⟩ := ⟨Try.underlying10, ⟨(.string ByteArray.empty), by kernel_rfl, rfl⟩, rfl⟩
theorem ti11 : TIok Try.prog 11 ⟨.string, 1, 16, [.string ByteArray.empty]⟩ := ⟨Try.underlying11, ⟨(.string ByteArray.empty), by kernel_rfl, rfl⟩, rfl⟩
theorem ti12 : TIok Try.prog 12 ⟨.int .u64, 1, 8, [.int .u64 0]⟩ := ⟨Try.underlying12, ⟨(.int .u64 0), by kernel_rfl, rfl⟩, rfl⟩
theorem ti13 : TIok Try.prog 13 ⟨.struct [(0, 9), (1, 12)], 2, 24, [.string ByteArray.empty, .int .u64 0]⟩ := ⟨⟨_, Try.underlying13, rfl⟩, ⟨(.agg #[.string ByteArray.empty, .int .u64 0]), by kernel_rfl, rfl⟩, rfl⟩
theorem ti14 : TIok Try.prog 14 ⟨.struct [(0, 9), (1, 12)], 2, 24, [.string ByteArray.empty, .int .u64 0]⟩ := ⟨⟨_, Try.underlying14, rfl⟩, ⟨(.agg #[.string ByteArray.empty, .int .u64 0]), by kernel_rfl, rfl⟩, rfl⟩
theorem ti15 : TIok Try.prog 15 ⟨.ptr 67, 1, 8, [.pointer none]⟩ := ⟨Try.underlying15, ⟨(.pointer none), by kernel_rfl, rfl⟩, rfl⟩
theorem ti16 : TIok Try.prog 16 ⟨.ptr 70, 1, 8, [.pointer none]⟩ := ⟨Try.underlying16, ⟨(.pointer none), by kernel_rfl, rfl⟩, rfl⟩
theorem ti17 : TIok Try.prog 17 ⟨.ptr 78, 1, 8, [.pointer none]⟩ := ⟨Try.underlying17, ⟨(.pointer none), by kernel_rfl, rfl⟩, rfl⟩
theorem ti18 : TIok Try.prog 18 ⟨.struct [(0, 17)], 1, 8, [.pointer none]⟩ := ⟨⟨_, Try.underlying18, rfl⟩, ⟨(.agg #[.pointer none]), by kernel_rfl, rfl⟩, rfl⟩
theorem ti19 : TIok Try.prog 19 ⟨.struct [(0, 17)], 1, 8, [.pointer none]⟩ := ⟨⟨_, Try.underlying19, rfl⟩, ⟨(.agg #[.pointer none]), by kernel_rfl, rfl⟩, rfl⟩
theorem ti21 : TIok Try.prog 21 ⟨.int .i32, 1, 4, [.int .i32 0]⟩ := ⟨Try.underlying21, ⟨(.int .i32 0), by kernel_rfl, rfl⟩, rfl⟩
theorem ti22 : TIok Try.prog 22 ⟨.slice 26, 1, 24, [.slice none 0 0]⟩ := ⟨Try.underlying22, ⟨(.slice none 0 0), by kernel_rfl, rfl⟩, rfl⟩
theorem ti23 : TIok Try.prog 23 ⟨.slice 5, 1, 24, [.slice none 0 0]⟩ := ⟨Try.underlying23, ⟨(.slice none 0 0), by kernel_rfl, rfl⟩, rfl⟩
theorem ti24 : TIok Try.prog 24 ⟨.func, 1, 8, [.nilFunc]⟩ := ⟨⟨_, _, _, Try.underlying24⟩, ⟨(.nilFunc), by kernel_rfl, rfl⟩, rfl⟩
theorem ti25 : TIok Try.prog 25 ⟨.struct [(0, 3), (1, 3), (2, 3), (3, 23)], 4, 48, [.int .i64 0, .int .i64 0, .int .i64 0, .slice none 0 0]⟩ := ⟨⟨_, Try.underlying25, rfl⟩, ⟨(.agg #[.int .i64 0, .int .i64 0, .int .i64 0, .slice none 0 0]), by kernel_rfl, rfl⟩, rfl⟩
theorem ti26 : TIok Try.prog 26 ⟨.struct [(0, 3), (1, 3), (2, 3), (3, 23)], 4, 48, [.int .i64 0, .int .i64 0, .int .i64 0, .slice none 0 0]⟩ := ⟨⟨_, Try.underlying26, rfl⟩, ⟨(.agg #[.int .i64 0, .int .i64 0, .int .i64 0, .slice none 0 0]), by kernel_rfl, rfl⟩, rfl⟩
theorem ti27 : TIok Try.prog 27 ⟨.func, 1, 8, [.nilFunc]⟩ := ⟨⟨_, _, _, Try.underlying27⟩, ⟨(.nilFunc), by kernel_rfl, rfl⟩, rfl⟩
theorem ti28 : TIok Try.prog 28 ⟨.ptr 50, 1, 8, [.pointer none]⟩ := ⟨Try.underlying28, ⟨(.pointer none), by kernel_rfl, rfl⟩, rfl⟩
theorem ti29 : TIok Try.prog 29 ⟨.func, 1, 8, [.nilFunc]⟩ := ⟨⟨_, _, _, Try.underlying29⟩, ⟨(.nilFunc), by kernel_rfl, rfl⟩, rfl⟩
theorem ti30 : TIok Try.prog 30 ⟨.func, 1, 8, [.nilFunc]⟩ := ⟨⟨_, _, _, Try.underlying30⟩, ⟨(.nilFunc), by kernel_rfl, rfl⟩, rfl⟩
theorem ti31 : TIok Try.prog 31 ⟨.int .i64, 1, 8, [.int .i64 0]⟩ := ⟨Try.underlying31, ⟨(.int .i64 0), by kernel_rfl, rfl⟩, rfl⟩
theorem ti33 : TIok Try.prog 33 ⟨.func, 1, 8, [.nilFunc]⟩ := ⟨⟨_, _, _, Try.underlying33⟩, ⟨(.nilFunc), by kernel_rfl, rfl⟩, rfl⟩
theorem ti34 : TIok Try.prog 34 ⟨.func, 1, 8, [.nilFunc]⟩ := ⟨⟨_, _, _, Try.underlying34⟩, ⟨(.nilFunc), by kernel_rfl, rfl⟩, rfl⟩
theorem ti35 : TIok Try.prog 35 ⟨.func, 1, 8, [.nilFunc]⟩ := ⟨⟨_, _, _, Try.underlying35⟩, ⟨(.nilFunc), by kernel_rfl, rfl⟩, rfl⟩
theorem ti36 : TIok Try.prog 36 ⟨.func, 1, 8, [.nilFunc]⟩ := ⟨⟨_, _, _, Try.underlying36⟩, ⟨(.nilFunc), by kernel_rfl, rfl⟩, rfl⟩
theorem ti37 : TIok Try.prog 37 ⟨.func, 1, 8, [.nilFunc]⟩ := ⟨⟨_, _, _, Try.underlying37⟩, ⟨(.nilFunc), by kernel_rfl, rfl⟩, rfl⟩
theorem ti38 : TIok Try.prog 38 ⟨.func, 1, 8, [.nilFunc]⟩ := ⟨⟨_, _, _, Try.underlying38⟩, ⟨(.nilFunc), by kernel_rfl, rfl⟩, rfl⟩
theorem ti40 : TIok Try.prog 40 ⟨.func, 1, 8, [.nilFunc]⟩ := ⟨⟨_, _, _, Try.underlying40⟩, ⟨(.nilFunc), by kernel_rfl, rfl⟩, rfl⟩
theorem ti41 : TIok Try.prog 41 ⟨.func, 1, 8, [.nilFunc]⟩ := ⟨⟨_, _, _, Try.underlying41⟩, ⟨(.nilFunc), by kernel_rfl, rfl⟩, rfl⟩
theorem ti42 : TIok Try.prog 42 ⟨.func, 1, 8, [.nilFunc]⟩ := ⟨⟨_, _, _, Try.underlying42⟩, ⟨(.nilFunc), by kernel_rfl, rfl⟩, rfl⟩
theorem ti43 : TIok Try.prog 43 ⟨.int .u16, 1, 2, [.int .u16 0]⟩ := ⟨Try.underlying43, ⟨(.int .u16 0), by kernel_rfl, rfl⟩, rfl⟩
theorem ti44 : TIok Try.prog 44 ⟨.func, 1, 8, [.nilFunc]⟩ := ⟨⟨_, _, _, Try.underlying44⟩, ⟨(.nilFunc), by kernel_rfl, rfl⟩, rfl⟩
theorem ti45 : TIok Try.prog 45 ⟨.func, 1, 8, [.nilFunc]⟩ := ⟨⟨_, _, _, Try.underlying45⟩, ⟨(.nilFunc), by kernel_rfl, rfl⟩, rfl⟩
theorem ti47 : TIok Try.prog 47 ⟨.func, 1, 8, [.nilFunc]⟩ := ⟨⟨_, _, _, Try.underlying47⟩, ⟨(.nilFunc), by kernel_rfl, rfl⟩, rfl⟩
theorem ti48 : TIok Try.prog 48 ⟨.func, 1, 8, [.nilFunc]⟩ := ⟨⟨_, _, _, Try.underlying48⟩, ⟨(.nilFunc), by kernel_rfl, rfl⟩, rfl⟩
theorem ti49 : TIok Try.prog 49 ⟨.struct [(0, 23), (1, 3), (2, 3), (3, 3), (4, 4), (5, 3)], 6, 64, [.slice none 0 0, .int .i64 0, .int .i64 0, .int .i64 0, .bool false, .int .i64 0]⟩ := ⟨⟨_, Try.underlying49, rfl⟩, ⟨(.agg #[.slice none 0 0, .int .i64 0, .int .i64 0, .int .i64 0, .bool false, .int .i64 0]), by kernel_rfl, rfl⟩, rfl⟩
theorem ti50 : TIok Try.prog 50 ⟨.struct [(0, 23), (1, 3), (2, 3), (3, 3), (4, 4), (5, 3)], 6, 64, [.slice none 0 0, .int .i64 0, .int .i64 0, .int .i64 0, .bool false, .int .i64 0]⟩ := ⟨⟨_, Try.underlying50, rfl⟩, ⟨(.agg #[.slice none 0 0, .int .i64 0, .int .i64 0, .int .i64 0, .bool false, .int .i64 0]), by kernel_rfl, rfl⟩, rfl⟩
theorem ti51 : TIok Try.prog 51 ⟨.func, 1, 8, [.nilFunc]⟩ := ⟨⟨_, _, _, Try.underlying51⟩, ⟨(.nilFunc), by kernel_rfl, rfl⟩, rfl⟩
theorem ti52 : TIok Try.prog 52 ⟨.func, 1, 8, [.nilFunc]⟩ := ⟨⟨_, _, _, Try.underlying52⟩, ⟨(.nilFunc), by kernel_rfl, rfl⟩, rfl⟩
theorem ti53 : TIok Try.prog 53 ⟨.func, 1, 8, [.nilFunc]⟩ := ⟨⟨_, _, _, Try.underlying53⟩, ⟨(.nilFunc), by kernel_rfl, rfl⟩, rfl⟩
theorem ti54 : TIok Try.prog 54 ⟨.func, 1, 8, [.nilFunc]⟩ := ⟨⟨_, _, _, Try.underlying54⟩, ⟨(.nilFunc), by kernel_rfl, rfl⟩, rfl⟩
theorem ti55 : TIok Try.prog 55 ⟨.int .u64, 1, 8, [.int .u64 0]⟩ := ⟨Try.underlying55, ⟨(.int .u64 0), by kernel_rfl, rfl⟩, rfl⟩
theorem ti57 : TIok Try.prog 57 ⟨.func, 1, 8, [.nilFunc]⟩ := ⟨⟨_, _, _, Try.underlying57⟩, ⟨(.nilFunc), by kernel_rfl, rfl⟩, rfl⟩
theorem ti58 : TIok Try.prog 58 ⟨.func, 1, 8, [.nilFunc]⟩ := ⟨⟨_, _, _, Try.underlying58⟩, ⟨(.nilFunc), by kernel_rfl, rfl⟩, rfl⟩
theorem ti59 : TIok Try.prog 59 ⟨.int .u32, 1, 4, [.int .u32 0]⟩ := ⟨Try.underlying59, ⟨(.int .u32 0), by kernel_rfl, rfl⟩, rfl⟩
theorem ti61 : TIok Try.prog 61 ⟨.func, 1, 8, [.nilFunc]⟩ := ⟨⟨_, _, _, Try.underlying61⟩, ⟨(.nilFunc), by kernel_rfl, rfl⟩, rfl⟩
theorem ti62 : TIok Try.prog 62 ⟨.int .u64, 1, 8, [.int .u64 0]⟩ := ⟨Try.underlying62, ⟨(.int .u64 0), by kernel_rfl, rfl⟩, rfl⟩
theorem ti64 : TIok Try.prog 64 ⟨.func, 1, 8, [.nilFunc]⟩ := ⟨⟨_, _, _, Try.underlying64⟩, ⟨(.nilFunc), by kernel_rfl, rfl⟩, rfl⟩
theorem ti65 : TIok Try.prog 65 ⟨.func, 1, 8, [.nilFunc]⟩ := ⟨⟨_, _, _, Try.underlying65⟩, ⟨(.nilFunc), by kernel_rfl, rfl⟩, rfl⟩
theorem ti66 : TIok Try.prog 66 ⟨.struct [(0, 17), (1, 17), (2, 17), (3, 9)], 4, 40, [.pointer none, .pointer none, .pointer none, .string ByteArray.empty]⟩ := ⟨⟨_, Try.underlying66, rfl⟩, ⟨(.agg #[.pointer none, .pointer none, .pointer none, .string ByteArray.empty]), by kernel_rfl, rfl⟩, rfl⟩
theorem ti67 : TIok Try.prog 67 ⟨.struct [(0, 17), (1, 17), (2, 17), (3, 9)], 4, 40, [.pointer none, .pointer none, .pointer none, .string ByteArray.empty]⟩ := ⟨⟨_, Try.underlying67, rfl⟩, ⟨(.agg #[.pointer none, .pointer none, .pointer none, .string ByteArray.empty]), by kernel_rfl, rfl⟩, rfl⟩
theorem ti68 : TIok Try.prog 68 ⟨.array 0 16, 0, 0, []⟩ := ⟨Try.underlying68, ⟨(.agg #[]), by kernel_rfl, rfl⟩, rfl⟩
theorem ti69 : TIok Try.prog 69 ⟨.struct [(0, 68)], 0, 0, []⟩ := ⟨⟨_, Try.underlying69, rfl⟩, ⟨(.agg #[]), by kernel_rfl, rfl⟩, rfl⟩
theorem ti70 : TIok Try.prog 70 ⟨.struct [(0, 68)], 0, 0, []⟩ := ⟨⟨_, Try.underlying70, rfl⟩, ⟨(.agg #[]), by kernel_rfl, rfl⟩, rfl⟩
theorem ti71 : TIok Try.prog 71 ⟨.int .u8, 1, 1, [.int .u8 0]⟩ := ⟨Try.underlying71, ⟨(.int .u8 0), by kernel_rfl, rfl⟩, rfl⟩
theorem ti72 : TIok Try.prog 72 ⟨.int .u8, 1, 1, [.int .u8 0]⟩ := ⟨Try.underlying72, ⟨(.int .u8 0), by kernel_rfl, rfl⟩, rfl⟩
theorem ti73 : TIok Try.prog 73 ⟨.func, 1, 8, [.nilFunc]⟩ := ⟨⟨_, _, _, Try.underlying73⟩, ⟨(.nilFunc), by kernel_rfl, rfl⟩, rfl⟩
theorem ti74 : TIok Try.prog 74 ⟨.ptr 5, 1, 8, [.pointer none]⟩ := ⟨Try.underlying74, ⟨(.pointer none), by kernel_rfl, rfl⟩, rfl⟩
theorem ti75 : TIok Try.prog 75 ⟨.int .i32, 1, 4, [.int .i32 0]⟩ := ⟨Try.underlying75, ⟨(.int .i32 0), by kernel_rfl, rfl⟩, rfl⟩
theorem ti76 : TIok Try.prog 76 ⟨.int .i32, 1, 4, [.int .i32 0]⟩ := ⟨Try.underlying76, ⟨(.int .i32 0), by kernel_rfl, rfl⟩, rfl⟩
theorem ti77 : TIok Try.prog 77 ⟨.struct [(0, 12), (1, 12), (2, 59), (3, 71), (4, 5), (5, 5), (6, 72), (7, 73), (8, 74), (9, 75), (10, 76)], 11, 48, [.int .u64 0, .int .u64 0, .int .u32 0, .int .u8 0, .int .u8 0, .int .u8 0, .int .u8 0, .nilFunc, .pointer none, .int .i32 0, .int .i32 0]⟩ := ⟨⟨_, Try.underlying77, rfl⟩, ⟨(.agg #[.int .u64 0, .int .u64 0, .int .u32 0, .int .u8 0, .int .u8 0, .int .u8 0, .int .u8 0, .nilFunc, .pointer none, .int .i32 0, .int .i32 0]), by kernel_rfl, rfl⟩, rfl⟩
theorem ti78 : TIok Try.prog 78 ⟨.struct [(0, 12), (1, 12), (2, 59), (3, 71), (4, 5), (5, 5), (6, 72), (7, 73), (8, 74), (9, 75), (10, 76)], 11, 48, [.int .u64 0, .int .u64 0, .int .u32 0, .int .u8 0, .int .u8 0, .int .u8 0, .int .u8 0, .nilFunc, .pointer none, .int .i32 0, .int .i32 0]⟩ := ⟨⟨_, Try.underlying78, rfl⟩, ⟨(.agg #[.int .u64 0, .int .u64 0, .int .u32 0, .int .u8 0, .int .u8 0, .int .u8 0, .int .u8 0, .nilFunc, .pointer none, .int .i32 0, .int .i32 0]), by kernel_rfl, rfl⟩, rfl⟩
theorem tbOk : TbOk Try.prog tb := by
  intro t ti h
  unfold tb at h
  split at h
  · cases h; exact ti1
  · cases h; exact ti2
  · cases h; exact ti3
  · cases h; exact ti4
  · cases h; exact ti5
  · cases h; exact ti6
  · cases h; exact ti7
  · cases h; exact ti8
  · cases h; exact ti9
  · cases h; exact ti10
  · cases h; exact ti11
  · cases h; exact ti12
  · cases h; exact ti13
  · cases h; exact ti14
  · cases h; exact ti15
  · cases h; exact ti16
  · cases h; exact ti17
  · cases h; exact ti18
  · cases h; exact ti19
  · cases h; exact ti21
  · cases h; exact ti22
  · cases h; exact ti23
  · cases h; exact ti24
  · cases h; exact ti25
  · cases h; exact ti26
  · cases h; exact ti27
  · cases h; exact ti28
  · cases h; exact ti29
  · cases h; exact ti30
  · cases h; exact ti31
  · cases h; exact ti33
  · cases h; exact ti34
  · cases h; exact ti35
  · cases h; exact ti36
  · cases h; exact ti37
  · cases h; exact ti38
  · cases h; exact ti40
  · cases h; exact ti41
  · cases h; exact ti42
  · cases h; exact ti43
  · cases h; exact ti44
  · cases h; exact ti45
  · cases h; exact ti47
  · cases h; exact ti48
  · cases h; exact ti49
  · cases h; exact ti50
  · cases h; exact ti51
  · cases h; exact ti52
  · cases h; exact ti53
  · cases h; exact ti54
  · cases h; exact ti55
  · cases h; exact ti57
  · cases h; exact ti58
  · cases h; exact ti59
  · cases h; exact ti61
  · cases h; exact ti62
  · cases h; exact ti64
  · cases h; exact ti65
  · cases h; exact ti66
  · cases h; exact ti67
  · cases h; exact ti68
  · cases h; exact ti69
  · cases h; exact ti70
  · cases h; exact ti71
  · cases h; exact ti72
  · cases h; exact ti73
  · cases h; exact ti74
  · cases h; exact ti75
  · cases h; exact ti76
  · cases h; exact ti77
  · cases h; exact ti78
  · cases h
end Go.Proofs.Ytjfenbkhgamidaa
