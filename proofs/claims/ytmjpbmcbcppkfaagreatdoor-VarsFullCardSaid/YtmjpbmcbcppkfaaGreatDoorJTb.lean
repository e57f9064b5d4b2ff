/- The table of the program's types, written by a program, with its proofs. Conditions: none. -/
import Derived.Test.YtmjpbmcbcppkfaaGreatDoorJAb
import Derived.Test.YtmjpbmcbcppkfaaGreatDoorJAq
import Derived.Test.YtmjpbmcbcppkfaaGreatDoorRows
namespace Go.Proofs.YtmjpbmcbcppkfaaGreatDoor
def tb : TypeId → Option TI
 | 1 => some ⟨.func, 1, 8, [.nilFunc], false⟩
 | 2 => some ⟨.int .i64, 1, 8, [.int .i64 0], false⟩
 | 3 => some ⟨.int .i64, 1, 8, [.int .i64 0], false⟩
 | 4 => some ⟨.bool, 1, 1, [.bool false], false⟩
 | 5 => some ⟨.int .u8, 1, 1, [.int .u8 0], false⟩
 | 9 => some ⟨.string, 1, 16, [.string ByteArray.empty], false⟩
 | 20 => some ⟨.iface, 1, 16, [.nilIface], false⟩
 | 21 => some ⟨.int .i32, 1, 4, [.int .i32 0], false⟩
 | 22 => some ⟨.slice 24, 1, 24, [.slice none 0 0], false⟩
 | 24 => some ⟨.slice 5, 1, 24, [.slice none 0 0], false⟩
 | 25 => some ⟨.ptr 88, 1, 8, [.pointer none], false⟩
 | 26 => some ⟨.ptr 75, 1, 8, [.pointer none], false⟩
 | 29 => some ⟨.int .u16, 1, 2, [.int .u16 0], false⟩
 | 30 => some ⟨.int .i64, 1, 8, [.int .i64 0], false⟩
 | 33 => some ⟨.array 16 5, 16, 16, [.int .u8 0, .int .u8 0, .int .u8 0, .int .u8 0, .int .u8 0, .int .u8 0, .int .u8 0, .int .u8 0, .int .u8 0, .int .u8 0, .int .u8 0, .int .u8 0, .int .u8 0, .int .u8 0, .int .u8 0, .int .u8 0], true⟩
 | 34 => some ⟨.int .u32, 1, 4, [.int .u32 0], false⟩
 | 37 => some ⟨.struct [(0, 29), (1, 5), (2, 5), (3, 5), (4, 5), (5, 5)], 6, 8, [.int .u16 0, .int .u8 0, .int .u8 0, .int .u8 0, .int .u8 0, .int .u8 0], true⟩
 | 38 => some ⟨.array 32 5, 32, 32, [.int .u8 0, .int .u8 0, .int .u8 0, .int .u8 0, .int .u8 0, .int .u8 0, .int .u8 0, .int .u8 0, .int .u8 0, .int .u8 0, .int .u8 0, .int .u8 0, .int .u8 0, .int .u8 0, .int .u8 0, .int .u8 0, .int .u8 0, .int .u8 0, .int .u8 0, .int .u8 0, .int .u8 0, .int .u8 0, .int .u8 0, .int .u8 0, .int .u8 0, .int .u8 0, .int .u8 0, .int .u8 0, .int .u8 0, .int .u8 0, .int .u8 0, .int .u8 0], true⟩
 | 40 => some ⟨.struct [(0, 9), (1, 33), (17, 34), (18, 37), (24, 38), (56, 24)], 57, 104, [.string ByteArray.empty, .int .u8 0, .int .u8 0, .int .u8 0, .int .u8 0, .int .u8 0, .int .u8 0, .int .u8 0, .int .u8 0, .int .u8 0, .int .u8 0, .int .u8 0, .int .u8 0, .int .u8 0, .int .u8 0, .int .u8 0, .int .u8 0, .int .u32 0, .int .u16 0, .int .u8 0, .int .u8 0, .int .u8 0, .int .u8 0, .int .u8 0, .int .u8 0, .int .u8 0, .int .u8 0, .int .u8 0, .int .u8 0, .int .u8 0, .int .u8 0, .int .u8 0, .int .u8 0, .int .u8 0, .int .u8 0, .int .u8 0, .int .u8 0, .int .u8 0, .int .u8 0, .int .u8 0, .int .u8 0, .int .u8 0, .int .u8 0, .int .u8 0, .int .u8 0, .int .u8 0, .int .u8 0, .int .u8 0, .int .u8 0, .int .u8 0, .int .u8 0, .int .u8 0, .int .u8 0, .int .u8 0, .int .u8 0, .int .u8 0, .slice none 0 0], false⟩
 | 44 => some ⟨.slice 29, 1, 24, [.slice none 0 0], false⟩
 | 47 => some ⟨.slice 3, 1, 24, [.slice none 0 0], false⟩
 | 51 => some ⟨.struct [(0, 3), (1, 9), (2, 33), (18, 34), (19, 24), (20, 3)], 21, 80, [.int .i64 0, .string ByteArray.empty, .int .u8 0, .int .u8 0, .int .u8 0, .int .u8 0, .int .u8 0, .int .u8 0, .int .u8 0, .int .u8 0, .int .u8 0, .int .u8 0, .int .u8 0, .int .u8 0, .int .u8 0, .int .u8 0, .int .u8 0, .int .u8 0, .int .u32 0, .slice none 0 0, .int .i64 0], false⟩
 | 53 => some ⟨.slice 51, 1, 24, [.slice none 0 0], false⟩
 | 66 => some ⟨.ptr 69, 1, 8, [.pointer none], false⟩
 | 69 => some ⟨.struct [(0, 9), (1, 33), (17, 5), (18, 34), (19, 24), (20, 40), (77, 4), (78, 5)], 79, 176, [.string ByteArray.empty, .int .u8 0, .int .u8 0, .int .u8 0, .int .u8 0, .int .u8 0, .int .u8 0, .int .u8 0, .int .u8 0, .int .u8 0, .int .u8 0, .int .u8 0, .int .u8 0, .int .u8 0, .int .u8 0, .int .u8 0, .int .u8 0, .int .u8 0, .int .u32 0, .slice none 0 0, .string ByteArray.empty, .int .u8 0, .int .u8 0, .int .u8 0, .int .u8 0, .int .u8 0, .int .u8 0, .int .u8 0, .int .u8 0, .int .u8 0, .int .u8 0, .int .u8 0, .int .u8 0, .int .u8 0, .int .u8 0, .int .u8 0, .int .u8 0, .int .u32 0, .int .u16 0, .int .u8 0, .int .u8 0, .int .u8 0, .int .u8 0, .int .u8 0, .int .u8 0, .int .u8 0, .int .u8 0, .int .u8 0, .int .u8 0, .int .u8 0, .int .u8 0, .int .u8 0, .int .u8 0, .int .u8 0, .int .u8 0, .int .u8 0, .int .u8 0, .int .u8 0, .int .u8 0, .int .u8 0, .int .u8 0, .int .u8 0, .int .u8 0, .int .u8 0, .int .u8 0, .int .u8 0, .int .u8 0, .int .u8 0, .int .u8 0, .int .u8 0, .int .u8 0, .int .u8 0, .int .u8 0, .int .u8 0, .int .u8 0, .int .u8 0, .slice none 0 0, .bool false, .int .u8 0], false⟩
 | 73 => some ⟨.ptr 98, 1, 8, [.pointer none], false⟩
 | 75 => some ⟨.struct [(0, 73)], 1, 8, [.pointer none], false⟩
 | 77 => some ⟨.func, 1, 8, [.nilFunc], false⟩
 | 88 => some ⟨.struct [(0, 24), (1, 3), (2, 3), (3, 3), (4, 4), (5, 3)], 6, 64, [.slice none 0 0, .int .i64 0, .int .i64 0, .int .i64 0, .bool false, .int .i64 0], false⟩
 | 90 => some ⟨.struct [(0, 9), (1, 33)], 17, 32, [.string ByteArray.empty, .int .u8 0, .int .u8 0, .int .u8 0, .int .u8 0, .int .u8 0, .int .u8 0, .int .u8 0, .int .u8 0, .int .u8 0, .int .u8 0, .int .u8 0, .int .u8 0, .int .u8 0, .int .u8 0, .int .u8 0, .int .u8 0], false⟩
 | 91 => some ⟨.map 90 5, 1, 8, [.map none], false⟩
 | 92 => some ⟨.slice 9, 1, 24, [.slice none 0 0], false⟩
 | 96 => some ⟨.ptr 143, 1, 8, [.pointer none], false⟩
 | 98 => some ⟨.struct [(0, 96)], 1, 8, [.pointer none], false⟩
 | 107 => some ⟨.func, 1, 8, [.nilFunc], false⟩
 | 110 => some ⟨.int .u64, 1, 8, [.int .u64 0], false⟩
 | 113 => some ⟨.func, 1, 8, [.nilFunc], false⟩
 | 114 => some ⟨.ptr 199, 1, 8, [.pointer none], false⟩
 | 115 => some ⟨.slice 122, 1, 24, [.slice none 0 0], false⟩
 | 117 => some ⟨.struct [(0, 114), (1, 115), (2, 115), (3, 3), (4, 4)], 5, 72, [.pointer none, .slice none 0 0, .slice none 0 0, .int .i64 0, .bool false], false⟩
 | 122 => some ⟨.struct [(0, 24), (1, 24), (2, 4)], 3, 56, [.slice none 0 0, .slice none 0 0, .bool false], false⟩
 | 123 => some ⟨.int .u64, 1, 8, [.int .u64 0], false⟩
 | 140 => some ⟨.func, 1, 8, [.nilFunc], false⟩
 | 141 => some ⟨.array 2 114, 2, 16, [.pointer none, .pointer none], false⟩
 | 143 => some ⟨.struct [(0, 25), (1, 141)], 3, 24, [.pointer none, .pointer none, .pointer none], false⟩
 | 151 => some ⟨.func, 1, 8, [.nilFunc], false⟩
 | 152 => some ⟨.func, 1, 8, [.nilFunc], false⟩
 | 164 => some ⟨.func, 1, 8, [.nilFunc], false⟩
 | 167 => some ⟨.func, 1, 8, [.nilFunc], false⟩
 | 175 => some ⟨.array 6 29, 6, 12, [.int .u16 0, .int .u16 0, .int .u16 0, .int .u16 0, .int .u16 0, .int .u16 0], true⟩
 | 182 => some ⟨.slice 187, 1, 24, [.slice none 0 0], false⟩
 | 185 => some ⟨.slice 195, 1, 24, [.slice none 0 0], false⟩
 | 187 => some ⟨.struct [(0, 5), (1, 185)], 2, 32, [.int .u8 0, .slice none 0 0], false⟩
 | 189 => some ⟨.struct [(0, 24), (1, 123)], 2, 32, [.slice none 0 0, .int .u64 0], false⟩
 | 191 => some ⟨.struct [(0, 24), (1, 24), (2, 24), (3, 24), (4, 24), (5, 37), (11, 37), (17, 189), (19, 24), (20, 4), (21, 3), (22, 3), (23, 4)], 24, 224, [.slice none 0 0, .slice none 0 0, .slice none 0 0, .slice none 0 0, .slice none 0 0, .int .u16 0, .int .u8 0, .int .u8 0, .int .u8 0, .int .u8 0, .int .u8 0, .int .u16 0, .int .u8 0, .int .u8 0, .int .u8 0, .int .u8 0, .int .u8 0, .slice none 0 0, .int .u64 0, .slice none 0 0, .bool false, .int .i64 0, .int .i64 0, .bool false], false⟩
 | 195 => some ⟨.struct [(0, 33), (16, 24)], 17, 40, [.int .u8 0, .int .u8 0, .int .u8 0, .int .u8 0, .int .u8 0, .int .u8 0, .int .u8 0, .int .u8 0, .int .u8 0, .int .u8 0, .int .u8 0, .int .u8 0, .int .u8 0, .int .u8 0, .int .u8 0, .int .u8 0, .slice none 0 0], false⟩
 | 199 => some ⟨.struct [(0, 25), (1, 3), (2, 3)], 3, 24, [.pointer none, .int .i64 0, .int .i64 0], false⟩
 | 200 => some ⟨.array 2 34, 2, 8, [.int .u32 0, .int .u32 0], true⟩
 | 201 => some ⟨.array 2 4, 2, 2, [.bool false, .bool false], true⟩
 | 211 => some ⟨.func, 1, 8, [.nilFunc], false⟩
 | 217 => some ⟨.func, 1, 8, [.nilFunc], false⟩
 | 221 => some ⟨.func, 1, 8, [.nilFunc], false⟩
 | 222 => some ⟨.slice 191, 1, 24, [.slice none 0 0], false⟩
 | 227 => some ⟨.struct [], 0, 0, [], false⟩
 | 228 => some ⟨.struct [], 0, 0, [], false⟩
 | 230 => some ⟨.slice 233, 1, 24, [.slice none 0 0], false⟩
 | 233 => some ⟨.struct [(0, 5), (1, 24), (2, 24)], 3, 56, [.int .u8 0, .slice none 0 0, .slice none 0 0], false⟩
 | 236 => some ⟨.ptr 191, 1, 8, [.pointer none], false⟩
 | 239 => some ⟨.map 241 3, 1, 8, [.map none], false⟩
 | 241 => some ⟨.struct [(0, 5), (1, 33), (17, 9)], 18, 40, [.int .u8 0, .int .u8 0, .int .u8 0, .int .u8 0, .int .u8 0, .int .u8 0, .int .u8 0, .int .u8 0, .int .u8 0, .int .u8 0, .int .u8 0, .int .u8 0, .int .u8 0, .int .u8 0, .int .u8 0, .int .u8 0, .int .u8 0, .string ByteArray.empty], false⟩
 | 242 => some ⟨.func, 1, 8, [.nilFunc], false⟩
 | 244 => some ⟨.func, 1, 8, [.nilFunc], false⟩
 | 260 => some ⟨.func, 1, 8, [.nilFunc], false⟩
 | 263 => some ⟨.array 4 3, 4, 32, [.int .i64 0, .int .i64 0, .int .i64 0, .int .i64 0], true⟩
 | 265 => some ⟨.array 13 5, 13, 13, [.int .u8 0, .int .u8 0, .int .u8 0, .int .u8 0, .int .u8 0, .int .u8 0, .int .u8 0, .int .u8 0, .int .u8 0, .int .u8 0, .int .u8 0, .int .u8 0, .int .u8 0], true⟩
 | 267 => some ⟨.func, 1, 8, [.nilFunc], false⟩
 | 268 => some ⟨.slice 334, 1, 24, [.slice none 0 0], false⟩
 | 270 => some ⟨.struct [(0, 24), (1, 24), (2, 222), (3, 268)], 4, 96, [.slice none 0 0, .slice none 0 0, .slice none 0 0, .slice none 0 0], false⟩
 | 275 => some ⟨.ptr 343, 1, 8, [.pointer none], false⟩
 | 279 => some ⟨.ptr 347, 1, 8, [.pointer none], false⟩
 | 281 => some ⟨.array 8 47, 8, 192, [.slice none 0 0, .slice none 0 0, .slice none 0 0, .slice none 0 0, .slice none 0 0, .slice none 0 0, .slice none 0 0, .slice none 0 0], false⟩
 | 285 => some ⟨.slice 47, 1, 24, [.slice none 0 0], false⟩
 | 287 => some ⟨.func, 1, 8, [.nilFunc], false⟩
 | 303 => some ⟨.map 9 227, 1, 8, [.map none], false⟩
 | 306 => some ⟨.slice 123, 1, 24, [.slice none 0 0], false⟩
 | 315 => some ⟨.func, 1, 8, [.nilFunc], false⟩
 | 324 => some ⟨.func, 1, 8, [.nilFunc], false⟩
 | 329 => some ⟨.struct [(0, 30)], 1, 8, [.int .i64 0], true⟩
 | 331 => some ⟨.array 7 123, 7, 56, [.int .u64 0, .int .u64 0, .int .u64 0, .int .u64 0, .int .u64 0, .int .u64 0, .int .u64 0], true⟩
 | 334 => some ⟨.struct [(0, 24), (1, 24), (2, 24), (3, 24), (4, 24), (5, 24)], 6, 144, [.slice none 0 0, .slice none 0 0, .slice none 0 0, .slice none 0 0, .slice none 0 0, .slice none 0 0], false⟩
 | 335 => some ⟨.func, 1, 8, [.nilFunc], false⟩
 | 336 => some ⟨.func, 1, 8, [.nilFunc], false⟩
 | 339 => some ⟨.func, 1, 8, [.nilFunc], false⟩
 | 340 => some ⟨.array 64 34, 64, 256, [.int .u32 0, .int .u32 0, .int .u32 0, .int .u32 0, .int .u32 0, .int .u32 0, .int .u32 0, .int .u32 0, .int .u32 0, .int .u32 0, .int .u32 0, .int .u32 0, .int .u32 0, .int .u32 0, .int .u32 0, .int .u32 0, .int .u32 0, .int .u32 0, .int .u32 0, .int .u32 0, .int .u32 0, .int .u32 0, .int .u32 0, .int .u32 0, .int .u32 0, .int .u32 0, .int .u32 0, .int .u32 0, .int .u32 0, .int .u32 0, .int .u32 0, .int .u32 0, .int .u32 0, .int .u32 0, .int .u32 0, .int .u32 0, .int .u32 0, .int .u32 0, .int .u32 0, .int .u32 0, .int .u32 0, .int .u32 0, .int .u32 0, .int .u32 0, .int .u32 0, .int .u32 0, .int .u32 0, .int .u32 0, .int .u32 0, .int .u32 0, .int .u32 0, .int .u32 0, .int .u32 0, .int .u32 0, .int .u32 0, .int .u32 0, .int .u32 0, .int .u32 0, .int .u32 0, .int .u32 0, .int .u32 0, .int .u32 0, .int .u32 0, .int .u32 0], true⟩
 | 341 => some ⟨.array 8 34, 8, 32, [.int .u32 0, .int .u32 0, .int .u32 0, .int .u32 0, .int .u32 0, .int .u32 0, .int .u32 0, .int .u32 0], true⟩
 | 343 => some ⟨.struct [(0, 4), (1, 340), (65, 341), (73, 24), (74, 123)], 75, 328, [.bool false, .int .u32 0, .int .u32 0, .int .u32 0, .int .u32 0, .int .u32 0, .int .u32 0, .int .u32 0, .int .u32 0, .int .u32 0, .int .u32 0, .int .u32 0, .int .u32 0, .int .u32 0, .int .u32 0, .int .u32 0, .int .u32 0, .int .u32 0, .int .u32 0, .int .u32 0, .int .u32 0, .int .u32 0, .int .u32 0, .int .u32 0, .int .u32 0, .int .u32 0, .int .u32 0, .int .u32 0, .int .u32 0, .int .u32 0, .int .u32 0, .int .u32 0, .int .u32 0, .int .u32 0, .int .u32 0, .int .u32 0, .int .u32 0, .int .u32 0, .int .u32 0, .int .u32 0, .int .u32 0, .int .u32 0, .int .u32 0, .int .u32 0, .int .u32 0, .int .u32 0, .int .u32 0, .int .u32 0, .int .u32 0, .int .u32 0, .int .u32 0, .int .u32 0, .int .u32 0, .int .u32 0, .int .u32 0, .int .u32 0, .int .u32 0, .int .u32 0, .int .u32 0, .int .u32 0, .int .u32 0, .int .u32 0, .int .u32 0, .int .u32 0, .int .u32 0, .int .u32 0, .int .u32 0, .int .u32 0, .int .u32 0, .int .u32 0, .int .u32 0, .int .u32 0, .int .u32 0, .slice none 0 0, .int .u64 0], false⟩
 | 345 => some ⟨.map 348 350, 1, 8, [.map none], false⟩
 | 347 => some ⟨.struct [(0, 191), (24, 222), (25, 345)], 26, 256, [.slice none 0 0, .slice none 0 0, .slice none 0 0, .slice none 0 0, .slice none 0 0, .int .u16 0, .int .u8 0, .int .u8 0, .int .u8 0, .int .u8 0, .int .u8 0, .int .u16 0, .int .u8 0, .int .u8 0, .int .u8 0, .int .u8 0, .int .u8 0, .slice none 0 0, .int .u64 0, .slice none 0 0, .bool false, .int .i64 0, .int .i64 0, .bool false, .slice none 0 0, .map none], false⟩
 | 348 => some ⟨.array 2 3, 2, 16, [.int .i64 0, .int .i64 0], true⟩
 | 350 => some ⟨.struct [(0, 4)], 1, 1, [.bool false], true⟩
 | 355 => some ⟨.func, 1, 8, [.nilFunc], false⟩
 | 359 => some ⟨.func, 1, 8, [.nilFunc], false⟩
 | 365 => some ⟨.array 16 34, 16, 64, [.int .u32 0, .int .u32 0, .int .u32 0, .int .u32 0, .int .u32 0, .int .u32 0, .int .u32 0, .int .u32 0, .int .u32 0, .int .u32 0, .int .u32 0, .int .u32 0, .int .u32 0, .int .u32 0, .int .u32 0, .int .u32 0], true⟩
 | 369 => some ⟨.ptr 329, 1, 8, [.pointer none], false⟩
 | 376 => some ⟨.func, 1, 8, [.nilFunc], false⟩
 | 379 => some ⟨.array 64 123, 64, 512, [.int .u64 0, .int .u64 0, .int .u64 0, .int .u64 0, .int .u64 0, .int .u64 0, .int .u64 0, .int .u64 0, .int .u64 0, .int .u64 0, .int .u64 0, .int .u64 0, .int .u64 0, .int .u64 0, .int .u64 0, .int .u64 0, .int .u64 0, .int .u64 0, .int .u64 0, .int .u64 0, .int .u64 0, .int .u64 0, .int .u64 0, .int .u64 0, .int .u64 0, .int .u64 0, .int .u64 0, .int .u64 0, .int .u64 0, .int .u64 0, .int .u64 0, .int .u64 0, .int .u64 0, .int .u64 0, .int .u64 0, .int .u64 0, .int .u64 0, .int .u64 0, .int .u64 0, .int .u64 0, .int .u64 0, .int .u64 0, .int .u64 0, .int .u64 0, .int .u64 0, .int .u64 0, .int .u64 0, .int .u64 0, .int .u64 0, .int .u64 0, .int .u64 0, .int .u64 0, .int .u64 0, .int .u64 0, .int .u64 0, .int .u64 0, .int .u64 0, .int .u64 0, .int .u64 0, .int .u64 0, .int .u64 0, .int .u64 0, .int .u64 0, .int .u64 0], true⟩
 | 384 => some ⟨.func, 1, 8, [.nilFunc], false⟩
 | 386 => some ⟨.func, 1, 8, [.nilFunc], false⟩
 | 387 => some ⟨.array 9 123, 9, 72, [.int .u64 0, .int .u64 0, .int .u64 0, .int .u64 0, .int .u64 0, .int .u64 0, .int .u64 0, .int .u64 0, .int .u64 0], true⟩
 | 389 => some ⟨.func, 1, 8, [.nilFunc], false⟩
 | 391 => some ⟨.ptr 334, 1, 8, [.pointer none], false⟩
 | 392 => some ⟨.slice 34, 1, 24, [.slice none 0 0], false⟩
 | 395 => some ⟨.ptr 412, 1, 8, [.pointer none], false⟩
 | 402 => some ⟨.func, 1, 8, [.nilFunc], false⟩
 | 405 => some ⟨.ptr 5, 1, 8, [.pointer none], false⟩
 | 406 => some ⟨.slice 405, 1, 24, [.slice none 0 0], false⟩
 | 412 => some ⟨.struct [(0, 392), (1, 34), (2, 392)], 3, 56, [.slice none 0 0, .int .u32 0, .slice none 0 0], false⟩
 | 416 => some ⟨.func, 1, 8, [.nilFunc], false⟩
 | 429 => some ⟨.func, 1, 8, [.nilFunc], false⟩
 | _ => none
theorem ti1 : TIok Tryz.prog 1 ⟨.func, 1, 8, [.nilFunc], false⟩ := ⟨⟨_, _, _, Tryz.underlying1⟩, ⟨(.nilFunc), by kernel_rfl, rfl⟩, rfl, fun h => by cases h⟩
theorem ti2 : TIok Tryz.prog 2 ⟨.int .i64, 1, 8, [.int .i64 0], false⟩ := ⟨Tryz.underlying2, ⟨(.int .i64 0), by kernel_rfl, rfl⟩, rfl, fun h => by cases h⟩
theorem ti3 : TIok Tryz.prog 3 ⟨.int .i64, 1, 8, [.int .i64 0], false⟩ := ⟨Tryz.underlying3, ⟨(.int .i64 0), by kernel_rfl, rfl⟩, rfl, fun h => by cases h⟩
theorem ti4 : TIok Tryz.prog 4 ⟨.bool, 1, 1, [.bool false], false⟩ := ⟨Tryz.underlying4, ⟨(.bool false), by kernel_rfl, rfl⟩, rfl, fun h => by cases h⟩
theorem ti5 : TIok Tryz.prog 5 ⟨.int .u8, 1, 1, [.int .u8 0], false⟩ := ⟨Tryz.underlying5, ⟨(.int .u8 0), by kernel_rfl, rfl⟩, rfl, fun h => by cases h⟩
theorem ti9 : TIok Tryz.prog 9 ⟨.string, 1, 16, [.string ByteArray.empty], false⟩ := ⟨Tryz.underlying9, ⟨(.string ByteArray.empty), by kernel_rfl, rfl⟩, rfl, fun h => by cases h⟩
theorem ti20 : TIok Tryz.prog 20 ⟨.iface, 1, 16, [.nilIface], false⟩ := ⟨⟨_, Tryz.underlying20⟩, ⟨(.nilIface), by kernel_rfl, rfl⟩, rfl, fun h => by cases h⟩
theorem ti21 : TIok Tryz.prog 21 ⟨.int .i32, 1, 4, [.int .i32 0], false⟩ := ⟨Tryz.underlying21, ⟨(.int .i32 0), by kernel_rfl, rfl⟩, rfl, fun h => by cases h⟩
theorem ti22 : TIok Tryz.prog 22 ⟨.slice 24, 1, 24, [.slice none 0 0], false⟩ := ⟨Tryz.underlying22, ⟨(.slice none 0 0), by kernel_rfl, rfl⟩, rfl, fun h => by cases h⟩
theorem ti24 : TIok Tryz.prog 24 ⟨.slice 5, 1, 24, [.slice none 0 0], false⟩ := ⟨Tryz.underlying24, ⟨(.slice none 0 0), by kernel_rfl, rfl⟩, rfl, fun h => by cases h⟩
theorem ti25 : TIok Tryz.prog 25 ⟨.ptr 88, 1, 8, [.pointer none], false⟩ := ⟨Tryz.underlying25, ⟨(.pointer none), by kernel_rfl, rfl⟩, rfl, fun h => by cases h⟩
theorem ti26 : TIok Tryz.prog 26 ⟨.ptr 75, 1, 8, [.pointer none], false⟩ := ⟨Tryz.underlying26, ⟨(.pointer none), by kernel_rfl, rfl⟩, rfl, fun h => by cases h⟩
theorem ti29 : TIok Tryz.prog 29 ⟨.int .u16, 1, 2, [.int .u16 0], false⟩ := ⟨Tryz.underlying29, ⟨(.int .u16 0), by kernel_rfl, rfl⟩, rfl, fun h => by cases h⟩
theorem ti30 : TIok Tryz.prog 30 ⟨.int .i64, 1, 8, [.int .i64 0], false⟩ := ⟨Tryz.underlying30, ⟨(.int .i64 0), by kernel_rfl, rfl⟩, rfl, fun h => by cases h⟩
theorem ti33 : TIok Tryz.prog 33 ⟨.array 16 5, 16, 16, [.int .u8 0, .int .u8 0, .int .u8 0, .int .u8 0, .int .u8 0, .int .u8 0, .int .u8 0, .int .u8 0, .int .u8 0, .int .u8 0, .int .u8 0, .int .u8 0, .int .u8 0, .int .u8 0, .int .u8 0, .int .u8 0], true⟩ := ⟨Tryz.underlying33, ⟨(.agg #[.int .u8 0, .int .u8 0, .int .u8 0, .int .u8 0, .int .u8 0, .int .u8 0, .int .u8 0, .int .u8 0, .int .u8 0, .int .u8 0, .int .u8 0, .int .u8 0, .int .u8 0, .int .u8 0, .int .u8 0, .int .u8 0]), by kernel_rfl, rfl⟩, rfl, fun h => eqT_arr (u := .int .u8 0) Tryz.underlying33 Tryz.underlying5 (by kernel_rfl) (by kernel_rfl) (by kernel_rfl) (by kernel_rfl)⟩
theorem ti34 : TIok Tryz.prog 34 ⟨.int .u32, 1, 4, [.int .u32 0], false⟩ := ⟨Tryz.underlying34, ⟨(.int .u32 0), by kernel_rfl, rfl⟩, rfl, fun h => by cases h⟩
theorem ti37 : TIok Tryz.prog 37 ⟨.struct [(0, 29), (1, 5), (2, 5), (3, 5), (4, 5), (5, 5)], 6, 8, [.int .u16 0, .int .u8 0, .int .u8 0, .int .u8 0, .int .u8 0, .int .u8 0], true⟩ := ⟨⟨_, Tryz.underlying37, rfl⟩, ⟨(.agg #[.int .u16 0, .int .u8 0, .int .u8 0, .int .u8 0, .int .u8 0, .int .u8 0]), by kernel_rfl, rfl⟩, rfl, fun h => eqT_flat Tryz.underlying37 (by kernel_rfl) (by kernel_rfl) (by kernel_rfl) ⟨⟨rfl, by kernel_rfl, Tryz.underlying29⟩, ⟨rfl, by kernel_rfl, Tryz.underlying5⟩, ⟨rfl, by kernel_rfl, Tryz.underlying5⟩, ⟨rfl, by kernel_rfl, Tryz.underlying5⟩, ⟨rfl, by kernel_rfl, Tryz.underlying5⟩, ⟨rfl, by kernel_rfl, Tryz.underlying5⟩, trivial⟩ (by kernel_rfl) (by kernel_rfl)⟩
theorem ti38 : TIok Tryz.prog 38 ⟨.array 32 5, 32, 32, [.int .u8 0, .int .u8 0, .int .u8 0, .int .u8 0, .int .u8 0, .int .u8 0, .int .u8 0, .int .u8 0, .int .u8 0, .int .u8 0, .int .u8 0, .int .u8 0, .int .u8 0, .int .u8 0, .int .u8 0, .int .u8 0, .int .u8 0, .int .u8 0, .int .u8 0, .int .u8 0, .int .u8 0, .int .u8 0, .int .u8 0, .int .u8 0, .int .u8 0, .int .u8 0, .int .u8 0, .int .u8 0, .int .u8 0, .int .u8 0, .int .u8 0, .int .u8 0], true⟩ := ⟨Tryz.underlying38, ⟨(.agg #[.int .u8 0, .int .u8 0, .int .u8 0, .int .u8 0, .int .u8 0, .int .u8 0, .int .u8 0, .int .u8 0, .int .u8 0, .int .u8 0, .int .u8 0, .int .u8 0, .int .u8 0, .int .u8 0, .int .u8 0, .int .u8 0, .int .u8 0, .int .u8 0, .int .u8 0, .int .u8 0, .int .u8 0, .int .u8 0, .int .u8 0, .int .u8 0, .int .u8 0, .int .u8 0, .int .u8 0, .int .u8 0, .int .u8 0, .int .u8 0, .int .u8 0, .int .u8 0]), by kernel_rfl, rfl⟩, rfl, fun h => eqT_arr (u := .int .u8 0) Tryz.underlying38 Tryz.underlying5 (by kernel_rfl) (by kernel_rfl) (by kernel_rfl) (by kernel_rfl)⟩
theorem ti40 : TIok Tryz.prog 40 ⟨.struct [(0, 9), (1, 33), (17, 34), (18, 37), (24, 38), (56, 24)], 57, 104, [.string ByteArray.empty, .int .u8 0, .int .u8 0, .int .u8 0, .int .u8 0, .int .u8 0, .int .u8 0, .int .u8 0, .int .u8 0, .int .u8 0, .int .u8 0, .int .u8 0, .int .u8 0, .int .u8 0, .int .u8 0, .int .u8 0, .int .u8 0, .int .u32 0, .int .u16 0, .int .u8 0, .int .u8 0, .int .u8 0, .int .u8 0, .int .u8 0, .int .u8 0, .int .u8 0, .int .u8 0, .int .u8 0, .int .u8 0, .int .u8 0, .int .u8 0, .int .u8 0, .int .u8 0, .int .u8 0, .int .u8 0, .int .u8 0, .int .u8 0, .int .u8 0, .int .u8 0, .int .u8 0, .int .u8 0, .int .u8 0, .int .u8 0, .int .u8 0, .int .u8 0, .int .u8 0, .int .u8 0, .int .u8 0, .int .u8 0, .int .u8 0, .int .u8 0, .int .u8 0, .int .u8 0, .int .u8 0, .int .u8 0, .int .u8 0, .slice none 0 0], false⟩ := ⟨⟨_, Tryz.underlying40, rfl⟩, ⟨(.agg #[.string ByteArray.empty, .int .u8 0, .int .u8 0, .int .u8 0, .int .u8 0, .int .u8 0, .int .u8 0, .int .u8 0, .int .u8 0, .int .u8 0, .int .u8 0, .int .u8 0, .int .u8 0, .int .u8 0, .int .u8 0, .int .u8 0, .int .u8 0, .int .u32 0, .int .u16 0, .int .u8 0, .int .u8 0, .int .u8 0, .int .u8 0, .int .u8 0, .int .u8 0, .int .u8 0, .int .u8 0, .int .u8 0, .int .u8 0, .int .u8 0, .int .u8 0, .int .u8 0, .int .u8 0, .int .u8 0, .int .u8 0, .int .u8 0, .int .u8 0, .int .u8 0, .int .u8 0, .int .u8 0, .int .u8 0, .int .u8 0, .int .u8 0, .int .u8 0, .int .u8 0, .int .u8 0, .int .u8 0, .int .u8 0, .int .u8 0, .int .u8 0, .int .u8 0, .int .u8 0, .int .u8 0, .int .u8 0, .int .u8 0, .int .u8 0, .slice none 0 0]), by kernel_rfl, rfl⟩, rfl, fun h => by cases h⟩
theorem ti44 : TIok Tryz.prog 44 ⟨.slice 29, 1, 24, [.slice none 0 0], false⟩ := ⟨Tryz.underlying44, ⟨(.slice none 0 0), by kernel_rfl, rfl⟩, rfl, fun h => by cases h⟩
theorem ti47 : TIok Tryz.prog 47 ⟨.slice 3, 1, 24, [.slice none 0 0], false⟩ := ⟨Tryz.underlying47, ⟨(.slice none 0 0), by kernel_rfl, rfl⟩, rfl, fun h => by cases h⟩
theorem ti51 : TIok Tryz.prog 51 ⟨.struct [(0, 3), (1, 9), (2, 33), (18, 34), (19, 24), (20, 3)], 21, 80, [.int .i64 0, .string ByteArray.empty, .int .u8 0, .int .u8 0, .int .u8 0, .int .u8 0, .int .u8 0, .int .u8 0, .int .u8 0, .int .u8 0, .int .u8 0, .int .u8 0, .int .u8 0, .int .u8 0, .int .u8 0, .int .u8 0, .int .u8 0, .int .u8 0, .int .u32 0, .slice none 0 0, .int .i64 0], false⟩ := ⟨⟨_, Tryz.underlying51, rfl⟩, ⟨(.agg #[.int .i64 0, .string ByteArray.empty, .int .u8 0, .int .u8 0, .int .u8 0, .int .u8 0, .int .u8 0, .int .u8 0, .int .u8 0, .int .u8 0, .int .u8 0, .int .u8 0, .int .u8 0, .int .u8 0, .int .u8 0, .int .u8 0, .int .u8 0, .int .u8 0, .int .u32 0, .slice none 0 0, .int .i64 0]), by kernel_rfl, rfl⟩, rfl, fun h => by cases h⟩
theorem ti53 : TIok Tryz.prog 53 ⟨.slice 51, 1, 24, [.slice none 0 0], false⟩ := ⟨Tryz.underlying53, ⟨(.slice none 0 0), by kernel_rfl, rfl⟩, rfl, fun h => by cases h⟩
theorem ti66 : TIok Tryz.prog 66 ⟨.ptr 69, 1, 8, [.pointer none], false⟩ := ⟨Tryz.underlying66, ⟨(.pointer none), by kernel_rfl, rfl⟩, rfl, fun h => by cases h⟩
theorem ti69 : TIok Tryz.prog 69 ⟨.struct [(0, 9), (1, 33), (17, 5), (18, 34), (19, 24), (20, 40), (77, 4), (78, 5)], 79, 176, [.string ByteArray.empty, .int .u8 0, .int .u8 0, .int .u8 0, .int .u8 0, .int .u8 0, .int .u8 0, .int .u8 0, .int .u8 0, .int .u8 0, .int .u8 0, .int .u8 0, .int .u8 0, .int .u8 0, .int .u8 0, .int .u8 0, .int .u8 0, .int .u8 0, .int .u32 0, .slice none 0 0, .string ByteArray.empty, .int .u8 0, .int .u8 0, .int .u8 0, .int .u8 0, .int .u8 0, .int .u8 0, .int .u8 0, .int .u8 0, .int .u8 0, .int .u8 0, .int .u8 0, .int .u8 0, .int .u8 0, .int .u8 0, .int .u8 0, .int .u8 0, .int .u32 0, .int .u16 0, .int .u8 0, .int .u8 0, .int .u8 0, .int .u8 0, .int .u8 0, .int .u8 0, .int .u8 0, .int .u8 0, .int .u8 0, .int .u8 0, .int .u8 0, .int .u8 0, .int .u8 0, .int .u8 0, .int .u8 0, .int .u8 0, .int .u8 0, .int .u8 0, .int .u8 0, .int .u8 0, .int .u8 0, .int .u8 0, .int .u8 0, .int .u8 0, .int .u8 0, .int .u8 0, .int .u8 0, .int .u8 0, .int .u8 0, .int .u8 0, .int .u8 0, .int .u8 0, .int .u8 0, .int .u8 0, .int .u8 0, .int .u8 0, .int .u8 0, .slice none 0 0, .bool false, .int .u8 0], false⟩ := ⟨⟨_, Tryz.underlying69, rfl⟩, ⟨(.agg #[.string ByteArray.empty, .int .u8 0, .int .u8 0, .int .u8 0, .int .u8 0, .int .u8 0, .int .u8 0, .int .u8 0, .int .u8 0, .int .u8 0, .int .u8 0, .int .u8 0, .int .u8 0, .int .u8 0, .int .u8 0, .int .u8 0, .int .u8 0, .int .u8 0, .int .u32 0, .slice none 0 0, .string ByteArray.empty, .int .u8 0, .int .u8 0, .int .u8 0, .int .u8 0, .int .u8 0, .int .u8 0, .int .u8 0, .int .u8 0, .int .u8 0, .int .u8 0, .int .u8 0, .int .u8 0, .int .u8 0, .int .u8 0, .int .u8 0, .int .u8 0, .int .u32 0, .int .u16 0, .int .u8 0, .int .u8 0, .int .u8 0, .int .u8 0, .int .u8 0, .int .u8 0, .int .u8 0, .int .u8 0, .int .u8 0, .int .u8 0, .int .u8 0, .int .u8 0, .int .u8 0, .int .u8 0, .int .u8 0, .int .u8 0, .int .u8 0, .int .u8 0, .int .u8 0, .int .u8 0, .int .u8 0, .int .u8 0, .int .u8 0, .int .u8 0, .int .u8 0, .int .u8 0, .int .u8 0, .int .u8 0, .int .u8 0, .int .u8 0, .int .u8 0, .int .u8 0, .int .u8 0, .int .u8 0, .int .u8 0, .int .u8 0, .int .u8 0, .slice none 0 0, .bool false, .int .u8 0]), by kernel_rfl, rfl⟩, rfl, fun h => by cases h⟩
theorem ti73 : TIok Tryz.prog 73 ⟨.ptr 98, 1, 8, [.pointer none], false⟩ := ⟨Tryz.underlying73, ⟨(.pointer none), by kernel_rfl, rfl⟩, rfl, fun h => by cases h⟩
theorem ti75 : TIok Tryz.prog 75 ⟨.struct [(0, 73)], 1, 8, [.pointer none], false⟩ := ⟨⟨_, Tryz.underlying75, rfl⟩, ⟨(.agg #[.pointer none]), by kernel_rfl, rfl⟩, rfl, fun h => by cases h⟩
theorem ti77 : TIok Tryz.prog 77 ⟨.func, 1, 8, [.nilFunc], false⟩ := ⟨⟨_, _, _, Tryz.underlying77⟩, ⟨(.nilFunc), by kernel_rfl, rfl⟩, rfl, fun h => by cases h⟩
theorem ti88 : TIok Tryz.prog 88 ⟨.struct [(0, 24), (1, 3), (2, 3), (3, 3), (4, 4), (5, 3)], 6, 64, [.slice none 0 0, .int .i64 0, .int .i64 0, .int .i64 0, .bool false, .int .i64 0], false⟩ := ⟨⟨_, Tryz.underlying88, rfl⟩, ⟨(.agg #[.slice none 0 0, .int .i64 0, .int .i64 0, .int .i64 0, .bool false, .int .i64 0]), by kernel_rfl, rfl⟩, rfl, fun h => by cases h⟩
theorem ti90 : TIok Tryz.prog 90 ⟨.struct [(0, 9), (1, 33)], 17, 32, [.string ByteArray.empty, .int .u8 0, .int .u8 0, .int .u8 0, .int .u8 0, .int .u8 0, .int .u8 0, .int .u8 0, .int .u8 0, .int .u8 0, .int .u8 0, .int .u8 0, .int .u8 0, .int .u8 0, .int .u8 0, .int .u8 0, .int .u8 0], false⟩ := ⟨⟨_, Tryz.underlying90, rfl⟩, ⟨(.agg #[.string ByteArray.empty, .int .u8 0, .int .u8 0, .int .u8 0, .int .u8 0, .int .u8 0, .int .u8 0, .int .u8 0, .int .u8 0, .int .u8 0, .int .u8 0, .int .u8 0, .int .u8 0, .int .u8 0, .int .u8 0, .int .u8 0, .int .u8 0]), by kernel_rfl, rfl⟩, rfl, fun h => by cases h⟩
theorem ti91 : TIok Tryz.prog 91 ⟨.map 90 5, 1, 8, [.map none], false⟩ := ⟨Tryz.underlying91, ⟨(.map none), by kernel_rfl, rfl⟩, rfl, fun h => by cases h⟩
theorem ti92 : TIok Tryz.prog 92 ⟨.slice 9, 1, 24, [.slice none 0 0], false⟩ := ⟨Tryz.underlying92, ⟨(.slice none 0 0), by kernel_rfl, rfl⟩, rfl, fun h => by cases h⟩
theorem ti96 : TIok Tryz.prog 96 ⟨.ptr 143, 1, 8, [.pointer none], false⟩ := ⟨Tryz.underlying96, ⟨(.pointer none), by kernel_rfl, rfl⟩, rfl, fun h => by cases h⟩
theorem ti98 : TIok Tryz.prog 98 ⟨.struct [(0, 96)], 1, 8, [.pointer none], false⟩ := ⟨⟨_, Tryz.underlying98, rfl⟩, ⟨(.agg #[.pointer none]), by kernel_rfl, rfl⟩, rfl, fun h => by cases h⟩
theorem ti107 : TIok Tryz.prog 107 ⟨.func, 1, 8, [.nilFunc], false⟩ := ⟨⟨_, _, _, Tryz.underlying107⟩, ⟨(.nilFunc), by kernel_rfl, rfl⟩, rfl, fun h => by cases h⟩
theorem ti110 : TIok Tryz.prog 110 ⟨.int .u64, 1, 8, [.int .u64 0], false⟩ := ⟨Tryz.underlying110, ⟨(.int .u64 0), by kernel_rfl, rfl⟩, rfl, fun h => by cases h⟩
theorem ti113 : TIok Tryz.prog 113 ⟨.func, 1, 8, [.nilFunc], false⟩ := ⟨⟨_, _, _, Tryz.underlying113⟩, ⟨(.nilFunc), by kernel_rfl, rfl⟩, rfl, fun h => by cases h⟩
theorem ti114 : TIok Tryz.prog 114 ⟨.ptr 199, 1, 8, [.pointer none], false⟩ := ⟨Tryz.underlying114, ⟨(.pointer none), by kernel_rfl, rfl⟩, rfl, fun h => by cases h⟩
theorem ti115 : TIok Tryz.prog 115 ⟨.slice 122, 1, 24, [.slice none 0 0], false⟩ := ⟨Tryz.underlying115, ⟨(.slice none 0 0), by kernel_rfl, rfl⟩, rfl, fun h => by cases h⟩
theorem ti117 : TIok Tryz.prog 117 ⟨.struct [(0, 114), (1, 115), (2, 115), (3, 3), (4, 4)], 5, 72, [.pointer none, .slice none 0 0, .slice none 0 0, .int .i64 0, .bool false], false⟩ := ⟨⟨_, Tryz.underlying117, rfl⟩, ⟨(.agg #[.pointer none, .slice none 0 0, .slice none 0 0, .int .i64 0, .bool false]), by kernel_rfl, rfl⟩, rfl, fun h => by cases h⟩
theorem ti122 : TIok Tryz.prog 122 ⟨.struct [(0, 24), (1, 24), (2, 4)], 3, 56, [.slice none 0 0, .slice none 0 0, .bool false], false⟩ := ⟨⟨_, Tryz.underlying122, rfl⟩, ⟨(.agg #[.slice none 0 0, .slice none 0 0, .bool false]), by kernel_rfl, rfl⟩, rfl, fun h => by cases h⟩
theorem ti123 : TIok Tryz.prog 123 ⟨.int .u64, 1, 8, [.int .u64 0], false⟩ := ⟨Tryz.underlying123, ⟨(.int .u64 0), by kernel_rfl, rfl⟩, rfl, fun h => by cases h⟩
theorem ti140 : TIok Tryz.prog 140 ⟨.func, 1, 8, [.nilFunc], false⟩ := ⟨⟨_, _, _, Tryz.underlying140⟩, ⟨(.nilFunc), by kernel_rfl, rfl⟩, rfl, fun h => by cases h⟩
theorem ti141 : TIok Tryz.prog 141 ⟨.array 2 114, 2, 16, [.pointer none, .pointer none], false⟩ := ⟨Tryz.underlying141, ⟨(.agg #[.pointer none, .pointer none]), by kernel_rfl, rfl⟩, rfl, fun h => by cases h⟩
theorem ti143 : TIok Tryz.prog 143 ⟨.struct [(0, 25), (1, 141)], 3, 24, [.pointer none, .pointer none, .pointer none], false⟩ := ⟨⟨_, Tryz.underlying143, rfl⟩, ⟨(.agg #[.pointer none, .pointer none, .pointer none]), by kernel_rfl, rfl⟩, rfl, fun h => by cases h⟩
theorem ti151 : TIok Tryz.prog 151 ⟨.func, 1, 8, [.nilFunc], false⟩ := ⟨⟨_, _, _, Tryz.underlying151⟩, ⟨(.nilFunc), by kernel_rfl, rfl⟩, rfl, fun h => by cases h⟩
theorem ti152 : TIok Tryz.prog 152 ⟨.func, 1, 8, [.nilFunc], false⟩ := ⟨⟨_, _, _, Tryz.underlying152⟩, ⟨(.nilFunc), by kernel_rfl, rfl⟩, rfl, fun h => by cases h⟩
theorem ti164 : TIok Tryz.prog 164 ⟨.func, 1, 8, [.nilFunc], false⟩ := ⟨⟨_, _, _, Tryz.underlying164⟩, ⟨(.nilFunc), by kernel_rfl, rfl⟩, rfl, fun h => by cases h⟩
theorem ti167 : TIok Tryz.prog 167 ⟨.func, 1, 8, [.nilFunc], false⟩ := ⟨⟨_, _, _, Tryz.underlying167⟩, ⟨(.nilFunc), by kernel_rfl, rfl⟩, rfl, fun h => by cases h⟩
theorem ti175 : TIok Tryz.prog 175 ⟨.array 6 29, 6, 12, [.int .u16 0, .int .u16 0, .int .u16 0, .int .u16 0, .int .u16 0, .int .u16 0], true⟩ := ⟨Tryz.underlying175, ⟨(.agg #[.int .u16 0, .int .u16 0, .int .u16 0, .int .u16 0, .int .u16 0, .int .u16 0]), by kernel_rfl, rfl⟩, rfl, fun h => eqT_arr (u := .int .u16 0) Tryz.underlying175 Tryz.underlying29 (by kernel_rfl) (by kernel_rfl) (by kernel_rfl) (by kernel_rfl)⟩
theorem ti182 : TIok Tryz.prog 182 ⟨.slice 187, 1, 24, [.slice none 0 0], false⟩ := ⟨Tryz.underlying182, ⟨(.slice none 0 0), by kernel_rfl, rfl⟩, rfl, fun h => by cases h⟩
theorem ti185 : TIok Tryz.prog 185 ⟨.slice 195, 1, 24, [.slice none 0 0], false⟩ := ⟨Tryz.underlying185, ⟨(.slice none 0 0), by kernel_rfl, rfl⟩, rfl, fun h => by cases h⟩
theorem ti187 : TIok Tryz.prog 187 ⟨.struct [(0, 5), (1, 185)], 2, 32, [.int .u8 0, .slice none 0 0], false⟩ := ⟨⟨_, Tryz.underlying187, rfl⟩, ⟨(.agg #[.int .u8 0, .slice none 0 0]), by kernel_rfl, rfl⟩, rfl, fun h => by cases h⟩
theorem ti189 : TIok Tryz.prog 189 ⟨.struct [(0, 24), (1, 123)], 2, 32, [.slice none 0 0, .int .u64 0], false⟩ := ⟨⟨_, Tryz.underlying189, rfl⟩, ⟨(.agg #[.slice none 0 0, .int .u64 0]), by kernel_rfl, rfl⟩, rfl, fun h => by cases h⟩
theorem ti191 : TIok Tryz.prog 191 ⟨.struct [(0, 24), (1, 24), (2, 24), (3, 24), (4, 24), (5, 37), (11, 37), (17, 189), (19, 24), (20, 4), (21, 3), (22, 3), (23, 4)], 24, 224, [.slice none 0 0, .slice none 0 0, .slice none 0 0, .slice none 0 0, .slice none 0 0, .int .u16 0, .int .u8 0, .int .u8 0, .int .u8 0, .int .u8 0, .int .u8 0, .int .u16 0, .int .u8 0, .int .u8 0, .int .u8 0, .int .u8 0, .int .u8 0, .slice none 0 0, .int .u64 0, .slice none 0 0, .bool false, .int .i64 0, .int .i64 0, .bool false], false⟩ := ⟨⟨_, Tryz.underlying191, rfl⟩, ⟨(.agg #[.slice none 0 0, .slice none 0 0, .slice none 0 0, .slice none 0 0, .slice none 0 0, .int .u16 0, .int .u8 0, .int .u8 0, .int .u8 0, .int .u8 0, .int .u8 0, .int .u16 0, .int .u8 0, .int .u8 0, .int .u8 0, .int .u8 0, .int .u8 0, .slice none 0 0, .int .u64 0, .slice none 0 0, .bool false, .int .i64 0, .int .i64 0, .bool false]), by kernel_rfl, rfl⟩, rfl, fun h => by cases h⟩
theorem ti195 : TIok Tryz.prog 195 ⟨.struct [(0, 33), (16, 24)], 17, 40, [.int .u8 0, .int .u8 0, .int .u8 0, .int .u8 0, .int .u8 0, .int .u8 0, .int .u8 0, .int .u8 0, .int .u8 0, .int .u8 0, .int .u8 0, .int .u8 0, .int .u8 0, .int .u8 0, .int .u8 0, .int .u8 0, .slice none 0 0], false⟩ := ⟨⟨_, Tryz.underlying195, rfl⟩, ⟨(.agg #[.int .u8 0, .int .u8 0, .int .u8 0, .int .u8 0, .int .u8 0, .int .u8 0, .int .u8 0, .int .u8 0, .int .u8 0, .int .u8 0, .int .u8 0, .int .u8 0, .int .u8 0, .int .u8 0, .int .u8 0, .int .u8 0, .slice none 0 0]), by kernel_rfl, rfl⟩, rfl, fun h => by cases h⟩
theorem ti199 : TIok Tryz.prog 199 ⟨.struct [(0, 25), (1, 3), (2, 3)], 3, 24, [.pointer none, .int .i64 0, .int .i64 0], false⟩ := ⟨⟨_, Tryz.underlying199, rfl⟩, ⟨(.agg #[.pointer none, .int .i64 0, .int .i64 0]), by kernel_rfl, rfl⟩, rfl, fun h => by cases h⟩
theorem ti200 : TIok Tryz.prog 200 ⟨.array 2 34, 2, 8, [.int .u32 0, .int .u32 0], true⟩ := ⟨Tryz.underlying200, ⟨(.agg #[.int .u32 0, .int .u32 0]), by kernel_rfl, rfl⟩, rfl, fun h => eqT_arr (u := .int .u32 0) Tryz.underlying200 Tryz.underlying34 (by kernel_rfl) (by kernel_rfl) (by kernel_rfl) (by kernel_rfl)⟩
theorem ti201 : TIok Tryz.prog 201 ⟨.array 2 4, 2, 2, [.bool false, .bool false], true⟩ := ⟨Tryz.underlying201, ⟨(.agg #[.bool false, .bool false]), by kernel_rfl, rfl⟩, rfl, fun h => eqT_arr (u := .bool false) Tryz.underlying201 Tryz.underlying4 (by kernel_rfl) (by kernel_rfl) (by kernel_rfl) (by kernel_rfl)⟩
theorem ti211 : TIok Tryz.prog 211 ⟨.func, 1, 8, [.nilFunc], false⟩ := ⟨⟨_, _, _, Tryz.underlying211⟩, ⟨(.nilFunc), by kernel_rfl, rfl⟩, rfl, fun h => by cases h⟩
theorem ti217 : TIok Tryz.prog 217 ⟨.func, 1, 8, [.nilFunc], false⟩ := ⟨⟨_, _, _, Tryz.underlying217⟩, ⟨(.nilFunc), by kernel_rfl, rfl⟩, rfl, fun h => by cases h⟩
theorem ti221 : TIok Tryz.prog 221 ⟨.func, 1, 8, [.nilFunc], false⟩ := ⟨⟨_, _, _, Tryz.underlying221⟩, ⟨(.nilFunc), by kernel_rfl, rfl⟩, rfl, fun h => by cases h⟩
theorem ti222 : TIok Tryz.prog 222 ⟨.slice 191, 1, 24, [.slice none 0 0], false⟩ := ⟨Tryz.underlying222, ⟨(.slice none 0 0), by kernel_rfl, rfl⟩, rfl, fun h => by cases h⟩
theorem ti227 : TIok Tryz.prog 227 ⟨.struct [], 0, 0, [], false⟩ := ⟨⟨_, Tryz.underlying227, rfl⟩, ⟨(.agg #[]), by kernel_rfl, rfl⟩, rfl, fun h => by cases h⟩
theorem ti228 : TIok Tryz.prog 228 ⟨.struct [], 0, 0, [], false⟩ := ⟨⟨_, Tryz.underlying228, rfl⟩, ⟨(.agg #[]), by kernel_rfl, rfl⟩, rfl, fun h => by cases h⟩
theorem ti230 : TIok Tryz.prog 230 ⟨.slice 233, 1, 24, [.slice none 0 0], false⟩ := ⟨Tryz.underlying230, ⟨(.slice none 0 0), by kernel_rfl, rfl⟩, rfl, fun h => by cases h⟩
theorem ti233 : TIok Tryz.prog 233 ⟨.struct [(0, 5), (1, 24), (2, 24)], 3, 56, [.int .u8 0, .slice none 0 0, .slice none 0 0], false⟩ := ⟨⟨_, Tryz.underlying233, rfl⟩, ⟨(.agg #[.int .u8 0, .slice none 0 0, .slice none 0 0]), by kernel_rfl, rfl⟩, rfl, fun h => by cases h⟩
theorem ti236 : TIok Tryz.prog 236 ⟨.ptr 191, 1, 8, [.pointer none], false⟩ := ⟨Tryz.underlying236, ⟨(.pointer none), by kernel_rfl, rfl⟩, rfl, fun h => by cases h⟩
theorem ti239 : TIok Tryz.prog 239 ⟨.map 241 3, 1, 8, [.map none], false⟩ := ⟨Tryz.underlying239, ⟨(.map none), by kernel_rfl, rfl⟩, rfl, fun h => by cases h⟩
theorem ti241 : TIok Tryz.prog 241 ⟨.struct [(0, 5), (1, 33), (17, 9)], 18, 40, [.int .u8 0, .int .u8 0, .int .u8 0, .int .u8 0, .int .u8 0, .int .u8 0, .int .u8 0, .int .u8 0, .int .u8 0, .int .u8 0, .int .u8 0, .int .u8 0, .int .u8 0, .int .u8 0, .int .u8 0, .int .u8 0, .int .u8 0, .string ByteArray.empty], false⟩ := ⟨⟨_, Tryz.underlying241, rfl⟩, ⟨(.agg #[.int .u8 0, .int .u8 0, .int .u8 0, .int .u8 0, .int .u8 0, .int .u8 0, .int .u8 0, .int .u8 0, .int .u8 0, .int .u8 0, .int .u8 0, .int .u8 0, .int .u8 0, .int .u8 0, .int .u8 0, .int .u8 0, .int .u8 0, .string ByteArray.empty]), by kernel_rfl, rfl⟩, rfl, fun h => by cases h⟩
theorem ti242 : TIok Tryz.prog 242 ⟨.func, 1, 8, [.nilFunc], false⟩ := ⟨⟨_, _, _, Tryz.underlying242⟩, ⟨(.nilFunc), by kernel_rfl, rfl⟩, rfl, fun h => by cases h⟩
theorem ti244 : TIok Tryz.prog 244 ⟨.func, 1, 8, [.nilFunc], false⟩ := ⟨⟨_, _, _, Tryz.underlying244⟩, ⟨(.nilFunc), by kernel_rfl, rfl⟩, rfl, fun h => by cases h⟩
theorem ti260 : TIok Tryz.prog 260 ⟨.func, 1, 8, [.nilFunc], false⟩ := ⟨⟨_, _, _, Tryz.underlying260⟩, ⟨(.nilFunc), by kernel_rfl, rfl⟩, rfl, fun h => by cases h⟩
theorem ti263 : TIok Tryz.prog 263 ⟨.array 4 3, 4, 32, [.int .i64 0, .int .i64 0, .int .i64 0, .int .i64 0], true⟩ := ⟨Tryz.underlying263, ⟨(.agg #[.int .i64 0, .int .i64 0, .int .i64 0, .int .i64 0]), by kernel_rfl, rfl⟩, rfl, fun h => eqT_arr (u := .int .i64 0) Tryz.underlying263 Tryz.underlying3 (by kernel_rfl) (by kernel_rfl) (by kernel_rfl) (by kernel_rfl)⟩
theorem ti265 : TIok Tryz.prog 265 ⟨.array 13 5, 13, 13, [.int .u8 0, .int .u8 0, .int .u8 0, .int .u8 0, .int .u8 0, .int .u8 0, .int .u8 0, .int .u8 0, .int .u8 0, .int .u8 0, .int .u8 0, .int .u8 0, .int .u8 0], true⟩ := ⟨Tryz.underlying265, ⟨(.agg #[.int .u8 0, .int .u8 0, .int .u8 0, .int .u8 0, .int .u8 0, .int .u8 0, .int .u8 0, .int .u8 0, .int .u8 0, .int .u8 0, .int .u8 0, .int .u8 0, .int .u8 0]), by kernel_rfl, rfl⟩, rfl, fun h => eqT_arr (u := .int .u8 0) Tryz.underlying265 Tryz.underlying5 (by kernel_rfl) (by kernel_rfl) (by kernel_rfl) (by kernel_rfl)⟩
theorem ti267 : TIok Tryz.prog 267 ⟨.func, 1, 8, [.nilFunc], false⟩ := ⟨⟨_, _, _, Tryz.underlying267⟩, ⟨(.nilFunc), by kernel_rfl, rfl⟩, rfl, fun h => by cases h⟩
theorem ti268 : TIok Tryz.prog 268 ⟨.slice 334, 1, 24, [.slice none 0 0], false⟩ := ⟨Tryz.underlying268, ⟨(.slice none 0 0), by kernel_rfl, rfl⟩, rfl, fun h => by cases h⟩
theorem ti270 : TIok Tryz.prog 270 ⟨.struct [(0, 24), (1, 24), (2, 222), (3, 268)], 4, 96, [.slice none 0 0, .slice none 0 0, .slice none 0 0, .slice none 0 0], false⟩ := ⟨⟨_, Tryz.underlying270, rfl⟩, ⟨(.agg #[.slice none 0 0, .slice none 0 0, .slice none 0 0, .slice none 0 0]), by kernel_rfl, rfl⟩, rfl, fun h => by cases h⟩
theorem ti275 : TIok Tryz.prog 275 ⟨.ptr 343, 1, 8, [.pointer none], false⟩ := ⟨Tryz.underlying275, ⟨(.pointer none), by kernel_rfl, rfl⟩, rfl, fun h => by cases h⟩
theorem ti279 : TIok Tryz.prog 279 ⟨.ptr 347, 1, 8, [.pointer none], false⟩ := ⟨Tryz.underlying279, ⟨(.pointer none), by kernel_rfl, rfl⟩, rfl, fun h => by cases h⟩
theorem ti281 : TIok Tryz.prog 281 ⟨.array 8 47, 8, 192, [.slice none 0 0, .slice none 0 0, .slice none 0 0, .slice none 0 0, .slice none 0 0, .slice none 0 0, .slice none 0 0, .slice none 0 0], false⟩ := ⟨Tryz.underlying281, ⟨(.agg #[.slice none 0 0, .slice none 0 0, .slice none 0 0, .slice none 0 0, .slice none 0 0, .slice none 0 0, .slice none 0 0, .slice none 0 0]), by kernel_rfl, rfl⟩, rfl, fun h => by cases h⟩
theorem ti285 : TIok Tryz.prog 285 ⟨.slice 47, 1, 24, [.slice none 0 0], false⟩ := ⟨Tryz.underlying285, ⟨(.slice none 0 0), by kernel_rfl, rfl⟩, rfl, fun h => by cases h⟩
theorem ti287 : TIok Tryz.prog 287 ⟨.func, 1, 8, [.nilFunc], false⟩ := ⟨⟨_, _, _, Tryz.underlying287⟩, ⟨(.nilFunc), by kernel_rfl, rfl⟩, rfl, fun h => by cases h⟩
theorem ti303 : TIok Tryz.prog 303 ⟨.map 9 227, 1, 8, [.map none], false⟩ := ⟨Tryz.underlying303, ⟨(.map none), by kernel_rfl, rfl⟩, rfl, fun h => by cases h⟩
theorem ti306 : TIok Tryz.prog 306 ⟨.slice 123, 1, 24, [.slice none 0 0], false⟩ := ⟨Tryz.underlying306, ⟨(.slice none 0 0), by kernel_rfl, rfl⟩, rfl, fun h => by cases h⟩
theorem ti315 : TIok Tryz.prog 315 ⟨.func, 1, 8, [.nilFunc], false⟩ := ⟨⟨_, _, _, Tryz.underlying315⟩, ⟨(.nilFunc), by kernel_rfl, rfl⟩, rfl, fun h => by cases h⟩
theorem ti324 : TIok Tryz.prog 324 ⟨.func, 1, 8, [.nilFunc], false⟩ := ⟨⟨_, _, _, Tryz.underlying324⟩, ⟨(.nilFunc), by kernel_rfl, rfl⟩, rfl, fun h => by cases h⟩
theorem ti329 : TIok Tryz.prog 329 ⟨.struct [(0, 30)], 1, 8, [.int .i64 0], true⟩ := ⟨⟨_, Tryz.underlying329, rfl⟩, ⟨(.agg #[.int .i64 0]), by kernel_rfl, rfl⟩, rfl, fun h => eqT_flat Tryz.underlying329 (by kernel_rfl) (by kernel_rfl) (by kernel_rfl) ⟨⟨rfl, by kernel_rfl, Tryz.underlying30⟩, trivial⟩ (by kernel_rfl) (by kernel_rfl)⟩
theorem ti331 : TIok Tryz.prog 331 ⟨.array 7 123, 7, 56, [.int .u64 0, .int .u64 0, .int .u64 0, .int .u64 0, .int .u64 0, .int .u64 0, .int .u64 0], true⟩ := ⟨Tryz.underlying331, ⟨(.agg #[.int .u64 0, .int .u64 0, .int .u64 0, .int .u64 0, .int .u64 0, .int .u64 0, .int .u64 0]), by kernel_rfl, rfl⟩, rfl, fun h => eqT_arr (u := .int .u64 0) Tryz.underlying331 Tryz.underlying123 (by kernel_rfl) (by kernel_rfl) (by kernel_rfl) (by kernel_rfl)⟩
theorem ti334 : TIok Tryz.prog 334 ⟨.struct [(0, 24), (1, 24), (2, 24), (3, 24), (4, 24), (5, 24)], 6, 144, [.slice none 0 0, .slice none 0 0, .slice none 0 0, .slice none 0 0, .slice none 0 0, .slice none 0 0], false⟩ := ⟨⟨_, Tryz.underlying334, rfl⟩, ⟨(.agg #[.slice none 0 0, .slice none 0 0, .slice none 0 0, .slice none 0 0, .slice none 0 0, .slice none 0 0]), by kernel_rfl, rfl⟩, rfl, fun h => by cases h⟩
theorem ti335 : TIok Tryz.prog 335 ⟨.func, 1, 8, [.nilFunc], false⟩ := ⟨⟨_, _, _, Tryz.underlying335⟩, ⟨(.nilFunc), by kernel_rfl, rfl⟩, rfl, fun h => by cases h⟩
theorem ti336 : TIok Tryz.prog 336 ⟨.func, 1, 8, [.nilFunc], false⟩ := ⟨⟨_, _, _, Tryz.underlying336⟩, ⟨(.nilFunc), by kernel_rfl, rfl⟩, rfl, fun h => by cases h⟩
theorem ti339 : TIok Tryz.prog 339 ⟨.func, 1, 8, [.nilFunc], false⟩ := ⟨⟨_, _, _, Tryz.underlying339⟩, ⟨(.nilFunc), by kernel_rfl, rfl⟩, rfl, fun h => by cases h⟩
theorem ti340 : TIok Tryz.prog 340 ⟨.array 64 34, 64, 256, [.int .u32 0, .int .u32 0, .int .u32 0, .int .u32 0, .int .u32 0, .int .u32 0, .int .u32 0, .int .u32 0, .int .u32 0, .int .u32 0, .int .u32 0, .int .u32 0, .int .u32 0, .int .u32 0, .int .u32 0, .int .u32 0, .int .u32 0, .int .u32 0, .int .u32 0, .int .u32 0, .int .u32 0, .int .u32 0, .int .u32 0, .int .u32 0, .int .u32 0, .int .u32 0, .int .u32 0, .int .u32 0, .int .u32 0, .int .u32 0, .int .u32 0, .int .u32 0, .int .u32 0, .int .u32 0, .int .u32 0, .int .u32 0, .int .u32 0, .int .u32 0, .int .u32 0, .int .u32 0, .int .u32 0, .int .u32 0, .int .u32 0, .int .u32 0, .int .u32 0, .int .u32 0, .int .u32 0, .int .u32 0, .int .u32 0, .int .u32 0, .int .u32 0, .int .u32 0, .int .u32 0, .int .u32 0, .int .u32 0, .int .u32 0, .int .u32 0, .int .u32 0, .int .u32 0, .int .u32 0, .int .u32 0, .int .u32 0, .int .u32 0, .int .u32 0], true⟩ := ⟨Tryz.underlying340, ⟨(.agg #[.int .u32 0, .int .u32 0, .int .u32 0, .int .u32 0, .int .u32 0, .int .u32 0, .int .u32 0, .int .u32 0, .int .u32 0, .int .u32 0, .int .u32 0, .int .u32 0, .int .u32 0, .int .u32 0, .int .u32 0, .int .u32 0, .int .u32 0, .int .u32 0, .int .u32 0, .int .u32 0, .int .u32 0, .int .u32 0, .int .u32 0, .int .u32 0, .int .u32 0, .int .u32 0, .int .u32 0, .int .u32 0, .int .u32 0, .int .u32 0, .int .u32 0, .int .u32 0, .int .u32 0, .int .u32 0, .int .u32 0, .int .u32 0, .int .u32 0, .int .u32 0, .int .u32 0, .int .u32 0, .int .u32 0, .int .u32 0, .int .u32 0, .int .u32 0, .int .u32 0, .int .u32 0, .int .u32 0, .int .u32 0, .int .u32 0, .int .u32 0, .int .u32 0, .int .u32 0, .int .u32 0, .int .u32 0, .int .u32 0, .int .u32 0, .int .u32 0, .int .u32 0, .int .u32 0, .int .u32 0, .int .u32 0, .int .u32 0, .int .u32 0, .int .u32 0]), by kernel_rfl, rfl⟩, rfl, fun h => eqT_arr (u := .int .u32 0) Tryz.underlying340 Tryz.underlying34 (by kernel_rfl) (by kernel_rfl) (by kernel_rfl) (by kernel_rfl)⟩
theorem ti341 : TIok Tryz.prog 341 ⟨.array 8 34, 8, 32, [.int .u32 0, .int .u32 0, .int .u32 0, .int .u32 0, .int .u32 0, .int .u32 0, .int .u32 0, .int .u32 0], true⟩ := ⟨Tryz.underlying341, ⟨(.agg #[.int .u32 0, .int .u32 0, .int .u32 0, .int .u32 0, .int .u32 0, .int .u32 0, .int .u32 0, .int .u32 0]), by kernel_rfl, rfl⟩, rfl, fun h => eqT_arr (u := .int .u32 0) Tryz.underlying341 Tryz.underlying34 (by kernel_rfl) (by kernel_rfl) (by kernel_rfl) (by kernel_rfl)⟩
theorem ti343 : TIok Tryz.prog 343 ⟨.struct [(0, 4), (1, 340), (65, 341), (73, 24), (74, 123)], 75, 328, [.bool false, .int .u32 0, .int .u32 0, .int .u32 0, .int .u32 0, .int .u32 0, .int .u32 0, .int .u32 0, .int .u32 0, .int .u32 0, .int .u32 0, .int .u32 0, .int .u32 0, .int .u32 0, .int .u32 0, .int .u32 0, .int .u32 0, .int .u32 0, .int .u32 0, .int .u32 0, .int .u32 0, .int .u32 0, .int .u32 0, .int .u32 0, .int .u32 0, .int .u32 0, .int .u32 0, .int .u32 0, .int .u32 0, .int .u32 0, .int .u32 0, .int .u32 0, .int .u32 0, .int .u32 0, .int .u32 0, .int .u32 0, .int .u32 0, .int .u32 0, .int .u32 0, .int .u32 0, .int .u32 0, .int .u32 0, .int .u32 0, .int .u32 0, .int .u32 0, .int .u32 0, .int .u32 0, .int .u32 0, .int .u32 0, .int .u32 0, .int .u32 0, .int .u32 0, .int .u32 0, .int .u32 0, .int .u32 0, .int .u32 0, .int .u32 0, .int .u32 0, .int .u32 0, .int .u32 0, .int .u32 0, .int .u32 0, .int .u32 0, .int .u32 0, .int .u32 0, .int .u32 0, .int .u32 0, .int .u32 0, .int .u32 0, .int .u32 0, .int .u32 0, .int .u32 0, .int .u32 0, .slice none 0 0, .int .u64 0], false⟩ := ⟨⟨_, Tryz.underlying343, rfl⟩, ⟨(.agg #[.bool false, .int .u32 0, .int .u32 0, .int .u32 0, .int .u32 0, .int .u32 0, .int .u32 0, .int .u32 0, .int .u32 0, .int .u32 0, .int .u32 0, .int .u32 0, .int .u32 0, .int .u32 0, .int .u32 0, .int .u32 0, .int .u32 0, .int .u32 0, .int .u32 0, .int .u32 0, .int .u32 0, .int .u32 0, .int .u32 0, .int .u32 0, .int .u32 0, .int .u32 0, .int .u32 0, .int .u32 0, .int .u32 0, .int .u32 0, .int .u32 0, .int .u32 0, .int .u32 0, .int .u32 0, .int .u32 0, .int .u32 0, .int .u32 0, .int .u32 0, .int .u32 0, .int .u32 0, .int .u32 0, .int .u32 0, .int .u32 0, .int .u32 0, .int .u32 0, .int .u32 0, .int .u32 0, .int .u32 0, .int .u32 0, .int .u32 0, .int .u32 0, .int .u32 0, .int .u32 0, .int .u32 0, .int .u32 0, .int .u32 0, .int .u32 0, .int .u32 0, .int .u32 0, .int .u32 0, .int .u32 0, .int .u32 0, .int .u32 0, .int .u32 0, .int .u32 0, .int .u32 0, .int .u32 0, .int .u32 0, .int .u32 0, .int .u32 0, .int .u32 0, .int .u32 0, .int .u32 0, .slice none 0 0, .int .u64 0]), by kernel_rfl, rfl⟩, rfl, fun h => by cases h⟩
theorem ti345 : TIok Tryz.prog 345 ⟨.map 348 350, 1, 8, [.map none], false⟩ := ⟨Tryz.underlying345, ⟨(.map none), by kernel_rfl, rfl⟩, rfl, fun h => by cases h⟩
theorem ti347 : TIok Tryz.prog 347 ⟨.struct [(0, 191), (24, 222), (25, 345)], 26, 256, [.slice none 0 0, .slice none 0 0, .slice none 0 0, .slice none 0 0, .slice none 0 0, .int .u16 0, .int .u8 0, .int .u8 0, .int .u8 0, .int .u8 0, .int .u8 0, .int .u16 0, .int .u8 0, .int .u8 0, .int .u8 0, .int .u8 0, .int .u8 0, .slice none 0 0, .int .u64 0, .slice none 0 0, .bool false, .int .i64 0, .int .i64 0, .bool false, .slice none 0 0, .map none], false⟩ := ⟨⟨_, Tryz.underlying347, rfl⟩, ⟨(.agg #[.slice none 0 0, .slice none 0 0, .slice none 0 0, .slice none 0 0, .slice none 0 0, .int .u16 0, .int .u8 0, .int .u8 0, .int .u8 0, .int .u8 0, .int .u8 0, .int .u16 0, .int .u8 0, .int .u8 0, .int .u8 0, .int .u8 0, .int .u8 0, .slice none 0 0, .int .u64 0, .slice none 0 0, .bool false, .int .i64 0, .int .i64 0, .bool false, .slice none 0 0, .map none]), by kernel_rfl, rfl⟩, rfl, fun h => by cases h⟩
theorem ti348 : TIok Tryz.prog 348 ⟨.array 2 3, 2, 16, [.int .i64 0, .int .i64 0], true⟩ := ⟨Tryz.underlying348, ⟨(.agg #[.int .i64 0, .int .i64 0]), by kernel_rfl, rfl⟩, rfl, fun h => eqT_arr (u := .int .i64 0) Tryz.underlying348 Tryz.underlying3 (by kernel_rfl) (by kernel_rfl) (by kernel_rfl) (by kernel_rfl)⟩
theorem ti350 : TIok Tryz.prog 350 ⟨.struct [(0, 4)], 1, 1, [.bool false], true⟩ := ⟨⟨_, Tryz.underlying350, rfl⟩, ⟨(.agg #[.bool false]), by kernel_rfl, rfl⟩, rfl, fun h => eqT_flat Tryz.underlying350 (by kernel_rfl) (by kernel_rfl) (by kernel_rfl) ⟨⟨rfl, by kernel_rfl, Tryz.underlying4⟩, trivial⟩ (by kernel_rfl) (by kernel_rfl)⟩
theorem ti355 : TIok Tryz.prog 355 ⟨.func, 1, 8, [.nilFunc], false⟩ := ⟨⟨_, _, _, Tryz.underlying355⟩, ⟨(.nilFunc), by kernel_rfl, rfl⟩, rfl, fun h => by cases h⟩
theorem ti359 : TIok Tryz.prog 359 ⟨.func, 1, 8, [.nilFunc], false⟩ := ⟨⟨_, _, _, Tryz.underlying359⟩, ⟨(.nilFunc), by kernel_rfl, rfl⟩, rfl, fun h => by cases h⟩
theorem ti365 : TIok Tryz.prog 365 ⟨.array 16 34, 16, 64, [.int .u32 0, .int .u32 0, .int .u32 0, .int .u32 0, .int .u32 0, .int .u32 0, .int .u32 0, .int .u32 0, .int .u32 0, .int .u32 0, .int .u32 0, .int .u32 0, .int .u32 0, .int .u32 0, .int .u32 0, .int .u32 0], true⟩ := ⟨Tryz.underlying365, ⟨(.agg #[.int .u32 0, .int .u32 0, .int .u32 0, .int .u32 0, .int .u32 0, .int .u32 0, .int .u32 0, .int .u32 0, .int .u32 0, .int .u32 0, .int .u32 0, .int .u32 0, .int .u32 0, .int .u32 0, .int .u32 0, .int .u32 0]), by kernel_rfl, rfl⟩, rfl, fun h => eqT_arr (u := .int .u32 0) Tryz.underlying365 Tryz.underlying34 (by kernel_rfl) (by kernel_rfl) (by kernel_rfl) (by kernel_rfl)⟩
theorem ti369 : TIok Tryz.prog 369 ⟨.ptr 329, 1, 8, [.pointer none], false⟩ := ⟨Tryz.underlying369, ⟨(.pointer none), by kernel_rfl, rfl⟩, rfl, fun h => by cases h⟩
theorem ti376 : TIok Tryz.prog 376 ⟨.func, 1, 8, [.nilFunc], false⟩ := ⟨⟨_, _, _, Tryz.underlying376⟩, ⟨(.nilFunc), by kernel_rfl, rfl⟩, rfl, fun h => by cases h⟩
theorem ti379 : TIok Tryz.prog 379 ⟨.array 64 123, 64, 512, [.int .u64 0, .int .u64 0, .int .u64 0, .int .u64 0, .int .u64 0, .int .u64 0, .int .u64 0, .int .u64 0, .int .u64 0, .int .u64 0, .int .u64 0, .int .u64 0, .int .u64 0, .int .u64 0, .int .u64 0, .int .u64 0, .int .u64 0, .int .u64 0, .int .u64 0, .int .u64 0, .int .u64 0, .int .u64 0, .int .u64 0, .int .u64 0, .int .u64 0, .int .u64 0, .int .u64 0, .int .u64 0, .int .u64 0, .int .u64 0, .int .u64 0, .int .u64 0, .int .u64 0, .int .u64 0, .int .u64 0, .int .u64 0, .int .u64 0, .int .u64 0, .int .u64 0, .int .u64 0, .int .u64 0, .int .u64 0, .int .u64 0, .int .u64 0, .int .u64 0, .int .u64 0, .int .u64 0, .int .u64 0, .int .u64 0, .int .u64 0, .int .u64 0, .int .u64 0, .int .u64 0, .int .u64 0, .int .u64 0, .int .u64 0, .int .u64 0, .int .u64 0, .int .u64 0, .int .u64 0, .int .u64 0, .int .u64 0, .int .u64 0, .int .u64 0], true⟩ := ⟨Tryz.underlying379, ⟨(.agg #[.int .u64 0, .int .u64 0, .int .u64 0, .int .u64 0, .int .u64 0, .int .u64 0, .int .u64 0, .int .u64 0, .int .u64 0, .int .u64 0, .int .u64 0, .int .u64 0, .int .u64 0, .int .u64 0, .int .u64 0, .int .u64 0, .int .u64 0, .int .u64 0, .int .u64 0, .int .u64 0, .int .u64 0, .int .u64 0, .int .u64 0, .int .u64 0, .int .u64 0, .int .u64 0, .int .u64 0, .int .u64 0, .int .u64 0, .int .u64 0, .int .u64 0, .int .u64 0, .int .u64 0, .int .u64 0, .int .u64 0, .int .u64 0, .int .u64 0, .int .u64 0, .int .u64 0, .int .u64 0, .int .u64 0, .int .u64 0, .int .u64 0, .int .u64 0, .int .u64 0, .int .u64 0, .int .u64 0, .int .u64 0, .int .u64 0, .int .u64 0, .int .u64 0, .int .u64 0, .int .u64 0, .int .u64 0, .int .u64 0, .int .u64 0, .int .u64 0, .int .u64 0, .int .u64 0, .int .u64 0, .int .u64 0, .int .u64 0, .int .u64 0, .int .u64 0]), by kernel_rfl, rfl⟩, rfl, fun h => eqT_arr (u := .int .u64 0) Tryz.underlying379 Tryz.underlying123 (by kernel_rfl) (by kernel_rfl) (by kernel_rfl) (by kernel_rfl)⟩
theorem ti384 : TIok Tryz.prog 384 ⟨.func, 1, 8, [.nilFunc], false⟩ := ⟨⟨_, _, _, Tryz.underlying384⟩, ⟨(.nilFunc), by kernel_rfl, rfl⟩, rfl, fun h => by cases h⟩
theorem ti386 : TIok Tryz.prog 386 ⟨.func, 1, 8, [.nilFunc], false⟩ := ⟨⟨_, _, _, Tryz.underlying386⟩, ⟨(.nilFunc), by kernel_rfl, rfl⟩, rfl, fun h => by cases h⟩
theorem ti387 : TIok Tryz.prog 387 ⟨.array 9 123, 9, 72, [.int .u64 0, .int .u64 0, .int .u64 0, .int .u64 0, .int .u64 0, .int .u64 0, .int .u64 0, .int .u64 0, .int .u64 0], true⟩ := ⟨Tryz.underlying387, ⟨(.agg #[.int .u64 0, .int .u64 0, .int .u64 0, .int .u64 0, .int .u64 0, .int .u64 0, .int .u64 0, .int .u64 0, .int .u64 0]), by kernel_rfl, rfl⟩, rfl, fun h => eqT_arr (u := .int .u64 0) Tryz.underlying387 Tryz.underlying123 (by kernel_rfl) (by kernel_rfl) (by kernel_rfl) (by kernel_rfl)⟩
theorem ti389 : TIok Tryz.prog 389 ⟨.func, 1, 8, [.nilFunc], false⟩ := ⟨⟨_, _, _, Tryz.underlying389⟩, ⟨(.nilFunc), by kernel_rfl, rfl⟩, rfl, fun h => by cases h⟩
theorem ti391 : TIok Tryz.prog 391 ⟨.ptr 334, 1, 8, [.pointer none], false⟩ := ⟨Tryz.underlying391, ⟨(.pointer none), by kernel_rfl, rfl⟩, rfl, fun h => by cases h⟩
theorem ti392 : TIok Tryz.prog 392 ⟨.slice 34, 1, 24, [.slice none 0 0], false⟩ := ⟨Tryz.underlying392, ⟨(.slice none 0 0), by kernel_rfl, rfl⟩, rfl, fun h => by cases h⟩
theorem ti395 : TIok Tryz.prog 395 ⟨.ptr 412, 1, 8, [.pointer none], false⟩ := ⟨Tryz.underlying395, ⟨(.pointer none), by kernel_rfl, rfl⟩, rfl, fun h => by cases h⟩
theorem ti402 : TIok Tryz.prog 402 ⟨.func, 1, 8, [.nilFunc], false⟩ := ⟨⟨_, _, _, Tryz.underlying402⟩, ⟨(.nilFunc), by kernel_rfl, rfl⟩, rfl, fun h => by cases h⟩
theorem ti405 : TIok Tryz.prog 405 ⟨.ptr 5, 1, 8, [.pointer none], false⟩ := ⟨Tryz.underlying405, ⟨(.pointer none), by kernel_rfl, rfl⟩, rfl, fun h => by cases h⟩
theorem ti406 : TIok Tryz.prog 406 ⟨.slice 405, 1, 24, [.slice none 0 0], false⟩ := ⟨Tryz.underlying406, ⟨(.slice none 0 0), by kernel_rfl, rfl⟩, rfl, fun h => by cases h⟩
theorem ti412 : TIok Tryz.prog 412 ⟨.struct [(0, 392), (1, 34), (2, 392)], 3, 56, [.slice none 0 0, .int .u32 0, .slice none 0 0], false⟩ := ⟨⟨_, Tryz.underlying412, rfl⟩, ⟨(.agg #[.slice none 0 0, .int .u32 0, .slice none 0 0]), by kernel_rfl, rfl⟩, rfl, fun h => by cases h⟩
theorem ti416 : TIok Tryz.prog 416 ⟨.func, 1, 8, [.nilFunc], false⟩ := ⟨⟨_, _, _, Tryz.underlying416⟩, ⟨(.nilFunc), by kernel_rfl, rfl⟩, rfl, fun h => by cases h⟩
theorem ti429 : TIok Tryz.prog 429 ⟨.func, 1, 8, [.nilFunc], false⟩ := ⟨⟨_, _, _, Tryz.underlying429⟩, ⟨(.nilFunc), by kernel_rfl, rfl⟩, rfl, fun h => by cases h⟩
set_option maxHeartbeats 4000000 in
theorem tbOk : TbOk Tryz.prog tb := by
 intro t ti h
 unfold tb at h
 split at h
 ·cases h; exact ti1
 ·cases h; exact ti2
 ·cases h; exact ti3
 ·cases h; exact ti4
 ·cases h; exact ti5
 ·cases h; exact ti9
 ·cases h; exact ti20
 ·cases h; exact ti21
 ·cases h; exact ti22
 ·cases h; exact ti24
 ·cases h; exact ti25
 ·cases h; exact ti26
 ·cases h; exact ti29
 ·cases h; exact ti30
 ·cases h; exact ti33
 ·cases h; exact ti34
 ·cases h; exact ti37
 ·cases h; exact ti38
 ·cases h; exact ti40
 ·cases h; exact ti44
 ·cases h; exact ti47
 ·cases h; exact ti51
 ·cases h; exact ti53
 ·cases h; exact ti66
 ·cases h; exact ti69
 ·cases h; exact ti73
 ·cases h; exact ti75
 ·cases h; exact ti77
 ·cases h; exact ti88
 ·cases h; exact ti90
 ·cases h; exact ti91
 ·cases h; exact ti92
 ·cases h; exact ti96
 ·cases h; exact ti98
 ·cases h; exact ti107
 ·cases h; exact ti110
 ·cases h; exact ti113
 ·cases h; exact ti114
 ·cases h; exact ti115
 ·cases h; exact ti117
 ·cases h; exact ti122
 ·cases h; exact ti123
 ·cases h; exact ti140
 ·cases h; exact ti141
 ·cases h; exact ti143
 ·cases h; exact ti151
 ·cases h; exact ti152
 ·cases h; exact ti164
 ·cases h; exact ti167
 ·cases h; exact ti175
 ·cases h; exact ti182
 ·cases h; exact ti185
 ·cases h; exact ti187
 ·cases h; exact ti189
 ·cases h; exact ti191
 ·cases h; exact ti195
 ·cases h; exact ti199
 ·cases h; exact ti200
 ·cases h; exact ti201
 ·cases h; exact ti211
 ·cases h; exact ti217
 ·cases h; exact ti221
 ·cases h; exact ti222
 ·cases h; exact ti227
 ·cases h; exact ti228
 ·cases h; exact ti230
 ·cases h; exact ti233
 ·cases h; exact ti236
 ·cases h; exact ti239
 ·cases h; exact ti241
 ·cases h; exact ti242
 ·cases h; exact ti244
 ·cases h; exact ti260
 ·cases h; exact ti263
 ·cases h; exact ti265
 ·cases h; exact ti267
 ·cases h; exact ti268
 ·cases h; exact ti270
 ·cases h; exact ti275
 ·cases h; exact ti279
 ·cases h; exact ti281
 ·cases h; exact ti285
 ·cases h; exact ti287
 ·cases h; exact ti303
 ·cases h; exact ti306
 ·cases h; exact ti315
 ·cases h; exact ti324
 ·cases h; exact ti329
 ·cases h; exact ti331
 ·cases h; exact ti334
 ·cases h; exact ti335
 ·cases h; exact ti336
 ·cases h; exact ti339
 ·cases h; exact ti340
 ·cases h; exact ti341
 ·cases h; exact ti343
 ·cases h; exact ti345
 ·cases h; exact ti347
 ·cases h; exact ti348
 ·cases h; exact ti350
 ·cases h; exact ti355
 ·cases h; exact ti359
 ·cases h; exact ti365
 ·cases h; exact ti369
 ·cases h; exact ti376
 ·cases h; exact ti379
 ·cases h; exact ti384
 ·cases h; exact ti386
 ·cases h; exact ti387
 ·cases h; exact ti389
 ·cases h; exact ti391
 ·cases h; exact ti392
 ·cases h; exact ti395
 ·cases h; exact ti402
 ·cases h; exact ti405
 ·cases h; exact ti406
 ·cases h; exact ti412
 ·cases h; exact ti416
 ·cases h; exact ti429
 ·cases h
end Go.Proofs.YtmjpbmcbcppkfaaGreatDoor
