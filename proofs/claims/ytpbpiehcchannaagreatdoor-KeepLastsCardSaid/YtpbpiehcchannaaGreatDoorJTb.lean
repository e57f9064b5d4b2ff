/- The table of the program's types, written by a program, with its proofs. Conditions: none. -/
import Derived.Test.YtpbpiehcchannaaGreatDoorJAb
import Derived.Test.YtpbpiehcchannaaGreatDoorJAq
import Derived.Test.YtpbpiehcchannaaGreatDoorRows
namespace Go.Proofs.YtpbpiehcchannaaGreatDoor
def tb:TypeId→Option TI
 | 1=>some ⟨.func,1,8,[.nilFunc],false⟩
 | 3=>some ⟨.int .i64,1,8,[.int .i64 0],false⟩
 | 4=>some ⟨.bool,1,1,[.bool false],false⟩
 | 5=>some ⟨.int .u8,1,1,[.int .u8 0],false⟩
 | 9=>some ⟨.string,1,16,[.string ByteArray.empty],false⟩
 | 22=>some ⟨.slice 26,1,24,[.slice none 0 0],false⟩
 | 23=>some ⟨.slice 5,1,24,[.slice none 0 0],false⟩
 | 26=>some ⟨.struct [(0,3),(1,3),(2,3),(3,23),(4,23)],5,72,[.int .i64 0,.int .i64 0,.int .i64 0,.slice none 0 0,.slice none 0 0],false⟩
 | 28=>some ⟨.ptr 124,1,8,[.pointer none],false⟩
 | 29=>some ⟨.ptr 128,1,8,[.pointer none],false⟩
 | 30=>some ⟨.ptr 49,1,8,[.pointer none],false⟩
 | 35=>some ⟨.int .i64,1,8,[.int .i64 0],false⟩
 | 47=>some ⟨.slice 23,1,24,[.slice none 0 0],false⟩
 | 49=>some ⟨.struct [(0,47),(1,47),(2,3)],3,56,[.slice none 0 0,.slice none 0 0,.int .i64 0],false⟩
 | 51=>some ⟨.struct [(0,23),(1,47),(2,3),(3,4),(4,35)],5,72,[.slice none 0 0,.slice none 0 0,.int .i64 0,.bool false,.int .i64 0],false⟩
 | 55=>some ⟨.slice 59,1,24,[.slice none 0 0],false⟩
 | 57=>some ⟨.int .u16,1,2,[.int .u16 0],false⟩
 | 59=>some ⟨.struct [(0,57),(1,57)],2,4,[.int .u16 0,.int .u16 0],true⟩
 | 62=>some ⟨.ptr 148,1,8,[.pointer none],false⟩
 | 65=>some ⟨.ptr 153,1,8,[.pointer none],false⟩
 | 69=>some ⟨.slice 77,1,24,[.slice none 0 0],false⟩
 | 71=>some ⟨.array 16 5,16,16,[.int .u8 0,.int .u8 0,.int .u8 0,.int .u8 0,.int .u8 0,.int .u8 0,.int .u8 0,.int .u8 0,.int .u8 0,.int .u8 0,.int .u8 0,.int .u8 0,.int .u8 0,.int .u8 0,.int .u8 0,.int .u8 0],true⟩
 | 72=>some ⟨.int .u32,1,4,[.int .u32 0],false⟩
 | 74=>some ⟨.struct [(0,57),(1,5),(2,5),(3,5),(4,5),(5,5)],6,8,[.int .u16 0,.int .u8 0,.int .u8 0,.int .u8 0,.int .u8 0,.int .u8 0],true⟩
 | 75=>some ⟨.array 32 5,32,32,[.int .u8 0,.int .u8 0,.int .u8 0,.int .u8 0,.int .u8 0,.int .u8 0,.int .u8 0,.int .u8 0,.int .u8 0,.int .u8 0,.int .u8 0,.int .u8 0,.int .u8 0,.int .u8 0,.int .u8 0,.int .u8 0,.int .u8 0,.int .u8 0,.int .u8 0,.int .u8 0,.int .u8 0,.int .u8 0,.int .u8 0,.int .u8 0,.int .u8 0,.int .u8 0,.int .u8 0,.int .u8 0,.int .u8 0,.int .u8 0,.int .u8 0,.int .u8 0],true⟩
 | 77=>some ⟨.struct [(0,9),(1,71),(17,72),(18,74),(24,75),(56,23)],57,104,[.string ByteArray.empty,.int .u8 0,.int .u8 0,.int .u8 0,.int .u8 0,.int .u8 0,.int .u8 0,.int .u8 0,.int .u8 0,.int .u8 0,.int .u8 0,.int .u8 0,.int .u8 0,.int .u8 0,.int .u8 0,.int .u8 0,.int .u8 0,.int .u32 0,.int .u16 0,.int .u8 0,.int .u8 0,.int .u8 0,.int .u8 0,.int .u8 0,.int .u8 0,.int .u8 0,.int .u8 0,.int .u8 0,.int .u8 0,.int .u8 0,.int .u8 0,.int .u8 0,.int .u8 0,.int .u8 0,.int .u8 0,.int .u8 0,.int .u8 0,.int .u8 0,.int .u8 0,.int .u8 0,.int .u8 0,.int .u8 0,.int .u8 0,.int .u8 0,.int .u8 0,.int .u8 0,.int .u8 0,.int .u8 0,.int .u8 0,.int .u8 0,.int .u8 0,.int .u8 0,.int .u8 0,.int .u8 0,.int .u8 0,.int .u8 0,.slice none 0 0],false⟩
 | 79=>some ⟨.ptr 157,1,8,[.pointer none],false⟩
 | 90=>some ⟨.struct [(0,3),(1,77),(58,5)],59,120,[.int .i64 0,.string ByteArray.empty,.int .u8 0,.int .u8 0,.int .u8 0,.int .u8 0,.int .u8 0,.int .u8 0,.int .u8 0,.int .u8 0,.int .u8 0,.int .u8 0,.int .u8 0,.int .u8 0,.int .u8 0,.int .u8 0,.int .u8 0,.int .u8 0,.int .u32 0,.int .u16 0,.int .u8 0,.int .u8 0,.int .u8 0,.int .u8 0,.int .u8 0,.int .u8 0,.int .u8 0,.int .u8 0,.int .u8 0,.int .u8 0,.int .u8 0,.int .u8 0,.int .u8 0,.int .u8 0,.int .u8 0,.int .u8 0,.int .u8 0,.int .u8 0,.int .u8 0,.int .u8 0,.int .u8 0,.int .u8 0,.int .u8 0,.int .u8 0,.int .u8 0,.int .u8 0,.int .u8 0,.int .u8 0,.int .u8 0,.int .u8 0,.int .u8 0,.int .u8 0,.int .u8 0,.int .u8 0,.int .u8 0,.int .u8 0,.int .u8 0,.slice none 0 0,.int .u8 0],false⟩
 | 92=>some ⟨.slice 90,1,24,[.slice none 0 0],false⟩
 | 96=>some ⟨.struct [(0,77),(57,3),(58,4),(59,35)],60,128,[.string ByteArray.empty,.int .u8 0,.int .u8 0,.int .u8 0,.int .u8 0,.int .u8 0,.int .u8 0,.int .u8 0,.int .u8 0,.int .u8 0,.int .u8 0,.int .u8 0,.int .u8 0,.int .u8 0,.int .u8 0,.int .u8 0,.int .u8 0,.int .u32 0,.int .u16 0,.int .u8 0,.int .u8 0,.int .u8 0,.int .u8 0,.int .u8 0,.int .u8 0,.int .u8 0,.int .u8 0,.int .u8 0,.int .u8 0,.int .u8 0,.int .u8 0,.int .u8 0,.int .u8 0,.int .u8 0,.int .u8 0,.int .u8 0,.int .u8 0,.int .u8 0,.int .u8 0,.int .u8 0,.int .u8 0,.int .u8 0,.int .u8 0,.int .u8 0,.int .u8 0,.int .u8 0,.int .u8 0,.int .u8 0,.int .u8 0,.int .u8 0,.int .u8 0,.int .u8 0,.int .u8 0,.int .u8 0,.int .u8 0,.int .u8 0,.slice none 0 0,.int .i64 0,.bool false,.int .i64 0],false⟩
 | 102=>some ⟨.ptr 163,1,8,[.pointer none],false⟩
 | 117=>some ⟨.slice 118,1,24,[.slice none 0 0],false⟩
 | 118=>some ⟨.struct [(0,57),(1,57)],2,4,[.int .u16 0,.int .u16 0],true⟩
 | 124=>some ⟨.struct [(0,23),(1,3),(2,3),(3,3),(4,4),(5,3)],6,64,[.slice none 0 0,.int .i64 0,.int .i64 0,.int .i64 0,.bool false,.int .i64 0],false⟩
 | 125=>some ⟨.ptr 173,1,8,[.pointer none],false⟩
 | 126=>some ⟨.array 2 125,2,16,[.pointer none,.pointer none],false⟩
 | 128=>some ⟨.struct [(0,28),(1,126)],3,24,[.pointer none,.pointer none,.pointer none],false⟩
 | 138=>some ⟨.slice 171,1,24,[.slice none 0 0],false⟩
 | 140=>some ⟨.struct [(0,125),(1,138),(2,138),(3,3),(4,4)],5,72,[.pointer none,.slice none 0 0,.slice none 0 0,.int .i64 0,.bool false],false⟩
 | 148=>some ⟨.struct [(0,23),(1,3),(2,3),(3,3),(4,3),(5,4),(6,3)],7,72,[.slice none 0 0,.int .i64 0,.int .i64 0,.int .i64 0,.int .i64 0,.bool false,.int .i64 0],false⟩
 | 151=>some ⟨.ptr 235,1,8,[.pointer none],false⟩
 | 153=>some ⟨.struct [(0,62),(1,151),(2,151)],3,24,[.pointer none,.pointer none,.pointer none],false⟩
 | 157=>some ⟨.struct [(0,29)],1,8,[.pointer none],false⟩
 | 160=>some ⟨.func,1,8,[.nilFunc],false⟩
 | 163=>some ⟨.struct [(0,30)],1,8,[.pointer none],false⟩
 | 168=>some ⟨.int .u64,1,8,[.int .u64 0],false⟩
 | 171=>some ⟨.struct [(0,23),(1,23),(2,4)],3,56,[.slice none 0 0,.slice none 0 0,.bool false],false⟩
 | 173=>some ⟨.struct [(0,28),(1,3),(2,3)],3,24,[.pointer none,.int .i64 0,.int .i64 0],false⟩
 | 174=>some ⟨.array 2 72,2,8,[.int .u32 0,.int .u32 0],true⟩
 | 175=>some ⟨.array 2 4,2,2,[.bool false,.bool false],true⟩
 | 182=>some ⟨.func,1,8,[.nilFunc],false⟩
 | 185=>some ⟨.func,1,8,[.nilFunc],false⟩
 | 186=>some ⟨.slice 3,1,24,[.slice none 0 0],false⟩
 | 191=>some ⟨.int .u64,1,8,[.int .u64 0],false⟩
 | 199=>some ⟨.slice 202,1,24,[.slice none 0 0],false⟩
 | 202=>some ⟨.struct [(0,23),(1,23),(2,4)],3,56,[.slice none 0 0,.slice none 0 0,.bool false],false⟩
 | 212=>some ⟨.func,1,8,[.nilFunc],false⟩
 | 218=>some ⟨.func,1,8,[.nilFunc],false⟩
 | 225=>some ⟨.func,1,8,[.nilFunc],false⟩
 | 235=>some ⟨.struct [(0,62),(1,3),(2,3)],3,24,[.pointer none,.int .i64 0,.int .i64 0],false⟩
 | 244=>some ⟨.array 13 5,13,13,[.int .u8 0,.int .u8 0,.int .u8 0,.int .u8 0,.int .u8 0,.int .u8 0,.int .u8 0,.int .u8 0,.int .u8 0,.int .u8 0,.int .u8 0,.int .u8 0,.int .u8 0],true⟩
 | 246=>some ⟨.func,1,8,[.nilFunc],false⟩
 | 258=>some ⟨.func,1,8,[.nilFunc],false⟩
 | 262=>some ⟨.array 16 72,16,64,[.int .u32 0,.int .u32 0,.int .u32 0,.int .u32 0,.int .u32 0,.int .u32 0,.int .u32 0,.int .u32 0,.int .u32 0,.int .u32 0,.int .u32 0,.int .u32 0,.int .u32 0,.int .u32 0,.int .u32 0,.int .u32 0],true⟩
 | 267=>some ⟨.array 4 3,4,32,[.int .i64 0,.int .i64 0,.int .i64 0,.int .i64 0],true⟩
 | _=>none
theorem Tj:bj Tryz.prog 1 ⟨.func,1,8,[.nilFunc],false⟩:=⟨⟨_,_,_,Tryz.underlying1⟩,⟨(.nilFunc),by kernel_rfl,rfl⟩,rfl,fun h=>by cases h⟩
theorem Tl:bj Tryz.prog 3 ⟨.int .i64,1,8,[.int .i64 0],false⟩:=⟨Tryz.underlying3,⟨(.int .i64 0),by kernel_rfl,rfl⟩,rfl,fun h=>by cases h⟩
theorem Tn:bj Tryz.prog 4 ⟨.bool,1,1,[.bool false],false⟩:=⟨Tryz.underlying4,⟨(.bool false),by kernel_rfl,rfl⟩,rfl,fun h=>by cases h⟩
theorem Tp:bj Tryz.prog 5 ⟨.int .u8,1,1,[.int .u8 0],false⟩:=⟨Tryz.underlying5,⟨(.int .u8 0),by kernel_rfl,rfl⟩,rfl,fun h=>by cases h⟩
theorem Tq:bj Tryz.prog 9 ⟨.string,1,16,[.string ByteArray.empty],false⟩:=⟨Tryz.underlying9,⟨(.string ByteArray.empty),by kernel_rfl,rfl⟩,rfl,fun h=>by cases h⟩
theorem Tt:bj Tryz.prog 22 ⟨.slice 26,1,24,[.slice none 0 0],false⟩:=⟨Tryz.underlying22,⟨(.slice none 0 0),by kernel_rfl,rfl⟩,rfl,fun h=>by cases h⟩
theorem Tu:bj Tryz.prog 23 ⟨.slice 5,1,24,[.slice none 0 0],false⟩:=⟨Tryz.underlying23,⟨(.slice none 0 0),by kernel_rfl,rfl⟩,rfl,fun h=>by cases h⟩
theorem Tv:bj Tryz.prog 26 ⟨.struct [(0,3),(1,3),(2,3),(3,23),(4,23)],5,72,[.int .i64 0,.int .i64 0,.int .i64 0,.slice none 0 0,.slice none 0 0],false⟩:=⟨⟨_,Tryz.underlying26,rfl⟩,⟨(.agg #[.int .i64 0,.int .i64 0,.int .i64 0,.slice none 0 0,.slice none 0 0]),by kernel_rfl,rfl⟩,rfl,fun h=>by cases h⟩
theorem Tw:bj Tryz.prog 28 ⟨.ptr 124,1,8,[.pointer none],false⟩:=⟨Tryz.underlying28,⟨(.pointer none),by kernel_rfl,rfl⟩,rfl,fun h=>by cases h⟩
theorem Ty:bj Tryz.prog 29 ⟨.ptr 128,1,8,[.pointer none],false⟩:=⟨Tryz.underlying29,⟨(.pointer none),by kernel_rfl,rfl⟩,rfl,fun h=>by cases h⟩
theorem Tz:bj Tryz.prog 30 ⟨.ptr 49,1,8,[.pointer none],false⟩:=⟨Tryz.underlying30,⟨(.pointer none),by kernel_rfl,rfl⟩,rfl,fun h=>by cases h⟩
theorem TA:bj Tryz.prog 35 ⟨.int .i64,1,8,[.int .i64 0],false⟩:=⟨Tryz.underlying35,⟨(.int .i64 0),by kernel_rfl,rfl⟩,rfl,fun h=>by cases h⟩
theorem TB:bj Tryz.prog 47 ⟨.slice 23,1,24,[.slice none 0 0],false⟩:=⟨Tryz.underlying47,⟨(.slice none 0 0),by kernel_rfl,rfl⟩,rfl,fun h=>by cases h⟩
theorem TC:bj Tryz.prog 49 ⟨.struct [(0,47),(1,47),(2,3)],3,56,[.slice none 0 0,.slice none 0 0,.int .i64 0],false⟩:=⟨⟨_,Tryz.underlying49,rfl⟩,⟨(.agg #[.slice none 0 0,.slice none 0 0,.int .i64 0]),by kernel_rfl,rfl⟩,rfl,fun h=>by cases h⟩
theorem TD:bj Tryz.prog 51 ⟨.struct [(0,23),(1,47),(2,3),(3,4),(4,35)],5,72,[.slice none 0 0,.slice none 0 0,.int .i64 0,.bool false,.int .i64 0],false⟩:=⟨⟨_,Tryz.underlying51,rfl⟩,⟨(.agg #[.slice none 0 0,.slice none 0 0,.int .i64 0,.bool false,.int .i64 0]),by kernel_rfl,rfl⟩,rfl,fun h=>by cases h⟩
theorem TE:bj Tryz.prog 55 ⟨.slice 59,1,24,[.slice none 0 0],false⟩:=⟨Tryz.underlying55,⟨(.slice none 0 0),by kernel_rfl,rfl⟩,rfl,fun h=>by cases h⟩
theorem TF:bj Tryz.prog 57 ⟨.int .u16,1,2,[.int .u16 0],false⟩:=⟨Tryz.underlying57,⟨(.int .u16 0),by kernel_rfl,rfl⟩,rfl,fun h=>by cases h⟩
theorem TG:bj Tryz.prog 59 ⟨.struct [(0,57),(1,57)],2,4,[.int .u16 0,.int .u16 0],true⟩:=⟨⟨_,Tryz.underlying59,rfl⟩,⟨(.agg #[.int .u16 0,.int .u16 0]),by kernel_rfl,rfl⟩,rfl,fun h=>B0 Tryz.underlying59 (by kernel_rfl) (by kernel_rfl) (by kernel_rfl) ⟨⟨rfl,by kernel_rfl,Tryz.underlying57⟩,⟨rfl,by kernel_rfl,Tryz.underlying57⟩,trivial⟩ (by kernel_rfl) (by kernel_rfl)⟩
theorem TH:bj Tryz.prog 62 ⟨.ptr 148,1,8,[.pointer none],false⟩:=⟨Tryz.underlying62,⟨(.pointer none),by kernel_rfl,rfl⟩,rfl,fun h=>by cases h⟩
theorem TJ:bj Tryz.prog 65 ⟨.ptr 153,1,8,[.pointer none],false⟩:=⟨Tryz.underlying65,⟨(.pointer none),by kernel_rfl,rfl⟩,rfl,fun h=>by cases h⟩
theorem TK:bj Tryz.prog 69 ⟨.slice 77,1,24,[.slice none 0 0],false⟩:=⟨Tryz.underlying69,⟨(.slice none 0 0),by kernel_rfl,rfl⟩,rfl,fun h=>by cases h⟩
theorem TL:bj Tryz.prog 71 ⟨.array 16 5,16,16,[.int .u8 0,.int .u8 0,.int .u8 0,.int .u8 0,.int .u8 0,.int .u8 0,.int .u8 0,.int .u8 0,.int .u8 0,.int .u8 0,.int .u8 0,.int .u8 0,.int .u8 0,.int .u8 0,.int .u8 0,.int .u8 0],true⟩:=⟨Tryz.underlying71,⟨(.agg #[.int .u8 0,.int .u8 0,.int .u8 0,.int .u8 0,.int .u8 0,.int .u8 0,.int .u8 0,.int .u8 0,.int .u8 0,.int .u8 0,.int .u8 0,.int .u8 0,.int .u8 0,.int .u8 0,.int .u8 0,.int .u8 0]),by kernel_rfl,rfl⟩,rfl,fun h=>qM (u:= .int .u8 0) Tryz.underlying71 Tryz.underlying5 (by kernel_rfl) (by kernel_rfl) (by kernel_rfl) (by kernel_rfl)⟩
theorem TM:bj Tryz.prog 72 ⟨.int .u32,1,4,[.int .u32 0],false⟩:=⟨Tryz.underlying72,⟨(.int .u32 0),by kernel_rfl,rfl⟩,rfl,fun h=>by cases h⟩
theorem TN:bj Tryz.prog 74 ⟨.struct [(0,57),(1,5),(2,5),(3,5),(4,5),(5,5)],6,8,[.int .u16 0,.int .u8 0,.int .u8 0,.int .u8 0,.int .u8 0,.int .u8 0],true⟩:=⟨⟨_,Tryz.underlying74,rfl⟩,⟨(.agg #[.int .u16 0,.int .u8 0,.int .u8 0,.int .u8 0,.int .u8 0,.int .u8 0]),by kernel_rfl,rfl⟩,rfl,fun h=>B0 Tryz.underlying74 (by kernel_rfl) (by kernel_rfl) (by kernel_rfl) ⟨⟨rfl,by kernel_rfl,Tryz.underlying57⟩,⟨rfl,by kernel_rfl,Tryz.underlying5⟩,⟨rfl,by kernel_rfl,Tryz.underlying5⟩,⟨rfl,by kernel_rfl,Tryz.underlying5⟩,⟨rfl,by kernel_rfl,Tryz.underlying5⟩,⟨rfl,by kernel_rfl,Tryz.underlying5⟩,trivial⟩ (by kernel_rfl) (by kernel_rfl)⟩
theorem TO:bj Tryz.prog 75 ⟨.array 32 5,32,32,[.int .u8 0,.int .u8 0,.int .u8 0,.int .u8 0,.int .u8 0,.int .u8 0,.int .u8 0,.int .u8 0,.int .u8 0,.int .u8 0,.int .u8 0,.int .u8 0,.int .u8 0,.int .u8 0,.int .u8 0,.int .u8 0,.int .u8 0,.int .u8 0,.int .u8 0,.int .u8 0,.int .u8 0,.int .u8 0,.int .u8 0,.int .u8 0,.int .u8 0,.int .u8 0,.int .u8 0,.int .u8 0,.int .u8 0,.int .u8 0,.int .u8 0,.int .u8 0],true⟩:=⟨Tryz.underlying75,⟨(.agg #[.int .u8 0,.int .u8 0,.int .u8 0,.int .u8 0,.int .u8 0,.int .u8 0,.int .u8 0,.int .u8 0,.int .u8 0,.int .u8 0,.int .u8 0,.int .u8 0,.int .u8 0,.int .u8 0,.int .u8 0,.int .u8 0,.int .u8 0,.int .u8 0,.int .u8 0,.int .u8 0,.int .u8 0,.int .u8 0,.int .u8 0,.int .u8 0,.int .u8 0,.int .u8 0,.int .u8 0,.int .u8 0,.int .u8 0,.int .u8 0,.int .u8 0,.int .u8 0]),by kernel_rfl,rfl⟩,rfl,fun h=>qM (u:= .int .u8 0) Tryz.underlying75 Tryz.underlying5 (by kernel_rfl) (by kernel_rfl) (by kernel_rfl) (by kernel_rfl)⟩
theorem TP:bj Tryz.prog 77 ⟨.struct [(0,9),(1,71),(17,72),(18,74),(24,75),(56,23)],57,104,[.string ByteArray.empty,.int .u8 0,.int .u8 0,.int .u8 0,.int .u8 0,.int .u8 0,.int .u8 0,.int .u8 0,.int .u8 0,.int .u8 0,.int .u8 0,.int .u8 0,.int .u8 0,.int .u8 0,.int .u8 0,.int .u8 0,.int .u8 0,.int .u32 0,.int .u16 0,.int .u8 0,.int .u8 0,.int .u8 0,.int .u8 0,.int .u8 0,.int .u8 0,.int .u8 0,.int .u8 0,.int .u8 0,.int .u8 0,.int .u8 0,.int .u8 0,.int .u8 0,.int .u8 0,.int .u8 0,.int .u8 0,.int .u8 0,.int .u8 0,.int .u8 0,.int .u8 0,.int .u8 0,.int .u8 0,.int .u8 0,.int .u8 0,.int .u8 0,.int .u8 0,.int .u8 0,.int .u8 0,.int .u8 0,.int .u8 0,.int .u8 0,.int .u8 0,.int .u8 0,.int .u8 0,.int .u8 0,.int .u8 0,.int .u8 0,.slice none 0 0],false⟩:=⟨⟨_,Tryz.underlying77,rfl⟩,⟨(.agg #[.string ByteArray.empty,.int .u8 0,.int .u8 0,.int .u8 0,.int .u8 0,.int .u8 0,.int .u8 0,.int .u8 0,.int .u8 0,.int .u8 0,.int .u8 0,.int .u8 0,.int .u8 0,.int .u8 0,.int .u8 0,.int .u8 0,.int .u8 0,.int .u32 0,.int .u16 0,.int .u8 0,.int .u8 0,.int .u8 0,.int .u8 0,.int .u8 0,.int .u8 0,.int .u8 0,.int .u8 0,.int .u8 0,.int .u8 0,.int .u8 0,.int .u8 0,.int .u8 0,.int .u8 0,.int .u8 0,.int .u8 0,.int .u8 0,.int .u8 0,.int .u8 0,.int .u8 0,.int .u8 0,.int .u8 0,.int .u8 0,.int .u8 0,.int .u8 0,.int .u8 0,.int .u8 0,.int .u8 0,.int .u8 0,.int .u8 0,.int .u8 0,.int .u8 0,.int .u8 0,.int .u8 0,.int .u8 0,.int .u8 0,.int .u8 0,.slice none 0 0]),by kernel_rfl,rfl⟩,rfl,fun h=>by cases h⟩
theorem TQ:bj Tryz.prog 79 ⟨.ptr 157,1,8,[.pointer none],false⟩:=⟨Tryz.underlying79,⟨(.pointer none),by kernel_rfl,rfl⟩,rfl,fun h=>by cases h⟩
theorem TT:bj Tryz.prog 90 ⟨.struct [(0,3),(1,77),(58,5)],59,120,[.int .i64 0,.string ByteArray.empty,.int .u8 0,.int .u8 0,.int .u8 0,.int .u8 0,.int .u8 0,.int .u8 0,.int .u8 0,.int .u8 0,.int .u8 0,.int .u8 0,.int .u8 0,.int .u8 0,.int .u8 0,.int .u8 0,.int .u8 0,.int .u8 0,.int .u32 0,.int .u16 0,.int .u8 0,.int .u8 0,.int .u8 0,.int .u8 0,.int .u8 0,.int .u8 0,.int .u8 0,.int .u8 0,.int .u8 0,.int .u8 0,.int .u8 0,.int .u8 0,.int .u8 0,.int .u8 0,.int .u8 0,.int .u8 0,.int .u8 0,.int .u8 0,.int .u8 0,.int .u8 0,.int .u8 0,.int .u8 0,.int .u8 0,.int .u8 0,.int .u8 0,.int .u8 0,.int .u8 0,.int .u8 0,.int .u8 0,.int .u8 0,.int .u8 0,.int .u8 0,.int .u8 0,.int .u8 0,.int .u8 0,.int .u8 0,.int .u8 0,.slice none 0 0,.int .u8 0],false⟩:=⟨⟨_,Tryz.underlying90,rfl⟩,⟨(.agg #[.int .i64 0,.string ByteArray.empty,.int .u8 0,.int .u8 0,.int .u8 0,.int .u8 0,.int .u8 0,.int .u8 0,.int .u8 0,.int .u8 0,.int .u8 0,.int .u8 0,.int .u8 0,.int .u8 0,.int .u8 0,.int .u8 0,.int .u8 0,.int .u8 0,.int .u32 0,.int .u16 0,.int .u8 0,.int .u8 0,.int .u8 0,.int .u8 0,.int .u8 0,.int .u8 0,.int .u8 0,.int .u8 0,.int .u8 0,.int .u8 0,.int .u8 0,.int .u8 0,.int .u8 0,.int .u8 0,.int .u8 0,.int .u8 0,.int .u8 0,.int .u8 0,.int .u8 0,.int .u8 0,.int .u8 0,.int .u8 0,.int .u8 0,.int .u8 0,.int .u8 0,.int .u8 0,.int .u8 0,.int .u8 0,.int .u8 0,.int .u8 0,.int .u8 0,.int .u8 0,.int .u8 0,.int .u8 0,.int .u8 0,.int .u8 0,.int .u8 0,.slice none 0 0,.int .u8 0]),by kernel_rfl,rfl⟩,rfl,fun h=>by cases h⟩
theorem TU:bj Tryz.prog 92 ⟨.slice 90,1,24,[.slice none 0 0],false⟩:=⟨Tryz.underlying92,⟨(.slice none 0 0),by kernel_rfl,rfl⟩,rfl,fun h=>by cases h⟩
theorem TV:bj Tryz.prog 96 ⟨.struct [(0,77),(57,3),(58,4),(59,35)],60,128,[.string ByteArray.empty,.int .u8 0,.int .u8 0,.int .u8 0,.int .u8 0,.int .u8 0,.int .u8 0,.int .u8 0,.int .u8 0,.int .u8 0,.int .u8 0,.int .u8 0,.int .u8 0,.int .u8 0,.int .u8 0,.int .u8 0,.int .u8 0,.int .u32 0,.int .u16 0,.int .u8 0,.int .u8 0,.int .u8 0,.int .u8 0,.int .u8 0,.int .u8 0,.int .u8 0,.int .u8 0,.int .u8 0,.int .u8 0,.int .u8 0,.int .u8 0,.int .u8 0,.int .u8 0,.int .u8 0,.int .u8 0,.int .u8 0,.int .u8 0,.int .u8 0,.int .u8 0,.int .u8 0,.int .u8 0,.int .u8 0,.int .u8 0,.int .u8 0,.int .u8 0,.int .u8 0,.int .u8 0,.int .u8 0,.int .u8 0,.int .u8 0,.int .u8 0,.int .u8 0,.int .u8 0,.int .u8 0,.int .u8 0,.int .u8 0,.slice none 0 0,.int .i64 0,.bool false,.int .i64 0],false⟩:=⟨⟨_,Tryz.underlying96,rfl⟩,⟨(.agg #[.string ByteArray.empty,.int .u8 0,.int .u8 0,.int .u8 0,.int .u8 0,.int .u8 0,.int .u8 0,.int .u8 0,.int .u8 0,.int .u8 0,.int .u8 0,.int .u8 0,.int .u8 0,.int .u8 0,.int .u8 0,.int .u8 0,.int .u8 0,.int .u32 0,.int .u16 0,.int .u8 0,.int .u8 0,.int .u8 0,.int .u8 0,.int .u8 0,.int .u8 0,.int .u8 0,.int .u8 0,.int .u8 0,.int .u8 0,.int .u8 0,.int .u8 0,.int .u8 0,.int .u8 0,.int .u8 0,.int .u8 0,.int .u8 0,.int .u8 0,.int .u8 0,.int .u8 0,.int .u8 0,.int .u8 0,.int .u8 0,.int .u8 0,.int .u8 0,.int .u8 0,.int .u8 0,.int .u8 0,.int .u8 0,.int .u8 0,.int .u8 0,.int .u8 0,.int .u8 0,.int .u8 0,.int .u8 0,.int .u8 0,.int .u8 0,.slice none 0 0,.int .i64 0,.bool false,.int .i64 0]),by kernel_rfl,rfl⟩,rfl,fun h=>by cases h⟩
theorem TW:bj Tryz.prog 102 ⟨.ptr 163,1,8,[.pointer none],false⟩:=⟨Tryz.underlying102,⟨(.pointer none),by kernel_rfl,rfl⟩,rfl,fun h=>by cases h⟩
theorem TX:bj Tryz.prog 117 ⟨.slice 118,1,24,[.slice none 0 0],false⟩:=⟨Tryz.underlying117,⟨(.slice none 0 0),by kernel_rfl,rfl⟩,rfl,fun h=>by cases h⟩
theorem TY:bj Tryz.prog 118 ⟨.struct [(0,57),(1,57)],2,4,[.int .u16 0,.int .u16 0],true⟩:=⟨⟨_,Tryz.underlying118,rfl⟩,⟨(.agg #[.int .u16 0,.int .u16 0]),by kernel_rfl,rfl⟩,rfl,fun h=>B0 Tryz.underlying118 (by kernel_rfl) (by kernel_rfl) (by kernel_rfl) ⟨⟨rfl,by kernel_rfl,Tryz.underlying57⟩,⟨rfl,by kernel_rfl,Tryz.underlying57⟩,trivial⟩ (by kernel_rfl) (by kernel_rfl)⟩
theorem TZ:bj Tryz.prog 124 ⟨.struct [(0,23),(1,3),(2,3),(3,3),(4,4),(5,3)],6,64,[.slice none 0 0,.int .i64 0,.int .i64 0,.int .i64 0,.bool false,.int .i64 0],false⟩:=⟨⟨_,Tryz.underlying124,rfl⟩,⟨(.agg #[.slice none 0 0,.int .i64 0,.int .i64 0,.int .i64 0,.bool false,.int .i64 0]),by kernel_rfl,rfl⟩,rfl,fun h=>by cases h⟩
theorem T4:bj Tryz.prog 125 ⟨.ptr 173,1,8,[.pointer none],false⟩:=⟨Tryz.underlying125,⟨(.pointer none),by kernel_rfl,rfl⟩,rfl,fun h=>by cases h⟩
theorem T5:bj Tryz.prog 126 ⟨.array 2 125,2,16,[.pointer none,.pointer none],false⟩:=⟨Tryz.underlying126,⟨(.agg #[.pointer none,.pointer none]),by kernel_rfl,rfl⟩,rfl,fun h=>by cases h⟩
theorem T6:bj Tryz.prog 128 ⟨.struct [(0,28),(1,126)],3,24,[.pointer none,.pointer none,.pointer none],false⟩:=⟨⟨_,Tryz.underlying128,rfl⟩,⟨(.agg #[.pointer none,.pointer none,.pointer none]),by kernel_rfl,rfl⟩,rfl,fun h=>by cases h⟩
theorem T7:bj Tryz.prog 138 ⟨.slice 171,1,24,[.slice none 0 0],false⟩:=⟨Tryz.underlying138,⟨(.slice none 0 0),by kernel_rfl,rfl⟩,rfl,fun h=>by cases h⟩
theorem T8:bj Tryz.prog 140 ⟨.struct [(0,125),(1,138),(2,138),(3,3),(4,4)],5,72,[.pointer none,.slice none 0 0,.slice none 0 0,.int .i64 0,.bool false],false⟩:=⟨⟨_,Tryz.underlying140,rfl⟩,⟨(.agg #[.pointer none,.slice none 0 0,.slice none 0 0,.int .i64 0,.bool false]),by kernel_rfl,rfl⟩,rfl,fun h=>by cases h⟩
theorem T9:bj Tryz.prog 148 ⟨.struct [(0,23),(1,3),(2,3),(3,3),(4,3),(5,4),(6,3)],7,72,[.slice none 0 0,.int .i64 0,.int .i64 0,.int .i64 0,.int .i64 0,.bool false,.int .i64 0],false⟩:=⟨⟨_,Tryz.underlying148,rfl⟩,⟨(.agg #[.slice none 0 0,.int .i64 0,.int .i64 0,.int .i64 0,.int .i64 0,.bool false,.int .i64 0]),by kernel_rfl,rfl⟩,rfl,fun h=>by cases h⟩
theorem Ua:bj Tryz.prog 151 ⟨.ptr 235,1,8,[.pointer none],false⟩:=⟨Tryz.underlying151,⟨(.pointer none),by kernel_rfl,rfl⟩,rfl,fun h=>by cases h⟩
theorem Ub:bj Tryz.prog 153 ⟨.struct [(0,62),(1,151),(2,151)],3,24,[.pointer none,.pointer none,.pointer none],false⟩:=⟨⟨_,Tryz.underlying153,rfl⟩,⟨(.agg #[.pointer none,.pointer none,.pointer none]),by kernel_rfl,rfl⟩,rfl,fun h=>by cases h⟩
theorem Uc:bj Tryz.prog 157 ⟨.struct [(0,29)],1,8,[.pointer none],false⟩:=⟨⟨_,Tryz.underlying157,rfl⟩,⟨(.agg #[.pointer none]),by kernel_rfl,rfl⟩,rfl,fun h=>by cases h⟩
theorem Ud:bj Tryz.prog 160 ⟨.func,1,8,[.nilFunc],false⟩:=⟨⟨_,_,_,Tryz.underlying160⟩,⟨(.nilFunc),by kernel_rfl,rfl⟩,rfl,fun h=>by cases h⟩
theorem Ue:bj Tryz.prog 163 ⟨.struct [(0,30)],1,8,[.pointer none],false⟩:=⟨⟨_,Tryz.underlying163,rfl⟩,⟨(.agg #[.pointer none]),by kernel_rfl,rfl⟩,rfl,fun h=>by cases h⟩
theorem Uf:bj Tryz.prog 168 ⟨.int .u64,1,8,[.int .u64 0],false⟩:=⟨Tryz.underlying168,⟨(.int .u64 0),by kernel_rfl,rfl⟩,rfl,fun h=>by cases h⟩
theorem Ug:bj Tryz.prog 171 ⟨.struct [(0,23),(1,23),(2,4)],3,56,[.slice none 0 0,.slice none 0 0,.bool false],false⟩:=⟨⟨_,Tryz.underlying171,rfl⟩,⟨(.agg #[.slice none 0 0,.slice none 0 0,.bool false]),by kernel_rfl,rfl⟩,rfl,fun h=>by cases h⟩
theorem Uh:bj Tryz.prog 173 ⟨.struct [(0,28),(1,3),(2,3)],3,24,[.pointer none,.int .i64 0,.int .i64 0],false⟩:=⟨⟨_,Tryz.underlying173,rfl⟩,⟨(.agg #[.pointer none,.int .i64 0,.int .i64 0]),by kernel_rfl,rfl⟩,rfl,fun h=>by cases h⟩
theorem Ui:bj Tryz.prog 174 ⟨.array 2 72,2,8,[.int .u32 0,.int .u32 0],true⟩:=⟨Tryz.underlying174,⟨(.agg #[.int .u32 0,.int .u32 0]),by kernel_rfl,rfl⟩,rfl,fun h=>qM (u:= .int .u32 0) Tryz.underlying174 Tryz.underlying72 (by kernel_rfl) (by kernel_rfl) (by kernel_rfl) (by kernel_rfl)⟩
theorem Uj:bj Tryz.prog 175 ⟨.array 2 4,2,2,[.bool false,.bool false],true⟩:=⟨Tryz.underlying175,⟨(.agg #[.bool false,.bool false]),by kernel_rfl,rfl⟩,rfl,fun h=>qM (u:= .bool false) Tryz.underlying175 Tryz.underlying4 (by kernel_rfl) (by kernel_rfl) (by kernel_rfl) (by kernel_rfl)⟩
theorem Uk:bj Tryz.prog 182 ⟨.func,1,8,[.nilFunc],false⟩:=⟨⟨_,_,_,Tryz.underlying182⟩,⟨(.nilFunc),by kernel_rfl,rfl⟩,rfl,fun h=>by cases h⟩
theorem Ul:bj Tryz.prog 185 ⟨.func,1,8,[.nilFunc],false⟩:=⟨⟨_,_,_,Tryz.underlying185⟩,⟨(.nilFunc),by kernel_rfl,rfl⟩,rfl,fun h=>by cases h⟩
theorem Um:bj Tryz.prog 186 ⟨.slice 3,1,24,[.slice none 0 0],false⟩:=⟨Tryz.underlying186,⟨(.slice none 0 0),by kernel_rfl,rfl⟩,rfl,fun h=>by cases h⟩
theorem Un:bj Tryz.prog 191 ⟨.int .u64,1,8,[.int .u64 0],false⟩:=⟨Tryz.underlying191,⟨(.int .u64 0),by kernel_rfl,rfl⟩,rfl,fun h=>by cases h⟩
theorem Uo:bj Tryz.prog 199 ⟨.slice 202,1,24,[.slice none 0 0],false⟩:=⟨Tryz.underlying199,⟨(.slice none 0 0),by kernel_rfl,rfl⟩,rfl,fun h=>by cases h⟩
theorem Up:bj Tryz.prog 202 ⟨.struct [(0,23),(1,23),(2,4)],3,56,[.slice none 0 0,.slice none 0 0,.bool false],false⟩:=⟨⟨_,Tryz.underlying202,rfl⟩,⟨(.agg #[.slice none 0 0,.slice none 0 0,.bool false]),by kernel_rfl,rfl⟩,rfl,fun h=>by cases h⟩
theorem Uq:bj Tryz.prog 212 ⟨.func,1,8,[.nilFunc],false⟩:=⟨⟨_,_,_,Tryz.underlying212⟩,⟨(.nilFunc),by kernel_rfl,rfl⟩,rfl,fun h=>by cases h⟩
theorem Ur:bj Tryz.prog 218 ⟨.func,1,8,[.nilFunc],false⟩:=⟨⟨_,_,_,Tryz.underlying218⟩,⟨(.nilFunc),by kernel_rfl,rfl⟩,rfl,fun h=>by cases h⟩
theorem Ut:bj Tryz.prog 225 ⟨.func,1,8,[.nilFunc],false⟩:=⟨⟨_,_,_,Tryz.underlying225⟩,⟨(.nilFunc),by kernel_rfl,rfl⟩,rfl,fun h=>by cases h⟩
theorem Uu:bj Tryz.prog 235 ⟨.struct [(0,62),(1,3),(2,3)],3,24,[.pointer none,.int .i64 0,.int .i64 0],false⟩:=⟨⟨_,Tryz.underlying235,rfl⟩,⟨(.agg #[.pointer none,.int .i64 0,.int .i64 0]),by kernel_rfl,rfl⟩,rfl,fun h=>by cases h⟩
theorem Uv:bj Tryz.prog 244 ⟨.array 13 5,13,13,[.int .u8 0,.int .u8 0,.int .u8 0,.int .u8 0,.int .u8 0,.int .u8 0,.int .u8 0,.int .u8 0,.int .u8 0,.int .u8 0,.int .u8 0,.int .u8 0,.int .u8 0],true⟩:=⟨Tryz.underlying244,⟨(.agg #[.int .u8 0,.int .u8 0,.int .u8 0,.int .u8 0,.int .u8 0,.int .u8 0,.int .u8 0,.int .u8 0,.int .u8 0,.int .u8 0,.int .u8 0,.int .u8 0,.int .u8 0]),by kernel_rfl,rfl⟩,rfl,fun h=>qM (u:= .int .u8 0) Tryz.underlying244 Tryz.underlying5 (by kernel_rfl) (by kernel_rfl) (by kernel_rfl) (by kernel_rfl)⟩
theorem Uw:bj Tryz.prog 246 ⟨.func,1,8,[.nilFunc],false⟩:=⟨⟨_,_,_,Tryz.underlying246⟩,⟨(.nilFunc),by kernel_rfl,rfl⟩,rfl,fun h=>by cases h⟩
theorem Ux:bj Tryz.prog 258 ⟨.func,1,8,[.nilFunc],false⟩:=⟨⟨_,_,_,Tryz.underlying258⟩,⟨(.nilFunc),by kernel_rfl,rfl⟩,rfl,fun h=>by cases h⟩
theorem Uy:bj Tryz.prog 262 ⟨.array 16 72,16,64,[.int .u32 0,.int .u32 0,.int .u32 0,.int .u32 0,.int .u32 0,.int .u32 0,.int .u32 0,.int .u32 0,.int .u32 0,.int .u32 0,.int .u32 0,.int .u32 0,.int .u32 0,.int .u32 0,.int .u32 0,.int .u32 0],true⟩:=⟨Tryz.underlying262,⟨(.agg #[.int .u32 0,.int .u32 0,.int .u32 0,.int .u32 0,.int .u32 0,.int .u32 0,.int .u32 0,.int .u32 0,.int .u32 0,.int .u32 0,.int .u32 0,.int .u32 0,.int .u32 0,.int .u32 0,.int .u32 0,.int .u32 0]),by kernel_rfl,rfl⟩,rfl,fun h=>qM (u:= .int .u32 0) Tryz.underlying262 Tryz.underlying72 (by kernel_rfl) (by kernel_rfl) (by kernel_rfl) (by kernel_rfl)⟩
theorem Uz:bj Tryz.prog 267 ⟨.array 4 3,4,32,[.int .i64 0,.int .i64 0,.int .i64 0,.int .i64 0],true⟩:=⟨Tryz.underlying267,⟨(.agg #[.int .i64 0,.int .i64 0,.int .i64 0,.int .i64 0]),by kernel_rfl,rfl⟩,rfl,fun h=>qM (u:= .int .i64 0) Tryz.underlying267 Tryz.underlying3 (by kernel_rfl) (by kernel_rfl) (by kernel_rfl) (by kernel_rfl)⟩
set_option maxHeartbeats 4000000 in
theorem ai:cD Tryz.prog tb:=by
 intro t ti h
 unfold tb at h
 split at h
 ·cases h;exact Tj
 ·cases h;exact Tl
 ·cases h;exact Tn
 ·cases h;exact Tp
 ·cases h;exact Tq
 ·cases h;exact Tt
 ·cases h;exact Tu
 ·cases h;exact Tv
 ·cases h;exact Tw
 ·cases h;exact Ty
 ·cases h;exact Tz
 ·cases h;exact TA
 ·cases h;exact TB
 ·cases h;exact TC
 ·cases h;exact TD
 ·cases h;exact TE
 ·cases h;exact TF
 ·cases h;exact TG
 ·cases h;exact TH
 ·cases h;exact TJ
 ·cases h;exact TK
 ·cases h;exact TL
 ·cases h;exact TM
 ·cases h;exact TN
 ·cases h;exact TO
 ·cases h;exact TP
 ·cases h;exact TQ
 ·cases h;exact TT
 ·cases h;exact TU
 ·cases h;exact TV
 ·cases h;exact TW
 ·cases h;exact TX
 ·cases h;exact TY
 ·cases h;exact TZ
 ·cases h;exact T4
 ·cases h;exact T5
 ·cases h;exact T6
 ·cases h;exact T7
 ·cases h;exact T8
 ·cases h;exact T9
 ·cases h;exact Ua
 ·cases h;exact Ub
 ·cases h;exact Uc
 ·cases h;exact Ud
 ·cases h;exact Ue
 ·cases h;exact Uf
 ·cases h;exact Ug
 ·cases h;exact Uh
 ·cases h;exact Ui
 ·cases h;exact Uj
 ·cases h;exact Uk
 ·cases h;exact Ul
 ·cases h;exact Um
 ·cases h;exact Un
 ·cases h;exact Uo
 ·cases h;exact Up
 ·cases h;exact Uq
 ·cases h;exact Ur
 ·cases h;exact Ut
 ·cases h;exact Uu
 ·cases h;exact Uv
 ·cases h;exact Uw
 ·cases h;exact Ux
 ·cases h;exact Uy
 ·cases h;exact Uz
 ·cases h
end Go.Proofs.YtpbpiehcchannaaGreatDoor
