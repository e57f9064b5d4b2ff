/- The package variables that are laid: crc.table. Conditions: none. -/
import Derived.Test.YtpbpiehcchannaaGreatDoorJLb
namespace Go.Proofs.YtpbpiehcchannaaGreatDoor
def laidG : Nat → Option (List Value)
 | 1 => some [.int .u32 0, .int .u32 498536548, .int .u32 997073096, .int .u32 651767980, .int .u32 1994146192, .int .u32 1802195444, .int .u32 1303535960, .int .u32 1342533948, .int .u32 3988292384, .int .u32 4027552580, .int .u32 3604390888, .int .u32 3412177804, .int .u32 2607071920, .int .u32 2262029012, .int .u32 2685067896, .int .u32 3183342108]
 | _ => none
theorem laidG_ne {g : Nat} {cs : List Value} (h : laidG g = some cs) : cs ≠ [] := by
 unfold laidG at h
 split at h
 ·cases h; simp
 ·cases h
end Go.Proofs.YtpbpiehcchannaaGreatDoor
