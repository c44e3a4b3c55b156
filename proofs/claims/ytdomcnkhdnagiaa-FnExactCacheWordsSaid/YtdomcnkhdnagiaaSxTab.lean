/- The types of the seat, as the executor reads them. No condition. -/
import Derived.Test.YtdomcnkhdnagiaaSxA
namespace Go.SX
def tabL : List (Nat × TI) := [
  (2, ⟨.int .i64, 1, 8, [.int .i64 0], some (.int .i64), none⟩),
  (3, ⟨.int .i64, 1, 8, [.int .i64 0], some (.int .i64), none⟩),
  (4, ⟨.bool, 1, 1, [.bool false], some (.bool), none⟩),
  (5, ⟨.int .u8, 1, 1, [.int .u8 0], some (.int .u8), none⟩),
  (9, ⟨.str, 1, 16, [.string ByteArray.empty], some (.str), none⟩),
  (12, ⟨.int .u64, 1, 8, [.int .u64 0], some (.int .u64), none⟩),
  (13, ⟨.st [(0, 1, false), (1, 1, false)], 2, 24, [.string ByteArray.empty, .int .u64 0], some (.st (.pr (.str) (.int .u64))), none⟩),
  (21, ⟨.int .i32, 1, 4, [.int .i32 0], some (.int .i32), none⟩),
  (22, ⟨.sl 71 4 80 (.st (.pr (.sl (.int .u8)) (.st (.pr (.int .i64) (.pr (.sl (.int .i64)) (.sl (.int .i64))))))), 1, 24, [.slice none 0 0], some (.sl (.st (.pr (.sl (.int .u8)) (.st (.pr (.int .i64) (.pr (.sl (.int .i64)) (.sl (.int .i64)))))))), none⟩),
  (23, ⟨.st [(0, 1, false), (1, 1, false)], 2, 32, [.int .i64 0, .slice none 0 0], some (.st (.pr (.int .i64) (.sl (.st (.pr (.sl (.int .u8)) (.st (.pr (.int .i64) (.pr (.sl (.int .i64)) (.sl (.int .i64)))))))))), none⟩),
  (24, ⟨.st [(0, 1, false), (1, 1, false)], 2, 32, [.int .i64 0, .slice none 0 0], some (.st (.pr (.int .i64) (.sl (.st (.pr (.sl (.int .u8)) (.st (.pr (.int .i64) (.pr (.sl (.int .i64)) (.sl (.int .i64)))))))))), none⟩),
  (27, ⟨.sl 58 4 80 (.st (.pr (.sl (.int .u8)) (.st (.pr (.int .i64) (.pr (.sl (.int .i64)) (.sl (.int .i64))))))), 1, 24, [.slice none 0 0], some (.sl (.st (.pr (.sl (.int .u8)) (.st (.pr (.int .i64) (.pr (.sl (.int .i64)) (.sl (.int .i64)))))))), none⟩),
  (28, ⟨.st [(0, 1, false), (1, 1, false)], 2, 32, [.int .i64 0, .slice none 0 0], some (.st (.pr (.int .i64) (.sl (.st (.pr (.sl (.int .u8)) (.st (.pr (.int .i64) (.pr (.sl (.int .i64)) (.sl (.int .i64)))))))))), none⟩),
  (29, ⟨.st [(0, 1, false), (1, 1, false)], 2, 32, [.int .i64 0, .slice none 0 0], some (.st (.pr (.int .i64) (.sl (.st (.pr (.sl (.int .u8)) (.st (.pr (.int .i64) (.pr (.sl (.int .i64)) (.sl (.int .i64)))))))))), none⟩),
  (38, ⟨.sl 5 1 1 (.int .u8), 1, 24, [.slice none 0 0], some (.sl (.int .u8)), none⟩),
  (39, ⟨.sl 3 1 8 (.int .i64), 1, 24, [.slice none 0 0], some (.sl (.int .i64)), none⟩),
  (40, ⟨.st [(0, 1, false), (1, 1, false), (2, 1, false)], 3, 56, [.int .i64 0, .slice none 0 0, .slice none 0 0], some (.st (.pr (.int .i64) (.pr (.sl (.int .i64)) (.sl (.int .i64))))), none⟩),
  (41, ⟨.st [(0, 1, false), (1, 1, false), (2, 1, false)], 3, 56, [.int .i64 0, .slice none 0 0, .slice none 0 0], some (.st (.pr (.int .i64) (.pr (.sl (.int .i64)) (.sl (.int .i64))))), none⟩),
  (50, ⟨.st [(0, 1, false), (1, 1, false), (2, 1, false)], 3, 56, [.int .i64 0, .slice none 0 0, .slice none 0 0], some (.st (.pr (.int .i64) (.pr (.sl (.int .i64)) (.sl (.int .i64))))), none⟩),
  (57, ⟨.st [(0, 1, false), (1, 3, true)], 4, 80, [.slice none 0 0, .int .i64 0, .slice none 0 0, .slice none 0 0], some (.st (.pr (.sl (.int .u8)) (.st (.pr (.int .i64) (.pr (.sl (.int .i64)) (.sl (.int .i64))))))), none⟩),
  (58, ⟨.st [(0, 1, false), (1, 3, true)], 4, 80, [.slice none 0 0, .int .i64 0, .slice none 0 0, .slice none 0 0], some (.st (.pr (.sl (.int .u8)) (.st (.pr (.int .i64) (.pr (.sl (.int .i64)) (.sl (.int .i64))))))), none⟩),
  (70, ⟨.st [(0, 1, false), (1, 3, true)], 4, 80, [.slice none 0 0, .int .i64 0, .slice none 0 0, .slice none 0 0], some (.st (.pr (.sl (.int .u8)) (.st (.pr (.int .i64) (.pr (.sl (.int .i64)) (.sl (.int .i64))))))), none⟩),
  (71, ⟨.st [(0, 1, false), (1, 3, true)], 4, 80, [.slice none 0 0, .int .i64 0, .slice none 0 0, .slice none 0 0], some (.st (.pr (.sl (.int .u8)) (.st (.pr (.int .i64) (.pr (.sl (.int .i64)) (.sl (.int .i64))))))), none⟩),
  (89, ⟨.int .u32, 1, 4, [.int .u32 0], some (.int .u32), none⟩)
]
def tab : Tab := tabOf tabL
end Go.SX
