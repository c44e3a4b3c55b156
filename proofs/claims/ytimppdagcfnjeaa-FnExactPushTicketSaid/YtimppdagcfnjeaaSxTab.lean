/- The types of the seat, as the executor reads them. No condition. -/
import Derived.Test.YtimppdagcfnjeaaSxA
namespace Go.SX
def tabL : List (Nat × TI) := [
  (2, ⟨.int .i64, 1, 8, [.int .i64 0], some (.int .i64), none⟩),
  (3, ⟨.int .i64, 1, 8, [.int .i64 0], some (.int .i64), none⟩),
  (4, ⟨.bool, 1, 1, [.bool false], some (.bool), none⟩),
  (5, ⟨.int .u8, 1, 1, [.int .u8 0], some (.int .u8), none⟩),
  (9, ⟨.str, 1, 16, [.string ByteArray.empty], some (.str), none⟩),
  (12, ⟨.int .u64, 1, 8, [.int .u64 0], some (.int .u64), none⟩),
  (13, ⟨.st [(0, 1, false), (1, 1, false)], 2, 24, [.string ByteArray.empty, .int .u64 0], some (.st (.pr (.str) (.int .u64))), none⟩),
  (21, ⟨.int .i32, 1, 4, [.int .i32 0], some (.int .i32), none⟩),
  (22, ⟨.sl 104 4 48 (.st (.pr (.int .i64) (.pr (.int .i64) (.pr (.int .i64) (.st (.sl (.st (.pr (.int .i64) (.int .i64))))))))), 1, 24, [.slice none 0 0], some (.sl (.st (.pr (.int .i64) (.pr (.int .i64) (.pr (.int .i64) (.st (.sl (.st (.pr (.int .i64) (.int .i64)))))))))), none⟩),
  (23, ⟨.st [(0, 1, false), (1, 1, false), (2, 1, false)], 3, 40, [.slice none 0 0, .int .i64 0, .bool false], some (.st (.pr (.sl (.st (.pr (.int .i64) (.pr (.int .i64) (.pr (.int .i64) (.st (.sl (.st (.pr (.int .i64) (.int .i64)))))))))) (.pr (.int .i64) (.bool)))), none⟩),
  (24, ⟨.st [(0, 1, false), (1, 1, false), (2, 1, false)], 3, 40, [.slice none 0 0, .int .i64 0, .bool false], some (.st (.pr (.sl (.st (.pr (.int .i64) (.pr (.int .i64) (.pr (.int .i64) (.st (.sl (.st (.pr (.int .i64) (.int .i64)))))))))) (.pr (.int .i64) (.bool)))), none⟩),
  (25, ⟨.st [(0, 1, false), (1, 1, false)], 2, 16, [.int .i64 0, .int .i64 0], some (.st (.pr (.int .i64) (.int .i64))), some [false, false]⟩),
  (26, ⟨.st [(0, 1, false), (1, 1, false)], 2, 16, [.int .i64 0, .int .i64 0], some (.st (.pr (.int .i64) (.int .i64))), some [false, false]⟩),
  (28, ⟨.sl 67 4 48 (.st (.pr (.int .i64) (.pr (.int .i64) (.pr (.int .i64) (.st (.sl (.st (.pr (.int .i64) (.int .i64))))))))), 1, 24, [.slice none 0 0], some (.sl (.st (.pr (.int .i64) (.pr (.int .i64) (.pr (.int .i64) (.st (.sl (.st (.pr (.int .i64) (.int .i64)))))))))), none⟩),
  (29, ⟨.st [(0, 1, false), (1, 1, false), (2, 1, false)], 3, 40, [.slice none 0 0, .int .i64 0, .bool false], some (.st (.pr (.sl (.st (.pr (.int .i64) (.pr (.int .i64) (.pr (.int .i64) (.st (.sl (.st (.pr (.int .i64) (.int .i64)))))))))) (.pr (.int .i64) (.bool)))), none⟩),
  (30, ⟨.st [(0, 1, false), (1, 1, false), (2, 1, false)], 3, 40, [.slice none 0 0, .int .i64 0, .bool false], some (.st (.pr (.sl (.st (.pr (.int .i64) (.pr (.int .i64) (.pr (.int .i64) (.st (.sl (.st (.pr (.int .i64) (.int .i64)))))))))) (.pr (.int .i64) (.bool)))), none⟩),
  (34, ⟨.st [(0, 1, false), (1, 1, false)], 2, 16, [.int .i64 0, .int .i64 0], some (.st (.pr (.int .i64) (.int .i64))), some [false, false]⟩),
  (49, ⟨.sl 69 3 24 (.st (.pr (.int .i64) (.pr (.int .i64) (.int .i64)))), 1, 24, [.slice none 0 0], some (.sl (.st (.pr (.int .i64) (.pr (.int .i64) (.int .i64))))), none⟩),
  (54, ⟨.sl 5 1 1 (.int .u8), 1, 24, [.slice none 0 0], some (.sl (.int .u8)), none⟩),
  (63, ⟨.sl 34 2 16 (.st (.pr (.int .i64) (.int .i64))), 1, 24, [.slice none 0 0], some (.sl (.st (.pr (.int .i64) (.int .i64)))), none⟩),
  (64, ⟨.st [(0, 1, false)], 1, 24, [.slice none 0 0], some (.st (.sl (.st (.pr (.int .i64) (.int .i64))))), none⟩),
  (65, ⟨.st [(0, 1, false)], 1, 24, [.slice none 0 0], some (.st (.sl (.st (.pr (.int .i64) (.int .i64))))), none⟩),
  (66, ⟨.st [(0, 1, false), (1, 1, false), (2, 1, false), (3, 1, true)], 4, 48, [.int .i64 0, .int .i64 0, .int .i64 0, .slice none 0 0], some (.st (.pr (.int .i64) (.pr (.int .i64) (.pr (.int .i64) (.st (.sl (.st (.pr (.int .i64) (.int .i64))))))))), none⟩),
  (67, ⟨.st [(0, 1, false), (1, 1, false), (2, 1, false), (3, 1, true)], 4, 48, [.int .i64 0, .int .i64 0, .int .i64 0, .slice none 0 0], some (.st (.pr (.int .i64) (.pr (.int .i64) (.pr (.int .i64) (.st (.sl (.st (.pr (.int .i64) (.int .i64))))))))), none⟩),
  (68, ⟨.st [(0, 1, false), (1, 1, false), (2, 1, false)], 3, 24, [.int .i64 0, .int .i64 0, .int .i64 0], some (.st (.pr (.int .i64) (.pr (.int .i64) (.int .i64)))), some [false, false, false]⟩),
  (69, ⟨.st [(0, 1, false), (1, 1, false), (2, 1, false)], 3, 24, [.int .i64 0, .int .i64 0, .int .i64 0], some (.st (.pr (.int .i64) (.pr (.int .i64) (.int .i64)))), some [false, false, false]⟩),
  (95, ⟨.sl 3 1 8 (.int .i64), 1, 24, [.slice none 0 0], some (.sl (.int .i64)), none⟩),
  (100, ⟨.sl 26 2 16 (.st (.pr (.int .i64) (.int .i64))), 1, 24, [.slice none 0 0], some (.sl (.st (.pr (.int .i64) (.int .i64)))), none⟩),
  (101, ⟨.st [(0, 1, false)], 1, 24, [.slice none 0 0], some (.st (.sl (.st (.pr (.int .i64) (.int .i64))))), none⟩),
  (102, ⟨.st [(0, 1, false)], 1, 24, [.slice none 0 0], some (.st (.sl (.st (.pr (.int .i64) (.int .i64))))), none⟩),
  (103, ⟨.st [(0, 1, false), (1, 1, false), (2, 1, false), (3, 1, true)], 4, 48, [.int .i64 0, .int .i64 0, .int .i64 0, .slice none 0 0], some (.st (.pr (.int .i64) (.pr (.int .i64) (.pr (.int .i64) (.st (.sl (.st (.pr (.int .i64) (.int .i64))))))))), none⟩),
  (104, ⟨.st [(0, 1, false), (1, 1, false), (2, 1, false), (3, 1, true)], 4, 48, [.int .i64 0, .int .i64 0, .int .i64 0, .slice none 0 0], some (.st (.pr (.int .i64) (.pr (.int .i64) (.pr (.int .i64) (.st (.sl (.st (.pr (.int .i64) (.int .i64))))))))), none⟩),
  (122, ⟨.st [(0, 1, false), (1, 1, false), (2, 1, false)], 3, 40, [.slice none 0 0, .int .i64 0, .int .i64 0], some (.st (.pr (.sl (.int .u8)) (.pr (.int .i64) (.int .i64)))), none⟩),
  (123, ⟨.st [(0, 1, false), (1, 1, false), (2, 1, false)], 3, 40, [.slice none 0 0, .int .i64 0, .int .i64 0], some (.st (.pr (.sl (.int .u8)) (.pr (.int .i64) (.int .i64)))), none⟩),
  (126, ⟨.int .u64, 1, 8, [.int .u64 0], some (.int .u64), none⟩),
  (138, ⟨.int .u32, 1, 4, [.int .u32 0], some (.int .u32), none⟩)
]
def tab : Tab := tabOf tabL
end Go.SX
