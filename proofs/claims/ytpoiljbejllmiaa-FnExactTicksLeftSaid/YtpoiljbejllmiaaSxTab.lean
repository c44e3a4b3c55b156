/- The types of the seat, as the executor reads them. No condition. -/
import Derived.Test.YtpoiljbejllmiaaSx6
namespace Go.SX
def tabL : List (Nat × TI) := [
  (2, ⟨.int .i64, 1, 8, [.int .i64 0], some (.int .i64), none⟩),
  (3, ⟨.int .i64, 1, 8, [.int .i64 0], some (.int .i64), none⟩),
  (4, ⟨.bool, 1, 1, [.bool false], some (.bool), none⟩),
  (5, ⟨.int .u8, 1, 1, [.int .u8 0], some (.int .u8), none⟩),
  (9, ⟨.str, 1, 16, [.string ByteArray.empty], some (.str), none⟩),
  (12, ⟨.int .u64, 1, 8, [.int .u64 0], some (.int .u64), none⟩),
  (13, ⟨.st [(0, 1, false), (1, 1, false)], 2, 24, [.string ByteArray.empty, .int .u64 0], some (.st (.pr (.str) (.int .u64))), none⟩),
  (21, ⟨.int .i32, 1, 4, [.int .i32 0], some (.int .i32), none⟩),
  (22, ⟨.sl 5 1 1 (.int .u8), 1, 24, [.slice none 0 0], some (.sl (.int .u8)), none⟩),
  (25, ⟨.sl 59 3 24 (.st (.pr (.int .i64) (.pr (.int .i64) (.int .i64)))), 1, 24, [.slice none 0 0], some (.sl (.st (.pr (.int .i64) (.pr (.int .i64) (.int .i64))))), none⟩),
  (26, ⟨.st [(0, 1, false), (1, 1, false)], 2, 32, [.int .i64 0, .slice none 0 0], some (.st (.pr (.int .i64) (.sl (.st (.pr (.int .i64) (.pr (.int .i64) (.int .i64))))))), none⟩),
  (27, ⟨.st [(0, 1, false), (1, 1, false)], 2, 32, [.int .i64 0, .slice none 0 0], some (.st (.pr (.int .i64) (.sl (.st (.pr (.int .i64) (.pr (.int .i64) (.int .i64))))))), none⟩),
  (30, ⟨.sl 3 1 8 (.int .i64), 1, 24, [.slice none 0 0], some (.sl (.int .i64)), none⟩),
  (32, ⟨.st [(0, 1, false), (1, 1, false)], 2, 16, [.int .i64 0, .int .i64 0], some (.st (.pr (.int .i64) (.int .i64))), some [false, false]⟩),
  (33, ⟨.st [(0, 1, false), (1, 1, false)], 2, 16, [.int .i64 0, .int .i64 0], some (.st (.pr (.int .i64) (.int .i64))), some [false, false]⟩),
  (35, ⟨.sl 39 3 24 (.st (.pr (.int .i64) (.pr (.int .i64) (.int .i64)))), 1, 24, [.slice none 0 0], some (.sl (.st (.pr (.int .i64) (.pr (.int .i64) (.int .i64))))), none⟩),
  (38, ⟨.st [(0, 1, false), (1, 1, false), (2, 1, false)], 3, 24, [.int .i64 0, .int .i64 0, .int .i64 0], some (.st (.pr (.int .i64) (.pr (.int .i64) (.int .i64)))), some [false, false, false]⟩),
  (39, ⟨.st [(0, 1, false), (1, 1, false), (2, 1, false)], 3, 24, [.int .i64 0, .int .i64 0, .int .i64 0], some (.st (.pr (.int .i64) (.pr (.int .i64) (.int .i64)))), some [false, false, false]⟩),
  (40, ⟨.sl 71 3 24 (.st (.pr (.int .i64) (.pr (.int .i64) (.int .i64)))), 1, 24, [.slice none 0 0], some (.sl (.st (.pr (.int .i64) (.pr (.int .i64) (.int .i64))))), none⟩),
  (41, ⟨.st [(0, 1, false), (1, 1, false)], 2, 32, [.int .i64 0, .slice none 0 0], some (.st (.pr (.int .i64) (.sl (.st (.pr (.int .i64) (.pr (.int .i64) (.int .i64))))))), none⟩),
  (42, ⟨.st [(0, 1, false), (1, 1, false)], 2, 32, [.int .i64 0, .slice none 0 0], some (.st (.pr (.int .i64) (.sl (.st (.pr (.int .i64) (.pr (.int .i64) (.int .i64))))))), none⟩),
  (52, ⟨.st [(0, 1, false), (1, 1, false)], 2, 16, [.int .i64 0, .int .i64 0], some (.st (.pr (.int .i64) (.int .i64))), some [false, false]⟩),
  (58, ⟨.st [(0, 1, false), (1, 1, false), (2, 1, false)], 3, 24, [.int .i64 0, .int .i64 0, .int .i64 0], some (.st (.pr (.int .i64) (.pr (.int .i64) (.int .i64)))), some [false, false, false]⟩),
  (59, ⟨.st [(0, 1, false), (1, 1, false), (2, 1, false)], 3, 24, [.int .i64 0, .int .i64 0, .int .i64 0], some (.st (.pr (.int .i64) (.pr (.int .i64) (.int .i64)))), some [false, false, false]⟩),
  (71, ⟨.st [(0, 1, false), (1, 1, false), (2, 1, false)], 3, 24, [.int .i64 0, .int .i64 0, .int .i64 0], some (.st (.pr (.int .i64) (.pr (.int .i64) (.int .i64)))), some [false, false, false]⟩),
  (81, ⟨.int .u32, 1, 4, [.int .u32 0], some (.int .u32), none⟩)
]
def tab : Tab := tabOf tabL
end Go.SX
