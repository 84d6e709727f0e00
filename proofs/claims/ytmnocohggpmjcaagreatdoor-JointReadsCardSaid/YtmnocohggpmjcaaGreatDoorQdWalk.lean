/- The seat's types, as the layer asks of them; held against the program by the kernel. -/
import Derived.Test.YtmnocohggpmjcaaGreatDoorProg
import Derived.KernelRfl
import Derived.Test.YtmnocohggpmjcaaGreatDoorQcEval
import Derived.RecoverIn
import Derived.Maps.RangeRun
set_option linter.all false
namespace Go.Pv
open Go Go.RowKit Go.Proofs
def tbl2 (l : List (List TyI)) (t : TypeId) : TyI :=
  match l[t / 16]? with
  | some r => (r[t % 16]?).getD .none
  | none => .none
def tys : List (List TyI) :=
  [[.none,
    ⟨1, 8, [.nilf], .fn, none⟩,
    ⟨1, 8, [.int .i64 0], .int .i64, (some [.i .i64])⟩,
    ⟨1, 8, [.int .i64 0], .int .i64, (some [.i .i64])⟩,
    ⟨1, 1, [.bool false], .bool, (some [.b])⟩,
    ⟨1, 1, [.int .u8 0], .int .u8, (some [.i .u8])⟩,
    ⟨1, 1, [.int .u8 0], .int .u8, (some [.i .u8])⟩,
    ⟨4, 24, [.int .i64 0, .int .i64 0, .bool false, .int .u8 0], .struct [(0, 2), (1, 3), (2, 4), (3, 6)], (some [.i .i64, .i .i64, .b, .i .u8])⟩,
    ⟨4, 24, [.int .i64 0, .int .i64 0, .bool false, .int .u8 0], .struct [(0, 2), (1, 3), (2, 4), (3, 6)], none⟩,
    ⟨1, 16, [.str []], .str, (some [.s])⟩,
    ⟨1, 16, [.str []], .str, (some [.s])⟩,
    ⟨1, 16, [.str []], .str, (some [.s])⟩,
    ⟨1, 8, [.int .u64 0], .int .u64, (some [.i .u64])⟩,
    ⟨2, 24, [.str [], .int .u64 0], .struct [(0, 9), (1, 12)], none⟩,
    ⟨2, 24, [.str [], .int .u64 0], .struct [(0, 9), (1, 12)], none⟩,
    ⟨1, 8, [.nilp], .ptr 286, none⟩],
   [⟨1, 8, [.nilp], .ptr 289, none⟩,
    ⟨1, 8, [.nilp], .ptr 296, none⟩,
    ⟨1, 8, [.nilp], .struct [(0, 17)], none⟩,
    ⟨1, 8, [.nilp], .struct [(0, 17)], none⟩,
    ⟨1, 16, [.nili], .iface, none⟩,
    ⟨1, 4, [.int .i32 0], .int .i32, (some [.i .i32])⟩,
    ⟨1, 24, [.sl .n []], .slice 44, none⟩,
    ⟨2, 32, [.int .i64 0, .sl .n []], .struct [(0, 3), (1, 22)], none⟩,
    ⟨2, 32, [.int .i64 0, .sl .n []], .struct [(0, 3), (1, 22)], none⟩,
    ⟨1, 24, [.sl .n []], .slice 3, none⟩,
    ⟨1, 8, [.nilf], .fn, none⟩,
    ⟨1, 8, [.nilf], .fn, none⟩,
    ⟨1, 8, [.nilf], .fn, none⟩,
    ⟨1, 8, [.nilf], .fn, none⟩,
    ⟨1, 24, [.sl .n []], .slice 36, none⟩,
    ⟨1, 8, [.int .i64 0], .int .i64, (some [.i .i64])⟩],
   [.none,
    ⟨1, 8, [.nilf], .fn, none⟩,
    ⟨1, 8, [.nilf], .fn, none⟩,
    ⟨2, 16, [.int .i64 0, .int .i64 0], .struct [(0, 3), (1, 3)], (some [.i .i64, .i .i64])⟩,
    ⟨2, 16, [.int .i64 0, .int .i64 0], .struct [(0, 3), (1, 3)], (some [.i .i64, .i .i64])⟩,
    ⟨1, 8, [.nilf], .fn, none⟩,
    ⟨2, 16, [.int .i64 0, .int .i64 0], .struct [(0, 3), (1, 3)], (some [.i .i64, .i .i64])⟩,
    ⟨2, 16, [.int .i64 0, .int .i64 0], .struct [(0, 3), (1, 3)], (some [.i .i64, .i .i64])⟩,
    ⟨4, 32, [.int .i64 0, .int .i64 0, .int .i64 0, .int .i64 0], .struct [(0, 39), (2, 39)], (some [.i .i64, .i .i64, .i .i64, .i .i64])⟩,
    ⟨4, 32, [.int .i64 0, .int .i64 0, .int .i64 0, .int .i64 0], .struct [(0, 39), (2, 39)], (some [.i .i64, .i .i64, .i .i64, .i .i64])⟩,
    ⟨1, 8, [.nilf], .fn, none⟩,
    ⟨5, 40, [.int .i64 0, .int .i64 0, .int .i64 0, .int .i64 0, .int .i64 0], .struct [(0, 3), (1, 3), (2, 3), (3, 3), (4, 3)], (some [.i .i64, .i .i64, .i .i64, .i .i64, .i .i64])⟩,
    ⟨5, 40, [.int .i64 0, .int .i64 0, .int .i64 0, .int .i64 0, .int .i64 0], .struct [(0, 3), (1, 3), (2, 3), (3, 3), (4, 3)], (some [.i .i64, .i .i64, .i .i64, .i .i64, .i .i64])⟩,
    ⟨1, 8, [.nilf], .fn, none⟩,
    ⟨1, 8, [.nilf], .fn, none⟩,
    ⟨1, 8, [.nilf], .fn, none⟩],
   [⟨1, 8, [.nilf], .fn, none⟩,
    ⟨1, 24, [.sl .n []], .slice 39, none⟩,
    .none,
    ⟨1, 8, [.nilf], .fn, none⟩,
    .none,
    ⟨1, 8, [.nilf], .fn, none⟩,
    ⟨1, 8, [.nilf], .fn, none⟩,
    ⟨1, 8, [.nilf], .fn, none⟩,
    ⟨1, 8, [.nilf], .fn, none⟩,
    ⟨1, 8, [.nilf], .fn, none⟩,
    ⟨1, 24, [.sl .n []], .slice 41, none⟩,
    ⟨6, 80, [.int .i64 0, .int .i64 0, .int .i64 0, .int .i64 0, .sl .n [], .sl .n []], .struct [(0, 41), (4, 58), (5, 25)], none⟩,
    ⟨6, 80, [.int .i64 0, .int .i64 0, .int .i64 0, .int .i64 0, .sl .n [], .sl .n []], .struct [(0, 41), (4, 58), (5, 25)], none⟩,
    ⟨1, 8, [.nilf], .fn, none⟩,
    ⟨1, 24, [.sl .n []], .slice 130, none⟩,
    .none],
   [⟨1, 8, [.nilf], .fn, none⟩,
    ⟨1, 8, [.nilf], .fn, none⟩,
    .none,
    ⟨1, 8, [.nilf], .fn, none⟩,
    ⟨1, 8, [.nilf], .fn, none⟩,
    ⟨1, 8, [.nilf], .fn, none⟩,
    .none,
    ⟨1, 8, [.nilf], .fn, none⟩,
    .none,
    ⟨1, 8, [.nilf], .fn, none⟩,
    ⟨1, 8, [.nilf], .fn, none⟩,
    ⟨1, 8, [.nilf], .fn, none⟩,
    .none,
    ⟨1, 8, [.nilf], .fn, none⟩,
    ⟨1, 8, [.nilf], .fn, none⟩,
    ⟨1, 8, [.nilf], .fn, none⟩],
   [⟨1, 8, [.nilf], .fn, none⟩,
    ⟨1, 8, [.nilf], .fn, none⟩,
    ⟨1, 8, [.nilf], .fn, none⟩,
    ⟨1, 8, [.nilf], .fn, none⟩,
    ⟨1, 8, [.int .i64 0], .int .i64, (some [.i .i64])⟩,
    .none,
    ⟨1, 8, [.nilf], .fn, none⟩,
    .none,
    ⟨1, 8, [.nilf], .fn, none⟩,
    ⟨1, 8, [.nilf], .fn, none⟩,
    .none,
    ⟨1, 8, [.nilf], .fn, none⟩,
    ⟨1, 24, [.sl .n []], .slice 25, none⟩,
    ⟨1, 8, [.nilf], .fn, none⟩,
    ⟨1, 8, [.nilf], .fn, none⟩,
    ⟨1, 8, [.nilf], .fn, none⟩],
   [⟨1, 8, [.nilf], .fn, none⟩,
    ⟨1, 8, [.nilf], .fn, none⟩,
    .none,
    ⟨1, 8, [.nilf], .fn, none⟩,
    ⟨1, 8, [.nilf], .fn, none⟩,
    ⟨1, 8, [.nilf], .fn, none⟩,
    ⟨1, 8, [.nilf], .fn, none⟩,
    ⟨1, 8, [.nilf], .fn, none⟩,
    ⟨1, 8, [.nilf], .fn, none⟩,
    ⟨1, 8, [.nilf], .fn, none⟩,
    .none,
    ⟨1, 8, [.nilf], .fn, none⟩,
    ⟨1, 8, [.nilf], .fn, none⟩,
    ⟨1, 8, [.nilf], .fn, none⟩,
    ⟨1, 8, [.nilf], .fn, none⟩,
    ⟨1, 8, [.nilf], .fn, none⟩],
   [⟨1, 8, [.nilf], .fn, none⟩,
    ⟨1, 8, [.nilf], .fn, none⟩,
    .none,
    ⟨1, 8, [.nilf], .fn, none⟩,
    .none,
    ⟨1, 8, [.nilf], .fn, none⟩,
    ⟨1, 8, [.nilf], .fn, none⟩,
    ⟨1, 8, [.nilf], .fn, none⟩,
    .none,
    ⟨1, 8, [.nilf], .fn, none⟩,
    ⟨1, 8, [.nilf], .fn, none⟩,
    ⟨1, 24, [.sl .n []], .slice 5, none⟩,
    ⟨1, 8, [.nilf], .fn, none⟩,
    ⟨1, 8, [.nilf], .fn, none⟩,
    ⟨1, 8, [.nilf], .fn, none⟩,
    ⟨1, 8, [.nilf], .fn, none⟩],
   [⟨1, 8, [.nilf], .fn, none⟩,
    ⟨2, 16, [.int .i64 0, .int .i64 0], .struct [(0, 3), (1, 3)], (some [.i .i64, .i .i64])⟩,
    ⟨2, 16, [.int .i64 0, .int .i64 0], .struct [(0, 3), (1, 3)], (some [.i .i64, .i .i64])⟩,
    ⟨1, 24, [.sl .n []], .slice 133, none⟩,
    ⟨1, 8, [.nilf], .fn, none⟩,
    ⟨2, 16, [.int .i64 0, .int .i64 0], .struct [(0, 3), (1, 3)], (some [.i .i64, .i .i64])⟩,
    ⟨1, 8, [.nilf], .fn, none⟩,
    ⟨1, 8, [.nilf], .fn, none⟩,
    ⟨1, 8, [.nilf], .fn, none⟩,
    ⟨1, 8, [.nilf], .fn, none⟩,
    ⟨1, 8, [.nilf], .fn, none⟩,
    ⟨1, 8, [.nilf], .fn, none⟩,
    ⟨1, 8, [.nilf], .fn, none⟩,
    ⟨8, 112, [.int .i64 0, .sl .n [], .int .i64 0, .int .i64 0, .int .i64 0, .int .i64 0, .sl .n [], .sl .n []], .struct [(0, 24), (2, 60)], none⟩,
    ⟨8, 112, [.int .i64 0, .sl .n [], .int .i64 0, .int .i64 0, .int .i64 0, .int .i64 0, .sl .n [], .sl .n []], .struct [(0, 24), (2, 60)], none⟩,
    ⟨1, 8, [.nilf], .fn, none⟩],
   [⟨1, 8, [.nilm], .map 148 3, none⟩,
    ⟨1, 8, [.nilf], .fn, none⟩,
    .none,
    ⟨5, 40, [.int .i64 0, .int .i64 0, .int .i64 0, .int .i64 0, .int .i64 0], .array 5 3, (some [.i .i64, .i .i64, .i .i64, .i .i64, .i .i64])⟩,
    ⟨5, 40, [.int .i64 0, .int .i64 0, .int .i64 0, .int .i64 0, .int .i64 0], .array 5 3, (some [.i .i64, .i .i64, .i .i64, .i .i64, .i .i64])⟩,
    ⟨1, 8, [.nilf], .fn, none⟩,
    ⟨1, 8, [.nilf], .fn, none⟩,
    ⟨1, 8, [.nilf], .fn, none⟩,
    ⟨1, 8, [.nilf], .fn, none⟩,
    ⟨1, 8, [.nilf], .fn, none⟩,
    ⟨1, 8, [.nilf], .fn, none⟩,
    ⟨1, 8, [.nilf], .fn, none⟩,
    ⟨1, 24, [.sl .n []], .slice 158, none⟩,
    ⟨2, 32, [.sl .n [], .int .i64 0], .struct [(0, 25), (1, 3)], none⟩,
    ⟨2, 32, [.sl .n [], .int .i64 0], .struct [(0, 25), (1, 3)], none⟩,
    .none],
   [⟨1, 8, [.nilf], .fn, none⟩,
    ⟨1, 8, [.nilf], .fn, none⟩,
    ⟨1, 8, [.nilm], .map 148 4, none⟩,
    ⟨1, 8, [.nilf], .fn, none⟩,
    ⟨1, 24, [.sl .n []], .slice 4, none⟩,
    ⟨1, 8, [.nilf], .fn, none⟩,
    ⟨1, 8, [.nilf], .fn, none⟩,
    ⟨1, 8, [.nilf], .fn, none⟩,
    ⟨1, 8, [.nilf], .fn, none⟩,
    ⟨1, 8, [.nilf], .fn, none⟩,
    ⟨1, 8, [.nilf], .fn, none⟩,
    ⟨1, 8, [.nilf], .fn, none⟩,
    ⟨1, 8, [.nilf], .fn, none⟩,
    ⟨1, 8, [.nilf], .fn, none⟩,
    ⟨1, 8, [.nilf], .fn, none⟩,
    ⟨1, 24, [.sl .n []], .slice 9, none⟩],
   [⟨1, 8, [.nilf], .fn, none⟩,
    ⟨1, 8, [.nilf], .fn, none⟩,
    ⟨1, 8, [.nilf], .fn, none⟩,
    ⟨1, 8, [.nilf], .fn, none⟩,
    ⟨1, 8, [.nilf], .fn, none⟩,
    ⟨1, 8, [.nilf], .fn, none⟩,
    ⟨1, 8, [.nilm], .map 133 4, none⟩,
    ⟨1, 8, [.nilf], .fn, none⟩,
    ⟨2, 16, [.int .i64 0, .int .i64 0], .array 2 3, (some [.i .i64, .i .i64])⟩,
    ⟨1, 8, [.nilf], .fn, none⟩,
    ⟨1, 8, [.nilf], .fn, none⟩,
    ⟨1, 8, [.nilf], .fn, none⟩,
    ⟨1, 8, [.nilf], .fn, none⟩,
    ⟨1, 8, [.nilf], .fn, none⟩,
    ⟨1, 8, [.nilf], .fn, none⟩,
    ⟨1, 8, [.int .i64 0], .struct [(0, 3)], (some [.i .i64])⟩],
   [⟨1, 8, [.int .i64 0], .struct [(0, 3)], (some [.i .i64])⟩,
    ⟨1, 16, [.str []], .struct [(0, 9)], (some [.s])⟩,
    ⟨1, 16, [.str []], .struct [(0, 9)], (some [.s])⟩,
    ⟨1, 8, [.nilf], .fn, none⟩,
    ⟨1, 8, [.nilf], .fn, none⟩,
    ⟨1, 8, [.nilf], .fn, none⟩,
    ⟨1, 8, [.nilf], .fn, none⟩,
    ⟨1, 8, [.nilf], .fn, none⟩,
    ⟨1, 8, [.nilf], .fn, none⟩,
    ⟨1, 8, [.nilf], .fn, none⟩,
    ⟨1, 8, [.int .i64 0], .int .i64, (some [.i .i64])⟩,
    ⟨5, 40, [.int .i64 0, .int .i64 0, .int .i64 0, .int .i64 0, .int .i64 0], .struct [(0, 44)], (some [.i .i64, .i .i64, .i .i64, .i .i64, .i .i64])⟩,
    ⟨5, 40, [.int .i64 0, .int .i64 0, .int .i64 0, .int .i64 0, .int .i64 0], .struct [(0, 44)], (some [.i .i64, .i .i64, .i .i64, .i .i64, .i .i64])⟩,
    ⟨1, 8, [.nilf], .fn, none⟩,
    ⟨1, 8, [.nilf], .fn, none⟩,
    ⟨1, 8, [.nilf], .fn, none⟩],
   [⟨1, 8, [.nilf], .fn, none⟩,
    ⟨1, 8, [.nilf], .fn, none⟩,
    ⟨1, 8, [.nilf], .fn, none⟩,
    ⟨1, 8, [.nilf], .fn, none⟩,
    ⟨16, 128, [.int .i64 0, .int .i64 0, .int .i64 0, .int .i64 0, .int .i64 0, .int .i64 0, .int .i64 0, .int .i64 0, .int .i64 0, .int .i64 0, .int .i64 0, .int .i64 0, .int .i64 0, .int .i64 0, .int .i64 0, .int .i64 0], .array 8 133, (some [.i .i64, .i .i64, .i .i64, .i .i64, .i .i64, .i .i64, .i .i64, .i .i64, .i .i64, .i .i64, .i .i64, .i .i64, .i .i64, .i .i64, .i .i64, .i .i64])⟩,
    ⟨1, 8, [.nilf], .fn, none⟩,
    ⟨1, 8, [.nilf], .fn, none⟩,
    ⟨1, 8, [.int .u64 0], .int .u64, (some [.i .u64])⟩,
    ⟨1, 8, [.nilf], .fn, none⟩,
    ⟨2, 16, [.nilf, .nilf], .array 2 216, none⟩,
    ⟨1, 8, [.nilf], .fn, none⟩,
    ⟨1, 8, [.nilf], .fn, none⟩,
    ⟨1, 8, [.nilf], .fn, none⟩,
    ⟨4, 32, [.int .i64 0, .int .i64 0, .int .i64 0, .int .i64 0], .array 2 39, (some [.i .i64, .i .i64, .i .i64, .i .i64])⟩,
    ⟨1, 8, [.nilf], .fn, none⟩,
    ⟨1, 16, [.nili], .iface, none⟩],
   [⟨1, 16, [.nili], .iface, none⟩,
    ⟨1, 8, [.nilf], .fn, none⟩,
    ⟨1, 8, [.nilp], .ptr 228, none⟩,
    ⟨2, 32, [.nilp, .sl .n []], .struct [(0, 226), (1, 123)], none⟩,
    ⟨2, 32, [.nilp, .sl .n []], .struct [(0, 226), (1, 123)], none⟩,
    ⟨1, 8, [.nilf], .fn, none⟩,
    ⟨1, 16, [.nili], .iface, none⟩,
    ⟨1, 16, [.nili], .iface, none⟩,
    .none,
    ⟨1, 8, [.nilf], .fn, none⟩,
    ⟨1, 8, [.nilf], .fn, none⟩,
    ⟨1, 8, [.nilf], .fn, none⟩,
    ⟨1, 8, [.nilf], .fn, none⟩,
    ⟨1, 8, [.int .i64 0], .int .i64, (some [.i .i64])⟩,
    .none,
    ⟨1, 8, [.nilf], .fn, none⟩],
   [⟨1, 8, [.nilf], .fn, none⟩,
    ⟨1, 8, [.nilf], .fn, none⟩,
    ⟨1, 8, [.nilf], .fn, none⟩,
    ⟨1, 8, [.nilf], .fn, none⟩,
    ⟨1, 4, [.int .u32 0], .int .u32, (some [.i .u32])⟩,
    ⟨1, 8, [.nilf], .fn, none⟩,
    ⟨1, 8, [.int .u64 0], .int .u64, (some [.i .u64])⟩,
    ⟨1, 8, [.nilf], .fn, none⟩,
    ⟨1, 8, [.nilf], .fn, none⟩,
    ⟨1, 8, [.nilp], .ptr 5, none⟩,
    ⟨1, 8, [.nilf], .fn, none⟩,
    ⟨1, 8, [.nilf], .fn, none⟩,
    ⟨1, 8, [.nilf], .fn, none⟩,
    ⟨1, 8, [.int .u64 0], .int .u64, (some [.i .u64])⟩,
    ⟨1, 8, [.nilf], .fn, none⟩,
    ⟨1, 8, [.nilf], .fn, none⟩],
   [⟨1, 8, [.nilf], .fn, none⟩,
    ⟨1, 8, [.nilp], .ptr 3, none⟩,
    ⟨1, 8, [.nilf], .fn, none⟩,
    ⟨24, 24, [.int .u8 0, .int .u8 0, .int .u8 0, .int .u8 0, .int .u8 0, .int .u8 0, .int .u8 0, .int .u8 0, .int .u8 0, .int .u8 0, .int .u8 0, .int .u8 0, .int .u8 0, .int .u8 0, .int .u8 0, .int .u8 0, .int .u8 0, .int .u8 0, .int .u8 0, .int .u8 0, .int .u8 0, .int .u8 0, .int .u8 0, .int .u8 0], .array 24 5, (some [.i .u8, .i .u8, .i .u8, .i .u8, .i .u8, .i .u8, .i .u8, .i .u8, .i .u8, .i .u8, .i .u8, .i .u8, .i .u8, .i .u8, .i .u8, .i .u8, .i .u8, .i .u8, .i .u8, .i .u8, .i .u8, .i .u8, .i .u8, .i .u8])⟩,
    ⟨1, 8, [.nilf], .fn, none⟩,
    .none,
    ⟨1, 8, [.nilf], .fn, none⟩,
    .none,
    ⟨1, 8, [.nilf], .fn, none⟩,
    ⟨1, 8, [.nilf], .fn, none⟩,
    .none,
    ⟨1, 8, [.nilf], .fn, none⟩,
    ⟨1, 8, [.nilf], .fn, none⟩,
    ⟨1, 8, [.nilp], .ptr 253, none⟩,
    .none,
    ⟨1, 8, [.nilf], .fn, none⟩],
   [⟨1, 8, [.nilf], .fn, none⟩,
    ⟨1, 8, [.nilf], .fn, none⟩,
    ⟨20, 160, [.int .u64 0, .int .u64 0, .int .u64 0, .int .u64 0, .int .u64 0, .int .u64 0, .int .u64 0, .int .u64 0, .int .u64 0, .int .u64 0, .int .u64 0, .int .u64 0, .int .u64 0, .int .u64 0, .int .u64 0, .int .u64 0, .int .u64 0, .int .u64 0, .int .u64 0, .int .u64 0], .array 20 246, (some [.i .u64, .i .u64, .i .u64, .i .u64, .i .u64, .i .u64, .i .u64, .i .u64, .i .u64, .i .u64, .i .u64, .i .u64, .i .u64, .i .u64, .i .u64, .i .u64, .i .u64, .i .u64, .i .u64, .i .u64])⟩,
    ⟨65, 65, List.replicate 65 (.int .u8 0), .array 65 5, (some (List.replicate 65 (.i .u8)))⟩,
    ⟨1, 8, [.nilf], .fn, none⟩,
    ⟨256, 256, List.replicate 256 (.int .u8 0), .array 256 5, (some (List.replicate 256 (.i .u8)))⟩,
    ⟨2, 2, [.int .u8 0, .int .u8 0], .struct [(0, 5), (1, 5)], (some [.i .u8, .i .u8])⟩,
    ⟨2, 2, [.int .u8 0, .int .u8 0], .struct [(0, 5), (1, 5)], (some [.i .u8, .i .u8])⟩,
    ⟨32, 32, [.int .u8 0, .int .u8 0, .int .u8 0, .int .u8 0, .int .u8 0, .int .u8 0, .int .u8 0, .int .u8 0, .int .u8 0, .int .u8 0, .int .u8 0, .int .u8 0, .int .u8 0, .int .u8 0, .int .u8 0, .int .u8 0, .int .u8 0, .int .u8 0, .int .u8 0, .int .u8 0, .int .u8 0, .int .u8 0, .int .u8 0, .int .u8 0, .int .u8 0, .int .u8 0, .int .u8 0, .int .u8 0, .int .u8 0, .int .u8 0, .int .u8 0, .int .u8 0], .array 16 279, (some [.i .u8, .i .u8, .i .u8, .i .u8, .i .u8, .i .u8, .i .u8, .i .u8, .i .u8, .i .u8, .i .u8, .i .u8, .i .u8, .i .u8, .i .u8, .i .u8, .i .u8, .i .u8, .i .u8, .i .u8, .i .u8, .i .u8, .i .u8, .i .u8, .i .u8, .i .u8, .i .u8, .i .u8, .i .u8, .i .u8, .i .u8, .i .u8])⟩,
    .none,
    ⟨1, 8, [.nilf], .fn, none⟩,
    ⟨32, 32, [.int .u8 0, .int .u8 0, .int .u8 0, .int .u8 0, .int .u8 0, .int .u8 0, .int .u8 0, .int .u8 0, .int .u8 0, .int .u8 0, .int .u8 0, .int .u8 0, .int .u8 0, .int .u8 0, .int .u8 0, .int .u8 0, .int .u8 0, .int .u8 0, .int .u8 0, .int .u8 0, .int .u8 0, .int .u8 0, .int .u8 0, .int .u8 0, .int .u8 0, .int .u8 0, .int .u8 0, .int .u8 0, .int .u8 0, .int .u8 0, .int .u8 0, .int .u8 0], .array 32 5, (some [.i .u8, .i .u8, .i .u8, .i .u8, .i .u8, .i .u8, .i .u8, .i .u8, .i .u8, .i .u8, .i .u8, .i .u8, .i .u8, .i .u8, .i .u8, .i .u8, .i .u8, .i .u8, .i .u8, .i .u8, .i .u8, .i .u8, .i .u8, .i .u8, .i .u8, .i .u8, .i .u8, .i .u8, .i .u8, .i .u8, .i .u8, .i .u8])⟩,
    ⟨64, 64, List.replicate 64 (.int .u8 0), .array 64 5, (some (List.replicate 64 (.i .u8)))⟩,
    ⟨4, 40, [.nilp, .nilp, .nilp, .str []], .struct [(0, 17), (1, 17), (2, 17), (3, 9)], none⟩,
    ⟨4, 40, [.nilp, .nilp, .nilp, .str []], .struct [(0, 17), (1, 17), (2, 17), (3, 9)], none⟩,
    ⟨0, 0, [], .array 0 16, none⟩],
   [⟨0, 0, [], .struct [(0, 287)], none⟩,
    ⟨0, 0, [], .struct [(0, 287)], none⟩,
    ⟨1, 1, [.int .u8 0], .int .u8, (some [.i .u8])⟩,
    ⟨1, 1, [.int .u8 0], .int .u8, (some [.i .u8])⟩,
    ⟨1, 8, [.nilf], .fn, none⟩,
    ⟨1, 4, [.int .i32 0], .int .i32, (some [.i .i32])⟩,
    ⟨1, 4, [.int .i32 0], .int .i32, (some [.i .i32])⟩,
    ⟨11, 48, [.int .u64 0, .int .u64 0, .int .u32 0, .int .u8 0, .int .u8 0, .int .u8 0, .int .u8 0, .nilf, .nilp, .int .i32 0, .int .i32 0], .struct [(0, 12), (1, 12), (2, 244), (3, 290), (4, 5), (5, 5), (6, 291), (7, 292), (8, 249), (9, 293), (10, 294)], none⟩,
    ⟨11, 48, [.int .u64 0, .int .u64 0, .int .u32 0, .int .u8 0, .int .u8 0, .int .u8 0, .int .u8 0, .nilf, .nilp, .int .i32 0, .int .i32 0], .struct [(0, 12), (1, 12), (2, 244), (3, 290), (4, 5), (5, 5), (6, 291), (7, 292), (8, 249), (9, 293), (10, 294)], none⟩]]
def TT : TypeId → TyI := tbl2 tys
theorem tys_all : (List.range 297).map (fun t => if t = 263 then .none else tyOf Tryz.prog t) = (List.range 297).map TT := by kernel_rfl
theorem tys_beyond (t : Nat) (h : 297 ≤ t) : TT t = .none := by
  unfold TT tbl2
  split
  · rename_i r hr
    have h1 := (List.getElem?_eq_some_iff.1 hr).1
    have h2 : tys.length = 19 := rfl
    have h3 : t / 16 = 18 := by omega
    rw [h3] at hr
    have h4 : tys[18]? = some (tys[18]'(by decide)) := rfl
    rw [h4] at hr
    cases hr
    have h5 : (tys[18]'(by decide)).length = 9 := rfl
    rw [List.getElem?_eq_none (by rw [h5]; omega)]
    rfl
  · rfl
theorem hTT : TyT Tryz.prog TT := fun (t : Nat) ht => by
  by_cases h : t < 297
  · by_cases h3 : t = 263
    · subst h3
      cases ht
    have e : tyOf Tryz.prog t = TT t := by
      have := congrArg (fun l => l[t]?) tys_all
      simpa [h, h3] using this
    rw [← e] at ht ⊢
    exact tyOf_ok _ t ht
  · rw [tys_beyond t (by omega)] at ht
    cases ht
theorem T_1 : TT 1 = ⟨1, 8, [.nilf], .fn, none⟩ := rfl
theorem T_2 : TT 2 = ⟨1, 8, [.int .i64 0], .int .i64, (some [.i .i64])⟩ := rfl
theorem T_3 : TT 3 = ⟨1, 8, [.int .i64 0], .int .i64, (some [.i .i64])⟩ := rfl
theorem T_4 : TT 4 = ⟨1, 1, [.bool false], .bool, (some [.b])⟩ := rfl
theorem T_5 : TT 5 = ⟨1, 1, [.int .u8 0], .int .u8, (some [.i .u8])⟩ := rfl
theorem T_6 : TT 6 = ⟨1, 1, [.int .u8 0], .int .u8, (some [.i .u8])⟩ := rfl
theorem T_7 : TT 7 = ⟨4, 24, [.int .i64 0, .int .i64 0, .bool false, .int .u8 0], .struct [(0, 2), (1, 3), (2, 4), (3, 6)], (some [.i .i64, .i .i64, .b, .i .u8])⟩ := rfl
theorem T_8 : TT 8 = ⟨4, 24, [.int .i64 0, .int .i64 0, .bool false, .int .u8 0], .struct [(0, 2), (1, 3), (2, 4), (3, 6)], none⟩ := rfl
theorem T_9 : TT 9 = ⟨1, 16, [.str []], .str, (some [.s])⟩ := rfl
theorem T_10 : TT 10 = ⟨1, 16, [.str []], .str, (some [.s])⟩ := rfl
theorem T_11 : TT 11 = ⟨1, 16, [.str []], .str, (some [.s])⟩ := rfl
theorem T_12 : TT 12 = ⟨1, 8, [.int .u64 0], .int .u64, (some [.i .u64])⟩ := rfl
theorem T_13 : TT 13 = ⟨2, 24, [.str [], .int .u64 0], .struct [(0, 9), (1, 12)], none⟩ := rfl
theorem T_14 : TT 14 = ⟨2, 24, [.str [], .int .u64 0], .struct [(0, 9), (1, 12)], none⟩ := rfl
theorem T_15 : TT 15 = ⟨1, 8, [.nilp], .ptr 286, none⟩ := rfl
theorem T_16 : TT 16 = ⟨1, 8, [.nilp], .ptr 289, none⟩ := rfl
theorem T_17 : TT 17 = ⟨1, 8, [.nilp], .ptr 296, none⟩ := rfl
theorem T_18 : TT 18 = ⟨1, 8, [.nilp], .struct [(0, 17)], none⟩ := rfl
theorem T_19 : TT 19 = ⟨1, 8, [.nilp], .struct [(0, 17)], none⟩ := rfl
theorem T_20 : TT 20 = ⟨1, 16, [.nili], .iface, none⟩ := rfl
theorem T_21 : TT 21 = ⟨1, 4, [.int .i32 0], .int .i32, (some [.i .i32])⟩ := rfl
theorem T_22 : TT 22 = ⟨1, 24, [.sl .n []], .slice 44, none⟩ := rfl
theorem T_23 : TT 23 = ⟨2, 32, [.int .i64 0, .sl .n []], .struct [(0, 3), (1, 22)], none⟩ := rfl
theorem T_24 : TT 24 = ⟨2, 32, [.int .i64 0, .sl .n []], .struct [(0, 3), (1, 22)], none⟩ := rfl
theorem T_25 : TT 25 = ⟨1, 24, [.sl .n []], .slice 3, none⟩ := rfl
theorem T_26 : TT 26 = ⟨1, 8, [.nilf], .fn, none⟩ := rfl
theorem T_27 : TT 27 = ⟨1, 8, [.nilf], .fn, none⟩ := rfl
theorem T_28 : TT 28 = ⟨1, 8, [.nilf], .fn, none⟩ := rfl
theorem T_29 : TT 29 = ⟨1, 8, [.nilf], .fn, none⟩ := rfl
theorem T_30 : TT 30 = ⟨1, 24, [.sl .n []], .slice 36, none⟩ := rfl
theorem T_31 : TT 31 = ⟨1, 8, [.int .i64 0], .int .i64, (some [.i .i64])⟩ := rfl
theorem T_33 : TT 33 = ⟨1, 8, [.nilf], .fn, none⟩ := rfl
theorem T_34 : TT 34 = ⟨1, 8, [.nilf], .fn, none⟩ := rfl
theorem T_35 : TT 35 = ⟨2, 16, [.int .i64 0, .int .i64 0], .struct [(0, 3), (1, 3)], (some [.i .i64, .i .i64])⟩ := rfl
theorem T_36 : TT 36 = ⟨2, 16, [.int .i64 0, .int .i64 0], .struct [(0, 3), (1, 3)], (some [.i .i64, .i .i64])⟩ := rfl
theorem T_37 : TT 37 = ⟨1, 8, [.nilf], .fn, none⟩ := rfl
theorem T_38 : TT 38 = ⟨2, 16, [.int .i64 0, .int .i64 0], .struct [(0, 3), (1, 3)], (some [.i .i64, .i .i64])⟩ := rfl
theorem T_39 : TT 39 = ⟨2, 16, [.int .i64 0, .int .i64 0], .struct [(0, 3), (1, 3)], (some [.i .i64, .i .i64])⟩ := rfl
theorem T_40 : TT 40 = ⟨4, 32, [.int .i64 0, .int .i64 0, .int .i64 0, .int .i64 0], .struct [(0, 39), (2, 39)], (some [.i .i64, .i .i64, .i .i64, .i .i64])⟩ := rfl
theorem T_41 : TT 41 = ⟨4, 32, [.int .i64 0, .int .i64 0, .int .i64 0, .int .i64 0], .struct [(0, 39), (2, 39)], (some [.i .i64, .i .i64, .i .i64, .i .i64])⟩ := rfl
theorem T_42 : TT 42 = ⟨1, 8, [.nilf], .fn, none⟩ := rfl
theorem T_43 : TT 43 = ⟨5, 40, [.int .i64 0, .int .i64 0, .int .i64 0, .int .i64 0, .int .i64 0], .struct [(0, 3), (1, 3), (2, 3), (3, 3), (4, 3)], (some [.i .i64, .i .i64, .i .i64, .i .i64, .i .i64])⟩ := rfl
theorem T_44 : TT 44 = ⟨5, 40, [.int .i64 0, .int .i64 0, .int .i64 0, .int .i64 0, .int .i64 0], .struct [(0, 3), (1, 3), (2, 3), (3, 3), (4, 3)], (some [.i .i64, .i .i64, .i .i64, .i .i64, .i .i64])⟩ := rfl
theorem T_45 : TT 45 = ⟨1, 8, [.nilf], .fn, none⟩ := rfl
theorem T_46 : TT 46 = ⟨1, 8, [.nilf], .fn, none⟩ := rfl
theorem T_47 : TT 47 = ⟨1, 8, [.nilf], .fn, none⟩ := rfl
theorem T_48 : TT 48 = ⟨1, 8, [.nilf], .fn, none⟩ := rfl
theorem T_49 : TT 49 = ⟨1, 24, [.sl .n []], .slice 39, none⟩ := rfl
theorem T_51 : TT 51 = ⟨1, 8, [.nilf], .fn, none⟩ := rfl
theorem T_53 : TT 53 = ⟨1, 8, [.nilf], .fn, none⟩ := rfl
theorem T_54 : TT 54 = ⟨1, 8, [.nilf], .fn, none⟩ := rfl
theorem T_55 : TT 55 = ⟨1, 8, [.nilf], .fn, none⟩ := rfl
theorem T_56 : TT 56 = ⟨1, 8, [.nilf], .fn, none⟩ := rfl
theorem T_57 : TT 57 = ⟨1, 8, [.nilf], .fn, none⟩ := rfl
theorem T_58 : TT 58 = ⟨1, 24, [.sl .n []], .slice 41, none⟩ := rfl
theorem T_59 : TT 59 = ⟨6, 80, [.int .i64 0, .int .i64 0, .int .i64 0, .int .i64 0, .sl .n [], .sl .n []], .struct [(0, 41), (4, 58), (5, 25)], none⟩ := rfl
theorem T_60 : TT 60 = ⟨6, 80, [.int .i64 0, .int .i64 0, .int .i64 0, .int .i64 0, .sl .n [], .sl .n []], .struct [(0, 41), (4, 58), (5, 25)], none⟩ := rfl
theorem T_61 : TT 61 = ⟨1, 8, [.nilf], .fn, none⟩ := rfl
theorem T_62 : TT 62 = ⟨1, 24, [.sl .n []], .slice 130, none⟩ := rfl
theorem T_64 : TT 64 = ⟨1, 8, [.nilf], .fn, none⟩ := rfl
theorem T_65 : TT 65 = ⟨1, 8, [.nilf], .fn, none⟩ := rfl
theorem T_67 : TT 67 = ⟨1, 8, [.nilf], .fn, none⟩ := rfl
theorem T_68 : TT 68 = ⟨1, 8, [.nilf], .fn, none⟩ := rfl
theorem T_69 : TT 69 = ⟨1, 8, [.nilf], .fn, none⟩ := rfl
theorem T_71 : TT 71 = ⟨1, 8, [.nilf], .fn, none⟩ := rfl
theorem T_73 : TT 73 = ⟨1, 8, [.nilf], .fn, none⟩ := rfl
theorem T_74 : TT 74 = ⟨1, 8, [.nilf], .fn, none⟩ := rfl
theorem T_75 : TT 75 = ⟨1, 8, [.nilf], .fn, none⟩ := rfl
theorem T_77 : TT 77 = ⟨1, 8, [.nilf], .fn, none⟩ := rfl
theorem T_78 : TT 78 = ⟨1, 8, [.nilf], .fn, none⟩ := rfl
theorem T_79 : TT 79 = ⟨1, 8, [.nilf], .fn, none⟩ := rfl
theorem T_80 : TT 80 = ⟨1, 8, [.nilf], .fn, none⟩ := rfl
theorem T_81 : TT 81 = ⟨1, 8, [.nilf], .fn, none⟩ := rfl
theorem T_82 : TT 82 = ⟨1, 8, [.nilf], .fn, none⟩ := rfl
theorem T_83 : TT 83 = ⟨1, 8, [.nilf], .fn, none⟩ := rfl
theorem T_84 : TT 84 = ⟨1, 8, [.int .i64 0], .int .i64, (some [.i .i64])⟩ := rfl
theorem T_86 : TT 86 = ⟨1, 8, [.nilf], .fn, none⟩ := rfl
theorem T_88 : TT 88 = ⟨1, 8, [.nilf], .fn, none⟩ := rfl
theorem T_89 : TT 89 = ⟨1, 8, [.nilf], .fn, none⟩ := rfl
theorem T_91 : TT 91 = ⟨1, 8, [.nilf], .fn, none⟩ := rfl
theorem T_92 : TT 92 = ⟨1, 24, [.sl .n []], .slice 25, none⟩ := rfl
theorem T_93 : TT 93 = ⟨1, 8, [.nilf], .fn, none⟩ := rfl
theorem T_94 : TT 94 = ⟨1, 8, [.nilf], .fn, none⟩ := rfl
theorem T_95 : TT 95 = ⟨1, 8, [.nilf], .fn, none⟩ := rfl
theorem T_96 : TT 96 = ⟨1, 8, [.nilf], .fn, none⟩ := rfl
theorem T_97 : TT 97 = ⟨1, 8, [.nilf], .fn, none⟩ := rfl
theorem T_99 : TT 99 = ⟨1, 8, [.nilf], .fn, none⟩ := rfl
theorem T_100 : TT 100 = ⟨1, 8, [.nilf], .fn, none⟩ := rfl
theorem T_101 : TT 101 = ⟨1, 8, [.nilf], .fn, none⟩ := rfl
theorem T_102 : TT 102 = ⟨1, 8, [.nilf], .fn, none⟩ := rfl
theorem T_103 : TT 103 = ⟨1, 8, [.nilf], .fn, none⟩ := rfl
theorem T_104 : TT 104 = ⟨1, 8, [.nilf], .fn, none⟩ := rfl
theorem T_105 : TT 105 = ⟨1, 8, [.nilf], .fn, none⟩ := rfl
theorem T_107 : TT 107 = ⟨1, 8, [.nilf], .fn, none⟩ := rfl
theorem T_108 : TT 108 = ⟨1, 8, [.nilf], .fn, none⟩ := rfl
theorem T_109 : TT 109 = ⟨1, 8, [.nilf], .fn, none⟩ := rfl
theorem T_110 : TT 110 = ⟨1, 8, [.nilf], .fn, none⟩ := rfl
theorem T_111 : TT 111 = ⟨1, 8, [.nilf], .fn, none⟩ := rfl
theorem T_112 : TT 112 = ⟨1, 8, [.nilf], .fn, none⟩ := rfl
theorem T_113 : TT 113 = ⟨1, 8, [.nilf], .fn, none⟩ := rfl
theorem T_115 : TT 115 = ⟨1, 8, [.nilf], .fn, none⟩ := rfl
theorem T_117 : TT 117 = ⟨1, 8, [.nilf], .fn, none⟩ := rfl
theorem T_118 : TT 118 = ⟨1, 8, [.nilf], .fn, none⟩ := rfl
theorem T_119 : TT 119 = ⟨1, 8, [.nilf], .fn, none⟩ := rfl
theorem T_121 : TT 121 = ⟨1, 8, [.nilf], .fn, none⟩ := rfl
theorem T_122 : TT 122 = ⟨1, 8, [.nilf], .fn, none⟩ := rfl
theorem T_123 : TT 123 = ⟨1, 24, [.sl .n []], .slice 5, none⟩ := rfl
theorem T_124 : TT 124 = ⟨1, 8, [.nilf], .fn, none⟩ := rfl
theorem T_125 : TT 125 = ⟨1, 8, [.nilf], .fn, none⟩ := rfl
theorem T_126 : TT 126 = ⟨1, 8, [.nilf], .fn, none⟩ := rfl
theorem T_127 : TT 127 = ⟨1, 8, [.nilf], .fn, none⟩ := rfl
theorem T_128 : TT 128 = ⟨1, 8, [.nilf], .fn, none⟩ := rfl
theorem T_129 : TT 129 = ⟨2, 16, [.int .i64 0, .int .i64 0], .struct [(0, 3), (1, 3)], (some [.i .i64, .i .i64])⟩ := rfl
theorem T_130 : TT 130 = ⟨2, 16, [.int .i64 0, .int .i64 0], .struct [(0, 3), (1, 3)], (some [.i .i64, .i .i64])⟩ := rfl
theorem T_131 : TT 131 = ⟨1, 24, [.sl .n []], .slice 133, none⟩ := rfl
theorem T_132 : TT 132 = ⟨1, 8, [.nilf], .fn, none⟩ := rfl
theorem T_133 : TT 133 = ⟨2, 16, [.int .i64 0, .int .i64 0], .struct [(0, 3), (1, 3)], (some [.i .i64, .i .i64])⟩ := rfl
theorem T_134 : TT 134 = ⟨1, 8, [.nilf], .fn, none⟩ := rfl
theorem T_135 : TT 135 = ⟨1, 8, [.nilf], .fn, none⟩ := rfl
theorem T_136 : TT 136 = ⟨1, 8, [.nilf], .fn, none⟩ := rfl
theorem T_137 : TT 137 = ⟨1, 8, [.nilf], .fn, none⟩ := rfl
theorem T_138 : TT 138 = ⟨1, 8, [.nilf], .fn, none⟩ := rfl
theorem T_139 : TT 139 = ⟨1, 8, [.nilf], .fn, none⟩ := rfl
theorem T_140 : TT 140 = ⟨1, 8, [.nilf], .fn, none⟩ := rfl
theorem T_141 : TT 141 = ⟨8, 112, [.int .i64 0, .sl .n [], .int .i64 0, .int .i64 0, .int .i64 0, .int .i64 0, .sl .n [], .sl .n []], .struct [(0, 24), (2, 60)], none⟩ := rfl
theorem T_142 : TT 142 = ⟨8, 112, [.int .i64 0, .sl .n [], .int .i64 0, .int .i64 0, .int .i64 0, .int .i64 0, .sl .n [], .sl .n []], .struct [(0, 24), (2, 60)], none⟩ := rfl
theorem T_143 : TT 143 = ⟨1, 8, [.nilf], .fn, none⟩ := rfl
theorem T_144 : TT 144 = ⟨1, 8, [.nilm], .map 148 3, none⟩ := rfl
theorem T_145 : TT 145 = ⟨1, 8, [.nilf], .fn, none⟩ := rfl
theorem T_147 : TT 147 = ⟨5, 40, [.int .i64 0, .int .i64 0, .int .i64 0, .int .i64 0, .int .i64 0], .array 5 3, (some [.i .i64, .i .i64, .i .i64, .i .i64, .i .i64])⟩ := rfl
theorem T_148 : TT 148 = ⟨5, 40, [.int .i64 0, .int .i64 0, .int .i64 0, .int .i64 0, .int .i64 0], .array 5 3, (some [.i .i64, .i .i64, .i .i64, .i .i64, .i .i64])⟩ := rfl
theorem T_149 : TT 149 = ⟨1, 8, [.nilf], .fn, none⟩ := rfl
theorem T_150 : TT 150 = ⟨1, 8, [.nilf], .fn, none⟩ := rfl
theorem T_151 : TT 151 = ⟨1, 8, [.nilf], .fn, none⟩ := rfl
theorem T_152 : TT 152 = ⟨1, 8, [.nilf], .fn, none⟩ := rfl
theorem T_153 : TT 153 = ⟨1, 8, [.nilf], .fn, none⟩ := rfl
theorem T_154 : TT 154 = ⟨1, 8, [.nilf], .fn, none⟩ := rfl
theorem T_155 : TT 155 = ⟨1, 8, [.nilf], .fn, none⟩ := rfl
theorem T_156 : TT 156 = ⟨1, 24, [.sl .n []], .slice 158, none⟩ := rfl
theorem T_157 : TT 157 = ⟨2, 32, [.sl .n [], .int .i64 0], .struct [(0, 25), (1, 3)], none⟩ := rfl
theorem T_158 : TT 158 = ⟨2, 32, [.sl .n [], .int .i64 0], .struct [(0, 25), (1, 3)], none⟩ := rfl
theorem T_160 : TT 160 = ⟨1, 8, [.nilf], .fn, none⟩ := rfl
theorem T_161 : TT 161 = ⟨1, 8, [.nilf], .fn, none⟩ := rfl
theorem T_162 : TT 162 = ⟨1, 8, [.nilm], .map 148 4, none⟩ := rfl
theorem T_163 : TT 163 = ⟨1, 8, [.nilf], .fn, none⟩ := rfl
theorem T_164 : TT 164 = ⟨1, 24, [.sl .n []], .slice 4, none⟩ := rfl
theorem T_165 : TT 165 = ⟨1, 8, [.nilf], .fn, none⟩ := rfl
theorem T_166 : TT 166 = ⟨1, 8, [.nilf], .fn, none⟩ := rfl
theorem T_167 : TT 167 = ⟨1, 8, [.nilf], .fn, none⟩ := rfl
theorem T_168 : TT 168 = ⟨1, 8, [.nilf], .fn, none⟩ := rfl
theorem T_169 : TT 169 = ⟨1, 8, [.nilf], .fn, none⟩ := rfl
theorem T_170 : TT 170 = ⟨1, 8, [.nilf], .fn, none⟩ := rfl
theorem T_171 : TT 171 = ⟨1, 8, [.nilf], .fn, none⟩ := rfl
theorem T_172 : TT 172 = ⟨1, 8, [.nilf], .fn, none⟩ := rfl
theorem T_173 : TT 173 = ⟨1, 8, [.nilf], .fn, none⟩ := rfl
theorem T_174 : TT 174 = ⟨1, 8, [.nilf], .fn, none⟩ := rfl
theorem T_175 : TT 175 = ⟨1, 24, [.sl .n []], .slice 9, none⟩ := rfl
theorem T_176 : TT 176 = ⟨1, 8, [.nilf], .fn, none⟩ := rfl
theorem T_177 : TT 177 = ⟨1, 8, [.nilf], .fn, none⟩ := rfl
theorem T_178 : TT 178 = ⟨1, 8, [.nilf], .fn, none⟩ := rfl
theorem T_179 : TT 179 = ⟨1, 8, [.nilf], .fn, none⟩ := rfl
theorem T_180 : TT 180 = ⟨1, 8, [.nilf], .fn, none⟩ := rfl
theorem T_181 : TT 181 = ⟨1, 8, [.nilf], .fn, none⟩ := rfl
theorem T_182 : TT 182 = ⟨1, 8, [.nilm], .map 133 4, none⟩ := rfl
theorem T_183 : TT 183 = ⟨1, 8, [.nilf], .fn, none⟩ := rfl
theorem T_184 : TT 184 = ⟨2, 16, [.int .i64 0, .int .i64 0], .array 2 3, (some [.i .i64, .i .i64])⟩ := rfl
theorem T_185 : TT 185 = ⟨1, 8, [.nilf], .fn, none⟩ := rfl
theorem T_186 : TT 186 = ⟨1, 8, [.nilf], .fn, none⟩ := rfl
theorem T_187 : TT 187 = ⟨1, 8, [.nilf], .fn, none⟩ := rfl
theorem T_188 : TT 188 = ⟨1, 8, [.nilf], .fn, none⟩ := rfl
theorem T_189 : TT 189 = ⟨1, 8, [.nilf], .fn, none⟩ := rfl
theorem T_190 : TT 190 = ⟨1, 8, [.nilf], .fn, none⟩ := rfl
theorem T_191 : TT 191 = ⟨1, 8, [.int .i64 0], .struct [(0, 3)], (some [.i .i64])⟩ := rfl
theorem T_192 : TT 192 = ⟨1, 8, [.int .i64 0], .struct [(0, 3)], (some [.i .i64])⟩ := rfl
theorem T_193 : TT 193 = ⟨1, 16, [.str []], .struct [(0, 9)], (some [.s])⟩ := rfl
theorem T_194 : TT 194 = ⟨1, 16, [.str []], .struct [(0, 9)], (some [.s])⟩ := rfl
theorem T_195 : TT 195 = ⟨1, 8, [.nilf], .fn, none⟩ := rfl
theorem T_196 : TT 196 = ⟨1, 8, [.nilf], .fn, none⟩ := rfl
theorem T_197 : TT 197 = ⟨1, 8, [.nilf], .fn, none⟩ := rfl
theorem T_198 : TT 198 = ⟨1, 8, [.nilf], .fn, none⟩ := rfl
theorem T_199 : TT 199 = ⟨1, 8, [.nilf], .fn, none⟩ := rfl
theorem T_200 : TT 200 = ⟨1, 8, [.nilf], .fn, none⟩ := rfl
theorem T_201 : TT 201 = ⟨1, 8, [.nilf], .fn, none⟩ := rfl
theorem T_202 : TT 202 = ⟨1, 8, [.int .i64 0], .int .i64, (some [.i .i64])⟩ := rfl
theorem T_203 : TT 203 = ⟨5, 40, [.int .i64 0, .int .i64 0, .int .i64 0, .int .i64 0, .int .i64 0], .struct [(0, 44)], (some [.i .i64, .i .i64, .i .i64, .i .i64, .i .i64])⟩ := rfl
theorem T_204 : TT 204 = ⟨5, 40, [.int .i64 0, .int .i64 0, .int .i64 0, .int .i64 0, .int .i64 0], .struct [(0, 44)], (some [.i .i64, .i .i64, .i .i64, .i .i64, .i .i64])⟩ := rfl
theorem T_205 : TT 205 = ⟨1, 8, [.nilf], .fn, none⟩ := rfl
theorem T_206 : TT 206 = ⟨1, 8, [.nilf], .fn, none⟩ := rfl
theorem T_207 : TT 207 = ⟨1, 8, [.nilf], .fn, none⟩ := rfl
theorem T_208 : TT 208 = ⟨1, 8, [.nilf], .fn, none⟩ := rfl
theorem T_209 : TT 209 = ⟨1, 8, [.nilf], .fn, none⟩ := rfl
theorem T_210 : TT 210 = ⟨1, 8, [.nilf], .fn, none⟩ := rfl
theorem T_211 : TT 211 = ⟨1, 8, [.nilf], .fn, none⟩ := rfl
theorem T_212 : TT 212 = ⟨16, 128, [.int .i64 0, .int .i64 0, .int .i64 0, .int .i64 0, .int .i64 0, .int .i64 0, .int .i64 0, .int .i64 0, .int .i64 0, .int .i64 0, .int .i64 0, .int .i64 0, .int .i64 0, .int .i64 0, .int .i64 0, .int .i64 0], .array 8 133, (some [.i .i64, .i .i64, .i .i64, .i .i64, .i .i64, .i .i64, .i .i64, .i .i64, .i .i64, .i .i64, .i .i64, .i .i64, .i .i64, .i .i64, .i .i64, .i .i64])⟩ := rfl
theorem T_213 : TT 213 = ⟨1, 8, [.nilf], .fn, none⟩ := rfl
theorem T_214 : TT 214 = ⟨1, 8, [.nilf], .fn, none⟩ := rfl
theorem T_215 : TT 215 = ⟨1, 8, [.int .u64 0], .int .u64, (some [.i .u64])⟩ := rfl
theorem T_216 : TT 216 = ⟨1, 8, [.nilf], .fn, none⟩ := rfl
theorem T_217 : TT 217 = ⟨2, 16, [.nilf, .nilf], .array 2 216, none⟩ := rfl
theorem T_218 : TT 218 = ⟨1, 8, [.nilf], .fn, none⟩ := rfl
theorem T_219 : TT 219 = ⟨1, 8, [.nilf], .fn, none⟩ := rfl
theorem T_220 : TT 220 = ⟨1, 8, [.nilf], .fn, none⟩ := rfl
theorem T_221 : TT 221 = ⟨4, 32, [.int .i64 0, .int .i64 0, .int .i64 0, .int .i64 0], .array 2 39, (some [.i .i64, .i .i64, .i .i64, .i .i64])⟩ := rfl
theorem T_222 : TT 222 = ⟨1, 8, [.nilf], .fn, none⟩ := rfl
theorem T_223 : TT 223 = ⟨1, 16, [.nili], .iface, none⟩ := rfl
theorem T_224 : TT 224 = ⟨1, 16, [.nili], .iface, none⟩ := rfl
theorem T_225 : TT 225 = ⟨1, 8, [.nilf], .fn, none⟩ := rfl
theorem T_226 : TT 226 = ⟨1, 8, [.nilp], .ptr 228, none⟩ := rfl
theorem T_227 : TT 227 = ⟨2, 32, [.nilp, .sl .n []], .struct [(0, 226), (1, 123)], none⟩ := rfl
theorem T_228 : TT 228 = ⟨2, 32, [.nilp, .sl .n []], .struct [(0, 226), (1, 123)], none⟩ := rfl
theorem T_229 : TT 229 = ⟨1, 8, [.nilf], .fn, none⟩ := rfl
theorem T_230 : TT 230 = ⟨1, 16, [.nili], .iface, none⟩ := rfl
theorem T_231 : TT 231 = ⟨1, 16, [.nili], .iface, none⟩ := rfl
theorem T_233 : TT 233 = ⟨1, 8, [.nilf], .fn, none⟩ := rfl
theorem T_234 : TT 234 = ⟨1, 8, [.nilf], .fn, none⟩ := rfl
theorem T_235 : TT 235 = ⟨1, 8, [.nilf], .fn, none⟩ := rfl
theorem T_236 : TT 236 = ⟨1, 8, [.nilf], .fn, none⟩ := rfl
theorem T_237 : TT 237 = ⟨1, 8, [.int .i64 0], .int .i64, (some [.i .i64])⟩ := rfl
theorem T_239 : TT 239 = ⟨1, 8, [.nilf], .fn, none⟩ := rfl
theorem T_240 : TT 240 = ⟨1, 8, [.nilf], .fn, none⟩ := rfl
theorem T_241 : TT 241 = ⟨1, 8, [.nilf], .fn, none⟩ := rfl
theorem T_242 : TT 242 = ⟨1, 8, [.nilf], .fn, none⟩ := rfl
theorem T_243 : TT 243 = ⟨1, 8, [.nilf], .fn, none⟩ := rfl
theorem T_244 : TT 244 = ⟨1, 4, [.int .u32 0], .int .u32, (some [.i .u32])⟩ := rfl
theorem T_245 : TT 245 = ⟨1, 8, [.nilf], .fn, none⟩ := rfl
theorem T_246 : TT 246 = ⟨1, 8, [.int .u64 0], .int .u64, (some [.i .u64])⟩ := rfl
theorem T_247 : TT 247 = ⟨1, 8, [.nilf], .fn, none⟩ := rfl
theorem T_248 : TT 248 = ⟨1, 8, [.nilf], .fn, none⟩ := rfl
theorem T_249 : TT 249 = ⟨1, 8, [.nilp], .ptr 5, none⟩ := rfl
theorem T_250 : TT 250 = ⟨1, 8, [.nilf], .fn, none⟩ := rfl
theorem T_251 : TT 251 = ⟨1, 8, [.nilf], .fn, none⟩ := rfl
theorem T_252 : TT 252 = ⟨1, 8, [.nilf], .fn, none⟩ := rfl
theorem T_253 : TT 253 = ⟨1, 8, [.int .u64 0], .int .u64, (some [.i .u64])⟩ := rfl
theorem T_254 : TT 254 = ⟨1, 8, [.nilf], .fn, none⟩ := rfl
theorem T_255 : TT 255 = ⟨1, 8, [.nilf], .fn, none⟩ := rfl
theorem T_256 : TT 256 = ⟨1, 8, [.nilf], .fn, none⟩ := rfl
theorem T_257 : TT 257 = ⟨1, 8, [.nilp], .ptr 3, none⟩ := rfl
theorem T_258 : TT 258 = ⟨1, 8, [.nilf], .fn, none⟩ := rfl
theorem T_259 : TT 259 = ⟨24, 24, [.int .u8 0, .int .u8 0, .int .u8 0, .int .u8 0, .int .u8 0, .int .u8 0, .int .u8 0, .int .u8 0, .int .u8 0, .int .u8 0, .int .u8 0, .int .u8 0, .int .u8 0, .int .u8 0, .int .u8 0, .int .u8 0, .int .u8 0, .int .u8 0, .int .u8 0, .int .u8 0, .int .u8 0, .int .u8 0, .int .u8 0, .int .u8 0], .array 24 5, (some [.i .u8, .i .u8, .i .u8, .i .u8, .i .u8, .i .u8, .i .u8, .i .u8, .i .u8, .i .u8, .i .u8, .i .u8, .i .u8, .i .u8, .i .u8, .i .u8, .i .u8, .i .u8, .i .u8, .i .u8, .i .u8, .i .u8, .i .u8, .i .u8])⟩ := rfl
theorem T_260 : TT 260 = ⟨1, 8, [.nilf], .fn, none⟩ := rfl
theorem T_262 : TT 262 = ⟨1, 8, [.nilf], .fn, none⟩ := rfl
theorem T_264 : TT 264 = ⟨1, 8, [.nilf], .fn, none⟩ := rfl
theorem T_265 : TT 265 = ⟨1, 8, [.nilf], .fn, none⟩ := rfl
theorem T_267 : TT 267 = ⟨1, 8, [.nilf], .fn, none⟩ := rfl
theorem T_268 : TT 268 = ⟨1, 8, [.nilf], .fn, none⟩ := rfl
theorem T_269 : TT 269 = ⟨1, 8, [.nilp], .ptr 253, none⟩ := rfl
theorem T_271 : TT 271 = ⟨1, 8, [.nilf], .fn, none⟩ := rfl
theorem T_272 : TT 272 = ⟨1, 8, [.nilf], .fn, none⟩ := rfl
theorem T_273 : TT 273 = ⟨1, 8, [.nilf], .fn, none⟩ := rfl
theorem T_274 : TT 274 = ⟨20, 160, [.int .u64 0, .int .u64 0, .int .u64 0, .int .u64 0, .int .u64 0, .int .u64 0, .int .u64 0, .int .u64 0, .int .u64 0, .int .u64 0, .int .u64 0, .int .u64 0, .int .u64 0, .int .u64 0, .int .u64 0, .int .u64 0, .int .u64 0, .int .u64 0, .int .u64 0, .int .u64 0], .array 20 246, (some [.i .u64, .i .u64, .i .u64, .i .u64, .i .u64, .i .u64, .i .u64, .i .u64, .i .u64, .i .u64, .i .u64, .i .u64, .i .u64, .i .u64, .i .u64, .i .u64, .i .u64, .i .u64, .i .u64, .i .u64])⟩ := rfl
theorem T_275 : TT 275 = ⟨65, 65, List.replicate 65 (.int .u8 0), .array 65 5, (some (List.replicate 65 (.i .u8)))⟩ := rfl
theorem T_276 : TT 276 = ⟨1, 8, [.nilf], .fn, none⟩ := rfl
theorem T_277 : TT 277 = ⟨256, 256, List.replicate 256 (.int .u8 0), .array 256 5, (some (List.replicate 256 (.i .u8)))⟩ := rfl
theorem T_278 : TT 278 = ⟨2, 2, [.int .u8 0, .int .u8 0], .struct [(0, 5), (1, 5)], (some [.i .u8, .i .u8])⟩ := rfl
theorem T_279 : TT 279 = ⟨2, 2, [.int .u8 0, .int .u8 0], .struct [(0, 5), (1, 5)], (some [.i .u8, .i .u8])⟩ := rfl
theorem T_280 : TT 280 = ⟨32, 32, [.int .u8 0, .int .u8 0, .int .u8 0, .int .u8 0, .int .u8 0, .int .u8 0, .int .u8 0, .int .u8 0, .int .u8 0, .int .u8 0, .int .u8 0, .int .u8 0, .int .u8 0, .int .u8 0, .int .u8 0, .int .u8 0, .int .u8 0, .int .u8 0, .int .u8 0, .int .u8 0, .int .u8 0, .int .u8 0, .int .u8 0, .int .u8 0, .int .u8 0, .int .u8 0, .int .u8 0, .int .u8 0, .int .u8 0, .int .u8 0, .int .u8 0, .int .u8 0], .array 16 279, (some [.i .u8, .i .u8, .i .u8, .i .u8, .i .u8, .i .u8, .i .u8, .i .u8, .i .u8, .i .u8, .i .u8, .i .u8, .i .u8, .i .u8, .i .u8, .i .u8, .i .u8, .i .u8, .i .u8, .i .u8, .i .u8, .i .u8, .i .u8, .i .u8, .i .u8, .i .u8, .i .u8, .i .u8, .i .u8, .i .u8, .i .u8, .i .u8])⟩ := rfl
theorem T_282 : TT 282 = ⟨1, 8, [.nilf], .fn, none⟩ := rfl
theorem T_283 : TT 283 = ⟨32, 32, [.int .u8 0, .int .u8 0, .int .u8 0, .int .u8 0, .int .u8 0, .int .u8 0, .int .u8 0, .int .u8 0, .int .u8 0, .int .u8 0, .int .u8 0, .int .u8 0, .int .u8 0, .int .u8 0, .int .u8 0, .int .u8 0, .int .u8 0, .int .u8 0, .int .u8 0, .int .u8 0, .int .u8 0, .int .u8 0, .int .u8 0, .int .u8 0, .int .u8 0, .int .u8 0, .int .u8 0, .int .u8 0, .int .u8 0, .int .u8 0, .int .u8 0, .int .u8 0], .array 32 5, (some [.i .u8, .i .u8, .i .u8, .i .u8, .i .u8, .i .u8, .i .u8, .i .u8, .i .u8, .i .u8, .i .u8, .i .u8, .i .u8, .i .u8, .i .u8, .i .u8, .i .u8, .i .u8, .i .u8, .i .u8, .i .u8, .i .u8, .i .u8, .i .u8, .i .u8, .i .u8, .i .u8, .i .u8, .i .u8, .i .u8, .i .u8, .i .u8])⟩ := rfl
theorem T_284 : TT 284 = ⟨64, 64, List.replicate 64 (.int .u8 0), .array 64 5, (some (List.replicate 64 (.i .u8)))⟩ := rfl
theorem T_285 : TT 285 = ⟨4, 40, [.nilp, .nilp, .nilp, .str []], .struct [(0, 17), (1, 17), (2, 17), (3, 9)], none⟩ := rfl
theorem T_286 : TT 286 = ⟨4, 40, [.nilp, .nilp, .nilp, .str []], .struct [(0, 17), (1, 17), (2, 17), (3, 9)], none⟩ := rfl
theorem T_287 : TT 287 = ⟨0, 0, [], .array 0 16, none⟩ := rfl
theorem T_288 : TT 288 = ⟨0, 0, [], .struct [(0, 287)], none⟩ := rfl
theorem T_289 : TT 289 = ⟨0, 0, [], .struct [(0, 287)], none⟩ := rfl
theorem T_290 : TT 290 = ⟨1, 1, [.int .u8 0], .int .u8, (some [.i .u8])⟩ := rfl
theorem T_291 : TT 291 = ⟨1, 1, [.int .u8 0], .int .u8, (some [.i .u8])⟩ := rfl
theorem T_292 : TT 292 = ⟨1, 8, [.nilf], .fn, none⟩ := rfl
theorem T_293 : TT 293 = ⟨1, 4, [.int .i32 0], .int .i32, (some [.i .i32])⟩ := rfl
theorem T_294 : TT 294 = ⟨1, 4, [.int .i32 0], .int .i32, (some [.i .i32])⟩ := rfl
theorem T_295 : TT 295 = ⟨11, 48, [.int .u64 0, .int .u64 0, .int .u32 0, .int .u8 0, .int .u8 0, .int .u8 0, .int .u8 0, .nilf, .nilp, .int .i32 0, .int .i32 0], .struct [(0, 12), (1, 12), (2, 244), (3, 290), (4, 5), (5, 5), (6, 291), (7, 292), (8, 249), (9, 293), (10, 294)], none⟩ := rfl
theorem T_296 : TT 296 = ⟨11, 48, [.int .u64 0, .int .u64 0, .int .u32 0, .int .u8 0, .int .u8 0, .int .u8 0, .int .u8 0, .nilf, .nilp, .int .i32 0, .int .i32 0], .struct [(0, 12), (1, 12), (2, 244), (3, 290), (4, 5), (5, 5), (6, 291), (7, 292), (8, 249), (9, 293), (10, 294)], none⟩ := rfl
theorem mixed : Tryz.prog.follows .mixedOrders = true := rfl
end Go.Pv
namespace Go.Pv
open Go Go.RowKit
/-- A nil slice, looked at as a row of its own without elements. -/
theorem Ghost.nilRow {st : St} {t : Nat} (h : getT st.tm t = some (.sl .n [])) (e : TypeId) (k : Nat) : Ghost st { tm := putT st.tm t (.ms st.sg.length 0), n := st.n, sg := st.sg ++ [.row true e k [] false] } := by
  refine ⟨by simp, fun r G a w db hs => ?_⟩
  have hle := G.push_le (.row (.slice none 0 0) 0 k)
  have hR : Rel (G.push (.row (.slice none 0 0) 0 k)) (st.sg ++ [.row true e k [] false]) w := by
    refine hs.rel.push (Below.refl _ w) (fun g e => by cases e) ?_
    refine ⟨rfl, rfl, by simp, by simp, by simp [flat], ⟨[], ?_, by simp [flat], fun j c u hc => by simp [flat] at hc⟩, fun g e => by cases e⟩
    exact ⟨by simp, .inl ⟨rfl, rfl⟩⟩
  refine ⟨_, ⟨hR, fun s v hv => ?_, hs.n, hs.dfr, fun l hl => ?_⟩, hle.leM _⟩
  · rw [getT_putT] at hv
    split at hv
    · rename_i hst
      subst hst
      cases hv
      obtain ⟨u, hu, hr⟩ := hs.tm t _ h
      refine ⟨u, hu, ?_⟩
      have hlast : (G.push (.row (.slice none 0 0) 0 k)).rho[st.sg.length]? = some (.row (.slice none 0 0) 0 k) := by
        show (G.rho ++ [_])[st.sg.length]? = _
        rw [← hs.rel.len, List.getElem?_append_right (Nat.le_refl _)]; simp
      cases hr with
      | nils => exact .ms hlast (Nat.le_refl _) rfl fun _ => rfl
      | sl hz => exact absurd rfl hz
    · obtain ⟨u, hu, hr⟩ := hs.tm s v hv
      exact ⟨u, hu, hr.mono hle⟩
  · obtain ⟨id, d, lr, e1, e2⟩ := hs.rd l hl
    obtain ⟨s', e1', hle'⟩ := hle.rho id _ e1
    cases s' <;> simp only [Slot.le] at hle'
    obtain ⟨rfl, rfl⟩ := hle'
    exact ⟨id, d, lr, e1', by rw [List.getElem?_append_left (List.getElem?_eq_some_iff.1 e2).1]; exact e2⟩
theorem RunQ.nilRow {P : Program} {c : Code} {Q : Out → St → Prop} (t : Nat) (e : TypeId) (k : Nat) {tm tm' : List (Nat × PV)} {n : Nat} {sg : List Box} (h : getT tm t = some (.sl .n [])) (e1 : putT tm t (.ms sg.length 0) = tm') {sg' : List Box} (e2 : sg ++ [.row true e k [] false] = sg')
    (hq : RunQ P c ⟨tm', n, sg'⟩ Q) : RunQ P c ⟨tm, n, sg⟩ Q :=
  RunQ.pre (st1 := ⟨tm', n, sg'⟩) (by have := Ghost.nilRow (st := ⟨tm, n, sg⟩) h e k; rw [e1, e2] at this; exact this) hq
/-- One operation of a region. -/
def stepO (me : Meth) (cf : CallF) (T : TypeId → TyI) (ops : Array Oper) (st : St) (o : Oper) : Option (Out × St) :=
  match wantC ops st.tm o with
  | some true => evOp me cf noY T st o
  | some false => if dOk o st.n = true then some (.normal, { tm := putD st.tm o.dst (.tuple []), n := st.n, sg := st.sg }) else none
  | none => none
def RegQ (me : Meth) (cf : CallF) (T : TypeId → TyI) (ops : Array Oper) (os : List Oper) (st : St) (Q : Out → St → Prop) : Prop :=
  ∃ o st', evOpsL me cf noY T ops os st = some (o, st') ∧ Q o st'
section
variable {P : Program} {T : TypeId → TyI} {me : Meth} {cf : CallF} {ops : Array Oper} {st st1 : St} {Q : Out → St → Prop}
theorem RegQ.nil (h : Q .normal st) : RegQ me cf T ops [] st Q := ⟨_, _, rfl, h⟩
theorem RegQ.step {o : Oper} {os : List Oper} (h : stepO me cf T ops st o = some (.normal, st1)) (hq : RegQ me cf T ops os st1 Q) : RegQ me cf T ops (o :: os) st Q := by
  obtain ⟨o', st', h1, h2⟩ := hq
  refine ⟨o', st', ?_, h2⟩
  unfold stepO at h
  unfold evOpsL
  split at h
  · rename_i hw; simp only [hw, h]; exact h1
  · rename_i hw
    split at h <;> cases h
    rename_i hd
    simp only [hw, hd, if_true]; exact h1
  · cases h
theorem RegQ.stop {o : Oper} {os : List Oper} {v : PV} (h : stepO me cf T ops st o = some (.panic v, st1)) (hq : Q (.panic v) st1) : RegQ me cf T ops (o :: os) st Q := by
  refine ⟨_, _, ?_, hq⟩
  unfold stepO at h
  unfold evOpsL
  split at h
  · rename_i hw; simp only [hw, h]
  · split at h <;> cases h
  · cases h
theorem RunQ.reg {id : Nat} {os : List Oper} (hT : TyT P T) (hcf : CallFOk P cf) (hme : MethOk P me) (h : RegQ me cf T os.toArray os st Q) : RunQ P (.region id os.toArray false) st Q := by
  obtain ⟨o, st', h1, h2⟩ := h
  exact RunQ.region hT hcf hme (by simpa using h1) h2
/-- One operation of a region that draws, in the order of the text. -/
def stepD (cf : CallF) (T : TypeId → TyI) (ops : Array Oper) (fid : Nat) (st : St) (o : Oper) : Option (DRec × Nat × St) :=
  let new := drawNew o.op
  let rb := if new then fid :: opIds st.tm o.op else opIds st.tm o.op
  let fid' := if new then fid + 1 else fid
  if dOk o st.n = true then
    match wantC ops st.tm o with
    | some true => match opD (oraOf cf) T st.tm st.sg fid o.op with
      | some (v, ef) => if effB ef = true ∧ (!new || freeB st.sg fid) = true then some ({ want := true, fid, v, ef, rb, full := none }, fid', { tm := putD st.tm o.dst v, n := st.n, sg := setE st.sg ef }) else none
      | none => none
    | some false => some ({ want := false, fid, v := .tuple [], ef := none, rb, full := none }, fid', { tm := putD st.tm o.dst (.tuple []), n := st.n, sg := st.sg })
    | none => none
  else none
def DrawQ (me : Meth) (cf : CallF) (T : TypeId → TyI) (ops : Array Oper) (os : List Oper) (fid : Nat) (st : St) (K : List DRec → St → Prop) : Prop :=
  ∃ rs st', txtL me cf noY T ops os fid st = some (rs, st') ∧ K rs st'
theorem DrawQ.nil {fid : Nat} {K : List DRec → St → Prop} (h : K [] st) : DrawQ me cf T ops [] fid st K := ⟨_, _, rfl, h⟩
theorem DrawQ.step {o : Oper} {os : List Oper} {fid fid' : Nat} {r : DRec} {K : List DRec → St → Prop} (h : stepD cf T ops fid st o = some (r, fid', st1)) (hq : DrawQ me cf T ops os fid' st1 (fun rs s => K (r :: rs) s)) : DrawQ me cf T ops (o :: os) fid st K := by
  obtain ⟨rs, st', h1, h2⟩ := hq
  refine ⟨r :: rs, st', ?_, h2⟩
  unfold stepD at h
  simp only at h
  unfold txtL
  simp only
  split at h <;> try (cases h; done)
  rename_i hd
  rw [if_pos hd]
  split at h
  · rename_i hw
    simp only [hw]
    split at h <;> try (cases h; done)
    rename_i v ef hv
    split at h <;> cases h
    rename_i hc
    simp only [hv]
    rw [if_pos hc]
    simp only [app]
    rw [h1]
  · rename_i hw
    cases h
    simp only [hw, app, setE]
    rw [h1]
  · cases h
/-- Rows that are frozen ahead; the places for the new boxes. -/
theorem RunQ.drawn {id : Nat} {os : List Oper} (ids : List Nat) {sg0 : List Box} (hT : TyT P T) (hcf : CallFOk P cf) (hme : MethOk P me) (hm : P.follows .mixedOrders = true) (hst : statOk os.toArray = true) (hsg : rowsOf st.sg ids ++ List.replicate (newCount os) .dead = sg0)
    (h : DrawQ me cf T os.toArray os st.sg.length { tm := st.tm, n := st.n, sg := sg0 } (fun rs s => boxOk os.toArray rs = true ∧ Q .normal s)) : RunQ P (.region id os.toArray true) st Q := by
  obtain ⟨rs, st', h1, h2, h3⟩ := h
  obtain ⟨a, b, c⟩ := txtL_ok hT hcf noY_ok hme _ _ _ _ _ h1
  have hrun := Run.draw (P := P) hT (oraOf_ok hcf) hm (id := id) (ops := os.toArray) rs (by simpa using b) hst (by simpa using a) h2
  refine ⟨_, _, Run.pre ((Ghost.rows ids st.sg st rfl).trans (Ghost.deads (newCount os) _)) (by rw [hsg]; exact hrun), ?_⟩
  have := c 0
  simp only [List.toList_toArray]
  rw [← this]
  exact h3
end
def wA := @RegQ.nil
def wB := @RunQ.seq
def wC := @RunQ.block
def wD := @RunQ.skip
def wE := @RunQ.label
def wF := @RunQ.ret
def wG := @RunQ.exit
def wH := @condQ.t
def wI := @condQ.f
def wJ := @thenQ.n
def wK := @thenQ.r
def wL := @thenQ.x
def wM := @thenQ.p
def wN := @blockQ.n
def wO := @blockQ.r
def wP := @blockQ.x
def wQ := @blockQ.y
def wR := @blockQ.p
def wS := @roundQ.r
def wT := @roundQ.x
def wU := @roundQ.p
def wV := @RegQ.step
def wW := @DrawQ.step
def wX := @RunQ.condD
def wY := @RunQ.drawn
def wZ := @RunQ.reg
def wa := @DrawQ.nil
end Go.Pv
namespace Go.Pv
open Go Go.RowKit
theorem regroup_self : ∀ es : List PV, regroup es (flat es) = es
  | [] => rfl
  | x :: es => by
    cases x
    case agg c0 =>
      rw [flat_cons]
      simp only [regroup, PV.cells, List.take_left, List.drop_left, regroup_self es]
    all_goals
      rw [flat_cons]
      simp only [PV.cells, List.cons_append, List.nil_append, regroup, regroup_self es]
theorem closedL_append : ∀ (a b : List PV), closedL (a ++ b) = (closedL a && closedL b)
  | [], b => by simp [closedL]
  | x :: a, b => by simp only [List.cons_append, closedL, closedL_append a b, Bool.and_assoc]
theorem closedL_cells (x : PV) (h : x.closed = true) : closedL x.cells = true := by
  cases x <;> simp only [PV.cells, closedL, Bool.and_true] <;> exact h
theorem closedL_flat : ∀ es : List PV, closedL es = true → closedL (flat es) = true
  | [], _ => rfl
  | x :: es, h => by
    have h' : (x.closed && closedL es) = true := h
    rw [Bool.and_eq_true] at h'
    rw [flat_cons, closedL_append, closedL_cells x h'.1, closedL_flat es h'.2]; rfl
theorem closedL_map {α : Type} {g : α → PV} (h : ∀ a, (g a).closed = true) : ∀ l : List α, closedL (l.map g) = true
  | [] => rfl
  | a :: l => by show ((g a).closed && closedL (l.map g)) = true; rw [h, closedL_map h l]; rfl
mutual
theorem ltB_of_closed (m : Nat) : ∀ v : PV, v.closed = true → v.ltB m = true
  | .bool _, _ => rfl
  | .int _ _, _ => rfl
  | .str _, _ => rfl
  | .nilp, _ => rfl
  | .nilm, _ => rfl
  | .nilf, _ => rfl
  | .nili, _ => rfl
  | .sl _ es, h => ltBL_of_closed m es h
  | .im ks vs, h => by
    have h' : (closedL ks && closedL vs) = true := h
    rw [Bool.and_eq_true] at h'
    show (ltBL m ks && ltBL m vs) = true
    rw [ltBL_of_closed m ks h'.1, ltBL_of_closed m vs h'.2]; rfl
  | .fn _ a b, h => by
    have h' : (closedL a && closedL b) = true := h
    rw [Bool.and_eq_true] at h'
    show (ltBL m a && ltBL m b) = true
    rw [ltBL_of_closed m a h'.1, ltBL_of_closed m b h'.2]; rfl
  | .iface _ v, h => ltB_of_closed m v h
  | .agg cs, h => ltBL_of_closed m cs h
  | .tuple cs, h => ltBL_of_closed m cs h
  | .ip cs, h => ltBL_of_closed m cs h
  | .ms _ _, h => by cases h
  | .mp _, h => by cases h
  | .bp _ _, h => by cases h
  | .rp _ _ _ _, h => by cases h
  | .yl _, h => by cases h
theorem ltBL_of_closed (m : Nat) : ∀ vs : List PV, closedL vs = true → ltBL m vs = true
  | [], _ => rfl
  | v :: vs, h => by
    have h' : (v.closed && closedL vs) = true := h
    rw [Bool.and_eq_true] at h'
    show (v.ltB m && ltBL m vs) = true
    rw [ltB_of_closed m v h'.1, ltBL_of_closed m vs h'.2]; rfl
end
section
variable {d : Option Nat} {n : Nat} {sg : List Box}
theorem frzX_closed {v : PV} (h : v.closed = true) : frzX d (n + 1) sg v = (v, sg) := by
  unfold frzX
  rw [if_pos h]
theorem frzL_closed : ∀ (vs : List PV) (sg : List Box), closedL vs = true → frzL (frzX d (n + 1)) sg vs = (vs, sg)
  | [], sg, _ => rfl
  | v :: vs, sg, h => by
    have h' : (v.closed && closedL vs) = true := h
    rw [Bool.and_eq_true] at h'
    unfold frzL
    simp only [frzX_closed h'.1, frzL_closed vs sg h'.2]
theorem frzX_row {id : Nat} {z : Bool} {e : TypeId} {k : Nat} {es : List PV} {frz : Bool} (h : sg[id]? = some (.row z e k es frz)) (hc : closedL es = true) {m : Nat} (hm : m = es.length) :
    frzX d (n + 2) sg (.ms id m) = (.sl (if z then .n else .a) es, sg.set id (.row z e k es true)) := by
  subst hm
  unfold frzX
  rw [if_neg (by simp [PV.closed])]
  simp only [frz1, h, if_true, frzC, frzL_closed (flat es) _ (closedL_flat es hc), regroup_self]
theorem frzX_tup {vs : List PV} (hc : closedL vs = false) : frzX d (n + 1) sg (.tuple vs) = (.tuple (frzL (frzX d n) sg vs).1, (frzL (frzX d n) sg vs).2) := by
  unfold frzX
  rw [if_neg (by simp [PV.closed, hc])]
  rfl
theorem leaveF {v v' : PV} (h : (frzX (some 0) 8 sg v).1 = v') (hc : v'.closed = true) : leaveC0 0 v sg = (v', []) := by
  unfold leaveC0
  subst h
  simp only [if_true, ltB_of_closed 0 _ hc]
theorem leave_row {id : Nat} {z : Bool} {e : TypeId} {k : Nat} {es : List PV} {frz : Bool} (h : sg[id]? = some (.row z e k es frz)) (hc : closedL es = true) {m : Nat} (hm : m = es.length) : leaveC0 0 (.ms id m) sg = (.sl (if z then .n else .a) es, []) :=
  leaveF (by rw [frzX_row (n := 6) h hc hm]) hc
theorem leave_closed {v : PV} (hc : v.closed = true) : leaveC0 0 v sg = (v, []) := leaveF (by rw [frzX_closed (n := 7) hc]) hc
/-- Two results, the first a row of the call's own. -/
theorem leave_row2 {id : Nat} {z : Bool} {e : TypeId} {k : Nat} {es : List PV} {frz : Bool} (h : sg[id]? = some (.row z e k es frz)) (hc : closedL es = true) {m : Nat} (hm : m = es.length) {c : PV} (hcc : c.closed = true) : leaveC0 0 (.tuple [.ms id m, c]) sg = (.tuple [.sl (if z then .n else .a) es, c], []) :=
  leaveF (by rw [frzX_tup (n := 7) (by simp [closedL, PV.closed])]; simp only [frzL, frzX_row (n := 5) h hc hm, frzX_closed (n := 6) hcc]) (by simp [PV.closed, closedL, hc, hcc])
end
section
variable {P : Program} {T : TypeId → TyI}
/-- A function whose call leaves the boxes as they are: all that it hands back is frozen. -/
theorem CallOk.ofF (hT : TyT P T) {f : FuncId} {fn : Func} {c : Code} {args : List PV} {n0 : Nat} {v : PV} (hf : P.funcs[f]? = some fn) (hb : fn.body = some c) (hn0 : n0 = args.length + (fn.ntmps - args.length))
    (hrun : RunQ P c ⟨argT 0 args, n0, []⟩ (fun o st' => o.ends = true ∧ sameLoopsC [] st'.sg = true ∧ ∃ v', resC T st' fn.results = some v' ∧ leaveC0 0 v' st'.sg = (v, []))) : CallOk P f args [] (.ret v) [] := by
  obtain ⟨o, st', hr, h1, h2, v', h3, h4⟩ := hrun
  have := leaveC0_ok (CallOk.body hT hf hb hn0 hr h1 h3 (sameLoops_of _ _ h2))
  simp only [List.length_nil] at this
  rw [h4] at this
  exact this
end
end Go.Pv
namespace Go.Pv
open Go Go.RowKit
/-- Plain code: what was deferred stays as it was. -/
def PRun (P : Program) (c : Code) (st : St) (out : Out) (st' : St) : Prop :=
  st.sg.length ≤ st'.sg.length ∧ ∀ (n : Nat) (G : Gh) (a : Act) (w : World) (Q : Exit → Act → World → Prop), Rel G st.sg w → RepT G st.tm a.tmps → a.tmps.size = st.n →
    (∀ e a' w' G', ExitOk G' out e → Rel G' st'.sg w' → RepT G' st'.tm a'.tmps → a'.tmps.size = st'.n → a'.defers = a.defers → G'.dfr = G.dfr → Gh.leM st.sg.length G G' → Q e a' w') → c.wpIn (FW none) n P Q a w
def PRunOps (P : Program) (ops : Array Oper) (l : List Nat) (st st' : St) : Prop :=
  st.sg.length ≤ st'.sg.length ∧ ∀ (n : Nat) (G : Gh) (a : Act) (w : World) (Q : Exit → Act → World → Prop), Rel G st.sg w → RepT G st.tm a.tmps → a.tmps.size = st.n →
    (∀ a' w' G', Rel G' st'.sg w' → RepT G' st'.tm a'.tmps → a'.tmps.size = st'.n → a'.defers = a.defers → G'.dfr = G.dfr → Gh.leM st.sg.length G G' → Q .normal a' w') → wpOpsIn (FW none) n P ops Q l a w
section
variable {P : Program} {T : TypeId → TyI} {st st' st1 : St} {out : Out}
theorem PRun.seq {x y : Code} (h1 : PRun P x st .normal st1) (h2 : PRun P y st1 out st') : PRun P (.seq x y) st out st' :=
  ⟨Nat.le_trans h1.1 h2.1, fun n G a w Q hR hT hn k => wpIn_seq (h1.2 n G a w _ hR hT hn fun e a' w' G' he r1 r2 r3 r4 r5 r6 => by
    obtain rfl := he.normal'
    exact h2.2 n G' a' w' Q r1 r2 r3 fun e a'' w'' G'' he s1 s2 s3 s4 s5 s6 => k _ _ _ G'' he s1 s2 s3 (s4.trans r4) (s5.trans r5) (r6.trans s6 h1.1))⟩
theorem PRun.cond {c : Operand} {b : Bool} {x y : Code} (hc : evO st.tm c = some (.bool b)) (h1 : PRun P (if b then x else y) st out st1) : PRun P (.cond c x y) st out st1 :=
  ⟨h1.1, fun n G a w Q hR hT hn k => wpIn_cond (rep_bool (evO_rep hT hc)) (h1.2 n G a w Q hR hT hn k)⟩
theorem PRun.block {id : Nat} {c : Code} (h1 : PRun P c st out st1) : PRun P (.block id c) st (out.inBlock id) st1 :=
  ⟨h1.1, fun n G a w Q hR hT hn k => wpIn_block (h1.2 n G a w _ hR hT hn fun e a' w' G' he r1 r2 r3 r4 r5 r6 => by
    cases out <;> cases e <;> try exact he.elim
    · exact k _ _ _ G' trivial r1 r2 r3 r4 r5 r6
    · cases he
      simp only [Exit.inBlock, Out.inBlock] at k ⊢
      split
      · rename_i hid
        rw [if_pos hid] at k
        exact k _ _ _ G' trivial r1 r2 r3 r4 r5 r6
      · rename_i hid
        rw [if_neg hid] at k
        exact k _ _ _ G' rfl r1 r2 r3 r4 r5 r6
    · exact k _ _ _ G' he r1 r2 r3 r4 r5 r6
    · exact k _ _ _ G' trivial r1 r2 r3 r4 r5 r6
    · exact k _ _ _ G' he r1 r2 r3 r4 r5 r6)⟩
theorem PRun.region {id : Nat} {ops : Array Oper} (h : PRunOps P ops (List.range ops.size) st st1) : PRun P (.region id ops false) st .normal st1 :=
  ⟨h.1, fun n G a w Q hR hT hn k => wpIn_region (h.2 n G a w Q hR hT hn fun a' w' G' => k .normal a' w' G' trivial)⟩
theorem PRunOps.nil (ops : Array Oper) (st : St) : PRunOps P ops [] st st := ⟨Nat.le_refl _, fun n G a w Q hR hT hn k => k a w G hR hT hn rfl rfl (leM_refl _ _)⟩
theorem PRunOps.cons (hT : TyT P T) {ops : Array Oper} {i : Nat} {rest : List Nat} {o : Oper} (hi : ops[i]? = some o) (hw : wantC ops st.tm o = some true) (hd : ∀ d, o.dst = some d → d < st.n) {v : PV} {ef : Eff} (h : opC T st.tm (sgN o.op st.sg) st.sg.length o.op = some (v, ef))
    (h2 : PRunOps P ops rest { tm := putD st.tm o.dst v, n := st.n, sg := setE (sgN o.op st.sg) ef } st') : PRunOps P ops (i :: rest) st st' := by
  have hlen : st.sg.length ≤ (setE (sgN o.op st.sg) ef).length := by
    have : (setE (sgN o.op st.sg) ef).length = (sgN o.op st.sg).length := by unfold setE; cases ef <;> simp
    rw [this]; unfold sgN; split <;> simp
  refine ⟨Nat.le_trans hlen h2.1, fun n G a w Q hR hTm hn k => ?_⟩
  have hwt := want_ok hTm hw
  simp only [wpOpsIn, hi, hwt, if_true]
  refine ⟨fun f _ => trivial, ?_⟩
  have hG0 : ∃ G0, Rel G0 (sgN o.op st.sg) w ∧ G.le G0 ∧ G0.dfr = G.dfr := by
    unfold sgN
    split
    · exact ⟨_, push_dead hR, G.push_le _, rfl⟩
    · exact ⟨G, hR, G.le_refl, rfl⟩
  obtain ⟨G0, hR0, hl0, hdf0⟩ := hG0
  have hfree : opNew o.op = true → free (sgN o.op st.sg) st.sg.length := fun hn => by unfold sgN free; rw [if_pos hn]; simp
  obtain ⟨u, w', G', hrun, hR', hl', hdf', hv⟩ := op_ok (P := P) (o := o) hT hR0 (hTm.mono hl0) hfree h
  have hle := Gh.le_trans hl0 hl'
  have hsem : o.semAt (FW none).round a.eval = execOp a.eval o := Oper.semAt_eq _ _ _ (opC_defer h)
  rw [hsem]
  have := h2.2 n G' (a.put o.dst u) w' Q hR' ((hTm.mono hle).putD (fun d e => hn ▸ hd d e) hv) ((put_size a o.dst u).trans hn) fun a'' w'' G'' s1 s2 s3 s4 s5 s6 =>
    k a'' w'' G'' s1 s2 s3 (by rw [s4, put_defers]) (s5.trans (hdf'.trans hdf0)) ((hle.leM st.sg.length).trans s6 hlen)
  rcases hrun with hrun | ⟨hrun, rfl⟩ <;> rw [hrun] <;> exact this
/-- A region's operations, counted out. -/
def plainO (T : TypeId → TyI) (ops : Array Oper) : List Oper → St → Option St
  | [], st => some st
  | o :: os, st => match wantC ops st.tm o with
    | some true => if dOk o st.n = true then match opC T st.tm (sgN o.op st.sg) st.sg.length o.op with
        | some (v, ef) => plainO T ops os { tm := putD st.tm o.dst v, n := st.n, sg := setE (sgN o.op st.sg) ef }
        | none => none
      else none
    | _ => none
theorem plainO_ok (hT : TyT P T) {ops : Array Oper} : ∀ (os : List Oper) (i : Nat) (st : St), (∀ (j : Nat) (o : Oper), os[j]? = some o → ops[i + j]? = some o) → plainO T ops os st = some st' → PRunOps P ops (List.range' i os.length) st st'
  | [], i, st, _, h => by cases h; exact PRunOps.nil ops _
  | o :: os, i, st, hos, h => by
    have hi : ops[i]? = some o := hos 0 o rfl
    have hos' : ∀ (j : Nat) (o : Oper), os[j]? = some o → ops[i + 1 + j]? = some o := fun j o' hj => by
      have := hos (j + 1) o' (by simpa using hj)
      rw [show i + 1 + j = i + (j + 1) by omega]
      exact this
    rw [List.length_cons, List.range'_succ]
    unfold plainO at h
    split at h <;> try (cases h; done)
    split at h <;> try (cases h; done)
    split at h <;> try (cases h; done)
    rename_i hw hd _ v ef hv
    exact PRunOps.cons hT hi hw (dOk_iff hd) hv (plainO_ok hT os (i + 1) _ hos' h)
theorem PRun.regionL (hT : TyT P T) {id : Nat} {os : List Oper} (h : plainO T os.toArray os st = some st') : PRun P (.region id os.toArray false) st .normal st' := by
  refine PRun.region ?_
  rw [List.range_eq_range']
  have := plainO_ok (P := P) hT os 0 st (fun j o hj => by rw [Nat.zero_add]; simpa using hj) h
  simpa using this
/-- What recover hands the closure. -/
inductive Mode where
  | ret
  | pan (v : PV)
def Mode.rv : Mode → PV
  | .ret => .nili
  | .pan v => v
def ModeOk (G : Gh) : Mode → FrameMode → FrameMode → Prop
  | .ret, u, u' => u = .returning ∧ u' = .returning
  | .pan v, u, u' => ∃ x, Rep G v x ∧ u = .panicking [{ v := x, recovered := false }] ∧ u' = .panicking [{ v := x, recovered := true }]
/-- The closure, run as a deferred call: it asks for the panic, then does something plain. -/
theorem deferred_ok (hT : TyT P T) {f : FuncId} {fn : Func} {d : Nat} {id0 : Nat} {pos : String} {ty : TypeId} {rest : Code} {cap : List PV} {sg : List Box} {m : Mode}
    (hf : P.funcs[f]? = some fn) (hb : fn.body = some (.seq (.region id0 #[{ dst := some d, op := .call { callee := .builtin .recover, args := #[], argTypes := #[] }, type := ty, pos := pos, after := #[], guard := none }] false) rest))
    (hres : fn.results = #[]) (hd : d < cap.length + (fn.ntmps - cap.length)) (hrest : PRun P rest ⟨putT (argT 0 cap) d m.rv, cap.length + (fn.ntmps - cap.length), sg⟩ .normal st')
    {n : Nat} {G : Gh} {w : World} {us : Array Value} {u u' : FrameMode} (hR : Rel G sg w) (hL : RepL G cap us) (hm : ModeOk G m u u') :
    CallsDIn Fence.wide n P f us u w fun e u'' w' => (∃ v, e = .returned v) ∧ u'' = u' ∧ ∃ G', Rel G' st'.sg w' ∧ Gh.leM sg.length G G' ∧ G'.dfr = G.dfr := by
  refine callsDIn_of_wpSIn hf hb trivial fun c₀ cs hu => wpSIn_seq (wpSIn_region ?_)
  have fin : ∀ (x : Value) (c1 : Frame), Rep G m.rv x → c1 = { c₀ with mode := u' } →
      rest.wpSIn Fence.wide n P (bodyPostS P fn c₀ cs fun e u'' w' => (∃ v, e = .returned v) ∧ u'' = u' ∧ ∃ G', Rel G' st'.sg w' ∧ Gh.leM sg.length G G' ∧ G'.dfr = G.dfr) (({ tmps := us ++ Array.replicate (fn.ntmps - us.size) Go.undef, defers := [] } : Act).put (some d) x) (c1 :: cs) w := by
    intro x c1 hx hc1
    refine wpSIn_of_wpIn rfl (hrest.2 n G _ w _ hR ?_ ?_ fun e a' w' G' he r1 r2 r3 r4 r5 r6 => ?_)
    · exact (argT_rep hL _).putD (dst := some d) (fun d' e => by cases e; simp [hL.1]; omega) hx
    · rw [put_size]; simp [hL.1]
    · obtain rfl := he.normal'
      refine ⟨r4, u', by rw [hc1], ?_⟩
      obtain ⟨y, hy, _⟩ := resC_ok (P := P) (T := T) (fn := fn) (st := st') hT r1 r2 (v := .tuple []) (by rw [hres]; rfl)
      exact ⟨y, hy, ⟨_, rfl⟩, rfl, G', r1, r6, r5⟩
  show wpOpsSIn Fence.wide n P _ _ [0] _ _ _
  simp only [wpOpsSIn, List.getElem?_toArray, List.getElem?_cons_zero]
  refine ⟨fun f _ => trivial, ?_⟩
  have hwt : Region.wanted ({ dst := some d, op := .call { callee := .builtin .recover, args := #[], argTypes := #[] }, type := ty, pos := pos, after := #[], guard := none } : Oper) (yielded #[{ dst := some d, op := .call { callee := .builtin .recover, args := #[], argTypes := #[] }, type := ty, pos := pos, after := #[], guard := none }] (us ++ Array.replicate (fn.ntmps - us.size) Go.undef)) = true := rfl
  rw [if_pos hwt]
  have hex : ∀ (a : Act), (execOp a.eval ({ dst := some d, op := .call { callee := .builtin .recover, args := #[], argTypes := #[] }, type := ty, pos := pos, after := #[], guard := none } : Oper)).run P w = .ok .recover w := by
    intro a
    simp [execOp, resolve, invoke, builtin]
  rw [hex]
  simp only
  cases m with
  | ret =>
    obtain ⟨rfl, rfl⟩ := hm
    have hrec : recoverD (c₀ :: cs) = none := by simp [recoverD, hu]
    rw [hrec]
    simp only
    exact fin .nilIface c₀ .nili (by rw [← hu])
  | pan v =>
    obtain ⟨x, hx, rfl, rfl⟩ := hm
    have hrec : recoverD (c₀ :: cs) = some (x, { c₀ with mode := .panicking [{ v := x, recovered := true }] } :: cs) := by simp [recoverD, hu]
    rw [hrec]
    simp only
    exact fin x _ hx rfl
/-- A function that makes a variable, defers a closure that names it, does something, and hands the variable back: c1 makes it, c2 does something. -/
theorem CallOk.deferring (hT : TyT P T) {f g : FuncId} {fn gn : Func} {args : List PV} {sg : List Box} {c1 c2 rest : Code} {id1 d tc td : Nat} {id0 : Nat} {pos pos1 pos2 : String} {ty ty1 ty2 : TypeId} {af1 af2 : Array Edge}
    (hf : P.funcs[f]? = some fn) (hb : fn.body = some (.seq c1 (.seq (.region id1 #[{ dst := some tc, op := .makeFunc (.func g) #[] #[.tmp td], type := ty1, pos := pos1, after := af1, guard := none }, { dst := none, op := .defer { callee := .value (.tmp tc), args := #[], argTypes := #[] }, type := ty2, pos := pos2, after := af2, guard := none }] false) c2)))
    (hg : P.funcs[g]? = some gn) (hgb : gn.body = some (.seq (.region id0 #[{ dst := some d, op := .call { callee := .builtin .recover, args := #[], argTypes := #[] }, type := ty, pos := pos, after := #[], guard := none }] false) rest)) (hgr : gn.results = #[]) (hgd : d < 1 + (gn.ntmps - 1)) (hge : Enters P g)
    {st1 st2 : St} {idv : Nat} (h1 : PRun P c1 ⟨argT 0 args, args.length + (fn.ntmps - args.length), sg⟩ .normal st1) (hv : getT st1.tm td = some (.bp idv 0)) (htc : tc < st1.n)
    {m : Mode} (h2 : Run P c2 { tm := putT st1.tm tc (.fn (.func g) [] [.bp idv 0]), n := st1.n, sg := st1.sg } (match m with | .ret => .ret | .pan v => .panic v) st2)
    {st3 : St} (h3 : PRun P rest ⟨putT [(0, .bp idv 0)] d m.rv, 1 + (gn.ntmps - 1), st2.sg⟩ .normal st3)
    {v : PV} (hres : resC T { tm := st2.tm, n := st2.n, sg := st3.sg } fn.results = some v) (hsl : SameLoops sg st2.sg) (hidv : idv < st1.sg.length) : CallOk P f args sg (.ret v) st3.sg := by
  have hlen : sg.length ≤ st3.sg.length := Nat.le_trans h1.1 (Nat.le_trans h2.1 h3.1)
  refine ⟨hlen, fun n G w us hR hL => callsIn_of_wp_marks hf hb trivial (wpIn_seq ?_)⟩
  refine h1.2 n G _ w _ hR (argT_rep hL _) (by simp [hL.1]) fun e a1 w1 G1 he r1 r2 r3 r4 r5 r6 => ?_
  obtain rfl := he.normal'
  refine wpIn_seq (wpIn_region ?_)
  show wpOpsIn _ n P _ _ [0, 1] a1 w1
  obtain ⟨xv, hxv, hrv⟩ := r2 td _ hv
  obtain ⟨gv, hgv⟩ : ∃ gv, xv = .pointer (some ⟨gv, 0, none⟩) := by cases hrv; exact ⟨_, rfl⟩
  subst hgv
  have hev : a1.eval (.tmp td) = .pointer (some ⟨gv, 0, none⟩) := by simp [Act.eval, Array.getD_eq_getD_getElem?, hxv]
  have hfn : Rep G1 (.fn (.func g) [] [.bp idv 0]) (.func (.func g) #[] #[.pointer (some ⟨gv, 0, none⟩)]) :=
    .fn (fun l h => by cases h) rfl rfl (fun j c u h => by simp at h) (fun j c u hc hu => by cases j <;> simp at hc hu; subst hc; subst hu; exact hrv)
  simp only [wpOpsIn, List.getElem?_toArray, List.getElem?_cons_zero, List.getElem?_cons_succ]
  have hw0 : ∀ (o : Oper) (y : Array Value) (ops : Array Oper), o.guard = none → Region.wanted o (yielded ops y) = true := fun o y ops h => by unfold Region.wanted; rw [h]
  rw [if_pos (hw0 _ _ _ rfl)]
  refine ⟨fun f _ => trivial, ?_⟩
  have hop1 : ∀ (o : Oper), o.op = .makeFunc (.func g) #[] #[.tmp td] → (o.semAt Fence.wide.round a1.eval).run P w1 = .ok (.value (.func (.func g) #[] #[.pointer (some ⟨gv, 0, none⟩)])) w1 := fun o ho => by
    rw [Oper.semAt_eq _ _ _ (fun c e => by rw [ho] at e; cases e)]
    simp [execOp, ho, Instr.makeFunc, hev]
  rw [hop1 _ rfl]
  dsimp only [Oper.uponIn]
  have hev2 : (a1.put (some tc) (.func (.func g) #[] #[.pointer (some ⟨gv, 0, none⟩)])).eval (.tmp tc) = .func (.func g) #[] #[.pointer (some ⟨gv, 0, none⟩)] := by
    simp [Act.eval, Act.put, Array.getD_eq_getD_getElem?, r3, htc]
  rw [if_pos (hw0 _ _ _ rfl)]
  refine ⟨fun f _ => trivial, ?_⟩
  have hop2 : ∀ (o : Oper) (c : Call), o.op = .defer c → c = { callee := .value (.tmp tc), args := #[], argTypes := #[] } → (o.semAt Fence.wide.round (a1.put (some tc) (.func (.func g) #[] #[.pointer (some ⟨gv, 0, none⟩)])).eval).run P w1 = .ok (.defer { target := .fn (.func g) #[.pointer (some ⟨gv, 0, none⟩)], args := #[] }) w1 := fun o c ho hc => by
    show (execOp _ o).run P w1 = _
    subst hc
    simp [execOp, ho, resolve, hev2, Deferred.ofValue]
  rw [hop2 _ _ rfl rfl, Oper.uponIn_defer]
  have hS : RelS G1 { tm := putT st1.tm tc (.fn (.func g) [] [.bp idv 0]), n := st1.n, sg := st1.sg } ({ (a1.put (some tc) (.func (.func g) #[] #[.pointer (some ⟨gv, 0, none⟩)])) with defers := { target := .fn (.func g) #[.pointer (some ⟨gv, 0, none⟩)], args := #[] } :: (a1.put (some tc) (.func (.func g) #[] #[.pointer (some ⟨gv, 0, none⟩)])).defers } : Act) w1 none (G.dfr, [{ target := .fn (.func g) #[.pointer (some ⟨gv, 0, none⟩)], args := #[] }]) := by
    refine ⟨r1, r2.putD (dst := some tc) (fun d e => by cases e; rw [r3]; exact htc) hfn, (put_size a1 (some tc) _).trans r3, ⟨[], ?_, r5, List.nodup_nil, (fun D h => by cases h), fun _ => rfl⟩, fun l h => by cases h⟩
    show _ :: (a1.put (some tc) _).defers = _
    rw [put_defers, r4]; rfl
  refine h2.2 none n G1 _ w1 (G.dfr, _) _ hS fun e2 a2 w2 G2 he2 hs2 hl2 => ?_
  obtain ⟨own, o1, o2, o3, o4, _⟩ := hs2.dfr
  have hl02 : Gh.leM sg.length G G2 := r6.trans hl2 h1.1
  have hlp : ∀ (id g d : Nat) (lr : LoopR), G2.rho[id]? = some (.lp g d) → st2.sg[id]? = some (.loop lr) → d ∈ G.dfr := fun id g d lr e1 e2 => by
    obtain ⟨lr0, h0⟩ := hsl.2 id lr e2
    obtain ⟨s0, hs0, hok⟩ := hR.slot h0
    cases s0 <;> simp only [BoxOk] at hok
    obtain ⟨_, tm, _, _, _, hd⟩ := hok
    obtain ⟨s1, e1', hle⟩ := hl02.rho id _ (List.getElem?_eq_some_iff.1 h0).1 hs0
    rw [e1] at e1'
    cases e1'
    obtain ⟨_, rfl⟩ := hle
    exact hd
  have hptr2 : Rep G2 (.bp idv 0) (.pointer (some ⟨gv, 0, none⟩)) := hrv.monoM hl2 (.bp hidv)
  have fin : ∀ (u u' : FrameMode), u ≠ .run → settle u' = .returning → ModeOk G2 m u u' → LeavesInM (FW none) n P fn a2.tmps (fun e w' => ∃ G', Rel G' st3.sg w' ∧ Gh.leM sg.length G G' ∧ G'.dfr = G.dfr ∧ match PRes.ret v, e with
      | .ret v, .returned u => Rep G' v u
      | .pan v, .panicked ch => ∃ u, ch = [{ v := u, recovered := false }] ∧ Rep G' v u
      | _, _ => False) a2.defers u w2 := by
    intro u u' hu hset hmo
    rw [o1]
    refine leave_marks hu own G2 w2 hs2.rel o2 o3 o4 hlp fun G3 w3 hR3 hle3 hdf3 => ?_
    refine ⟨hu, .inr ⟨fun h => (by cases h), .func g, #[.pointer (some ⟨gv, 0, none⟩)], g, #[.pointer (some ⟨gv, 0, none⟩)], rfl, ?_, fun _ _ => trivial, ?_⟩⟩
    · simp [invoke, hge _ w3]
    · have hmo3 : ModeOk G3 m u u' := by
        cases m with
        | ret => exact hmo
        | pan y => obtain ⟨x, hx, a, b⟩ := hmo; exact ⟨x, hx.mono hle3, a, b⟩
      refine CallsDIn.mono (deferred_ok hT (n := n - 1) (cap := [.bp idv 0]) (sg := st2.sg) (us := #[.pointer (some ⟨gv, 0, none⟩)]) hg hgb hgr hgd h3 hR3 ⟨rfl, fun j c u hc hu => by cases j <;> simp at hc hu; subst hc; subst hu; exact hptr2.mono hle3⟩ hmo3) fun e u'' w4 h => ?_
      obtain ⟨⟨y, rfl⟩, hu'', G4, hR4, hl4, hdf4⟩ := h
      show LeavesIn _ n P fn a2.tmps _ [] (settle u'') w4
      rw [hu'', hset]
      have hT4 : RepT G4 st2.tm a2.tmps := fun t x e => by
        obtain ⟨y, hy, hr⟩ := hs2.tm t x e
        exact ⟨y, hy, (hr.mono hle3).monoM hl4 (hs2.rel.len ▸ hr.lt)⟩
      obtain ⟨y, hy, hr⟩ := resC_ok (P := P) (fn := fn) (st := { tm := st2.tm, n := st2.n, sg := st3.sg }) hT hR4 hT4 hres
      exact ⟨y, hy, G4, hR4, (hl02.trans (hle3.leM sg.length) (Nat.le_refl _)).trans hl4 (Nat.le_trans h1.1 h2.1), hdf4.trans hdf3, hr⟩
  cases m with
  | ret =>
    cases e2 <;> first | exact he2.elim | skip
    exact fin .returning .returning (by simp) rfl ⟨rfl, rfl⟩
  | pan y =>
    cases e2 <;> first | exact he2.elim | skip
    obtain ⟨x, rfl, hx⟩ := he2
    exact fin (.panicking [{ v := x, recovered := false }]) (.panicking [{ v := x, recovered := true }]) (by simp) rfl ⟨x, hx, rfl, rfl⟩
end
end Go.Pv
namespace Go.Pv
open Go Go.RowKit
section
variable {P : Program} {T : TypeId → TyI} {st st' st1 : St} {out : Out}
theorem PRun.ret (st : St) : PRun P .ret st .ret st := ⟨Nat.le_refl _, fun n G a w Q hR hT hn k => wpIn_ret (k .ret a w G trivial hR hT hn rfl rfl (leM_refl _ _))⟩
/-- A function whose body is plain. -/
theorem CallOk.plain (hT : TyT P T) {f : FuncId} {fn : Func} {c : Code} {args : List PV} {sg : List Box} {n0 : Nat} (hf : P.funcs[f]? = some fn) (hb : fn.body = some c) (hn0 : n0 = args.length + (fn.ntmps - args.length))
    (hrun : PRun P c ⟨argT 0 args, n0, sg⟩ out st') (hout : out.ends = true) {v : PV} (hres : resC T st' fn.results = some v) (hsl : SameLoops sg st'.sg) : CallOk P f args sg (.ret v) st'.sg := by
  refine ⟨hrun.1, fun n G w us hR hL => callsIn_of_wp_marks hf hb trivial ?_⟩
  refine hrun.2 n G _ w _ hR (argT_rep hL _) (by simp [hn0, hL.1]) fun e a' w' G' he r1 r2 r3 r4 r5 hl => ?_
  have hlp : ∀ (id g d : Nat) (lr : LoopR), G'.rho[id]? = some (.lp g d) → st'.sg[id]? = some (.loop lr) → d ∈ G.dfr := fun id g d lr e1 e2 => by
    obtain ⟨lr0, h0⟩ := hsl.2 id lr e2
    obtain ⟨s0, hs0, hok⟩ := hR.slot h0
    cases s0 <;> simp only [BoxOk] at hok
    obtain ⟨_, tm, _, _, _, hd⟩ := hok
    obtain ⟨s1, e1', hle⟩ := hl.rho id _ (List.getElem?_eq_some_iff.1 h0).1 hs0
    rw [e1] at e1'
    cases e1'
    obtain ⟨_, rfl⟩ := hle
    exact hd
  have fin : LeavesInM Fence.wide n P fn a'.tmps (fun e w' => ∃ G', Rel G' st'.sg w' ∧ Gh.leM sg.length G G' ∧ G'.dfr = G.dfr ∧ match PRes.ret v, e with
      | .ret v, .returned u => Rep G' v u
      | .pan v, .panicked ch => ∃ u, ch = [{ v := u, recovered := false }] ∧ Rep G' v u
      | _, _ => False) a'.defers .returning w' := by
    rw [r4]
    refine leave_marks (by simp) [] G' w' r1 (by rw [r5]; rfl) List.nodup_nil (fun D h => by cases h) hlp fun G2 w2 hR2 hle2 hdf2 => ?_
    obtain ⟨u, hu, hr⟩ := resC_ok (P := P) (fn := fn) hT hR2 (r2.mono hle2) hres
    exact ⟨u, hu, G2, hR2, hl.trans (hle2.leM st'.sg.length) hrun.1, hdf2, hr⟩
  cases out <;> cases e <;> first | exact fin | exact he.elim | cases hout
theorem RepT.putN {G : Gh} {tm : List (Nat × PV)} {a : Act} (h : RepT G tm a.tmps) {d : Nat} (hd : getT tm d = none) {u : Value} : RepT G tm (a.put (some d) u).tmps := by
  intro t x e
  have hne : d ≠ t := fun e' => by subst e'; rw [hd] at e; cases e
  obtain ⟨y, hy, hr⟩ := h t x e
  refine ⟨y, ?_, hr⟩
  simp only [Act.put]
  rw [Array.getElem?_setIfInBounds_ne hne]
  exact hy
theorem write_var {G : Gh} {sg : List Box} {w : World} (hR : Rel G sg w) {id g off : Nat} (hs : G.rho[id]? = some (.blk g)) {cs : List PV} (hb : sg[id]? = some (.var cs false)) {ps : List PV} {vs : List Value} (hL : RepL G ps vs.toArray) (h1 : ∀ c ∈ ps, c.one = true) (hfit : off + ps.length ≤ cs.length) :
    ∃ w', (storeCells ⟨g, off, none⟩ vs 0).run P w = .ok () w' ∧ Rel G (sg.set id (.var (splice cs off ps) false)) w' := by
  have hus : vs.length = ps.length := by simpa using hL.1
  have hone : ∀ x ∈ vs, x.oneCell' = true := by
    intro x hx
    obtain ⟨j, hj, rfl⟩ := List.getElem_of_mem hx
    have hjl : j < ps.length := by omega
    exact (hL.2 j ps[j] _ (List.getElem?_eq_getElem hjl) (by simp [List.getElem?_eq_getElem hj])).one (h1 _ (List.getElem_mem hjl))
  have hok := hR.box id _ _ hs hb
  obtain ⟨hB, ⟨us, Tt, hh, hLu⟩, h1', hS⟩ := hok
  have hul : us.size = cs.length := hLu.1
  have hrun := run_storeCells_at P g off Tt vs 0 us w hh (by simp; omega) hone
  simp only [Nat.add_zero] at hrun
  refine ⟨_, hrun, ?_⟩
  have hset := setSlot_same hs
  rw [← hset]
  refine hR.change hs (Slot.le_refl _) (grownBy_setRow w g _) (fun g' e => .inl e) (fun g' e => by cases e; exact hB) (fun g' e o v hv => by cases e; rw [hS o (.inl rfl)] at hv; cases hv)
    (fun g' e es c hM => ?_) (fun g' e => dfr_ne hR hs hb e) ?_
  · cases e
    have := hR.stM _ _ _ hM
    rw [hh] at this; cases this
  · rw [hset]
    refine ⟨hB, ⟨_, Tt, setRow_heap w g us _ Tt _ hh, ?_⟩, fun c hc => ?_, fun o _ => hS o (.inl rfl)⟩
    · exact repL_splice hfit (by simpa using hLu) hL
    · rcases splice_mem hc with hc | hc
      · exact h1' c hc
      · exact h1 c hc
theorem copy_ok (hT : TyT P T) {G : Gh} {sg : List Box} {w : World} (hR : Rel G sg w) {id g n cap : Nat} (hs : G.rho[id]? = some (.blk g)) {cs : List PV} (hb : sg[id]? = some (.var cs false)) {ts ty e : TypeId} (hds : (T ts).d = .slice e) (he : (T e).d.ok = true) (hsz : (T e).size = 1)
    {x : PV} {u : Value} (hx : Rep G x u) {ys : List PV} (hxs : rowX sg x = some ys) (hy1 : (ys.all fun y => y.cells.length == 1) = true) (hn : ys.length ≤ n) (hfit : ys.length ≤ cs.length) :
    ∃ w', (Builtin.copy_ #[ts, ts] ty #[.slice (some ⟨g, 0, none⟩) n cap, u]).run P w = .ok (goInt ys.length) w' ∧ Rel G (sg.set id (.var (splice cs 0 (flat ys)) false)) w' := by
  have ht := und_slice (hT ts (by rw [hds]; rfl)) hds
  have hi := hT e he
  have hfl := flat_length ys (all_len hy1)
  rcases rowX_view hR hx hxs with ⟨rfl, A, c, rfl⟩ | ⟨gx, ox, cx, kx, nws, rfl, hcx, hkx, h1x, hLx, hcellx, hlx⟩
  · obtain ⟨w', a1, a2⟩ := write_var (P := P) hR (off := 0) hs hb (ps := []) (vs := []) ⟨rfl, fun j c u h => by simp at h⟩ (fun c h => by cases h) (by simp)
    refine ⟨w', ?_, a2⟩
    have hw : w' = w := by simpa [storeCells] using a1.symm
    subst hw
    cases A <;> simp [Builtin.copy_, run_underlying ht, run_size hi, Builtin.lenOf, Builtin.firstCells, storeCells, loadCells, loadCellsFrom, goInt]
  · have hk1 : ys = [] ∨ kx = 1 := by
      cases ys with
      | nil => exact .inl rfl
      | cons y ys => exact .inr (by rw [← hkx y (List.mem_cons_self ..), all_len hy1 y (List.mem_cons_self ..)])
    have hnl : nws.length = ys.length * 1 := by
      rcases hk1 with rfl | rfl
      · simpa using hlx
      · exact hlx
    obtain ⟨w', a1, a2⟩ := write_var (P := P) hR (off := 0) hs hb (ps := flat ys) (vs := nws) hLx h1x (by omega)
    refine ⟨w', ?_, a2⟩
    have hld := run_loadCells_list (P := P) w ⟨gx, ox, none⟩ nws hcellx
    rw [hnl] at hld
    have hm : Nat.min ys.length n = ys.length := Nat.min_eq_left hn
    rw [Nat.mul_one] at hld
    simp [Builtin.copy_, run_underlying ht, run_size hi, Builtin.lenOf, Builtin.firstCells, hm, hsz, hld, a1]
theorem wpOps_raw {ops : Array Oper} {i m : Nat} {rest : List Nat} {o : Oper} {a : Act} {w w' : World} {u : Value} {Q : Exit → Act → World → Prop} (hi : ops[i]? = some o) (hg : o.guard = none) (hnd : ∀ c, o.op ≠ .defer c)
    (hrun : (execOp a.eval o).run P w = .ok (.value u) w') (k : wpOpsIn (FW none) m P ops Q rest (a.put o.dst u) w') : wpOpsIn (FW none) m P ops Q (i :: rest) a w := by
  have hwt : Region.wanted o (yielded ops a.tmps) = true := by unfold Region.wanted; rw [hg]
  simp only [wpOpsIn, hi, hwt, if_true]
  refine ⟨fun f _ => trivial, ?_⟩
  have hsem : o.semAt (FW none).round a.eval = execOp a.eval o := Oper.semAt_eq _ _ _ hnd
  rw [hsem, hrun]
  exact k
theorem PRun.copyVar (hT : TyT P T) {rid d1 d2 d3 p q : Nat} {ta ts e ty1 ty2 ty3 : TypeId} {pos1 pos2 pos3 : String} {af1 af2 af3 : Array Edge} {n id : Nat} {x : PV} {cs ys : List PV}
    (hp : getT st.tm p = some (.bp id 0)) (hq : getT st.tm q = some x) (hb : st.sg[id]? = some (.var cs false)) (hx : rowX st.sg x = some ys)
    (hda : (T ta).d = .array n e) (hds : (T ts).d = .slice e) (he : (T e).d.ok = true) (hsz : (T e).size = 1) (hy1 : (ys.all fun y => y.cells.length == 1) = true) (hn : ys.length ≤ n) (hfit : n ≤ cs.length)
    (f1 : getT st.tm d1 = none) (f2 : getT st.tm d2 = none) (f3 : getT st.tm d3 = none) (l1 : d1 < st.n) (l2 : d2 < st.n) (hne : d1 ≠ d2) {sg1 : List Box} (hsg : st.sg.set id (.var (splice cs 0 (flat ys)) false) = sg1) :
    PRun P (.region rid #[{ dst := some d1, op := .slice ta (.tmp p) none none none, type := ty1, pos := pos1, after := af1, guard := none }, { dst := some d2, op := .move (.tmp q), type := ty2, pos := pos2, after := af2, guard := none },
      { dst := some d3, op := .call { callee := .builtin .copy, args := #[.tmp d1, .tmp d2], argTypes := #[ts, ts] }, type := ty3, pos := pos3, after := af3, guard := none }] false) st .normal { st with sg := sg1 } := by
  subst hsg
  refine PRun.region ⟨by simp, fun m G a w Q hR hTm hna k => ?_⟩
  show wpOpsIn _ m P _ _ [0, 1, 2] a w
  obtain ⟨xv, hxv, hrv⟩ := hTm p _ hp
  obtain ⟨g, rfl, hs⟩ : ∃ g, xv = .pointer (some ⟨g, 0, none⟩) ∧ G.rho[id]? = some (.blk g) := by cases hrv; exact ⟨_, rfl, ‹_›⟩
  have hev : a.eval (.tmp p) = .pointer (some ⟨g, 0, none⟩) := by simp [Act.eval, Array.getD_eq_getD_getElem?, hxv]
  obtain ⟨u, hu, hru⟩ := hTm q _ hq
  have hpq : d1 ≠ q := fun e' => by subst e'; rw [f1] at hq; cases hq
  have hta := und_array (hT ta (by rw [hda]; rfl)) hda
  have hie := hT e he
  refine wpOps_raw rfl rfl (fun c e' => by cases e') (u := .slice (some ⟨g, 0, none⟩) n n) (w' := w) ?_ ?_
  · show ((do pure (.value (← Instr.sliceAt ta (a.eval (.tmp p)) none none none)) : Sem Next).run P w) = _
    rw [hev]
    simp [Instr.sliceAt, run_underlying hta, Instr.sureAddr, Instr.sliceBounds, run_size hie]
    intro _; rfl
  refine wpOps_raw rfl rfl (fun c e' => by cases e') (u := u) (w' := w) ?_ ?_
  · have : (a.put (some d1) (.slice (some ⟨g, 0, none⟩) n n)).eval (.tmp q) = u := by
      simp [Act.eval, Act.put, Array.getD_eq_getD_getElem?, Array.getElem?_setIfInBounds_ne hpq, hu]
    simp [execOp, this]
  have e1 : (((a.put (some d1) (.slice (some ⟨g, 0, none⟩) n n)).put (some d2) u)).eval (.tmp d1) = .slice (some ⟨g, 0, none⟩) n n := by
    have : ((a.tmps.setIfInBounds d1 (.slice (some ⟨g, 0, none⟩) n n)).setIfInBounds d2 u)[d1]? = some (.slice (some ⟨g, 0, none⟩) n n) := by
      rw [Array.getElem?_setIfInBounds_ne (Ne.symm hne), Array.getElem?_setIfInBounds_self_of_lt (by omega)]
    show Array.getD _ d1 _ = _
    rw [Array.getD_eq_getD_getElem?]
    exact congrArg (fun o => Option.getD o undef) this
  have e2 : (((a.put (some d1) (.slice (some ⟨g, 0, none⟩) n n)).put (some d2) u)).eval (.tmp d2) = u := by
    simp [Act.eval, Act.put, Array.getD_eq_getD_getElem?, hna, l2]
  obtain ⟨w', hrun, hR'⟩ := copy_ok (P := P) (ty := ty3) hT hR (n := n) (cap := n) hs hb hds he hsz hru hx hy1 hn (by omega)
  refine wpOps_raw rfl rfl (fun c e' => by cases e') (u := goInt ys.length) (w' := w') ?_ ?_
  · have hbc : ∀ (ats : Array TypeId) (ty : TypeId) (cs : Array Bool) (args : Array Value), builtin .copy ats ty cs args = (do pure (.value (← Builtin.copy_ ats ty args))) := fun _ _ _ _ => rfl
    simp [execOp, resolve, invoke, e1, e2, hbc, hrun]
  refine k _ _ G hR' (((hTm.putN f1).putN f2).putN f3) ?_ rfl rfl (leM_refl _ _)
  show (Act.put (Act.put (Act.put a _ _) _ _) _ _).tmps.size = _
  rw [put_size, put_size, put_size]
  exact hna
end
end Go.Pv
namespace Go.Pv
open Go Go.RowKit
section
variable {P : Program}
theorem mapO_view {G : Gh} {sg : List Box} {w : World} (hR : Rel G sg w) {args args1 : List PV} {us : Array Value} (hL : RepL G args us) (h : mapO (viewV sg) args = some args1) :
    ∃ G', Rel G' sg w ∧ G.le G' ∧ G'.dfr = G.dfr ∧ RepL G' args1 us := by
  obtain ⟨G1, a1, a2, a3, a4, a5, _⟩ := mapO_ok (viewV sg) (fun hR hv h => viewV_ok hR hv h) (us := us.toList) hR (by simpa using hL.1) (fun j c u hc hu => hL.2 j c u hc (by simpa using hu)) h
  exact ⟨G1, a1, a2, a3, by rw [a4]; exact hL.1, fun j c u hc hu => a5 j c u hc (by simpa using hu)⟩
theorem argT_at : ∀ (vs : List PV) (k j : Nat) (v : PV), vs[j]? = some v → getT (argT k vs) (k + j) = some v
  | [], k, j, v, h => by simp at h
  | x :: vs, k, 0, v, h => by
    cases h
    unfold argT getT
    simp
  | x :: vs, k, j + 1, v, h => by
    have := argT_at vs (k + 1) j v (by simpa using h)
    unfold argT getT
    rw [show k + (j + 1) = k + 1 + j by omega, if_neg (by omega)]
    exact this
theorem CallOk.ghost {f : FuncId} {args args1 : List PV} {sg sg1 sg' : List Box} {r : PRes} (h : CallOk P f args1 sg1 r sg') (hg : Ghost ⟨argT 0 args, args.length, sg⟩ ⟨argT 0 args, args.length, sg1⟩) (hv : mapO (viewV sg1) args = some args1) : CallOk P f args sg r sg' := by
  refine ⟨Nat.le_trans hg.1 h.1, fun n G w us hR hL => ?_⟩
  have hS : RelS G ⟨argT 0 args, args.length, sg⟩ { tmps := us, defers := [] } w none (G.dfr, []) :=
    ⟨hR, by simpa using argT_rep hL 0, by simp [hL.1], ⟨[], rfl, rfl, List.nodup_nil, (fun D h => by cases h), fun _ => rfl⟩, fun l h => by cases h⟩
  obtain ⟨G1, hS1, hl1⟩ := hg.2 none G _ w _ hS
  have hd1 : G1.dfr = G.dfr := by
    obtain ⟨own, h1, h2, _⟩ := hS1.dfr
    have : own = [] := by
      have h1' : [] = own.map markD ++ [] := h1
      simpa using h1'.symm
    rw [h2, this]; rfl
  have hL1 : RepL G1 args us := ⟨hL.1, fun j c u hc hu => by
    obtain ⟨x, hx, hr⟩ := hS1.tm j c (by simpa using argT_at args 0 j c hc)
    rw [hx] at hu
    cases hu
    exact hr⟩
  obtain ⟨G2, b1, b2, b3, b4⟩ := mapO_view hS1.rel hL1 hv
  refine CallsIn.mono (h.2 n G2 w us b1 b4) fun e w' ⟨G3, c1, c2, c3, c4⟩ => ⟨G3, c1, ?_, by rw [c3, b3, hd1], c4⟩
  exact hl1.trans ((b2.leM sg1.length).trans c2 (Nat.le_refl _)) hg.1
/-- A function's contract among boxes, out of its body's walk. -/
theorem CallOk.ofS {T : TypeId → TyI} (hT : TyT P T) {f : FuncId} {fn : Func} {c : Code} {args : List PV} {sg sg' : List Box} {n0 : Nat} {v : PV} (hf : P.funcs[f]? = some fn) (hb : fn.body = some c) (hn0 : n0 = args.length + (fn.ntmps - args.length))
    (hrun : RunQ P c ⟨argT 0 args, n0, sg⟩ (fun o st' => o.ends = true ∧ sameLoopsC sg st'.sg = true ∧ ∃ v', resC T st' fn.results = some v' ∧ leaveC sg.length v' st'.sg = (v, sg'))) : CallOk P f args sg (.ret v) sg' := by
  obtain ⟨o, st', hr, h1, h2, v', h3, h4⟩ := hrun
  have := leaveC_ok (CallOk.body hT hf hb hn0 hr h1 h3 (sameLoops_of _ _ h2))
  rw [h4] at this
  exact this
/-- The contract, the rows among the arguments frozen ahead. -/
def conFrz (c : List PV → List Box → Option (PRes × List Box)) (args : List PV) (sg : List Box) : Option (PRes × List Box) :=
  let sg1 := rowsOf sg (args.flatMap PV.deep1)
  match mapO (viewV sg1) args with
  | some args1 => if sameLoopsC sg sg1 = true then c args1 sg1 else none
  | none => none
theorem ConOk.frz {f : FuncId} {c : List PV → List Box → Option (PRes × List Box)} (h : ConOk P f c) : ConOk P f (conFrz c) := fun args sg r sg' e => by
  unfold conFrz at e
  simp only at e
  split at e <;> try (cases e; done)
  rename_i args1 hv
  split at e <;> try (cases e; done)
  rename_i hsl
  obtain ⟨h1, h2, h3⟩ := h _ _ _ _ e
  exact ⟨h1, h2.ghost (Ghost.rows (args.flatMap PV.deep1) sg ⟨argT 0 args, args.length, sg⟩ rfl) hv, (sameLoops_of _ _ hsl).trans h3⟩
end
end Go.Pv
namespace Go.Pv
open Go Go.RowKit
theorem perm_lift {α β : Type} {f : α → β} : ∀ {l : List α} {r : List β}, (l.map f).Perm r → ∃ l', l.Perm l' ∧ l'.map f = r := by
  have key : ∀ {a r : List β}, a.Perm r → ∀ l : List α, l.map f = a → ∃ l', l.Perm l' ∧ l'.map f = r := by
    intro a r h
    induction h with
    | nil => intro l hl; exact ⟨l, .refl _, hl⟩
    | cons x _ ih =>
      intro l hl
      cases l with
      | nil => simp at hl
      | cons y l =>
        simp only [List.map_cons, List.cons.injEq] at hl
        obtain ⟨l', h1, h2⟩ := ih l hl.2
        exact ⟨y :: l', h1.cons y, by rw [List.map_cons, h2, hl.1]⟩
    | swap x y s =>
      intro l hl
      match l, hl with
      | a :: b :: l, hl =>
        simp only [List.map_cons, List.cons.injEq] at hl
        exact ⟨b :: a :: l, .swap _ _ _, by simp [hl]⟩
    | trans _ _ ih1 ih2 =>
      intro l hl
      obtain ⟨l1, h1, h2⟩ := ih1 l hl
      obtain ⟨l2, h3, h4⟩ := ih2 l1 h2
      exact ⟨l2, h1.trans h3, h4⟩
  intro l r h
  exact key h l rfl
section
variable {P : Program} {T : TypeId → TyI} {G : Gh} {sg : List Box} {w : World}
/-- A map of truths, its keys in another order. -/
theorem Rel.rekey (hR : Rel G sg w) {id : Nat} {ks ks' vs : List PV} {fz : Bool} (hb : sg[id]? = some (.map ks vs fz)) (hv : ∀ v ∈ vs, v = .bool true) (hp : ks.Perm ks') : Rel G (sg.set id (.map ks' (ks'.map fun _ => .bool true) fz)) w := by
  obtain ⟨s, hs, hok⟩ := hR.slot hb
  cases s <;> simp only [BoxOk] at hok
  rename_i g
  obtain ⟨hB, hM, es, c, ls, hh, hpl, l1, l2, r1, r2, b1, b2⟩ := hok
  refine hR.rebox hs ?_
  have hz : ((ls.zip ks).map Prod.snd).Perm ks' := by rw [List.map_snd_zip (by omega)]; exact hp
  obtain ⟨tr, t1, t2⟩ := perm_lift hz
  have hfst : (tr.map Prod.fst).Perm ls := by
    have := t1.symm.map Prod.fst
    rw [List.map_fst_zip (by omega)] at this
    exact this
  have hmem : ∀ p ∈ tr, ∃ j, ls[j]? = some p.1 ∧ ks[j]? = some p.2 := fun p hpm => by
    obtain ⟨j, hj⟩ := List.getElem?_of_mem (t1.mem_iff.2 hpm)
    obtain ⟨a, b⟩ := zip_get.1 hj
    exact ⟨j, a, b⟩
  have hlen : tr.length = ks'.length := by rw [← t2]; simp
  refine ⟨hB, hM, es, c, tr.map Prod.fst, hh, hfst.trans hpl, by simp [hlen], by simp [hlen], fun j e k he hk => ?_, fun j e v he hvv => ?_, b1, b2⟩
  · rw [← t2] at hk
    simp only [List.getElem?_map, Option.map_eq_some_iff] at he hk
    obtain ⟨p, hp1, rfl⟩ := he
    obtain ⟨q, hq1, rfl⟩ := hk
    rw [hp1] at hq1
    cases hq1
    obtain ⟨i, a, b⟩ := hmem p (List.mem_of_getElem? hp1)
    exact r1 i _ _ a b
  · simp only [List.getElem?_map, Option.map_eq_some_iff] at he hvv
    obtain ⟨p, hp1, rfl⟩ := he
    obtain ⟨_, _, rfl⟩ := hvv
    obtain ⟨i, a, b⟩ := hmem p (List.mem_of_getElem? hp1)
    have hi : i < vs.length := by rw [l2]; exact (List.getElem?_eq_some_iff.1 a).1
    have := r2 i p.1 vs[i] a (List.getElem?_eq_getElem hi)
    rw [hv _ (List.getElem_mem hi)] at this
    exact this
end
end Go.Pv
namespace Go.Pv
open Go Go.RowKit
/-- The evaluator; 'pc' is asked first what a piece of code comes to. -/
def evX (P : Program) (me : Meth) (T : TypeId → TyI) (prim : CallF → FuncId → List PV → List Box → Option (Option (PRes × List Box))) (pc : CallF → Code → St → Option (Out × St)) : Nat → Task → Option Res
  | 0, _ => none
  | k + 1, .code c st => match pc (callOf (evX P me T prim pc k)) c st with
    | some (o, st') => some (.code o st')
    | none => evStep P me T prim (evX P me T prim pc k) (.code c st)
  | k + 1, t => evStep P me T prim (evX P me T prim pc k) t
section
variable {P : Program} {T : TypeId → TyI} {me : Meth} {prim : CallF → FuncId → List PV → List Box → Option (Option (PRes × List Box))} {pc : CallF → Code → St → Option (Out × St)}
def PcOk (P : Program) (pc : CallF → Code → St → Option (Out × St)) : Prop := ∀ cf, CallFOk P cf → ∀ c st o st', pc cf c st = some (o, st') → Run P c st o st' ∧ ∀ b, c ≠ .loop b
theorem evX_ok (hT : TyT P T) (hme : MethOk P me) (hm : P.follows .mixedOrders = true) (hnm : Named P) (hprim : PrimOk P prim) (hpc : PcOk P pc) : ∀ (k : Nat) (t : Task) (r : Res), evX P me T prim pc k t = some r → TaskOk P t r
  | 0, t, r, h => by cases h
  | k + 1, t, r, h => by
    have IH := evX_ok hT hme hm hnm hprim hpc k
    cases t with
    | code c st =>
      unfold evX at h
      split at h
      · rename_i o st' h1
        cases h
        obtain ⟨a, b⟩ := hpc _ (callOf_ok IH) _ _ _ _ h1
        exact code_ok a b
      · exact evStep_ok hT hme hm hnm hprim IH _ _ h
    | call f args sg => exact evStep_ok hT hme hm hnm hprim IH _ _ h
    | yield id args sg => exact evStep_ok hT hme hm hnm hprim IH _ _ h
theorem evX_call (hT : TyT P T) (hme : MethOk P me) (hm : P.follows .mixedOrders = true) (hnm : Named P) (hprim : PrimOk P prim) (hpc : PcOk P pc) {k : Nat} {f : FuncId} {args : List PV} {sg sg' : List Box} {r : PRes} (h : evX P me T prim pc k (.call f args sg) = some (.call r sg')) :
    Enters P f ∧ CallOk P f args sg r sg' ∧ SameLoops sg sg' := evX_ok hT hme hm hnm hprim hpc k _ _ h
/-- One operation, what follows left open. -/
theorem wpOps_consK (hT : TyT P T) {ops : Array Oper} {i : Nat} {rest : List Nat} {o : Oper} {st st1 : St} (hi : ops[i]? = some o) (hw : wantC ops st.tm o = some true) (h1 : RunOp P o st .normal st1)
    {r : Option Nat} {db : DB} {n : Nat} {Q : Exit → Act → World → Prop} {G : Gh} {a : Act} {w : World} (hs : RelS G st a w r db) (k : ∀ a' w' G', RelS G' st1 a' w' r db → Gh.leM st.sg.length G G' → wpOpsIn (FW r) n P ops Q rest a' w') : wpOpsIn (FW r) n P ops Q (i :: rest) a w := by
  have hwt := want_ok hs.tm hw
  simp only [wpOpsIn, hi, hwt, if_true]
  refine h1.2 r n G a w db _ Q hs fun e a' w' G' he hs' hl => ?_
  obtain rfl := he.normal'
  exact .inl ⟨rfl, k a' w' G' hs' hl⟩
end
end Go.Pv
namespace Go.Pv
open Go Go.RowKit
theorem Ghost.view {tm : List (Nat × PV)} {n : Nat} {sg : List Box} {t : Nat} {v v1 : PV} (h : getT tm t = some v) (hv : viewV sg v = some v1) : Ghost ⟨tm, n, sg⟩ ⟨putT tm t v1, n, sg⟩ := by
  refine ⟨Nat.le_refl _, fun r G a w db hs => ?_⟩
  obtain ⟨u, hu, hr⟩ := hs.tm t v h
  obtain ⟨G1, a1, a2, a3, a4, _⟩ := viewV_ok hs.rel hr hv
  refine ⟨G1, ⟨a1, fun s x hx => ?_, hs.n, by rw [a3]; exact hs.dfr, fun l hl => ?_⟩, a2.leM _⟩
  · rw [getT_putT] at hx
    split at hx
    · rename_i hst
      subst hst
      cases hx
      exact ⟨u, hu, a4⟩
    · obtain ⟨y, hy, hyr⟩ := hs.tm s x hx
      exact ⟨y, hy, hyr.mono a2⟩
  · obtain ⟨id, d, lr, e1, e2⟩ := hs.rd l hl
    obtain ⟨s', e1', hle'⟩ := a2.rho id _ e1
    cases s' <;> simp only [Slot.le] at hle'
    obtain ⟨rfl, rfl⟩ := hle'
    exact ⟨id, d, lr, e1', e2⟩
/-- The row is frozen; the temporary is its slice from now on. -/
theorem RunQ.freeze {P : Program} {c : Code} {Q : Out → St → Prop} (t id : Nat) {tm tm' : List (Nat × PV)} {n m k : Nat} {e : TypeId} {sg sg' : List Box} {es : List PV} (h : getT tm t = some (.ms id m)) (hb : sg[id]? = some (.row false e k es false))
    (hm : es.length = m) (hc : closedL es = true) (e1 : sg.set id (.row false e k es true) = sg') (e2 : putT tm t (.sl .a es) = tm') (hq : RunQ P c ⟨tm', n, sg'⟩ Q) : RunQ P c ⟨tm, n, sg⟩ Q := by
  have hrows : rowsOf sg [id] = sg' := by
    unfold rowsOf
    simp only [hb, rowsOf]
    rw [frzL_closed (n := 4) (flat es) sg (closedL_flat es hc)]
    simp only [regroup_self]
    exact e1
  have hid : sg'[id]? = some (.row false e k es true) := by
    rw [← e1]
    exact List.getElem?_set_self (List.getElem?_eq_some_iff.1 hb).1
  have hv : viewV sg' (.ms id m) = some (.sl .a es) := by
    show view1 sg' (.ms id m) = _
    unfold view1
    simp [hid, hm]
  have g1 : Ghost ⟨tm, n, sg⟩ ⟨tm, n, sg'⟩ := by
    have := Ghost.rows [id] sg ⟨tm, n, sg⟩ rfl
    rw [hrows] at this
    exact this
  have g2 : Ghost ⟨tm, n, sg'⟩ ⟨tm', n, sg'⟩ := by
    have := Ghost.view (n := n) (sg := sg') h hv
    rw [e2] at this
    exact this
  exact RunQ.pre (g1.trans g2) hq
end Go.Pv
namespace Go.Pv
open Go Go.RowKit
/-- Whatever the way through c, the walk goes on from s0. -/
theorem RunQ.join {P : Program} {st : St} {c d : Code} {Q : Out → St → Prop} {k0 : Nat} (s0 : St) (hk : st.sg.length = k0) (h1 : RunQ P c st (fun o s => o = .normal ∧ Back P k0 s s0)) (h2 : RunQ P d s0 Q) : RunQ P (.seq c d) st Q :=
  RunQ.cut hk (RunQ.mono h1 fun _ _ h => ⟨h.1, s0, h.2, h2⟩)
theorem Back.keep {P : Program} {k0 : Nat} (ts : List Nat) {tm tm' : List (Nat × PV)} {n : Nat} {sg : List Box} (e : keepN ts tm = tm') : Back P k0 ⟨tm, n, sg⟩ ⟨tm', n, sg⟩ :=
  Back.ghost (Ghost.tm (st := ⟨tm, n, sg⟩) (tm' := tm') fun t v h' => by rw [← e] at h'; exact keepN_get h')
end Go.Pv
