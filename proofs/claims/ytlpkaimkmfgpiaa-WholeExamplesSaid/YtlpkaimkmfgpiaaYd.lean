/- YtlpkaimkmfgpiaaYd: a part of the proof (YtlpkaimkmfgpiaaTab, YtlpkaimkmfgpiaaDefs). No condition. -/
import Derived.Test.YtlpkaimkmfgpiaaYb
import Derived.Test.YtlpkaimkmfgpiaaProg
import Derived.KernelRfl
-- Written by a program of this claim; Lean checks it.
namespace Go.Proofs.Ytlpkaimkmfgpiaa.Ev
open Go.Abs
def tys : List TRow := [
  ⟨2, (.int .i64), 8, 0, []⟩,
  ⟨3, (.int .i64), 8, 0, []⟩,
  ⟨4, .bool, 1, 0, []⟩,
  ⟨5, (.int .u8), 1, 0, []⟩,
  ⟨6, (.int .u8), 1, 0, []⟩,
  ⟨7, (.st (.pair (.int .i64) (.pair (.int .i64) (.pair .bool (.pair (.int .u8) .unit))))), 24, 0, [(0, 1), (1, 1), (2, 1), (3, 1)]⟩,
  ⟨8, (.st (.pair (.int .i64) (.pair (.int .i64) (.pair .bool (.pair (.int .u8) .unit))))), 24, 0, [(0, 1), (1, 1), (2, 1), (3, 1)]⟩,
  ⟨9, .str, 16, 0, []⟩,
  ⟨10, .str, 16, 0, []⟩,
  ⟨11, .str, 16, 0, []⟩,
  ⟨12, (.int .u64), 8, 0, []⟩,
  ⟨13, (.st (.pair .str (.pair (.int .u64) .unit))), 24, 0, [(0, 1), (1, 1)]⟩,
  ⟨14, (.st (.pair .str (.pair (.int .u64) .unit))), 24, 0, [(0, 1), (1, 1)]⟩,
  ⟨21, (.int .i32), 4, 0, []⟩,
  ⟨22, .str, 16, 0, []⟩,
  ⟨23, (.slice .str), 24, 22, []⟩,
  ⟨24, (.int .i64), 8, 0, []⟩,
  ⟨54, (.slice (.st (.pair (.st (.pair .bool (.pair (.slice (.int .u32)) .unit))) (.pair .str .unit)))), 24, 62, []⟩,
  ⟨57, (.slice (.int .u32)), 24, 80, []⟩,
  ⟨58, (.st (.pair .bool (.pair (.slice (.int .u32)) .unit))), 32, 0, [(0, 1), (1, 1)]⟩,
  ⟨59, (.st (.pair .bool (.pair (.slice (.int .u32)) .unit))), 32, 0, [(0, 1), (1, 1)]⟩,
  ⟨61, (.st (.pair (.st (.pair .bool (.pair (.slice (.int .u32)) .unit))) (.pair .str .unit))), 48, 0, [(0, 2), (2, 1)]⟩,
  ⟨62, (.st (.pair (.st (.pair .bool (.pair (.slice (.int .u32)) .unit))) (.pair .str .unit))), 48, 0, [(0, 2), (2, 1)]⟩,
  ⟨68, (.slice (.int .i64)), 24, 3, []⟩,
  ⟨76, (.slice (.int .u8)), 24, 5, []⟩,
  ⟨79, (.int .u64), 8, 0, []⟩,
  ⟨80, (.int .u32), 4, 0, []⟩,
  ⟨107, (.int .u8), 1, 0, []⟩,
  ⟨108, (.int .u8), 1, 0, []⟩,
  ⟨111, (.int .i32), 4, 0, []⟩,
  ⟨112, (.int .i32), 4, 0, []⟩]
def sigs : List (Nat × Sig) := [
  (3, ⟨[.str, (.int .i64), (.slice .str)], [(.bool, none)]⟩),
  (4, ⟨[.str, .str, .str], [(.bool, none)]⟩),
  (5, ⟨[.str, (.int .u8), (.int .u8)], [(.bool, none)]⟩),
  (6, ⟨[.str, .str], [(.bool, none)]⟩),
  (7, ⟨[.str, .str, .str], [(.bool, none)]⟩),
  (8, ⟨[.str, .str, .str], [(.bool, none)]⟩),
  (9, ⟨[.str, .str, (.int .i64)], [(.bool, none)]⟩),
  (10, ⟨[], [(.bool, none)]⟩),
  (11, ⟨[.str, (.int .i64)], [(.str, none), ((.int .i64), none)]⟩),
  (12, ⟨[.str, (.int .i64)], [(.str, none), ((.int .i64), none)]⟩),
  (13, ⟨[], [(.bool, none)]⟩),
  (14, ⟨[(.slice .str)], [((.slice .str), none)]⟩),
  (15, ⟨[(.slice .str)], [(.str, none), ((.int .i64), none)]⟩),
  (16, ⟨[(.slice .str)], [(.str, none), ((.int .i64), none)]⟩),
  (17, ⟨[(.slice .str), (.slice .str)], [(.bool, none)]⟩),
  (18, ⟨[.str, (.int .i64)], [(.str, none)]⟩),
  (19, ⟨[.str, .str], [(.str, none)]⟩),
  (20, ⟨[.str, .str], [(.str, none)]⟩),
  (21, ⟨[.str, .str], [(.str, none), ((.int .i64), none)]⟩),
  (22, ⟨[.str, (.int .i64), .str], [(.bool, none)]⟩),
  (23, ⟨[.str], [(.str, none)]⟩),
  (24, ⟨[.str], [(.str, none), ((.int .i64), none)]⟩),
  (25, ⟨[.str], [(.str, none)]⟩),
  (26, ⟨[.str, .str], [((.int .i64), none)]⟩),
  (27, ⟨[.str, .str], [(.str, none), (.str, none), ((.int .i64), none)]⟩),
  (28, ⟨[.str], [((.int .i64), none)]⟩),
  (29, ⟨[.str, .str], [(.str, none), (.str, none), (.str, none), ((.int .i64), none)]⟩),
  (30, ⟨[.str, .str], [(.str, none), ((.int .i64), none)]⟩),
  (31, ⟨[.str], [((.int .i64), none), (.bool, none)]⟩),
  (32, ⟨[.str], [((.int .i64), none), (.bool, none)]⟩),
  (33, ⟨[.str], [(.bool, none)]⟩),
  (34, ⟨[.str], [(.bool, none)]⟩),
  (35, ⟨[.str], [((.int .i64), none)]⟩),
  (36, ⟨[.str, .str], [((.int .i64), none)]⟩),
  (37, ⟨[.str], [(.str, none)]⟩),
  (38, ⟨[.str], [(.str, none)]⟩),
  (39, ⟨[(.int .i64)], [(.str, none)]⟩),
  (40, ⟨[(.int .i64)], [(.str, none)]⟩),
  (41, ⟨[.str, .str], [(.str, none), ((.int .i64), none)]⟩),
  (42, ⟨[.str, .str], [(.str, none), ((.int .i64), none)]⟩),
  (43, ⟨[.str, .str], [(.str, none), ((.int .i64), none)]⟩),
  (44, ⟨[.str, .str], [(.str, none), ((.int .i64), none)]⟩),
  (45, ⟨[.str, .str], [(.str, none), ((.int .i64), none)]⟩),
  (46, ⟨[.str, .str], [(.str, none), (.str, none), ((.int .i64), none)]⟩),
  (47, ⟨[.str, .str], [(.bool, none)]⟩),
  (48, ⟨[(.int .i64)], [(.str, none)]⟩),
  (49, ⟨[(.slice .str)], [((.slice (.st (.pair (.st (.pair .bool (.pair (.slice (.int .u32)) .unit))) (.pair .str .unit)))), none), (.bool, none)]⟩),
  (50, ⟨[(.int .i64)], [((.st (.pair .bool (.pair (.slice (.int .u32)) .unit))), none)]⟩),
  (51, ⟨[(.st (.pair .bool (.pair (.slice (.int .u32)) .unit)))], [((.st (.pair .bool (.pair (.slice (.int .u32)) .unit))), none)]⟩),
  (52, ⟨[(.st (.pair .bool (.pair (.slice (.int .u32)) .unit))), (.st (.pair .bool (.pair (.slice (.int .u32)) .unit)))], [((.int .i64), none)]⟩),
  (53, ⟨[(.st (.pair .bool (.pair (.slice (.int .u32)) .unit)))], [(.str, none)]⟩),
  (54, ⟨[(.st (.pair .bool (.pair (.slice (.int .u32)) .unit))), (.st (.pair .bool (.pair (.slice (.int .u32)) .unit)))], [((.st (.pair .bool (.pair (.slice (.int .u32)) .unit))), none)]⟩),
  (55, ⟨[(.st (.pair .bool (.pair (.slice (.int .u32)) .unit)))], [(.bool, none)]⟩),
  (56, ⟨[.str, .str], [(.str, none)]⟩),
  (57, ⟨[.str], [(.bool, none)]⟩),
  (58, ⟨[(.st (.pair .bool (.pair (.slice (.int .u32)) .unit))), (.st (.pair .bool (.pair (.slice (.int .u32)) .unit)))], [((.st (.pair .bool (.pair (.slice (.int .u32)) .unit))), none)]⟩),
  (59, ⟨[(.st (.pair .bool (.pair (.slice (.int .u32)) .unit)))], [(.str, none), ((.int .i64), none)]⟩),
  (60, ⟨[.str, .str], [(.str, none)]⟩),
  (61, ⟨[.str], [(.str, none), ((.int .i64), none)]⟩),
  (62, ⟨[.bool, (.slice (.int .i64))], [(.str, none)]⟩),
  (63, ⟨[(.st (.pair .bool (.pair (.slice (.int .u32)) .unit))), (.st (.pair .bool (.pair (.slice (.int .u32)) .unit)))], [((.st (.pair .bool (.pair (.slice (.int .u32)) .unit))), none)]⟩),
  (64, ⟨[(.st (.pair .bool (.pair (.slice (.int .u32)) .unit)))], [((.st (.pair .bool (.pair (.slice (.int .u32)) .unit))), none)]⟩),
  (65, ⟨[(.st (.pair .bool (.pair (.slice (.int .u32)) .unit)))], [((.int .i64), none)]⟩),
  (66, ⟨[(.st (.pair .bool (.pair (.slice (.int .u32)) .unit))), (.st (.pair .bool (.pair (.slice (.int .u32)) .unit)))], [((.st (.pair .bool (.pair (.slice (.int .u32)) .unit))), none), ((.st (.pair .bool (.pair (.slice (.int .u32)) .unit))), none)]⟩),
  (67, ⟨[(.st (.pair .bool (.pair (.slice (.int .u32)) .unit))), (.st (.pair .bool (.pair (.slice (.int .u32)) .unit)))], [((.st (.pair .bool (.pair (.slice (.int .u32)) .unit))), none)]⟩),
  (68, ⟨[(.st (.pair .bool (.pair (.slice (.int .u32)) .unit)))], [((.int .i64), none), (.bool, none)]⟩),
  (69, ⟨[.str, .str], [((.int .i64), none)]⟩),
  (70, ⟨[.str], [(.bool, none)]⟩),
  (71, ⟨[.str], [(.str, none)]⟩),
  (72, ⟨[.str], [(.str, none)]⟩),
  (73, ⟨[.str, .str], [(.str, none)]⟩),
  (74, ⟨[.str, .str], [(.str, none), (.str, none)]⟩),
  (75, ⟨[.str, .str], [(.str, none), ((.int .i64), none)]⟩),
  (76, ⟨[.str, .str], [(.str, none), (.str, none), (.str, none), ((.int .i64), none)]⟩),
  (77, ⟨[.str], [(.str, none), ((.int .i64), none)]⟩),
  (78, ⟨[.str], [((.st (.pair .bool (.pair (.slice (.int .u32)) .unit))), none), (.bool, none)]⟩),
  (79, ⟨[(.slice (.int .u32)), (.slice (.int .u32))], [((.int .i64), none)]⟩),
  (80, ⟨[.bool, (.slice (.int .u32))], [((.st (.pair .bool (.pair (.slice (.int .u32)) .unit))), none)]⟩),
  (81, ⟨[(.st (.pair .bool (.pair (.slice (.int .u32)) .unit)))], [((.int .i64), none)]⟩),
  (82, ⟨[.str], [((.int .i64), none), (.bool, none)]⟩),
  (83, ⟨[.str], [(.bool, none), ((.slice (.int .i64)), none)]⟩),
  (84, ⟨[.str], [((.int .i64), none)]⟩),
  (85, ⟨[(.slice (.int .u32)), (.slice (.int .u32))], [((.slice (.int .u32)), none)]⟩),
  (86, ⟨[(.slice (.int .u32)), (.slice (.int .u32))], [((.slice (.int .u32)), none)]⟩),
  (87, ⟨[(.slice (.int .i64)), (.slice (.int .i64))], [((.slice (.int .i64)), none)]⟩),
  (88, ⟨[(.slice (.int .i64)), (.slice (.int .i64))], [((.int .i64), none)]⟩),
  (89, ⟨[(.slice (.int .i64)), (.slice (.int .i64))], [((.slice (.int .i64)), none)]⟩),
  (90, ⟨[(.slice (.int .i64))], [((.slice (.int .i64)), none)]⟩),
  (91, ⟨[(.slice (.int .u32)), (.slice (.int .u32))], [((.slice (.int .u32)), none), ((.slice (.int .u32)), none)]⟩),
  (92, ⟨[(.int .i64), (.int .i64)], [((.int .i64), none)]⟩),
  (93, ⟨[(.slice (.int .u32))], [((.int .i64), none)]⟩),
  (94, ⟨[(.slice (.int .u32))], [((.slice (.int .u32)), none)]⟩),
  (95, ⟨[.str, .str], [(.str, none)]⟩),
  (96, ⟨[.str, .str], [(.str, none), (.bool, none)]⟩),
  (97, ⟨[(.slice (.int .u32)), (.int .u32)], [((.slice (.int .u32)), none), ((.int .u32), none)]⟩),
  (98, ⟨[(.slice (.int .u32)), (.slice (.int .u32))], [((.slice (.int .u32)), none), ((.slice (.int .u32)), none)]⟩),
  (99, ⟨[.str, .str], [(.str, none), (.bool, none)]⟩),
  (100, ⟨[(.slice (.int .u32)), (.int .u32)], [((.slice (.int .u32)), some 80)]⟩),
  (101, ⟨[.str, .str], [(.bool, none)]⟩)]
def hints : List (Nat × List (List (Nat × Bool))) := [
  (10, [[(81, false), (82, false), (83, false)]]),
  (11, [[(6, false), (9, false), (48, false), (49, false)]]),
  (12, [[(0, false), (1, false), (6, false), (7, false)]]),
  (15, [[(6, false), (17, false), (18, false), (19, false)]]),
  (16, [[(0, false), (4, false), (5, false)]]),
  (17, [[(0, false), (1, false), (5, false)]]),
  (18, [[(0, false), (1, false), (5, false), (6, false)]]),
  (24, [[(4, false), (6, false), (7, false)], [(4, false), (6, false), (7, false)]]),
  (29, [[(10, false), (11, false), (12, false), (13, false), (14, false), (15, false)]]),
  (32, [[(0, false), (4, false), (5, false)]]),
  (40, [[(3, false), (5, false)], [(0, false), (6, false)]]),
  (48, [[(0, false), (3, false), (4, false)]]),
  (49, [[(0, false), (4, false), (12, false), (13, false), (14, false)]]),
  (50, [[(2, false), (3, false), (4, false), (5, false)]]),
  (53, [[(1, false), (3, false), (19, false), (20, false), (21, false)], [(1, false), (3, false), (5, false), (19, false), (20, false), (21, false), (25, false)], [(1, false), (3, false)], [(3, false), (6, false), (7, false)]]),
  (54, [[(2, false), (3, false), (4, false), (5, false), (20, false), (21, false), (22, false)], [(2, false), (3, false), (4, false), (5, false), (6, false), (7, false), (8, false), (20, false), (21, false), (22, false), (28, false), (29, false), (30, false)]]),
  (56, [[(9, false), (10, false), (11, false), (12, false), (13, false), (14, false)], [(9, false), (10, false), (11, false), (12, false), (13, false), (14, false), (15, false)], [(9, false), (11, false), (13, false), (16, false)]]),
  (62, [[(1, false), (5, false), (6, false)]]),
  (67, [[(4, false), (5, false), (6, false)]]),
  (68, [[(1, false), (5, false), (6, false)]]),
  (70, [[(3, false), (4, false)]]),
  (74, [[(1, false), (12, false), (13, false), (14, false), (15, false), (17, false), (18, false), (19, false)], [(1, false), (12, false), (13, false), (14, false), (15, false), (17, false), (18, false), (19, false), (20, false)], [(1, false), (12, false), (14, false), (17, false), (18, false), (21, false)]]),
  (76, [[(0, false), (1, false), (8, false), (9, false), (12, false), (13, false), (14, false), (15, false)]]),
  (77, [[(0, false), (4, false), (5, false)], [(0, false), (4, false), (5, false), (6, false)]]),
  (78, [[(2, false), (4, false), (5, false), (6, false), (7, false)], [(2, false), (4, false), (5, false), (6, false), (7, false), (8, false), (44, false), (45, false), (46, false)]]),
  (79, [[(0, false), (1, false), (5, false)]]),
  (81, [[(3, false), (4, false)]]),
  (82, [[(0, false), (4, false), (5, false)]]),
  (83, [[(0, false), (4, false), (5, false), (6, false)]]),
  (85, [[(1, false), (5, false), (6, false), (20, false), (21, false), (22, false)]]),
  (86, [[(1, false), (5, false), (6, false), (13, false), (14, false), (15, false)]]),
  (87, [[(0, false), (1, false), (5, false), (6, false), (7, false)]]),
  (88, [[(0, false), (1, false), (5, false)]]),
  (89, [[(0, false), (1, false), (5, false), (6, false), (7, false)]]),
  (90, [[(0, false)]]),
  (92, [[(0, false), (1, false)]]),
  (93, [[(0, false), (3, false), (4, false)]]),
  (94, [[(0, false)]]),
  (95, [[(5, false), (6, false)]]),
  (97, [[(0, false), (1, false), (6, false), (7, false), (8, false)]]),
  (98, [[(4, false), (6, false), (7, false), (8, false), (9, false), (10, false)], [(4, false), (6, false), (7, false), (8, false), (9, false), (10, false), (12, false), (13, false)], [(4, false), (6, false), (7, false), (8, false), (9, false), (10, false), (12, false), (14, false), (123, false), (124, false)], [(4, false), (6, false), (7, false), (8, false), (9, false), (10, false), (12, false), (17, false), (18, false), (188, false), (189, false)]]),
  (100, [[(1, false), (5, false), (6, false), (13, false), (14, false), (15, false)]])]
noncomputable def fns : List (Nat × Func) := [
  (3, Try.f3), (4, Try.f4), (5, Try.f5), (6, Try.f6), (7, Try.f7), (8, Try.f8), (9, Try.f9), (10, Try.f10), (11, Try.f11), (12, Try.f12), (13, Try.f13), (14, Try.f14), (15, Try.f15), (16, Try.f16), (17, Try.f17), (18, Try.f18), (19, Try.f19), (20, Try.f20), (21, Try.f21), (22, Try.f22), (23, Try.f23), (24, Try.f24), (25, Try.f25), (26, Try.f26), (27, Try.f27), (28, Try.f28), (29, Try.f29), (30, Try.f30), (31, Try.f31), (32, Try.f32), (33, Try.f33), (34, Try.f34), (35, Try.f35), (36, Try.f36), (37, Try.f37), (38, Try.f38), (39, Try.f39), (40, Try.f40), (41, Try.f41), (42, Try.f42), (43, Try.f43), (44, Try.f44), (45, Try.f45), (46, Try.f46), (47, Try.f47), (48, Try.f48), (49, Try.f49), (50, Try.f50), (51, Try.f51), (52, Try.f52), (53, Try.f53), (54, Try.f54), (55, Try.f55), (56, Try.f56), (57, Try.f57), (58, Try.f58), (59, Try.f59), (60, Try.f60), (61, Try.f61), (62, Try.f62), (63, Try.f63), (64, Try.f64), (65, Try.f65), (66, Try.f66), (67, Try.f67), (68, Try.f68), (69, Try.f69), (70, Try.f70), (71, Try.f71), (72, Try.f72), (73, Try.f73), (74, Try.f74), (75, Try.f75), (76, Try.f76), (77, Try.f77), (78, Try.f78), (79, Try.f79), (80, Try.f80), (81, Try.f81), (82, Try.f82), (83, Try.f83), (84, Try.f84), (85, Try.f85), (86, Try.f86), (87, Try.f87), (88, Try.f88), (89, Try.f89), (90, Try.f90), (91, Try.f91), (92, Try.f92), (93, Try.f93), (94, Try.f94), (95, Try.f95), (96, Try.f96), (97, Try.f97), (98, Try.f98), (99, Try.f99), (100, Try.f100), (101, Try.f101)]
def T : Tab := ⟨tys, fun f => (Go.Abs.look sigs f).getD ⟨[], []⟩, fun f => (Go.Abs.look hints f).getD []⟩
theorem tys_ok : TabOk Try.prog T.rows := tab_ok (by kernel_rfl)
theorem mixed : Try.prog.follows .mixedOrders = true := by kernel_rfl
theorem fns_ok : FnsOk Try.prog fns :=
  ⟨⟨Try.func3, by kernel_rfl⟩, ⟨⟨Try.func4, by kernel_rfl⟩, ⟨⟨Try.func5, by kernel_rfl⟩, ⟨⟨Try.func6, by kernel_rfl⟩, ⟨⟨Try.func7, by kernel_rfl⟩, ⟨⟨Try.func8, by kernel_rfl⟩, ⟨⟨Try.func9, by kernel_rfl⟩, ⟨⟨Try.func10, by kernel_rfl⟩, ⟨⟨Try.func11, by kernel_rfl⟩, ⟨⟨Try.func12, by kernel_rfl⟩, ⟨⟨Try.func13, by kernel_rfl⟩, ⟨⟨Try.func14, by kernel_rfl⟩, ⟨⟨Try.func15, by kernel_rfl⟩, ⟨⟨Try.func16, by kernel_rfl⟩, ⟨⟨Try.func17, by kernel_rfl⟩, ⟨⟨Try.func18, by kernel_rfl⟩, ⟨⟨Try.func19, by kernel_rfl⟩, ⟨⟨Try.func20, by kernel_rfl⟩, ⟨⟨Try.func21, by kernel_rfl⟩, ⟨⟨Try.func22, by kernel_rfl⟩, ⟨⟨Try.func23, by kernel_rfl⟩, ⟨⟨Try.func24, by kernel_rfl⟩, ⟨⟨Try.func25, by kernel_rfl⟩, ⟨⟨Try.func26, by kernel_rfl⟩, ⟨⟨Try.func27, by kernel_rfl⟩, ⟨⟨Try.func28, by kernel_rfl⟩, ⟨⟨Try.func29, by kernel_rfl⟩, ⟨⟨Try.func30, by kernel_rfl⟩, ⟨⟨Try.func31, by kernel_rfl⟩, ⟨⟨Try.func32, by kernel_rfl⟩, ⟨⟨Try.func33, by kernel_rfl⟩, ⟨⟨Try.func34, by kernel_rfl⟩, ⟨⟨Try.func35, by kernel_rfl⟩, ⟨⟨Try.func36, by kernel_rfl⟩, ⟨⟨Try.func37, by kernel_rfl⟩, ⟨⟨Try.func38, by kernel_rfl⟩, ⟨⟨Try.func39, by kernel_rfl⟩, ⟨⟨Try.func40, by kernel_rfl⟩, ⟨⟨Try.func41, by kernel_rfl⟩, ⟨⟨Try.func42, by kernel_rfl⟩, ⟨⟨Try.func43, by kernel_rfl⟩, ⟨⟨Try.func44, by kernel_rfl⟩, ⟨⟨Try.func45, by kernel_rfl⟩, ⟨⟨Try.func46, by kernel_rfl⟩, ⟨⟨Try.func47, by kernel_rfl⟩, ⟨⟨Try.func48, by kernel_rfl⟩, ⟨⟨Try.func49, by kernel_rfl⟩, ⟨⟨Try.func50, by kernel_rfl⟩, ⟨⟨Try.func51, by kernel_rfl⟩, ⟨⟨Try.func52, by kernel_rfl⟩, ⟨⟨Try.func53, by kernel_rfl⟩, ⟨⟨Try.func54, by kernel_rfl⟩, ⟨⟨Try.func55, by kernel_rfl⟩, ⟨⟨Try.func56, by kernel_rfl⟩, ⟨⟨Try.func57, by kernel_rfl⟩, ⟨⟨Try.func58, by kernel_rfl⟩, ⟨⟨Try.func59, by kernel_rfl⟩, ⟨⟨Try.func60, by kernel_rfl⟩, ⟨⟨Try.func61, by kernel_rfl⟩, ⟨⟨Try.func62, by kernel_rfl⟩, ⟨⟨Try.func63, by kernel_rfl⟩, ⟨⟨Try.func64, by kernel_rfl⟩, ⟨⟨Try.func65, by kernel_rfl⟩, ⟨⟨Try.func66, by kernel_rfl⟩, ⟨⟨Try.func67, by kernel_rfl⟩, ⟨⟨Try.func68, by kernel_rfl⟩, ⟨⟨Try.func69, by kernel_rfl⟩, ⟨⟨Try.func70, by kernel_rfl⟩, ⟨⟨Try.func71, by kernel_rfl⟩, ⟨⟨Try.func72, by kernel_rfl⟩, ⟨⟨Try.func73, by kernel_rfl⟩, ⟨⟨Try.func74, by kernel_rfl⟩, ⟨⟨Try.func75, by kernel_rfl⟩, ⟨⟨Try.func76, by kernel_rfl⟩, ⟨⟨Try.func77, by kernel_rfl⟩, ⟨⟨Try.func78, by kernel_rfl⟩, ⟨⟨Try.func79, by kernel_rfl⟩, ⟨⟨Try.func80, by kernel_rfl⟩, ⟨⟨Try.func81, by kernel_rfl⟩, ⟨⟨Try.func82, by kernel_rfl⟩, ⟨⟨Try.func83, by kernel_rfl⟩, ⟨⟨Try.func84, by kernel_rfl⟩, ⟨⟨Try.func85, by kernel_rfl⟩, ⟨⟨Try.func86, by kernel_rfl⟩, ⟨⟨Try.func87, by kernel_rfl⟩, ⟨⟨Try.func88, by kernel_rfl⟩, ⟨⟨Try.func89, by kernel_rfl⟩, ⟨⟨Try.func90, by kernel_rfl⟩, ⟨⟨Try.func91, by kernel_rfl⟩, ⟨⟨Try.func92, by kernel_rfl⟩, ⟨⟨Try.func93, by kernel_rfl⟩, ⟨⟨Try.func94, by kernel_rfl⟩, ⟨⟨Try.func95, by kernel_rfl⟩, ⟨⟨Try.func96, by kernel_rfl⟩, ⟨⟨Try.func97, by kernel_rfl⟩, ⟨⟨Try.func98, by kernel_rfl⟩, ⟨⟨Try.func99, by kernel_rfl⟩, ⟨⟨Try.func100, by kernel_rfl⟩, ⟨⟨Try.func101, by kernel_rfl⟩, trivial⟩⟩⟩⟩⟩⟩⟩⟩⟩⟩⟩⟩⟩⟩⟩⟩⟩⟩⟩⟩⟩⟩⟩⟩⟩⟩⟩⟩⟩⟩⟩⟩⟩⟩⟩⟩⟩⟩⟩⟩⟩⟩⟩⟩⟩⟩⟩⟩⟩⟩⟩⟩⟩⟩⟩⟩⟩⟩⟩⟩⟩⟩⟩⟩⟩⟩⟩⟩⟩⟩⟩⟩⟩⟩⟩⟩⟩⟩⟩⟩⟩⟩⟩⟩⟩⟩⟩⟩⟩⟩⟩⟩⟩⟩⟩⟩⟩⟩⟩
theorem ev_ok : FnOk Try.prog T (evI T (Go.Abs.look fns)) := fnI_sound tys_ok mixed (fnsOk_look fns_ok)
end Go.Proofs.Ytlpkaimkmfgpiaa.Ev
-- Written by a program of this claim; Lean checks it.
set_option linter.unusedVariables false
set_option maxRecDepth 100000
namespace Go.Proofs.Ytlpkaimkmfgpiaa.Ev
open Go.Abs
noncomputable def toruslaw02_WholePowersMatch (a : ByteArray) (n : Int) (l : List ByteArray) : Option (Bool) := evI T (Go.Abs.look fns) 3 (a, n, l)
noncomputable def toruslaw02_WholeRing (a : ByteArray) (b : ByteArray) (c : ByteArray) : Option (Bool) := evI T (Go.Abs.look fns) 4 (a, b, c)
noncomputable def toruslaw02_WholePowers (a : ByteArray) (m : Int) (n : Int) : Option (Bool) := evI T (Go.Abs.look fns) 5 (a, m, n)
noncomputable def toruslaw02_WholeDivision (a : ByteArray) (b : ByteArray) : Option (Bool) := evI T (Go.Abs.look fns) 6 (a, b)
noncomputable def toruslaw02_WholeOrder (a : ByteArray) (b : ByteArray) (c : ByteArray) : Option (Bool) := evI T (Go.Abs.look fns) 7 (a, b, c)
noncomputable def toruslaw02_WholeDivisors (a : ByteArray) (b : ByteArray) (c : ByteArray) : Option (Bool) := evI T (Go.Abs.look fns) 8 (a, b, c)
noncomputable def toruslaw02_WholeMatches (a : ByteArray) (b : ByteArray) (n : Int) : Option (Bool) := evI T (Go.Abs.look fns) 9 (a, b, n)
noncomputable def toruslaw02_WholeExamples : Option (Bool) := evI T (Go.Abs.look fns) 10 ()
noncomputable def toruslaw02_WholeExamples_L0 (t : Int) (t2 : Int) (t3 : List ByteArray) : Option (Bool) :=
  LL T (Go.Abs.look fns) 10 0 ⟨⟨462, [(83, .rv (.cv ⟨.int .i64, t2⟩)), (82, .rv (.cv ⟨.int .i64, t⟩)), (81, .rv (.own 81))]⟩, [(81, ⟨22, .str, t3⟩)], []⟩
noncomputable def whole_Pow (a : ByteArray) (n : Int) : Option (ByteArray × Int) := evI T (Go.Abs.look fns) 11 (a, n)
noncomputable def whole_Pow_L0 (l : List ((Bool × (List Int) × Unit) × ByteArray × Unit)) (t : Int) (t2 : Int) (out : Bool) (out2 : List Int) : Option (ByteArray × Int) :=
  LL T (Go.Abs.look fns) 11 0 ⟨⟨62, [(49, .rv (.cv ⟨.int .i64, t2⟩)), (48, .rv (.cv ⟨.int .i64, t⟩)), (9, .box 9 0), (6, .rv (.cv ⟨.slice (.st (.pair (.st (.pair (.bool) (.pair (.slice (.int .u32)) (.unit)))) (.pair (.str) (.unit)))), l⟩))]⟩, [], [(9, [⟨.bool, out⟩, ⟨.slice (.int .u32), out2⟩])]⟩
noncomputable def torusref02_Pow (a : ByteArray) (n : Int) : Option (ByteArray × Int) := evI T (Go.Abs.look fns) 12 (a, n)
noncomputable def torusref02_Pow_L0 (a : ByteArray) (n : Int) (out : ByteArray) (i : Int) : Option (ByteArray × Int) :=
  LL T (Go.Abs.look fns) 12 0 ⟨⟨46, [(7, .rv (.cv ⟨.int .i64, i⟩)), (6, .rv (.cv ⟨.str, out⟩)), (1, .rv (.cv ⟨.int .i64, n⟩)), (0, .rv (.cv ⟨.str, a⟩))]⟩, [], []⟩
noncomputable def toruslaw02_awake : Option (Bool) := evI T (Go.Abs.look fns) 13 ()
noncomputable def torusref02_Copy (l : List ByteArray) : Option (List ByteArray) := evI T (Go.Abs.look fns) 14 l
noncomputable def whole_Sum (l : List ByteArray) : Option (ByteArray × Int) := evI T (Go.Abs.look fns) 15 l
noncomputable def whole_Sum_L0 (t : List ((Bool × (List Int) × Unit) × ByteArray × Unit)) (t2 : Int) (t3 : Int) (sum : Bool) (sum2 : List Int) : Option (ByteArray × Int) :=
  LL T (Go.Abs.look fns) 15 0 ⟨⟨32, [(19, .rv (.cv ⟨.int .i64, t3⟩)), (18, .rv (.cv ⟨.int .i64, t2⟩)), (17, .rv (.cv ⟨.slice (.st (.pair (.st (.pair (.bool) (.pair (.slice (.int .u32)) (.unit)))) (.pair (.str) (.unit)))), t⟩)), (6, .box 6 0)]⟩, [], [(6, [⟨.bool, sum⟩, ⟨.slice (.int .u32), sum2⟩])]⟩
noncomputable def torusref02_Sum (l : List ByteArray) : Option (ByteArray × Int) := evI T (Go.Abs.look fns) 16 l
noncomputable def torusref02_Sum_L0 (l : List ByteArray) (out : ByteArray) (i : Int) : Option (ByteArray × Int) :=
  LL T (Go.Abs.look fns) 16 0 ⟨⟨28, [(5, .rv (.cv ⟨.int .i64, i⟩)), (4, .rv (.cv ⟨.str, out⟩)), (0, .rv (.cv ⟨.slice (.str), l⟩))]⟩, [], []⟩
noncomputable def torusref02_Same (a : List ByteArray) (b : List ByteArray) : Option (Bool) := evI T (Go.Abs.look fns) 17 (a, b)
noncomputable def torusref02_Same_L0 (a : List ByteArray) (b : List ByteArray) (i : Int) : Option (Bool) :=
  LL T (Go.Abs.look fns) 17 0 ⟨⟨26, [(5, .rv (.cv ⟨.int .i64, i⟩)), (1, .rv (.cv ⟨.slice (.str), b⟩)), (0, .rv (.cv ⟨.slice (.str), a⟩))]⟩, [], []⟩
noncomputable def torusref02_Fit (s : ByteArray) (most : Int) : Option (ByteArray) := evI T (Go.Abs.look fns) 18 (s, most)
noncomputable def torusref02_Fit_L0 (s : ByteArray) (most : Int) (i : Int) (d : List Int) : Option (ByteArray) :=
  LL T (Go.Abs.look fns) 18 0 ⟨⟨47, [(6, .rv (.cv ⟨.int .i64, i⟩)), (5, .rv (.own 5)), (1, .rv (.cv ⟨.int .i64, most⟩)), (0, .rv (.cv ⟨.str, s⟩))]⟩, [(5, ⟨3, .int .i64, d⟩)], []⟩
noncomputable def toruslaw02_sum (a : ByteArray) (b : ByteArray) : Option (ByteArray) := evI T (Go.Abs.look fns) 19 (a, b)
noncomputable def toruslaw02_product (a : ByteArray) (b : ByteArray) : Option (ByteArray) := evI T (Go.Abs.look fns) 20 (a, b)
noncomputable def whole_Sub (a : ByteArray) (b : ByteArray) : Option (ByteArray × Int) := evI T (Go.Abs.look fns) 21 (a, b)
noncomputable def toruslaw02_is (x : ByteArray) (e : Int) (want : ByteArray) : Option (Bool) := evI T (Go.Abs.look fns) 22 (x, e, want)
noncomputable def whole_Neg (a : ByteArray) : Option (ByteArray) := evI T (Go.Abs.look fns) 23 a
noncomputable def whole_Root (a : ByteArray) : Option (ByteArray × Int) := evI T (Go.Abs.look fns) 24 a
noncomputable def whole_Root_L0 (l : List ((Bool × (List Int) × Unit) × ByteArray × Unit)) (x : Bool) (x2 : List Int) (two : Bool) (two2 : List Int) : Option (ByteArray × Int) :=
  LL T (Go.Abs.look fns) 24 0 ⟨⟨68, [(7, .box 7 0), (6, .box 6 0), (4, .rv (.cv ⟨.slice (.st (.pair (.st (.pair (.bool) (.pair (.slice (.int .u32)) (.unit)))) (.pair (.str) (.unit)))), l⟩))]⟩, [], [(6, [⟨.bool, x⟩, ⟨.slice (.int .u32), x2⟩]), (7, [⟨.bool, two⟩, ⟨.slice (.int .u32), two2⟩])]⟩
noncomputable def whole_Root_L1 (l : List ((Bool × (List Int) × Unit) × ByteArray × Unit)) (x : Bool) (x2 : List Int) (two : Bool) (two2 : List Int) : Option (ByteArray × Int) :=
  LL T (Go.Abs.look fns) 24 1 ⟨⟨68, [(7, .box 7 0), (6, .box 6 0), (4, .rv (.cv ⟨.slice (.st (.pair (.st (.pair (.bool) (.pair (.slice (.int .u32)) (.unit)))) (.pair (.str) (.unit)))), l⟩))]⟩, [], [(6, [⟨.bool, x⟩, ⟨.slice (.int .u32), x2⟩]), (7, [⟨.bool, two⟩, ⟨.slice (.int .u32), two2⟩])]⟩
noncomputable def whole_Abs (a : ByteArray) : Option (ByteArray) := evI T (Go.Abs.look fns) 25 a
noncomputable def whole_Cmp (a : ByteArray) (b : ByteArray) : Option (Int) := evI T (Go.Abs.look fns) 26 (a, b)
noncomputable def whole_DivMod (a : ByteArray) (b : ByteArray) : Option (ByteArray × ByteArray × Int) := evI T (Go.Abs.look fns) 27 (a, b)
noncomputable def whole_Sign (a : ByteArray) : Option (Int) := evI T (Go.Abs.look fns) 28 a
noncomputable def whole_Bezout (a : ByteArray) (b : ByteArray) : Option (ByteArray × ByteArray × ByteArray × Int) := evI T (Go.Abs.look fns) 29 (a, b)
noncomputable def whole_Bezout_L0 (first : Bool) (first2 : List Int) (second : Bool) (second2 : List Int) (r : Bool) (r2 : List Int) (s : Bool) (s2 : List Int) (k : Bool) (k2 : List Int) (m : Bool) (m2 : List Int) : Option (ByteArray × ByteArray × ByteArray × Int) :=
  LL T (Go.Abs.look fns) 29 0 ⟨⟨105, [(15, .box 15 0), (14, .box 14 0), (13, .box 13 0), (12, .box 12 0), (11, .box 11 0), (10, .box 10 0)]⟩, [], [(10, [⟨.bool, first⟩, ⟨.slice (.int .u32), first2⟩]), (11, [⟨.bool, second⟩, ⟨.slice (.int .u32), second2⟩]), (12, [⟨.bool, r⟩, ⟨.slice (.int .u32), r2⟩]), (13, [⟨.bool, s⟩, ⟨.slice (.int .u32), s2⟩]), (14, [⟨.bool, k⟩, ⟨.slice (.int .u32), k2⟩]), (15, [⟨.bool, m⟩, ⟨.slice (.int .u32), m2⟩])]⟩
noncomputable def whole_Gcd (a : ByteArray) (b : ByteArray) : Option (ByteArray × Int) := evI T (Go.Abs.look fns) 30 (a, b)
noncomputable def whole_Int64 (a : ByteArray) : Option (Int × Bool) := evI T (Go.Abs.look fns) 31 a
noncomputable def torusref02_Int64 (a : ByteArray) : Option (Int × Bool) := evI T (Go.Abs.look fns) 32 a
noncomputable def torusref02_Int64_L0 (a : ByteArray) (n : Int) (i : Int) : Option (Int × Bool) :=
  LL T (Go.Abs.look fns) 32 0 ⟨⟨45, [(5, .rv (.cv ⟨.int .i64, i⟩)), (4, .rv (.cv ⟨.int .i64, n⟩)), (0, .rv (.cv ⟨.str, a⟩))]⟩, [], []⟩
noncomputable def whole_Valid (a : ByteArray) : Option (Bool) := evI T (Go.Abs.look fns) 33 a
noncomputable def torusref02_Is (a : ByteArray) : Option (Bool) := evI T (Go.Abs.look fns) 34 a
noncomputable def torusref02_Sign (a : ByteArray) : Option (Int) := evI T (Go.Abs.look fns) 35 a
noncomputable def torusref02_Cmp (a : ByteArray) (b : ByteArray) : Option (Int) := evI T (Go.Abs.look fns) 36 (a, b)
noncomputable def torusref02_Neg (a : ByteArray) : Option (ByteArray) := evI T (Go.Abs.look fns) 37 a
noncomputable def torusref02_Abs (a : ByteArray) : Option (ByteArray) := evI T (Go.Abs.look fns) 38 a
noncomputable def whole_Of (n : Int) : Option (ByteArray) := evI T (Go.Abs.look fns) 39 n
noncomputable def torusref02_Number (n : Int) : Option (ByteArray) := evI T (Go.Abs.look fns) 40 n
noncomputable def torusref02_Number_L0 (q : Int) (d : List Int) : Option (ByteArray) :=
  LL T (Go.Abs.look fns) 40 0 ⟨⟨42, [(5, .rv (.own 5)), (3, .rv (.cv ⟨.int .i64, q⟩))]⟩, [(5, ⟨3, .int .i64, d⟩)], []⟩
noncomputable def torusref02_Number_L1 (n : Int) (d : List Int) : Option (ByteArray) :=
  LL T (Go.Abs.look fns) 40 1 ⟨⟨42, [(6, .rv (.own 6)), (0, .rv (.cv ⟨.int .i64, n⟩))]⟩, [(6, ⟨3, .int .i64, d⟩)], []⟩
noncomputable def whole_Add (a : ByteArray) (b : ByteArray) : Option (ByteArray × Int) := evI T (Go.Abs.look fns) 41 (a, b)
noncomputable def torusref02_Add (a : ByteArray) (b : ByteArray) : Option (ByteArray × Int) := evI T (Go.Abs.look fns) 42 (a, b)
noncomputable def torusref02_Sub (a : ByteArray) (b : ByteArray) : Option (ByteArray × Int) := evI T (Go.Abs.look fns) 43 (a, b)
noncomputable def whole_Mul (a : ByteArray) (b : ByteArray) : Option (ByteArray × Int) := evI T (Go.Abs.look fns) 44 (a, b)
noncomputable def torusref02_Mul (a : ByteArray) (b : ByteArray) : Option (ByteArray × Int) := evI T (Go.Abs.look fns) 45 (a, b)
noncomputable def torusref02_DivMod (a : ByteArray) (b : ByteArray) : Option (ByteArray × ByteArray × Int) := evI T (Go.Abs.look fns) 46 (a, b)
noncomputable def toruslaw02_divisors (a : ByteArray) (b : ByteArray) : Option (Bool) := evI T (Go.Abs.look fns) 47 (a, b)
noncomputable def toruslaw02_nines (n : Int) : Option (ByteArray) := evI T (Go.Abs.look fns) 48 n
noncomputable def toruslaw02_nines_L0 (n : Int) (i : Int) (b : List Int) : Option (ByteArray) :=
  LL T (Go.Abs.look fns) 48 0 ⟨⟨15, [(4, .rv (.cv ⟨.int .i64, i⟩)), (3, .rv (.own 3)), (0, .rv (.cv ⟨.int .i64, n⟩))]⟩, [(3, ⟨5, .int .u8, b⟩)], []⟩
noncomputable def whole_read (l : List ByteArray) : Option ((List ((Bool × (List Int) × Unit) × ByteArray × Unit)) × Bool) := evI T (Go.Abs.look fns) 49 l
noncomputable def whole_read_L0 (l : List ByteArray) (t : List ByteArray) (t2 : Int) (t3 : Int) (out : List ((Bool × (List Int) × Unit) × ByteArray × Unit)) : Option ((List ((Bool × (List Int) × Unit) × ByteArray × Unit)) × Bool) :=
  LL T (Go.Abs.look fns) 49 0 ⟨⟨42, [(14, .rv (.cv ⟨.int .i64, t3⟩)), (13, .rv (.cv ⟨.int .i64, t2⟩)), (12, .rv (.cv ⟨.slice (.str), t⟩)), (4, .rv (.own 4)), (0, .rv (.cv ⟨.slice (.str), l⟩))]⟩, [(4, ⟨62, .st (.pair (.st (.pair (.bool) (.pair (.slice (.int .u32)) (.unit)))) (.pair (.str) (.unit))), out⟩)], []⟩
noncomputable def num_Of (n : Int) : Option (Bool × (List Int) × Unit) := evI T (Go.Abs.look fns) 50 n
noncomputable def num_Of_L0 (u : Int) (neg : Bool) (d : List Int) (t : Bool) (t2 : List Int) : Option (Bool × (List Int) × Unit) :=
  LL T (Go.Abs.look fns) 50 0 ⟨⟨26, [(5, .rv (.own 5)), (4, .rv (.cv ⟨.bool, neg⟩)), (3, .rv (.cv ⟨.int .u64, u⟩)), (2, .box 2 0)]⟩, [(5, ⟨80, .int .u32, d⟩)], [(2, [⟨.bool, t⟩, ⟨.slice (.int .u32), t2⟩])]⟩
noncomputable def num_Whole_Abs (a : Bool × (List Int) × Unit) : Option (Bool × (List Int) × Unit) := evI T (Go.Abs.look fns) 51 a
noncomputable def num_Whole_Cmp (a : Bool × (List Int) × Unit) (b : Bool × (List Int) × Unit) : Option (Int) := evI T (Go.Abs.look fns) 52 (a, b)
noncomputable def num_Whole_Text (a : Bool × (List Int) × Unit) : Option (ByteArray) := evI T (Go.Abs.look fns) 53 a
noncomputable def num_Whole_Text_L0 (t : List Int) (t2 : Int) (t3 : Int) (out : List Int) (a : Bool) (a2 : List Int) : Option (ByteArray) :=
  LL T (Go.Abs.look fns) 53 0 ⟨⟨81, [(21, .rv (.cv ⟨.int .i64, t3⟩)), (20, .rv (.cv ⟨.int .i64, t2⟩)), (19, .rv (.cv ⟨.slice (.int .u32), t⟩)), (3, .rv (.own 3)), (1, .box 1 0)]⟩, [(3, ⟨5, .int .u8, out⟩)], [(1, [⟨.bool, a⟩, ⟨.slice (.int .u32), a2⟩])]⟩
noncomputable def num_Whole_Text_L1 (x : Int) (t : List Int) (t2 : Int) (t3 : Int) (t4 : Int) (out : List Int) (a : Bool) (a2 : List Int) : Option (ByteArray) :=
  LL T (Go.Abs.look fns) 53 1 ⟨⟨81, [(25, .rv (.cv ⟨.int .i64, t4⟩)), (21, .rv (.cv ⟨.int .i64, t3⟩)), (20, .rv (.cv ⟨.int .i64, t2⟩)), (19, .rv (.cv ⟨.slice (.int .u32), t⟩)), (5, .rv (.cv ⟨.int .u32, x⟩)), (3, .rv (.own 3)), (1, .box 1 0)]⟩, [(3, ⟨5, .int .u8, out⟩)], [(1, [⟨.bool, a⟩, ⟨.slice (.int .u32), a2⟩])]⟩
noncomputable def num_Whole_Text_L2 (out : List Int) (a : Bool) (a2 : List Int) : Option (ByteArray) :=
  LL T (Go.Abs.look fns) 53 2 ⟨⟨81, [(3, .rv (.own 3)), (1, .box 1 0)]⟩, [(3, ⟨5, .int .u8, out⟩)], [(1, [⟨.bool, a⟩, ⟨.slice (.int .u32), a2⟩])]⟩
noncomputable def num_Whole_Text_L3 (i : Int) (j : Int) (out : List Int) : Option (ByteArray) :=
  LL T (Go.Abs.look fns) 53 3 ⟨⟨81, [(7, .rv (.cv ⟨.int .i64, j⟩)), (6, .rv (.cv ⟨.int .i64, i⟩)), (3, .rv (.own 3))]⟩, [(3, ⟨5, .int .u8, out⟩)], []⟩
noncomputable def num_Whole_Mul (a : Bool × (List Int) × Unit) (b : Bool × (List Int) × Unit) : Option (Bool × (List Int) × Unit) := evI T (Go.Abs.look fns) 54 (a, b)
noncomputable def num_Whole_Mul_L0 (t : List Int) (t2 : Int) (t3 : Int) (out : List Int) (a : Bool) (a2 : List Int) (b : Bool) (b2 : List Int) (t4 : Bool) (t5 : List Int) : Option (Bool × (List Int) × Unit) :=
  LL T (Go.Abs.look fns) 54 0 ⟨⟨78, [(22, .rv (.cv ⟨.int .i64, t3⟩)), (21, .rv (.cv ⟨.int .i64, t2⟩)), (20, .rv (.cv ⟨.slice (.int .u32), t⟩)), (5, .rv (.own 5)), (4, .box 4 0), (3, .box 3 0), (2, .box 2 0)]⟩, [(5, ⟨80, .int .u32, out⟩)], [(2, [⟨.bool, a⟩, ⟨.slice (.int .u32), a2⟩]), (3, [⟨.bool, b⟩, ⟨.slice (.int .u32), b2⟩]), (4, [⟨.bool, t4⟩, ⟨.slice (.int .u32), t5⟩])]⟩
noncomputable def num_Whole_Mul_L1 (i : Int) (x : Int) (carry : Int) (t : List Int) (t2 : Int) (t3 : Int) (t4 : List Int) (t5 : Int) (t6 : Int) (out : List Int) (a : Bool) (a2 : List Int) (b : Bool) (b2 : List Int) (t7 : Bool) (t8 : List Int) : Option (Bool × (List Int) × Unit) :=
  LL T (Go.Abs.look fns) 54 1 ⟨⟨78, [(30, .rv (.cv ⟨.int .i64, t6⟩)), (29, .rv (.cv ⟨.int .i64, t5⟩)), (28, .rv (.cv ⟨.slice (.int .u32), t4⟩)), (22, .rv (.cv ⟨.int .i64, t3⟩)), (21, .rv (.cv ⟨.int .i64, t2⟩)), (20, .rv (.cv ⟨.slice (.int .u32), t⟩)), (8, .rv (.cv ⟨.int .u64, carry⟩)), (7, .rv (.cv ⟨.int .u32, x⟩)), (6, .rv (.cv ⟨.int .i64, i⟩)), (5, .rv (.own 5)), (4, .box 4 0), (3, .box 3 0), (2, .box 2 0)]⟩, [(5, ⟨80, .int .u32, out⟩)], [(2, [⟨.bool, a⟩, ⟨.slice (.int .u32), a2⟩]), (3, [⟨.bool, b⟩, ⟨.slice (.int .u32), b2⟩]), (4, [⟨.bool, t7⟩, ⟨.slice (.int .u32), t8⟩])]⟩
noncomputable def num_Whole_Long (a : Bool × (List Int) × Unit) : Option (Bool) := evI T (Go.Abs.look fns) 55 a
noncomputable def torusref02_Times (a : ByteArray) (b : ByteArray) : Option (ByteArray) := evI T (Go.Abs.look fns) 56 (a, b)
noncomputable def torusref02_Times_L0 (p : Bool) (x : List Int) (q : Bool) (y : List Int) (i : Int) (out : List Int) : Option (ByteArray) :=
  LL T (Go.Abs.look fns) 56 0 ⟨⟨120, [(14, .rv (.cv ⟨.int .i64, i⟩)), (13, .rv (.own 13)), (12, .rv (.cv ⟨.slice (.int .i64), y⟩)), (11, .rv (.cv ⟨.bool, q⟩)), (10, .rv (.cv ⟨.slice (.int .i64), x⟩)), (9, .rv (.cv ⟨.bool, p⟩))]⟩, [(13, ⟨3, .int .i64, out⟩)], []⟩
noncomputable def torusref02_Times_L1 (p : Bool) (x : List Int) (q : Bool) (y : List Int) (i : Int) (k : Int) (out : List Int) : Option (ByteArray) :=
  LL T (Go.Abs.look fns) 56 1 ⟨⟨120, [(15, .rv (.cv ⟨.int .i64, k⟩)), (14, .rv (.cv ⟨.int .i64, i⟩)), (13, .rv (.own 13)), (12, .rv (.cv ⟨.slice (.int .i64), y⟩)), (11, .rv (.cv ⟨.bool, q⟩)), (10, .rv (.cv ⟨.slice (.int .i64), x⟩)), (9, .rv (.cv ⟨.bool, p⟩))]⟩, [(13, ⟨3, .int .i64, out⟩)], []⟩
noncomputable def torusref02_Times_L2 (p : Bool) (q : Bool) (i : Int) (out : List Int) : Option (ByteArray) :=
  LL T (Go.Abs.look fns) 56 2 ⟨⟨120, [(16, .rv (.cv ⟨.int .i64, i⟩)), (13, .rv (.own 13)), (11, .rv (.cv ⟨.bool, q⟩)), (9, .rv (.cv ⟨.bool, p⟩))]⟩, [(13, ⟨3, .int .i64, out⟩)], []⟩
noncomputable def torusref02_Long (a : ByteArray) : Option (Bool) := evI T (Go.Abs.look fns) 57 a
noncomputable def num_Whole_Add (a : Bool × (List Int) × Unit) (b : Bool × (List Int) × Unit) : Option (Bool × (List Int) × Unit) := evI T (Go.Abs.look fns) 58 (a, b)
noncomputable def whole_result (w : Bool × (List Int) × Unit) : Option (ByteArray × Int) := evI T (Go.Abs.look fns) 59 w
noncomputable def torusref02_Plus (a : ByteArray) (b : ByteArray) : Option (ByteArray) := evI T (Go.Abs.look fns) 60 (a, b)
noncomputable def torusref02_limited (a : ByteArray) : Option (ByteArray × Int) := evI T (Go.Abs.look fns) 61 a
noncomputable def torusref02_text (minus : Bool) (d : List Int) : Option (ByteArray) := evI T (Go.Abs.look fns) 62 (minus, d)
noncomputable def torusref02_text_L0 (d : List Int) (i : Int) (out : List Int) : Option (ByteArray) :=
  LL T (Go.Abs.look fns) 62 0 ⟨⟨34, [(6, .rv (.cv ⟨.int .i64, i⟩)), (5, .rv (.own 5)), (1, .rv (.cv ⟨.slice (.int .i64), d⟩))]⟩, [(5, ⟨5, .int .u8, out⟩)], []⟩
noncomputable def num_Whole_Sub (a : Bool × (List Int) × Unit) (b : Bool × (List Int) × Unit) : Option (Bool × (List Int) × Unit) := evI T (Go.Abs.look fns) 63 (a, b)
noncomputable def num_Whole_Neg (a : Bool × (List Int) × Unit) : Option (Bool × (List Int) × Unit) := evI T (Go.Abs.look fns) 64 a
noncomputable def num_Whole_Sign (a : Bool × (List Int) × Unit) : Option (Int) := evI T (Go.Abs.look fns) 65 a
noncomputable def num_Whole_DivMod (a : Bool × (List Int) × Unit) (b : Bool × (List Int) × Unit) : Option ((Bool × (List Int) × Unit) × Bool × (List Int) × Unit) := evI T (Go.Abs.look fns) 66 (a, b)
noncomputable def num_Whole_Gcd (a : Bool × (List Int) × Unit) (b : Bool × (List Int) × Unit) : Option (Bool × (List Int) × Unit) := evI T (Go.Abs.look fns) 67 (a, b)
noncomputable def num_Whole_Gcd_L0 (x : List Int) (y : List Int) (t : Bool) (t2 : List Int) : Option (Bool × (List Int) × Unit) :=
  LL T (Go.Abs.look fns) 67 0 ⟨⟨41, [(6, .rv (.cv ⟨.slice (.int .u32), y⟩)), (5, .rv (.cv ⟨.slice (.int .u32), x⟩)), (4, .box 4 0)]⟩, [], [(4, [⟨.bool, t⟩, ⟨.slice (.int .u32), t2⟩])]⟩
noncomputable def num_Whole_Small (a : Bool × (List Int) × Unit) : Option (Int × Bool) := evI T (Go.Abs.look fns) 68 a
noncomputable def num_Whole_Small_L0 (lo : Int) (i : Int) (a : Bool) (a2 : List Int) : Option (Int × Bool) :=
  LL T (Go.Abs.look fns) 68 0 ⟨⟨51, [(6, .rv (.cv ⟨.int .i64, i⟩)), (5, .rv (.cv ⟨.int .u64, lo⟩)), (1, .box 1 0)]⟩, [], [(1, [⟨.bool, a⟩, ⟨.slice (.int .u32), a2⟩])]⟩
noncomputable def torusref02_Compare (a : ByteArray) (b : ByteArray) : Option (Int) := evI T (Go.Abs.look fns) 69 (a, b)
noncomputable def torusref02_Valid (a : ByteArray) : Option (Bool) := evI T (Go.Abs.look fns) 70 a
noncomputable def torusref02_Valid_L0 (s : ByteArray) (i : Int) : Option (Bool) :=
  LL T (Go.Abs.look fns) 70 0 ⟨⟨53, [(4, .rv (.cv ⟨.int .i64, i⟩)), (3, .rv (.cv ⟨.str, s⟩))]⟩, [], []⟩
noncomputable def torusref02_Opposite (a : ByteArray) : Option (ByteArray) := evI T (Go.Abs.look fns) 71 a
noncomputable def torusref02_Positive (a : ByteArray) : Option (ByteArray) := evI T (Go.Abs.look fns) 72 a
noncomputable def torusref02_Minus (a : ByteArray) (b : ByteArray) : Option (ByteArray) := evI T (Go.Abs.look fns) 73 (a, b)
noncomputable def torusref02_Quotient (a : ByteArray) (b : ByteArray) : Option (ByteArray × ByteArray) := evI T (Go.Abs.look fns) 74 (a, b)
noncomputable def torusref02_Quotient_L0 (b : ByteArray) (p : Bool) (x : List Int) (s : Bool) (y : List Int) (r : List Int) (i : Int) (q : List Int) : Option (ByteArray × ByteArray) :=
  LL T (Go.Abs.look fns) 74 0 ⟨⟨164, [(19, .rv (.cv ⟨.int .i64, i⟩)), (18, .rv (.cv ⟨.slice (.int .i64), r⟩)), (17, .rv (.own 17)), (15, .rv (.cv ⟨.slice (.int .i64), y⟩)), (14, .rv (.cv ⟨.bool, s⟩)), (13, .rv (.cv ⟨.slice (.int .i64), x⟩)), (12, .rv (.cv ⟨.bool, p⟩)), (1, .rv (.cv ⟨.str, b⟩))]⟩, [(17, ⟨3, .int .i64, q⟩)], []⟩
noncomputable def torusref02_Quotient_L1 (b : ByteArray) (p : Bool) (x : List Int) (s : Bool) (y : List Int) (r : List Int) (i : Int) (k : Int) (q : List Int) : Option (ByteArray × ByteArray) :=
  LL T (Go.Abs.look fns) 74 1 ⟨⟨164, [(20, .rv (.cv ⟨.int .i64, k⟩)), (19, .rv (.cv ⟨.int .i64, i⟩)), (18, .rv (.cv ⟨.slice (.int .i64), r⟩)), (17, .rv (.own 17)), (15, .rv (.cv ⟨.slice (.int .i64), y⟩)), (14, .rv (.cv ⟨.bool, s⟩)), (13, .rv (.cv ⟨.slice (.int .i64), x⟩)), (12, .rv (.cv ⟨.bool, p⟩)), (1, .rv (.cv ⟨.str, b⟩))]⟩, [(17, ⟨3, .int .i64, q⟩)], []⟩
noncomputable def torusref02_Quotient_L2 (b : ByteArray) (p : Bool) (s : Bool) (r : List Int) (i : Int) (q : List Int) : Option (ByteArray × ByteArray) :=
  LL T (Go.Abs.look fns) 74 2 ⟨⟨164, [(21, .rv (.cv ⟨.int .i64, i⟩)), (18, .rv (.cv ⟨.slice (.int .i64), r⟩)), (17, .rv (.own 17)), (14, .rv (.cv ⟨.bool, s⟩)), (12, .rv (.cv ⟨.bool, p⟩)), (1, .rv (.cv ⟨.str, b⟩))]⟩, [(17, ⟨3, .int .i64, q⟩)], []⟩
noncomputable def torusref02_Gcd (a : ByteArray) (b : ByteArray) : Option (ByteArray × Int) := evI T (Go.Abs.look fns) 75 (a, b)
noncomputable def torusref02_Bezout (a : ByteArray) (b : ByteArray) : Option (ByteArray × ByteArray × ByteArray × Int) := evI T (Go.Abs.look fns) 76 (a, b)
noncomputable def torusref02_Bezout_L0 (a : ByteArray) (b : ByteArray) (g : ByteArray) (period : ByteArray) (r : ByteArray) (s : ByteArray) (x : ByteArray) (y : ByteArray) : Option (ByteArray × ByteArray × ByteArray × Int) :=
  LL T (Go.Abs.look fns) 76 0 ⟨⟨88, [(15, .rv (.cv ⟨.str, y⟩)), (14, .rv (.cv ⟨.str, x⟩)), (13, .rv (.cv ⟨.str, s⟩)), (12, .rv (.cv ⟨.str, r⟩)), (9, .rv (.cv ⟨.str, period⟩)), (8, .rv (.cv ⟨.str, g⟩)), (1, .rv (.cv ⟨.str, b⟩)), (0, .rv (.cv ⟨.str, a⟩))]⟩, [], []⟩
noncomputable def torusref02_Root (a : ByteArray) : Option (ByteArray × Int) := evI T (Go.Abs.look fns) 77 a
noncomputable def torusref02_Root_L0 (a : ByteArray) (x : ByteArray) (i : Int) : Option (ByteArray × Int) :=
  LL T (Go.Abs.look fns) 77 0 ⟨⟨44, [(5, .rv (.cv ⟨.int .i64, i⟩)), (4, .rv (.cv ⟨.str, x⟩)), (0, .rv (.cv ⟨.str, a⟩))]⟩, [], []⟩
noncomputable def torusref02_Root_L1 (a : ByteArray) (x : ByteArray) (i : Int) (head : ByteArray) : Option (ByteArray × Int) :=
  LL T (Go.Abs.look fns) 77 1 ⟨⟨44, [(6, .rv (.cv ⟨.str, head⟩)), (5, .rv (.cv ⟨.int .i64, i⟩)), (4, .rv (.cv ⟨.str, x⟩)), (0, .rv (.cv ⟨.str, a⟩))]⟩, [], []⟩
noncomputable def num_Read (a : ByteArray) : Option ((Bool × (List Int) × Unit) × Bool) := evI T (Go.Abs.look fns) 78 a
noncomputable def num_Read_L0 (s : ByteArray) (neg : Bool) (end0 : Int) (d : List Int) (t : Bool) (t2 : List Int) : Option ((Bool × (List Int) × Unit) × Bool) :=
  LL T (Go.Abs.look fns) 78 0 ⟨⟨71, [(7, .rv (.cv ⟨.int .i64, end0⟩)), (6, .rv (.own 6)), (5, .rv (.cv ⟨.bool, neg⟩)), (4, .rv (.cv ⟨.str, s⟩)), (2, .box 2 0)]⟩, [(6, ⟨80, .int .u32, d⟩)], [(2, [⟨.bool, t⟩, ⟨.slice (.int .u32), t2⟩])]⟩
noncomputable def num_Read_L1 (s : ByteArray) (neg : Bool) (end0 : Int) (x : Int) (t : List Int) (t2 : Int) (t3 : Int) (d : List Int) (t4 : Bool) (t5 : List Int) : Option ((Bool × (List Int) × Unit) × Bool) :=
  LL T (Go.Abs.look fns) 78 1 ⟨⟨71, [(46, .rv (.cv ⟨.int .i64, t3⟩)), (45, .rv (.cv ⟨.int .i64, t2⟩)), (44, .rv (.cv ⟨.slice (.int .u8), t⟩)), (8, .rv (.cv ⟨.int .u32, x⟩)), (7, .rv (.cv ⟨.int .i64, end0⟩)), (6, .rv (.own 6)), (5, .rv (.cv ⟨.bool, neg⟩)), (4, .rv (.cv ⟨.str, s⟩)), (2, .box 2 0)]⟩, [(6, ⟨80, .int .u32, d⟩)], [(2, [⟨.bool, t4⟩, ⟨.slice (.int .u32), t5⟩])]⟩
noncomputable def num_size (a : List Int) (b : List Int) : Option (Int) := evI T (Go.Abs.look fns) 79 (a, b)
noncomputable def num_size_L0 (a : List Int) (b : List Int) (i : Int) : Option (Int) :=
  LL T (Go.Abs.look fns) 79 0 ⟨⟨41, [(5, .rv (.cv ⟨.int .i64, i⟩)), (1, .rv (.cv ⟨.slice (.int .u32), b⟩)), (0, .rv (.cv ⟨.slice (.int .u32), a⟩))]⟩, [], []⟩
noncomputable def num_signed (neg : Bool) (d : List Int) : Option (Bool × (List Int) × Unit) := evI T (Go.Abs.look fns) 80 (neg, d)
noncomputable def num_Whole_digits (a : Bool × (List Int) × Unit) : Option (Int) := evI T (Go.Abs.look fns) 81 a
noncomputable def num_Whole_digits_L0 (n : Int) (x : Int) : Option (Int) :=
  LL T (Go.Abs.look fns) 81 0 ⟨⟨29, [(4, .rv (.cv ⟨.int .u32, x⟩)), (3, .rv (.cv ⟨.int .i64, n⟩))]⟩, [], []⟩
noncomputable def torusref02_short (a : ByteArray) : Option (Int × Bool) := evI T (Go.Abs.look fns) 82 a
noncomputable def torusref02_short_L0 (a : ByteArray) (n : Int) (i : Int) : Option (Int × Bool) :=
  LL T (Go.Abs.look fns) 82 0 ⟨⟨38, [(5, .rv (.cv ⟨.int .i64, i⟩)), (4, .rv (.cv ⟨.int .i64, n⟩)), (0, .rv (.cv ⟨.str, a⟩))]⟩, [], []⟩
noncomputable def torusref02_digits (a : ByteArray) : Option (Bool × List Int) := evI T (Go.Abs.look fns) 83 a
noncomputable def torusref02_digits_L0 (a : ByteArray) (minus : Bool) (i : Int) (d : List Int) : Option (Bool × List Int) :=
  LL T (Go.Abs.look fns) 83 0 ⟨⟨37, [(6, .rv (.cv ⟨.int .i64, i⟩)), (5, .rv (.own 5)), (4, .rv (.cv ⟨.bool, minus⟩)), (0, .rv (.cv ⟨.str, a⟩))]⟩, [(5, ⟨3, .int .i64, d⟩)], []⟩
noncomputable def torusref02_Digits (a : ByteArray) : Option (Int) := evI T (Go.Abs.look fns) 84 a
noncomputable def num_plus (a : List Int) (b : List Int) : Option (List Int) := evI T (Go.Abs.look fns) 85 (a, b)
noncomputable def num_plus_L0 (b : List Int) (carry : Int) (t : List Int) (t2 : Int) (t3 : Int) (out : List Int) : Option (List Int) :=
  LL T (Go.Abs.look fns) 85 0 ⟨⟨52, [(22, .rv (.cv ⟨.int .i64, t3⟩)), (21, .rv (.cv ⟨.int .i64, t2⟩)), (20, .rv (.cv ⟨.slice (.int .u32), t⟩)), (6, .rv (.cv ⟨.int .u32, carry⟩)), (5, .rv (.own 5)), (1, .rv (.cv ⟨.slice (.int .u32), b⟩))]⟩, [(5, ⟨80, .int .u32, out⟩)], []⟩
noncomputable def num_minus (a : List Int) (b : List Int) : Option (List Int) := evI T (Go.Abs.look fns) 86 (a, b)
noncomputable def num_minus_L0 (b : List Int) (borrow : Int) (t : List Int) (t2 : Int) (t3 : Int) (out : List Int) : Option (List Int) :=
  LL T (Go.Abs.look fns) 86 0 ⟨⟨44, [(15, .rv (.cv ⟨.int .i64, t3⟩)), (14, .rv (.cv ⟨.int .i64, t2⟩)), (13, .rv (.cv ⟨.slice (.int .u32), t⟩)), (6, .rv (.cv ⟨.int .u32, borrow⟩)), (5, .rv (.own 5)), (1, .rv (.cv ⟨.slice (.int .u32), b⟩))]⟩, [(5, ⟨80, .int .u32, out⟩)], []⟩
noncomputable def torusref02_sum (a : List Int) (b : List Int) : Option (List Int) := evI T (Go.Abs.look fns) 87 (a, b)
noncomputable def torusref02_sum_L0 (a : List Int) (b : List Int) (carry : Int) (i : Int) (out : List Int) : Option (List Int) :=
  LL T (Go.Abs.look fns) 87 0 ⟨⟨54, [(7, .rv (.cv ⟨.int .i64, i⟩)), (6, .rv (.cv ⟨.int .i64, carry⟩)), (5, .rv (.own 5)), (1, .rv (.cv ⟨.slice (.int .i64), b⟩)), (0, .rv (.cv ⟨.slice (.int .i64), a⟩))]⟩, [(5, ⟨3, .int .i64, out⟩)], []⟩
noncomputable def torusref02_size (a : List Int) (b : List Int) : Option (Int) := evI T (Go.Abs.look fns) 88 (a, b)
noncomputable def torusref02_size_L0 (a : List Int) (b : List Int) (i : Int) : Option (Int) :=
  LL T (Go.Abs.look fns) 88 0 ⟨⟨41, [(5, .rv (.cv ⟨.int .i64, i⟩)), (1, .rv (.cv ⟨.slice (.int .i64), b⟩)), (0, .rv (.cv ⟨.slice (.int .i64), a⟩))]⟩, [], []⟩
noncomputable def torusref02_difference (a : List Int) (b : List Int) : Option (List Int) := evI T (Go.Abs.look fns) 89 (a, b)
noncomputable def torusref02_difference_L0 (a : List Int) (b : List Int) (borrow : Int) (i : Int) (out : List Int) : Option (List Int) :=
  LL T (Go.Abs.look fns) 89 0 ⟨⟨41, [(7, .rv (.cv ⟨.int .i64, i⟩)), (6, .rv (.cv ⟨.int .i64, borrow⟩)), (5, .rv (.own 5)), (1, .rv (.cv ⟨.slice (.int .i64), b⟩)), (0, .rv (.cv ⟨.slice (.int .i64), a⟩))]⟩, [(5, ⟨3, .int .i64, out⟩)], []⟩
noncomputable def torusref02_trim (d : List Int) : Option (List Int) := evI T (Go.Abs.look fns) 90 d
noncomputable def torusref02_trim_L0 (d : List Int) : Option (List Int) :=
  LL T (Go.Abs.look fns) 90 0 ⟨⟨21, [(0, .rv (.cv ⟨.slice (.int .i64), d⟩))]⟩, [], []⟩
noncomputable def num_parts (a : List Int) (b : List Int) : Option ((List Int) × List Int) := evI T (Go.Abs.look fns) 91 (a, b)
noncomputable def num_small (x : Int) (y : Int) : Option (Int) := evI T (Go.Abs.look fns) 92 (x, y)
noncomputable def num_small_L0 (x : Int) (y : Int) : Option (Int) :=
  LL T (Go.Abs.look fns) 92 0 ⟨⟨12, [(1, .rv (.cv ⟨.int .i64, y⟩)), (0, .rv (.cv ⟨.int .i64, x⟩))]⟩, [], []⟩
noncomputable def num_word (d : List Int) : Option (Int) := evI T (Go.Abs.look fns) 93 d
noncomputable def num_word_L0 (d : List Int) (n : Int) (i : Int) : Option (Int) :=
  LL T (Go.Abs.look fns) 93 0 ⟨⟨21, [(4, .rv (.cv ⟨.int .i64, i⟩)), (3, .rv (.cv ⟨.int .i64, n⟩)), (0, .rv (.cv ⟨.slice (.int .u32), d⟩))]⟩, [], []⟩
noncomputable def num_trim (d : List Int) : Option (List Int) := evI T (Go.Abs.look fns) 94 d
noncomputable def num_trim_L0 (d : List Int) : Option (List Int) :=
  LL T (Go.Abs.look fns) 94 0 ⟨⟨21, [(0, .rv (.cv ⟨.slice (.int .u32), d⟩))]⟩, [], []⟩
noncomputable def torusref02_Divisor (a : ByteArray) (b : ByteArray) : Option (ByteArray) := evI T (Go.Abs.look fns) 95 (a, b)
noncomputable def torusref02_Divisor_L0 (x : ByteArray) (y : ByteArray) : Option (ByteArray) :=
  LL T (Go.Abs.look fns) 95 0 ⟨⟨24, [(6, .rv (.cv ⟨.str, y⟩)), (5, .rv (.cv ⟨.str, x⟩))]⟩, [], []⟩
noncomputable def strings_CutPrefix (s : ByteArray) (prefix0 : ByteArray) : Option (ByteArray × Bool) := evI T (Go.Abs.look fns) 96 (s, prefix0)
noncomputable def num_short (a : List Int) (b : Int) : Option ((List Int) × Int) := evI T (Go.Abs.look fns) 97 (a, b)
noncomputable def num_short_L0 (a : List Int) (b : Int) (rest : Int) (i : Int) (out : List Int) : Option ((List Int) × Int) :=
  LL T (Go.Abs.look fns) 97 0 ⟨⟨42, [(8, .rv (.cv ⟨.int .i64, i⟩)), (7, .rv (.cv ⟨.int .u64, rest⟩)), (6, .rv (.own 6)), (1, .rv (.cv ⟨.int .u32, b⟩)), (0, .rv (.cv ⟨.slice (.int .u32), a⟩))]⟩, [(6, ⟨80, .int .u32, out⟩)], []⟩
noncomputable def num_long (a : List Int) (b : List Int) : Option ((List Int) × List Int) := evI T (Go.Abs.look fns) 98 (a, b)
noncomputable def num_long_L0 (k : Int) (v : List Int) (n : Int) (j : Int) (q : List Int) (u : List Int) : Option ((List Int) × List Int) :=
  LL T (Go.Abs.look fns) 98 0 ⟨⟨239, [(10, .rv (.cv ⟨.int .i64, j⟩)), (9, .rv (.cv ⟨.int .i64, n⟩)), (8, .rv (.cv ⟨.slice (.int .u32), v⟩)), (7, .rv (.own 7)), (6, .rv (.cv ⟨.int .u32, k⟩)), (4, .rv (.own 4))]⟩, [(4, ⟨80, .int .u32, q⟩), (7, ⟨80, .int .u32, u⟩)], []⟩
noncomputable def num_long_L1 (k : Int) (v : List Int) (n : Int) (j : Int) (guess : Int) (rest : Int) (q : List Int) (u : List Int) : Option ((List Int) × List Int) :=
  LL T (Go.Abs.look fns) 98 1 ⟨⟨239, [(13, .rv (.cv ⟨.int .u64, rest⟩)), (12, .rv (.cv ⟨.int .u64, guess⟩)), (10, .rv (.cv ⟨.int .i64, j⟩)), (9, .rv (.cv ⟨.int .i64, n⟩)), (8, .rv (.cv ⟨.slice (.int .u32), v⟩)), (7, .rv (.own 7)), (6, .rv (.cv ⟨.int .u32, k⟩)), (4, .rv (.own 4))]⟩, [(4, ⟨80, .int .u32, q⟩), (7, ⟨80, .int .u32, u⟩)], []⟩
noncomputable def num_long_L2 (k : Int) (v : List Int) (n : Int) (j : Int) (guess : Int) (borrow : Int) (t : Int) (t2 : Int) (q : List Int) (u : List Int) : Option ((List Int) × List Int) :=
  LL T (Go.Abs.look fns) 98 2 ⟨⟨239, [(124, .rv (.cv ⟨.int .i64, t2⟩)), (123, .rv (.cv ⟨.int .i64, t⟩)), (14, .rv (.cv ⟨.int .i64, borrow⟩)), (12, .rv (.cv ⟨.int .u64, guess⟩)), (10, .rv (.cv ⟨.int .i64, j⟩)), (9, .rv (.cv ⟨.int .i64, n⟩)), (8, .rv (.cv ⟨.slice (.int .u32), v⟩)), (7, .rv (.own 7)), (6, .rv (.cv ⟨.int .u32, k⟩)), (4, .rv (.own 4))]⟩, [(4, ⟨80, .int .u32, q⟩), (7, ⟨80, .int .u32, u⟩)], []⟩
noncomputable def num_long_L3 (k : Int) (v : List Int) (n : Int) (j : Int) (guess : Int) (x : Int) (carry : Int) (t : Int) (t2 : Int) (q : List Int) (u : List Int) : Option ((List Int) × List Int) :=
  LL T (Go.Abs.look fns) 98 3 ⟨⟨239, [(189, .rv (.cv ⟨.int .i64, t2⟩)), (188, .rv (.cv ⟨.int .i64, t⟩)), (18, .rv (.cv ⟨.int .u32, carry⟩)), (17, .rv (.cv ⟨.int .i64, x⟩)), (12, .rv (.cv ⟨.int .u64, guess⟩)), (10, .rv (.cv ⟨.int .i64, j⟩)), (9, .rv (.cv ⟨.int .i64, n⟩)), (8, .rv (.cv ⟨.slice (.int .u32), v⟩)), (7, .rv (.own 7)), (6, .rv (.cv ⟨.int .u32, k⟩)), (4, .rv (.own 4))]⟩, [(4, ⟨80, .int .u32, q⟩), (7, ⟨80, .int .u32, u⟩)], []⟩
noncomputable def stringslite_CutPrefix (s : ByteArray) (prefix0 : ByteArray) : Option (ByteArray × Bool) := evI T (Go.Abs.look fns) 99 (s, prefix0)
noncomputable def num_scaled (a : List Int) (k : Int) : Option (List Int) := evI T (Go.Abs.look fns) 100 (a, k)
noncomputable def num_scaled_L0 (k : Int) (carry : Int) (t : List Int) (t2 : Int) (t3 : Int) (out : List Int) : Option (List Int) :=
  LL T (Go.Abs.look fns) 100 0 ⟨⟨40, [(15, .rv (.cv ⟨.int .i64, t3⟩)), (14, .rv (.cv ⟨.int .i64, t2⟩)), (13, .rv (.cv ⟨.slice (.int .u32), t⟩)), (6, .rv (.cv ⟨.int .u64, carry⟩)), (5, .rv (.own 5)), (1, .rv (.cv ⟨.int .u32, k⟩))]⟩, [(5, ⟨80, .int .u32, out⟩)], []⟩
noncomputable def stringslite_HasPrefix (s : ByteArray) (prefix0 : ByteArray) : Option (Bool) := evI T (Go.Abs.look fns) 101 (s, prefix0)
end Go.Proofs.Ytlpkaimkmfgpiaa.Ev
