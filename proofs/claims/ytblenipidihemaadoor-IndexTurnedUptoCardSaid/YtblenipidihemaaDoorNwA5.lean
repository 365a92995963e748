/- Bundle 5: NwQTab, NwS1, NwQE, NwQ1, NwQ2. -/
import Derived.Test.YtblenipidihemaaDoorNwA4
import Derived.Test.YtblenipidihemaaDoorProg
import Derived.Lib.Join
import Derived.Laws.Closers25
import Derived.Shelf.Strings.Builder1
import Derived.Sort.Walk0
section
/- The tables of the program's types, and that they are the program's own. -/
open Go Go.RowKit
set_option linter.unusedVariables false
set_option maxRecDepth 100000
namespace Go.Proofs.Nw.K
open Go.Proofs
def tb_ld : List (Nat × (Nat × Bool)) := [(0, (1, false)), (1, (1, false)), (2, (1, false)), (3, (1, false)), (4, (1, false)), (5, (1, false)), (6, (1, false)), (7, (4, true)), (8, (4, true)), (9, (1, false)), (10, (1, false)), (11, (1, false)), (12, (1, false)), (13, (2, true)), (14, (2, true)), (15, (1, false)), (16, (1, false)), (17, (1, false)), (18, (1, true)), (19, (1, true)), (20, (1, false)), (21, (1, false)), (22, (1, false)), (23, (1, false)), (24, (1, false)), (25, (1, false)), (26, (1, false)), (27, (1, false)), (28, (1, false)), (29, (1, false)), (30, (1, false)), (31, (1, false)), (32, (1, false)), (33, (1, false)), (34, (1, false)), (35, (1, false)), (36, (1, false)), (37, (1, false)), (38, (1, false)), (39, (1, false)), (40, (1, false)), (41, (1, false)), (42, (1, false)), (43, (1, false)), (44, (1, false)), (45, (1, false)), (46, (3, true)), (47, (3, true)), (48, (1, false)), (49, (4, true)), (50, (4, true)), (51, (1, false)), (52, (1, false)), (53, (1, false)), (54, (1, false)), (55, (1, false)), (56, (1, false)), (57, (1, false)), (58, (1, false)), (59, (1, false)), (60, (1, false)), (61, (1, false)), (62, (1, false)), (63, (1, false)), (64, (1, false)), (65, (1, false)), (66, (1, false)), (67, (2, true)), (68, (2, true)), (69, (1, false)), (70, (1, false)), (71, (1, false)), (72, (1, false)), (73, (1, false)), (74, (1, false)), (75, (3, true)), (76, (3, true)), (77, (1, false)), (78, (1, false)), (79, (1, false)), (80, (2, true)), (81, (2, true)), (82, (1, false)), (83, (1, false)), (84, (1, false)), (85, (1, false)), (86, (1, false)), (87, (1, false)), (88, (1, false)), (89, (1, false)), (90, (3, true)), (91, (3, true)), (92, (1, false)), (93, (1, false)), (94, (1, false)), (95, (1, false)), (96, (3, true)), (97, (3, true)), (98, (1, false)), (99, (1, false)), (100, (1, false)), (101, (1, false)), (102, (1, false)), (103, (1, false)), (104, (1, false)), (105, (1, false)), (106, (1, false)), (107, (1, false)), (108, (1, false)), (109, (1, false)), (110, (1, false)), (111, (1, false)), (112, (1, false)), (113, (1, false)), (114, (1, false)), (115, (1, false)), (116, (1, false)), (117, (1, false)), (118, (1, false)), (119, (1, false)), (120, (1, false)), (121, (1, false)), (122, (1, false)), (123, (1, false)), (124, (1, false)), (125, (1, false)), (126, (1, false)), (127, (1, false)), (128, (256, true)), (129, (256, true)), (130, (1, false)), (131, (1, false)), (132, (1, false)), (133, (1, false)), (134, (1, false)), (135, (1, false)), (136, (1, false)), (137, (1, false)), (138, (1, false)), (139, (1, false)), (140, (1, false)), (141, (1, false)), (142, (1, false)), (143, (1, false)), (144, (1, false)), (145, (1, false)), (146, (1, false)), (147, (1, false)), (148, (1, false)), (149, (1, false)), (150, (1, false)), (151, (1, false)), (152, (1, false)), (153, (1, false)), (154, (256, true)), (155, (2, true)), (156, (2, true)), (157, (32, true)), (158, (1, false)), (159, (1, false)), (160, (4, true)), (161, (4, true)), (162, (0, true)), (163, (0, true)), (164, (0, true)), (165, (1, false)), (166, (1, false)), (167, (1, false)), (168, (1, false)), (169, (1, false)), (170, (1, false)), (171, (11, true)), (172, (11, true)), (173, (1, false))]
def tb_fo : List (Nat × (List (Nat × Nat))) := [(7, [(0, 0), (1, 1), (2, 2), (3, 3)]), (8, [(0, 0), (1, 1), (2, 2), (3, 3)]), (13, [(0, 0), (1, 1)]), (14, [(0, 0), (1, 1)]), (18, [(0, 0)]), (19, [(0, 0)]), (46, [(0, 0), (1, 1), (2, 2)]), (47, [(0, 0), (1, 1), (2, 2)]), (49, [(0, 0), (1, 3)]), (50, [(0, 0), (1, 3)]), (67, [(0, 0), (1, 1)]), (68, [(0, 0), (1, 1)]), (75, [(0, 0), (1, 1), (2, 2)]), (76, [(0, 0), (1, 1), (2, 2)]), (80, [(0, 0), (1, 1)]), (81, [(0, 0), (1, 1)]), (90, [(0, 0), (1, 1), (2, 2)]), (91, [(0, 0), (1, 1), (2, 2)]), (96, [(0, 0), (1, 1), (2, 2)]), (97, [(0, 0), (1, 1), (2, 2)]), (155, [(0, 0), (1, 1)]), (156, [(0, 0), (1, 1)]), (160, [(0, 0), (1, 1), (2, 2), (3, 3)]), (161, [(0, 0), (1, 1), (2, 2), (3, 3)]), (171, [(0, 0), (1, 1), (2, 2), (3, 3), (4, 4), (5, 5), (6, 6), (7, 7), (8, 8), (9, 9), (10, 10)]), (172, [(0, 0), (1, 1), (2, 2), (3, 3), (4, 4), (5, 5), (6, 6), (7, 7), (8, 8), (9, 9), (10, 10)])]
def tb_el : List (Nat × (Nat × Nat)) := [(23, (9, 1)), (27, (3, 1)), (34, (68, 2)), (45, (50, 4)), (58, (47, 3)), (64, (5, 1)), (85, (91, 3)), (93, (97, 3))]
def tb_ap : List (Nat × (Nat × Nat × Nat)) := [(23, (9, 1, 16)), (27, (3, 1, 8)), (34, (68, 2, 24)), (45, (50, 4, 64)), (58, (47, 3, 48)), (64, (5, 1, 1)), (85, (91, 3, 24)), (93, (97, 3, 24))]
def tb_kd : List (Nat × (TK)) := [(2, .int .i64), (3, .int .i64), (4, .bool), (5, .int .u8), (6, .int .u8), (9, .str), (10, .str), (11, .str), (12, .int .u64), (21, .int .i32), (23, .slice 9), (27, .slice 3), (29, .int .u64), (34, .slice 68), (45, .slice 50), (52, .int .i64), (58, .slice 47), (64, .slice 5), (85, .slice 91), (93, .slice 97), (109, .int .i64), (117, .int .u32), (119, .int .u64), (134, .int .u64), (165, .int .u8), (166, .int .u8), (169, .int .i32), (170, .int .i32)]
def tb_zb : List (Nat × (List AV)) := [(1, [.d (.sc .nilFunc)]), (2, [.d (.sc (.int .i64 (0)))]), (3, [.d (.sc (.int .i64 (0)))]), (4, [.d (.sc (.bool false))]), (5, [.d (.sc (.int .u8 (0)))]), (6, [.d (.sc (.int .u8 (0)))]), (7, [.d (.sc (.int .i64 (0))), .d (.sc (.int .i64 (0))), .d (.sc (.bool false)), .d (.sc (.int .u8 (0)))]), (8, [.d (.sc (.int .i64 (0))), .d (.sc (.int .i64 (0))), .d (.sc (.bool false)), .d (.sc (.int .u8 (0)))]), (9, [.d (.sc (.string ⟨#[]⟩))]), (10, [.d (.sc (.string ⟨#[]⟩))]), (11, [.d (.sc (.string ⟨#[]⟩))]), (12, [.d (.sc (.int .u64 (0)))]), (13, [.d (.sc (.string ⟨#[]⟩)), .d (.sc (.int .u64 (0)))]), (14, [.d (.sc (.string ⟨#[]⟩)), .d (.sc (.int .u64 (0)))]), (15, [.d (.sc (.pointer none))]), (16, [.d (.sc (.pointer none))]), (17, [.d (.sc (.pointer none))]), (18, [.d (.sc (.pointer none))]), (19, [.d (.sc (.pointer none))]), (20, [.d (.sc .nilIface)]), (21, [.d (.sc (.int .i32 (0)))]), (22, [.d (.sc .nilFunc)]), (23, [.d (.nils)]), (24, [.d (.sc .nilFunc)]), (25, [.d (.sc .nilFunc)]), (26, [.d (.sc .nilFunc)]), (27, [.d (.nils)]), (28, [.d (.sc .nilFunc)]), (29, [.d (.sc (.int .u64 (0)))]), (30, [.d (.sc .nilFunc)]), (31, [.d (.sc .nilFunc)]), (32, [.d (.sc .nilFunc)]), (33, [.d (.sc .nilFunc)]), (34, [.d (.nils)]), (35, [.d (.sc .nilFunc)]), (37, [.d (.sc .nilFunc)]), (38, [.d (.sc .nilFunc)]), (39, [.d (.sc .nilFunc)]), (40, [.d (.sc .nilFunc)]), (41, [.d (.sc .nilFunc)]), (42, [.d (.sc .nilFunc)]), (43, [.d (.sc .nilFunc)]), (44, [.d (.sc .nilFunc)]), (45, [.d (.nils)]), (46, [.d (.sc (.string ⟨#[]⟩)), .d (.sc (.string ⟨#[]⟩)), .d (.sc (.string ⟨#[]⟩))]), (47, [.d (.sc (.string ⟨#[]⟩)), .d (.sc (.string ⟨#[]⟩)), .d (.sc (.string ⟨#[]⟩))]), (48, [.d (.sc .nilFunc)]), (49, [.d (.sc (.string ⟨#[]⟩)), .d (.sc (.string ⟨#[]⟩)), .d (.sc (.string ⟨#[]⟩)), .d (.sc (.string ⟨#[]⟩))]), (50, [.d (.sc (.string ⟨#[]⟩)), .d (.sc (.string ⟨#[]⟩)), .d (.sc (.string ⟨#[]⟩)), .d (.sc (.string ⟨#[]⟩))]), (51, [.d (.sc (.pointer none))]), (52, [.d (.sc (.int .i64 (0)))]), (54, [.d (.sc .nilFunc)]), (55, [.d (.sc .nilFunc)]), (56, [.d (.sc .nilFunc)]), (57, [.d (.sc .nilFunc)]), (58, [.d (.nils)]), (59, [.d (.sc .nilFunc)]), (60, [.d (.sc .nilFunc)]), (61, [.d (.sc .nilFunc)]), (62, [.d (.sc .nilFunc)]), (63, [.d (.sc .nilFunc)]), (64, [.d (.nils)]), (65, [.d (.sc .nilFunc)]), (66, [.d (.sc .nilFunc)]), (67, [.d (.sc (.int .i64 (0))), .d (.sc (.string ⟨#[]⟩))]), (68, [.d (.sc (.int .i64 (0))), .d (.sc (.string ⟨#[]⟩))]), (69, [.d (.sc .nilFunc)]), (70, [.d (.sc .nilFunc)]), (71, [.d (.sc .nilFunc)]), (72, [.d (.sc .nilFunc)]), (73, [.d (.sc (.map none))]), (74, [.d (.sc (.map none))]), (75, [.d (.sc (.map none)), .d (.sc (.map none)), .d (.nils)]), (76, [.d (.sc (.map none)), .d (.sc (.map none)), .d (.nils)]), (77, [.d (.sc .nilFunc)]), (78, [.d (.sc .nilFunc)]), (79, [.d (.sc .nilFunc)]), (80, [.d (.sc (.string ⟨#[]⟩)), .d (.sc (.string ⟨#[]⟩))]), (81, [.d (.sc (.string ⟨#[]⟩)), .d (.sc (.string ⟨#[]⟩))]), (82, [.d (.sc .nilFunc)]), (83, [.d (.sc .nilFunc)]), (84, [.d (.sc .nilFunc)]), (85, [.d (.nils)]), (86, [.d (.sc .nilFunc)]), (87, [.d (.sc .nilFunc)]), (88, [.d (.sc .nilFunc)]), (89, [.d (.sc .nilFunc)]), (90, [.d (.sc (.string ⟨#[]⟩)), .d (.sc (.bool false)), .d (.sc (.bool false))]), (91, [.d (.sc (.string ⟨#[]⟩)), .d (.sc (.bool false)), .d (.sc (.bool false))]), (92, [.d (.sc .nilFunc)]), (93, [.d (.nils)]), (94, [.d (.sc .nilFunc)]), (95, [.d (.sc .nilFunc)]), (96, [.d (.sc (.string ⟨#[]⟩)), .d (.sc (.bool false)), .d (.sc (.bool false))]), (97, [.d (.sc (.string ⟨#[]⟩)), .d (.sc (.bool false)), .d (.sc (.bool false))]), (98, [.d (.sc .nilFunc)]), (99, [.d (.sc .nilFunc)]), (100, [.d (.sc .nilFunc)]), (101, [.d (.sc .nilFunc)]), (102, [.d (.sc .nilFunc)]), (103, [.d (.sc (.pointer none))]), (104, [.d (.sc .nilFunc)]), (105, [.d (.sc .nilFunc)]), (106, [.d (.sc (.pointer none))]), (107, [.d (.sc .nilFunc)]), (108, [.d (.sc .nilFunc)]), (109, [.d (.sc (.int .i64 (0)))]), (111, [.d (.sc .nilFunc)]), (112, [.d (.sc .nilFunc)]), (113, [.d (.sc .nilFunc)]), (115, [.d (.sc .nilFunc)]), (116, [.d (.sc .nilFunc)]), (117, [.d (.sc (.int .u32 (0)))]), (118, [.d (.sc .nilFunc)]), (119, [.d (.sc (.int .u64 (0)))]), (120, [.d (.sc .nilFunc)]), (121, [.d (.sc .nilFunc)]), (122, [.d (.sc .nilFunc)]), (123, [.d (.sc .nilFunc)]), (124, [.d (.sc .nilFunc)]), (125, [.d (.sc .nilFunc)]), (126, [.d (.sc .nilFunc)]), (127, [.d (.sc .nilFunc)]), (128, [.d (.sc (.bool false)), .d (.sc (.bool false)), .d (.sc (.bool false)), .d (.sc (.bool false)), .d (.sc (.bool false)), .d (.sc (.bool false)), .d (.sc (.bool false)), .d (.sc (.bool false)), .d (.sc (.bool false)), .d (.sc (.bool false)), .d (.sc (.bool false)), .d (.sc (.bool false)), .d (.sc (.bool false)), .d (.sc (.bool false)), .d (.sc (.bool false)), .d (.sc (.bool false)), .d (.sc (.bool false)), .d (.sc (.bool false)), .d (.sc (.bool false)), .d (.sc (.bool false)), .d (.sc (.bool false)), .d (.sc (.bool false)), .d (.sc (.bool false)), .d (.sc (.bool false)), .d (.sc (.bool false)), .d (.sc (.bool false)), .d (.sc (.bool false)), .d (.sc (.bool false)), .d (.sc (.bool false)), .d (.sc (.bool false)), .d (.sc (.bool false)), .d (.sc (.bool false)), .d (.sc (.bool false)), .d (.sc (.bool false)), .d (.sc (.bool false)), .d (.sc (.bool false)), .d (.sc (.bool false)), .d (.sc (.bool false)), .d (.sc (.bool false)), .d (.sc (.bool false)), .d (.sc (.bool false)), .d (.sc (.bool false)), .d (.sc (.bool false)), .d (.sc (.bool false)), .d (.sc (.bool false)), .d (.sc (.bool false)), .d (.sc (.bool false)), .d (.sc (.bool false)), .d (.sc (.bool false)), .d (.sc (.bool false)), .d (.sc (.bool false)), .d (.sc (.bool false)), .d (.sc (.bool false)), .d (.sc (.bool false)), .d (.sc (.bool false)), .d (.sc (.bool false)), .d (.sc (.bool false)), .d (.sc (.bool false)), .d (.sc (.bool false)), .d (.sc (.bool false)), .d (.sc (.bool false)), .d (.sc (.bool false)), .d (.sc (.bool false)), .d (.sc (.bool false)), .d (.sc (.bool false)), .d (.sc (.bool false)), .d (.sc (.bool false)), .d (.sc (.bool false)), .d (.sc (.bool false)), .d (.sc (.bool false)), .d (.sc (.bool false)), .d (.sc (.bool false)), .d (.sc (.bool false)), .d (.sc (.bool false)), .d (.sc (.bool false)), .d (.sc (.bool false)), .d (.sc (.bool false)), .d (.sc (.bool false)), .d (.sc (.bool false)), .d (.sc (.bool false)), .d (.sc (.bool false)), .d (.sc (.bool false)), .d (.sc (.bool false)), .d (.sc (.bool false)), .d (.sc (.bool false)), .d (.sc (.bool false)), .d (.sc (.bool false)), .d (.sc (.bool false)), .d (.sc (.bool false)), .d (.sc (.bool false)), .d (.sc (.bool false)), .d (.sc (.bool false)), .d (.sc (.bool false)), .d (.sc (.bool false)), .d (.sc (.bool false)), .d (.sc (.bool false)), .d (.sc (.bool false)), .d (.sc (.bool false)), .d (.sc (.bool false)), .d (.sc (.bool false)), .d (.sc (.bool false)), .d (.sc (.bool false)), .d (.sc (.bool false)), .d (.sc (.bool false)), .d (.sc (.bool false)), .d (.sc (.bool false)), .d (.sc (.bool false)), .d (.sc (.bool false)), .d (.sc (.bool false)), .d (.sc (.bool false)), .d (.sc (.bool false)), .d (.sc (.bool false)), .d (.sc (.bool false)), .d (.sc (.bool false)), .d (.sc (.bool false)), .d (.sc (.bool false)), .d (.sc (.bool false)), .d (.sc (.bool false)), .d (.sc (.bool false)), .d (.sc (.bool false)), .d (.sc (.bool false)), .d (.sc (.bool false)), .d (.sc (.bool false)), .d (.sc (.bool false)), .d (.sc (.bool false)), .d (.sc (.bool false)), .d (.sc (.bool false)), .d (.sc (.bool false)), .d (.sc (.bool false)), .d (.sc (.bool false)), .d (.sc (.bool false)), .d (.sc (.bool false)), .d (.sc (.bool false)), .d (.sc (.bool false)), .d (.sc (.bool false)), .d (.sc (.bool false)), .d (.sc (.bool false)), .d (.sc (.bool false)), .d (.sc (.bool false)), .d (.sc (.bool false)), .d (.sc (.bool false)), .d (.sc (.bool false)), .d (.sc (.bool false)), .d (.sc (.bool false)), .d (.sc (.bool false)), .d (.sc (.bool false)), .d (.sc (.bool false)), .d (.sc (.bool false)), .d (.sc (.bool false)), .d (.sc (.bool false)), .d (.sc (.bool false)), .d (.sc (.bool false)), .d (.sc (.bool false)), .d (.sc (.bool false)), .d (.sc (.bool false)), .d (.sc (.bool false)), .d (.sc (.bool false)), .d (.sc (.bool false)), .d (.sc (.bool false)), .d (.sc (.bool false)), .d (.sc (.bool false)), .d (.sc (.bool false)), .d (.sc (.bool false)), .d (.sc (.bool false)), .d (.sc (.bool false)), .d (.sc (.bool false)), .d (.sc (.bool false)), .d (.sc (.bool false)), .d (.sc (.bool false)), .d (.sc (.bool false)), .d (.sc (.bool false)), .d (.sc (.bool false)), .d (.sc (.bool false)), .d (.sc (.bool false)), .d (.sc (.bool false)), .d (.sc (.bool false)), .d (.sc (.bool false)), .d (.sc (.bool false)), .d (.sc (.bool false)), .d (.sc (.bool false)), .d (.sc (.bool false)), .d (.sc (.bool false)), .d (.sc (.bool false)), .d (.sc (.bool false)), .d (.sc (.bool false)), .d (.sc (.bool false)), .d (.sc (.bool false)), .d (.sc (.bool false)), .d (.sc (.bool false)), .d (.sc (.bool false)), .d (.sc (.bool false)), .d (.sc (.bool false)), .d (.sc (.bool false)), .d (.sc (.bool false)), .d (.sc (.bool false)), .d (.sc (.bool false)), .d (.sc (.bool false)), .d (.sc (.bool false)), .d (.sc (.bool false)), .d (.sc (.bool false)), .d (.sc (.bool false)), .d (.sc (.bool false)), .d (.sc (.bool false)), .d (.sc (.bool false)), .d (.sc (.bool false)), .d (.sc (.bool false)), .d (.sc (.bool false)), .d (.sc (.bool false)), .d (.sc (.bool false)), .d (.sc (.bool false)), .d (.sc (.bool false)), .d (.sc (.bool false)), .d (.sc (.bool false)), .d (.sc (.bool false)), .d (.sc (.bool false)), .d (.sc (.bool false)), .d (.sc (.bool false)), .d (.sc (.bool false)), .d (.sc (.bool false)), .d (.sc (.bool false)), .d (.sc (.bool false)), .d (.sc (.bool false)), .d (.sc (.bool false)), .d (.sc (.bool false)), .d (.sc (.bool false)), .d (.sc (.bool false)), .d (.sc (.bool false)), .d (.sc (.bool false)), .d (.sc (.bool false)), .d (.sc (.bool false)), .d (.sc (.bool false)), .d (.sc (.bool false)), .d (.sc (.bool false)), .d (.sc (.bool false)), .d (.sc (.bool false)), .d (.sc (.bool false)), .d (.sc (.bool false)), .d (.sc (.bool false)), .d (.sc (.bool false)), .d (.sc (.bool false)), .d (.sc (.bool false)), .d (.sc (.bool false)), .d (.sc (.bool false)), .d (.sc (.bool false)), .d (.sc (.bool false)), .d (.sc (.bool false)), .d (.sc (.bool false)), .d (.sc (.bool false)), .d (.sc (.bool false)), .d (.sc (.bool false)), .d (.sc (.bool false)), .d (.sc (.bool false)), .d (.sc (.bool false)), .d (.sc (.bool false)), .d (.sc (.bool false)), .d (.sc (.bool false))]), (129, [.d (.sc (.bool false)), .d (.sc (.bool false)), .d (.sc (.bool false)), .d (.sc (.bool false)), .d (.sc (.bool false)), .d (.sc (.bool false)), .d (.sc (.bool false)), .d (.sc (.bool false)), .d (.sc (.bool false)), .d (.sc (.bool false)), .d (.sc (.bool false)), .d (.sc (.bool false)), .d (.sc (.bool false)), .d (.sc (.bool false)), .d (.sc (.bool false)), .d (.sc (.bool false)), .d (.sc (.bool false)), .d (.sc (.bool false)), .d (.sc (.bool false)), .d (.sc (.bool false)), .d (.sc (.bool false)), .d (.sc (.bool false)), .d (.sc (.bool false)), .d (.sc (.bool false)), .d (.sc (.bool false)), .d (.sc (.bool false)), .d (.sc (.bool false)), .d (.sc (.bool false)), .d (.sc (.bool false)), .d (.sc (.bool false)), .d (.sc (.bool false)), .d (.sc (.bool false)), .d (.sc (.bool false)), .d (.sc (.bool false)), .d (.sc (.bool false)), .d (.sc (.bool false)), .d (.sc (.bool false)), .d (.sc (.bool false)), .d (.sc (.bool false)), .d (.sc (.bool false)), .d (.sc (.bool false)), .d (.sc (.bool false)), .d (.sc (.bool false)), .d (.sc (.bool false)), .d (.sc (.bool false)), .d (.sc (.bool false)), .d (.sc (.bool false)), .d (.sc (.bool false)), .d (.sc (.bool false)), .d (.sc (.bool false)), .d (.sc (.bool false)), .d (.sc (.bool false)), .d (.sc (.bool false)), .d (.sc (.bool false)), .d (.sc (.bool false)), .d (.sc (.bool false)), .d (.sc (.bool false)), .d (.sc (.bool false)), .d (.sc (.bool false)), .d (.sc (.bool false)), .d (.sc (.bool false)), .d (.sc (.bool false)), .d (.sc (.bool false)), .d (.sc (.bool false)), .d (.sc (.bool false)), .d (.sc (.bool false)), .d (.sc (.bool false)), .d (.sc (.bool false)), .d (.sc (.bool false)), .d (.sc (.bool false)), .d (.sc (.bool false)), .d (.sc (.bool false)), .d (.sc (.bool false)), .d (.sc (.bool false)), .d (.sc (.bool false)), .d (.sc (.bool false)), .d (.sc (.bool false)), .d (.sc (.bool false)), .d (.sc (.bool false)), .d (.sc (.bool false)), .d (.sc (.bool false)), .d (.sc (.bool false)), .d (.sc (.bool false)), .d (.sc (.bool false)), .d (.sc (.bool false)), .d (.sc (.bool false)), .d (.sc (.bool false)), .d (.sc (.bool false)), .d (.sc (.bool false)), .d (.sc (.bool false)), .d (.sc (.bool false)), .d (.sc (.bool false)), .d (.sc (.bool false)), .d (.sc (.bool false)), .d (.sc (.bool false)), .d (.sc (.bool false)), .d (.sc (.bool false)), .d (.sc (.bool false)), .d (.sc (.bool false)), .d (.sc (.bool false)), .d (.sc (.bool false)), .d (.sc (.bool false)), .d (.sc (.bool false)), .d (.sc (.bool false)), .d (.sc (.bool false)), .d (.sc (.bool false)), .d (.sc (.bool false)), .d (.sc (.bool false)), .d (.sc (.bool false)), .d (.sc (.bool false)), .d (.sc (.bool false)), .d (.sc (.bool false)), .d (.sc (.bool false)), .d (.sc (.bool false)), .d (.sc (.bool false)), .d (.sc (.bool false)), .d (.sc (.bool false)), .d (.sc (.bool false)), .d (.sc (.bool false)), .d (.sc (.bool false)), .d (.sc (.bool false)), .d (.sc (.bool false)), .d (.sc (.bool false)), .d (.sc (.bool false)), .d (.sc (.bool false)), .d (.sc (.bool false)), .d (.sc (.bool false)), .d (.sc (.bool false)), .d (.sc (.bool false)), .d (.sc (.bool false)), .d (.sc (.bool false)), .d (.sc (.bool false)), .d (.sc (.bool false)), .d (.sc (.bool false)), .d (.sc (.bool false)), .d (.sc (.bool false)), .d (.sc (.bool false)), .d (.sc (.bool false)), .d (.sc (.bool false)), .d (.sc (.bool false)), .d (.sc (.bool false)), .d (.sc (.bool false)), .d (.sc (.bool false)), .d (.sc (.bool false)), .d (.sc (.bool false)), .d (.sc (.bool false)), .d (.sc (.bool false)), .d (.sc (.bool false)), .d (.sc (.bool false)), .d (.sc (.bool false)), .d (.sc (.bool false)), .d (.sc (.bool false)), .d (.sc (.bool false)), .d (.sc (.bool false)), .d (.sc (.bool false)), .d (.sc (.bool false)), .d (.sc (.bool false)), .d (.sc (.bool false)), .d (.sc (.bool false)), .d (.sc (.bool false)), .d (.sc (.bool false)), .d (.sc (.bool false)), .d (.sc (.bool false)), .d (.sc (.bool false)), .d (.sc (.bool false)), .d (.sc (.bool false)), .d (.sc (.bool false)), .d (.sc (.bool false)), .d (.sc (.bool false)), .d (.sc (.bool false)), .d (.sc (.bool false)), .d (.sc (.bool false)), .d (.sc (.bool false)), .d (.sc (.bool false)), .d (.sc (.bool false)), .d (.sc (.bool false)), .d (.sc (.bool false)), .d (.sc (.bool false)), .d (.sc (.bool false)), .d (.sc (.bool false)), .d (.sc (.bool false)), .d (.sc (.bool false)), .d (.sc (.bool false)), .d (.sc (.bool false)), .d (.sc (.bool false)), .d (.sc (.bool false)), .d (.sc (.bool false)), .d (.sc (.bool false)), .d (.sc (.bool false)), .d (.sc (.bool false)), .d (.sc (.bool false)), .d (.sc (.bool false)), .d (.sc (.bool false)), .d (.sc (.bool false)), .d (.sc (.bool false)), .d (.sc (.bool false)), .d (.sc (.bool false)), .d (.sc (.bool false)), .d (.sc (.bool false)), .d (.sc (.bool false)), .d (.sc (.bool false)), .d (.sc (.bool false)), .d (.sc (.bool false)), .d (.sc (.bool false)), .d (.sc (.bool false)), .d (.sc (.bool false)), .d (.sc (.bool false)), .d (.sc (.bool false)), .d (.sc (.bool false)), .d (.sc (.bool false)), .d (.sc (.bool false)), .d (.sc (.bool false)), .d (.sc (.bool false)), .d (.sc (.bool false)), .d (.sc (.bool false)), .d (.sc (.bool false)), .d (.sc (.bool false)), .d (.sc (.bool false)), .d (.sc (.bool false)), .d (.sc (.bool false)), .d (.sc (.bool false)), .d (.sc (.bool false)), .d (.sc (.bool false)), .d (.sc (.bool false)), .d (.sc (.bool false)), .d (.sc (.bool false)), .d (.sc (.bool false)), .d (.sc (.bool false)), .d (.sc (.bool false)), .d (.sc (.bool false)), .d (.sc (.bool false)), .d (.sc (.bool false)), .d (.sc (.bool false)), .d (.sc (.bool false)), .d (.sc (.bool false)), .d (.sc (.bool false)), .d (.sc (.bool false)), .d (.sc (.bool false)), .d (.sc (.bool false)), .d (.sc (.bool false)), .d (.sc (.bool false)), .d (.sc (.bool false)), .d (.sc (.bool false)), .d (.sc (.bool false)), .d (.sc (.bool false)), .d (.sc (.bool false)), .d (.sc (.bool false)), .d (.sc (.bool false)), .d (.sc (.bool false)), .d (.sc (.bool false)), .d (.sc (.bool false)), .d (.sc (.bool false)), .d (.sc (.bool false)), .d (.sc (.bool false)), .d (.sc (.bool false)), .d (.sc (.bool false))]), (131, [.d (.sc .nilFunc)]), (132, [.d (.sc .nilFunc)]), (133, [.d (.sc (.pointer none))]), (134, [.d (.sc (.int .u64 (0)))]), (135, [.d (.sc .nilFunc)]), (136, [.d (.sc .nilFunc)]), (137, [.d (.sc .nilFunc)]), (138, [.d (.sc (.pointer none))]), (139, [.d (.sc .nilFunc)]), (140, [.d (.sc .nilFunc)]), (141, [.d (.sc .nilFunc)]), (142, [.d (.sc .nilFunc)]), (144, [.d (.sc .nilFunc)]), (145, [.d (.sc .nilFunc)]), (146, [.d (.sc (.pointer none))]), (148, [.d (.sc .nilFunc)]), (149, [.d (.sc .nilFunc)]), (150, [.d (.sc .nilFunc)]), (151, [.d (.sc .nilFunc)]), (153, [.d (.sc .nilFunc)]), (154, [.d (.sc (.int .u8 (0))), .d (.sc (.int .u8 (0))), .d (.sc (.int .u8 (0))), .d (.sc (.int .u8 (0))), .d (.sc (.int .u8 (0))), .d (.sc (.int .u8 (0))), .d (.sc (.int .u8 (0))), .d (.sc (.int .u8 (0))), .d (.sc (.int .u8 (0))), .d (.sc (.int .u8 (0))), .d (.sc (.int .u8 (0))), .d (.sc (.int .u8 (0))), .d (.sc (.int .u8 (0))), .d (.sc (.int .u8 (0))), .d (.sc (.int .u8 (0))), .d (.sc (.int .u8 (0))), .d (.sc (.int .u8 (0))), .d (.sc (.int .u8 (0))), .d (.sc (.int .u8 (0))), .d (.sc (.int .u8 (0))), .d (.sc (.int .u8 (0))), .d (.sc (.int .u8 (0))), .d (.sc (.int .u8 (0))), .d (.sc (.int .u8 (0))), .d (.sc (.int .u8 (0))), .d (.sc (.int .u8 (0))), .d (.sc (.int .u8 (0))), .d (.sc (.int .u8 (0))), .d (.sc (.int .u8 (0))), .d (.sc (.int .u8 (0))), .d (.sc (.int .u8 (0))), .d (.sc (.int .u8 (0))), .d (.sc (.int .u8 (0))), .d (.sc (.int .u8 (0))), .d (.sc (.int .u8 (0))), .d (.sc (.int .u8 (0))), .d (.sc (.int .u8 (0))), .d (.sc (.int .u8 (0))), .d (.sc (.int .u8 (0))), .d (.sc (.int .u8 (0))), .d (.sc (.int .u8 (0))), .d (.sc (.int .u8 (0))), .d (.sc (.int .u8 (0))), .d (.sc (.int .u8 (0))), .d (.sc (.int .u8 (0))), .d (.sc (.int .u8 (0))), .d (.sc (.int .u8 (0))), .d (.sc (.int .u8 (0))), .d (.sc (.int .u8 (0))), .d (.sc (.int .u8 (0))), .d (.sc (.int .u8 (0))), .d (.sc (.int .u8 (0))), .d (.sc (.int .u8 (0))), .d (.sc (.int .u8 (0))), .d (.sc (.int .u8 (0))), .d (.sc (.int .u8 (0))), .d (.sc (.int .u8 (0))), .d (.sc (.int .u8 (0))), .d (.sc (.int .u8 (0))), .d (.sc (.int .u8 (0))), .d (.sc (.int .u8 (0))), .d (.sc (.int .u8 (0))), .d (.sc (.int .u8 (0))), .d (.sc (.int .u8 (0))), .d (.sc (.int .u8 (0))), .d (.sc (.int .u8 (0))), .d (.sc (.int .u8 (0))), .d (.sc (.int .u8 (0))), .d (.sc (.int .u8 (0))), .d (.sc (.int .u8 (0))), .d (.sc (.int .u8 (0))), .d (.sc (.int .u8 (0))), .d (.sc (.int .u8 (0))), .d (.sc (.int .u8 (0))), .d (.sc (.int .u8 (0))), .d (.sc (.int .u8 (0))), .d (.sc (.int .u8 (0))), .d (.sc (.int .u8 (0))), .d (.sc (.int .u8 (0))), .d (.sc (.int .u8 (0))), .d (.sc (.int .u8 (0))), .d (.sc (.int .u8 (0))), .d (.sc (.int .u8 (0))), .d (.sc (.int .u8 (0))), .d (.sc (.int .u8 (0))), .d (.sc (.int .u8 (0))), .d (.sc (.int .u8 (0))), .d (.sc (.int .u8 (0))), .d (.sc (.int .u8 (0))), .d (.sc (.int .u8 (0))), .d (.sc (.int .u8 (0))), .d (.sc (.int .u8 (0))), .d (.sc (.int .u8 (0))), .d (.sc (.int .u8 (0))), .d (.sc (.int .u8 (0))), .d (.sc (.int .u8 (0))), .d (.sc (.int .u8 (0))), .d (.sc (.int .u8 (0))), .d (.sc (.int .u8 (0))), .d (.sc (.int .u8 (0))), .d (.sc (.int .u8 (0))), .d (.sc (.int .u8 (0))), .d (.sc (.int .u8 (0))), .d (.sc (.int .u8 (0))), .d (.sc (.int .u8 (0))), .d (.sc (.int .u8 (0))), .d (.sc (.int .u8 (0))), .d (.sc (.int .u8 (0))), .d (.sc (.int .u8 (0))), .d (.sc (.int .u8 (0))), .d (.sc (.int .u8 (0))), .d (.sc (.int .u8 (0))), .d (.sc (.int .u8 (0))), .d (.sc (.int .u8 (0))), .d (.sc (.int .u8 (0))), .d (.sc (.int .u8 (0))), .d (.sc (.int .u8 (0))), .d (.sc (.int .u8 (0))), .d (.sc (.int .u8 (0))), .d (.sc (.int .u8 (0))), .d (.sc (.int .u8 (0))), .d (.sc (.int .u8 (0))), .d (.sc (.int .u8 (0))), .d (.sc (.int .u8 (0))), .d (.sc (.int .u8 (0))), .d (.sc (.int .u8 (0))), .d (.sc (.int .u8 (0))), .d (.sc (.int .u8 (0))), .d (.sc (.int .u8 (0))), .d (.sc (.int .u8 (0))), .d (.sc (.int .u8 (0))), .d (.sc (.int .u8 (0))), .d (.sc (.int .u8 (0))), .d (.sc (.int .u8 (0))), .d (.sc (.int .u8 (0))), .d (.sc (.int .u8 (0))), .d (.sc (.int .u8 (0))), .d (.sc (.int .u8 (0))), .d (.sc (.int .u8 (0))), .d (.sc (.int .u8 (0))), .d (.sc (.int .u8 (0))), .d (.sc (.int .u8 (0))), .d (.sc (.int .u8 (0))), .d (.sc (.int .u8 (0))), .d (.sc (.int .u8 (0))), .d (.sc (.int .u8 (0))), .d (.sc (.int .u8 (0))), .d (.sc (.int .u8 (0))), .d (.sc (.int .u8 (0))), .d (.sc (.int .u8 (0))), .d (.sc (.int .u8 (0))), .d (.sc (.int .u8 (0))), .d (.sc (.int .u8 (0))), .d (.sc (.int .u8 (0))), .d (.sc (.int .u8 (0))), .d (.sc (.int .u8 (0))), .d (.sc (.int .u8 (0))), .d (.sc (.int .u8 (0))), .d (.sc (.int .u8 (0))), .d (.sc (.int .u8 (0))), .d (.sc (.int .u8 (0))), .d (.sc (.int .u8 (0))), .d (.sc (.int .u8 (0))), .d (.sc (.int .u8 (0))), .d (.sc (.int .u8 (0))), .d (.sc (.int .u8 (0))), .d (.sc (.int .u8 (0))), .d (.sc (.int .u8 (0))), .d (.sc (.int .u8 (0))), .d (.sc (.int .u8 (0))), .d (.sc (.int .u8 (0))), .d (.sc (.int .u8 (0))), .d (.sc (.int .u8 (0))), .d (.sc (.int .u8 (0))), .d (.sc (.int .u8 (0))), .d (.sc (.int .u8 (0))), .d (.sc (.int .u8 (0))), .d (.sc (.int .u8 (0))), .d (.sc (.int .u8 (0))), .d (.sc (.int .u8 (0))), .d (.sc (.int .u8 (0))), .d (.sc (.int .u8 (0))), .d (.sc (.int .u8 (0))), .d (.sc (.int .u8 (0))), .d (.sc (.int .u8 (0))), .d (.sc (.int .u8 (0))), .d (.sc (.int .u8 (0))), .d (.sc (.int .u8 (0))), .d (.sc (.int .u8 (0))), .d (.sc (.int .u8 (0))), .d (.sc (.int .u8 (0))), .d (.sc (.int .u8 (0))), .d (.sc (.int .u8 (0))), .d (.sc (.int .u8 (0))), .d (.sc (.int .u8 (0))), .d (.sc (.int .u8 (0))), .d (.sc (.int .u8 (0))), .d (.sc (.int .u8 (0))), .d (.sc (.int .u8 (0))), .d (.sc (.int .u8 (0))), .d (.sc (.int .u8 (0))), .d (.sc (.int .u8 (0))), .d (.sc (.int .u8 (0))), .d (.sc (.int .u8 (0))), .d (.sc (.int .u8 (0))), .d (.sc (.int .u8 (0))), .d (.sc (.int .u8 (0))), .d (.sc (.int .u8 (0))), .d (.sc (.int .u8 (0))), .d (.sc (.int .u8 (0))), .d (.sc (.int .u8 (0))), .d (.sc (.int .u8 (0))), .d (.sc (.int .u8 (0))), .d (.sc (.int .u8 (0))), .d (.sc (.int .u8 (0))), .d (.sc (.int .u8 (0))), .d (.sc (.int .u8 (0))), .d (.sc (.int .u8 (0))), .d (.sc (.int .u8 (0))), .d (.sc (.int .u8 (0))), .d (.sc (.int .u8 (0))), .d (.sc (.int .u8 (0))), .d (.sc (.int .u8 (0))), .d (.sc (.int .u8 (0))), .d (.sc (.int .u8 (0))), .d (.sc (.int .u8 (0))), .d (.sc (.int .u8 (0))), .d (.sc (.int .u8 (0))), .d (.sc (.int .u8 (0))), .d (.sc (.int .u8 (0))), .d (.sc (.int .u8 (0))), .d (.sc (.int .u8 (0))), .d (.sc (.int .u8 (0))), .d (.sc (.int .u8 (0))), .d (.sc (.int .u8 (0))), .d (.sc (.int .u8 (0))), .d (.sc (.int .u8 (0))), .d (.sc (.int .u8 (0))), .d (.sc (.int .u8 (0))), .d (.sc (.int .u8 (0))), .d (.sc (.int .u8 (0))), .d (.sc (.int .u8 (0))), .d (.sc (.int .u8 (0))), .d (.sc (.int .u8 (0))), .d (.sc (.int .u8 (0))), .d (.sc (.int .u8 (0))), .d (.sc (.int .u8 (0))), .d (.sc (.int .u8 (0))), .d (.sc (.int .u8 (0))), .d (.sc (.int .u8 (0))), .d (.sc (.int .u8 (0))), .d (.sc (.int .u8 (0))), .d (.sc (.int .u8 (0))), .d (.sc (.int .u8 (0))), .d (.sc (.int .u8 (0))), .d (.sc (.int .u8 (0)))]), (155, [.d (.sc (.int .u8 (0))), .d (.sc (.int .u8 (0)))]), (156, [.d (.sc (.int .u8 (0))), .d (.sc (.int .u8 (0)))]), (157, [.d (.sc (.int .u8 (0))), .d (.sc (.int .u8 (0))), .d (.sc (.int .u8 (0))), .d (.sc (.int .u8 (0))), .d (.sc (.int .u8 (0))), .d (.sc (.int .u8 (0))), .d (.sc (.int .u8 (0))), .d (.sc (.int .u8 (0))), .d (.sc (.int .u8 (0))), .d (.sc (.int .u8 (0))), .d (.sc (.int .u8 (0))), .d (.sc (.int .u8 (0))), .d (.sc (.int .u8 (0))), .d (.sc (.int .u8 (0))), .d (.sc (.int .u8 (0))), .d (.sc (.int .u8 (0))), .d (.sc (.int .u8 (0))), .d (.sc (.int .u8 (0))), .d (.sc (.int .u8 (0))), .d (.sc (.int .u8 (0))), .d (.sc (.int .u8 (0))), .d (.sc (.int .u8 (0))), .d (.sc (.int .u8 (0))), .d (.sc (.int .u8 (0))), .d (.sc (.int .u8 (0))), .d (.sc (.int .u8 (0))), .d (.sc (.int .u8 (0))), .d (.sc (.int .u8 (0))), .d (.sc (.int .u8 (0))), .d (.sc (.int .u8 (0))), .d (.sc (.int .u8 (0))), .d (.sc (.int .u8 (0)))]), (158, [.d (.sc .nilFunc)]), (159, [.d (.sc .nilFunc)]), (160, [.d (.sc (.pointer none)), .d (.sc (.pointer none)), .d (.sc (.pointer none)), .d (.sc (.string ⟨#[]⟩))]), (161, [.d (.sc (.pointer none)), .d (.sc (.pointer none)), .d (.sc (.pointer none)), .d (.sc (.string ⟨#[]⟩))]), (162, []), (163, []), (164, []), (165, [.d (.sc (.int .u8 (0)))]), (166, [.d (.sc (.int .u8 (0)))]), (167, [.d (.sc .nilFunc)]), (168, [.d (.sc (.pointer none))]), (169, [.d (.sc (.int .i32 (0)))]), (170, [.d (.sc (.int .i32 (0)))]), (171, [.d (.sc (.int .u64 (0))), .d (.sc (.int .u64 (0))), .d (.sc (.int .u32 (0))), .d (.sc (.int .u8 (0))), .d (.sc (.int .u8 (0))), .d (.sc (.int .u8 (0))), .d (.sc (.int .u8 (0))), .d (.sc .nilFunc), .d (.sc (.pointer none)), .d (.sc (.int .i32 (0))), .d (.sc (.int .i32 (0)))]), (172, [.d (.sc (.int .u64 (0))), .d (.sc (.int .u64 (0))), .d (.sc (.int .u32 (0))), .d (.sc (.int .u8 (0))), .d (.sc (.int .u8 (0))), .d (.sc (.int .u8 (0))), .d (.sc (.int .u8 (0))), .d (.sc .nilFunc), .d (.sc (.pointer none)), .d (.sc (.int .i32 (0))), .d (.sc (.int .i32 (0)))]), (173, [.d (.sc (.pointer none))])]
def tb_zd : List (Nat × (List D)) := [(1, [.sc .nilFunc]), (2, [.sc (.int .i64 (0))]), (3, [.sc (.int .i64 (0))]), (4, [.sc (.bool false)]), (5, [.sc (.int .u8 (0))]), (6, [.sc (.int .u8 (0))]), (7, [.sc (.int .i64 (0)), .sc (.int .i64 (0)), .sc (.bool false), .sc (.int .u8 (0))]), (8, [.sc (.int .i64 (0)), .sc (.int .i64 (0)), .sc (.bool false), .sc (.int .u8 (0))]), (9, [.sc (.string ⟨#[]⟩)]), (10, [.sc (.string ⟨#[]⟩)]), (11, [.sc (.string ⟨#[]⟩)]), (12, [.sc (.int .u64 (0))]), (13, [.sc (.string ⟨#[]⟩), .sc (.int .u64 (0))]), (14, [.sc (.string ⟨#[]⟩), .sc (.int .u64 (0))]), (15, [.sc (.pointer none)]), (16, [.sc (.pointer none)]), (17, [.sc (.pointer none)]), (18, [.sc (.pointer none)]), (19, [.sc (.pointer none)]), (20, [.sc .nilIface]), (21, [.sc (.int .i32 (0))]), (22, [.sc .nilFunc]), (23, [.nils]), (24, [.sc .nilFunc]), (25, [.sc .nilFunc]), (26, [.sc .nilFunc]), (27, [.nils]), (28, [.sc .nilFunc]), (29, [.sc (.int .u64 (0))]), (30, [.sc .nilFunc]), (31, [.sc .nilFunc]), (32, [.sc .nilFunc]), (33, [.sc .nilFunc]), (34, [.nils]), (35, [.sc .nilFunc]), (37, [.sc .nilFunc]), (38, [.sc .nilFunc]), (39, [.sc .nilFunc]), (40, [.sc .nilFunc]), (41, [.sc .nilFunc]), (42, [.sc .nilFunc]), (43, [.sc .nilFunc]), (44, [.sc .nilFunc]), (45, [.nils]), (46, [.sc (.string ⟨#[]⟩), .sc (.string ⟨#[]⟩), .sc (.string ⟨#[]⟩)]), (47, [.sc (.string ⟨#[]⟩), .sc (.string ⟨#[]⟩), .sc (.string ⟨#[]⟩)]), (48, [.sc .nilFunc]), (49, [.sc (.string ⟨#[]⟩), .sc (.string ⟨#[]⟩), .sc (.string ⟨#[]⟩), .sc (.string ⟨#[]⟩)]), (50, [.sc (.string ⟨#[]⟩), .sc (.string ⟨#[]⟩), .sc (.string ⟨#[]⟩), .sc (.string ⟨#[]⟩)]), (51, [.sc (.pointer none)]), (52, [.sc (.int .i64 (0))]), (54, [.sc .nilFunc]), (55, [.sc .nilFunc]), (56, [.sc .nilFunc]), (57, [.sc .nilFunc]), (58, [.nils]), (59, [.sc .nilFunc]), (60, [.sc .nilFunc]), (61, [.sc .nilFunc]), (62, [.sc .nilFunc]), (63, [.sc .nilFunc]), (64, [.nils]), (65, [.sc .nilFunc]), (66, [.sc .nilFunc]), (67, [.sc (.int .i64 (0)), .sc (.string ⟨#[]⟩)]), (68, [.sc (.int .i64 (0)), .sc (.string ⟨#[]⟩)]), (69, [.sc .nilFunc]), (70, [.sc .nilFunc]), (71, [.sc .nilFunc]), (72, [.sc .nilFunc]), (73, [.sc (.map none)]), (74, [.sc (.map none)]), (75, [.sc (.map none), .sc (.map none), .nils]), (76, [.sc (.map none), .sc (.map none), .nils]), (77, [.sc .nilFunc]), (78, [.sc .nilFunc]), (79, [.sc .nilFunc]), (80, [.sc (.string ⟨#[]⟩), .sc (.string ⟨#[]⟩)]), (81, [.sc (.string ⟨#[]⟩), .sc (.string ⟨#[]⟩)]), (82, [.sc .nilFunc]), (83, [.sc .nilFunc]), (84, [.sc .nilFunc]), (85, [.nils]), (86, [.sc .nilFunc]), (87, [.sc .nilFunc]), (88, [.sc .nilFunc]), (89, [.sc .nilFunc]), (90, [.sc (.string ⟨#[]⟩), .sc (.bool false), .sc (.bool false)]), (91, [.sc (.string ⟨#[]⟩), .sc (.bool false), .sc (.bool false)]), (92, [.sc .nilFunc]), (93, [.nils]), (94, [.sc .nilFunc]), (95, [.sc .nilFunc]), (96, [.sc (.string ⟨#[]⟩), .sc (.bool false), .sc (.bool false)]), (97, [.sc (.string ⟨#[]⟩), .sc (.bool false), .sc (.bool false)]), (98, [.sc .nilFunc]), (99, [.sc .nilFunc]), (100, [.sc .nilFunc]), (101, [.sc .nilFunc]), (102, [.sc .nilFunc]), (103, [.sc (.pointer none)]), (104, [.sc .nilFunc]), (105, [.sc .nilFunc]), (106, [.sc (.pointer none)]), (107, [.sc .nilFunc]), (108, [.sc .nilFunc]), (109, [.sc (.int .i64 (0))]), (111, [.sc .nilFunc]), (112, [.sc .nilFunc]), (113, [.sc .nilFunc]), (115, [.sc .nilFunc]), (116, [.sc .nilFunc]), (117, [.sc (.int .u32 (0))]), (118, [.sc .nilFunc]), (119, [.sc (.int .u64 (0))]), (120, [.sc .nilFunc]), (121, [.sc .nilFunc]), (122, [.sc .nilFunc]), (123, [.sc .nilFunc]), (124, [.sc .nilFunc]), (125, [.sc .nilFunc]), (126, [.sc .nilFunc]), (127, [.sc .nilFunc]), (128, [.sc (.bool false), .sc (.bool false), .sc (.bool false), .sc (.bool false), .sc (.bool false), .sc (.bool false), .sc (.bool false), .sc (.bool false), .sc (.bool false), .sc (.bool false), .sc (.bool false), .sc (.bool false), .sc (.bool false), .sc (.bool false), .sc (.bool false), .sc (.bool false), .sc (.bool false), .sc (.bool false), .sc (.bool false), .sc (.bool false), .sc (.bool false), .sc (.bool false), .sc (.bool false), .sc (.bool false), .sc (.bool false), .sc (.bool false), .sc (.bool false), .sc (.bool false), .sc (.bool false), .sc (.bool false), .sc (.bool false), .sc (.bool false), .sc (.bool false), .sc (.bool false), .sc (.bool false), .sc (.bool false), .sc (.bool false), .sc (.bool false), .sc (.bool false), .sc (.bool false), .sc (.bool false), .sc (.bool false), .sc (.bool false), .sc (.bool false), .sc (.bool false), .sc (.bool false), .sc (.bool false), .sc (.bool false), .sc (.bool false), .sc (.bool false), .sc (.bool false), .sc (.bool false), .sc (.bool false), .sc (.bool false), .sc (.bool false), .sc (.bool false), .sc (.bool false), .sc (.bool false), .sc (.bool false), .sc (.bool false), .sc (.bool false), .sc (.bool false), .sc (.bool false), .sc (.bool false), .sc (.bool false), .sc (.bool false), .sc (.bool false), .sc (.bool false), .sc (.bool false), .sc (.bool false), .sc (.bool false), .sc (.bool false), .sc (.bool false), .sc (.bool false), .sc (.bool false), .sc (.bool false), .sc (.bool false), .sc (.bool false), .sc (.bool false), .sc (.bool false), .sc (.bool false), .sc (.bool false), .sc (.bool false), .sc (.bool false), .sc (.bool false), .sc (.bool false), .sc (.bool false), .sc (.bool false), .sc (.bool false), .sc (.bool false), .sc (.bool false), .sc (.bool false), .sc (.bool false), .sc (.bool false), .sc (.bool false), .sc (.bool false), .sc (.bool false), .sc (.bool false), .sc (.bool false), .sc (.bool false), .sc (.bool false), .sc (.bool false), .sc (.bool false), .sc (.bool false), .sc (.bool false), .sc (.bool false), .sc (.bool false), .sc (.bool false), .sc (.bool false), .sc (.bool false), .sc (.bool false), .sc (.bool false), .sc (.bool false), .sc (.bool false), .sc (.bool false), .sc (.bool false), .sc (.bool false), .sc (.bool false), .sc (.bool false), .sc (.bool false), .sc (.bool false), .sc (.bool false), .sc (.bool false), .sc (.bool false), .sc (.bool false), .sc (.bool false), .sc (.bool false), .sc (.bool false), .sc (.bool false), .sc (.bool false), .sc (.bool false), .sc (.bool false), .sc (.bool false), .sc (.bool false), .sc (.bool false), .sc (.bool false), .sc (.bool false), .sc (.bool false), .sc (.bool false), .sc (.bool false), .sc (.bool false), .sc (.bool false), .sc (.bool false), .sc (.bool false), .sc (.bool false), .sc (.bool false), .sc (.bool false), .sc (.bool false), .sc (.bool false), .sc (.bool false), .sc (.bool false), .sc (.bool false), .sc (.bool false), .sc (.bool false), .sc (.bool false), .sc (.bool false), .sc (.bool false), .sc (.bool false), .sc (.bool false), .sc (.bool false), .sc (.bool false), .sc (.bool false), .sc (.bool false), .sc (.bool false), .sc (.bool false), .sc (.bool false), .sc (.bool false), .sc (.bool false), .sc (.bool false), .sc (.bool false), .sc (.bool false), .sc (.bool false), .sc (.bool false), .sc (.bool false), .sc (.bool false), .sc (.bool false), .sc (.bool false), .sc (.bool false), .sc (.bool false), .sc (.bool false), .sc (.bool false), .sc (.bool false), .sc (.bool false), .sc (.bool false), .sc (.bool false), .sc (.bool false), .sc (.bool false), .sc (.bool false), .sc (.bool false), .sc (.bool false), .sc (.bool false), .sc (.bool false), .sc (.bool false), .sc (.bool false), .sc (.bool false), .sc (.bool false), .sc (.bool false), .sc (.bool false), .sc (.bool false), .sc (.bool false), .sc (.bool false), .sc (.bool false), .sc (.bool false), .sc (.bool false), .sc (.bool false), .sc (.bool false), .sc (.bool false), .sc (.bool false), .sc (.bool false), .sc (.bool false), .sc (.bool false), .sc (.bool false), .sc (.bool false), .sc (.bool false), .sc (.bool false), .sc (.bool false), .sc (.bool false), .sc (.bool false), .sc (.bool false), .sc (.bool false), .sc (.bool false), .sc (.bool false), .sc (.bool false), .sc (.bool false), .sc (.bool false), .sc (.bool false), .sc (.bool false), .sc (.bool false), .sc (.bool false), .sc (.bool false), .sc (.bool false), .sc (.bool false), .sc (.bool false), .sc (.bool false), .sc (.bool false), .sc (.bool false), .sc (.bool false), .sc (.bool false), .sc (.bool false), .sc (.bool false), .sc (.bool false), .sc (.bool false), .sc (.bool false), .sc (.bool false), .sc (.bool false), .sc (.bool false), .sc (.bool false), .sc (.bool false), .sc (.bool false), .sc (.bool false), .sc (.bool false), .sc (.bool false), .sc (.bool false), .sc (.bool false), .sc (.bool false), .sc (.bool false)]), (129, [.sc (.bool false), .sc (.bool false), .sc (.bool false), .sc (.bool false), .sc (.bool false), .sc (.bool false), .sc (.bool false), .sc (.bool false), .sc (.bool false), .sc (.bool false), .sc (.bool false), .sc (.bool false), .sc (.bool false), .sc (.bool false), .sc (.bool false), .sc (.bool false), .sc (.bool false), .sc (.bool false), .sc (.bool false), .sc (.bool false), .sc (.bool false), .sc (.bool false), .sc (.bool false), .sc (.bool false), .sc (.bool false), .sc (.bool false), .sc (.bool false), .sc (.bool false), .sc (.bool false), .sc (.bool false), .sc (.bool false), .sc (.bool false), .sc (.bool false), .sc (.bool false), .sc (.bool false), .sc (.bool false), .sc (.bool false), .sc (.bool false), .sc (.bool false), .sc (.bool false), .sc (.bool false), .sc (.bool false), .sc (.bool false), .sc (.bool false), .sc (.bool false), .sc (.bool false), .sc (.bool false), .sc (.bool false), .sc (.bool false), .sc (.bool false), .sc (.bool false), .sc (.bool false), .sc (.bool false), .sc (.bool false), .sc (.bool false), .sc (.bool false), .sc (.bool false), .sc (.bool false), .sc (.bool false), .sc (.bool false), .sc (.bool false), .sc (.bool false), .sc (.bool false), .sc (.bool false), .sc (.bool false), .sc (.bool false), .sc (.bool false), .sc (.bool false), .sc (.bool false), .sc (.bool false), .sc (.bool false), .sc (.bool false), .sc (.bool false), .sc (.bool false), .sc (.bool false), .sc (.bool false), .sc (.bool false), .sc (.bool false), .sc (.bool false), .sc (.bool false), .sc (.bool false), .sc (.bool false), .sc (.bool false), .sc (.bool false), .sc (.bool false), .sc (.bool false), .sc (.bool false), .sc (.bool false), .sc (.bool false), .sc (.bool false), .sc (.bool false), .sc (.bool false), .sc (.bool false), .sc (.bool false), .sc (.bool false), .sc (.bool false), .sc (.bool false), .sc (.bool false), .sc (.bool false), .sc (.bool false), .sc (.bool false), .sc (.bool false), .sc (.bool false), .sc (.bool false), .sc (.bool false), .sc (.bool false), .sc (.bool false), .sc (.bool false), .sc (.bool false), .sc (.bool false), .sc (.bool false), .sc (.bool false), .sc (.bool false), .sc (.bool false), .sc (.bool false), .sc (.bool false), .sc (.bool false), .sc (.bool false), .sc (.bool false), .sc (.bool false), .sc (.bool false), .sc (.bool false), .sc (.bool false), .sc (.bool false), .sc (.bool false), .sc (.bool false), .sc (.bool false), .sc (.bool false), .sc (.bool false), .sc (.bool false), .sc (.bool false), .sc (.bool false), .sc (.bool false), .sc (.bool false), .sc (.bool false), .sc (.bool false), .sc (.bool false), .sc (.bool false), .sc (.bool false), .sc (.bool false), .sc (.bool false), .sc (.bool false), .sc (.bool false), .sc (.bool false), .sc (.bool false), .sc (.bool false), .sc (.bool false), .sc (.bool false), .sc (.bool false), .sc (.bool false), .sc (.bool false), .sc (.bool false), .sc (.bool false), .sc (.bool false), .sc (.bool false), .sc (.bool false), .sc (.bool false), .sc (.bool false), .sc (.bool false), .sc (.bool false), .sc (.bool false), .sc (.bool false), .sc (.bool false), .sc (.bool false), .sc (.bool false), .sc (.bool false), .sc (.bool false), .sc (.bool false), .sc (.bool false), .sc (.bool false), .sc (.bool false), .sc (.bool false), .sc (.bool false), .sc (.bool false), .sc (.bool false), .sc (.bool false), .sc (.bool false), .sc (.bool false), .sc (.bool false), .sc (.bool false), .sc (.bool false), .sc (.bool false), .sc (.bool false), .sc (.bool false), .sc (.bool false), .sc (.bool false), .sc (.bool false), .sc (.bool false), .sc (.bool false), .sc (.bool false), .sc (.bool false), .sc (.bool false), .sc (.bool false), .sc (.bool false), .sc (.bool false), .sc (.bool false), .sc (.bool false), .sc (.bool false), .sc (.bool false), .sc (.bool false), .sc (.bool false), .sc (.bool false), .sc (.bool false), .sc (.bool false), .sc (.bool false), .sc (.bool false), .sc (.bool false), .sc (.bool false), .sc (.bool false), .sc (.bool false), .sc (.bool false), .sc (.bool false), .sc (.bool false), .sc (.bool false), .sc (.bool false), .sc (.bool false), .sc (.bool false), .sc (.bool false), .sc (.bool false), .sc (.bool false), .sc (.bool false), .sc (.bool false), .sc (.bool false), .sc (.bool false), .sc (.bool false), .sc (.bool false), .sc (.bool false), .sc (.bool false), .sc (.bool false), .sc (.bool false), .sc (.bool false), .sc (.bool false), .sc (.bool false), .sc (.bool false), .sc (.bool false), .sc (.bool false), .sc (.bool false), .sc (.bool false), .sc (.bool false), .sc (.bool false), .sc (.bool false), .sc (.bool false), .sc (.bool false), .sc (.bool false), .sc (.bool false), .sc (.bool false), .sc (.bool false), .sc (.bool false), .sc (.bool false), .sc (.bool false), .sc (.bool false), .sc (.bool false), .sc (.bool false), .sc (.bool false), .sc (.bool false), .sc (.bool false)]), (131, [.sc .nilFunc]), (132, [.sc .nilFunc]), (133, [.sc (.pointer none)]), (134, [.sc (.int .u64 (0))]), (135, [.sc .nilFunc]), (136, [.sc .nilFunc]), (137, [.sc .nilFunc]), (138, [.sc (.pointer none)]), (139, [.sc .nilFunc]), (140, [.sc .nilFunc]), (141, [.sc .nilFunc]), (142, [.sc .nilFunc]), (144, [.sc .nilFunc]), (145, [.sc .nilFunc]), (146, [.sc (.pointer none)]), (148, [.sc .nilFunc]), (149, [.sc .nilFunc]), (150, [.sc .nilFunc]), (151, [.sc .nilFunc]), (153, [.sc .nilFunc]), (154, [.sc (.int .u8 (0)), .sc (.int .u8 (0)), .sc (.int .u8 (0)), .sc (.int .u8 (0)), .sc (.int .u8 (0)), .sc (.int .u8 (0)), .sc (.int .u8 (0)), .sc (.int .u8 (0)), .sc (.int .u8 (0)), .sc (.int .u8 (0)), .sc (.int .u8 (0)), .sc (.int .u8 (0)), .sc (.int .u8 (0)), .sc (.int .u8 (0)), .sc (.int .u8 (0)), .sc (.int .u8 (0)), .sc (.int .u8 (0)), .sc (.int .u8 (0)), .sc (.int .u8 (0)), .sc (.int .u8 (0)), .sc (.int .u8 (0)), .sc (.int .u8 (0)), .sc (.int .u8 (0)), .sc (.int .u8 (0)), .sc (.int .u8 (0)), .sc (.int .u8 (0)), .sc (.int .u8 (0)), .sc (.int .u8 (0)), .sc (.int .u8 (0)), .sc (.int .u8 (0)), .sc (.int .u8 (0)), .sc (.int .u8 (0)), .sc (.int .u8 (0)), .sc (.int .u8 (0)), .sc (.int .u8 (0)), .sc (.int .u8 (0)), .sc (.int .u8 (0)), .sc (.int .u8 (0)), .sc (.int .u8 (0)), .sc (.int .u8 (0)), .sc (.int .u8 (0)), .sc (.int .u8 (0)), .sc (.int .u8 (0)), .sc (.int .u8 (0)), .sc (.int .u8 (0)), .sc (.int .u8 (0)), .sc (.int .u8 (0)), .sc (.int .u8 (0)), .sc (.int .u8 (0)), .sc (.int .u8 (0)), .sc (.int .u8 (0)), .sc (.int .u8 (0)), .sc (.int .u8 (0)), .sc (.int .u8 (0)), .sc (.int .u8 (0)), .sc (.int .u8 (0)), .sc (.int .u8 (0)), .sc (.int .u8 (0)), .sc (.int .u8 (0)), .sc (.int .u8 (0)), .sc (.int .u8 (0)), .sc (.int .u8 (0)), .sc (.int .u8 (0)), .sc (.int .u8 (0)), .sc (.int .u8 (0)), .sc (.int .u8 (0)), .sc (.int .u8 (0)), .sc (.int .u8 (0)), .sc (.int .u8 (0)), .sc (.int .u8 (0)), .sc (.int .u8 (0)), .sc (.int .u8 (0)), .sc (.int .u8 (0)), .sc (.int .u8 (0)), .sc (.int .u8 (0)), .sc (.int .u8 (0)), .sc (.int .u8 (0)), .sc (.int .u8 (0)), .sc (.int .u8 (0)), .sc (.int .u8 (0)), .sc (.int .u8 (0)), .sc (.int .u8 (0)), .sc (.int .u8 (0)), .sc (.int .u8 (0)), .sc (.int .u8 (0)), .sc (.int .u8 (0)), .sc (.int .u8 (0)), .sc (.int .u8 (0)), .sc (.int .u8 (0)), .sc (.int .u8 (0)), .sc (.int .u8 (0)), .sc (.int .u8 (0)), .sc (.int .u8 (0)), .sc (.int .u8 (0)), .sc (.int .u8 (0)), .sc (.int .u8 (0)), .sc (.int .u8 (0)), .sc (.int .u8 (0)), .sc (.int .u8 (0)), .sc (.int .u8 (0)), .sc (.int .u8 (0)), .sc (.int .u8 (0)), .sc (.int .u8 (0)), .sc (.int .u8 (0)), .sc (.int .u8 (0)), .sc (.int .u8 (0)), .sc (.int .u8 (0)), .sc (.int .u8 (0)), .sc (.int .u8 (0)), .sc (.int .u8 (0)), .sc (.int .u8 (0)), .sc (.int .u8 (0)), .sc (.int .u8 (0)), .sc (.int .u8 (0)), .sc (.int .u8 (0)), .sc (.int .u8 (0)), .sc (.int .u8 (0)), .sc (.int .u8 (0)), .sc (.int .u8 (0)), .sc (.int .u8 (0)), .sc (.int .u8 (0)), .sc (.int .u8 (0)), .sc (.int .u8 (0)), .sc (.int .u8 (0)), .sc (.int .u8 (0)), .sc (.int .u8 (0)), .sc (.int .u8 (0)), .sc (.int .u8 (0)), .sc (.int .u8 (0)), .sc (.int .u8 (0)), .sc (.int .u8 (0)), .sc (.int .u8 (0)), .sc (.int .u8 (0)), .sc (.int .u8 (0)), .sc (.int .u8 (0)), .sc (.int .u8 (0)), .sc (.int .u8 (0)), .sc (.int .u8 (0)), .sc (.int .u8 (0)), .sc (.int .u8 (0)), .sc (.int .u8 (0)), .sc (.int .u8 (0)), .sc (.int .u8 (0)), .sc (.int .u8 (0)), .sc (.int .u8 (0)), .sc (.int .u8 (0)), .sc (.int .u8 (0)), .sc (.int .u8 (0)), .sc (.int .u8 (0)), .sc (.int .u8 (0)), .sc (.int .u8 (0)), .sc (.int .u8 (0)), .sc (.int .u8 (0)), .sc (.int .u8 (0)), .sc (.int .u8 (0)), .sc (.int .u8 (0)), .sc (.int .u8 (0)), .sc (.int .u8 (0)), .sc (.int .u8 (0)), .sc (.int .u8 (0)), .sc (.int .u8 (0)), .sc (.int .u8 (0)), .sc (.int .u8 (0)), .sc (.int .u8 (0)), .sc (.int .u8 (0)), .sc (.int .u8 (0)), .sc (.int .u8 (0)), .sc (.int .u8 (0)), .sc (.int .u8 (0)), .sc (.int .u8 (0)), .sc (.int .u8 (0)), .sc (.int .u8 (0)), .sc (.int .u8 (0)), .sc (.int .u8 (0)), .sc (.int .u8 (0)), .sc (.int .u8 (0)), .sc (.int .u8 (0)), .sc (.int .u8 (0)), .sc (.int .u8 (0)), .sc (.int .u8 (0)), .sc (.int .u8 (0)), .sc (.int .u8 (0)), .sc (.int .u8 (0)), .sc (.int .u8 (0)), .sc (.int .u8 (0)), .sc (.int .u8 (0)), .sc (.int .u8 (0)), .sc (.int .u8 (0)), .sc (.int .u8 (0)), .sc (.int .u8 (0)), .sc (.int .u8 (0)), .sc (.int .u8 (0)), .sc (.int .u8 (0)), .sc (.int .u8 (0)), .sc (.int .u8 (0)), .sc (.int .u8 (0)), .sc (.int .u8 (0)), .sc (.int .u8 (0)), .sc (.int .u8 (0)), .sc (.int .u8 (0)), .sc (.int .u8 (0)), .sc (.int .u8 (0)), .sc (.int .u8 (0)), .sc (.int .u8 (0)), .sc (.int .u8 (0)), .sc (.int .u8 (0)), .sc (.int .u8 (0)), .sc (.int .u8 (0)), .sc (.int .u8 (0)), .sc (.int .u8 (0)), .sc (.int .u8 (0)), .sc (.int .u8 (0)), .sc (.int .u8 (0)), .sc (.int .u8 (0)), .sc (.int .u8 (0)), .sc (.int .u8 (0)), .sc (.int .u8 (0)), .sc (.int .u8 (0)), .sc (.int .u8 (0)), .sc (.int .u8 (0)), .sc (.int .u8 (0)), .sc (.int .u8 (0)), .sc (.int .u8 (0)), .sc (.int .u8 (0)), .sc (.int .u8 (0)), .sc (.int .u8 (0)), .sc (.int .u8 (0)), .sc (.int .u8 (0)), .sc (.int .u8 (0)), .sc (.int .u8 (0)), .sc (.int .u8 (0)), .sc (.int .u8 (0)), .sc (.int .u8 (0)), .sc (.int .u8 (0)), .sc (.int .u8 (0)), .sc (.int .u8 (0)), .sc (.int .u8 (0)), .sc (.int .u8 (0)), .sc (.int .u8 (0)), .sc (.int .u8 (0)), .sc (.int .u8 (0)), .sc (.int .u8 (0)), .sc (.int .u8 (0)), .sc (.int .u8 (0)), .sc (.int .u8 (0)), .sc (.int .u8 (0)), .sc (.int .u8 (0)), .sc (.int .u8 (0)), .sc (.int .u8 (0)), .sc (.int .u8 (0)), .sc (.int .u8 (0)), .sc (.int .u8 (0)), .sc (.int .u8 (0)), .sc (.int .u8 (0)), .sc (.int .u8 (0)), .sc (.int .u8 (0))]), (155, [.sc (.int .u8 (0)), .sc (.int .u8 (0))]), (156, [.sc (.int .u8 (0)), .sc (.int .u8 (0))]), (157, [.sc (.int .u8 (0)), .sc (.int .u8 (0)), .sc (.int .u8 (0)), .sc (.int .u8 (0)), .sc (.int .u8 (0)), .sc (.int .u8 (0)), .sc (.int .u8 (0)), .sc (.int .u8 (0)), .sc (.int .u8 (0)), .sc (.int .u8 (0)), .sc (.int .u8 (0)), .sc (.int .u8 (0)), .sc (.int .u8 (0)), .sc (.int .u8 (0)), .sc (.int .u8 (0)), .sc (.int .u8 (0)), .sc (.int .u8 (0)), .sc (.int .u8 (0)), .sc (.int .u8 (0)), .sc (.int .u8 (0)), .sc (.int .u8 (0)), .sc (.int .u8 (0)), .sc (.int .u8 (0)), .sc (.int .u8 (0)), .sc (.int .u8 (0)), .sc (.int .u8 (0)), .sc (.int .u8 (0)), .sc (.int .u8 (0)), .sc (.int .u8 (0)), .sc (.int .u8 (0)), .sc (.int .u8 (0)), .sc (.int .u8 (0))]), (158, [.sc .nilFunc]), (159, [.sc .nilFunc]), (160, [.sc (.pointer none), .sc (.pointer none), .sc (.pointer none), .sc (.string ⟨#[]⟩)]), (161, [.sc (.pointer none), .sc (.pointer none), .sc (.pointer none), .sc (.string ⟨#[]⟩)]), (162, []), (163, []), (164, []), (165, [.sc (.int .u8 (0))]), (166, [.sc (.int .u8 (0))]), (167, [.sc .nilFunc]), (168, [.sc (.pointer none)]), (169, [.sc (.int .i32 (0))]), (170, [.sc (.int .i32 (0))]), (171, [.sc (.int .u64 (0)), .sc (.int .u64 (0)), .sc (.int .u32 (0)), .sc (.int .u8 (0)), .sc (.int .u8 (0)), .sc (.int .u8 (0)), .sc (.int .u8 (0)), .sc .nilFunc, .sc (.pointer none), .sc (.int .i32 (0)), .sc (.int .i32 (0))]), (172, [.sc (.int .u64 (0)), .sc (.int .u64 (0)), .sc (.int .u32 (0)), .sc (.int .u8 (0)), .sc (.int .u8 (0)), .sc (.int .u8 (0)), .sc (.int .u8 (0)), .sc .nilFunc, .sc (.pointer none), .sc (.int .i32 (0)), .sc (.int .i32 (0))]), (173, [.sc (.pointer none)])]
def tb_bt : List (Nat × (List (Nat × Nat))) := [(7, [(0, 1), (1, 1), (2, 1), (3, 1)]), (8, [(0, 1), (1, 1), (2, 1), (3, 1)]), (13, [(0, 1), (1, 1)]), (14, [(0, 1), (1, 1)]), (18, [(0, 1)]), (19, [(0, 1)]), (46, [(0, 1), (1, 1), (2, 1)]), (47, [(0, 1), (1, 1), (2, 1)]), (49, [(0, 3), (3, 1)]), (50, [(0, 3), (3, 1)]), (67, [(0, 1), (1, 1)]), (68, [(0, 1), (1, 1)]), (75, [(0, 1), (1, 1), (2, 1)]), (76, [(0, 1), (1, 1), (2, 1)]), (80, [(0, 1), (1, 1)]), (81, [(0, 1), (1, 1)]), (90, [(0, 1), (1, 1), (2, 1)]), (91, [(0, 1), (1, 1), (2, 1)]), (96, [(0, 1), (1, 1), (2, 1)]), (97, [(0, 1), (1, 1), (2, 1)]), (155, [(0, 1), (1, 1)]), (156, [(0, 1), (1, 1)]), (160, [(0, 1), (1, 1), (2, 1), (3, 1)]), (161, [(0, 1), (1, 1), (2, 1), (3, 1)]), (163, [(0, 0)]), (164, [(0, 0)]), (171, [(0, 1), (1, 1), (2, 1), (3, 1), (4, 1), (5, 1), (6, 1), (7, 1), (8, 1), (9, 1), (10, 1)]), (172, [(0, 1), (1, 1), (2, 1), (3, 1), (4, 1), (5, 1), (6, 1), (7, 1), (8, 1), (9, 1), (10, 1)])]
def tb_ss : List (Nat × (Nat)) := [(46, 3), (47, 3), (80, 2), (81, 2)]
def tb_cl : List (Nat × (Unit)) := [(2, ()), (3, ()), (4, ()), (5, ()), (6, ()), (7, ()), (8, ()), (9, ()), (10, ()), (11, ()), (12, ()), (13, ()), (14, ()), (15, ()), (16, ()), (17, ()), (18, ()), (19, ()), (20, ()), (21, ()), (22, ()), (23, ()), (24, ()), (25, ()), (26, ()), (27, ()), (28, ()), (29, ()), (30, ()), (31, ()), (32, ()), (33, ()), (34, ()), (35, ()), (36, ()), (37, ()), (38, ()), (39, ()), (40, ()), (41, ()), (42, ()), (43, ()), (44, ()), (45, ()), (46, ()), (47, ()), (48, ()), (49, ()), (50, ()), (51, ()), (52, ()), (53, ()), (54, ()), (55, ()), (56, ()), (57, ()), (58, ()), (59, ()), (60, ()), (61, ()), (62, ()), (63, ()), (64, ()), (65, ()), (66, ()), (67, ()), (68, ()), (69, ()), (70, ()), (71, ()), (72, ()), (73, ()), (74, ()), (75, ()), (76, ()), (77, ()), (78, ()), (79, ()), (80, ()), (81, ()), (82, ()), (83, ()), (84, ()), (85, ()), (86, ()), (87, ()), (88, ()), (89, ()), (90, ()), (91, ()), (92, ()), (93, ()), (94, ()), (95, ()), (96, ()), (97, ()), (98, ()), (99, ()), (100, ()), (101, ()), (102, ()), (103, ()), (104, ()), (105, ()), (106, ()), (107, ()), (108, ()), (109, ()), (110, ()), (111, ()), (112, ()), (113, ()), (114, ()), (115, ()), (116, ()), (117, ()), (118, ()), (119, ()), (120, ()), (123, ()), (124, ()), (125, ()), (126, ()), (127, ()), (128, ()), (149, ())]
def tb_by : List (Nat × (Nat)) := [(64, 5)]
def tb_pt : List (Nat × (Unit)) := [(15, ()), (16, ()), (17, ()), (51, ()), (103, ()), (106, ()), (133, ()), (138, ()), (146, ()), (168, ())]
theorem tok_ld : ∀ x ∈ tb_ld, ldT Tryd.prog x.1 = some x.2 :=
  all_cons (by kernel_rfl) (all_cons (by kernel_rfl) (all_cons (by kernel_rfl) (all_cons (by kernel_rfl) (all_cons (by kernel_rfl) (all_cons (by kernel_rfl) (all_cons (by kernel_rfl) (all_cons (by kernel_rfl) (all_cons (by kernel_rfl) (all_cons (by kernel_rfl) (all_cons (by kernel_rfl) (all_cons (by kernel_rfl) (all_cons (by kernel_rfl) (all_cons (by kernel_rfl) (all_cons (by kernel_rfl) (all_cons (by kernel_rfl) (all_cons (by kernel_rfl) (all_cons (by kernel_rfl) (all_cons (by kernel_rfl) (all_cons (by kernel_rfl) (all_cons (by kernel_rfl) (all_cons (by kernel_rfl) (all_cons (by kernel_rfl) (all_cons (by kernel_rfl) (all_cons (by kernel_rfl) (all_cons (by kernel_rfl) (all_cons (by kernel_rfl) (all_cons (by kernel_rfl) (all_cons (by kernel_rfl) (all_cons (by kernel_rfl) (all_cons (by kernel_rfl) (all_cons (by kernel_rfl) (all_cons (by kernel_rfl) (all_cons (by kernel_rfl) (all_cons (by kernel_rfl) (all_cons (by kernel_rfl) (all_cons (by kernel_rfl) (all_cons (by kernel_rfl) (all_cons (by kernel_rfl) (all_cons (by kernel_rfl) (all_cons (by kernel_rfl) (all_cons (by kernel_rfl) (all_cons (by kernel_rfl) (all_cons (by kernel_rfl) (all_cons (by kernel_rfl) (all_cons (by kernel_rfl) (all_cons (by kernel_rfl) (all_cons (by kernel_rfl) (all_cons (by kernel_rfl) (all_cons (by kernel_rfl) (all_cons (by kernel_rfl) (all_cons (by kernel_rfl) (all_cons (by kernel_rfl) (all_cons (by kernel_rfl) (all_cons (by kernel_rfl) (all_cons (by kernel_rfl) (all_cons (by kernel_rfl) (all_cons (by kernel_rfl) (all_cons (by kernel_rfl) (all_cons (by kernel_rfl) (all_cons (by kernel_rfl) (all_cons (by kernel_rfl) (all_cons (by kernel_rfl) (all_cons (by kernel_rfl) (all_cons (by kernel_rfl) (all_cons (by kernel_rfl) (all_cons (by kernel_rfl) (all_cons (by kernel_rfl) (all_cons (by kernel_rfl) (all_cons (by kernel_rfl) (all_cons (by kernel_rfl) (all_cons (by kernel_rfl) (all_cons (by kernel_rfl) (all_cons (by kernel_rfl) (all_cons (by kernel_rfl) (all_cons (by kernel_rfl) (all_cons (by kernel_rfl) (all_cons (by kernel_rfl) (all_cons (by kernel_rfl) (all_cons (by kernel_rfl) (all_cons (by kernel_rfl) (all_cons (by kernel_rfl) (all_cons (by kernel_rfl) (all_cons (by kernel_rfl) (all_cons (by kernel_rfl) (all_cons (by kernel_rfl) (all_cons (by kernel_rfl) (all_cons (by kernel_rfl) (all_cons (by kernel_rfl) (all_cons (by kernel_rfl) (all_cons (by kernel_rfl) (all_cons (by kernel_rfl) (all_cons (by kernel_rfl) (all_cons (by kernel_rfl) (all_cons (by kernel_rfl) (all_cons (by kernel_rfl) (all_cons (by kernel_rfl) (all_cons (by kernel_rfl) (all_cons (by kernel_rfl) (all_cons (by kernel_rfl) (all_cons (by kernel_rfl) (all_cons (by kernel_rfl) (all_cons (by kernel_rfl) (all_cons (by kernel_rfl) (all_cons (by kernel_rfl) (all_cons (by kernel_rfl) (all_cons (by kernel_rfl) (all_cons (by kernel_rfl) (all_cons (by kernel_rfl) (all_cons (by kernel_rfl) (all_cons (by kernel_rfl) (all_cons (by kernel_rfl) (all_cons (by kernel_rfl) (all_cons (by kernel_rfl) (all_cons (by kernel_rfl) (all_cons (by kernel_rfl) (all_cons (by kernel_rfl) (all_cons (by kernel_rfl) (all_cons (by kernel_rfl) (all_cons (by kernel_rfl) (all_cons (by kernel_rfl) (all_cons (by kernel_rfl) (all_cons (by kernel_rfl) (all_cons (by kernel_rfl) (all_cons (by kernel_rfl) (all_cons (by kernel_rfl) (all_cons (by kernel_rfl) (all_cons (by kernel_rfl) (all_cons (by kernel_rfl) (all_cons (by kernel_rfl) (all_cons (by kernel_rfl) (all_cons (by kernel_rfl) (all_cons (by kernel_rfl) (all_cons (by kernel_rfl) (all_cons (by kernel_rfl) (all_cons (by kernel_rfl) (all_cons (by kernel_rfl) (all_cons (by kernel_rfl) (all_cons (by kernel_rfl) (all_cons (by kernel_rfl) (all_cons (by kernel_rfl) (all_cons (by kernel_rfl) (all_cons (by kernel_rfl) (all_cons (by kernel_rfl) (all_cons (by kernel_rfl) (all_cons (by kernel_rfl) (all_cons (by kernel_rfl) (all_cons (by kernel_rfl) (all_cons (by kernel_rfl) (all_cons (by kernel_rfl) (all_cons (by kernel_rfl) (all_cons (by kernel_rfl) (all_cons (by kernel_rfl) (all_cons (by kernel_rfl) (all_cons (by kernel_rfl) (all_cons (by kernel_rfl) (all_cons (by kernel_rfl) (all_cons (by kernel_rfl) (all_cons (by kernel_rfl) (all_cons (by kernel_rfl) (all_cons (by kernel_rfl) (all_cons (by kernel_rfl) (all_cons (by kernel_rfl) (all_cons (by kernel_rfl) (all_cons (by kernel_rfl) (all_cons (by kernel_rfl) (all_cons (by kernel_rfl) (all_cons (by kernel_rfl) (all_cons (by kernel_rfl) (all_cons (by kernel_rfl) (all_cons (by kernel_rfl) (all_cons (by kernel_rfl) (all_cons (by kernel_rfl) (all_cons (by kernel_rfl) all_nil)))))))))))))))))))))))))))))))))))))))))))))))))))))))))))))))))))))))))))))))))))))))))))))))))))))))))))))))))))))))))))))))))))))))))))))))))))))))))))))))))))))))))))))
theorem tok_fo : ∀ x ∈ tb_fo, ∀ y ∈ x.2, fieldOff Tryd.prog x.1 y.1 = some y.2 :=
  all_cons (all_cons (by kernel_rfl) (all_cons (by kernel_rfl) (all_cons (by kernel_rfl) (all_cons (by kernel_rfl) all_nil)))) (all_cons (all_cons (by kernel_rfl) (all_cons (by kernel_rfl) (all_cons (by kernel_rfl) (all_cons (by kernel_rfl) all_nil)))) (all_cons (all_cons (by kernel_rfl) (all_cons (by kernel_rfl) all_nil)) (all_cons (all_cons (by kernel_rfl) (all_cons (by kernel_rfl) all_nil)) (all_cons (all_cons (by kernel_rfl) all_nil) (all_cons (all_cons (by kernel_rfl) all_nil) (all_cons (all_cons (by kernel_rfl) (all_cons (by kernel_rfl) (all_cons (by kernel_rfl) all_nil))) (all_cons (all_cons (by kernel_rfl) (all_cons (by kernel_rfl) (all_cons (by kernel_rfl) all_nil))) (all_cons (all_cons (by kernel_rfl) (all_cons (by kernel_rfl) all_nil)) (all_cons (all_cons (by kernel_rfl) (all_cons (by kernel_rfl) all_nil)) (all_cons (all_cons (by kernel_rfl) (all_cons (by kernel_rfl) all_nil)) (all_cons (all_cons (by kernel_rfl) (all_cons (by kernel_rfl) all_nil)) (all_cons (all_cons (by kernel_rfl) (all_cons (by kernel_rfl) (all_cons (by kernel_rfl) all_nil))) (all_cons (all_cons (by kernel_rfl) (all_cons (by kernel_rfl) (all_cons (by kernel_rfl) all_nil))) (all_cons (all_cons (by kernel_rfl) (all_cons (by kernel_rfl) all_nil)) (all_cons (all_cons (by kernel_rfl) (all_cons (by kernel_rfl) all_nil)) (all_cons (all_cons (by kernel_rfl) (all_cons (by kernel_rfl) (all_cons (by kernel_rfl) all_nil))) (all_cons (all_cons (by kernel_rfl) (all_cons (by kernel_rfl) (all_cons (by kernel_rfl) all_nil))) (all_cons (all_cons (by kernel_rfl) (all_cons (by kernel_rfl) (all_cons (by kernel_rfl) all_nil))) (all_cons (all_cons (by kernel_rfl) (all_cons (by kernel_rfl) (all_cons (by kernel_rfl) all_nil))) (all_cons (all_cons (by kernel_rfl) (all_cons (by kernel_rfl) all_nil)) (all_cons (all_cons (by kernel_rfl) (all_cons (by kernel_rfl) all_nil)) (all_cons (all_cons (by kernel_rfl) (all_cons (by kernel_rfl) (all_cons (by kernel_rfl) (all_cons (by kernel_rfl) all_nil)))) (all_cons (all_cons (by kernel_rfl) (all_cons (by kernel_rfl) (all_cons (by kernel_rfl) (all_cons (by kernel_rfl) all_nil)))) (all_cons (all_cons (by kernel_rfl) (all_cons (by kernel_rfl) (all_cons (by kernel_rfl) (all_cons (by kernel_rfl) (all_cons (by kernel_rfl) (all_cons (by kernel_rfl) (all_cons (by kernel_rfl) (all_cons (by kernel_rfl) (all_cons (by kernel_rfl) (all_cons (by kernel_rfl) (all_cons (by kernel_rfl) all_nil))))))))))) (all_cons (all_cons (by kernel_rfl) (all_cons (by kernel_rfl) (all_cons (by kernel_rfl) (all_cons (by kernel_rfl) (all_cons (by kernel_rfl) (all_cons (by kernel_rfl) (all_cons (by kernel_rfl) (all_cons (by kernel_rfl) (all_cons (by kernel_rfl) (all_cons (by kernel_rfl) (all_cons (by kernel_rfl) all_nil))))))))))) all_nil)))))))))))))))))))))))))
theorem tok_el : ∀ x ∈ tb_el, elT Tryd.prog x.1 = some x.2 :=
  all_cons (by kernel_rfl) (all_cons (by kernel_rfl) (all_cons (by kernel_rfl) (all_cons (by kernel_rfl) (all_cons (by kernel_rfl) (all_cons (by kernel_rfl) (all_cons (by kernel_rfl) (all_cons (by kernel_rfl) all_nil)))))))
theorem tok_ap : ∀ x ∈ tb_ap, appT Tryd.prog x.1 = some x.2 :=
  all_cons (by kernel_rfl) (all_cons (by kernel_rfl) (all_cons (by kernel_rfl) (all_cons (by kernel_rfl) (all_cons (by kernel_rfl) (all_cons (by kernel_rfl) (all_cons (by kernel_rfl) (all_cons (by kernel_rfl) all_nil)))))))
theorem tok_kd : ∀ x ∈ tb_kd, kdOf Tryd.prog x.1 = x.2 :=
  all_cons (by kernel_rfl) (all_cons (by kernel_rfl) (all_cons (by kernel_rfl) (all_cons (by kernel_rfl) (all_cons (by kernel_rfl) (all_cons (by kernel_rfl) (all_cons (by kernel_rfl) (all_cons (by kernel_rfl) (all_cons (by kernel_rfl) (all_cons (by kernel_rfl) (all_cons (by kernel_rfl) (all_cons (by kernel_rfl) (all_cons (by kernel_rfl) (all_cons (by kernel_rfl) (all_cons (by kernel_rfl) (all_cons (by kernel_rfl) (all_cons (by kernel_rfl) (all_cons (by kernel_rfl) (all_cons (by kernel_rfl) (all_cons (by kernel_rfl) (all_cons (by kernel_rfl) (all_cons (by kernel_rfl) (all_cons (by kernel_rfl) (all_cons (by kernel_rfl) (all_cons (by kernel_rfl) (all_cons (by kernel_rfl) (all_cons (by kernel_rfl) (all_cons (by kernel_rfl) all_nil)))))))))))))))))))))))))))
theorem tok_zb : ∀ x ∈ tb_zb, zeroOf Tryd.prog x.1 = some x.2 :=
  all_cons (by kernel_rfl) (all_cons (by kernel_rfl) (all_cons (by kernel_rfl) (all_cons (by kernel_rfl) (all_cons (by kernel_rfl) (all_cons (by kernel_rfl) (all_cons (by kernel_rfl) (all_cons (by kernel_rfl) (all_cons (by kernel_rfl) (all_cons (by kernel_rfl) (all_cons (by kernel_rfl) (all_cons (by kernel_rfl) (all_cons (by kernel_rfl) (all_cons (by kernel_rfl) (all_cons (by kernel_rfl) (all_cons (by kernel_rfl) (all_cons (by kernel_rfl) (all_cons (by kernel_rfl) (all_cons (by kernel_rfl) (all_cons (by kernel_rfl) (all_cons (by kernel_rfl) (all_cons (by kernel_rfl) (all_cons (by kernel_rfl) (all_cons (by kernel_rfl) (all_cons (by kernel_rfl) (all_cons (by kernel_rfl) (all_cons (by kernel_rfl) (all_cons (by kernel_rfl) (all_cons (by kernel_rfl) (all_cons (by kernel_rfl) (all_cons (by kernel_rfl) (all_cons (by kernel_rfl) (all_cons (by kernel_rfl) (all_cons (by kernel_rfl) (all_cons (by kernel_rfl) (all_cons (by kernel_rfl) (all_cons (by kernel_rfl) (all_cons (by kernel_rfl) (all_cons (by kernel_rfl) (all_cons (by kernel_rfl) (all_cons (by kernel_rfl) (all_cons (by kernel_rfl) (all_cons (by kernel_rfl) (all_cons (by kernel_rfl) (all_cons (by kernel_rfl) (all_cons (by kernel_rfl) (all_cons (by kernel_rfl) (all_cons (by kernel_rfl) (all_cons (by kernel_rfl) (all_cons (by kernel_rfl) (all_cons (by kernel_rfl) (all_cons (by kernel_rfl) (all_cons (by kernel_rfl) (all_cons (by kernel_rfl) (all_cons (by kernel_rfl) (all_cons (by kernel_rfl) (all_cons (by kernel_rfl) (all_cons (by kernel_rfl) (all_cons (by kernel_rfl) (all_cons (by kernel_rfl) (all_cons (by kernel_rfl) (all_cons (by kernel_rfl) (all_cons (by kernel_rfl) (all_cons (by kernel_rfl) (all_cons (by kernel_rfl) (all_cons (by kernel_rfl) (all_cons (by kernel_rfl) (all_cons (by kernel_rfl) (all_cons (by kernel_rfl) (all_cons (by kernel_rfl) (all_cons (by kernel_rfl) (all_cons (by kernel_rfl) (all_cons (by kernel_rfl) (all_cons (by kernel_rfl) (all_cons (by kernel_rfl) (all_cons (by kernel_rfl) (all_cons (by kernel_rfl) (all_cons (by kernel_rfl) (all_cons (by kernel_rfl) (all_cons (by kernel_rfl) (all_cons (by kernel_rfl) (all_cons (by kernel_rfl) (all_cons (by kernel_rfl) (all_cons (by kernel_rfl) (all_cons (by kernel_rfl) (all_cons (by kernel_rfl) (all_cons (by kernel_rfl) (all_cons (by kernel_rfl) (all_cons (by kernel_rfl) (all_cons (by kernel_rfl) (all_cons (by kernel_rfl) (all_cons (by kernel_rfl) (all_cons (by kernel_rfl) (all_cons (by kernel_rfl) (all_cons (by kernel_rfl) (all_cons (by kernel_rfl) (all_cons (by kernel_rfl) (all_cons (by kernel_rfl) (all_cons (by kernel_rfl) (all_cons (by kernel_rfl) (all_cons (by kernel_rfl) (all_cons (by kernel_rfl) (all_cons (by kernel_rfl) (all_cons (by kernel_rfl) (all_cons (by kernel_rfl) (all_cons (by kernel_rfl) (all_cons (by kernel_rfl) (all_cons (by kernel_rfl) (all_cons (by kernel_rfl) (all_cons (by kernel_rfl) (all_cons (by kernel_rfl) (all_cons (by kernel_rfl) (all_cons (by kernel_rfl) (all_cons (by kernel_rfl) (all_cons (by kernel_rfl) (all_cons (by kernel_rfl) (all_cons (by kernel_rfl) (all_cons (by kernel_rfl) (all_cons (by kernel_rfl) (all_cons (by kernel_rfl) (all_cons (by kernel_rfl) (all_cons (by kernel_rfl) (all_cons (by kernel_rfl) (all_cons (by kernel_rfl) (all_cons (by kernel_rfl) (all_cons (by kernel_rfl) (all_cons (by kernel_rfl) (all_cons (by kernel_rfl) (all_cons (by kernel_rfl) (all_cons (by kernel_rfl) (all_cons (by kernel_rfl) (all_cons (by kernel_rfl) (all_cons (by kernel_rfl) (all_cons (by kernel_rfl) (all_cons (by kernel_rfl) (all_cons (by kernel_rfl) (all_cons (by kernel_rfl) (all_cons (by kernel_rfl) (all_cons (by kernel_rfl) (all_cons (by kernel_rfl) (all_cons (by kernel_rfl) (all_cons (by kernel_rfl) (all_cons (by kernel_rfl) (all_cons (by kernel_rfl) (all_cons (by kernel_rfl) (all_cons (by kernel_rfl) (all_cons (by kernel_rfl) (all_cons (by kernel_rfl) (all_cons (by kernel_rfl) (all_cons (by kernel_rfl) (all_cons (by kernel_rfl) (all_cons (by kernel_rfl) (all_cons (by kernel_rfl) (all_cons (by kernel_rfl) (all_cons (by kernel_rfl) (all_cons (by kernel_rfl) (all_cons (by kernel_rfl) (all_cons (by kernel_rfl) (all_cons (by kernel_rfl) (all_cons (by kernel_rfl) (all_cons (by kernel_rfl) (all_cons (by kernel_rfl) (all_cons (by kernel_rfl) (all_cons (by kernel_rfl) (all_cons (by kernel_rfl) all_nil))))))))))))))))))))))))))))))))))))))))))))))))))))))))))))))))))))))))))))))))))))))))))))))))))))))))))))))))))))))))))))))))))))))))))))))))))))))))))))))))))))
theorem tok_zd : ∀ x ∈ tb_zd, zeroD Tryd.prog x.1 = some x.2 :=
  all_cons (by kernel_rfl) (all_cons (by kernel_rfl) (all_cons (by kernel_rfl) (all_cons (by kernel_rfl) (all_cons (by kernel_rfl) (all_cons (by kernel_rfl) (all_cons (by kernel_rfl) (all_cons (by kernel_rfl) (all_cons (by kernel_rfl) (all_cons (by kernel_rfl) (all_cons (by kernel_rfl) (all_cons (by kernel_rfl) (all_cons (by kernel_rfl) (all_cons (by kernel_rfl) (all_cons (by kernel_rfl) (all_cons (by kernel_rfl) (all_cons (by kernel_rfl) (all_cons (by kernel_rfl) (all_cons (by kernel_rfl) (all_cons (by kernel_rfl) (all_cons (by kernel_rfl) (all_cons (by kernel_rfl) (all_cons (by kernel_rfl) (all_cons (by kernel_rfl) (all_cons (by kernel_rfl) (all_cons (by kernel_rfl) (all_cons (by kernel_rfl) (all_cons (by kernel_rfl) (all_cons (by kernel_rfl) (all_cons (by kernel_rfl) (all_cons (by kernel_rfl) (all_cons (by kernel_rfl) (all_cons (by kernel_rfl) (all_cons (by kernel_rfl) (all_cons (by kernel_rfl) (all_cons (by kernel_rfl) (all_cons (by kernel_rfl) (all_cons (by kernel_rfl) (all_cons (by kernel_rfl) (all_cons (by kernel_rfl) (all_cons (by kernel_rfl) (all_cons (by kernel_rfl) (all_cons (by kernel_rfl) (all_cons (by kernel_rfl) (all_cons (by kernel_rfl) (all_cons (by kernel_rfl) (all_cons (by kernel_rfl) (all_cons (by kernel_rfl) (all_cons (by kernel_rfl) (all_cons (by kernel_rfl) (all_cons (by kernel_rfl) (all_cons (by kernel_rfl) (all_cons (by kernel_rfl) (all_cons (by kernel_rfl) (all_cons (by kernel_rfl) (all_cons (by kernel_rfl) (all_cons (by kernel_rfl) (all_cons (by kernel_rfl) (all_cons (by kernel_rfl) (all_cons (by kernel_rfl) (all_cons (by kernel_rfl) (all_cons (by kernel_rfl) (all_cons (by kernel_rfl) (all_cons (by kernel_rfl) (all_cons (by kernel_rfl) (all_cons (by kernel_rfl) (all_cons (by kernel_rfl) (all_cons (by kernel_rfl) (all_cons (by kernel_rfl) (all_cons (by kernel_rfl) (all_cons (by kernel_rfl) (all_cons (by kernel_rfl) (all_cons (by kernel_rfl) (all_cons (by kernel_rfl) (all_cons (by kernel_rfl) (all_cons (by kernel_rfl) (all_cons (by kernel_rfl) (all_cons (by kernel_rfl) (all_cons (by kernel_rfl) (all_cons (by kernel_rfl) (all_cons (by kernel_rfl) (all_cons (by kernel_rfl) (all_cons (by kernel_rfl) (all_cons (by kernel_rfl) (all_cons (by kernel_rfl) (all_cons (by kernel_rfl) (all_cons (by kernel_rfl) (all_cons (by kernel_rfl) (all_cons (by kernel_rfl) (all_cons (by kernel_rfl) (all_cons (by kernel_rfl) (all_cons (by kernel_rfl) (all_cons (by kernel_rfl) (all_cons (by kernel_rfl) (all_cons (by kernel_rfl) (all_cons (by kernel_rfl) (all_cons (by kernel_rfl) (all_cons (by kernel_rfl) (all_cons (by kernel_rfl) (all_cons (by kernel_rfl) (all_cons (by kernel_rfl) (all_cons (by kernel_rfl) (all_cons (by kernel_rfl) (all_cons (by kernel_rfl) (all_cons (by kernel_rfl) (all_cons (by kernel_rfl) (all_cons (by kernel_rfl) (all_cons (by kernel_rfl) (all_cons (by kernel_rfl) (all_cons (by kernel_rfl) (all_cons (by kernel_rfl) (all_cons (by kernel_rfl) (all_cons (by kernel_rfl) (all_cons (by kernel_rfl) (all_cons (by kernel_rfl) (all_cons (by kernel_rfl) (all_cons (by kernel_rfl) (all_cons (by kernel_rfl) (all_cons (by kernel_rfl) (all_cons (by kernel_rfl) (all_cons (by kernel_rfl) (all_cons (by kernel_rfl) (all_cons (by kernel_rfl) (all_cons (by kernel_rfl) (all_cons (by kernel_rfl) (all_cons (by kernel_rfl) (all_cons (by kernel_rfl) (all_cons (by kernel_rfl) (all_cons (by kernel_rfl) (all_cons (by kernel_rfl) (all_cons (by kernel_rfl) (all_cons (by kernel_rfl) (all_cons (by kernel_rfl) (all_cons (by kernel_rfl) (all_cons (by kernel_rfl) (all_cons (by kernel_rfl) (all_cons (by kernel_rfl) (all_cons (by kernel_rfl) (all_cons (by kernel_rfl) (all_cons (by kernel_rfl) (all_cons (by kernel_rfl) (all_cons (by kernel_rfl) (all_cons (by kernel_rfl) (all_cons (by kernel_rfl) (all_cons (by kernel_rfl) (all_cons (by kernel_rfl) (all_cons (by kernel_rfl) (all_cons (by kernel_rfl) (all_cons (by kernel_rfl) (all_cons (by kernel_rfl) (all_cons (by kernel_rfl) (all_cons (by kernel_rfl) (all_cons (by kernel_rfl) (all_cons (by kernel_rfl) (all_cons (by kernel_rfl) (all_cons (by kernel_rfl) (all_cons (by kernel_rfl) (all_cons (by kernel_rfl) (all_cons (by kernel_rfl) (all_cons (by kernel_rfl) (all_cons (by kernel_rfl) (all_cons (by kernel_rfl) (all_cons (by kernel_rfl) (all_cons (by kernel_rfl) (all_cons (by kernel_rfl) all_nil))))))))))))))))))))))))))))))))))))))))))))))))))))))))))))))))))))))))))))))))))))))))))))))))))))))))))))))))))))))))))))))))))))))))))))))))))))))))))))))))))))
theorem tok_bt : ∀ x ∈ tb_bt, buildT Tryd.prog x.1 = some x.2 :=
  all_cons (by kernel_rfl) (all_cons (by kernel_rfl) (all_cons (by kernel_rfl) (all_cons (by kernel_rfl) (all_cons (by kernel_rfl) (all_cons (by kernel_rfl) (all_cons (by kernel_rfl) (all_cons (by kernel_rfl) (all_cons (by kernel_rfl) (all_cons (by kernel_rfl) (all_cons (by kernel_rfl) (all_cons (by kernel_rfl) (all_cons (by kernel_rfl) (all_cons (by kernel_rfl) (all_cons (by kernel_rfl) (all_cons (by kernel_rfl) (all_cons (by kernel_rfl) (all_cons (by kernel_rfl) (all_cons (by kernel_rfl) (all_cons (by kernel_rfl) (all_cons (by kernel_rfl) (all_cons (by kernel_rfl) (all_cons (by kernel_rfl) (all_cons (by kernel_rfl) (all_cons (by kernel_rfl) (all_cons (by kernel_rfl) (all_cons (by kernel_rfl) (all_cons (by kernel_rfl) all_nil)))))))))))))))))))))))))))
theorem tok_ss : ∀ x ∈ tb_ss, strStruct Tryd.prog x.1 = some x.2 :=
  all_cons (by kernel_rfl) (all_cons (by kernel_rfl) (all_cons (by kernel_rfl) (all_cons (by kernel_rfl) all_nil)))
theorem tok_cl : ∀ x ∈ tb_cl, callable Tryd.prog x.1 = true :=
  all_cons (by kernel_rfl) (all_cons (by kernel_rfl) (all_cons (by kernel_rfl) (all_cons (by kernel_rfl) (all_cons (by kernel_rfl) (all_cons (by kernel_rfl) (all_cons (by kernel_rfl) (all_cons (by kernel_rfl) (all_cons (by kernel_rfl) (all_cons (by kernel_rfl) (all_cons (by kernel_rfl) (all_cons (by kernel_rfl) (all_cons (by kernel_rfl) (all_cons (by kernel_rfl) (all_cons (by kernel_rfl) (all_cons (by kernel_rfl) (all_cons (by kernel_rfl) (all_cons (by kernel_rfl) (all_cons (by kernel_rfl) (all_cons (by kernel_rfl) (all_cons (by kernel_rfl) (all_cons (by kernel_rfl) (all_cons (by kernel_rfl) (all_cons (by kernel_rfl) (all_cons (by kernel_rfl) (all_cons (by kernel_rfl) (all_cons (by kernel_rfl) (all_cons (by kernel_rfl) (all_cons (by kernel_rfl) (all_cons (by kernel_rfl) (all_cons (by kernel_rfl) (all_cons (by kernel_rfl) (all_cons (by kernel_rfl) (all_cons (by kernel_rfl) (all_cons (by kernel_rfl) (all_cons (by kernel_rfl) (all_cons (by kernel_rfl) (all_cons (by kernel_rfl) (all_cons (by kernel_rfl) (all_cons (by kernel_rfl) (all_cons (by kernel_rfl) (all_cons (by kernel_rfl) (all_cons (by kernel_rfl) (all_cons (by kernel_rfl) (all_cons (by kernel_rfl) (all_cons (by kernel_rfl) (all_cons (by kernel_rfl) (all_cons (by kernel_rfl) (all_cons (by kernel_rfl) (all_cons (by kernel_rfl) (all_cons (by kernel_rfl) (all_cons (by kernel_rfl) (all_cons (by kernel_rfl) (all_cons (by kernel_rfl) (all_cons (by kernel_rfl) (all_cons (by kernel_rfl) (all_cons (by kernel_rfl) (all_cons (by kernel_rfl) (all_cons (by kernel_rfl) (all_cons (by kernel_rfl) (all_cons (by kernel_rfl) (all_cons (by kernel_rfl) (all_cons (by kernel_rfl) (all_cons (by kernel_rfl) (all_cons (by kernel_rfl) (all_cons (by kernel_rfl) (all_cons (by kernel_rfl) (all_cons (by kernel_rfl) (all_cons (by kernel_rfl) (all_cons (by kernel_rfl) (all_cons (by kernel_rfl) (all_cons (by kernel_rfl) (all_cons (by kernel_rfl) (all_cons (by kernel_rfl) (all_cons (by kernel_rfl) (all_cons (by kernel_rfl) (all_cons (by kernel_rfl) (all_cons (by kernel_rfl) (all_cons (by kernel_rfl) (all_cons (by kernel_rfl) (all_cons (by kernel_rfl) (all_cons (by kernel_rfl) (all_cons (by kernel_rfl) (all_cons (by kernel_rfl) (all_cons (by kernel_rfl) (all_cons (by kernel_rfl) (all_cons (by kernel_rfl) (all_cons (by kernel_rfl) (all_cons (by kernel_rfl) (all_cons (by kernel_rfl) (all_cons (by kernel_rfl) (all_cons (by kernel_rfl) (all_cons (by kernel_rfl) (all_cons (by kernel_rfl) (all_cons (by kernel_rfl) (all_cons (by kernel_rfl) (all_cons (by kernel_rfl) (all_cons (by kernel_rfl) (all_cons (by kernel_rfl) (all_cons (by kernel_rfl) (all_cons (by kernel_rfl) (all_cons (by kernel_rfl) (all_cons (by kernel_rfl) (all_cons (by kernel_rfl) (all_cons (by kernel_rfl) (all_cons (by kernel_rfl) (all_cons (by kernel_rfl) (all_cons (by kernel_rfl) (all_cons (by kernel_rfl) (all_cons (by kernel_rfl) (all_cons (by kernel_rfl) (all_cons (by kernel_rfl) (all_cons (by kernel_rfl) (all_cons (by kernel_rfl) (all_cons (by kernel_rfl) (all_cons (by kernel_rfl) (all_cons (by kernel_rfl) (all_cons (by kernel_rfl) (all_cons (by kernel_rfl) (all_cons (by kernel_rfl) (all_cons (by kernel_rfl) (all_cons (by kernel_rfl) (all_cons (by kernel_rfl) (all_cons (by kernel_rfl) (all_cons (by kernel_rfl) (all_cons (by kernel_rfl) all_nil)))))))))))))))))))))))))))))))))))))))))))))))))))))))))))))))))))))))))))))))))))))))))))))))))))))))))))))))))))))))))))))
theorem tok_by : ∀ x ∈ tb_by, byteT Tryd.prog x.1 = some x.2 :=
  all_cons (by kernel_rfl) all_nil
theorem tok_pt : ∀ x ∈ tb_pt, ptrT Tryd.prog x.1 = true :=
  all_cons (by kernel_rfl) (all_cons (by kernel_rfl) (all_cons (by kernel_rfl) (all_cons (by kernel_rfl) (all_cons (by kernel_rfl) (all_cons (by kernel_rfl) (all_cons (by kernel_rfl) (all_cons (by kernel_rfl) (all_cons (by kernel_rfl) (all_cons (by kernel_rfl) all_nil)))))))))
def tb_cv : List (Nat × List (Nat × (Nat × Nat))) := []
theorem tok_cv : ∀ x ∈ tb_cv, ∀ y ∈ x.2, CvOk Tryd.prog x.1 y.1 y.2.1 y.2.2 := all_nil
def tb_ei : List (Nat × Unit) := []
theorem tok_ei : ∀ x ∈ tb_ei, IdFn Tryd.prog x.1 := all_nil
def tab : Tab := mkTab tb_ld tb_fo tb_el tb_ap tb_kd tb_zb tb_zd tb_bt tb_ss tb_cl tb_by tb_cv tb_ei tb_pt
theorem tabOk : TabOk Tryd.prog tab := mkTab_ok tok_ld tok_fo tok_el tok_ap tok_kd tok_zb tok_zd tok_bt tok_ss tok_cl tok_by tok_cv tok_ei tok_pt (by kernel_rfl)
end Go.Proofs.Nw.K
end
section
/- S1: strings, as values. -/
open Go
set_option linter.unusedVariables false
set_option linter.unusedSimpArgs false
namespace Go.Proofs.Nw.K

theorem str_ext {a b : Str} (h : a.data.toList = b.data.toList) : a = b := by
  cases a; cases b; simp at h; subst h; rfl
theorem toList_inj {a b : Str} : a.toList = b.toList ↔ a = b := by
  rw [ByteArray.toList_eq, ByteArray.toList_eq]
  exact ⟨str_ext, fun h => by rw [h]⟩
theorem str_beq (a b : Str) : (a.toList == b.toList) = decide (a = b) := by
  by_cases h : a = b
  · subst h; simp
  · have : ¬ a.toList = b.toList := fun e => h (toList_inj.1 e)
    simp [h, this]
theorem str_app (a b : Str) : (a ++ b).data.toList = a.data.toList ++ b.data.toList := by simp
theorem str_size (a : Str) : a.size = a.data.toList.length := by simp only [Array.length_toList]; rfl
theorem app_assoc (a b c : Str) : a ++ b ++ c = a ++ (b ++ c) := str_ext (by simp)
theorem emp_app (a : Str) : emp ++ a = a := str_ext (by rw [str_app]; rfl)
theorem app_emp (a : Str) : a ++ emp = a := str_ext (by rw [str_app]; show a.data.toList ++ [] = _; simp)
theorem app_size (a b : Str) : (a ++ b).size = a.size + b.size := by simp
theorem sz_lit (a : Array UInt8) : (ByteArray.mk a).size = a.size := rfl
theorem app_inj_left {a b c : Str} : a ++ b = a ++ c ↔ b = c :=
  ⟨fun h => str_ext (by have := congrArg (fun s : Str => s.data.toList) h; simpa using this), fun h => by rw [h]⟩

def orOf : List Str → Str
  | [] => emp
  | s :: r => if s.toList == emp.toList then orOf r else s

def joinOf (l : List Str) (sep : Str) : Str := ⟨(Lib.join (l.map (·.data.toList)) sep.data.toList).toArray⟩
theorem join_cons (x y : Str) (l : List Str) (sep : Str) : joinOf (x :: y :: l) sep = x ++ sep ++ joinOf (y :: l) sep := by
  apply str_ext
  simp only [joinOf, str_app, Lib.join, List.map_cons]
  simp [List.intercalate]
theorem join_one (x : Str) (sep : Str) : joinOf [x] sep = x := by
  apply str_ext
  simp [joinOf, Lib.join_one]

def jar : Str := ⟨#[106, 97, 114]⟩
def colon : Str := ⟨#[58]⟩
def nl : Str := ⟨#[10]⟩
def tyOf (d : Dep) : Str := if d.type.toList == emp.toList then jar else d.type
def keyOf (d : Dep) : Str := d.group ++ colon ++ d.name ++ colon ++ tyOf d ++ colon ++ d.classifier
def lineOf (d : Dep) : Str :=
  (if d.classifier.toList == emp.toList then d.group ++ colon ++ d.name ++ colon ++ tyOf d else d.group ++ colon ++ d.name ++ colon ++ tyOf d ++ colon ++ d.classifier) ++ colon ++ d.version ++ colon ++ d.scope
def linesOf : List Dep → Str
  | [] => emp
  | d :: r => lineOf d ++ nl ++ linesOf r

theorem linesOf_append (a b : List Dep) : linesOf (a ++ b) = linesOf a ++ linesOf b := by
  induction a with
  | nil => simp [linesOf, emp_app]
  | cons d r ih => simp [linesOf, ih, app_assoc]

theorem tyOf_size (d : Dep) : (tyOf d).size ≤ d.type.size + 3 := by
  unfold tyOf; split
  · show 3 ≤ _; omega
  · omega
theorem lineOf_size (d : Dep) : (lineOf d).size ≤ d.wt + 3 := by
  have h := tyOf_size d
  have hc : colon.size = 1 := rfl
  unfold lineOf Dep.wt
  split <;> (simp only [app_size, hc]; omega)
theorem linesOf_size (l : List Dep) : (linesOf l).size ≤ (l.map Dep.wt).sum + 4 * l.length := by
  induction l with
  | nil => show 0 ≤ _; omega
  | cons d r ih =>
    have h := lineOf_size d
    have hn : nl.size = 1 := rfl
    simp only [linesOf, app_size, List.map_cons, List.sum_cons, List.length_cons, hn]
    omega
theorem wt_pos (d : Dep) : 9 ≤ d.wt := by unfold Dep.wt; omega
theorem len_le_wt (l : List Dep) : 9 * l.length ≤ (l.map Dep.wt).sum := by
  induction l with
  | nil => simp
  | cons d r ih => have := wt_pos d; simp; omega
end Go.Proofs.Nw.K
end
section
/- QE: versions, word by word: data, and what the program computes of them, in plain Lean. -/
open Go Go.RowKit
set_option linter.unusedVariables false
set_option linter.unusedSimpArgs false
namespace Go.Proofs.Nw.K

structure Wd where
  kind : Int
  text : Str
structure Pt where
  text : Str
  dash : Bool
  number : Bool
def encWd (w : Wd) : List D := [dint w.kind, dstr w.text]
def zWd : Wd := ⟨0, emp⟩
abbrev dWds (l : List Wd) : D := .tl Wd 2 encWd zWd l
def encPt (p : Pt) : List D := [dstr p.text, dbool p.dash, dbool p.number]
def zPt : Pt := ⟨emp, false, false⟩
abbrev dPts (l : List Pt) : D := .tl Pt 3 encPt zPt l

/-! ### words held against each other -/
def strCmp (a b : ByteArray) : Int := if Op.bytesLess a.toList b.toList then -1 else if Op.bytesLess a.toList b.toList || a.toList == b.toList then 0 else 1
def cmpI (a b : Int) : Int := if a < b then -1 else if b < a then 1 else 0
def orI : List Int → Int
  | [] => 0
  | n :: r => if n = 0 then orI r else n
def nothing : Wd := ⟨6, emp⟩
def atW (l : List Wd) (i : Nat) : Wd := l.getD i nothing
def wordCmp (a b : Wd) : Int :=
  if cmpI a.kind b.kind ≠ 0 then cmpI a.kind b.kind
  else if a.kind = 8 then strCmp a.text b.text
  else if a.kind = 9 ∨ a.kind = 10 then orI [cmpI a.text.size b.text.size, strCmp a.text b.text]
  else 0
def seqFrom (a b : List Wd) : Nat → Nat → Int
  | 0, _ => 0
  | n + 1, i => if wordCmp (atW a i) (atW b i) ≠ 0 then wordCmp (atW a i) (atW b i) else seqFrom a b n (i + 1)
def wordsCmp (a b : List Wd) : Int := seqFrom a b (max (max a.length b.length) 1) 0

/-- which of two is the greater: what such an answer has -/
structure TotPre {α : Type} (c : α → α → Int) : Prop where
  vals : ∀ a b, c a b = -1 ∨ c a b = 0 ∨ c a b = 1
  anti : ∀ a b, c a b = - c b a
  trans : ∀ a b d, c a b ≤ 0 → c b d ≤ 0 → c a d ≤ 0

theorem TotPre.refl {α : Type} {c : α → α → Int} (h : TotPre c) (a : α) : c a a = 0 := by have := h.anti a a; omega
theorem TotPre.subst {α : Type} {c : α → α → Int} (h : TotPre c) {a b : α} (e : c a b = 0) (d : α) : c a d = c b d := by
  have e' : c b a = 0 := by have := h.anti a b; omega
  have k1 := h.trans a b d (by omega)
  have k2 := h.trans b a d (by omega)
  have k3 := fun x => h.trans d a b x (by omega)
  have k4 := fun x => h.trans d b a x (by omega)
  have a1 := h.anti a d
  have a2 := h.anti b d
  have v1 := h.vals a d
  have v2 := h.vals b d
  rcases v1 with v1 | v1 | v1 <;> rcases v2 with v2 | v2 | v2 <;> first | omega | (exfalso; have := k1 (by omega); omega) | (exfalso; have := k2 (by omega); omega) | (exfalso; have := k3 (by omega); omega) | (exfalso; have := k4 (by omega); omega)
/-- strictly, on one side, and less or alike, on the other one -/
theorem TotPre.lt_le {α : Type} {c : α → α → Int} (h : TotPre c) {a b d : α} (h1 : c a b < 0) (h2 : c b d ≤ 0) : c a d < 0 := by
  rcases h.vals a d with v | v | v
  · omega
  · have := h.subst v b
    have := h.anti b d
    omega
  · have := h.trans a b d (by omega) h2
    omega
theorem TotPre.le_lt {α : Type} {c : α → α → Int} (h : TotPre c) {a b d : α} (h1 : c a b ≤ 0) (h2 : c b d < 0) : c a d < 0 := by
  rcases h.vals a d with v | v | v
  · omega
  · have := h.subst v b
    have := h.anti b d
    have := h.anti a b
    have := h.anti d b
    omega
  · have := h.trans a b d h1 (by omega)
    omega

theorem TotPre.pull {α β : Type} {c : α → α → Int} (h : TotPre c) (f : β → α) : TotPre (fun a b => c (f a) (f b)) :=
  ⟨fun a b => h.vals _ _, fun a b => h.anti _ _, fun a b d => h.trans _ _ _⟩
theorem TotPre.lex {α : Type} {c d : α → α → Int} (h : TotPre c) (k : TotPre d) : TotPre (fun a b => if c a b ≠ 0 then c a b else d a b) := by
  refine ⟨fun a b => ?_, fun a b => ?_, fun a b e h1 h2 => ?_⟩
  · show (if c a b ≠ 0 then c a b else d a b) = -1 ∨ (if c a b ≠ 0 then c a b else d a b) = 0 ∨ (if c a b ≠ 0 then c a b else d a b) = 1
    split
    · exact h.vals a b
    · exact k.vals a b
  · have a1 := h.anti a b
    have a2 := k.anti a b
    show (if c a b ≠ 0 then c a b else d a b) = -(if c b a ≠ 0 then c b a else d b a)
    split <;> split <;> omega
  · have h1 : (if c a b ≠ 0 then c a b else d a b) ≤ 0 := h1
    have h2 : (if c b e ≠ 0 then c b e else d b e) ≤ 0 := h2
    show (if c a e ≠ 0 then c a e else d a e) ≤ 0
    by_cases e1 : c a b = 0
    · have s := h.subst e1 e
      rw [if_neg (by simpa using e1)] at h1
      by_cases e2 : c b e = 0
      · rw [if_neg (by simpa using e2)] at h2
        rw [if_neg (by omega)]
        exact k.trans a b e h1 h2
      · rw [if_pos e2] at h2
        rw [if_pos (by omega)]
        omega
    · rw [if_pos e1] at h1
      have h3 : c b e ≤ 0 := by
        by_cases e2 : c b e = 0
        · omega
        · rw [if_pos e2] at h2; exact h2
      have := h.lt_le (a := a) (b := b) (d := e) (by omega) h3
      rw [if_pos (by omega)]
      omega

theorem cmpI_spec (a b : Int) : (a < b ∧ cmpI a b = -1) ∨ (a = b ∧ cmpI a b = 0) ∨ (b < a ∧ cmpI a b = 1) := by
  unfold cmpI
  by_cases h1 : a < b
  · exact .inl ⟨h1, if_pos h1⟩
  · by_cases h2 : b < a
    · exact .inr (.inr ⟨h2, by rw [if_neg h1, if_pos h2]⟩)
    · exact .inr (.inl ⟨by omega, by rw [if_neg h1, if_neg h2]⟩)
theorem totI : TotPre cmpI := by
  refine ⟨fun a b => ?_, fun a b => ?_, fun a b d h1 h2 => ?_⟩
  · have := cmpI_spec a b; omega
  · have := cmpI_spec a b; have := cmpI_spec b a; omega
  · have := cmpI_spec a b; have := cmpI_spec b d; have := cmpI_spec a d; omega

theorem strCmp_lt {a b : ByteArray} (h : a.toList < b.toList) : strCmp a b = -1 := by simp [strCmp, bytesLess_eq, h]
theorem strCmp_eq (a : ByteArray) : strCmp a a = 0 := by simp [strCmp, bytesLess_eq, List.lt_irrefl]
theorem strCmp_gt {a b : ByteArray} (h : b.toList < a.toList) : strCmp a b = 1 := by
  have h1 : ¬ a.toList < b.toList := fun e => List.lt_irrefl _ (List.lt_trans h e)
  have h2 : ¬ a.toList = b.toList := fun e => by rw [e] at h; exact List.lt_irrefl _ h
  simp [strCmp, bytesLess_eq, h1, h2]
theorem str_tri (a b : ByteArray) : a.toList < b.toList ∨ a = b ∨ b.toList < a.toList := by
  by_cases h1 : a.toList < b.toList
  · exact .inl h1
  by_cases h2 : b.toList < a.toList
  · exact .inr (.inr h2)
  exact .inr (.inl (toList_inj.1 (List.le_antisymm (List.not_lt.1 h2) (List.not_lt.1 h1))))
theorem strCmp_zero {a b : ByteArray} (h : strCmp a b = 0) : a = b := by
  rcases str_tri a b with e | e | e
  · rw [strCmp_lt e] at h; omega
  · exact e
  · rw [strCmp_gt e] at h; omega
theorem totS : TotPre strCmp := by
  refine ⟨fun a b => ?_, fun a b => ?_, fun a b d h1 h2 => ?_⟩
  · rcases str_tri a b with e | e | e
    · exact .inl (strCmp_lt e)
    · subst e; exact .inr (.inl (strCmp_eq a))
    · exact .inr (.inr (strCmp_gt e))
  · rcases str_tri a b with e | e | e
    · rw [strCmp_lt e, strCmp_gt e]
    · subst e; rw [strCmp_eq]; rfl
    · rw [strCmp_lt e, strCmp_gt e]; rfl
  · rcases str_tri a b with e | e | e
    · rcases str_tri b d with e' | e' | e'
      · rw [strCmp_lt (List.lt_trans e e')]; omega
      · subst e'; exact h1
      · rw [strCmp_gt e'] at h2; omega
    · subst e; exact h2
    · rw [strCmp_gt e] at h1; omega

def keyLen (w : Wd) : Int := if w.kind = 9 ∨ w.kind = 10 then w.text.size else 0
def keyText (w : Wd) : Str := if w.kind = 8 ∨ w.kind = 9 ∨ w.kind = 10 then w.text else emp

theorem wordCmp_eq (a b : Wd) : wordCmp a b = (if cmpI a.kind b.kind ≠ 0 then cmpI a.kind b.kind else if cmpI (keyLen a) (keyLen b) ≠ 0 then cmpI (keyLen a) (keyLen b) else strCmp (keyText a) (keyText b)) := by
  unfold wordCmp
  by_cases h : cmpI a.kind b.kind = 0
  · have hk : a.kind = b.kind := by
      have := cmpI_spec a.kind b.kind
      omega
    have hz0 : ¬ (cmpI a.kind b.kind ≠ 0) := fun c => c h
    rw [if_neg hz0, if_neg hz0]
    clear h hz0
    unfold keyLen keyText
    rw [← hk]
    clear hk
    by_cases h8 : a.kind = 8
    · have h9 : ¬ (a.kind = 9 ∨ a.kind = 10) := by omega
      rw [if_pos h8, if_neg h9, if_neg h9, if_pos (Or.inl h8), if_pos (Or.inl h8)]; rfl
    · by_cases h9 : a.kind = 9 ∨ a.kind = 10
      · rw [if_neg h8, if_pos h9, if_pos h9, if_pos h9, if_pos (Or.inr h9), if_pos (Or.inr h9)]
        simp only [orI]
        by_cases hz : cmpI (a.text.size : Int) (b.text.size : Int) = 0
        · have hz1 : ¬ (cmpI (a.text.size : Int) (b.text.size : Int) ≠ 0) := fun c => c hz
          rw [if_pos hz, if_neg hz1]
          by_cases hs : strCmp a.text b.text = 0
          · rw [if_pos hs, hs]
          · rw [if_neg hs]
        · rw [if_neg hz, if_pos hz]
      · have h10 : ¬ (a.kind = 8 ∨ a.kind = 9 ∨ a.kind = 10) := fun c => c.elim h8 h9
        rw [if_neg h8, if_neg h9, if_neg h9, if_neg h9, if_neg h10, if_neg h10, strCmp_eq]; rfl
  · rw [if_pos h, if_pos h]

theorem totW : TotPre wordCmp := by
  have := (totI.pull (fun w : Wd => w.kind)).lex ((totI.pull keyLen).lex (totS.pull keyText))
  have e : wordCmp = fun a b => (if cmpI a.kind b.kind ≠ 0 then cmpI a.kind b.kind else if cmpI (keyLen a) (keyLen b) ≠ 0 then cmpI (keyLen a) (keyLen b) else strCmp (keyText a) (keyText b)) := funext fun a => funext fun b => wordCmp_eq a b
  rw [e]; exact this

theorem totSeq : ∀ (n i : Nat), TotPre (fun a b => seqFrom a b n i)
  | 0, i => ⟨fun _ _ => .inr (.inl rfl), fun _ _ => rfl, fun _ _ _ _ _ => Int.le_refl 0⟩
  | n + 1, i => (totW.pull (fun l => atW l i)).lex (totSeq n (i + 1))

theorem atW_ge {l : List Wd} {i : Nat} (h : l.length ≤ i) : atW l i = nothing := by
  simp [atW, List.getD, List.getElem?_eq_none h]

theorem seq_nothing (a b : List Wd) : ∀ (n i : Nat), a.length ≤ i → b.length ≤ i → seqFrom a b n i = 0
  | 0, _, _, _ => rfl
  | n + 1, i, h1, h2 => by
    unfold seqFrom
    rw [atW_ge h1, atW_ge h2, totW.refl]
    simp [seq_nothing a b n (i + 1) (by omega) (by omega)]

theorem seq_more (a b : List Wd) : ∀ (n m i : Nat), a.length ≤ i + n → b.length ≤ i + n → seqFrom a b (n + m) i = seqFrom a b n i
  | 0, m, i, h1, h2 => by rw [seq_nothing a b _ i (by omega) (by omega)]; rfl
  | n + 1, m, i, h1, h2 => by
    rw [show n + 1 + m = (n + m) + 1 by omega]
    unfold seqFrom
    rw [seq_more a b n m (i + 1) (by omega) (by omega)]

theorem wordsCmp_seq (a b : List Wd) (n : Nat) (h1 : a.length ≤ n) (h2 : b.length ≤ n) : wordsCmp a b = seqFrom a b n 0 := by
  unfold wordsCmp
  generalize hM : max (max a.length b.length) 1 = M
  rcases Nat.le_total M n with h | h
  · obtain ⟨m, rfl⟩ := Nat.exists_eq_add_of_le h
    rw [seq_more a b M m 0 (by omega) (by omega)]
  · obtain ⟨m, rfl⟩ := Nat.exists_eq_add_of_le h
    rw [seq_more a b n m 0 (by omega) (by omega)]

theorem totWs : TotPre wordsCmp := by
  have key : ∀ a b d : List Wd, ∃ n, a.length ≤ n ∧ b.length ≤ n ∧ d.length ≤ n := fun a b d => ⟨a.length + b.length + d.length, by omega, by omega, by omega⟩
  refine ⟨fun a b => (totSeq _ _).vals a b, fun a b => ?_, fun a b d h1 h2 => ?_⟩
  · obtain ⟨n, k1, k2, _⟩ := key a b b
    rw [wordsCmp_seq a b n k1 k2, wordsCmp_seq b a n k2 k1]
    exact (totSeq n 0).anti a b
  · obtain ⟨n, k1, k2, k3⟩ := key a b d
    rw [wordsCmp_seq a b n k1 k2] at h1
    rw [wordsCmp_seq b d n k2 k3] at h2
    rw [wordsCmp_seq a d n k1 k3]
    exact (totSeq n 0).trans a b d h1 h2

end Go.Proofs.Nw.K
end
section
/- Q1: small ones: bytes, comparisons, the first that is not nought. -/
open Go Go.RowKit Go.Proofs
set_option linter.unusedVariables false
set_option linter.unusedSimpArgs false
namespace Go.Proofs.Nw.K

theorem ltb {a b : Nat} (h : Nat.ble (a + 1) b = true) : a < b := Nat.le_of_ble_eq_true h
abbrev dbyte (c : Int) : D := .sc (.int .u8 c)
theorem not_true_eq {b : Bool} (h : (!b) = true) : b = false := by cases b <;> simp_all
theorem not_false_eq {b : Bool} (h : (!b) = false) : b = true := by cases b <;> simp_all
theorem Impl_pure {P : Program} {f : FuncId} {ds : List DV} {vs0 : List Value} {u : Value} (hu : scal u = true) (hds : ds = vs0.map fun v => .one (.sc v)) (h : ∀ W, Calls P f vs0.toArray W fun e w' => e = .returned u ∧ w' = W) : Impl P f ds [.one (.sc u)] := by
  subst hds
  intro w σ vs hs hv
  obtain ⟨hl, hg⟩ := hv
  have : vs = vs0 := by
    apply List.ext_getElem?
    intro i
    by_cases hi : i < vs.length
    · have hi2 : i < vs0.length := by simpa [hl] using hi
      have := hg i vs[i] (.one (.sc vs0[i])) (by simp [hi]) (by simp [hi2])
      have h2 : vs[i] = vs0[i] := RepA_sc (gh := []) (st := []) (show RepA σ [] [] vs[i] (.d (.sc vs0[i])) from this)
      simp [hi, hi2, h2]
    · have hi2 : ¬ i < vs0.length := by simpa [hl] using hi
      rw [List.getElem?_eq_none (by omega), List.getElem?_eq_none (by omega)]
  subst this
  refine (h w).mono fun e w' ⟨he, hw⟩ => ?_
  subst hw
  exact ⟨u, σ, he, BelowD.refl _ _, hs, fun _ _ => ⟨rfl, rfl⟩, Rep.sc hu⟩

def digitB (c : Int) : Bool := decide (c ≥ 48) && decide (c ≤ 57)
theorem Digit71 (c : Int) (W : World) : Calls Tryd.prog 71 #[.int .u8 c] W fun e w' => e = .returned (.bool (digitB c)) ∧ w' = W := by
  go_enter Tryd.func71, Tryd.ntmps71
  go_wp2
  all_goals (refine ⟨rfl, _, results_tmp (t := 2) rfl _ _ _, ?_, rfl⟩)
  all_goals simp_all [digitB]
  all_goals omega
theorem Digit_impl (c : Int) : Impl Tryd.prog 71 [.one (dbyte c)] [.one (dbool (digitB c))] := Impl_pure (vs0 := [.int .u8 c]) rfl rfl (Digit71 c)

theorem isNaN74 (x : ByteArray) (W : World) : Calls Tryd.prog 74 #[.string x] W fun e w' => e = .returned (.bool false) ∧ w' = W := by
  go_enter Tryd.func74, Tryd.ntmps74
  go_wp2
  go_ret
  exact ⟨by simp, rfl⟩
theorem isNaN77 (x : Int) (W : World) : Calls Tryd.prog 77 #[.int .i64 x] W fun e w' => e = .returned (.bool false) ∧ w' = W := by
  go_enter Tryd.func77, Tryd.ntmps77
  go_wp2
  go_ret
  exact ⟨by simp, rfl⟩

set_option maxHeartbeats 1000000 in
theorem Compare59 (x y : ByteArray) (W : World) : Calls Tryd.prog 59 #[.string x, .string y] W fun e w' => e = .returned (.int .i64 (strCmp x y)) ∧ w' = W := by
  have hg : ∀ W, (binOp BinOp.gtr 9 (.string x) (.string y)).run Tryd.prog W = .ok (.bool (!(Op.bytesLess x.toList y.toList || x.toList == y.toList))) W := fun W => by
    simp [binOp, Op.stringOp]
  go_enter Tryd.func59, Tryd.ntmps59
  go_wp2_with (go_at_call 74; refine (isNaN74 _ _).mono ?_; rintro e w' ⟨rfl, hw⟩; rw [hw])
  all_goals (refine ⟨rfl, _, results_tmp (t := 4) rfl _ _ _, ?_, rfl⟩)
  all_goals simp [strCmp, *]
  all_goals simp_all
theorem CompareS_impl (x y : Str) : Impl Tryd.prog 59 [.one (dstr x), .one (dstr y)] [.one (dint (strCmp x y))] := Impl_pure (vs0 := [.string x, .string y]) rfl rfl (Compare59 x y)
set_option maxHeartbeats 1000000 in
theorem Compare63 (x y : Int) (W : World) : Calls Tryd.prog 63 #[.int .i64 x, .int .i64 y] W fun e w' => e = .returned (.int .i64 (cmpI x y)) ∧ w' = W := by
  go_enter Tryd.func63, Tryd.ntmps63
  go_wp2_with (go_at_call 77; refine (isNaN77 _ _).mono ?_; rintro e w' ⟨rfl, hw⟩; rw [hw])
  all_goals (refine ⟨rfl, _, results_tmp (t := 4) rfl _ _ _, ?_, rfl⟩)
  all_goals simp [cmpI, *]
  all_goals (rw [if_neg (by omega), if_neg (by omega)])
theorem CompareI_impl (x y : Int) : Impl Tryd.prog 63 [.one (dint x), .one (dint y)] [.one (dint (cmpI x y))] := Impl_pure (vs0 := [.int .i64 x, .int .i64 y]) rfl rfl (Compare63 x y)

theorem OrI_impl (l : List Int) (hl : l.length ≤ maxLen) : Impl Tryd.prog 58 [.one (dInts l)] [.one (dint (orI l))] := by
  simp only [maxLen] at hl
  refine impl_vc tabOk Tryd.func58 rfl rfl (by exact Nat.le_of_ble_eq_true rfl) (vc_sound tabOk (by kernel_rfl) ?_)
  refine WP_loop (α := {i : Nat // i ≤ l.length ∧ orI (l.drop i) = orI l}) (fun i => ofL [(2, .int 0), (3, .int 0), (6, .d (dInts l)), (7, .int l.length), (8, .int (i.1 : Int))]) (fun _ => []) (fun i => l.length - i.1) ⟨0, by simp⟩ ?_ ?_
  · exact Sub.ofL _ _ (Nat.le_refl _) ⟨rfl, rfl, rfl, rfl, rfl, rfl, rfl, rfl, rfl, rfl, trivial⟩ rfl rfl
  rintro ⟨i, hi, hor⟩
  refine vc_sound tabOk (by kernel_rfl) ?_
  refine And.intro rfl (And.intro (fun h => ?_) (fun h => ?_))
  · have hlt : i < l.length := by simpa using h
    have hd : l.drop i = l[i] :: l.drop (i + 1) := List.drop_eq_getElem_cons hlt
    have hg : l.getD ((i : Int)).toNat 0 = l[i] := by simp [List.getD, hlt]
    refine And.intro rfl (And.intro (Int.natCast_nonneg _) (And.intro (by simpa using hlt) ?_))
    refine And.intro rfl (And.intro (fun h => ?_) (fun h => ?_))
    · have h : (l.getD ((i : Int)).toNat 0 != 0) = true := h
      refine And.intro (DLe.of_eq ?_) trivial
      show DV.one (dint (l.getD ((i : Int)).toNat 0)) = _
      rw [hg] at h ⊢
      rw [← hor, hd]
      have h0 : ¬ l[i] = 0 := by simpa using h
      simp only [orI, if_neg h0]
    · have h : (l.getD ((i : Int)).toNat 0 != 0) = false := h
      refine And.intro rfl (And.intro ⟨by omega, by show ((i : Int) + 1) ≤ _; omega⟩ ?_)
      refine ⟨⟨i + 1, hlt, ?_⟩, by simp; omega, Sub.ofL _ _ (Nat.le_refl _) ⟨rfl, rfl, rfl, rfl, rfl, rfl, rfl, rfl, rfl, rfl, trivial⟩ rfl rfl⟩
      rw [hg] at h
      rw [← hor, hd]
      have h0 : l[i] = 0 := by simpa using h
      simp only [orI, if_pos h0]
  · have hge : ¬ i < l.length := by simpa using h
    refine And.intro (DLe.of_eq ?_) trivial
    have : l.drop i = [] := List.drop_eq_nil_of_le (by omega)
    rw [this] at hor
    rw [← hor]; rfl
end Go.Proofs.Nw.K
end
section
/- Q2: without noughts ahead; one word, and a list of words, held against another one. -/
open Go Go.RowKit Go.Proofs
set_option linter.unusedVariables false
set_option linter.unusedSimpArgs false
namespace Go.Proofs.Nw.K

/-- how many noughts stand ahead -/
def zerosL : List UInt8 → Nat
  | b :: r => if b = 48 then zerosL r + 1 else 0
  | [] => 0
def trim0 (s : Str) : Str := ⟨(s.data.toList.drop (zerosL s.data.toList)).toArray⟩

theorem zerosL_le : ∀ l : List UInt8, zerosL l ≤ l.length
  | [] => Nat.le_refl _
  | b :: r => by
    have := zerosL_le r
    unfold zerosL
    split <;> simp <;> omega
theorem zerosL_get : ∀ (l : List UInt8) (i : Nat) (h : i < l.length), i < zerosL l → l[i] = 48
  | [], i, h, _ => by simp at h
  | b :: r, i, h, hz => by
    unfold zerosL at hz
    split at hz
    · rename_i e
      cases i with
      | zero => exact e
      | succ i => simpa using zerosL_get r i (by simpa using h) (by omega)
    · omega
theorem zerosL_stop : ∀ (l : List UInt8) (h : zerosL l < l.length), l[zerosL l] ≠ 48
  | [], h => by simp at h
  | b :: r, h => by
    by_cases e : b = 48
    · have hz : zerosL (b :: r) = zerosL r + 1 := by simp [zerosL, e]
      have h2 : zerosL r < r.length := by rw [hz] at h; simpa using h
      have := zerosL_stop r h2
      simp only [hz, List.getElem_cons_succ]
      exact this
    · have hz : zerosL (b :: r) = 0 := by simp [zerosL, e]
      simp only [hz, List.getElem_cons_zero]
      exact e

theorem str_drop (s : Str) (i : Nat) (h : i < s.size) : (s.extract i s.size).extract 1 (s.extract i s.size).size = s.extract (i + 1) s.size := by
  have h1 : (s.extract i s.size).size = s.size - i := by simp
  rw [h1, ByteArray.extract_extract]
  congr 1
  omega

theorem extract_eq (s : Str) (i : Nat) (t : Str) (h : t.data.toList = s.data.toList.drop i) : s.extract i s.size = t := by
  apply str_ext
  rw [h, str_size]
  simp only [ByteArray.data_extract, Array.toList_extract, List.extract_eq_take_drop]
  rw [List.take_of_length_le]
  simp

theorem byteAt_lt (s : Str) (n : Nat) (h : n < s.data.toList.length) : byteAt s n = (s.data.toList[n].toNat : Int) := by
  have h2 : n < s.data.size := by simpa using h
  simp only [byteAt, bt, Array.getElem?_eq_getElem h2, Option.getD_some, Array.getElem_toList]

theorem u8_eq {a b : UInt8} (h : (a.toNat : Int) = b.toNat) : a = b := UInt8.toNat_inj.1 (by omega)

theorem trimLeftByte_impl (s : Str) (hs : s.size ≤ maxLen) : Impl Tryd.prog 101 [.one (dstr s), .one (dbyte 48)] [.one (dstr (trim0 s))] := by
  simp only [maxLen] at hs
  have hsz : s.size = s.data.toList.length := str_size s
  refine impl_vc tabOk Tryd.func101 rfl rfl (by exact Nat.le_of_ble_eq_true rfl) (vc_sound tabOk (by kernel_rfl) ?_)
  refine WP_loop (α := {i : Nat // i ≤ zerosL s.data.toList}) (fun i => ofL [(0, .str (s.extract i.1 s.size)), (1, .byte 48), (4, .str emp)]) (fun _ => []) (fun i => zerosL s.data.toList - i.1) ⟨0, Nat.zero_le _⟩ ?_ ?_
  · refine Sub.ofL _ _ (Nat.le_refl _) ⟨?_, rfl, rfl, rfl, rfl, rfl, trivial⟩ rfl rfl
    show AV.str s = AV.str (s.extract 0 s.size)
    congr 3
    exact (ByteArray.extract_zero_size).symm
  rintro ⟨i, hi⟩
  have hz := zerosL_le s.data.toList
  refine vc_sound tabOk (by kernel_rfl) ?_
  have hes : (s.extract i s.size).size = s.size - i := by simp
  have hb0 : ∀ h : i < s.data.toList.length, byteAt (s.extract i s.size) 0 = (s.data.toList[i].toNat : Int) := fun h => by
    have h2 : i < s.data.size := by simpa using h
    rw [byteAt_lt _ 0 (by rw [← str_size, hes]; omega)]
    congr 2
    simp
  refine And.intro rfl ?_
  cases hc : decide (((s.extract i s.size).size : Int) > 0) with
  | false =>
    have h0 : ¬ (((s.extract i s.size).size : Int) > 0) := of_decide_eq_false hc
    rw [hes] at h0
    apply And.intro
    · exact ltb rfl
    refine And.intro (fun h => by cases h) (fun _ => ?_)
    apply And.intro
    · exact ltb rfl
    refine And.intro (fun h => by cases h) (fun _ => ?_)
    apply And.intro
    · exact ltb rfl
    refine And.intro (fun h => by cases h) (fun _ => ?_)
    apply And.intro
    · exact ltb rfl
    refine And.intro (fun h => by cases h) (fun _ => ?_)
    refine And.intro (fun h => by cases h) (fun _ => ?_)
    refine And.intro (fun h => by cases h) (fun _ => ?_)
    refine And.intro (DLe.of_eq ?_) trivial
    show DV.one (dstr (s.extract i s.size)) = DV.one (dstr (trim0 s))
    have hiz : i = zerosL s.data.toList := by omega
    congr 2
    exact extract_eq s i (trim0 s) (by rw [hiz]; rfl)
  | true =>
    have h0 : ((s.extract i s.size).size : Int) > 0 := of_decide_eq_true hc
    rw [hes] at h0
    have hil : i < s.data.toList.length := by omega
    have hb := hb0 hil
    apply And.intro
    · exact ltb rfl
    refine And.intro (fun _ => ?_) (fun h => absurd rfl h)
    apply And.intro
    · exact ltb rfl
    refine And.intro (fun _ => And.intro rfl (And.intro (Int.le_refl _) (And.intro (by show (0 : Int) < ((s.extract i s.size).size : Int); omega) ?_))) (fun h => absurd rfl h)
    apply And.intro
    · exact ltb rfl
    refine And.intro (fun _ => ?_) (fun h => absurd rfl h)
    apply And.intro
    · exact ltb rfl
    refine And.intro (fun _ => And.intro rfl ?_) (fun h => absurd rfl h)
    refine And.intro (fun _ => ?_) (fun h => by cases h)
    refine And.intro (fun h => ?_) (fun h => ?_)
    · have h : (byteAt (s.extract i s.size) 0 == 48) = true := h
      rw [hb] at h
      have he : s.data.toList[i] = 48 := u8_eq (b := 48) (by simpa using h)
      have hlt : i < zerosL s.data.toList := by
        refine Nat.lt_of_le_of_ne hi (fun e => ?_)
        have := zerosL_stop s.data.toList (by omega)
        simp only [← e] at this
        exact this he
      refine And.intro rfl ?_
      refine And.intro (by decide) (And.intro (by show 1 ≤ (s.extract i s.size).size; omega) (And.intro (Nat.le_refl _) ?_))
      refine ⟨⟨i + 1, hlt⟩, by show zerosL s.data.toList - (i + 1) < zerosL s.data.toList - i; omega, Sub.ofL _ _ (Nat.le_refl _) ⟨?_, rfl, rfl, rfl, rfl, rfl, trivial⟩ rfl rfl⟩
      show AV.str ((s.extract i s.size).extract 1 (s.extract i s.size).size) = AV.str (s.extract (i + 1) s.size)
      rw [str_drop s i (by omega)]
    · have h : (byteAt (s.extract i s.size) 0 == 48) = false := h
      rw [hb] at h
      refine And.intro (DLe.of_eq ?_) trivial
      show DV.one (dstr (s.extract i s.size)) = DV.one (dstr (trim0 s))
      have hiz : i = zerosL s.data.toList := by
        refine Nat.le_antisymm hi (Nat.le_of_not_lt fun hlt => ?_)
        have := zerosL_get s.data.toList i hil hlt
        rw [this] at h
        cases h
      congr 2
      exact extract_eq s i (trim0 s) (by rw [hiz]; rfl)

theorem TrimLeft_impl (s : Str) (hs : s.size ≤ maxLen) : Impl Tryd.prog 73 [.one (dstr s), .one (dstr ⟨#[48]⟩)] [.one (dstr (trim0 s))] := by
  refine impl_vc tabOk Tryd.func73 rfl rfl (by exact Nat.le_of_ble_eq_true rfl) (vc_sound tabOk (by kernel_rfl) ?_)
  cases hc : (s.toList == emp.toList) with
  | true =>
    have he : s = emp := by rw [str_beq] at hc; exact of_decide_eq_true hc
    apply And.intro
    · exact ltb rfl
    refine And.intro (fun h => absurd (hc.symm.trans h) (by decide)) (fun _ => ?_)
    apply And.intro
    · exact ltb rfl
    refine And.intro (fun h => absurd (hc.symm.trans h) (by decide)) (fun _ => ?_)
    refine And.intro (fun _ => ?_) (fun h => absurd (hc.symm.trans h) (by decide))
    refine And.intro (fun _ => ?_) (fun h => by cases h)
    refine And.intro (DLe.of_eq ?_) trivial
    rw [he]; rfl
  | false =>
    apply And.intro
    · exact ltb rfl
    refine And.intro (fun _ => ?_) (fun h => absurd hc h)
    apply And.intro
    · exact ltb rfl
    refine And.intro (fun _ => ?_) (fun h => absurd hc h)
    have hc2 : ((⟨#[48]⟩ : Str).toList == emp.toList) = false := by rw [str_beq]; exact decide_eq_false (fun h => by cases h)
    refine And.intro (fun h => absurd (hc.symm.trans h) (by decide)) (fun _ => ?_)
    refine And.intro (fun h => absurd (hc2.symm.trans h) (by decide)) (fun _ => ?_)
    refine And.intro rfl ?_
    apply And.intro
    · exact ltb rfl
    refine And.intro (fun _ => ?_) (fun h => absurd rfl h)
    apply And.intro
    · exact ltb rfl
    refine And.intro (fun _ => And.intro rfl (And.intro (Int.le_refl _) (And.intro (by decide) ?_))) (fun h => absurd rfl h)
    apply And.intro
    · exact ltb rfl
    refine And.intro (fun _ => And.intro rfl ?_) (fun h => absurd rfl h)
    have hb8 : decide (byteAt (⟨#[48]⟩ : Str) 0 < 128) = true := decide_eq_true (by show ((48 : UInt8).toNat : Int) < 128; decide)
    refine And.intro (fun _ => ?_) (fun h => by cases h)
    refine And.intro (fun _ => ?_) (fun h => absurd (hb8.symm.trans h) (by decide))
    refine And.intro rfl (And.intro (Int.le_refl _) (And.intro (by decide) ?_))
    refine And.intro rfl (Or.inl (Exists.intro _ (Exists.intro _ (And.intro (trimLeftByte_impl s hs) (And.intro (AsLe.refl _) ?_)))))
    refine And.intro (DLe.of_eq ?_) trivial
    rfl

theorem at_impl (l : List Wd) (i : Int) (hl : l.length ≤ maxLen) (h0 : 0 ≤ i) : Impl Tryd.prog 41 [.one (dWds l), .one (dint i)] [.agg (encWd (atW l i.toNat))] := by
  simp only [maxLen] at hl
  refine impl_vc tabOk Tryd.func41 rfl rfl (by exact Nat.le_of_ble_eq_true rfl) (vc_sound tabOk (by kernel_rfl) ?_)
  refine And.intro rfl ?_
  refine And.intro (fun h => ?_) (fun h => ?_)
  · have h : decide (i < (l.length : Int)) = true := h
    have hlt : i < (l.length : Int) := of_decide_eq_true h
    refine And.intro rfl (And.intro h0 (And.intro hlt ?_))
    refine And.intro (Nat.le_of_ble_eq_true rfl) ?_
    refine And.intro rfl (And.intro (Nat.le_of_ble_eq_true rfl) ?_)
    refine And.intro rfl (And.intro (DLe.of_eq ?_) trivial)
    have e : atW l i.toNat = l.getD i.toNat zWd := by
      have : i.toNat < l.length := by omega
      simp [atW, List.getD, this]
    rw [e]; rfl
  · have h : decide (i < (l.length : Int)) = false := h
    have hge : ¬ i < (l.length : Int) := of_decide_eq_false h
    refine And.intro rfl (And.intro (Nat.le_of_ble_eq_true rfl) ?_)
    refine And.intro rfl (And.intro (DLe.of_eq ?_) trivial)
    rw [atW_ge (by omega)]; rfl
end Go.Proofs.Nw.K
end
