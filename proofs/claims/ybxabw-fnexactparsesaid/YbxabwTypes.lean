/-
  The seat's table of types.
-/
import Derived.Test.YbxabwProg
import Derived.Test.YbxabwOps2
set_option linter.unusedVariables false
set_option maxRecDepth 100000
namespace Go.Proofs.Ybxabw
open Go.Mw
theorem TFact.mk_ {P : Program} {t : Nat} {i : TI} {d : TypeDesc} (hd : P.underlying t = some d) (hk : i.descOk d) (hi : (P.info? t).map (fun i => (i.zero, i.size, i.bytes)) = some (some i.zero, i.size, i.bytes)) : TFact P t i := by
  obtain ⟨f, hf, h0, h1, h2⟩ := info_parts hi
  exact ⟨⟨d, hd, hk⟩, ⟨f, hf, h1, h2, h0⟩⟩
def tys : List (Nat × TI) := [
  (2, ⟨0, 0, 0, .i64, [], 1, 8, .int .i64 0⟩),
  (3, ⟨0, 0, 0, .i64, [], 1, 8, .int .i64 0⟩),
  (4, ⟨1, 0, 0, .i64, [], 1, 1, .bool false⟩),
  (5, ⟨0, 0, 0, .u8, [], 1, 1, .int .u8 0⟩),
  (9, ⟨2, 0, 0, .i64, [], 1, 16, .string ByteArray.empty⟩),
  (12, ⟨0, 0, 0, .u64, [], 1, 8, .int .u64 0⟩),
  (13, ⟨5, 0, 0, .i64, [(0, 9), (1, 12)], 2, 24, .agg #[.string ByteArray.empty, .int .u64 0]⟩),
  (21, ⟨0, 0, 0, .i32, [], 1, 4, .int .i32 0⟩),
  (23, ⟨3, 95, 0, .i64, [], 1, 24, .slice none 0 0⟩),
  (26, ⟨3, 97, 0, .i64, [], 1, 24, .slice none 0 0⟩),
  (32, ⟨3, 113, 0, .i64, [], 1, 24, .slice none 0 0⟩),
  (33, ⟨5, 0, 0, .i64, [(0, 32), (1, 3)], 2, 32, .agg #[.slice none 0 0, .int .i64 0]⟩),
  (34, ⟨5, 0, 0, .i64, [(0, 32), (1, 3)], 2, 32, .agg #[.slice none 0 0, .int .i64 0]⟩),
  (38, ⟨3, 112, 0, .i64, [], 1, 24, .slice none 0 0⟩),
  (39, ⟨5, 0, 0, .i64, [(0, 38), (1, 3)], 2, 32, .agg #[.slice none 0 0, .int .i64 0]⟩),
  (40, ⟨5, 0, 0, .i64, [(0, 38), (1, 3)], 2, 32, .agg #[.slice none 0 0, .int .i64 0]⟩),
  (51, ⟨3, 2, 0, .i64, [], 1, 24, .slice none 0 0⟩),
  (60, ⟨3, 65, 0, .i64, [], 1, 24, .slice none 0 0⟩),
  (61, ⟨5, 0, 0, .i64, [(0, 60)], 1, 24, .agg #[.slice none 0 0]⟩),
  (62, ⟨5, 0, 0, .i64, [(0, 60)], 1, 24, .agg #[.slice none 0 0]⟩),
  (63, ⟨3, 138, 0, .i64, [], 1, 24, .slice none 0 0⟩),
  (64, ⟨5, 0, 0, .i64, [(0, 2), (1, 63)], 2, 32, .agg #[.int .i64 0, .slice none 0 0]⟩),
  (65, ⟨5, 0, 0, .i64, [(0, 2), (1, 63)], 2, 32, .agg #[.int .i64 0, .slice none 0 0]⟩),
  (68, ⟨3, 133, 0, .i64, [], 1, 24, .slice none 0 0⟩),
  (69, ⟨5, 0, 0, .i64, [(0, 68)], 1, 24, .agg #[.slice none 0 0]⟩),
  (70, ⟨5, 0, 0, .i64, [(0, 68)], 1, 24, .agg #[.slice none 0 0]⟩),
  (73, ⟨3, 131, 0, .i64, [], 1, 24, .slice none 0 0⟩),
  (94, ⟨5, 0, 0, .i64, [(0, 3), (1, 2)], 2, 16, .agg #[.int .i64 0, .int .i64 0]⟩),
  (95, ⟨5, 0, 0, .i64, [(0, 3), (1, 2)], 2, 16, .agg #[.int .i64 0, .int .i64 0]⟩),
  (97, ⟨5, 0, 0, .i64, [(0, 3), (1, 2)], 2, 16, .agg #[.int .i64 0, .int .i64 0]⟩),
  (98, ⟨0, 0, 0, .u64, [], 1, 8, .int .u64 0⟩),
  (99, ⟨5, 0, 0, .i64, [(0, 23), (1, 3), (2, 4)], 3, 40, .agg #[.slice none 0 0, .int .i64 0, .bool false]⟩),
  (100, ⟨5, 0, 0, .i64, [(0, 23), (1, 3), (2, 4)], 3, 40, .agg #[.slice none 0 0, .int .i64 0, .bool false]⟩),
  (101, ⟨6, 166, 0, .i64, [], 1, 8, .pointer none⟩),
  (106, ⟨6, 108, 0, .i64, [], 1, 8, .pointer none⟩),
  (107, ⟨5, 0, 0, .i64, [(0, 23), (1, 3), (2, 32), (3, 3)], 4, 64, .agg #[.slice none 0 0, .int .i64 0, .slice none 0 0, .int .i64 0]⟩),
  (108, ⟨5, 0, 0, .i64, [(0, 23), (1, 3), (2, 32), (3, 3)], 4, 64, .agg #[.slice none 0 0, .int .i64 0, .slice none 0 0, .int .i64 0]⟩),
  (111, ⟨5, 0, 0, .i64, [(0, 3), (1, 2), (2, 3), (3, 3), (4, 3)], 5, 40, .agg #[.int .i64 0, .int .i64 0, .int .i64 0, .int .i64 0, .int .i64 0]⟩),
  (112, ⟨5, 0, 0, .i64, [(0, 3), (1, 2), (2, 3), (3, 3), (4, 3)], 5, 40, .agg #[.int .i64 0, .int .i64 0, .int .i64 0, .int .i64 0, .int .i64 0]⟩),
  (113, ⟨5, 0, 0, .i64, [(0, 3), (1, 2), (2, 3), (3, 3), (4, 3)], 5, 40, .agg #[.int .i64 0, .int .i64 0, .int .i64 0, .int .i64 0, .int .i64 0]⟩),
  (116, ⟨3, 3, 0, .i64, [], 1, 24, .slice none 0 0⟩),
  (121, ⟨6, 124, 0, .i64, [], 1, 8, .pointer none⟩),
  (122, ⟨3, 128, 0, .i64, [], 1, 24, .slice none 0 0⟩),
  (123, ⟨5, 0, 0, .i64, [(0, 122)], 1, 24, .agg #[.slice none 0 0]⟩),
  (124, ⟨5, 0, 0, .i64, [(0, 122)], 1, 24, .agg #[.slice none 0 0]⟩),
  (127, ⟨5, 0, 0, .i64, [(0, 3), (1, 2), (2, 3), (3, 3), (4, 3)], 5, 40, .agg #[.int .i64 0, .int .i64 0, .int .i64 0, .int .i64 0, .int .i64 0]⟩),
  (128, ⟨5, 0, 0, .i64, [(0, 3), (1, 2), (2, 3), (3, 3), (4, 3)], 5, 40, .agg #[.int .i64 0, .int .i64 0, .int .i64 0, .int .i64 0, .int .i64 0]⟩),
  (130, ⟨4, 26, 21, .i64, [], 26, 104, .agg #[.int .i32 0, .int .i32 0, .int .i32 0, .int .i32 0, .int .i32 0, .int .i32 0, .int .i32 0, .int .i32 0, .int .i32 0, .int .i32 0, .int .i32 0, .int .i32 0, .int .i32 0, .int .i32 0, .int .i32 0, .int .i32 0, .int .i32 0, .int .i32 0, .int .i32 0, .int .i32 0, .int .i32 0, .int .i32 0, .int .i32 0, .int .i32 0, .int .i32 0, .int .i32 0]⟩),
  (131, ⟨3, 135, 0, .i64, [], 1, 24, .slice none 0 0⟩),
  (132, ⟨5, 0, 0, .i64, [(0, 2), (1, 131)], 2, 32, .agg #[.int .i64 0, .slice none 0 0]⟩),
  (133, ⟨5, 0, 0, .i64, [(0, 2), (1, 131)], 2, 32, .agg #[.int .i64 0, .slice none 0 0]⟩),
  (134, ⟨5, 0, 0, .i64, [(0, 3), (1, 3)], 2, 16, .agg #[.int .i64 0, .int .i64 0]⟩),
  (135, ⟨5, 0, 0, .i64, [(0, 3), (1, 3)], 2, 16, .agg #[.int .i64 0, .int .i64 0]⟩),
  (138, ⟨5, 0, 0, .i64, [(0, 3), (1, 3)], 2, 16, .agg #[.int .i64 0, .int .i64 0]⟩),
  (139, ⟨4, 26, 3, .i64, [], 26, 208, .agg #[.int .i64 0, .int .i64 0, .int .i64 0, .int .i64 0, .int .i64 0, .int .i64 0, .int .i64 0, .int .i64 0, .int .i64 0, .int .i64 0, .int .i64 0, .int .i64 0, .int .i64 0, .int .i64 0, .int .i64 0, .int .i64 0, .int .i64 0, .int .i64 0, .int .i64 0, .int .i64 0, .int .i64 0, .int .i64 0, .int .i64 0, .int .i64 0, .int .i64 0, .int .i64 0]⟩),
  (140, ⟨5, 0, 0, .i64, [(0, 2), (1, 139), (27, 3)], 28, 224, .agg #[.int .i64 0, .int .i64 0, .int .i64 0, .int .i64 0, .int .i64 0, .int .i64 0, .int .i64 0, .int .i64 0, .int .i64 0, .int .i64 0, .int .i64 0, .int .i64 0, .int .i64 0, .int .i64 0, .int .i64 0, .int .i64 0, .int .i64 0, .int .i64 0, .int .i64 0, .int .i64 0, .int .i64 0, .int .i64 0, .int .i64 0, .int .i64 0, .int .i64 0, .int .i64 0, .int .i64 0, .int .i64 0]⟩),
  (141, ⟨5, 0, 0, .i64, [(0, 2), (1, 139), (27, 3)], 28, 224, .agg #[.int .i64 0, .int .i64 0, .int .i64 0, .int .i64 0, .int .i64 0, .int .i64 0, .int .i64 0, .int .i64 0, .int .i64 0, .int .i64 0, .int .i64 0, .int .i64 0, .int .i64 0, .int .i64 0, .int .i64 0, .int .i64 0, .int .i64 0, .int .i64 0, .int .i64 0, .int .i64 0, .int .i64 0, .int .i64 0, .int .i64 0, .int .i64 0, .int .i64 0, .int .i64 0, .int .i64 0, .int .i64 0]⟩),
  (143, ⟨6, 141, 0, .i64, [], 1, 8, .pointer none⟩),
  (145, ⟨3, 147, 0, .i64, [], 1, 24, .slice none 0 0⟩),
  (146, ⟨5, 0, 0, .i64, [(0, 2), (1, 130)], 27, 112, .agg #[.int .i64 0, .int .i32 0, .int .i32 0, .int .i32 0, .int .i32 0, .int .i32 0, .int .i32 0, .int .i32 0, .int .i32 0, .int .i32 0, .int .i32 0, .int .i32 0, .int .i32 0, .int .i32 0, .int .i32 0, .int .i32 0, .int .i32 0, .int .i32 0, .int .i32 0, .int .i32 0, .int .i32 0, .int .i32 0, .int .i32 0, .int .i32 0, .int .i32 0, .int .i32 0, .int .i32 0]⟩),
  (147, ⟨5, 0, 0, .i64, [(0, 2), (1, 130)], 27, 112, .agg #[.int .i64 0, .int .i32 0, .int .i32 0, .int .i32 0, .int .i32 0, .int .i32 0, .int .i32 0, .int .i32 0, .int .i32 0, .int .i32 0, .int .i32 0, .int .i32 0, .int .i32 0, .int .i32 0, .int .i32 0, .int .i32 0, .int .i32 0, .int .i32 0, .int .i32 0, .int .i32 0, .int .i32 0, .int .i32 0, .int .i32 0, .int .i32 0, .int .i32 0, .int .i32 0, .int .i32 0]⟩),
  (152, ⟨3, 141, 0, .i64, [], 1, 24, .slice none 0 0⟩),
  (157, ⟨5, 0, 0, .i64, [(0, 3), (1, 4)], 2, 16, .agg #[.int .i64 0, .bool false]⟩),
  (158, ⟨5, 0, 0, .i64, [(0, 3), (1, 4)], 2, 16, .agg #[.int .i64 0, .bool false]⟩),
  (160, ⟨3, 70, 0, .i64, [], 1, 24, .slice none 0 0⟩),
  (163, ⟨6, 100, 0, .i64, [], 1, 8, .pointer none⟩),
  (165, ⟨5, 0, 0, .i64, [(0, 3), (1, 2), (2, 3), (3, 101), (4, 101)], 5, 40, .agg #[.int .i64 0, .int .i64 0, .int .i64 0, .pointer none, .pointer none]⟩),
  (166, ⟨5, 0, 0, .i64, [(0, 3), (1, 2), (2, 3), (3, 101), (4, 101)], 5, 40, .agg #[.int .i64 0, .int .i64 0, .int .i64 0, .pointer none, .pointer none]⟩),
  (175, ⟨6, 158, 0, .i64, [], 1, 8, .pointer none⟩),
  (185, ⟨0, 0, 0, .u32, [], 1, 4, .int .u32 0⟩),
  (189, ⟨6, 5, 0, .i64, [], 1, 8, .pointer none⟩)]
theorem tok : TOk Yabm.prog tys := ⟨⟨TFact.mk_ Yabm.underlying2 (by first | rfl | exact ⟨_, rfl, rfl⟩) (by kernel_rfl), ⟨TFact.mk_ Yabm.underlying3 (by first | rfl | exact ⟨_, rfl, rfl⟩) (by kernel_rfl), ⟨TFact.mk_ Yabm.underlying4 (by first | rfl | exact ⟨_, rfl, rfl⟩) (by kernel_rfl), ⟨TFact.mk_ Yabm.underlying5 (by first | rfl | exact ⟨_, rfl, rfl⟩) (by kernel_rfl), ⟨TFact.mk_ Yabm.underlying9 (by first | rfl | exact ⟨_, rfl, rfl⟩) (by kernel_rfl), ⟨TFact.mk_ Yabm.underlying12 (by first | rfl | exact ⟨_, rfl, rfl⟩) (by kernel_rfl), ⟨TFact.mk_ Yabm.underlying13 (by first | rfl | exact ⟨_, rfl, rfl⟩) (by kernel_rfl), ⟨TFact.mk_ Yabm.underlying21 (by first | rfl | exact ⟨_, rfl, rfl⟩) (by kernel_rfl), ⟨TFact.mk_ Yabm.underlying23 (by first | rfl | exact ⟨_, rfl, rfl⟩) (by kernel_rfl), ⟨TFact.mk_ Yabm.underlying26 (by first | rfl | exact ⟨_, rfl, rfl⟩) (by kernel_rfl), ⟨TFact.mk_ Yabm.underlying32 (by first | rfl | exact ⟨_, rfl, rfl⟩) (by kernel_rfl), ⟨TFact.mk_ Yabm.underlying33 (by first | rfl | exact ⟨_, rfl, rfl⟩) (by kernel_rfl), ⟨TFact.mk_ Yabm.underlying34 (by first | rfl | exact ⟨_, rfl, rfl⟩) (by kernel_rfl), ⟨TFact.mk_ Yabm.underlying38 (by first | rfl | exact ⟨_, rfl, rfl⟩) (by kernel_rfl), ⟨TFact.mk_ Yabm.underlying39 (by first | rfl | exact ⟨_, rfl, rfl⟩) (by kernel_rfl), ⟨TFact.mk_ Yabm.underlying40 (by first | rfl | exact ⟨_, rfl, rfl⟩) (by kernel_rfl), ⟨TFact.mk_ Yabm.underlying51 (by first | rfl | exact ⟨_, rfl, rfl⟩) (by kernel_rfl), ⟨TFact.mk_ Yabm.underlying60 (by first | rfl | exact ⟨_, rfl, rfl⟩) (by kernel_rfl), ⟨TFact.mk_ Yabm.underlying61 (by first | rfl | exact ⟨_, rfl, rfl⟩) (by kernel_rfl), ⟨TFact.mk_ Yabm.underlying62 (by first | rfl | exact ⟨_, rfl, rfl⟩) (by kernel_rfl), ⟨TFact.mk_ Yabm.underlying63 (by first | rfl | exact ⟨_, rfl, rfl⟩) (by kernel_rfl), ⟨TFact.mk_ Yabm.underlying64 (by first | rfl | exact ⟨_, rfl, rfl⟩) (by kernel_rfl), ⟨TFact.mk_ Yabm.underlying65 (by first | rfl | exact ⟨_, rfl, rfl⟩) (by kernel_rfl), ⟨TFact.mk_ Yabm.underlying68 (by first | rfl | exact ⟨_, rfl, rfl⟩) (by kernel_rfl), ⟨TFact.mk_ Yabm.underlying69 (by first | rfl | exact ⟨_, rfl, rfl⟩) (by kernel_rfl), ⟨TFact.mk_ Yabm.underlying70 (by first | rfl | exact ⟨_, rfl, rfl⟩) (by kernel_rfl), ⟨TFact.mk_ Yabm.underlying73 (by first | rfl | exact ⟨_, rfl, rfl⟩) (by kernel_rfl), ⟨TFact.mk_ Yabm.underlying94 (by first | rfl | exact ⟨_, rfl, rfl⟩) (by kernel_rfl), ⟨TFact.mk_ Yabm.underlying95 (by first | rfl | exact ⟨_, rfl, rfl⟩) (by kernel_rfl), ⟨TFact.mk_ Yabm.underlying97 (by first | rfl | exact ⟨_, rfl, rfl⟩) (by kernel_rfl), ⟨TFact.mk_ Yabm.underlying98 (by first | rfl | exact ⟨_, rfl, rfl⟩) (by kernel_rfl), ⟨TFact.mk_ Yabm.underlying99 (by first | rfl | exact ⟨_, rfl, rfl⟩) (by kernel_rfl), ⟨TFact.mk_ Yabm.underlying100 (by first | rfl | exact ⟨_, rfl, rfl⟩) (by kernel_rfl), ⟨TFact.mk_ Yabm.underlying101 (by first | rfl | exact ⟨_, rfl, rfl⟩) (by kernel_rfl), ⟨TFact.mk_ Yabm.underlying106 (by first | rfl | exact ⟨_, rfl, rfl⟩) (by kernel_rfl), ⟨TFact.mk_ Yabm.underlying107 (by first | rfl | exact ⟨_, rfl, rfl⟩) (by kernel_rfl), ⟨TFact.mk_ Yabm.underlying108 (by first | rfl | exact ⟨_, rfl, rfl⟩) (by kernel_rfl), ⟨TFact.mk_ Yabm.underlying111 (by first | rfl | exact ⟨_, rfl, rfl⟩) (by kernel_rfl), ⟨TFact.mk_ Yabm.underlying112 (by first | rfl | exact ⟨_, rfl, rfl⟩) (by kernel_rfl), ⟨TFact.mk_ Yabm.underlying113 (by first | rfl | exact ⟨_, rfl, rfl⟩) (by kernel_rfl), ⟨TFact.mk_ Yabm.underlying116 (by first | rfl | exact ⟨_, rfl, rfl⟩) (by kernel_rfl), ⟨TFact.mk_ Yabm.underlying121 (by first | rfl | exact ⟨_, rfl, rfl⟩) (by kernel_rfl), ⟨TFact.mk_ Yabm.underlying122 (by first | rfl | exact ⟨_, rfl, rfl⟩) (by kernel_rfl), ⟨TFact.mk_ Yabm.underlying123 (by first | rfl | exact ⟨_, rfl, rfl⟩) (by kernel_rfl), ⟨TFact.mk_ Yabm.underlying124 (by first | rfl | exact ⟨_, rfl, rfl⟩) (by kernel_rfl), ⟨TFact.mk_ Yabm.underlying127 (by first | rfl | exact ⟨_, rfl, rfl⟩) (by kernel_rfl), ⟨TFact.mk_ Yabm.underlying128 (by first | rfl | exact ⟨_, rfl, rfl⟩) (by kernel_rfl), ⟨TFact.mk_ Yabm.underlying130 (by first | rfl | exact ⟨_, rfl, rfl⟩) (by kernel_rfl), ⟨TFact.mk_ Yabm.underlying131 (by first | rfl | exact ⟨_, rfl, rfl⟩) (by kernel_rfl), ⟨TFact.mk_ Yabm.underlying132 (by first | rfl | exact ⟨_, rfl, rfl⟩) (by kernel_rfl), ⟨TFact.mk_ Yabm.underlying133 (by first | rfl | exact ⟨_, rfl, rfl⟩) (by kernel_rfl), ⟨TFact.mk_ Yabm.underlying134 (by first | rfl | exact ⟨_, rfl, rfl⟩) (by kernel_rfl), ⟨TFact.mk_ Yabm.underlying135 (by first | rfl | exact ⟨_, rfl, rfl⟩) (by kernel_rfl), ⟨TFact.mk_ Yabm.underlying138 (by first | rfl | exact ⟨_, rfl, rfl⟩) (by kernel_rfl), ⟨TFact.mk_ Yabm.underlying139 (by first | rfl | exact ⟨_, rfl, rfl⟩) (by kernel_rfl), ⟨TFact.mk_ Yabm.underlying140 (by first | rfl | exact ⟨_, rfl, rfl⟩) (by kernel_rfl), ⟨TFact.mk_ Yabm.underlying141 (by first | rfl | exact ⟨_, rfl, rfl⟩) (by kernel_rfl), ⟨TFact.mk_ Yabm.underlying143 (by first | rfl | exact ⟨_, rfl, rfl⟩) (by kernel_rfl), ⟨TFact.mk_ Yabm.underlying145 (by first | rfl | exact ⟨_, rfl, rfl⟩) (by kernel_rfl), ⟨TFact.mk_ Yabm.underlying146 (by first | rfl | exact ⟨_, rfl, rfl⟩) (by kernel_rfl), ⟨TFact.mk_ Yabm.underlying147 (by first | rfl | exact ⟨_, rfl, rfl⟩) (by kernel_rfl), ⟨TFact.mk_ Yabm.underlying152 (by first | rfl | exact ⟨_, rfl, rfl⟩) (by kernel_rfl), ⟨TFact.mk_ Yabm.underlying157 (by first | rfl | exact ⟨_, rfl, rfl⟩) (by kernel_rfl), ⟨TFact.mk_ Yabm.underlying158 (by first | rfl | exact ⟨_, rfl, rfl⟩) (by kernel_rfl), ⟨TFact.mk_ Yabm.underlying160 (by first | rfl | exact ⟨_, rfl, rfl⟩) (by kernel_rfl), ⟨TFact.mk_ Yabm.underlying163 (by first | rfl | exact ⟨_, rfl, rfl⟩) (by kernel_rfl), ⟨TFact.mk_ Yabm.underlying165 (by first | rfl | exact ⟨_, rfl, rfl⟩) (by kernel_rfl), ⟨TFact.mk_ Yabm.underlying166 (by first | rfl | exact ⟨_, rfl, rfl⟩) (by kernel_rfl), ⟨TFact.mk_ Yabm.underlying175 (by first | rfl | exact ⟨_, rfl, rfl⟩) (by kernel_rfl), ⟨TFact.mk_ Yabm.underlying185 (by first | rfl | exact ⟨_, rfl, rfl⟩) (by kernel_rfl), ⟨TFact.mk_ Yabm.underlying189 (by first | rfl | exact ⟨_, rfl, rfl⟩) (by kernel_rfl), trivial⟩⟩⟩⟩⟩⟩⟩⟩⟩⟩⟩⟩⟩⟩⟩⟩⟩⟩⟩⟩⟩⟩⟩⟩⟩⟩⟩⟩⟩⟩⟩⟩⟩⟩⟩⟩⟩⟩⟩⟩⟩⟩⟩⟩⟩⟩⟩⟩⟩⟩⟩⟩⟩⟩⟩⟩⟩⟩⟩⟩⟩⟩⟩⟩⟩⟩⟩⟩⟩⟩⟩⟩

theorem mixed : Yabm.prog.follows .mixedOrders = true := by kernel_rfl
end Go.Proofs.Ybxabw
