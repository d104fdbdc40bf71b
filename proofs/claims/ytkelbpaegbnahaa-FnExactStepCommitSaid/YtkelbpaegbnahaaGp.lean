import Derived.Test.YtkelbpaegbnahaaGf0
import Derived.Test.YtkelbpaegbnahaaGlH
/- The machine's program: the functions that the law reaches. -/
set_option linter.unusedSimpArgs false
set_option linter.unusedVariables false
namespace GL
def fnL : List (Nat × Fn) := [(179, g179),
  (180, g180),
  (183, g183),
  (181, g181),
  (182, g182),
  (184, g184),
  (185, g185),
  (186, g186),
  (187, g187),
  (94, g94),
  (98, g98),
  (107, g107),
  (290, g290),
  (192, g192),
  (292, g292),
  (291, g291),
  (293, g293),
  (191, g191),
  (294, g294),
  (295, g295),
  (296, g296),
  (297, g297),
  (298, g298),
  (302, g302),
  (388, g388),
  (306, g306),
  (301, g301),
  (389, g389),
  (303, g303),
  (307, g307),
  (308, g308),
  (305, g305),
  (390, g390),
  (304, g304),
  (392, g392),
  (391, g391)]
def p : Prog := ⟨fun i => fnL.lookup i, fun _ => none⟩
end GL
