import Derived.Test.YtnlagjpblhjnbaaGf0
import Derived.Test.YtnlagjpblhjnbaaGlH
/- The machine's program: the functions that the law reaches. -/
set_option linter.unusedSimpArgs false
set_option linter.unusedVariables false
namespace GL
def fnL : List (Nat × Fn) := [(188, g188),
  (189, g189),
  (184, g184),
  (183, g183),
  (190, g190),
  (191, g191),
  (192, g192),
  (193, g193),
  (194, g194),
  (195, g195),
  (196, g196),
  (197, g197),
  (198, g198),
  (202, g202),
  (24, g24),
  (299, g299),
  (300, g300),
  (294, g294),
  (295, g295),
  (292, g292),
  (291, g291),
  (107, g107),
  (301, g301),
  (98, g98),
  (302, g302),
  (91, g91),
  (303, g303),
  (304, g304),
  (305, g305),
  (306, g306),
  (93, g93),
  (307, g307),
  (308, g308),
  (94, g94),
  (92, g92),
  (389, g389),
  (388, g388),
  (390, g390),
  (140, g140),
  (391, g391),
  (392, g392)]
def p : Prog := ⟨fun i => fnL.lookup i, fun _ => none⟩
end GL
