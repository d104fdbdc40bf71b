import Derived.Test.YtflbkhbfbcbcoaaGf0
import Derived.Test.YtflbkhbfbcbcoaaGlK
/- The machine's program: the functions that the law reaches. -/
set_option linter.unusedSimpArgs false
set_option linter.unusedVariables false
set_option linter.unnecessarySimpa false
namespace GL
def fnL : List (Nat × Fn) := [(52, g52),
  (62, g62),
  (41, g41),
  (53, g53),
  (55, g55),
  (42, g42),
  (54, g54),
  (56, g56),
  (45, g45),
  (57, g57),
  (46, g46),
  (58, g58),
  (47, g47),
  (63, g63),
  (107, g107),
  (100, g100),
  (98, g98),
  (26, g26),
  (102, g102),
  (122, g122),
  (25, g25),
  (118, g118),
  (119, g119),
  (112, g112),
  (120, g120),
  (121, g121),
  (117, g117),
  (123, g123),
  (114, g114),
  (115, g115),
  (126, g126),
  (127, g127),
  (128, g128),
  (111, g111),
  (130, g130),
  (149, g149),
  (116, g116),
  (49, g49),
  (131, g131),
  (146, g146),
  (147, g147),
  (148, g148)]
def p : Prog := ⟨fun i => fnL.lookup i, fun i => bif Nat.beq i 145 then some insE else none⟩
end GL
