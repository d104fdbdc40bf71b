import Derived.Test.YticjekppekdpnaaGf0
import Derived.Test.YticjekppekdpnaaGlG
/- The machine's program: the functions that the law reaches. -/
namespace GL
def fnL : List (Nat × Fn) := [(2, g2),
  (3, g3),
  (4, g4),
  (5, g5),
  (6, g6),
  (7, g7),
  (8, g8),
  (9, g9),
  (10, g10),
  (11, g11),
  (12, g12),
  (13, g13),
  (86, g86),
  (87, g87),
  (88, g88),
  (89, g89),
  (90, g90),
  (91, g91),
  (92, g92),
  (93, g93),
  (94, g94),
  (98, g98),
  (107, g107),
  (140, g140)]
def p : Prog := ⟨fun i => fnL.lookup i, fun _ => none⟩
end GL
