import Derived.Test.YtmgbbehacaldlaaGf0
import Derived.Test.YtmgbbehacaldlaaGlJ
/- The machine's program: the functions that the law reaches. -/
set_option linter.unusedSimpArgs false
set_option linter.unusedVariables false
set_option linter.unnecessarySimpa false
namespace GL
def fnL : List (Nat × Fn) := [(577, g577),
  (383, g383),
  (24, g24),
  (204, g204),
  (578, g578),
  (579, g579),
  (580, g580),
  (581, g581),
  (31, g31),
  (582, g582),
  (583, g583),
  (584, g584),
  (92, g92),
  (91, g91),
  (410, g410),
  (107, g107),
  (304, g304),
  (594, g594),
  (595, g595),
  (596, g596),
  (597, g597),
  (599, g599),
  (598, g598),
  (412, g412),
  (600, g600),
  (601, g601),
  (602, g602),
  (603, g603),
  (98, g98),
  (93, g93),
  (140, g140),
  (429, g429),
  (389, g389),
  (391, g391),
  (607, g607),
  (608, g608),
  (609, g609),
  (430, g430),
  (436, g436)]
def p : Prog := ⟨fun i => fnL.lookup i, fun i => bif Nat.beq i 340 then some sortE else none⟩
end GL
