import Derived.Test.YtiikknacnbbbjaaGlA
/- GL code of functions. -/
set_option linter.unusedSimpArgs false
set_option linter.unusedVariables false
namespace GL
open Go
/- loop.example/g00641/laws.FnExactSetColumn -/
def g48 : GL.Fn := ⟨.seq (.reg 0 [⟨0, some 7, none, .l (.box 7 2), [.t 3]⟩,
    ⟨1, some 8, none, .p .mov, [.c (.bool false)]⟩])
   (.seq (.reg 0 [⟨0, some 9, none, .p .mov, [.c (.int .i64 1048576)]⟩])
   (.seq (.reg 0 [⟨0, some 20, none, .p .mov, [.t 0]⟩,
    ⟨1, some 21, none, .p .mov, [.t 9]⟩,
    ⟨2, some 22, none, .e .call [] [], [.f 41, .t 20, .t 21]⟩,
    ⟨3, some 9, none, .p .mov, [.t 22]⟩])
   (.seq (.seq (.reg 0 [⟨0, some 23, none, .p .mov, [.t 9]⟩,
    ⟨1, some 24, none, .p (.bin .lss), [.t 23, .c (.int .i64 0)]⟩])
   (.cond (.t 24) (.seq (.reg 0 [⟨0, some 8, none, .p .mov, [.c (.bool true)]⟩])
   (.ret))
   (.skip)))
   (.seq (.reg 0 [⟨0, some 26, none, .p .mov, [.t 0]⟩,
    ⟨1, some 27, none, .e .call [] [], [.f 42, .t 26]⟩,
    ⟨2, some 28, none, .p .mov, [.t 1]⟩,
    ⟨3, some 29, none, .p .mov, [.t 2]⟩,
    ⟨4, some 30, none, .l (.load 7 true 2), [.t 7]⟩,
    ⟨5, some 31, none, .e .call [] [], [.f 49, .t 30]⟩,
    ⟨6, some 32, none, .e .call [] [], [.f 50, .t 27, .t 28, .t 29, .t 31]⟩,
    ⟨7, some 25, none, .p .mov, [.t 32]⟩,
    ⟨8, some 33, none, .p (.extract 0), [.t 25]⟩,
    ⟨9, some 34, none, .p (.extract 1), [.t 25]⟩,
    ⟨10, some 10, none, .p .mov, [.t 33]⟩,
    ⟨11, some 11, none, .p .mov, [.t 34]⟩])
   (.seq (.reg 0 [⟨0, some 35, none, .p .mov, [.t 0]⟩,
    ⟨1, some 36, none, .e .call [] [], [.f 42, .t 35]⟩,
    ⟨2, some 12, none, .p .mov, [.t 36]⟩])
   (.seq (.reg 0 [⟨0, some 38, none, .p .mov, [.t 12]⟩,
    ⟨1, some 39, none, .p .mov, [.t 1]⟩,
    ⟨2, some 40, none, .p .mov, [.t 2]⟩,
    ⟨3, some 41, none, .l (.load 7 true 2), [.t 7]⟩,
    ⟨4, some 42, none, .e .call [] [], [.f 49, .t 41]⟩,
    ⟨5, some 43, none, .e .call [] [], [.f 51, .t 38, .t 39, .t 40, .t 42]⟩,
    ⟨6, some 37, none, .p .mov, [.t 43]⟩,
    ⟨7, some 44, none, .p (.extract 0), [.t 37]⟩,
    ⟨8, some 45, none, .p (.extract 1), [.t 37]⟩,
    ⟨9, some 13, none, .p .mov, [.t 44]⟩,
    ⟨10, some 14, none, .p .mov, [.t 45]⟩])
   (.seq (.seq (.reg 0 [⟨0, some 46, none, .p .mov, [.t 13]⟩,
    ⟨1, some 47, none, .p .mov, [.t 10]⟩,
    ⟨2, some 48, none, .e .call [] [], [.f 45, .t 46, .t 47]⟩,
    ⟨3, some 49, none, .p (.un .not), [.t 48]⟩,
    ⟨4, some 50, none, .p .mov, [.t 49]⟩,
    ⟨5, some 51, some (50, false), .p .mov, [.t 14]⟩,
    ⟨6, some 52, some (50, false), .p .mov, [.t 11]⟩,
    ⟨7, some 53, some (50, false), .p (.eqB true), [.t 51, .t 52]⟩,
    ⟨8, some 54, none, .p .pick, [.t 50, .c (.bool true), .t 53]⟩])
   (.cond (.t 54) (.seq (.reg 0 [⟨0, some 8, none, .p .mov, [.c (.bool false)]⟩])
   (.ret))
   (.skip)))
   (.seq (.seq (.reg 0 [⟨0, some 55, none, .p .mov, [.t 12]⟩,
    ⟨1, some 56, none, .p .mov, [.t 0]⟩,
    ⟨2, some 57, none, .e .call [] [], [.f 42, .t 56]⟩,
    ⟨3, some 58, none, .e .call [] [], [.f 45, .t 55, .t 57]⟩,
    ⟨4, some 59, none, .p (.un .not), [.t 58]⟩])
   (.cond (.t 59) (.seq (.reg 0 [⟨0, some 8, none, .p .mov, [.c (.bool false)]⟩])
   (.ret))
   (.skip)))
   (.seq (.reg 0 [⟨0, some 15, none, .p .mov, [.c (.int .i64 1)]⟩])
   (.seq (.reg 0 [⟨0, some 60, none, .p .mov, [.t 12]⟩,
    ⟨1, some 61, none, .p .mov, [.t 15]⟩,
    ⟨2, some 62, none, .e .call [] [], [.f 46, .t 60, .t 61]⟩,
    ⟨3, some 15, none, .p .mov, [.t 62]⟩])
   (.seq (.seq (.reg 0 [⟨0, some 63, none, .p .mov, [.t 15]⟩,
    ⟨1, some 64, none, .p (.bin .lss), [.t 63, .c (.int .i64 0)]⟩,
    ⟨2, some 65, none, .p .mov, [.t 64]⟩,
    ⟨3, some 66, some (65, false), .p .mov, [.t 13]⟩,
    ⟨4, some 67, some (65, false), .p .mov, [.t 10]⟩,
    ⟨5, some 68, some (65, false), .e .call [] [], [.f 45, .t 66, .t 67]⟩,
    ⟨6, some 69, some (65, false), .p (.un .not), [.t 68]⟩,
    ⟨7, some 70, none, .p .pick, [.t 65, .c (.bool true), .t 69]⟩,
    ⟨8, some 71, none, .p .mov, [.t 70]⟩,
    ⟨9, some 72, some (71, false), .p .mov, [.t 14]⟩,
    ⟨10, some 73, some (71, false), .p .mov, [.t 11]⟩,
    ⟨11, some 74, some (71, false), .p (.eqB true), [.t 72, .t 73]⟩,
    ⟨12, some 75, none, .p .pick, [.t 71, .c (.bool true), .t 74]⟩])
   (.cond (.t 75) (.seq (.reg 0 [⟨0, some 8, none, .p .mov, [.c (.bool false)]⟩])
   (.ret))
   (.skip)))
   (.seq (.reg 0 [⟨0, some 16, none, .p .mov, [.c (.int .i64 1)]⟩])
   (.seq (.reg 0 [⟨0, some 76, none, .p .mov, [.t 13]⟩,
    ⟨1, some 77, none, .p .mov, [.t 16]⟩,
    ⟨2, some 78, none, .e .call [] [], [.f 46, .t 76, .t 77]⟩,
    ⟨3, some 16, none, .p .mov, [.t 78]⟩])
   (.seq (.reg 0 [⟨0, some 17, none, .p .mov, [.c (.int .i64 1)]⟩])
   (.seq (.reg 0 [⟨0, some 79, none, .p .mov, [.t 13]⟩,
    ⟨1, some 80, none, .p .mov, [.t 17]⟩,
    ⟨2, some 81, none, .e .call [] [], [.f 47, .t 79, .t 80]⟩,
    ⟨3, some 17, none, .p .mov, [.t 81]⟩])
   (.seq (.seq (.reg 0 [⟨0, some 82, none, .p .mov, [.t 17]⟩,
    ⟨1, some 83, none, .p (.bin .lss), [.t 82, .c (.int .i64 0)]⟩])
   (.cond (.t 83) (.seq (.reg 0 [⟨0, some 8, none, .p .mov, [.c (.bool false)]⟩])
   (.ret))
   (.skip)))
   (.seq (.seq (.reg 0 [⟨0, some 84, none, .p .mov, [.t 17]⟩,
    ⟨1, some 85, none, .p .mov, [.t 16]⟩,
    ⟨2, some 86, none, .p (.bin .neq), [.t 84, .t 85]⟩])
   (.cond (.t 86) (.seq (.reg 0 [⟨0, some 8, none, .p .mov, [.c (.bool false)]⟩])
   (.ret))
   (.skip)))
   (.seq (.reg 0 [⟨0, some 88, none, .p .mov, [.t 0]⟩,
    ⟨1, some 89, none, .e .call [] [], [.f 42, .t 88]⟩,
    ⟨2, some 90, none, .p .mov, [.t 1]⟩,
    ⟨3, some 91, none, .p .mov, [.t 2]⟩,
    ⟨4, some 92, none, .l (.load 7 true 2), [.t 7]⟩,
    ⟨5, some 93, none, .e .call [] [], [.f 49, .t 92]⟩,
    ⟨6, some 94, none, .e .call [] [], [.f 51, .t 89, .t 90, .t 91, .t 93]⟩,
    ⟨7, some 87, none, .p .mov, [.t 94]⟩,
    ⟨8, some 95, none, .p (.extract 0), [.t 87]⟩,
    ⟨9, some 96, none, .p (.extract 1), [.t 87]⟩,
    ⟨10, some 18, none, .p .mov, [.t 95]⟩,
    ⟨11, some 19, none, .p .mov, [.t 96]⟩])
   (.seq (.seq (.reg 0 [⟨0, some 97, none, .p .mov, [.t 18]⟩,
    ⟨1, some 98, none, .p .mov, [.t 10]⟩,
    ⟨2, some 99, none, .e .call [] [], [.f 45, .t 97, .t 98]⟩,
    ⟨3, some 100, none, .p (.un .not), [.t 99]⟩,
    ⟨4, some 101, none, .p .mov, [.t 100]⟩,
    ⟨5, some 102, some (101, false), .p .mov, [.t 19]⟩,
    ⟨6, some 103, some (101, false), .p .mov, [.t 11]⟩,
    ⟨7, some 104, some (101, false), .p (.eqB true), [.t 102, .t 103]⟩,
    ⟨8, some 105, none, .p .pick, [.t 101, .c (.bool true), .t 104]⟩])
   (.cond (.t 105) (.seq (.reg 0 [⟨0, some 8, none, .p .mov, [.c (.bool false)]⟩])
   (.ret))
   (.skip)))
   (.seq (.reg 0 [⟨0, some 17, none, .p .mov, [.c (.int .i64 1)]⟩])
   (.seq (.reg 0 [⟨0, some 106, none, .p .mov, [.t 13]⟩,
    ⟨1, some 107, none, .p .mov, [.t 17]⟩,
    ⟨2, some 108, none, .e .call [] [], [.f 47, .t 106, .t 107]⟩,
    ⟨3, some 17, none, .p .mov, [.t 108]⟩])
   (.seq (.seq (.reg 0 [⟨0, some 109, none, .p .mov, [.t 17]⟩,
    ⟨1, some 110, none, .p (.bin .lss), [.t 109, .c (.int .i64 0)]⟩])
   (.cond (.t 110) (.seq (.reg 0 [⟨0, some 8, none, .p .mov, [.c (.bool false)]⟩])
   (.ret))
   (.skip)))
   (.seq (.seq (.reg 0 [⟨0, some 111, none, .p .mov, [.t 17]⟩,
    ⟨1, some 112, none, .p .mov, [.t 16]⟩,
    ⟨2, some 113, none, .p (.bin .neq), [.t 111, .t 112]⟩])
   (.cond (.t 113) (.seq (.reg 0 [⟨0, some 8, none, .p .mov, [.c (.bool false)]⟩])
   (.ret))
   (.skip)))
   (.seq (.reg 0 [⟨0, some 8, none, .p .mov, [.c (.bool true)]⟩])
   (.ret))))))))))))))))))))))))),
  [.tmp 8]⟩
/- loop.example/g00641/impl.GoodValue -/
def g25 : GL.Fn := ⟨.seq (.reg 0 [⟨0, some 1, none, .l (.box 1 2), [.t 0]⟩,
    ⟨1, some 2, none, .p .mov, [.c (.bool false)]⟩])
   (.seq (.reg 0 [⟨0, some 3, none, .p (.faddr 0), [.t 1]⟩,
    ⟨1, some 4, none, .l (.load 1 false 1), [.t 3]⟩,
    ⟨2, some 5, none, .p .mov, [.t 4]⟩,
    ⟨3, some 6, some (5, true), .p (.faddr 1), [.t 1]⟩,
    ⟨4, some 7, some (5, true), .l (.load 1 false 1), [.t 6]⟩,
    ⟨5, some 8, some (5, true), .p (.bin .eql), [.t 7, .c (.int .i64 0)]⟩,
    ⟨6, some 9, none, .p .pick, [.t 5, .t 8, .c (.bool false)]⟩,
    ⟨7, some 10, none, .p .mov, [.t 9]⟩,
    ⟨8, some 11, some (10, false), .p (.faddr 0), [.t 1]⟩,
    ⟨9, some 12, some (10, false), .l (.load 1 false 1), [.t 11]⟩,
    ⟨10, some 13, some (10, false), .p (.un .not), [.t 12]⟩,
    ⟨11, some 14, some (10, false), .p .mov, [.t 13]⟩,
    ⟨12, some 15, some (14, true), .p (.faddr 1), [.t 1]⟩,
    ⟨13, some 16, some (14, true), .l (.load 1 false 1), [.t 15]⟩,
    ⟨14, some 17, some (14, true), .e .call [] [], [.f 100, .t 16]⟩,
    ⟨15, some 18, some (10, false), .p .pick, [.t 14, .t 17, .c (.bool false)]⟩,
    ⟨16, some 19, none, .p .pick, [.t 10, .c (.bool true), .t 18]⟩,
    ⟨17, some 2, none, .p .mov, [.t 19]⟩])
   (.ret)),
  [.tmp 2]⟩
/- loop.example/g00641/spec.GoodValue -/
def g26 : GL.Fn := ⟨.seq (.reg 0 [⟨0, some 1, none, .l (.box 1 2), [.t 0]⟩,
    ⟨1, some 2, none, .p .mov, [.c (.bool false)]⟩])
   (.seq (.reg 0 [⟨0, some 3, none, .p (.faddr 1), [.t 1]⟩,
    ⟨1, some 4, none, .l (.load 1 false 1), [.t 3]⟩,
    ⟨2, some 5, none, .e .call [] [], [.f 98, .t 4, .c (.int .i64 (-1000)), .c (.int .i64 1000)]⟩,
    ⟨3, some 6, none, .p .mov, [.t 5]⟩,
    ⟨4, some 7, some (6, true), .p (.faddr 0), [.t 1]⟩,
    ⟨5, some 8, some (6, true), .l (.load 1 false 1), [.t 7]⟩,
    ⟨6, some 9, some (6, true), .p (.un .not), [.t 8]⟩,
    ⟨7, some 10, some (6, true), .p .mov, [.t 9]⟩,
    ⟨8, some 11, some (10, false), .p (.faddr 1), [.t 1]⟩,
    ⟨9, some 12, some (10, false), .l (.load 1 false 1), [.t 11]⟩,
    ⟨10, some 13, some (10, false), .p (.bin .eql), [.t 12, .c (.int .i64 0)]⟩,
    ⟨11, some 14, some (6, true), .p .pick, [.t 10, .c (.bool true), .t 13]⟩,
    ⟨12, some 15, none, .p .pick, [.t 6, .t 14, .c (.bool false)]⟩,
    ⟨13, some 2, none, .p .mov, [.t 15]⟩])
   (.ret)),
  [.tmp 2]⟩
/- loop.example/g00641/laws.szRowS -/
def g41_0 : GL.Code := .seq (.seq (.reg 0 [⟨0, some 12, none, .p .mov, [.t 5]⟩,
    ⟨1, some 13, none, .p .mov, [.t 0]⟩,
    ⟨2, some 14, none, .p .len, [.t 13]⟩,
    ⟨3, some 15, none, .p (.bin .lss), [.t 12, .t 14]⟩])
   (.cond (.t 15) (.skip)
   (.exit 0)))
   (.seq (.block 1 (.seq (.reg 0 [⟨0, some 18, none, .p .mov, [.t 0]⟩,
    ⟨1, some 19, none, .p .mov, [.t 5]⟩,
    ⟨2, some 20, none, .p (.idx 2), [.t 18, .t 19]⟩,
    ⟨3, some 21, none, .r (.load true 2) false, [.t 20]⟩,
    ⟨4, some 22, none, .p .mov, [.t 1]⟩,
    ⟨5, some 23, none, .e .call [] [], [.f 53, .t 21, .t 22]⟩,
    ⟨6, some 1, none, .p .mov, [.t 23]⟩])
   (.seq (.reg 0 [⟨0, some 24, none, .p .mov, [.t 1]⟩,
    ⟨1, some 25, none, .p (.bin .lss), [.t 24, .c (.int .i64 0)]⟩])
   (.cond (.t 25) (.seq (.reg 0 [⟨0, some 4, none, .p .mov, [.c (.int .i64 (-1))]⟩])
   (.ret))
   (.skip)))))
   (.reg 0 [⟨0, some 16, none, .p .mov, [.t 5]⟩,
    ⟨1, some 17, none, .p (.bin .add), [.t 16, .c (.int .i64 1)]⟩,
    ⟨2, some 5, none, .p .mov, [.t 17]⟩]))
def g41 : GL.Fn := ⟨.seq (.reg 0 [⟨0, some 4, none, .p .mov, [.c (.int .i64 0)]⟩])
   (.seq (.reg 0 [⟨0, some 6, none, .p .mov, [.t 1]⟩,
    ⟨1, some 7, none, .p .mov, [.t 0]⟩,
    ⟨2, some 8, none, .p .len, [.t 7]⟩,
    ⟨3, some 9, none, .p (.bin .sub), [.t 6, .t 8]⟩,
    ⟨4, some 1, none, .p .mov, [.t 9]⟩])
   (.seq (.seq (.reg 0 [⟨0, some 10, none, .p .mov, [.t 1]⟩,
    ⟨1, some 11, none, .p (.bin .lss), [.t 10, .c (.int .i64 0)]⟩])
   (.cond (.t 11) (.seq (.reg 0 [⟨0, some 4, none, .p .mov, [.c (.int .i64 (-1))]⟩])
   (.ret))
   (.skip)))
   (.seq (.seq (.reg 0 [⟨0, some 5, none, .p .mov, [.c (.int .i64 0)]⟩])
   (.block 0 (.loop g41_0)))
   (.seq (.reg 0 [⟨0, some 26, none, .p .mov, [.t 1]⟩,
    ⟨1, some 4, none, .p .mov, [.t 26]⟩])
   (.ret))))),
  [.tmp 4]⟩
/- loop.example/g00641/laws.toRowS -/
def g42_0 : GL.Code := .seq (.seq (.reg 0 [⟨0, some 8, none, .p .mov, [.t 4]⟩,
    ⟨1, some 9, none, .p .mov, [.t 0]⟩,
    ⟨2, some 10, none, .p .len, [.t 9]⟩,
    ⟨3, some 11, none, .p (.bin .lss), [.t 8, .t 10]⟩])
   (.cond (.t 11) (.skip)
   (.exit 0)))
   (.seq (.block 1 (.reg 0 [⟨0, some 14, none, .p .mov, [.t 3]⟩,
    ⟨1, some 15, none, .p .mov, [.t 4]⟩,
    ⟨2, some 16, none, .p .mov, [.t 0]⟩,
    ⟨3, some 17, none, .p .mov, [.t 4]⟩,
    ⟨4, some 18, none, .p (.idx 2), [.t 16, .t 17]⟩,
    ⟨5, some 19, none, .r (.load true 2) false, [.t 18]⟩,
    ⟨6, some 20, none, .e .call [] [], [.f 54, .t 19]⟩,
    ⟨7, some 21, none, .p (.idx 2), [.t 14, .t 15]⟩,
    ⟨8, none, none, .e (.store 2) [] [], [.t 21, .t 20]⟩]))
   (.reg 0 [⟨0, some 12, none, .p .mov, [.t 4]⟩,
    ⟨1, some 13, none, .p (.bin .add), [.t 12, .c (.int .i64 1)]⟩,
    ⟨2, some 4, none, .p .mov, [.t 13]⟩]))
def g42 : GL.Fn := ⟨.seq (.reg 0 [⟨0, some 2, none, .p .mov, [.c (.nils)]⟩])
   (.seq (.reg 0 [⟨0, some 5, none, .p .mov, [.t 0]⟩,
    ⟨1, some 6, none, .p .len, [.t 5]⟩,
    ⟨2, some 7, none, .e (.new (.make 2 32 [.int .i64 0, .nils])) [] [], [.t 6, .t 6]⟩,
    ⟨3, some 3, none, .p .mov, [.t 7]⟩])
   (.seq (.seq (.reg 0 [⟨0, some 4, none, .p .mov, [.c (.int .i64 0)]⟩])
   (.block 0 (.loop g42_0)))
   (.seq (.reg 0 [⟨0, some 22, none, .p .mov, [.t 3]⟩,
    ⟨1, some 2, none, .p .mov, [.t 22]⟩])
   (.ret)))),
  [.tmp 2]⟩
/- loop.example/g00641/laws.eqRowS -/
def g45_0 : GL.Code := .seq (.seq (.reg 0 [⟨0, some 11, none, .p .mov, [.t 5]⟩,
    ⟨1, some 12, none, .p .mov, [.t 0]⟩,
    ⟨2, some 13, none, .p .len, [.t 12]⟩,
    ⟨3, some 14, none, .p (.bin .lss), [.t 11, .t 13]⟩])
   (.cond (.t 14) (.skip)
   (.exit 0)))
   (.seq (.block 1 (.seq (.reg 0 [⟨0, some 17, none, .p .mov, [.t 0]⟩,
    ⟨1, some 18, none, .p .mov, [.t 5]⟩,
    ⟨2, some 19, none, .p (.idx 2), [.t 17, .t 18]⟩,
    ⟨3, some 20, none, .r (.load true 2) false, [.t 19]⟩,
    ⟨4, some 21, none, .p .mov, [.t 1]⟩,
    ⟨5, some 22, none, .p .mov, [.t 5]⟩,
    ⟨6, some 23, none, .p (.idx 2), [.t 21, .t 22]⟩,
    ⟨7, some 24, none, .r (.load true 2) false, [.t 23]⟩,
    ⟨8, some 25, none, .e .call [] [], [.f 57, .t 20, .t 24]⟩,
    ⟨9, some 26, none, .p (.un .not), [.t 25]⟩])
   (.cond (.t 26) (.seq (.reg 0 [⟨0, some 4, none, .p .mov, [.c (.bool false)]⟩])
   (.ret))
   (.skip))))
   (.reg 0 [⟨0, some 15, none, .p .mov, [.t 5]⟩,
    ⟨1, some 16, none, .p (.bin .add), [.t 15, .c (.int .i64 1)]⟩,
    ⟨2, some 5, none, .p .mov, [.t 16]⟩]))
def g45 : GL.Fn := ⟨.seq (.reg 0 [⟨0, some 4, none, .p .mov, [.c (.bool false)]⟩])
   (.seq (.seq (.reg 0 [⟨0, some 6, none, .p .mov, [.t 0]⟩,
    ⟨1, some 7, none, .p .len, [.t 6]⟩,
    ⟨2, some 8, none, .p .mov, [.t 1]⟩,
    ⟨3, some 9, none, .p .len, [.t 8]⟩,
    ⟨4, some 10, none, .p (.bin .neq), [.t 7, .t 9]⟩])
   (.cond (.t 10) (.seq (.reg 0 [⟨0, some 4, none, .p .mov, [.c (.bool false)]⟩])
   (.ret))
   (.skip)))
   (.seq (.seq (.reg 0 [⟨0, some 5, none, .p .mov, [.c (.int .i64 0)]⟩])
   (.block 0 (.loop g45_0)))
   (.seq (.reg 0 [⟨0, some 4, none, .p .mov, [.c (.bool true)]⟩])
   (.ret)))),
  [.tmp 4]⟩
/- loop.example/g00641/laws.markRowS -/
def g46_0 : GL.Code := .seq (.seq (.reg 0 [⟨0, some 6, none, .p .mov, [.t 5]⟩,
    ⟨1, some 7, none, .p .mov, [.t 0]⟩,
    ⟨2, some 8, none, .p .len, [.t 7]⟩,
    ⟨3, some 9, none, .p (.bin .lss), [.t 6, .t 8]⟩])
   (.cond (.t 9) (.skip)
   (.exit 0)))
   (.seq (.block 1 (.seq (.reg 0 [⟨0, some 12, none, .p .mov, [.t 0]⟩,
    ⟨1, some 13, none, .p .mov, [.t 5]⟩,
    ⟨2, some 14, none, .p .mov, [.t 1]⟩,
    ⟨3, some 15, none, .p (.idx 2), [.t 12, .t 13]⟩,
    ⟨4, some 16, none, .p (.faddr 0), [.t 15]⟩,
    ⟨5, none, none, .e (.store 1) [] [], [.t 16, .t 14]⟩])
   (.seq (.reg 0 [⟨0, some 17, none, .p .mov, [.t 1]⟩,
    ⟨1, some 18, none, .p (.bin .add), [.t 17, .c (.int .i64 1)]⟩,
    ⟨2, some 1, none, .p .mov, [.t 18]⟩])
   (.reg 0 [⟨0, some 19, none, .p .mov, [.t 0]⟩,
    ⟨1, some 20, none, .p .mov, [.t 5]⟩,
    ⟨2, some 21, none, .p (.idx 2), [.t 19, .t 20]⟩,
    ⟨3, some 22, none, .p (.faddr 1), [.t 21]⟩,
    ⟨4, some 23, none, .r (.load false 1) false, [.t 22]⟩,
    ⟨5, some 24, none, .p .mov, [.t 1]⟩,
    ⟨6, some 25, none, .e .call [] [], [.f 114, .t 23, .t 24]⟩,
    ⟨7, some 1, none, .p .mov, [.t 25]⟩]))))
   (.reg 0 [⟨0, some 10, none, .p .mov, [.t 5]⟩,
    ⟨1, some 11, none, .p (.bin .add), [.t 10, .c (.int .i64 1)]⟩,
    ⟨2, some 5, none, .p .mov, [.t 11]⟩]))
def g46 : GL.Fn := ⟨.seq (.reg 0 [⟨0, some 4, none, .p .mov, [.c (.int .i64 0)]⟩])
   (.seq (.seq (.reg 0 [⟨0, some 5, none, .p .mov, [.c (.int .i64 0)]⟩])
   (.block 0 (.loop g46_0)))
   (.seq (.reg 0 [⟨0, some 26, none, .p .mov, [.t 1]⟩,
    ⟨1, some 4, none, .p .mov, [.t 26]⟩])
   (.ret))),
  [.tmp 4]⟩
/- loop.example/g00641/laws.heldRowS -/
def g47_0 : GL.Code := .seq (.seq (.reg 0 [⟨0, some 6, none, .p .mov, [.t 5]⟩,
    ⟨1, some 7, none, .p .mov, [.t 0]⟩,
    ⟨2, some 8, none, .p .len, [.t 7]⟩,
    ⟨3, some 9, none, .p (.bin .lss), [.t 6, .t 8]⟩])
   (.cond (.t 9) (.skip)
   (.exit 0)))
   (.seq (.block 1 (.seq (.seq (.reg 0 [⟨0, some 12, none, .p .mov, [.t 0]⟩,
    ⟨1, some 13, none, .p .mov, [.t 5]⟩,
    ⟨2, some 14, none, .p (.idx 2), [.t 12, .t 13]⟩,
    ⟨3, some 15, none, .p (.faddr 0), [.t 14]⟩,
    ⟨4, some 16, none, .r (.load false 1) false, [.t 15]⟩,
    ⟨5, some 17, none, .p .mov, [.t 1]⟩,
    ⟨6, some 18, none, .p (.bin .neq), [.t 16, .t 17]⟩])
   (.cond (.t 18) (.seq (.reg 0 [⟨0, some 4, none, .p .mov, [.c (.int .i64 (-1))]⟩])
   (.ret))
   (.skip)))
   (.seq (.reg 0 [⟨0, some 19, none, .p .mov, [.t 1]⟩,
    ⟨1, some 20, none, .p (.bin .add), [.t 19, .c (.int .i64 1)]⟩,
    ⟨2, some 1, none, .p .mov, [.t 20]⟩])
   (.seq (.reg 0 [⟨0, some 21, none, .p .mov, [.t 0]⟩,
    ⟨1, some 22, none, .p .mov, [.t 5]⟩,
    ⟨2, some 23, none, .p (.idx 2), [.t 21, .t 22]⟩,
    ⟨3, some 24, none, .p (.faddr 1), [.t 23]⟩,
    ⟨4, some 25, none, .r (.load false 1) false, [.t 24]⟩,
    ⟨5, some 26, none, .p .mov, [.t 1]⟩,
    ⟨6, some 27, none, .e .call [] [], [.f 115, .t 25, .t 26]⟩,
    ⟨7, some 1, none, .p .mov, [.t 27]⟩])
   (.seq (.reg 0 [⟨0, some 28, none, .p .mov, [.t 1]⟩,
    ⟨1, some 29, none, .p (.bin .lss), [.t 28, .c (.int .i64 0)]⟩])
   (.cond (.t 29) (.seq (.reg 0 [⟨0, some 4, none, .p .mov, [.c (.int .i64 (-1))]⟩])
   (.ret))
   (.skip)))))))
   (.reg 0 [⟨0, some 10, none, .p .mov, [.t 5]⟩,
    ⟨1, some 11, none, .p (.bin .add), [.t 10, .c (.int .i64 1)]⟩,
    ⟨2, some 5, none, .p .mov, [.t 11]⟩]))
def g47 : GL.Fn := ⟨.seq (.reg 0 [⟨0, some 4, none, .p .mov, [.c (.int .i64 0)]⟩])
   (.seq (.seq (.reg 0 [⟨0, some 5, none, .p .mov, [.c (.int .i64 0)]⟩])
   (.block 0 (.loop g47_0)))
   (.seq (.reg 0 [⟨0, some 30, none, .p .mov, [.t 1]⟩,
    ⟨1, some 4, none, .p .mov, [.t 30]⟩])
   (.ret))),
  [.tmp 4]⟩
/- loop.example/g00641/spec.SetColumn -/
def g50 : GL.Fn := ⟨.seq (.reg 0 [⟨0, some 7, none, .l (.box 7 2), [.t 3]⟩,
    ⟨1, some 8, none, .p .mov, [.c (.nils)]⟩,
    ⟨2, some 9, none, .p .mov, [.c (.bool false)]⟩])
   (.seq (.reg 0 [⟨0, some 12, none, .p .mov, [.t 0]⟩,
    ⟨1, some 13, none, .p .mov, [.t 1]⟩,
    ⟨2, some 14, none, .e .call [] [], [.f 110, .t 12, .t 13]⟩,
    ⟨3, some 10, none, .p .mov, [.t 14]⟩])
   (.seq (.seq (.reg 0 [⟨0, some 15, none, .p .mov, [.t 0]⟩,
    ⟨1, some 16, none, .e .call [] [], [.f 63, .t 15]⟩,
    ⟨2, some 17, none, .p (.un .not), [.t 16]⟩,
    ⟨3, some 18, none, .p .mov, [.t 17]⟩,
    ⟨4, some 19, some (18, false), .p .mov, [.t 10]⟩,
    ⟨5, some 20, some (18, false), .p (.bin .lss), [.t 19, .c (.int .i64 0)]⟩,
    ⟨6, some 21, none, .p .pick, [.t 18, .c (.bool true), .t 20]⟩,
    ⟨7, some 22, none, .p .mov, [.t 21]⟩,
    ⟨8, some 23, some (22, false), .p .mov, [.t 2]⟩,
    ⟨9, some 24, some (22, false), .e .call [] [], [.f 98, .t 23, .c (.int .i64 0), .c (.int .i64 2)]⟩,
    ⟨10, some 25, some (22, false), .p (.un .not), [.t 24]⟩,
    ⟨11, some 26, none, .p .pick, [.t 22, .c (.bool true), .t 25]⟩,
    ⟨12, some 27, none, .p .mov, [.t 26]⟩,
    ⟨13, some 28, some (27, false), .l (.load 7 true 2), [.t 7]⟩,
    ⟨14, some 29, some (27, false), .e .call [] [], [.f 26, .t 28]⟩,
    ⟨15, some 30, some (27, false), .p (.un .not), [.t 29]⟩,
    ⟨16, some 31, none, .p .pick, [.t 27, .c (.bool true), .t 30]⟩])
   (.cond (.t 31) (.seq (.reg 0 [⟨0, some 8, none, .p .mov, [.c (.nils)]⟩,
    ⟨1, some 9, none, .p .mov, [.c (.bool false)]⟩])
   (.ret))
   (.skip)))
   (.seq (.reg 0 [⟨0, some 32, none, .p .mov, [.t 0]⟩,
    ⟨1, some 33, none, .e .call [] [], [.f 116, .t 32]⟩,
    ⟨2, some 11, none, .p .mov, [.t 33]⟩])
   (.seq (.reg 0 [⟨0, some 34, none, .p .mov, [.t 11]⟩,
    ⟨1, some 35, none, .p .mov, [.t 10]⟩,
    ⟨2, some 36, none, .p (.idx 2), [.t 34, .t 35]⟩,
    ⟨3, some 37, none, .p (.faddr 1), [.t 36]⟩,
    ⟨4, some 38, none, .r (.load false 1) false, [.t 37]⟩,
    ⟨5, some 39, none, .p .mov, [.t 2]⟩,
    ⟨6, some 40, none, .l (.load 7 true 2), [.t 7]⟩,
    ⟨7, some 41, none, .p (.idx 2), [.t 38, .t 39]⟩,
    ⟨8, none, none, .e (.store 2) [] [], [.t 41, .t 40]⟩])
   (.seq (.reg 0 [⟨0, some 42, none, .p .mov, [.t 11]⟩,
    ⟨1, some 8, none, .p .mov, [.t 42]⟩,
    ⟨2, some 9, none, .p .mov, [.c (.bool true)]⟩])
   (.ret)))))),
  [.tmp 8, .tmp 9]⟩
/- loop.example/g00641/laws.toValue -/
def g49 : GL.Fn := ⟨.seq (.reg 0 [⟨0, some 1, none, .l (.box 1 2), [.t 0]⟩,
    ⟨1, some 2, none, .l (.alloc 2 [.bool false, .int .i64 0]), []⟩])
   (.seq (.reg 0 [⟨0, some 3, none, .l (.alloc 3 [.bool false, .int .i64 0]), []⟩])
   (.seq (.reg 0 [⟨0, some 4, none, .p (.faddr 0), [.t 1]⟩,
    ⟨1, some 5, none, .l (.load 1 false 1), [.t 4]⟩,
    ⟨2, some 6, none, .p (.faddr 0), [.t 3]⟩,
    ⟨3, none, none, .l (.store 3 1), [.t 6, .t 5]⟩])
   (.seq (.reg 0 [⟨0, some 7, none, .p (.faddr 1), [.t 1]⟩,
    ⟨1, some 8, none, .l (.load 1 false 1), [.t 7]⟩,
    ⟨2, some 9, none, .p (.faddr 1), [.t 3]⟩,
    ⟨3, none, none, .l (.store 3 1), [.t 9, .t 8]⟩])
   (.seq (.reg 0 [⟨0, some 10, none, .l (.load 3 true 2), [.t 3]⟩,
    ⟨1, none, none, .l (.store 2 2), [.t 2, .t 10]⟩])
   (.ret))))),
  [.cellL 2 2 true 2]⟩
/- loop.example/g00641/impl.SetColumn -/
def g51 : GL.Fn := ⟨.seq (.reg 0 [⟨0, some 7, none, .l (.box 7 2), [.t 3]⟩,
    ⟨1, some 8, none, .p .mov, [.c (.nils)]⟩,
    ⟨2, some 9, none, .p .mov, [.c (.bool false)]⟩])
   (.seq (.reg 0 [⟨0, some 13, none, .p .mov, [.t 0]⟩,
    ⟨1, some 14, none, .p .mov, [.t 1]⟩,
    ⟨2, some 15, none, .e .call [] [], [.f 64, .t 13, .t 14]⟩,
    ⟨3, some 12, none, .p .mov, [.t 15]⟩,
    ⟨4, some 16, none, .p (.extract 0), [.t 12]⟩,
    ⟨5, some 17, none, .p (.extract 1), [.t 12]⟩,
    ⟨6, some 10, none, .l (.alloc 10 [.int .i64 0, .nils]), []⟩,
    ⟨7, none, none, .l (.store 10 2), [.t 10, .t 16]⟩,
    ⟨8, some 11, none, .p .mov, [.t 17]⟩])
   (.seq (.seq (.reg 0 [⟨0, some 18, none, .p .mov, [.t 11]⟩,
    ⟨1, some 19, none, .p (.un .not), [.t 18]⟩,
    ⟨2, some 20, none, .p .mov, [.t 19]⟩,
    ⟨3, some 21, some (20, false), .p .mov, [.t 2]⟩,
    ⟨4, some 22, some (20, false), .e .call [] [], [.f 107, .t 21, .c (.int .i64 0), .c (.int .i64 2)]⟩,
    ⟨5, some 23, some (20, false), .p (.un .not), [.t 22]⟩,
    ⟨6, some 24, none, .p .pick, [.t 20, .c (.bool true), .t 23]⟩,
    ⟨7, some 25, none, .p .mov, [.t 24]⟩,
    ⟨8, some 26, some (25, false), .l (.load 7 true 2), [.t 7]⟩,
    ⟨9, some 27, some (25, false), .e .call [] [], [.f 25, .t 26]⟩,
    ⟨10, some 28, some (25, false), .p (.un .not), [.t 27]⟩,
    ⟨11, some 29, none, .p .pick, [.t 25, .c (.bool true), .t 28]⟩])
   (.cond (.t 29) (.seq (.reg 0 [⟨0, some 8, none, .p .mov, [.c (.nils)]⟩,
    ⟨1, some 9, none, .p .mov, [.c (.bool false)]⟩])
   (.ret))
   (.skip)))
   (.seq (.reg 0 [⟨0, some 30, none, .p (.faddr 1), [.t 10]⟩,
    ⟨1, some 31, none, .l (.load 10 false 1), [.t 30]⟩,
    ⟨2, some 32, none, .p .mov, [.t 2]⟩,
    ⟨3, some 33, none, .l (.load 7 true 2), [.t 7]⟩,
    ⟨4, some 34, none, .p (.idx 2), [.t 31, .t 32]⟩,
    ⟨5, none, none, .e (.store 2) [] [], [.t 34, .t 33]⟩])
   (.seq (.reg 0 [⟨0, some 35, none, .p .mov, [.t 0]⟩,
    ⟨1, some 36, none, .l (.load 10 true 2), [.t 10]⟩,
    ⟨2, some 37, none, .e .call [] [], [.f 117, .t 35, .t 36]⟩,
    ⟨3, some 38, none, .p (.extract 0), [.t 37]⟩,
    ⟨4, some 39, none, .p (.extract 1), [.t 37]⟩,
    ⟨5, some 8, none, .p .mov, [.t 38]⟩,
    ⟨6, some 9, none, .p .mov, [.t 39]⟩])
   (.ret))))),
  [.tmp 8, .tmp 9]⟩
/- loop.example/g00641/laws.szRow -/
def g53 : GL.Fn := ⟨.seq (.reg 0 [⟨0, some 2, none, .l (.box 2 2), [.t 0]⟩,
    ⟨1, some 4, none, .p .mov, [.c (.int .i64 0)]⟩])
   (.seq (.reg 0 [⟨0, some 5, none, .p (.faddr 1), [.t 2]⟩,
    ⟨1, some 6, none, .l (.load 2 false 1), [.t 5]⟩,
    ⟨2, some 7, none, .p .mov, [.t 1]⟩,
    ⟨3, some 8, none, .e .call [] [], [.f 118, .t 6, .t 7]⟩,
    ⟨4, some 1, none, .p .mov, [.t 8]⟩])
   (.seq (.seq (.reg 0 [⟨0, some 9, none, .p .mov, [.t 1]⟩,
    ⟨1, some 10, none, .p (.bin .lss), [.t 9, .c (.int .i64 0)]⟩])
   (.cond (.t 10) (.seq (.reg 0 [⟨0, some 4, none, .p .mov, [.c (.int .i64 (-1))]⟩])
   (.ret))
   (.skip)))
   (.seq (.reg 0 [⟨0, some 11, none, .p .mov, [.t 1]⟩,
    ⟨1, some 4, none, .p .mov, [.t 11]⟩])
   (.ret)))),
  [.tmp 4]⟩
/- loop.example/g00641/laws.toRow -/
def g54 : GL.Fn := ⟨.seq (.reg 0 [⟨0, some 1, none, .l (.box 1 2), [.t 0]⟩,
    ⟨1, some 2, none, .l (.alloc 2 [.int .i64 0, .nils]), []⟩])
   (.seq (.reg 0 [⟨0, some 3, none, .l (.alloc 3 [.int .i64 0, .nils]), []⟩])
   (.seq (.reg 0 [⟨0, some 4, none, .p (.faddr 0), [.t 1]⟩,
    ⟨1, some 5, none, .l (.load 1 false 1), [.t 4]⟩,
    ⟨2, some 6, none, .p (.faddr 0), [.t 3]⟩,
    ⟨3, none, none, .l (.store 3 1), [.t 6, .t 5]⟩])
   (.seq (.reg 0 [⟨0, some 7, none, .p (.faddr 1), [.t 1]⟩,
    ⟨1, some 8, none, .l (.load 1 false 1), [.t 7]⟩,
    ⟨2, some 9, none, .e .call [] [], [.f 121, .t 8]⟩,
    ⟨3, some 10, none, .p (.faddr 1), [.t 3]⟩,
    ⟨4, none, none, .l (.store 3 1), [.t 10, .t 9]⟩])
   (.seq (.reg 0 [⟨0, some 11, none, .l (.load 3 true 2), [.t 3]⟩,
    ⟨1, none, none, .l (.store 2 2), [.t 2, .t 11]⟩])
   (.ret))))),
  [.cellL 2 2 true 2]⟩
/- loop.example/g00641/laws.eqRow -/
def g57 : GL.Fn := ⟨.seq (.reg 0 [⟨0, some 2, none, .l (.box 2 2), [.t 0]⟩,
    ⟨1, some 3, none, .l (.box 3 2), [.t 1]⟩,
    ⟨2, some 4, none, .p .mov, [.c (.bool false)]⟩])
   (.seq (.seq (.reg 0 [⟨0, some 5, none, .p (.faddr 0), [.t 2]⟩,
    ⟨1, some 6, none, .l (.load 2 false 1), [.t 5]⟩,
    ⟨2, some 7, none, .p (.faddr 0), [.t 3]⟩,
    ⟨3, some 8, none, .l (.load 3 false 1), [.t 7]⟩,
    ⟨4, some 9, none, .p (.bin .neq), [.t 6, .t 8]⟩])
   (.cond (.t 9) (.seq (.reg 0 [⟨0, some 4, none, .p .mov, [.c (.bool false)]⟩])
   (.ret))
   (.skip)))
   (.seq (.seq (.reg 0 [⟨0, some 10, none, .p (.faddr 1), [.t 2]⟩,
    ⟨1, some 11, none, .l (.load 2 false 1), [.t 10]⟩,
    ⟨2, some 12, none, .p (.faddr 1), [.t 3]⟩,
    ⟨3, some 13, none, .l (.load 3 false 1), [.t 12]⟩,
    ⟨4, some 14, none, .e .call [] [], [.f 123, .t 11, .t 13]⟩,
    ⟨5, some 15, none, .p (.un .not), [.t 14]⟩])
   (.cond (.t 15) (.seq (.reg 0 [⟨0, some 4, none, .p .mov, [.c (.bool false)]⟩])
   (.ret))
   (.skip)))
   (.seq (.reg 0 [⟨0, some 4, none, .p .mov, [.c (.bool true)]⟩])
   (.ret)))),
  [.tmp 4]⟩
/- loop.example/g00641/impl.GoodTable -/
def g62_0 : GL.Code := .seq (.reg 0 [⟨0, some 8, none, .p (.bin .lss), [.t 7, .t 6]⟩])
   (.seq (.cond (.t 8) (.skip)
   (.exit 0))
   (.seq (.block 1 (.seq (.reg 0 [⟨0, some 9, none, .p .mov, [.t 7]⟩,
    ⟨1, some 10, none, .p (.idx 2), [.t 5, .t 7]⟩,
    ⟨2, some 11, none, .r (.load true 2) false, [.t 10]⟩,
    ⟨3, some 4, none, .l (.alloc 4 [.int .i64 0, .nils]), []⟩,
    ⟨4, some 3, none, .p .mov, [.t 9]⟩,
    ⟨5, none, none, .l (.store 4 2), [.t 4, .t 11]⟩])
   (.seq (.reg 0 [⟨0, some 12, none, .l (.load 4 true 2), [.t 4]⟩,
    ⟨1, some 13, none, .e .call [] [], [.f 122, .t 12]⟩,
    ⟨2, some 14, none, .p (.un .not), [.t 13]⟩,
    ⟨3, some 15, none, .p .mov, [.t 14]⟩,
    ⟨4, some 16, some (15, false), .p .mov, [.t 3]⟩,
    ⟨5, some 17, some (15, false), .p (.bin .gtr), [.t 16, .c (.int .i64 0)]⟩,
    ⟨6, some 18, some (15, false), .p .mov, [.t 17]⟩,
    ⟨7, some 19, some (18, true), .p .mov, [.t 0]⟩,
    ⟨8, some 20, some (18, true), .p .mov, [.t 3]⟩,
    ⟨9, some 21, some (18, true), .p (.bin .sub), [.t 20, .c (.int .i64 1)]⟩,
    ⟨10, some 22, some (18, true), .p (.idx 2), [.t 19, .t 21]⟩,
    ⟨11, some 23, some (18, true), .p (.faddr 0), [.t 22]⟩,
    ⟨12, some 24, some (18, true), .r (.load false 1) false, [.t 23]⟩,
    ⟨13, some 25, some (18, true), .p (.faddr 0), [.t 4]⟩,
    ⟨14, some 26, some (18, true), .l (.load 4 false 1), [.t 25]⟩,
    ⟨15, some 27, some (18, true), .p (.bin .geq), [.t 24, .t 26]⟩,
    ⟨16, some 28, some (15, false), .p .pick, [.t 18, .t 27, .c (.bool false)]⟩,
    ⟨17, some 29, none, .p .pick, [.t 15, .c (.bool true), .t 28]⟩])
   (.cond (.t 29) (.seq (.reg 0 [⟨0, some 2, none, .p .mov, [.c (.bool false)]⟩])
   (.ret))
   (.skip)))))
   (.reg 0 [⟨0, some 30, none, .p (.bin .add), [.t 7, .c (.int .i64 1)]⟩,
    ⟨1, some 7, none, .p .mov, [.t 30]⟩])))
def g62 : GL.Fn := ⟨.seq (.reg 0 [⟨0, some 2, none, .p .mov, [.c (.bool false)]⟩])
   (.seq (.seq (.reg 0 [⟨0, some 5, none, .p .mov, [.t 0]⟩,
    ⟨1, some 6, none, .p .len, [.t 5]⟩,
    ⟨2, some 7, none, .p .mov, [.c (.int .i64 0)]⟩])
   (.block 0 (.loop g62_0)))
   (.seq (.reg 0 [⟨0, some 31, none, .p .mov, [.t 0]⟩,
    ⟨1, some 32, none, .p .len, [.t 31]⟩,
    ⟨2, some 33, none, .p (.bin .leq), [.t 32, .c (.int .i64 20)]⟩,
    ⟨3, some 2, none, .p .mov, [.t 33]⟩])
   (.ret))),
  [.tmp 2]⟩
/- loop.example/g00641/spec.GoodTable -/
def g63_0 : GL.Code := .seq (.reg 0 [⟨0, some 8, none, .p (.bin .lss), [.t 7, .t 6]⟩])
   (.seq (.cond (.t 8) (.skip)
   (.exit 0))
   (.seq (.block 1 (.seq (.reg 0 [⟨0, some 9, none, .p .mov, [.t 7]⟩,
    ⟨1, some 10, none, .p (.idx 2), [.t 5, .t 7]⟩,
    ⟨2, some 11, none, .r (.load true 2) false, [.t 10]⟩,
    ⟨3, some 4, none, .l (.alloc 4 [.int .i64 0, .nils]), []⟩,
    ⟨4, some 3, none, .p .mov, [.t 9]⟩,
    ⟨5, none, none, .l (.store 4 2), [.t 4, .t 11]⟩])
   (.seq (.reg 0 [⟨0, some 12, none, .l (.load 4 true 2), [.t 4]⟩,
    ⟨1, some 13, none, .e .call [] [], [.f 119, .t 12]⟩,
    ⟨2, some 14, none, .p (.un .not), [.t 13]⟩,
    ⟨3, some 15, none, .p .mov, [.t 14]⟩,
    ⟨4, some 16, some (15, false), .p .mov, [.t 3]⟩,
    ⟨5, some 17, some (15, false), .p (.bin .gtr), [.t 16, .c (.int .i64 0)]⟩,
    ⟨6, some 18, some (15, false), .p .mov, [.t 17]⟩,
    ⟨7, some 19, some (18, true), .p .mov, [.t 0]⟩,
    ⟨8, some 20, some (18, true), .p .mov, [.t 3]⟩,
    ⟨9, some 21, some (18, true), .p (.bin .sub), [.t 20, .c (.int .i64 1)]⟩,
    ⟨10, some 22, some (18, true), .p (.idx 2), [.t 19, .t 21]⟩,
    ⟨11, some 23, some (18, true), .p (.faddr 0), [.t 22]⟩,
    ⟨12, some 24, some (18, true), .r (.load false 1) false, [.t 23]⟩,
    ⟨13, some 25, some (18, true), .p (.faddr 0), [.t 4]⟩,
    ⟨14, some 26, some (18, true), .l (.load 4 false 1), [.t 25]⟩,
    ⟨15, some 27, some (18, true), .p (.bin .geq), [.t 24, .t 26]⟩,
    ⟨16, some 28, some (15, false), .p .pick, [.t 18, .t 27, .c (.bool false)]⟩,
    ⟨17, some 29, none, .p .pick, [.t 15, .c (.bool true), .t 28]⟩])
   (.cond (.t 29) (.seq (.reg 0 [⟨0, some 2, none, .p .mov, [.c (.bool false)]⟩])
   (.ret))
   (.skip)))))
   (.reg 0 [⟨0, some 30, none, .p (.bin .add), [.t 7, .c (.int .i64 1)]⟩,
    ⟨1, some 7, none, .p .mov, [.t 30]⟩])))
def g63 : GL.Fn := ⟨.seq (.reg 0 [⟨0, some 2, none, .p .mov, [.c (.bool false)]⟩])
   (.seq (.seq (.reg 0 [⟨0, some 5, none, .p .mov, [.t 0]⟩,
    ⟨1, some 6, none, .p .len, [.t 5]⟩,
    ⟨2, some 7, none, .p .mov, [.c (.int .i64 0)]⟩])
   (.block 0 (.loop g63_0)))
   (.seq (.reg 0 [⟨0, some 31, none, .p .mov, [.t 0]⟩,
    ⟨1, some 32, none, .p .len, [.t 31]⟩,
    ⟨2, some 33, none, .p (.bin .leq), [.t 32, .c (.int .i64 20)]⟩,
    ⟨3, some 2, none, .p .mov, [.t 33]⟩])
   (.ret))),
  [.tmp 2]⟩
/- loop.example/g00641/impl.FindRow -/
def g64 : GL.Fn := ⟨.seq (.reg 0 [⟨0, some 4, none, .l (.alloc 4 [.int .i64 0, .nils]), []⟩,
    ⟨1, some 5, none, .p .mov, [.c (.bool false)]⟩])
   (.seq (.seq (.reg 0 [⟨0, some 8, none, .p .mov, [.t 0]⟩,
    ⟨1, some 9, none, .e .call [] [], [.f 62, .t 8]⟩,
    ⟨2, some 10, none, .p (.un .not), [.t 9]⟩,
    ⟨3, some 11, none, .p .mov, [.t 10]⟩,
    ⟨4, some 12, some (11, false), .p .mov, [.t 1]⟩,
    ⟨5, some 13, some (11, false), .e .call [] [], [.f 126, .t 12]⟩,
    ⟨6, some 14, some (11, false), .p (.un .not), [.t 13]⟩,
    ⟨7, some 15, none, .p .pick, [.t 11, .c (.bool true), .t 14]⟩])
   (.cond (.t 15) (.seq (.reg 0 [⟨0, some 16, none, .p (.build [.int .i64 0, .nils] []), []⟩,
    ⟨1, none, none, .l (.store 4 2), [.t 4, .t 16]⟩,
    ⟨2, some 5, none, .p .mov, [.c (.bool false)]⟩])
   (.ret))
   (.skip)))
   (.seq (.reg 0 [⟨0, some 18, none, .p .mov, [.t 0]⟩,
    ⟨1, some 19, none, .p .mov, [.t 1]⟩,
    ⟨2, some 20, none, .e .call [] [], [.f 127, .t 18, .t 19]⟩,
    ⟨3, some 17, none, .p .mov, [.t 20]⟩,
    ⟨4, some 21, none, .p (.extract 0), [.t 17]⟩,
    ⟨5, some 22, none, .p (.extract 1), [.t 17]⟩,
    ⟨6, some 6, none, .p .mov, [.t 21]⟩,
    ⟨7, some 7, none, .p .mov, [.t 22]⟩])
   (.seq (.seq (.reg 0 [⟨0, some 23, none, .p .mov, [.t 7]⟩,
    ⟨1, some 24, none, .p (.un .not), [.t 23]⟩])
   (.cond (.t 24) (.seq (.reg 0 [⟨0, some 25, none, .p (.build [.int .i64 0, .nils] []), []⟩,
    ⟨1, none, none, .l (.store 4 2), [.t 4, .t 25]⟩,
    ⟨2, some 5, none, .p .mov, [.c (.bool false)]⟩])
   (.ret))
   (.skip)))
   (.seq (.reg 0 [⟨0, some 26, none, .p .mov, [.t 0]⟩,
    ⟨1, some 27, none, .p .mov, [.t 6]⟩,
    ⟨2, some 28, none, .p (.idx 2), [.t 26, .t 27]⟩,
    ⟨3, some 29, none, .r (.load true 2) false, [.t 28]⟩,
    ⟨4, some 30, none, .e .call [] [], [.f 128, .t 29]⟩,
    ⟨5, none, none, .l (.store 4 2), [.t 4, .t 30]⟩,
    ⟨6, some 5, none, .p .mov, [.c (.bool true)]⟩])
   (.ret))))),
  [.cellL 4 4 true 2, .tmp 5]⟩
/- loop.example/g00641/spec.l1In -/
def g98 : GL.Fn := ⟨.seq (.reg 0 [⟨0, some 6, none, .p .mov, [.c (.bool false)]⟩])
   (.seq (.reg 0 [⟨0, some 7, none, .p .mov, [.t 0]⟩,
    ⟨1, some 8, none, .p .mov, [.t 1]⟩,
    ⟨2, some 9, none, .p (.bin .geq), [.t 7, .t 8]⟩,
    ⟨3, some 10, none, .p .mov, [.t 9]⟩,
    ⟨4, some 11, some (10, true), .p .mov, [.t 0]⟩,
    ⟨5, some 12, some (10, true), .p .mov, [.t 2]⟩,
    ⟨6, some 13, some (10, true), .p (.bin .leq), [.t 11, .t 12]⟩,
    ⟨7, some 14, none, .p .pick, [.t 10, .t 13, .c (.bool false)]⟩,
    ⟨8, some 6, none, .p .mov, [.t 14]⟩])
   (.ret)),
  [.tmp 6]⟩
/- loop.example/g00641/impl.isSmall -/
def g100 : GL.Fn := ⟨.seq (.reg 0 [⟨0, some 2, none, .p .mov, [.c (.bool false)]⟩])
   (.seq (.reg 0 [⟨0, some 3, none, .p .mov, [.t 0]⟩,
    ⟨1, some 4, none, .e .call [] [], [.f 107, .t 3, .c (.int .i64 (-1000)), .c (.int .i64 1000)]⟩,
    ⟨2, some 2, none, .p .mov, [.t 4]⟩])
   (.ret)),
  [.tmp 2]⟩
/- loop.example/g00641/impl.areValues -/
def g102_0 : GL.Code := .seq (.reg 0 [⟨0, some 8, none, .p (.bin .lss), [.t 7, .t 6]⟩])
   (.seq (.cond (.t 8) (.skip)
   (.exit 0))
   (.seq (.block 1 (.seq (.reg 0 [⟨0, some 9, none, .p (.idx 2), [.t 5, .t 7]⟩,
    ⟨1, some 10, none, .r (.load true 2) false, [.t 9]⟩,
    ⟨2, some 4, none, .l (.alloc 4 [.bool false, .int .i64 0]), []⟩,
    ⟨3, none, none, .l (.store 4 2), [.t 4, .t 10]⟩])
   (.seq (.reg 0 [⟨0, some 11, none, .l (.load 4 true 2), [.t 4]⟩,
    ⟨1, some 12, none, .e .call [] [], [.f 25, .t 11]⟩,
    ⟨2, some 13, none, .p (.un .not), [.t 12]⟩])
   (.cond (.t 13) (.seq (.reg 0 [⟨0, some 2, none, .p .mov, [.c (.bool false)]⟩])
   (.ret))
   (.skip)))))
   (.reg 0 [⟨0, some 14, none, .p (.bin .add), [.t 7, .c (.int .i64 1)]⟩,
    ⟨1, some 7, none, .p .mov, [.t 14]⟩])))
def g102 : GL.Fn := ⟨.seq (.reg 0 [⟨0, some 2, none, .p .mov, [.c (.bool false)]⟩])
   (.seq (.seq (.reg 0 [⟨0, some 5, none, .p .mov, [.t 0]⟩,
    ⟨1, some 6, none, .p .len, [.t 5]⟩,
    ⟨2, some 7, none, .p .mov, [.c (.int .i64 0)]⟩])
   (.block 0 (.loop g102_0)))
   (.seq (.reg 0 [⟨0, some 2, none, .p .mov, [.c (.bool true)]⟩])
   (.ret))),
  [.tmp 2]⟩
/- loop.example/g00641/impl.within -/
def g107 : GL.Fn := ⟨.seq (.reg 0 [⟨0, some 6, none, .p .mov, [.c (.bool false)]⟩])
   (.seq (.reg 0 [⟨0, some 7, none, .p .mov, [.t 0]⟩,
    ⟨1, some 8, none, .p .mov, [.t 1]⟩,
    ⟨2, some 9, none, .p (.bin .geq), [.t 7, .t 8]⟩,
    ⟨3, some 10, none, .p .mov, [.t 9]⟩,
    ⟨4, some 11, some (10, true), .p .mov, [.t 0]⟩,
    ⟨5, some 12, some (10, true), .p .mov, [.t 2]⟩,
    ⟨6, some 13, some (10, true), .p (.bin .leq), [.t 11, .t 12]⟩,
    ⟨7, some 14, none, .p .pick, [.t 10, .t 13, .c (.bool false)]⟩,
    ⟨8, some 6, none, .p .mov, [.t 14]⟩])
   (.ret)),
  [.tmp 6]⟩
/- loop.example/g00641/spec.l2Find -/
def g110_0 : GL.Code := .seq (.reg 0 [⟨0, some 10, none, .p (.bin .lss), [.t 9, .t 8]⟩])
   (.seq (.cond (.t 10) (.skip)
   (.exit 0))
   (.seq (.block 1 (.seq (.reg 0 [⟨0, some 11, none, .p .mov, [.t 9]⟩,
    ⟨1, some 12, none, .p (.idx 2), [.t 7, .t 9]⟩,
    ⟨2, some 13, none, .r (.load true 2) false, [.t 12]⟩,
    ⟨3, some 6, none, .l (.alloc 6 [.int .i64 0, .nils]), []⟩,
    ⟨4, some 5, none, .p .mov, [.t 11]⟩,
    ⟨5, none, none, .l (.store 6 2), [.t 6, .t 13]⟩])
   (.seq (.reg 0 [⟨0, some 14, none, .p (.faddr 0), [.t 6]⟩,
    ⟨1, some 15, none, .l (.load 6 false 1), [.t 14]⟩,
    ⟨2, some 16, none, .p .mov, [.t 1]⟩,
    ⟨3, some 17, none, .p (.bin .eql), [.t 15, .t 16]⟩])
   (.cond (.t 17) (.seq (.reg 0 [⟨0, some 18, none, .p .mov, [.t 5]⟩,
    ⟨1, some 4, none, .p .mov, [.t 18]⟩])
   (.ret))
   (.skip)))))
   (.reg 0 [⟨0, some 19, none, .p (.bin .add), [.t 9, .c (.int .i64 1)]⟩,
    ⟨1, some 9, none, .p .mov, [.t 19]⟩])))
def g110 : GL.Fn := ⟨.seq (.reg 0 [⟨0, some 4, none, .p .mov, [.c (.int .i64 0)]⟩])
   (.seq (.seq (.reg 0 [⟨0, some 7, none, .p .mov, [.t 0]⟩,
    ⟨1, some 8, none, .p .len, [.t 7]⟩,
    ⟨2, some 9, none, .p .mov, [.c (.int .i64 0)]⟩])
   (.block 0 (.loop g110_0)))
   (.seq (.reg 0 [⟨0, some 4, none, .p .mov, [.c (.int .i64 (-1))]⟩])
   (.ret))),
  [.tmp 4]⟩
/- loop.example/g00641/laws.markValueS -/
def g114_0 : GL.Code := .seq (.seq (.reg 0 [⟨0, some 6, none, .p .mov, [.t 5]⟩,
    ⟨1, some 7, none, .p .mov, [.t 0]⟩,
    ⟨2, some 8, none, .p .len, [.t 7]⟩,
    ⟨3, some 9, none, .p (.bin .lss), [.t 6, .t 8]⟩])
   (.cond (.t 9) (.skip)
   (.exit 0)))
   (.seq (.block 1 (.seq (.reg 0 [⟨0, some 12, none, .p .mov, [.t 0]⟩,
    ⟨1, some 13, none, .p .mov, [.t 5]⟩,
    ⟨2, some 14, none, .p .mov, [.t 1]⟩,
    ⟨3, some 15, none, .p (.bin .rem), [.t 14, .c (.int .i64 3)]⟩,
    ⟨4, some 16, none, .p (.bin .eql), [.t 15, .c (.int .i64 0)]⟩,
    ⟨5, some 17, none, .p (.idx 2), [.t 12, .t 13]⟩,
    ⟨6, some 18, none, .p (.faddr 0), [.t 17]⟩,
    ⟨7, none, none, .e (.store 1) [] [], [.t 18, .t 16]⟩])
   (.seq (.reg 0 [⟨0, some 19, none, .p .mov, [.t 1]⟩,
    ⟨1, some 20, none, .p (.bin .add), [.t 19, .c (.int .i64 1)]⟩,
    ⟨2, some 1, none, .p .mov, [.t 20]⟩])
   (.seq (.reg 0 [⟨0, some 21, none, .p .mov, [.t 0]⟩,
    ⟨1, some 22, none, .p .mov, [.t 5]⟩,
    ⟨2, some 23, none, .p .mov, [.t 1]⟩,
    ⟨3, some 24, none, .p (.idx 2), [.t 21, .t 22]⟩,
    ⟨4, some 25, none, .p (.faddr 1), [.t 24]⟩,
    ⟨5, none, none, .e (.store 1) [] [], [.t 25, .t 23]⟩])
   (.reg 0 [⟨0, some 26, none, .p .mov, [.t 1]⟩,
    ⟨1, some 27, none, .p (.bin .add), [.t 26, .c (.int .i64 1)]⟩,
    ⟨2, some 1, none, .p .mov, [.t 27]⟩])))))
   (.reg 0 [⟨0, some 10, none, .p .mov, [.t 5]⟩,
    ⟨1, some 11, none, .p (.bin .add), [.t 10, .c (.int .i64 1)]⟩,
    ⟨2, some 5, none, .p .mov, [.t 11]⟩]))
def g114 : GL.Fn := ⟨.seq (.reg 0 [⟨0, some 4, none, .p .mov, [.c (.int .i64 0)]⟩])
   (.seq (.seq (.reg 0 [⟨0, some 5, none, .p .mov, [.c (.int .i64 0)]⟩])
   (.block 0 (.loop g114_0)))
   (.seq (.reg 0 [⟨0, some 28, none, .p .mov, [.t 1]⟩,
    ⟨1, some 4, none, .p .mov, [.t 28]⟩])
   (.ret))),
  [.tmp 4]⟩
/- loop.example/g00641/laws.heldValueS -/
def g115_0 : GL.Code := .seq (.seq (.reg 0 [⟨0, some 6, none, .p .mov, [.t 5]⟩,
    ⟨1, some 7, none, .p .mov, [.t 0]⟩,
    ⟨2, some 8, none, .p .len, [.t 7]⟩,
    ⟨3, some 9, none, .p (.bin .lss), [.t 6, .t 8]⟩])
   (.cond (.t 9) (.skip)
   (.exit 0)))
   (.seq (.block 1 (.seq (.seq (.reg 0 [⟨0, some 12, none, .p .mov, [.t 0]⟩,
    ⟨1, some 13, none, .p .mov, [.t 5]⟩,
    ⟨2, some 14, none, .p (.idx 2), [.t 12, .t 13]⟩,
    ⟨3, some 15, none, .p (.faddr 0), [.t 14]⟩,
    ⟨4, some 16, none, .r (.load false 1) false, [.t 15]⟩,
    ⟨5, some 17, none, .p .mov, [.t 1]⟩,
    ⟨6, some 18, none, .p (.bin .rem), [.t 17, .c (.int .i64 3)]⟩,
    ⟨7, some 19, none, .p (.bin .eql), [.t 18, .c (.int .i64 0)]⟩,
    ⟨8, some 20, none, .p (.eqB true), [.t 16, .t 19]⟩])
   (.cond (.t 20) (.seq (.reg 0 [⟨0, some 4, none, .p .mov, [.c (.int .i64 (-1))]⟩])
   (.ret))
   (.skip)))
   (.seq (.reg 0 [⟨0, some 21, none, .p .mov, [.t 1]⟩,
    ⟨1, some 22, none, .p (.bin .add), [.t 21, .c (.int .i64 1)]⟩,
    ⟨2, some 1, none, .p .mov, [.t 22]⟩])
   (.seq (.seq (.reg 0 [⟨0, some 23, none, .p .mov, [.t 0]⟩,
    ⟨1, some 24, none, .p .mov, [.t 5]⟩,
    ⟨2, some 25, none, .p (.idx 2), [.t 23, .t 24]⟩,
    ⟨3, some 26, none, .p (.faddr 1), [.t 25]⟩,
    ⟨4, some 27, none, .r (.load false 1) false, [.t 26]⟩,
    ⟨5, some 28, none, .p .mov, [.t 1]⟩,
    ⟨6, some 29, none, .p (.bin .neq), [.t 27, .t 28]⟩])
   (.cond (.t 29) (.seq (.reg 0 [⟨0, some 4, none, .p .mov, [.c (.int .i64 (-1))]⟩])
   (.ret))
   (.skip)))
   (.reg 0 [⟨0, some 30, none, .p .mov, [.t 1]⟩,
    ⟨1, some 31, none, .p (.bin .add), [.t 30, .c (.int .i64 1)]⟩,
    ⟨2, some 1, none, .p .mov, [.t 31]⟩])))))
   (.reg 0 [⟨0, some 10, none, .p .mov, [.t 5]⟩,
    ⟨1, some 11, none, .p (.bin .add), [.t 10, .c (.int .i64 1)]⟩,
    ⟨2, some 5, none, .p .mov, [.t 11]⟩]))
def g115 : GL.Fn := ⟨.seq (.reg 0 [⟨0, some 4, none, .p .mov, [.c (.int .i64 0)]⟩])
   (.seq (.seq (.reg 0 [⟨0, some 5, none, .p .mov, [.c (.int .i64 0)]⟩])
   (.block 0 (.loop g115_0)))
   (.seq (.reg 0 [⟨0, some 32, none, .p .mov, [.t 1]⟩,
    ⟨1, some 4, none, .p .mov, [.t 32]⟩])
   (.ret))),
  [.tmp 4]⟩
/- loop.example/g00641/spec.l2Own -/
def g116_0 : GL.Code := .seq (.reg 0 [⟨0, some 9, none, .p (.bin .lss), [.t 8, .t 7]⟩])
   (.seq (.cond (.t 9) (.skip)
   (.exit 0))
   (.seq (.block 1 (.seq (.reg 0 [⟨0, some 10, none, .p (.idx 2), [.t 6, .t 8]⟩,
    ⟨1, some 11, none, .r (.load true 2) false, [.t 10]⟩,
    ⟨2, some 5, none, .l (.alloc 5 [.int .i64 0, .nils]), []⟩,
    ⟨3, none, none, .l (.store 5 2), [.t 5, .t 11]⟩])
   (.reg 0 [⟨0, some 12, none, .p .mov, [.t 3]⟩,
    ⟨1, some 13, none, .l (.load 5 true 2), [.t 5]⟩,
    ⟨2, some 14, none, .e .call [] [], [.f 130, .t 13]⟩,
    ⟨3, some 15, none, .e (.new (.lit 2)) [] [], [.t 14]⟩,
    ⟨4, some 16, none, .e (.append 2 32) [] [], [.t 12, .t 15]⟩,
    ⟨5, some 3, none, .p .mov, [.t 16]⟩])))
   (.reg 0 [⟨0, some 17, none, .p (.bin .add), [.t 8, .c (.int .i64 1)]⟩,
    ⟨1, some 8, none, .p .mov, [.t 17]⟩])))
def g116 : GL.Fn := ⟨.seq (.reg 0 [⟨0, some 2, none, .p .mov, [.c (.nils)]⟩])
   (.seq (.reg 0 [⟨0, some 3, none, .p .mov, [.c (.nils)]⟩])
   (.seq (.seq (.reg 0 [⟨0, some 6, none, .p .mov, [.t 0]⟩,
    ⟨1, some 7, none, .p .len, [.t 6]⟩,
    ⟨2, some 8, none, .p .mov, [.c (.int .i64 0)]⟩])
   (.block 0 (.loop g116_0)))
   (.seq (.reg 0 [⟨0, some 18, none, .p .mov, [.t 3]⟩,
    ⟨1, some 2, none, .p .mov, [.t 18]⟩])
   (.ret)))),
  [.tmp 2]⟩
/- loop.example/g00641/impl.put -/
def g117 : GL.Fn := ⟨.seq (.reg 0 [⟨0, some 3, none, .l (.box 3 2), [.t 1]⟩,
    ⟨1, some 4, none, .p .mov, [.c (.nils)]⟩,
    ⟨2, some 5, none, .p .mov, [.c (.bool false)]⟩])
   (.seq (.reg 0 [⟨0, some 9, none, .p .mov, [.t 0]⟩,
    ⟨1, some 10, none, .e .call [] [], [.f 131, .t 9]⟩,
    ⟨2, some 6, none, .p .mov, [.t 10]⟩])
   (.seq (.reg 0 [⟨0, some 12, none, .p .mov, [.t 6]⟩,
    ⟨1, some 13, none, .p (.faddr 0), [.t 3]⟩,
    ⟨2, some 14, none, .l (.load 3 false 1), [.t 13]⟩,
    ⟨3, some 15, none, .e .call [] [], [.f 127, .t 12, .t 14]⟩,
    ⟨4, some 11, none, .p .mov, [.t 15]⟩,
    ⟨5, some 16, none, .p (.extract 0), [.t 11]⟩,
    ⟨6, some 17, none, .p (.extract 1), [.t 11]⟩,
    ⟨7, some 7, none, .p .mov, [.t 16]⟩,
    ⟨8, some 8, none, .p .mov, [.t 17]⟩])
   (.seq (.seq (.reg 0 [⟨0, some 18, none, .p .mov, [.t 8]⟩])
   (.cond (.t 18) (.reg 0 [⟨0, some 19, none, .p .mov, [.t 6]⟩,
    ⟨1, some 20, none, .p .mov, [.t 7]⟩,
    ⟨2, some 21, none, .l (.load 3 true 2), [.t 3]⟩,
    ⟨3, some 22, none, .e .call [] [], [.f 128, .t 21]⟩,
    ⟨4, some 23, none, .p (.idx 2), [.t 19, .t 20]⟩,
    ⟨5, none, none, .e (.store 2) [] [], [.t 23, .t 22]⟩])
   (.reg 0 [⟨0, some 24, none, .p .mov, [.t 6]⟩,
    ⟨1, some 25, none, .p .mov, [.t 7]⟩,
    ⟨2, some 26, none, .l (.load 3 true 2), [.t 3]⟩,
    ⟨3, some 27, none, .e .call [] [], [.f 128, .t 26]⟩,
    ⟨4, some 28, none, .e (.new (.lit 2)) [] [], [.t 27]⟩,
    ⟨5, some 29, none, .e .call [] [], [.f 145, .t 24, .t 25, .t 28]⟩,
    ⟨6, some 6, none, .p .mov, [.t 29]⟩])))
   (.seq (.seq (.reg 0 [⟨0, some 30, none, .p .mov, [.t 6]⟩,
    ⟨1, some 31, none, .p .len, [.t 30]⟩,
    ⟨2, some 32, none, .p (.bin .gtr), [.t 31, .c (.int .i64 20)]⟩])
   (.cond (.t 32) (.seq (.reg 0 [⟨0, some 4, none, .p .mov, [.c (.nils)]⟩,
    ⟨1, some 5, none, .p .mov, [.c (.bool false)]⟩])
   (.ret))
   (.skip)))
   (.seq (.reg 0 [⟨0, some 33, none, .p .mov, [.t 6]⟩,
    ⟨1, some 4, none, .p .mov, [.t 33]⟩,
    ⟨2, some 5, none, .p .mov, [.c (.bool true)]⟩])
   (.ret)))))),
  [.tmp 4, .tmp 5]⟩
/- loop.example/g00641/laws.szValueS -/
def g118 : GL.Fn := ⟨.seq (.reg 0 [⟨0, some 4, none, .p .mov, [.c (.int .i64 0)]⟩])
   (.seq (.reg 0 [⟨0, some 5, none, .p .mov, [.t 1]⟩,
    ⟨1, some 6, none, .p .mov, [.t 0]⟩,
    ⟨2, some 7, none, .p .len, [.t 6]⟩,
    ⟨3, some 8, none, .p (.bin .sub), [.t 5, .t 7]⟩,
    ⟨4, some 1, none, .p .mov, [.t 8]⟩])
   (.seq (.seq (.reg 0 [⟨0, some 9, none, .p .mov, [.t 1]⟩,
    ⟨1, some 10, none, .p (.bin .lss), [.t 9, .c (.int .i64 0)]⟩])
   (.cond (.t 10) (.seq (.reg 0 [⟨0, some 4, none, .p .mov, [.c (.int .i64 (-1))]⟩])
   (.ret))
   (.skip)))
   (.seq (.reg 0 [⟨0, some 11, none, .p .mov, [.t 1]⟩,
    ⟨1, some 4, none, .p .mov, [.t 11]⟩])
   (.ret)))),
  [.tmp 4]⟩
/- loop.example/g00641/spec.l2Row -/
def g119_0 : GL.Code := .seq (.reg 0 [⟨0, some 9, none, .p (.bin .lss), [.t 8, .t 7]⟩])
   (.seq (.cond (.t 9) (.skip)
   (.exit 0))
   (.seq (.block 1 (.seq (.reg 0 [⟨0, some 10, none, .p (.idx 2), [.t 6, .t 8]⟩,
    ⟨1, some 11, none, .r (.load true 2) false, [.t 10]⟩,
    ⟨2, some 4, none, .l (.alloc 4 [.bool false, .int .i64 0]), []⟩,
    ⟨3, none, none, .l (.store 4 2), [.t 4, .t 11]⟩])
   (.seq (.reg 0 [⟨0, some 12, none, .l (.load 4 true 2), [.t 4]⟩,
    ⟨1, some 13, none, .e .call [] [], [.f 26, .t 12]⟩,
    ⟨2, some 14, none, .p (.un .not), [.t 13]⟩])
   (.cond (.t 14) (.seq (.reg 0 [⟨0, some 2, none, .p .mov, [.c (.bool false)]⟩])
   (.ret))
   (.skip)))))
   (.reg 0 [⟨0, some 15, none, .p (.bin .add), [.t 8, .c (.int .i64 1)]⟩,
    ⟨1, some 8, none, .p .mov, [.t 15]⟩])))
def g119 : GL.Fn := ⟨.seq (.reg 0 [⟨0, some 1, none, .l (.box 1 2), [.t 0]⟩,
    ⟨1, some 2, none, .p .mov, [.c (.bool false)]⟩])
   (.seq (.seq (.reg 0 [⟨0, some 5, none, .p (.faddr 1), [.t 1]⟩,
    ⟨1, some 6, none, .l (.load 1 false 1), [.t 5]⟩,
    ⟨2, some 7, none, .p .len, [.t 6]⟩,
    ⟨3, some 8, none, .p .mov, [.c (.int .i64 0)]⟩])
   (.block 0 (.loop g119_0)))
   (.seq (.reg 0 [⟨0, some 16, none, .p (.faddr 0), [.t 1]⟩,
    ⟨1, some 17, none, .l (.load 1 false 1), [.t 16]⟩,
    ⟨2, some 18, none, .e .call [] [], [.f 98, .t 17, .c (.int .i64 0), .c (.int .i64 999)]⟩,
    ⟨3, some 19, none, .p .mov, [.t 18]⟩,
    ⟨4, some 20, some (19, true), .p (.faddr 1), [.t 1]⟩,
    ⟨5, some 21, some (19, true), .l (.load 1 false 1), [.t 20]⟩,
    ⟨6, some 22, some (19, true), .p .len, [.t 21]⟩,
    ⟨7, some 23, some (19, true), .p (.bin .eql), [.t 22, .c (.int .i64 3)]⟩,
    ⟨8, some 24, none, .p .pick, [.t 19, .t 23, .c (.bool false)]⟩,
    ⟨9, some 2, none, .p .mov, [.t 24]⟩])
   (.ret))),
  [.tmp 2]⟩
/- loop.example/g00641/laws.toValueS -/
def g121_0 : GL.Code := .seq (.seq (.reg 0 [⟨0, some 8, none, .p .mov, [.t 4]⟩,
    ⟨1, some 9, none, .p .mov, [.t 0]⟩,
    ⟨2, some 10, none, .p .len, [.t 9]⟩,
    ⟨3, some 11, none, .p (.bin .lss), [.t 8, .t 10]⟩])
   (.cond (.t 11) (.skip)
   (.exit 0)))
   (.seq (.block 1 (.reg 0 [⟨0, some 14, none, .p .mov, [.t 3]⟩,
    ⟨1, some 15, none, .p .mov, [.t 4]⟩,
    ⟨2, some 16, none, .p .mov, [.t 0]⟩,
    ⟨3, some 17, none, .p .mov, [.t 4]⟩,
    ⟨4, some 18, none, .p (.idx 2), [.t 16, .t 17]⟩,
    ⟨5, some 19, none, .r (.load true 2) false, [.t 18]⟩,
    ⟨6, some 20, none, .e .call [] [], [.f 49, .t 19]⟩,
    ⟨7, some 21, none, .p (.idx 2), [.t 14, .t 15]⟩,
    ⟨8, none, none, .e (.store 2) [] [], [.t 21, .t 20]⟩]))
   (.reg 0 [⟨0, some 12, none, .p .mov, [.t 4]⟩,
    ⟨1, some 13, none, .p (.bin .add), [.t 12, .c (.int .i64 1)]⟩,
    ⟨2, some 4, none, .p .mov, [.t 13]⟩]))
def g121 : GL.Fn := ⟨.seq (.reg 0 [⟨0, some 2, none, .p .mov, [.c (.nils)]⟩])
   (.seq (.reg 0 [⟨0, some 5, none, .p .mov, [.t 0]⟩,
    ⟨1, some 6, none, .p .len, [.t 5]⟩,
    ⟨2, some 7, none, .e (.new (.make 2 16 [.bool false, .int .i64 0])) [] [], [.t 6, .t 6]⟩,
    ⟨3, some 3, none, .p .mov, [.t 7]⟩])
   (.seq (.seq (.reg 0 [⟨0, some 4, none, .p .mov, [.c (.int .i64 0)]⟩])
   (.block 0 (.loop g121_0)))
   (.seq (.reg 0 [⟨0, some 22, none, .p .mov, [.t 3]⟩,
    ⟨1, some 2, none, .p .mov, [.t 22]⟩])
   (.ret)))),
  [.tmp 2]⟩
/- loop.example/g00641/impl.isRow -/
def g122 : GL.Fn := ⟨.seq (.reg 0 [⟨0, some 1, none, .l (.box 1 2), [.t 0]⟩,
    ⟨1, some 2, none, .p .mov, [.c (.bool false)]⟩])
   (.seq (.reg 0 [⟨0, some 3, none, .p (.faddr 0), [.t 1]⟩,
    ⟨1, some 4, none, .l (.load 1 false 1), [.t 3]⟩,
    ⟨2, some 5, none, .e .call [] [], [.f 126, .t 4]⟩,
    ⟨3, some 6, none, .p .mov, [.t 5]⟩,
    ⟨4, some 7, some (6, true), .p (.faddr 1), [.t 1]⟩,
    ⟨5, some 8, some (6, true), .l (.load 1 false 1), [.t 7]⟩,
    ⟨6, some 9, some (6, true), .p .len, [.t 8]⟩,
    ⟨7, some 10, some (6, true), .p (.bin .eql), [.t 9, .c (.int .i64 3)]⟩,
    ⟨8, some 11, none, .p .pick, [.t 6, .t 10, .c (.bool false)]⟩,
    ⟨9, some 12, none, .p .mov, [.t 11]⟩,
    ⟨10, some 13, some (12, true), .p (.faddr 1), [.t 1]⟩,
    ⟨11, some 14, some (12, true), .l (.load 1 false 1), [.t 13]⟩,
    ⟨12, some 15, some (12, true), .e .call [] [], [.f 102, .t 14]⟩,
    ⟨13, some 16, none, .p .pick, [.t 12, .t 15, .c (.bool false)]⟩,
    ⟨14, some 2, none, .p .mov, [.t 16]⟩])
   (.ret)),
  [.tmp 2]⟩
/- loop.example/g00641/laws.eqValueS -/
def g123_0 : GL.Code := .seq (.seq (.reg 0 [⟨0, some 11, none, .p .mov, [.t 5]⟩,
    ⟨1, some 12, none, .p .mov, [.t 0]⟩,
    ⟨2, some 13, none, .p .len, [.t 12]⟩,
    ⟨3, some 14, none, .p (.bin .lss), [.t 11, .t 13]⟩])
   (.cond (.t 14) (.skip)
   (.exit 0)))
   (.seq (.block 1 (.seq (.reg 0 [⟨0, some 17, none, .p .mov, [.t 0]⟩,
    ⟨1, some 18, none, .p .mov, [.t 5]⟩,
    ⟨2, some 19, none, .p (.idx 2), [.t 17, .t 18]⟩,
    ⟨3, some 20, none, .r (.load true 2) false, [.t 19]⟩,
    ⟨4, some 21, none, .p .mov, [.t 1]⟩,
    ⟨5, some 22, none, .p .mov, [.t 5]⟩,
    ⟨6, some 23, none, .p (.idx 2), [.t 21, .t 22]⟩,
    ⟨7, some 24, none, .r (.load true 2) false, [.t 23]⟩,
    ⟨8, some 25, none, .e .call [] [], [.f 146, .t 20, .t 24]⟩,
    ⟨9, some 26, none, .p (.un .not), [.t 25]⟩])
   (.cond (.t 26) (.seq (.reg 0 [⟨0, some 4, none, .p .mov, [.c (.bool false)]⟩])
   (.ret))
   (.skip))))
   (.reg 0 [⟨0, some 15, none, .p .mov, [.t 5]⟩,
    ⟨1, some 16, none, .p (.bin .add), [.t 15, .c (.int .i64 1)]⟩,
    ⟨2, some 5, none, .p .mov, [.t 16]⟩]))
def g123 : GL.Fn := ⟨.seq (.reg 0 [⟨0, some 4, none, .p .mov, [.c (.bool false)]⟩])
   (.seq (.seq (.reg 0 [⟨0, some 6, none, .p .mov, [.t 0]⟩,
    ⟨1, some 7, none, .p .len, [.t 6]⟩,
    ⟨2, some 8, none, .p .mov, [.t 1]⟩,
    ⟨3, some 9, none, .p .len, [.t 8]⟩,
    ⟨4, some 10, none, .p (.bin .neq), [.t 7, .t 9]⟩])
   (.cond (.t 10) (.seq (.reg 0 [⟨0, some 4, none, .p .mov, [.c (.bool false)]⟩])
   (.ret))
   (.skip)))
   (.seq (.seq (.reg 0 [⟨0, some 5, none, .p .mov, [.c (.int .i64 0)]⟩])
   (.block 0 (.loop g123_0)))
   (.seq (.reg 0 [⟨0, some 4, none, .p .mov, [.c (.bool true)]⟩])
   (.ret)))),
  [.tmp 4]⟩
/- loop.example/g00641/impl.isKey -/
def g126 : GL.Fn := ⟨.seq (.reg 0 [⟨0, some 2, none, .p .mov, [.c (.bool false)]⟩])
   (.seq (.reg 0 [⟨0, some 3, none, .p .mov, [.t 0]⟩,
    ⟨1, some 4, none, .e .call [] [], [.f 107, .t 3, .c (.int .i64 0), .c (.int .i64 999)]⟩,
    ⟨2, some 2, none, .p .mov, [.t 4]⟩])
   (.ret)),
  [.tmp 2]⟩
/- loop.example/g00641/impl.place -/
def g127 : GL.Fn := ⟨.seq (.reg 0 [⟨0, some 4, none, .p .mov, [.c (.int .i64 0)]⟩,
    ⟨1, some 5, none, .p .mov, [.c (.bool false)]⟩])
   (.seq (.reg 0 [⟨0, some 6, none, .p .mov, [.t 0]⟩,
    ⟨1, some 7, none, .p .mov, [.t 1]⟩,
    ⟨2, some 8, none, .e .call [] [], [.f 147, .t 6, .t 7, .f 148]⟩,
    ⟨3, some 9, none, .p (.extract 0), [.t 8]⟩,
    ⟨4, some 10, none, .p (.extract 1), [.t 8]⟩,
    ⟨5, some 4, none, .p .mov, [.t 9]⟩,
    ⟨6, some 5, none, .p .mov, [.t 10]⟩])
   (.ret)),
  [.tmp 4, .tmp 5]⟩
/- (loop.example/g00641/impl.Row).cloned -/
def g128 : GL.Fn := ⟨.seq (.reg 0 [⟨0, some 1, none, .l (.box 1 2), [.t 0]⟩,
    ⟨1, some 2, none, .l (.alloc 2 [.int .i64 0, .nils]), []⟩])
   (.seq (.reg 0 [⟨0, some 3, none, .p (.faddr 0), [.t 1]⟩,
    ⟨1, some 4, none, .l (.load 1 false 1), [.t 3]⟩,
    ⟨2, some 5, none, .p (.faddr 1), [.t 1]⟩,
    ⟨3, some 6, none, .l (.load 1 false 1), [.t 5]⟩,
    ⟨4, some 7, none, .e .call [] [], [.f 149, .t 6]⟩,
    ⟨5, some 8, none, .p (.build [.int .i64 0, .nils] [(0, 1), (1, 1)]), [.t 4, .t 7]⟩,
    ⟨6, none, none, .l (.store 2 2), [.t 2, .t 8]⟩])
   (.ret)),
  [.cellL 2 2 true 2]⟩
/- loop.example/g00641/spec.l2Copy -/
def g130 : GL.Fn := ⟨.seq (.reg 0 [⟨0, some 1, none, .l (.box 1 2), [.t 0]⟩,
    ⟨1, some 2, none, .l (.alloc 2 [.int .i64 0, .nils]), []⟩])
   (.seq (.reg 0 [⟨0, some 3, none, .p (.faddr 0), [.t 1]⟩,
    ⟨1, some 4, none, .l (.load 1 false 1), [.t 3]⟩,
    ⟨2, some 5, none, .e (.new (.lit 2)) [] [], []⟩,
    ⟨3, some 6, none, .p (.faddr 1), [.t 1]⟩,
    ⟨4, some 7, none, .l (.load 1 false 1), [.t 6]⟩,
    ⟨5, some 8, none, .e (.append 2 16) [] [], [.t 5, .t 7]⟩,
    ⟨6, some 9, none, .p (.build [.int .i64 0, .nils] [(0, 1), (1, 1)]), [.t 4, .t 8]⟩,
    ⟨7, none, none, .l (.store 2 2), [.t 2, .t 9]⟩])
   (.ret)),
  [.cellL 2 2 true 2]⟩
/- loop.example/g00641/impl.clonedRows -/
def g131_0 : GL.Code := .seq (.reg 0 [⟨0, some 10, none, .p (.bin .lss), [.t 9, .t 8]⟩])
   (.seq (.cond (.t 10) (.skip)
   (.exit 0))
   (.seq (.block 1 (.seq (.reg 0 [⟨0, some 11, none, .p (.idx 2), [.t 7, .t 9]⟩,
    ⟨1, some 12, none, .r (.load true 2) false, [.t 11]⟩,
    ⟨2, some 5, none, .l (.alloc 5 [.int .i64 0, .nils]), []⟩,
    ⟨3, none, none, .l (.store 5 2), [.t 5, .t 12]⟩])
   (.reg 0 [⟨0, some 13, none, .p .mov, [.t 3]⟩,
    ⟨1, some 14, none, .l (.load 5 true 2), [.t 5]⟩,
    ⟨2, some 15, none, .e .call [] [], [.f 128, .t 14]⟩,
    ⟨3, some 16, none, .e (.new (.lit 2)) [] [], [.t 15]⟩,
    ⟨4, some 17, none, .e (.append 2 32) [] [], [.t 13, .t 16]⟩,
    ⟨5, some 3, none, .p .mov, [.t 17]⟩])))
   (.reg 0 [⟨0, some 18, none, .p (.bin .add), [.t 9, .c (.int .i64 1)]⟩,
    ⟨1, some 9, none, .p .mov, [.t 18]⟩])))
def g131 : GL.Fn := ⟨.seq (.reg 0 [⟨0, some 2, none, .p .mov, [.c (.nils)]⟩])
   (.seq (.reg 0 [⟨0, some 6, none, .e (.new (.lit 2)) [] [], []⟩,
    ⟨1, some 3, none, .p .mov, [.t 6]⟩])
   (.seq (.seq (.reg 0 [⟨0, some 7, none, .p .mov, [.t 0]⟩,
    ⟨1, some 8, none, .p .len, [.t 7]⟩,
    ⟨2, some 9, none, .p .mov, [.c (.int .i64 0)]⟩])
   (.block 0 (.loop g131_0)))
   (.seq (.reg 0 [⟨0, some 19, none, .p .mov, [.t 3]⟩,
    ⟨1, some 2, none, .p .mov, [.t 19]⟩])
   (.ret)))),
  [.tmp 2]⟩
/- slices.Insert[[]loop.example/g00641/impl.Row,loop.example/g00641/impl.Row] -/
def g145 : GL.Fn := ⟨.seq (.reg 0 [⟨0, some 6, none, .p .mov, [.c (.nils)]⟩])
   (.seq (.reg 0 [⟨0, some 10, none, .p .mov, [.t 0]⟩,
    ⟨1, some 11, none, .p .mov, [.t 1]⟩,
    ⟨2, some 12, none, .p (.slice 2 true false false), [.t 10, .t 11]⟩])
   (.seq (.reg 0 [⟨0, some 13, none, .p .mov, [.t 2]⟩,
    ⟨1, some 14, none, .p .len, [.t 13]⟩,
    ⟨2, some 7, none, .p .mov, [.t 14]⟩])
   (.seq (.seq (.reg 0 [⟨0, some 15, none, .p .mov, [.t 7]⟩,
    ⟨1, some 16, none, .p (.bin .eql), [.t 15, .c (.int .i64 0)]⟩])
   (.cond (.t 16) (.seq (.reg 0 [⟨0, some 17, none, .p .mov, [.t 0]⟩,
    ⟨1, some 6, none, .p .mov, [.t 17]⟩])
   (.ret))
   (.skip)))
   (.seq (.reg 0 [⟨0, some 18, none, .p .mov, [.t 0]⟩,
    ⟨1, some 19, none, .p .len, [.t 18]⟩,
    ⟨2, some 8, none, .p .mov, [.t 19]⟩])
   (.seq (.seq (.reg 0 [⟨0, some 20, none, .p .mov, [.t 1]⟩,
    ⟨1, some 21, none, .p .mov, [.t 8]⟩,
    ⟨2, some 22, none, .p (.bin .eql), [.t 20, .t 21]⟩])
   (.cond (.t 22) (.seq (.reg 0 [⟨0, some 23, none, .p .mov, [.t 0]⟩,
    ⟨1, some 24, none, .p .mov, [.t 2]⟩,
    ⟨2, some 25, none, .e (.append 2 32) [] [], [.t 23, .t 24]⟩,
    ⟨3, some 6, none, .p .mov, [.t 25]⟩])
   (.ret))
   (.skip)))
   (.seq (.seq (.reg 0 [⟨0, some 26, none, .p .mov, [.t 8]⟩,
    ⟨1, some 27, none, .p .mov, [.t 7]⟩,
    ⟨2, some 28, none, .p (.bin .add), [.t 26, .t 27]⟩,
    ⟨3, some 29, none, .p .mov, [.t 0]⟩,
    ⟨4, some 30, none, .p .cap, [.t 29]⟩,
    ⟨5, some 31, none, .p (.bin .gtr), [.t 28, .t 30]⟩])
   (.cond (.t 31) (.seq (.reg 0 [⟨0, some 32, none, .p .mov, [.t 0]⟩,
    ⟨1, some 33, none, .p .mov, [.t 1]⟩,
    ⟨2, some 34, none, .p (.slice 2 false true false), [.t 32, .t 33]⟩,
    ⟨3, some 35, none, .p .mov, [.t 8]⟩,
    ⟨4, some 36, none, .p .mov, [.t 7]⟩,
    ⟨5, some 37, none, .p (.bin .add), [.t 35, .t 36]⟩,
    ⟨6, some 38, none, .p .mov, [.t 1]⟩,
    ⟨7, some 39, none, .p (.bin .sub), [.t 37, .t 38]⟩,
    ⟨8, some 40, none, .e (.appendZ 2 32 [.int .i64 0, .nils]) [] [], [.t 34, .t 39]⟩,
    ⟨9, some 9, none, .p .mov, [.t 40]⟩])
   (.seq (.reg 0 [⟨0, some 41, none, .p .mov, [.t 9]⟩,
    ⟨1, some 42, none, .p .mov, [.t 1]⟩,
    ⟨2, some 43, none, .p (.slice 2 true false false), [.t 41, .t 42]⟩,
    ⟨3, some 44, none, .p .mov, [.t 2]⟩,
    ⟨4, some 45, none, .e (.copy 2) [] [], [.t 43, .t 44]⟩])
   (.seq (.reg 0 [⟨0, some 46, none, .p .mov, [.t 9]⟩,
    ⟨1, some 47, none, .p .mov, [.t 1]⟩,
    ⟨2, some 48, none, .p .mov, [.t 7]⟩,
    ⟨3, some 49, none, .p (.bin .add), [.t 47, .t 48]⟩,
    ⟨4, some 50, none, .p (.slice 2 true false false), [.t 46, .t 49]⟩,
    ⟨5, some 51, none, .p .mov, [.t 0]⟩,
    ⟨6, some 52, none, .p .mov, [.t 1]⟩,
    ⟨7, some 53, none, .p (.slice 2 true false false), [.t 51, .t 52]⟩,
    ⟨8, some 54, none, .e (.copy 2) [] [], [.t 50, .t 53]⟩])
   (.seq (.reg 0 [⟨0, some 55, none, .p .mov, [.t 9]⟩,
    ⟨1, some 6, none, .p .mov, [.t 55]⟩])
   (.ret)))))
   (.skip)))
   (.seq (.reg 0 [⟨0, some 56, none, .p .mov, [.t 0]⟩,
    ⟨1, some 57, none, .p .mov, [.t 8]⟩,
    ⟨2, some 58, none, .p .mov, [.t 7]⟩,
    ⟨3, some 59, none, .p (.bin .add), [.t 57, .t 58]⟩,
    ⟨4, some 60, none, .p (.slice 2 false true false), [.t 56, .t 59]⟩,
    ⟨5, some 0, none, .p .mov, [.t 60]⟩])
   (.seq (.seq (.reg 0 [⟨0, some 61, none, .p .mov, [.t 2]⟩,
    ⟨1, some 62, none, .p .mov, [.t 0]⟩,
    ⟨2, some 63, none, .p .mov, [.t 1]⟩,
    ⟨3, some 64, none, .p .mov, [.t 7]⟩,
    ⟨4, some 65, none, .p (.bin .add), [.t 63, .t 64]⟩,
    ⟨5, some 66, none, .p (.slice 2 true false false), [.t 62, .t 65]⟩,
    ⟨6, some 67, none, .e .call [] [], [.f 155, .t 61, .t 66]⟩,
    ⟨7, some 68, none, .p (.un .not), [.t 67]⟩])
   (.cond (.t 68) (.seq (.reg 0 [⟨0, some 69, none, .p .mov, [.t 0]⟩,
    ⟨1, some 70, none, .p .mov, [.t 1]⟩,
    ⟨2, some 71, none, .p .mov, [.t 7]⟩,
    ⟨3, some 72, none, .p (.bin .add), [.t 70, .t 71]⟩,
    ⟨4, some 73, none, .p (.slice 2 true false false), [.t 69, .t 72]⟩,
    ⟨5, some 74, none, .p .mov, [.t 0]⟩,
    ⟨6, some 75, none, .p .mov, [.t 1]⟩,
    ⟨7, some 76, none, .p (.slice 2 true false false), [.t 74, .t 75]⟩,
    ⟨8, some 77, none, .e (.copy 2) [] [], [.t 73, .t 76]⟩])
   (.seq (.reg 0 [⟨0, some 78, none, .p .mov, [.t 0]⟩,
    ⟨1, some 79, none, .p .mov, [.t 1]⟩,
    ⟨2, some 80, none, .p (.slice 2 true false false), [.t 78, .t 79]⟩,
    ⟨3, some 81, none, .p .mov, [.t 2]⟩,
    ⟨4, some 82, none, .e (.copy 2) [] [], [.t 80, .t 81]⟩])
   (.seq (.reg 0 [⟨0, some 83, none, .p .mov, [.t 0]⟩,
    ⟨1, some 6, none, .p .mov, [.t 83]⟩])
   (.ret))))
   (.skip)))
   (.seq (.reg 0 [⟨0, some 84, none, .p .mov, [.t 0]⟩,
    ⟨1, some 85, none, .p .mov, [.t 8]⟩,
    ⟨2, some 86, none, .p (.slice 2 true false false), [.t 84, .t 85]⟩,
    ⟨3, some 87, none, .p .mov, [.t 2]⟩,
    ⟨4, some 88, none, .e (.copy 2) [] [], [.t 86, .t 87]⟩])
   (.seq (.reg 0 [⟨0, some 89, none, .p .mov, [.t 0]⟩,
    ⟨1, some 90, none, .p .mov, [.t 1]⟩,
    ⟨2, some 91, none, .p (.slice 2 true false false), [.t 89, .t 90]⟩,
    ⟨3, some 92, none, .p .mov, [.t 7]⟩,
    ⟨4, some 93, none, .e .call [] [], [.f 156, .t 91, .t 92]⟩])
   (.seq (.reg 0 [⟨0, some 94, none, .p .mov, [.t 0]⟩,
    ⟨1, some 6, none, .p .mov, [.t 94]⟩])
   (.ret)))))))))))),
  [.tmp 6]⟩
/- loop.example/g00641/laws.eqValue -/
def g146 : GL.Fn := ⟨.seq (.reg 0 [⟨0, some 2, none, .l (.box 2 2), [.t 0]⟩,
    ⟨1, some 3, none, .l (.box 3 2), [.t 1]⟩,
    ⟨2, some 4, none, .p .mov, [.c (.bool false)]⟩])
   (.seq (.seq (.reg 0 [⟨0, some 5, none, .p (.faddr 0), [.t 2]⟩,
    ⟨1, some 6, none, .l (.load 2 false 1), [.t 5]⟩,
    ⟨2, some 7, none, .p (.faddr 0), [.t 3]⟩,
    ⟨3, some 8, none, .l (.load 3 false 1), [.t 7]⟩,
    ⟨4, some 9, none, .p (.eqB true), [.t 6, .t 8]⟩])
   (.cond (.t 9) (.seq (.reg 0 [⟨0, some 4, none, .p .mov, [.c (.bool false)]⟩])
   (.ret))
   (.skip)))
   (.seq (.seq (.reg 0 [⟨0, some 10, none, .p (.faddr 1), [.t 2]⟩,
    ⟨1, some 11, none, .l (.load 2 false 1), [.t 10]⟩,
    ⟨2, some 12, none, .p (.faddr 1), [.t 3]⟩,
    ⟨3, some 13, none, .l (.load 3 false 1), [.t 12]⟩,
    ⟨4, some 14, none, .p (.bin .neq), [.t 11, .t 13]⟩])
   (.cond (.t 14) (.seq (.reg 0 [⟨0, some 4, none, .p .mov, [.c (.bool false)]⟩])
   (.ret))
   (.skip)))
   (.seq (.reg 0 [⟨0, some 4, none, .p .mov, [.c (.bool true)]⟩])
   (.ret)))),
  [.tmp 4]⟩
/- slices.BinarySearchFunc[[]loop.example/g00641/impl.Row,loop.example/g00641/impl.Row,int] -/
def g147_0 : GL.Code := .seq (.seq (.reg 0 [⟨0, some 15, none, .p .mov, [.t 9]⟩,
    ⟨1, some 16, none, .p .mov, [.t 10]⟩,
    ⟨2, some 17, none, .p (.bin .lss), [.t 15, .t 16]⟩])
   (.cond (.t 17) (.skip)
   (.exit 0)))
   (.block 1 (.seq (.reg 0 [⟨0, some 18, none, .p .mov, [.t 9]⟩,
    ⟨1, some 19, none, .p .mov, [.t 10]⟩,
    ⟨2, some 20, none, .p (.bin .add), [.t 18, .t 19]⟩,
    ⟨3, some 21, none, .p (.conv .u64), [.t 20]⟩,
    ⟨4, some 22, none, .p (.bin .shr), [.t 21, .c (.int .u64 1)]⟩,
    ⟨5, some 23, none, .p (.conv .i64), [.t 22]⟩,
    ⟨6, some 11, none, .p .mov, [.t 23]⟩])
   (.seq (.reg 0 [⟨0, some 24, none, .p .mov, [.t 2]⟩,
    ⟨1, some 25, none, .p .mov, [.t 0]⟩,
    ⟨2, some 26, none, .p .mov, [.t 11]⟩,
    ⟨3, some 27, none, .p (.idx 2), [.t 25, .t 26]⟩,
    ⟨4, some 28, none, .r (.load true 2) false, [.t 27]⟩,
    ⟨5, some 29, none, .p .mov, [.t 1]⟩,
    ⟨6, some 30, none, .e .call [] [], [.t 24, .t 28, .t 29]⟩,
    ⟨7, some 31, none, .p (.bin .lss), [.t 30, .c (.int .i64 0)]⟩])
   (.cond (.t 31) (.reg 0 [⟨0, some 32, none, .p .mov, [.t 11]⟩,
    ⟨1, some 33, none, .p (.bin .add), [.t 32, .c (.int .i64 1)]⟩,
    ⟨2, some 9, none, .p .mov, [.t 33]⟩])
   (.reg 0 [⟨0, some 34, none, .p .mov, [.t 11]⟩,
    ⟨1, some 10, none, .p .mov, [.t 34]⟩])))))
def g147 : GL.Fn := ⟨.seq (.reg 0 [⟨0, some 6, none, .p .mov, [.c (.int .i64 0)]⟩,
    ⟨1, some 7, none, .p .mov, [.c (.bool false)]⟩])
   (.seq (.reg 0 [⟨0, some 12, none, .p .mov, [.t 0]⟩,
    ⟨1, some 13, none, .p .len, [.t 12]⟩,
    ⟨2, some 8, none, .p .mov, [.t 13]⟩])
   (.seq (.reg 0 [⟨0, some 14, none, .p .mov, [.t 8]⟩,
    ⟨1, some 9, none, .p .mov, [.c (.int .i64 0)]⟩,
    ⟨2, some 10, none, .p .mov, [.t 14]⟩])
   (.seq (.block 0 (.loop g147_0))
   (.seq (.reg 0 [⟨0, some 35, none, .p .mov, [.t 9]⟩,
    ⟨1, some 36, none, .p .mov, [.t 9]⟩,
    ⟨2, some 37, none, .p .mov, [.t 8]⟩,
    ⟨3, some 38, none, .p (.bin .lss), [.t 36, .t 37]⟩,
    ⟨4, some 39, none, .p .mov, [.t 38]⟩,
    ⟨5, some 40, some (39, true), .p .mov, [.t 2]⟩,
    ⟨6, some 41, some (39, true), .p .mov, [.t 0]⟩,
    ⟨7, some 42, some (39, true), .p .mov, [.t 9]⟩,
    ⟨8, some 43, some (39, true), .p (.idx 2), [.t 41, .t 42]⟩,
    ⟨9, some 44, some (39, true), .r (.load true 2) false, [.t 43]⟩,
    ⟨10, some 45, some (39, true), .p .mov, [.t 1]⟩,
    ⟨11, some 46, some (39, true), .e .call [] [], [.t 40, .t 44, .t 45]⟩,
    ⟨12, some 47, some (39, true), .p (.bin .eql), [.t 46, .c (.int .i64 0)]⟩,
    ⟨13, some 48, none, .p .pick, [.t 39, .t 47, .c (.bool false)]⟩,
    ⟨14, some 6, none, .p .mov, [.t 35]⟩,
    ⟨15, some 7, none, .p .mov, [.t 48]⟩])
   (.ret))))),
  [.tmp 6, .tmp 7]⟩
/- loop.example/g00641/impl.place$1 -/
def g148 : GL.Fn := ⟨.seq (.reg 0 [⟨0, some 2, none, .l (.box 2 2), [.t 0]⟩,
    ⟨1, some 4, none, .p .mov, [.c (.int .i64 0)]⟩])
   (.seq (.reg 0 [⟨0, some 5, none, .p (.faddr 0), [.t 2]⟩,
    ⟨1, some 6, none, .l (.load 2 false 1), [.t 5]⟩,
    ⟨2, some 7, none, .p .mov, [.t 1]⟩,
    ⟨3, some 8, none, .p (.bin .sub), [.t 6, .t 7]⟩,
    ⟨4, some 4, none, .p .mov, [.t 8]⟩])
   (.ret)),
  [.tmp 4]⟩
/- slices.Clone[[]loop.example/g00641/impl.Value,loop.example/g00641/impl.Value] -/
def g149 : GL.Fn := ⟨.seq (.reg 0 [⟨0, some 2, none, .p .mov, [.c (.nils)]⟩])
   (.seq (.seq (.reg 0 [⟨0, some 3, none, .p .mov, [.t 0]⟩,
    ⟨1, some 4, none, .p (.isNil false), [.t 3]⟩])
   (.cond (.t 4) (.seq (.reg 0 [⟨0, some 2, none, .p .mov, [.c (.nils)]⟩])
   (.ret))
   (.skip)))
   (.seq (.reg 0 [⟨0, some 5, none, .e (.new (.lit 2)) [] [], []⟩,
    ⟨1, some 6, none, .p .mov, [.t 0]⟩,
    ⟨2, some 7, none, .e (.append 2 16) [] [], [.t 5, .t 6]⟩,
    ⟨3, some 2, none, .p .mov, [.t 7]⟩])
   (.ret))),
  [.tmp 2]⟩
/- slices.rotateRight[loop.example/g00641/impl.Row] -/
def g156 : GL.Fn := ⟨.reg 0 [⟨0, some 4, none, .p .mov, [.t 0]⟩,
    ⟨1, some 5, none, .p .mov, [.t 0]⟩,
    ⟨2, some 6, none, .p .len, [.t 5]⟩,
    ⟨3, some 7, none, .p .mov, [.t 1]⟩,
    ⟨4, some 8, none, .p (.bin .sub), [.t 6, .t 7]⟩,
    ⟨5, some 9, none, .e .call [] [], [.f 161, .t 4, .t 8]⟩],
  []⟩
/- slices.rotateLeft[loop.example/g00641/impl.Row] -/
def g161 : GL.Fn := ⟨.seq (.reg 0 [⟨0, some 4, none, .p .mov, [.t 0]⟩,
    ⟨1, some 5, none, .p .mov, [.t 1]⟩,
    ⟨2, some 6, none, .p (.slice 2 false true false), [.t 4, .t 5]⟩,
    ⟨3, some 7, none, .e .call [] [], [.f 172, .t 6]⟩])
   (.seq (.reg 0 [⟨0, some 8, none, .p .mov, [.t 0]⟩,
    ⟨1, some 9, none, .p .mov, [.t 1]⟩,
    ⟨2, some 10, none, .p (.slice 2 true false false), [.t 8, .t 9]⟩,
    ⟨3, some 11, none, .e .call [] [], [.f 172, .t 10]⟩])
   (.reg 0 [⟨0, some 12, none, .p .mov, [.t 0]⟩,
    ⟨1, some 13, none, .e .call [] [], [.f 172, .t 12]⟩])),
  []⟩
/- slices.Reverse[[]loop.example/g00641/impl.Row,loop.example/g00641/impl.Row] -/
def g172_0 : GL.Code := .seq (.seq (.reg 0 [⟨0, some 7, none, .p .mov, [.t 2]⟩,
    ⟨1, some 8, none, .p .mov, [.t 3]⟩,
    ⟨2, some 9, none, .p (.bin .lss), [.t 7, .t 8]⟩])
   (.cond (.t 9) (.skip)
   (.exit 0)))
   (.seq (.block 1 (.reg 0 [⟨0, some 14, none, .p .mov, [.t 0]⟩,
    ⟨1, some 15, none, .p .mov, [.t 2]⟩,
    ⟨2, some 16, none, .p .mov, [.t 0]⟩,
    ⟨3, some 17, none, .p .mov, [.t 3]⟩,
    ⟨4, some 18, none, .p .mov, [.t 0]⟩,
    ⟨5, some 19, none, .p .mov, [.t 3]⟩,
    ⟨6, some 20, none, .p (.idx 2), [.t 18, .t 19]⟩,
    ⟨7, some 21, none, .r (.load true 2) false, [.t 20]⟩,
    ⟨8, some 22, none, .p .mov, [.t 0]⟩,
    ⟨9, some 23, none, .p .mov, [.t 2]⟩,
    ⟨10, some 24, none, .p (.idx 2), [.t 22, .t 23]⟩,
    ⟨11, some 25, none, .r (.load true 2) false, [.t 24]⟩,
    ⟨12, some 26, none, .p (.idx 2), [.t 14, .t 15]⟩,
    ⟨13, none, none, .e (.store 2) [] [], [.t 26, .t 21]⟩,
    ⟨14, some 27, none, .p (.idx 2), [.t 16, .t 17]⟩,
    ⟨15, none, none, .e (.store 2) [] [], [.t 27, .t 25]⟩]))
   (.reg 0 [⟨0, some 10, none, .p .mov, [.t 2]⟩,
    ⟨1, some 11, none, .p (.bin .add), [.t 10, .c (.int .i64 1)]⟩,
    ⟨2, some 12, none, .p .mov, [.t 3]⟩,
    ⟨3, some 13, none, .p (.bin .sub), [.t 12, .c (.int .i64 1)]⟩,
    ⟨4, some 2, none, .p .mov, [.t 11]⟩,
    ⟨5, some 3, none, .p .mov, [.t 13]⟩]))
def g172 : GL.Fn := ⟨.seq (.reg 0 [⟨0, some 4, none, .p .mov, [.t 0]⟩,
    ⟨1, some 5, none, .p .len, [.t 4]⟩,
    ⟨2, some 6, none, .p (.bin .sub), [.t 5, .c (.int .i64 1)]⟩,
    ⟨3, some 2, none, .p .mov, [.c (.int .i64 0)]⟩,
    ⟨4, some 3, none, .p .mov, [.t 6]⟩])
   (.block 0 (.loop g172_0)),
  []⟩
end GL
