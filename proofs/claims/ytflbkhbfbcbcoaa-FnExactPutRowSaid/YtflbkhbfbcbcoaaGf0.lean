import Derived.Test.YtflbkhbfbcbcoaaGlA
/- GL code of functions. -/
set_option linter.unusedSimpArgs false
set_option linter.unusedVariables false
set_option linter.unnecessarySimpa false
namespace GL
open Go
/- loop.example/g00641/laws.FnExactPutRow -/
def g52 : GL.Fn := ⟨.seq (.reg 0 [⟨0, some 3, none, .l (.box 3 2), [.t 1]⟩,
    ⟨1, some 4, none, .p .mov, [.c (.bool false)]⟩])
   (.seq (.reg 0 [⟨0, some 5, none, .p .mov, [.c (.int .i64 1048576)]⟩])
   (.seq (.reg 0 [⟨0, some 17, none, .p .mov, [.t 0]⟩,
    ⟨1, some 18, none, .p .mov, [.t 5]⟩,
    ⟨2, some 19, none, .e .call [] [], [.f 41, .t 17, .t 18]⟩,
    ⟨3, some 5, none, .p .mov, [.t 19]⟩])
   (.seq (.seq (.reg 0 [⟨0, some 20, none, .p .mov, [.t 5]⟩,
    ⟨1, some 21, none, .p (.bin .lss), [.t 20, .c (.int .i64 0)]⟩])
   (.cond (.t 21) (.seq (.reg 0 [⟨0, some 4, none, .p .mov, [.c (.bool true)]⟩])
   (.ret))
   (.skip)))
   (.seq (.reg 0 [⟨0, some 22, none, .l (.load 3 true 2), [.t 3]⟩,
    ⟨1, some 23, none, .p .mov, [.t 5]⟩,
    ⟨2, some 24, none, .e .call [] [], [.f 53, .t 22, .t 23]⟩,
    ⟨3, some 5, none, .p .mov, [.t 24]⟩])
   (.seq (.seq (.reg 0 [⟨0, some 25, none, .p .mov, [.t 5]⟩,
    ⟨1, some 26, none, .p (.bin .lss), [.t 25, .c (.int .i64 0)]⟩])
   (.cond (.t 26) (.seq (.reg 0 [⟨0, some 4, none, .p .mov, [.c (.bool true)]⟩])
   (.ret))
   (.skip)))
   (.seq (.reg 0 [⟨0, some 28, none, .p .mov, [.t 0]⟩,
    ⟨1, some 29, none, .e .call [] [], [.f 42, .t 28]⟩,
    ⟨2, some 30, none, .l (.load 3 true 2), [.t 3]⟩,
    ⟨3, some 31, none, .e .call [] [], [.f 54, .t 30]⟩,
    ⟨4, some 32, none, .e .call [] [], [.f 55, .t 29, .t 31]⟩,
    ⟨5, some 27, none, .p .mov, [.t 32]⟩,
    ⟨6, some 33, none, .p (.extract 0), [.t 27]⟩,
    ⟨7, some 34, none, .p (.extract 1), [.t 27]⟩,
    ⟨8, some 6, none, .p .mov, [.t 33]⟩,
    ⟨9, some 7, none, .p .mov, [.t 34]⟩])
   (.seq (.reg 0 [⟨0, some 35, none, .p .mov, [.t 0]⟩,
    ⟨1, some 36, none, .e .call [] [], [.f 42, .t 35]⟩,
    ⟨2, some 8, none, .p .mov, [.t 36]⟩])
   (.seq (.reg 0 [⟨0, some 37, none, .l (.load 3 true 2), [.t 3]⟩,
    ⟨1, some 38, none, .e .call [] [], [.f 54, .t 37]⟩,
    ⟨2, some 9, none, .l (.alloc 9 [.int .i64 0, .nils]), []⟩,
    ⟨3, none, none, .l (.store 9 2), [.t 9, .t 38]⟩])
   (.seq (.reg 0 [⟨0, some 40, none, .p .mov, [.t 8]⟩,
    ⟨1, some 41, none, .l (.load 9 true 2), [.t 9]⟩,
    ⟨2, some 42, none, .e .call [] [], [.f 56, .t 40, .t 41]⟩,
    ⟨3, some 39, none, .p .mov, [.t 42]⟩,
    ⟨4, some 43, none, .p (.extract 0), [.t 39]⟩,
    ⟨5, some 44, none, .p (.extract 1), [.t 39]⟩,
    ⟨6, some 10, none, .p .mov, [.t 43]⟩,
    ⟨7, some 11, none, .p .mov, [.t 44]⟩])
   (.seq (.seq (.reg 0 [⟨0, some 45, none, .p .mov, [.t 10]⟩,
    ⟨1, some 46, none, .p .mov, [.t 6]⟩,
    ⟨2, some 47, none, .e .call [] [], [.f 45, .t 45, .t 46]⟩,
    ⟨3, some 48, none, .p (.un .not), [.t 47]⟩,
    ⟨4, some 49, none, .p .mov, [.t 48]⟩,
    ⟨5, some 50, some (49, false), .p .mov, [.t 11]⟩,
    ⟨6, some 51, some (49, false), .p .mov, [.t 7]⟩,
    ⟨7, some 52, some (49, false), .p (.eqB true), [.t 50, .t 51]⟩,
    ⟨8, some 53, none, .p .pick, [.t 49, .c (.bool true), .t 52]⟩])
   (.cond (.t 53) (.seq (.reg 0 [⟨0, some 4, none, .p .mov, [.c (.bool false)]⟩])
   (.ret))
   (.skip)))
   (.seq (.seq (.reg 0 [⟨0, some 54, none, .p .mov, [.t 8]⟩,
    ⟨1, some 55, none, .p .mov, [.t 0]⟩,
    ⟨2, some 56, none, .e .call [] [], [.f 42, .t 55]⟩,
    ⟨3, some 57, none, .e .call [] [], [.f 45, .t 54, .t 56]⟩,
    ⟨4, some 58, none, .p (.un .not), [.t 57]⟩])
   (.cond (.t 58) (.seq (.reg 0 [⟨0, some 4, none, .p .mov, [.c (.bool false)]⟩])
   (.ret))
   (.skip)))
   (.seq (.seq (.reg 0 [⟨0, some 59, none, .l (.load 9 true 2), [.t 9]⟩,
    ⟨1, some 60, none, .l (.load 3 true 2), [.t 3]⟩,
    ⟨2, some 61, none, .e .call [] [], [.f 54, .t 60]⟩,
    ⟨3, some 62, none, .e .call [] [], [.f 57, .t 59, .t 61]⟩,
    ⟨4, some 63, none, .p (.un .not), [.t 62]⟩])
   (.cond (.t 63) (.seq (.reg 0 [⟨0, some 4, none, .p .mov, [.c (.bool false)]⟩])
   (.ret))
   (.skip)))
   (.seq (.reg 0 [⟨0, some 12, none, .p .mov, [.c (.int .i64 1)]⟩])
   (.seq (.reg 0 [⟨0, some 64, none, .p .mov, [.t 8]⟩,
    ⟨1, some 65, none, .p .mov, [.t 12]⟩,
    ⟨2, some 66, none, .e .call [] [], [.f 46, .t 64, .t 65]⟩,
    ⟨3, some 12, none, .p .mov, [.t 66]⟩])
   (.seq (.reg 0 [⟨0, some 67, none, .l (.load 9 true 2), [.t 9]⟩,
    ⟨1, some 68, none, .p .mov, [.t 12]⟩,
    ⟨2, some 69, none, .e .call [] [], [.f 58, .t 67, .t 68]⟩,
    ⟨3, some 12, none, .p .mov, [.t 69]⟩])
   (.seq (.seq (.reg 0 [⟨0, some 70, none, .p .mov, [.t 12]⟩,
    ⟨1, some 71, none, .p (.bin .lss), [.t 70, .c (.int .i64 0)]⟩,
    ⟨2, some 72, none, .p .mov, [.t 71]⟩,
    ⟨3, some 73, some (72, false), .p .mov, [.t 10]⟩,
    ⟨4, some 74, some (72, false), .p .mov, [.t 6]⟩,
    ⟨5, some 75, some (72, false), .e .call [] [], [.f 45, .t 73, .t 74]⟩,
    ⟨6, some 76, some (72, false), .p (.un .not), [.t 75]⟩,
    ⟨7, some 77, none, .p .pick, [.t 72, .c (.bool true), .t 76]⟩,
    ⟨8, some 78, none, .p .mov, [.t 77]⟩,
    ⟨9, some 79, some (78, false), .p .mov, [.t 11]⟩,
    ⟨10, some 80, some (78, false), .p .mov, [.t 7]⟩,
    ⟨11, some 81, some (78, false), .p (.eqB true), [.t 79, .t 80]⟩,
    ⟨12, some 82, none, .p .pick, [.t 78, .c (.bool true), .t 81]⟩])
   (.cond (.t 82) (.seq (.reg 0 [⟨0, some 4, none, .p .mov, [.c (.bool false)]⟩])
   (.ret))
   (.skip)))
   (.seq (.reg 0 [⟨0, some 13, none, .p .mov, [.c (.int .i64 1)]⟩])
   (.seq (.reg 0 [⟨0, some 83, none, .p .mov, [.t 10]⟩,
    ⟨1, some 84, none, .p .mov, [.t 13]⟩,
    ⟨2, some 85, none, .e .call [] [], [.f 46, .t 83, .t 84]⟩,
    ⟨3, some 13, none, .p .mov, [.t 85]⟩])
   (.seq (.reg 0 [⟨0, some 14, none, .p .mov, [.c (.int .i64 1)]⟩])
   (.seq (.reg 0 [⟨0, some 86, none, .p .mov, [.t 10]⟩,
    ⟨1, some 87, none, .p .mov, [.t 14]⟩,
    ⟨2, some 88, none, .e .call [] [], [.f 47, .t 86, .t 87]⟩,
    ⟨3, some 14, none, .p .mov, [.t 88]⟩])
   (.seq (.seq (.reg 0 [⟨0, some 89, none, .p .mov, [.t 14]⟩,
    ⟨1, some 90, none, .p (.bin .lss), [.t 89, .c (.int .i64 0)]⟩])
   (.cond (.t 90) (.seq (.reg 0 [⟨0, some 4, none, .p .mov, [.c (.bool false)]⟩])
   (.ret))
   (.skip)))
   (.seq (.seq (.reg 0 [⟨0, some 91, none, .p .mov, [.t 14]⟩,
    ⟨1, some 92, none, .p .mov, [.t 13]⟩,
    ⟨2, some 93, none, .p (.bin .neq), [.t 91, .t 92]⟩])
   (.cond (.t 93) (.seq (.reg 0 [⟨0, some 4, none, .p .mov, [.c (.bool false)]⟩])
   (.ret))
   (.skip)))
   (.seq (.reg 0 [⟨0, some 95, none, .p .mov, [.t 0]⟩,
    ⟨1, some 96, none, .e .call [] [], [.f 42, .t 95]⟩,
    ⟨2, some 97, none, .l (.load 3 true 2), [.t 3]⟩,
    ⟨3, some 98, none, .e .call [] [], [.f 54, .t 97]⟩,
    ⟨4, some 99, none, .e .call [] [], [.f 56, .t 96, .t 98]⟩,
    ⟨5, some 94, none, .p .mov, [.t 99]⟩,
    ⟨6, some 100, none, .p (.extract 0), [.t 94]⟩,
    ⟨7, some 101, none, .p (.extract 1), [.t 94]⟩,
    ⟨8, some 15, none, .p .mov, [.t 100]⟩,
    ⟨9, some 16, none, .p .mov, [.t 101]⟩])
   (.seq (.seq (.reg 0 [⟨0, some 102, none, .p .mov, [.t 15]⟩,
    ⟨1, some 103, none, .p .mov, [.t 6]⟩,
    ⟨2, some 104, none, .e .call [] [], [.f 45, .t 102, .t 103]⟩,
    ⟨3, some 105, none, .p (.un .not), [.t 104]⟩,
    ⟨4, some 106, none, .p .mov, [.t 105]⟩,
    ⟨5, some 107, some (106, false), .p .mov, [.t 16]⟩,
    ⟨6, some 108, some (106, false), .p .mov, [.t 7]⟩,
    ⟨7, some 109, some (106, false), .p (.eqB true), [.t 107, .t 108]⟩,
    ⟨8, some 110, none, .p .pick, [.t 106, .c (.bool true), .t 109]⟩])
   (.cond (.t 110) (.seq (.reg 0 [⟨0, some 4, none, .p .mov, [.c (.bool false)]⟩])
   (.ret))
   (.skip)))
   (.seq (.reg 0 [⟨0, some 14, none, .p .mov, [.c (.int .i64 1)]⟩])
   (.seq (.reg 0 [⟨0, some 111, none, .p .mov, [.t 10]⟩,
    ⟨1, some 112, none, .p .mov, [.t 14]⟩,
    ⟨2, some 113, none, .e .call [] [], [.f 47, .t 111, .t 112]⟩,
    ⟨3, some 14, none, .p .mov, [.t 113]⟩])
   (.seq (.seq (.reg 0 [⟨0, some 114, none, .p .mov, [.t 14]⟩,
    ⟨1, some 115, none, .p (.bin .lss), [.t 114, .c (.int .i64 0)]⟩])
   (.cond (.t 115) (.seq (.reg 0 [⟨0, some 4, none, .p .mov, [.c (.bool false)]⟩])
   (.ret))
   (.skip)))
   (.seq (.seq (.reg 0 [⟨0, some 116, none, .p .mov, [.t 14]⟩,
    ⟨1, some 117, none, .p .mov, [.t 13]⟩,
    ⟨2, some 118, none, .p (.bin .neq), [.t 116, .t 117]⟩])
   (.cond (.t 118) (.seq (.reg 0 [⟨0, some 4, none, .p .mov, [.c (.bool false)]⟩])
   (.ret))
   (.skip)))
   (.seq (.reg 0 [⟨0, some 4, none, .p .mov, [.c (.bool true)]⟩])
   (.ret)))))))))))))))))))))))))))))),
  [.tmp 4]⟩
/- loop.example/g00641/impl.GoodTable -/
def g62_0 : GL.Code := .seq (.reg 0 [⟨0, some 8, none, .p (.bin .lss), [.t 7, .t 6]⟩])
   (.seq (.cond (.t 8) (.skip)
   (.exit 0))
   (.seq (.block 1 (.seq (.reg 0 [⟨0, some 9, none, .p .mov, [.t 7]⟩,
    ⟨1, some 10, none, .p (.idx 2), [.t 5, .t 7]⟩,
    ⟨2, some 11, none, .r (.load true 2) false, [.t 10]⟩,
    ⟨3, some 4, none, .l (.alloc 4 [.int .i64 0, .nils]), []⟩,
    ⟨4, some 3, none, .p .mov, [.t 9]⟩,
    ⟨5, none, none, .l (.store 4 2), [.t 4, .t 11]⟩])
   (.seq (.reg 0 [⟨0, some 12, none, .l (.load 4 true 2), [.t 4]⟩,
    ⟨1, some 13, none, .e .call [] [], [.f 122, .t 12]⟩,
    ⟨2, some 14, none, .p (.un .not), [.t 13]⟩,
    ⟨3, some 15, none, .p .mov, [.t 14]⟩,
    ⟨4, some 16, some (15, false), .p .mov, [.t 3]⟩,
    ⟨5, some 17, some (15, false), .p (.bin .gtr), [.t 16, .c (.int .i64 0)]⟩,
    ⟨6, some 18, some (15, false), .p .mov, [.t 17]⟩,
    ⟨7, some 19, some (18, true), .p .mov, [.t 0]⟩,
    ⟨8, some 20, some (18, true), .p .mov, [.t 3]⟩,
    ⟨9, some 21, some (18, true), .p (.bin .sub), [.t 20, .c (.int .i64 1)]⟩,
    ⟨10, some 22, some (18, true), .p (.idx 2), [.t 19, .t 21]⟩,
    ⟨11, some 23, some (18, true), .p (.faddr 0), [.t 22]⟩,
    ⟨12, some 24, some (18, true), .r (.load false 1) false, [.t 23]⟩,
    ⟨13, some 25, some (18, true), .p (.faddr 0), [.t 4]⟩,
    ⟨14, some 26, some (18, true), .l (.load 4 false 1), [.t 25]⟩,
    ⟨15, some 27, some (18, true), .p (.bin .geq), [.t 24, .t 26]⟩,
    ⟨16, some 28, some (15, false), .p .pick, [.t 18, .t 27, .c (.bool false)]⟩,
    ⟨17, some 29, none, .p .pick, [.t 15, .c (.bool true), .t 28]⟩])
   (.cond (.t 29) (.seq (.reg 0 [⟨0, some 2, none, .p .mov, [.c (.bool false)]⟩])
   (.ret))
   (.skip)))))
   (.reg 0 [⟨0, some 30, none, .p (.bin .add), [.t 7, .c (.int .i64 1)]⟩,
    ⟨1, some 7, none, .p .mov, [.t 30]⟩])))
def g62 : GL.Fn := ⟨.seq (.reg 0 [⟨0, some 2, none, .p .mov, [.c (.bool false)]⟩])
   (.seq (.seq (.reg 0 [⟨0, some 5, none, .p .mov, [.t 0]⟩,
    ⟨1, some 6, none, .p .len, [.t 5]⟩,
    ⟨2, some 7, none, .p .mov, [.c (.int .i64 0)]⟩])
   (.block 0 (.loop g62_0)))
   (.seq (.reg 0 [⟨0, some 31, none, .p .mov, [.t 0]⟩,
    ⟨1, some 32, none, .p .len, [.t 31]⟩,
    ⟨2, some 33, none, .p (.bin .leq), [.t 32, .c (.int .i64 20)]⟩,
    ⟨3, some 2, none, .p .mov, [.t 33]⟩])
   (.ret))),
  [.tmp 2]⟩
/- loop.example/g00641/laws.szRowS -/
def g41_0 : GL.Code := .seq (.seq (.reg 0 [⟨0, some 12, none, .p .mov, [.t 5]⟩,
    ⟨1, some 13, none, .p .mov, [.t 0]⟩,
    ⟨2, some 14, none, .p .len, [.t 13]⟩,
    ⟨3, some 15, none, .p (.bin .lss), [.t 12, .t 14]⟩])
   (.cond (.t 15) (.skip)
   (.exit 0)))
   (.seq (.block 1 (.seq (.reg 0 [⟨0, some 18, none, .p .mov, [.t 0]⟩,
    ⟨1, some 19, none, .p .mov, [.t 5]⟩,
    ⟨2, some 20, none, .p (.idx 2), [.t 18, .t 19]⟩,
    ⟨3, some 21, none, .r (.load true 2) false, [.t 20]⟩,
    ⟨4, some 22, none, .p .mov, [.t 1]⟩,
    ⟨5, some 23, none, .e .call [] [], [.f 53, .t 21, .t 22]⟩,
    ⟨6, some 1, none, .p .mov, [.t 23]⟩])
   (.seq (.reg 0 [⟨0, some 24, none, .p .mov, [.t 1]⟩,
    ⟨1, some 25, none, .p (.bin .lss), [.t 24, .c (.int .i64 0)]⟩])
   (.cond (.t 25) (.seq (.reg 0 [⟨0, some 4, none, .p .mov, [.c (.int .i64 (-1))]⟩])
   (.ret))
   (.skip)))))
   (.reg 0 [⟨0, some 16, none, .p .mov, [.t 5]⟩,
    ⟨1, some 17, none, .p (.bin .add), [.t 16, .c (.int .i64 1)]⟩,
    ⟨2, some 5, none, .p .mov, [.t 17]⟩]))
def g41 : GL.Fn := ⟨.seq (.reg 0 [⟨0, some 4, none, .p .mov, [.c (.int .i64 0)]⟩])
   (.seq (.reg 0 [⟨0, some 6, none, .p .mov, [.t 1]⟩,
    ⟨1, some 7, none, .p .mov, [.t 0]⟩,
    ⟨2, some 8, none, .p .len, [.t 7]⟩,
    ⟨3, some 9, none, .p (.bin .sub), [.t 6, .t 8]⟩,
    ⟨4, some 1, none, .p .mov, [.t 9]⟩])
   (.seq (.seq (.reg 0 [⟨0, some 10, none, .p .mov, [.t 1]⟩,
    ⟨1, some 11, none, .p (.bin .lss), [.t 10, .c (.int .i64 0)]⟩])
   (.cond (.t 11) (.seq (.reg 0 [⟨0, some 4, none, .p .mov, [.c (.int .i64 (-1))]⟩])
   (.ret))
   (.skip)))
   (.seq (.seq (.reg 0 [⟨0, some 5, none, .p .mov, [.c (.int .i64 0)]⟩])
   (.block 0 (.loop g41_0)))
   (.seq (.reg 0 [⟨0, some 26, none, .p .mov, [.t 1]⟩,
    ⟨1, some 4, none, .p .mov, [.t 26]⟩])
   (.ret))))),
  [.tmp 4]⟩
/- loop.example/g00641/laws.szRow -/
def g53 : GL.Fn := ⟨.seq (.reg 0 [⟨0, some 2, none, .l (.box 2 2), [.t 0]⟩,
    ⟨1, some 4, none, .p .mov, [.c (.int .i64 0)]⟩])
   (.seq (.reg 0 [⟨0, some 5, none, .p (.faddr 1), [.t 2]⟩,
    ⟨1, some 6, none, .l (.load 2 false 1), [.t 5]⟩,
    ⟨2, some 7, none, .p .mov, [.t 1]⟩,
    ⟨3, some 8, none, .e .call [] [], [.f 118, .t 6, .t 7]⟩,
    ⟨4, some 1, none, .p .mov, [.t 8]⟩])
   (.seq (.seq (.reg 0 [⟨0, some 9, none, .p .mov, [.t 1]⟩,
    ⟨1, some 10, none, .p (.bin .lss), [.t 9, .c (.int .i64 0)]⟩])
   (.cond (.t 10) (.seq (.reg 0 [⟨0, some 4, none, .p .mov, [.c (.int .i64 (-1))]⟩])
   (.ret))
   (.skip)))
   (.seq (.reg 0 [⟨0, some 11, none, .p .mov, [.t 1]⟩,
    ⟨1, some 4, none, .p .mov, [.t 11]⟩])
   (.ret)))),
  [.tmp 4]⟩
/- loop.example/g00641/spec.PutRow -/
def g55 : GL.Fn := ⟨.seq (.reg 0 [⟨0, some 3, none, .l (.box 3 2), [.t 1]⟩,
    ⟨1, some 4, none, .p .mov, [.c (.nils)]⟩,
    ⟨2, some 5, none, .p .mov, [.c (.bool false)]⟩])
   (.seq (.seq (.reg 0 [⟨0, some 6, none, .p .mov, [.t 0]⟩,
    ⟨1, some 7, none, .e .call [] [], [.f 63, .t 6]⟩,
    ⟨2, some 8, none, .p (.un .not), [.t 7]⟩,
    ⟨3, some 9, none, .p .mov, [.t 8]⟩,
    ⟨4, some 10, some (9, false), .l (.load 3 true 2), [.t 3]⟩,
    ⟨5, some 11, some (9, false), .e .call [] [], [.f 119, .t 10]⟩,
    ⟨6, some 12, some (9, false), .p (.un .not), [.t 11]⟩,
    ⟨7, some 13, none, .p .pick, [.t 9, .c (.bool true), .t 12]⟩])
   (.cond (.t 13) (.seq (.reg 0 [⟨0, some 4, none, .p .mov, [.c (.nils)]⟩,
    ⟨1, some 5, none, .p .mov, [.c (.bool false)]⟩])
   (.ret))
   (.skip)))
   (.seq (.reg 0 [⟨0, some 14, none, .p .mov, [.t 0]⟩,
    ⟨1, some 15, none, .l (.load 3 true 2), [.t 3]⟩,
    ⟨2, some 16, none, .e .call [] [], [.f 120, .t 14, .t 15]⟩,
    ⟨3, some 17, none, .e .call [] [], [.f 112, .t 16]⟩,
    ⟨4, some 18, none, .p (.extract 0), [.t 17]⟩,
    ⟨5, some 19, none, .p (.extract 1), [.t 17]⟩,
    ⟨6, some 4, none, .p .mov, [.t 18]⟩,
    ⟨7, some 5, none, .p .mov, [.t 19]⟩])
   (.ret))),
  [.tmp 4, .tmp 5]⟩
/- loop.example/g00641/laws.toRowS -/
def g42_0 : GL.Code := .seq (.seq (.reg 0 [⟨0, some 8, none, .p .mov, [.t 4]⟩,
    ⟨1, some 9, none, .p .mov, [.t 0]⟩,
    ⟨2, some 10, none, .p .len, [.t 9]⟩,
    ⟨3, some 11, none, .p (.bin .lss), [.t 8, .t 10]⟩])
   (.cond (.t 11) (.skip)
   (.exit 0)))
   (.seq (.block 1 (.reg 0 [⟨0, some 14, none, .p .mov, [.t 3]⟩,
    ⟨1, some 15, none, .p .mov, [.t 4]⟩,
    ⟨2, some 16, none, .p .mov, [.t 0]⟩,
    ⟨3, some 17, none, .p .mov, [.t 4]⟩,
    ⟨4, some 18, none, .p (.idx 2), [.t 16, .t 17]⟩,
    ⟨5, some 19, none, .r (.load true 2) false, [.t 18]⟩,
    ⟨6, some 20, none, .e .call [] [], [.f 54, .t 19]⟩,
    ⟨7, some 21, none, .p (.idx 2), [.t 14, .t 15]⟩,
    ⟨8, none, none, .e (.store 2) [] [], [.t 21, .t 20]⟩]))
   (.reg 0 [⟨0, some 12, none, .p .mov, [.t 4]⟩,
    ⟨1, some 13, none, .p (.bin .add), [.t 12, .c (.int .i64 1)]⟩,
    ⟨2, some 4, none, .p .mov, [.t 13]⟩]))
def g42 : GL.Fn := ⟨.seq (.reg 0 [⟨0, some 2, none, .p .mov, [.c (.nils)]⟩])
   (.seq (.reg 0 [⟨0, some 5, none, .p .mov, [.t 0]⟩,
    ⟨1, some 6, none, .p .len, [.t 5]⟩,
    ⟨2, some 7, none, .e (.new (.make 2 32 [.int .i64 0, .nils])) [] [], [.t 6, .t 6]⟩,
    ⟨3, some 3, none, .p .mov, [.t 7]⟩])
   (.seq (.seq (.reg 0 [⟨0, some 4, none, .p .mov, [.c (.int .i64 0)]⟩])
   (.block 0 (.loop g42_0)))
   (.seq (.reg 0 [⟨0, some 22, none, .p .mov, [.t 3]⟩,
    ⟨1, some 2, none, .p .mov, [.t 22]⟩])
   (.ret)))),
  [.tmp 2]⟩
/- loop.example/g00641/laws.toRow -/
def g54 : GL.Fn := ⟨.seq (.reg 0 [⟨0, some 1, none, .l (.box 1 2), [.t 0]⟩,
    ⟨1, some 2, none, .l (.alloc 2 [.int .i64 0, .nils]), []⟩])
   (.seq (.reg 0 [⟨0, some 3, none, .l (.alloc 3 [.int .i64 0, .nils]), []⟩])
   (.seq (.reg 0 [⟨0, some 4, none, .p (.faddr 0), [.t 1]⟩,
    ⟨1, some 5, none, .l (.load 1 false 1), [.t 4]⟩,
    ⟨2, some 6, none, .p (.faddr 0), [.t 3]⟩,
    ⟨3, none, none, .l (.store 3 1), [.t 6, .t 5]⟩])
   (.seq (.reg 0 [⟨0, some 7, none, .p (.faddr 1), [.t 1]⟩,
    ⟨1, some 8, none, .l (.load 1 false 1), [.t 7]⟩,
    ⟨2, some 9, none, .e .call [] [], [.f 121, .t 8]⟩,
    ⟨3, some 10, none, .p (.faddr 1), [.t 3]⟩,
    ⟨4, none, none, .l (.store 3 1), [.t 10, .t 9]⟩])
   (.seq (.reg 0 [⟨0, some 11, none, .l (.load 3 true 2), [.t 3]⟩,
    ⟨1, none, none, .l (.store 2 2), [.t 2, .t 11]⟩])
   (.ret))))),
  [.cellL 2 2 true 2]⟩
/- loop.example/g00641/impl.PutRow -/
def g56 : GL.Fn := ⟨.seq (.reg 0 [⟨0, some 3, none, .l (.box 3 2), [.t 1]⟩,
    ⟨1, some 4, none, .p .mov, [.c (.nils)]⟩,
    ⟨2, some 5, none, .p .mov, [.c (.bool false)]⟩])
   (.seq (.seq (.reg 0 [⟨0, some 6, none, .p .mov, [.t 0]⟩,
    ⟨1, some 7, none, .e .call [] [], [.f 62, .t 6]⟩,
    ⟨2, some 8, none, .p (.un .not), [.t 7]⟩,
    ⟨3, some 9, none, .p .mov, [.t 8]⟩,
    ⟨4, some 10, some (9, false), .l (.load 3 true 2), [.t 3]⟩,
    ⟨5, some 11, some (9, false), .e .call [] [], [.f 122, .t 10]⟩,
    ⟨6, some 12, some (9, false), .p (.un .not), [.t 11]⟩,
    ⟨7, some 13, none, .p .pick, [.t 9, .c (.bool true), .t 12]⟩])
   (.cond (.t 13) (.seq (.reg 0 [⟨0, some 4, none, .p .mov, [.c (.nils)]⟩,
    ⟨1, some 5, none, .p .mov, [.c (.bool false)]⟩])
   (.ret))
   (.skip)))
   (.seq (.reg 0 [⟨0, some 14, none, .p .mov, [.t 0]⟩,
    ⟨1, some 15, none, .l (.load 3 true 2), [.t 3]⟩,
    ⟨2, some 16, none, .e .call [] [], [.f 117, .t 14, .t 15]⟩,
    ⟨3, some 17, none, .p (.extract 0), [.t 16]⟩,
    ⟨4, some 18, none, .p (.extract 1), [.t 16]⟩,
    ⟨5, some 4, none, .p .mov, [.t 17]⟩,
    ⟨6, some 5, none, .p .mov, [.t 18]⟩])
   (.ret))),
  [.tmp 4, .tmp 5]⟩
/- loop.example/g00641/laws.eqRowS -/
def g45_0 : GL.Code := .seq (.seq (.reg 0 [⟨0, some 11, none, .p .mov, [.t 5]⟩,
    ⟨1, some 12, none, .p .mov, [.t 0]⟩,
    ⟨2, some 13, none, .p .len, [.t 12]⟩,
    ⟨3, some 14, none, .p (.bin .lss), [.t 11, .t 13]⟩])
   (.cond (.t 14) (.skip)
   (.exit 0)))
   (.seq (.block 1 (.seq (.reg 0 [⟨0, some 17, none, .p .mov, [.t 0]⟩,
    ⟨1, some 18, none, .p .mov, [.t 5]⟩,
    ⟨2, some 19, none, .p (.idx 2), [.t 17, .t 18]⟩,
    ⟨3, some 20, none, .r (.load true 2) false, [.t 19]⟩,
    ⟨4, some 21, none, .p .mov, [.t 1]⟩,
    ⟨5, some 22, none, .p .mov, [.t 5]⟩,
    ⟨6, some 23, none, .p (.idx 2), [.t 21, .t 22]⟩,
    ⟨7, some 24, none, .r (.load true 2) false, [.t 23]⟩,
    ⟨8, some 25, none, .e .call [] [], [.f 57, .t 20, .t 24]⟩,
    ⟨9, some 26, none, .p (.un .not), [.t 25]⟩])
   (.cond (.t 26) (.seq (.reg 0 [⟨0, some 4, none, .p .mov, [.c (.bool false)]⟩])
   (.ret))
   (.skip))))
   (.reg 0 [⟨0, some 15, none, .p .mov, [.t 5]⟩,
    ⟨1, some 16, none, .p (.bin .add), [.t 15, .c (.int .i64 1)]⟩,
    ⟨2, some 5, none, .p .mov, [.t 16]⟩]))
def g45 : GL.Fn := ⟨.seq (.reg 0 [⟨0, some 4, none, .p .mov, [.c (.bool false)]⟩])
   (.seq (.seq (.reg 0 [⟨0, some 6, none, .p .mov, [.t 0]⟩,
    ⟨1, some 7, none, .p .len, [.t 6]⟩,
    ⟨2, some 8, none, .p .mov, [.t 1]⟩,
    ⟨3, some 9, none, .p .len, [.t 8]⟩,
    ⟨4, some 10, none, .p (.bin .neq), [.t 7, .t 9]⟩])
   (.cond (.t 10) (.seq (.reg 0 [⟨0, some 4, none, .p .mov, [.c (.bool false)]⟩])
   (.ret))
   (.skip)))
   (.seq (.seq (.reg 0 [⟨0, some 5, none, .p .mov, [.c (.int .i64 0)]⟩])
   (.block 0 (.loop g45_0)))
   (.seq (.reg 0 [⟨0, some 4, none, .p .mov, [.c (.bool true)]⟩])
   (.ret)))),
  [.tmp 4]⟩
/- loop.example/g00641/laws.eqRow -/
def g57 : GL.Fn := ⟨.seq (.reg 0 [⟨0, some 2, none, .l (.box 2 2), [.t 0]⟩,
    ⟨1, some 3, none, .l (.box 3 2), [.t 1]⟩,
    ⟨2, some 4, none, .p .mov, [.c (.bool false)]⟩])
   (.seq (.seq (.reg 0 [⟨0, some 5, none, .p (.faddr 0), [.t 2]⟩,
    ⟨1, some 6, none, .l (.load 2 false 1), [.t 5]⟩,
    ⟨2, some 7, none, .p (.faddr 0), [.t 3]⟩,
    ⟨3, some 8, none, .l (.load 3 false 1), [.t 7]⟩,
    ⟨4, some 9, none, .p (.bin .neq), [.t 6, .t 8]⟩])
   (.cond (.t 9) (.seq (.reg 0 [⟨0, some 4, none, .p .mov, [.c (.bool false)]⟩])
   (.ret))
   (.skip)))
   (.seq (.seq (.reg 0 [⟨0, some 10, none, .p (.faddr 1), [.t 2]⟩,
    ⟨1, some 11, none, .l (.load 2 false 1), [.t 10]⟩,
    ⟨2, some 12, none, .p (.faddr 1), [.t 3]⟩,
    ⟨3, some 13, none, .l (.load 3 false 1), [.t 12]⟩,
    ⟨4, some 14, none, .e .call [] [], [.f 123, .t 11, .t 13]⟩,
    ⟨5, some 15, none, .p (.un .not), [.t 14]⟩])
   (.cond (.t 15) (.seq (.reg 0 [⟨0, some 4, none, .p .mov, [.c (.bool false)]⟩])
   (.ret))
   (.skip)))
   (.seq (.reg 0 [⟨0, some 4, none, .p .mov, [.c (.bool true)]⟩])
   (.ret)))),
  [.tmp 4]⟩
/- loop.example/g00641/laws.markRowS -/
def g46_0 : GL.Code := .seq (.seq (.reg 0 [⟨0, some 6, none, .p .mov, [.t 5]⟩,
    ⟨1, some 7, none, .p .mov, [.t 0]⟩,
    ⟨2, some 8, none, .p .len, [.t 7]⟩,
    ⟨3, some 9, none, .p (.bin .lss), [.t 6, .t 8]⟩])
   (.cond (.t 9) (.skip)
   (.exit 0)))
   (.seq (.block 1 (.seq (.reg 0 [⟨0, some 12, none, .p .mov, [.t 0]⟩,
    ⟨1, some 13, none, .p .mov, [.t 5]⟩,
    ⟨2, some 14, none, .p .mov, [.t 1]⟩,
    ⟨3, some 15, none, .p (.idx 2), [.t 12, .t 13]⟩,
    ⟨4, some 16, none, .p (.faddr 0), [.t 15]⟩,
    ⟨5, none, none, .e (.store 1) [] [], [.t 16, .t 14]⟩])
   (.seq (.reg 0 [⟨0, some 17, none, .p .mov, [.t 1]⟩,
    ⟨1, some 18, none, .p (.bin .add), [.t 17, .c (.int .i64 1)]⟩,
    ⟨2, some 1, none, .p .mov, [.t 18]⟩])
   (.reg 0 [⟨0, some 19, none, .p .mov, [.t 0]⟩,
    ⟨1, some 20, none, .p .mov, [.t 5]⟩,
    ⟨2, some 21, none, .p (.idx 2), [.t 19, .t 20]⟩,
    ⟨3, some 22, none, .p (.faddr 1), [.t 21]⟩,
    ⟨4, some 23, none, .r (.load false 1) false, [.t 22]⟩,
    ⟨5, some 24, none, .p .mov, [.t 1]⟩,
    ⟨6, some 25, none, .e .call [] [], [.f 114, .t 23, .t 24]⟩,
    ⟨7, some 1, none, .p .mov, [.t 25]⟩]))))
   (.reg 0 [⟨0, some 10, none, .p .mov, [.t 5]⟩,
    ⟨1, some 11, none, .p (.bin .add), [.t 10, .c (.int .i64 1)]⟩,
    ⟨2, some 5, none, .p .mov, [.t 11]⟩]))
def g46 : GL.Fn := ⟨.seq (.reg 0 [⟨0, some 4, none, .p .mov, [.c (.int .i64 0)]⟩])
   (.seq (.seq (.reg 0 [⟨0, some 5, none, .p .mov, [.c (.int .i64 0)]⟩])
   (.block 0 (.loop g46_0)))
   (.seq (.reg 0 [⟨0, some 26, none, .p .mov, [.t 1]⟩,
    ⟨1, some 4, none, .p .mov, [.t 26]⟩])
   (.ret))),
  [.tmp 4]⟩
/- loop.example/g00641/laws.markRow -/
def g58 : GL.Fn := ⟨.seq (.reg 0 [⟨0, some 2, none, .l (.box 2 2), [.t 0]⟩,
    ⟨1, some 4, none, .p .mov, [.c (.int .i64 0)]⟩])
   (.seq (.reg 0 [⟨0, some 5, none, .p (.faddr 1), [.t 2]⟩,
    ⟨1, some 6, none, .l (.load 2 false 1), [.t 5]⟩,
    ⟨2, some 7, none, .p .mov, [.t 1]⟩,
    ⟨3, some 8, none, .e .call [] [], [.f 114, .t 6, .t 7]⟩,
    ⟨4, some 1, none, .p .mov, [.t 8]⟩])
   (.seq (.reg 0 [⟨0, some 9, none, .p .mov, [.t 1]⟩,
    ⟨1, some 4, none, .p .mov, [.t 9]⟩])
   (.ret))),
  [.tmp 4]⟩
/- loop.example/g00641/laws.heldRowS -/
def g47_0 : GL.Code := .seq (.seq (.reg 0 [⟨0, some 6, none, .p .mov, [.t 5]⟩,
    ⟨1, some 7, none, .p .mov, [.t 0]⟩,
    ⟨2, some 8, none, .p .len, [.t 7]⟩,
    ⟨3, some 9, none, .p (.bin .lss), [.t 6, .t 8]⟩])
   (.cond (.t 9) (.skip)
   (.exit 0)))
   (.seq (.block 1 (.seq (.seq (.reg 0 [⟨0, some 12, none, .p .mov, [.t 0]⟩,
    ⟨1, some 13, none, .p .mov, [.t 5]⟩,
    ⟨2, some 14, none, .p (.idx 2), [.t 12, .t 13]⟩,
    ⟨3, some 15, none, .p (.faddr 0), [.t 14]⟩,
    ⟨4, some 16, none, .r (.load false 1) false, [.t 15]⟩,
    ⟨5, some 17, none, .p .mov, [.t 1]⟩,
    ⟨6, some 18, none, .p (.bin .neq), [.t 16, .t 17]⟩])
   (.cond (.t 18) (.seq (.reg 0 [⟨0, some 4, none, .p .mov, [.c (.int .i64 (-1))]⟩])
   (.ret))
   (.skip)))
   (.seq (.reg 0 [⟨0, some 19, none, .p .mov, [.t 1]⟩,
    ⟨1, some 20, none, .p (.bin .add), [.t 19, .c (.int .i64 1)]⟩,
    ⟨2, some 1, none, .p .mov, [.t 20]⟩])
   (.seq (.reg 0 [⟨0, some 21, none, .p .mov, [.t 0]⟩,
    ⟨1, some 22, none, .p .mov, [.t 5]⟩,
    ⟨2, some 23, none, .p (.idx 2), [.t 21, .t 22]⟩,
    ⟨3, some 24, none, .p (.faddr 1), [.t 23]⟩,
    ⟨4, some 25, none, .r (.load false 1) false, [.t 24]⟩,
    ⟨5, some 26, none, .p .mov, [.t 1]⟩,
    ⟨6, some 27, none, .e .call [] [], [.f 115, .t 25, .t 26]⟩,
    ⟨7, some 1, none, .p .mov, [.t 27]⟩])
   (.seq (.reg 0 [⟨0, some 28, none, .p .mov, [.t 1]⟩,
    ⟨1, some 29, none, .p (.bin .lss), [.t 28, .c (.int .i64 0)]⟩])
   (.cond (.t 29) (.seq (.reg 0 [⟨0, some 4, none, .p .mov, [.c (.int .i64 (-1))]⟩])
   (.ret))
   (.skip)))))))
   (.reg 0 [⟨0, some 10, none, .p .mov, [.t 5]⟩,
    ⟨1, some 11, none, .p (.bin .add), [.t 10, .c (.int .i64 1)]⟩,
    ⟨2, some 5, none, .p .mov, [.t 11]⟩]))
def g47 : GL.Fn := ⟨.seq (.reg 0 [⟨0, some 4, none, .p .mov, [.c (.int .i64 0)]⟩])
   (.seq (.seq (.reg 0 [⟨0, some 5, none, .p .mov, [.c (.int .i64 0)]⟩])
   (.block 0 (.loop g47_0)))
   (.seq (.reg 0 [⟨0, some 30, none, .p .mov, [.t 1]⟩,
    ⟨1, some 4, none, .p .mov, [.t 30]⟩])
   (.ret))),
  [.tmp 4]⟩
/- loop.example/g00641/spec.GoodTable -/
def g63_0 : GL.Code := .seq (.reg 0 [⟨0, some 8, none, .p (.bin .lss), [.t 7, .t 6]⟩])
   (.seq (.cond (.t 8) (.skip)
   (.exit 0))
   (.seq (.block 1 (.seq (.reg 0 [⟨0, some 9, none, .p .mov, [.t 7]⟩,
    ⟨1, some 10, none, .p (.idx 2), [.t 5, .t 7]⟩,
    ⟨2, some 11, none, .r (.load true 2) false, [.t 10]⟩,
    ⟨3, some 4, none, .l (.alloc 4 [.int .i64 0, .nils]), []⟩,
    ⟨4, some 3, none, .p .mov, [.t 9]⟩,
    ⟨5, none, none, .l (.store 4 2), [.t 4, .t 11]⟩])
   (.seq (.reg 0 [⟨0, some 12, none, .l (.load 4 true 2), [.t 4]⟩,
    ⟨1, some 13, none, .e .call [] [], [.f 119, .t 12]⟩,
    ⟨2, some 14, none, .p (.un .not), [.t 13]⟩,
    ⟨3, some 15, none, .p .mov, [.t 14]⟩,
    ⟨4, some 16, some (15, false), .p .mov, [.t 3]⟩,
    ⟨5, some 17, some (15, false), .p (.bin .gtr), [.t 16, .c (.int .i64 0)]⟩,
    ⟨6, some 18, some (15, false), .p .mov, [.t 17]⟩,
    ⟨7, some 19, some (18, true), .p .mov, [.t 0]⟩,
    ⟨8, some 20, some (18, true), .p .mov, [.t 3]⟩,
    ⟨9, some 21, some (18, true), .p (.bin .sub), [.t 20, .c (.int .i64 1)]⟩,
    ⟨10, some 22, some (18, true), .p (.idx 2), [.t 19, .t 21]⟩,
    ⟨11, some 23, some (18, true), .p (.faddr 0), [.t 22]⟩,
    ⟨12, some 24, some (18, true), .r (.load false 1) false, [.t 23]⟩,
    ⟨13, some 25, some (18, true), .p (.faddr 0), [.t 4]⟩,
    ⟨14, some 26, some (18, true), .l (.load 4 false 1), [.t 25]⟩,
    ⟨15, some 27, some (18, true), .p (.bin .geq), [.t 24, .t 26]⟩,
    ⟨16, some 28, some (15, false), .p .pick, [.t 18, .t 27, .c (.bool false)]⟩,
    ⟨17, some 29, none, .p .pick, [.t 15, .c (.bool true), .t 28]⟩])
   (.cond (.t 29) (.seq (.reg 0 [⟨0, some 2, none, .p .mov, [.c (.bool false)]⟩])
   (.ret))
   (.skip)))))
   (.reg 0 [⟨0, some 30, none, .p (.bin .add), [.t 7, .c (.int .i64 1)]⟩,
    ⟨1, some 7, none, .p .mov, [.t 30]⟩])))
def g63 : GL.Fn := ⟨.seq (.reg 0 [⟨0, some 2, none, .p .mov, [.c (.bool false)]⟩])
   (.seq (.seq (.reg 0 [⟨0, some 5, none, .p .mov, [.t 0]⟩,
    ⟨1, some 6, none, .p .len, [.t 5]⟩,
    ⟨2, some 7, none, .p .mov, [.c (.int .i64 0)]⟩])
   (.block 0 (.loop g63_0)))
   (.seq (.reg 0 [⟨0, some 31, none, .p .mov, [.t 0]⟩,
    ⟨1, some 32, none, .p .len, [.t 31]⟩,
    ⟨2, some 33, none, .p (.bin .leq), [.t 32, .c (.int .i64 20)]⟩,
    ⟨3, some 2, none, .p .mov, [.t 33]⟩])
   (.ret))),
  [.tmp 2]⟩
/- loop.example/g00641/impl.within -/
def g107 : GL.Fn := ⟨.seq (.reg 0 [⟨0, some 6, none, .p .mov, [.c (.bool false)]⟩])
   (.seq (.reg 0 [⟨0, some 7, none, .p .mov, [.t 0]⟩,
    ⟨1, some 8, none, .p .mov, [.t 1]⟩,
    ⟨2, some 9, none, .p (.bin .geq), [.t 7, .t 8]⟩,
    ⟨3, some 10, none, .p .mov, [.t 9]⟩,
    ⟨4, some 11, some (10, true), .p .mov, [.t 0]⟩,
    ⟨5, some 12, some (10, true), .p .mov, [.t 2]⟩,
    ⟨6, some 13, some (10, true), .p (.bin .leq), [.t 11, .t 12]⟩,
    ⟨7, some 14, none, .p .pick, [.t 10, .t 13, .c (.bool false)]⟩,
    ⟨8, some 6, none, .p .mov, [.t 14]⟩])
   (.ret)),
  [.tmp 6]⟩
/- loop.example/g00641/impl.isSmall -/
def g100 : GL.Fn := ⟨.seq (.reg 0 [⟨0, some 2, none, .p .mov, [.c (.bool false)]⟩])
   (.seq (.reg 0 [⟨0, some 3, none, .p .mov, [.t 0]⟩,
    ⟨1, some 4, none, .e .call [] [], [.f 107, .t 3, .c (.int .i64 (-1000)), .c (.int .i64 1000)]⟩,
    ⟨2, some 2, none, .p .mov, [.t 4]⟩])
   (.ret)),
  [.tmp 2]⟩
/- loop.example/g00641/spec.l1In -/
def g98 : GL.Fn := ⟨.seq (.reg 0 [⟨0, some 6, none, .p .mov, [.c (.bool false)]⟩])
   (.seq (.reg 0 [⟨0, some 7, none, .p .mov, [.t 0]⟩,
    ⟨1, some 8, none, .p .mov, [.t 1]⟩,
    ⟨2, some 9, none, .p (.bin .geq), [.t 7, .t 8]⟩,
    ⟨3, some 10, none, .p .mov, [.t 9]⟩,
    ⟨4, some 11, some (10, true), .p .mov, [.t 0]⟩,
    ⟨5, some 12, some (10, true), .p .mov, [.t 2]⟩,
    ⟨6, some 13, some (10, true), .p (.bin .leq), [.t 11, .t 12]⟩,
    ⟨7, some 14, none, .p .pick, [.t 10, .t 13, .c (.bool false)]⟩,
    ⟨8, some 6, none, .p .mov, [.t 14]⟩])
   (.ret)),
  [.tmp 6]⟩
/- loop.example/g00641/spec.GoodValue -/
def g26 : GL.Fn := ⟨.seq (.reg 0 [⟨0, some 1, none, .l (.box 1 2), [.t 0]⟩,
    ⟨1, some 2, none, .p .mov, [.c (.bool false)]⟩])
   (.seq (.reg 0 [⟨0, some 3, none, .p (.faddr 1), [.t 1]⟩,
    ⟨1, some 4, none, .l (.load 1 false 1), [.t 3]⟩,
    ⟨2, some 5, none, .e .call [] [], [.f 98, .t 4, .c (.int .i64 (-1000)), .c (.int .i64 1000)]⟩,
    ⟨3, some 6, none, .p .mov, [.t 5]⟩,
    ⟨4, some 7, some (6, true), .p (.faddr 0), [.t 1]⟩,
    ⟨5, some 8, some (6, true), .l (.load 1 false 1), [.t 7]⟩,
    ⟨6, some 9, some (6, true), .p (.un .not), [.t 8]⟩,
    ⟨7, some 10, some (6, true), .p .mov, [.t 9]⟩,
    ⟨8, some 11, some (10, false), .p (.faddr 1), [.t 1]⟩,
    ⟨9, some 12, some (10, false), .l (.load 1 false 1), [.t 11]⟩,
    ⟨10, some 13, some (10, false), .p (.bin .eql), [.t 12, .c (.int .i64 0)]⟩,
    ⟨11, some 14, some (6, true), .p .pick, [.t 10, .c (.bool true), .t 13]⟩,
    ⟨12, some 15, none, .p .pick, [.t 6, .t 14, .c (.bool false)]⟩,
    ⟨13, some 2, none, .p .mov, [.t 15]⟩])
   (.ret)),
  [.tmp 2]⟩
/- loop.example/g00641/impl.areValues -/
def g102_0 : GL.Code := .seq (.reg 0 [⟨0, some 8, none, .p (.bin .lss), [.t 7, .t 6]⟩])
   (.seq (.cond (.t 8) (.skip)
   (.exit 0))
   (.seq (.block 1 (.seq (.reg 0 [⟨0, some 9, none, .p (.idx 2), [.t 5, .t 7]⟩,
    ⟨1, some 10, none, .r (.load true 2) false, [.t 9]⟩,
    ⟨2, some 4, none, .l (.alloc 4 [.bool false, .int .i64 0]), []⟩,
    ⟨3, none, none, .l (.store 4 2), [.t 4, .t 10]⟩])
   (.seq (.reg 0 [⟨0, some 11, none, .l (.load 4 true 2), [.t 4]⟩,
    ⟨1, some 12, none, .e .call [] [], [.f 25, .t 11]⟩,
    ⟨2, some 13, none, .p (.un .not), [.t 12]⟩])
   (.cond (.t 13) (.seq (.reg 0 [⟨0, some 2, none, .p .mov, [.c (.bool false)]⟩])
   (.ret))
   (.skip)))))
   (.reg 0 [⟨0, some 14, none, .p (.bin .add), [.t 7, .c (.int .i64 1)]⟩,
    ⟨1, some 7, none, .p .mov, [.t 14]⟩])))
def g102 : GL.Fn := ⟨.seq (.reg 0 [⟨0, some 2, none, .p .mov, [.c (.bool false)]⟩])
   (.seq (.seq (.reg 0 [⟨0, some 5, none, .p .mov, [.t 0]⟩,
    ⟨1, some 6, none, .p .len, [.t 5]⟩,
    ⟨2, some 7, none, .p .mov, [.c (.int .i64 0)]⟩])
   (.block 0 (.loop g102_0)))
   (.seq (.reg 0 [⟨0, some 2, none, .p .mov, [.c (.bool true)]⟩])
   (.ret))),
  [.tmp 2]⟩
/- loop.example/g00641/impl.isRow -/
def g122 : GL.Fn := ⟨.seq (.reg 0 [⟨0, some 1, none, .l (.box 1 2), [.t 0]⟩,
    ⟨1, some 2, none, .p .mov, [.c (.bool false)]⟩])
   (.seq (.reg 0 [⟨0, some 3, none, .p (.faddr 0), [.t 1]⟩,
    ⟨1, some 4, none, .l (.load 1 false 1), [.t 3]⟩,
    ⟨2, some 5, none, .e .call [] [], [.f 126, .t 4]⟩,
    ⟨3, some 6, none, .p .mov, [.t 5]⟩,
    ⟨4, some 7, some (6, true), .p (.faddr 1), [.t 1]⟩,
    ⟨5, some 8, some (6, true), .l (.load 1 false 1), [.t 7]⟩,
    ⟨6, some 9, some (6, true), .p .len, [.t 8]⟩,
    ⟨7, some 10, some (6, true), .p (.bin .eql), [.t 9, .c (.int .i64 3)]⟩,
    ⟨8, some 11, none, .p .pick, [.t 6, .t 10, .c (.bool false)]⟩,
    ⟨9, some 12, none, .p .mov, [.t 11]⟩,
    ⟨10, some 13, some (12, true), .p (.faddr 1), [.t 1]⟩,
    ⟨11, some 14, some (12, true), .l (.load 1 false 1), [.t 13]⟩,
    ⟨12, some 15, some (12, true), .e .call [] [], [.f 102, .t 14]⟩,
    ⟨13, some 16, none, .p .pick, [.t 12, .t 15, .c (.bool false)]⟩,
    ⟨14, some 2, none, .p .mov, [.t 16]⟩])
   (.ret)),
  [.tmp 2]⟩
/- loop.example/g00641/impl.GoodValue -/
def g25 : GL.Fn := ⟨.seq (.reg 0 [⟨0, some 1, none, .l (.box 1 2), [.t 0]⟩,
    ⟨1, some 2, none, .p .mov, [.c (.bool false)]⟩])
   (.seq (.reg 0 [⟨0, some 3, none, .p (.faddr 0), [.t 1]⟩,
    ⟨1, some 4, none, .l (.load 1 false 1), [.t 3]⟩,
    ⟨2, some 5, none, .p .mov, [.t 4]⟩,
    ⟨3, some 6, some (5, true), .p (.faddr 1), [.t 1]⟩,
    ⟨4, some 7, some (5, true), .l (.load 1 false 1), [.t 6]⟩,
    ⟨5, some 8, some (5, true), .p (.bin .eql), [.t 7, .c (.int .i64 0)]⟩,
    ⟨6, some 9, none, .p .pick, [.t 5, .t 8, .c (.bool false)]⟩,
    ⟨7, some 10, none, .p .mov, [.t 9]⟩,
    ⟨8, some 11, some (10, false), .p (.faddr 0), [.t 1]⟩,
    ⟨9, some 12, some (10, false), .l (.load 1 false 1), [.t 11]⟩,
    ⟨10, some 13, some (10, false), .p (.un .not), [.t 12]⟩,
    ⟨11, some 14, some (10, false), .p .mov, [.t 13]⟩,
    ⟨12, some 15, some (14, true), .p (.faddr 1), [.t 1]⟩,
    ⟨13, some 16, some (14, true), .l (.load 1 false 1), [.t 15]⟩,
    ⟨14, some 17, some (14, true), .e .call [] [], [.f 100, .t 16]⟩,
    ⟨15, some 18, some (10, false), .p .pick, [.t 14, .t 17, .c (.bool false)]⟩,
    ⟨16, some 19, none, .p .pick, [.t 10, .c (.bool true), .t 18]⟩,
    ⟨17, some 2, none, .p .mov, [.t 19]⟩])
   (.ret)),
  [.tmp 2]⟩
/- loop.example/g00641/laws.szValueS -/
def g118 : GL.Fn := ⟨.seq (.reg 0 [⟨0, some 4, none, .p .mov, [.c (.int .i64 0)]⟩])
   (.seq (.reg 0 [⟨0, some 5, none, .p .mov, [.t 1]⟩,
    ⟨1, some 6, none, .p .mov, [.t 0]⟩,
    ⟨2, some 7, none, .p .len, [.t 6]⟩,
    ⟨3, some 8, none, .p (.bin .sub), [.t 5, .t 7]⟩,
    ⟨4, some 1, none, .p .mov, [.t 8]⟩])
   (.seq (.seq (.reg 0 [⟨0, some 9, none, .p .mov, [.t 1]⟩,
    ⟨1, some 10, none, .p (.bin .lss), [.t 9, .c (.int .i64 0)]⟩])
   (.cond (.t 10) (.seq (.reg 0 [⟨0, some 4, none, .p .mov, [.c (.int .i64 (-1))]⟩])
   (.ret))
   (.skip)))
   (.seq (.reg 0 [⟨0, some 11, none, .p .mov, [.t 1]⟩,
    ⟨1, some 4, none, .p .mov, [.t 11]⟩])
   (.ret)))),
  [.tmp 4]⟩
/- loop.example/g00641/spec.l2Row -/
def g119_0 : GL.Code := .seq (.reg 0 [⟨0, some 9, none, .p (.bin .lss), [.t 8, .t 7]⟩])
   (.seq (.cond (.t 9) (.skip)
   (.exit 0))
   (.seq (.block 1 (.seq (.reg 0 [⟨0, some 10, none, .p (.idx 2), [.t 6, .t 8]⟩,
    ⟨1, some 11, none, .r (.load true 2) false, [.t 10]⟩,
    ⟨2, some 4, none, .l (.alloc 4 [.bool false, .int .i64 0]), []⟩,
    ⟨3, none, none, .l (.store 4 2), [.t 4, .t 11]⟩])
   (.seq (.reg 0 [⟨0, some 12, none, .l (.load 4 true 2), [.t 4]⟩,
    ⟨1, some 13, none, .e .call [] [], [.f 26, .t 12]⟩,
    ⟨2, some 14, none, .p (.un .not), [.t 13]⟩])
   (.cond (.t 14) (.seq (.reg 0 [⟨0, some 2, none, .p .mov, [.c (.bool false)]⟩])
   (.ret))
   (.skip)))))
   (.reg 0 [⟨0, some 15, none, .p (.bin .add), [.t 8, .c (.int .i64 1)]⟩,
    ⟨1, some 8, none, .p .mov, [.t 15]⟩])))
def g119 : GL.Fn := ⟨.seq (.reg 0 [⟨0, some 1, none, .l (.box 1 2), [.t 0]⟩,
    ⟨1, some 2, none, .p .mov, [.c (.bool false)]⟩])
   (.seq (.seq (.reg 0 [⟨0, some 5, none, .p (.faddr 1), [.t 1]⟩,
    ⟨1, some 6, none, .l (.load 1 false 1), [.t 5]⟩,
    ⟨2, some 7, none, .p .len, [.t 6]⟩,
    ⟨3, some 8, none, .p .mov, [.c (.int .i64 0)]⟩])
   (.block 0 (.loop g119_0)))
   (.seq (.reg 0 [⟨0, some 16, none, .p (.faddr 0), [.t 1]⟩,
    ⟨1, some 17, none, .l (.load 1 false 1), [.t 16]⟩,
    ⟨2, some 18, none, .e .call [] [], [.f 98, .t 17, .c (.int .i64 0), .c (.int .i64 999)]⟩,
    ⟨3, some 19, none, .p .mov, [.t 18]⟩,
    ⟨4, some 20, some (19, true), .p (.faddr 1), [.t 1]⟩,
    ⟨5, some 21, some (19, true), .l (.load 1 false 1), [.t 20]⟩,
    ⟨6, some 22, some (19, true), .p .len, [.t 21]⟩,
    ⟨7, some 23, some (19, true), .p (.bin .eql), [.t 22, .c (.int .i64 3)]⟩,
    ⟨8, some 24, none, .p .pick, [.t 19, .t 23, .c (.bool false)]⟩,
    ⟨9, some 2, none, .p .mov, [.t 24]⟩])
   (.ret))),
  [.tmp 2]⟩
/- loop.example/g00641/spec.l2Tell -/
def g112 : GL.Fn := ⟨.seq (.reg 0 [⟨0, some 2, none, .p .mov, [.c (.nils)]⟩,
    ⟨1, some 3, none, .p .mov, [.c (.bool false)]⟩])
   (.seq (.seq (.reg 0 [⟨0, some 4, none, .p .mov, [.t 0]⟩,
    ⟨1, some 5, none, .e .call [] [], [.f 63, .t 4]⟩,
    ⟨2, some 6, none, .p (.un .not), [.t 5]⟩])
   (.cond (.t 6) (.seq (.reg 0 [⟨0, some 2, none, .p .mov, [.c (.nils)]⟩,
    ⟨1, some 3, none, .p .mov, [.c (.bool false)]⟩])
   (.ret))
   (.skip)))
   (.seq (.reg 0 [⟨0, some 7, none, .p .mov, [.t 0]⟩,
    ⟨1, some 8, none, .e .call [] [], [.f 116, .t 7]⟩,
    ⟨2, some 2, none, .p .mov, [.t 8]⟩,
    ⟨3, some 3, none, .p .mov, [.c (.bool true)]⟩])
   (.ret))),
  [.tmp 2, .tmp 3]⟩
/- loop.example/g00641/spec.l2Put -/
def g120_0 : GL.Code := .seq (.seq (.reg 0 [⟨0, some 11, none, .p .mov, [.t 5]⟩,
    ⟨1, some 12, none, .p .mov, [.t 0]⟩,
    ⟨2, some 13, none, .p .len, [.t 12]⟩,
    ⟨3, some 14, none, .p (.bin .lss), [.t 11, .t 13]⟩,
    ⟨4, some 15, none, .p .mov, [.t 14]⟩,
    ⟨5, some 16, some (15, true), .p .mov, [.t 0]⟩,
    ⟨6, some 17, some (15, true), .p .mov, [.t 5]⟩,
    ⟨7, some 18, some (15, true), .p (.idx 2), [.t 16, .t 17]⟩,
    ⟨8, some 19, some (15, true), .p (.faddr 0), [.t 18]⟩,
    ⟨9, some 20, some (15, true), .r (.load false 1) false, [.t 19]⟩,
    ⟨10, some 21, some (15, true), .p (.faddr 0), [.t 3]⟩,
    ⟨11, some 22, some (15, true), .l (.load 3 false 1), [.t 21]⟩,
    ⟨12, some 23, some (15, true), .p (.bin .lss), [.t 20, .t 22]⟩,
    ⟨13, some 24, none, .p .pick, [.t 15, .t 23, .c (.bool false)]⟩])
   (.cond (.t 24) (.skip)
   (.exit 0)))
   (.block 1 (.reg 0 [⟨0, some 25, none, .p .mov, [.t 5]⟩,
    ⟨1, some 26, none, .p (.bin .add), [.t 25, .c (.int .i64 1)]⟩,
    ⟨2, some 5, none, .p .mov, [.t 26]⟩]))
def g120 : GL.Fn := ⟨.seq (.reg 0 [⟨0, some 3, none, .l (.box 3 2), [.t 1]⟩,
    ⟨1, some 4, none, .p .mov, [.c (.nils)]⟩])
   (.seq (.reg 0 [⟨0, some 7, none, .p .mov, [.t 0]⟩,
    ⟨1, some 8, none, .p (.faddr 0), [.t 3]⟩,
    ⟨2, some 9, none, .l (.load 3 false 1), [.t 8]⟩,
    ⟨3, some 10, none, .e .call [] [], [.f 111, .t 7, .t 9]⟩,
    ⟨4, some 0, none, .p .mov, [.t 10]⟩])
   (.seq (.reg 0 [⟨0, some 5, none, .p .mov, [.c (.int .i64 0)]⟩])
   (.seq (.block 0 (.loop g120_0))
   (.seq (.reg 0 [⟨0, some 27, none, .e (.new (.lit 2)) [] [], []⟩,
    ⟨1, some 28, none, .p .mov, [.t 0]⟩,
    ⟨2, some 29, none, .p .mov, [.t 5]⟩,
    ⟨3, some 30, none, .p (.slice 2 false true false), [.t 28, .t 29]⟩,
    ⟨4, some 31, none, .e (.append 2 32) [] [], [.t 27, .t 30]⟩,
    ⟨5, some 6, none, .p .mov, [.t 31]⟩])
   (.seq (.reg 0 [⟨0, some 32, none, .p .mov, [.t 6]⟩,
    ⟨1, some 33, none, .l (.load 3 true 2), [.t 3]⟩,
    ⟨2, some 34, none, .e (.new (.lit 2)) [] [], [.t 33]⟩,
    ⟨3, some 35, none, .e (.append 2 32) [] [], [.t 32, .t 34]⟩,
    ⟨4, some 6, none, .p .mov, [.t 35]⟩])
   (.seq (.reg 0 [⟨0, some 36, none, .p .mov, [.t 6]⟩,
    ⟨1, some 37, none, .p .mov, [.t 0]⟩,
    ⟨2, some 38, none, .p .mov, [.t 5]⟩,
    ⟨3, some 39, none, .p (.slice 2 true false false), [.t 37, .t 38]⟩,
    ⟨4, some 40, none, .e (.append 2 32) [] [], [.t 36, .t 39]⟩,
    ⟨5, some 4, none, .p .mov, [.t 40]⟩])
   (.ret))))))),
  [.tmp 4]⟩
/- loop.example/g00641/laws.toValueS -/
def g121_0 : GL.Code := .seq (.seq (.reg 0 [⟨0, some 8, none, .p .mov, [.t 4]⟩,
    ⟨1, some 9, none, .p .mov, [.t 0]⟩,
    ⟨2, some 10, none, .p .len, [.t 9]⟩,
    ⟨3, some 11, none, .p (.bin .lss), [.t 8, .t 10]⟩])
   (.cond (.t 11) (.skip)
   (.exit 0)))
   (.seq (.block 1 (.reg 0 [⟨0, some 14, none, .p .mov, [.t 3]⟩,
    ⟨1, some 15, none, .p .mov, [.t 4]⟩,
    ⟨2, some 16, none, .p .mov, [.t 0]⟩,
    ⟨3, some 17, none, .p .mov, [.t 4]⟩,
    ⟨4, some 18, none, .p (.idx 2), [.t 16, .t 17]⟩,
    ⟨5, some 19, none, .r (.load true 2) false, [.t 18]⟩,
    ⟨6, some 20, none, .e .call [] [], [.f 49, .t 19]⟩,
    ⟨7, some 21, none, .p (.idx 2), [.t 14, .t 15]⟩,
    ⟨8, none, none, .e (.store 2) [] [], [.t 21, .t 20]⟩]))
   (.reg 0 [⟨0, some 12, none, .p .mov, [.t 4]⟩,
    ⟨1, some 13, none, .p (.bin .add), [.t 12, .c (.int .i64 1)]⟩,
    ⟨2, some 4, none, .p .mov, [.t 13]⟩]))
def g121 : GL.Fn := ⟨.seq (.reg 0 [⟨0, some 2, none, .p .mov, [.c (.nils)]⟩])
   (.seq (.reg 0 [⟨0, some 5, none, .p .mov, [.t 0]⟩,
    ⟨1, some 6, none, .p .len, [.t 5]⟩,
    ⟨2, some 7, none, .e (.new (.make 2 16 [.bool false, .int .i64 0])) [] [], [.t 6, .t 6]⟩,
    ⟨3, some 3, none, .p .mov, [.t 7]⟩])
   (.seq (.seq (.reg 0 [⟨0, some 4, none, .p .mov, [.c (.int .i64 0)]⟩])
   (.block 0 (.loop g121_0)))
   (.seq (.reg 0 [⟨0, some 22, none, .p .mov, [.t 3]⟩,
    ⟨1, some 2, none, .p .mov, [.t 22]⟩])
   (.ret)))),
  [.tmp 2]⟩
/- loop.example/g00641/impl.put -/
def g117 : GL.Fn := ⟨.seq (.reg 0 [⟨0, some 3, none, .l (.box 3 2), [.t 1]⟩,
    ⟨1, some 4, none, .p .mov, [.c (.nils)]⟩,
    ⟨2, some 5, none, .p .mov, [.c (.bool false)]⟩])
   (.seq (.reg 0 [⟨0, some 9, none, .p .mov, [.t 0]⟩,
    ⟨1, some 10, none, .e .call [] [], [.f 131, .t 9]⟩,
    ⟨2, some 6, none, .p .mov, [.t 10]⟩])
   (.seq (.reg 0 [⟨0, some 12, none, .p .mov, [.t 6]⟩,
    ⟨1, some 13, none, .p (.faddr 0), [.t 3]⟩,
    ⟨2, some 14, none, .l (.load 3 false 1), [.t 13]⟩,
    ⟨3, some 15, none, .e .call [] [], [.f 127, .t 12, .t 14]⟩,
    ⟨4, some 11, none, .p .mov, [.t 15]⟩,
    ⟨5, some 16, none, .p (.extract 0), [.t 11]⟩,
    ⟨6, some 17, none, .p (.extract 1), [.t 11]⟩,
    ⟨7, some 7, none, .p .mov, [.t 16]⟩,
    ⟨8, some 8, none, .p .mov, [.t 17]⟩])
   (.seq (.seq (.reg 0 [⟨0, some 18, none, .p .mov, [.t 8]⟩])
   (.cond (.t 18) (.reg 0 [⟨0, some 19, none, .p .mov, [.t 6]⟩,
    ⟨1, some 20, none, .p .mov, [.t 7]⟩,
    ⟨2, some 21, none, .l (.load 3 true 2), [.t 3]⟩,
    ⟨3, some 22, none, .e .call [] [], [.f 128, .t 21]⟩,
    ⟨4, some 23, none, .p (.idx 2), [.t 19, .t 20]⟩,
    ⟨5, none, none, .e (.store 2) [] [], [.t 23, .t 22]⟩])
   (.reg 0 [⟨0, some 24, none, .p .mov, [.t 6]⟩,
    ⟨1, some 25, none, .p .mov, [.t 7]⟩,
    ⟨2, some 26, none, .l (.load 3 true 2), [.t 3]⟩,
    ⟨3, some 27, none, .e .call [] [], [.f 128, .t 26]⟩,
    ⟨4, some 28, none, .e (.new (.lit 2)) [] [], [.t 27]⟩,
    ⟨5, some 29, none, .e .call [] [], [.f 145, .t 24, .t 25, .t 28]⟩,
    ⟨6, some 6, none, .p .mov, [.t 29]⟩])))
   (.seq (.seq (.reg 0 [⟨0, some 30, none, .p .mov, [.t 6]⟩,
    ⟨1, some 31, none, .p .len, [.t 30]⟩,
    ⟨2, some 32, none, .p (.bin .gtr), [.t 31, .c (.int .i64 20)]⟩])
   (.cond (.t 32) (.seq (.reg 0 [⟨0, some 4, none, .p .mov, [.c (.nils)]⟩,
    ⟨1, some 5, none, .p .mov, [.c (.bool false)]⟩])
   (.ret))
   (.skip)))
   (.seq (.reg 0 [⟨0, some 33, none, .p .mov, [.t 6]⟩,
    ⟨1, some 4, none, .p .mov, [.t 33]⟩,
    ⟨2, some 5, none, .p .mov, [.c (.bool true)]⟩])
   (.ret)))))),
  [.tmp 4, .tmp 5]⟩
/- loop.example/g00641/laws.eqValueS -/
def g123_0 : GL.Code := .seq (.seq (.reg 0 [⟨0, some 11, none, .p .mov, [.t 5]⟩,
    ⟨1, some 12, none, .p .mov, [.t 0]⟩,
    ⟨2, some 13, none, .p .len, [.t 12]⟩,
    ⟨3, some 14, none, .p (.bin .lss), [.t 11, .t 13]⟩])
   (.cond (.t 14) (.skip)
   (.exit 0)))
   (.seq (.block 1 (.seq (.reg 0 [⟨0, some 17, none, .p .mov, [.t 0]⟩,
    ⟨1, some 18, none, .p .mov, [.t 5]⟩,
    ⟨2, some 19, none, .p (.idx 2), [.t 17, .t 18]⟩,
    ⟨3, some 20, none, .r (.load true 2) false, [.t 19]⟩,
    ⟨4, some 21, none, .p .mov, [.t 1]⟩,
    ⟨5, some 22, none, .p .mov, [.t 5]⟩,
    ⟨6, some 23, none, .p (.idx 2), [.t 21, .t 22]⟩,
    ⟨7, some 24, none, .r (.load true 2) false, [.t 23]⟩,
    ⟨8, some 25, none, .e .call [] [], [.f 146, .t 20, .t 24]⟩,
    ⟨9, some 26, none, .p (.un .not), [.t 25]⟩])
   (.cond (.t 26) (.seq (.reg 0 [⟨0, some 4, none, .p .mov, [.c (.bool false)]⟩])
   (.ret))
   (.skip))))
   (.reg 0 [⟨0, some 15, none, .p .mov, [.t 5]⟩,
    ⟨1, some 16, none, .p (.bin .add), [.t 15, .c (.int .i64 1)]⟩,
    ⟨2, some 5, none, .p .mov, [.t 16]⟩]))
def g123 : GL.Fn := ⟨.seq (.reg 0 [⟨0, some 4, none, .p .mov, [.c (.bool false)]⟩])
   (.seq (.seq (.reg 0 [⟨0, some 6, none, .p .mov, [.t 0]⟩,
    ⟨1, some 7, none, .p .len, [.t 6]⟩,
    ⟨2, some 8, none, .p .mov, [.t 1]⟩,
    ⟨3, some 9, none, .p .len, [.t 8]⟩,
    ⟨4, some 10, none, .p (.bin .neq), [.t 7, .t 9]⟩])
   (.cond (.t 10) (.seq (.reg 0 [⟨0, some 4, none, .p .mov, [.c (.bool false)]⟩])
   (.ret))
   (.skip)))
   (.seq (.seq (.reg 0 [⟨0, some 5, none, .p .mov, [.c (.int .i64 0)]⟩])
   (.block 0 (.loop g123_0)))
   (.seq (.reg 0 [⟨0, some 4, none, .p .mov, [.c (.bool true)]⟩])
   (.ret)))),
  [.tmp 4]⟩
/- loop.example/g00641/laws.markValueS -/
def g114_0 : GL.Code := .seq (.seq (.reg 0 [⟨0, some 6, none, .p .mov, [.t 5]⟩,
    ⟨1, some 7, none, .p .mov, [.t 0]⟩,
    ⟨2, some 8, none, .p .len, [.t 7]⟩,
    ⟨3, some 9, none, .p (.bin .lss), [.t 6, .t 8]⟩])
   (.cond (.t 9) (.skip)
   (.exit 0)))
   (.seq (.block 1 (.seq (.reg 0 [⟨0, some 12, none, .p .mov, [.t 0]⟩,
    ⟨1, some 13, none, .p .mov, [.t 5]⟩,
    ⟨2, some 14, none, .p .mov, [.t 1]⟩,
    ⟨3, some 15, none, .p (.bin .rem), [.t 14, .c (.int .i64 3)]⟩,
    ⟨4, some 16, none, .p (.bin .eql), [.t 15, .c (.int .i64 0)]⟩,
    ⟨5, some 17, none, .p (.idx 2), [.t 12, .t 13]⟩,
    ⟨6, some 18, none, .p (.faddr 0), [.t 17]⟩,
    ⟨7, none, none, .e (.store 1) [] [], [.t 18, .t 16]⟩])
   (.seq (.reg 0 [⟨0, some 19, none, .p .mov, [.t 1]⟩,
    ⟨1, some 20, none, .p (.bin .add), [.t 19, .c (.int .i64 1)]⟩,
    ⟨2, some 1, none, .p .mov, [.t 20]⟩])
   (.seq (.reg 0 [⟨0, some 21, none, .p .mov, [.t 0]⟩,
    ⟨1, some 22, none, .p .mov, [.t 5]⟩,
    ⟨2, some 23, none, .p .mov, [.t 1]⟩,
    ⟨3, some 24, none, .p (.idx 2), [.t 21, .t 22]⟩,
    ⟨4, some 25, none, .p (.faddr 1), [.t 24]⟩,
    ⟨5, none, none, .e (.store 1) [] [], [.t 25, .t 23]⟩])
   (.reg 0 [⟨0, some 26, none, .p .mov, [.t 1]⟩,
    ⟨1, some 27, none, .p (.bin .add), [.t 26, .c (.int .i64 1)]⟩,
    ⟨2, some 1, none, .p .mov, [.t 27]⟩])))))
   (.reg 0 [⟨0, some 10, none, .p .mov, [.t 5]⟩,
    ⟨1, some 11, none, .p (.bin .add), [.t 10, .c (.int .i64 1)]⟩,
    ⟨2, some 5, none, .p .mov, [.t 11]⟩]))
def g114 : GL.Fn := ⟨.seq (.reg 0 [⟨0, some 4, none, .p .mov, [.c (.int .i64 0)]⟩])
   (.seq (.seq (.reg 0 [⟨0, some 5, none, .p .mov, [.c (.int .i64 0)]⟩])
   (.block 0 (.loop g114_0)))
   (.seq (.reg 0 [⟨0, some 28, none, .p .mov, [.t 1]⟩,
    ⟨1, some 4, none, .p .mov, [.t 28]⟩])
   (.ret))),
  [.tmp 4]⟩
/- loop.example/g00641/laws.heldValueS -/
def g115_0 : GL.Code := .seq (.seq (.reg 0 [⟨0, some 6, none, .p .mov, [.t 5]⟩,
    ⟨1, some 7, none, .p .mov, [.t 0]⟩,
    ⟨2, some 8, none, .p .len, [.t 7]⟩,
    ⟨3, some 9, none, .p (.bin .lss), [.t 6, .t 8]⟩])
   (.cond (.t 9) (.skip)
   (.exit 0)))
   (.seq (.block 1 (.seq (.seq (.reg 0 [⟨0, some 12, none, .p .mov, [.t 0]⟩,
    ⟨1, some 13, none, .p .mov, [.t 5]⟩,
    ⟨2, some 14, none, .p (.idx 2), [.t 12, .t 13]⟩,
    ⟨3, some 15, none, .p (.faddr 0), [.t 14]⟩,
    ⟨4, some 16, none, .r (.load false 1) false, [.t 15]⟩,
    ⟨5, some 17, none, .p .mov, [.t 1]⟩,
    ⟨6, some 18, none, .p (.bin .rem), [.t 17, .c (.int .i64 3)]⟩,
    ⟨7, some 19, none, .p (.bin .eql), [.t 18, .c (.int .i64 0)]⟩,
    ⟨8, some 20, none, .p (.eqB true), [.t 16, .t 19]⟩])
   (.cond (.t 20) (.seq (.reg 0 [⟨0, some 4, none, .p .mov, [.c (.int .i64 (-1))]⟩])
   (.ret))
   (.skip)))
   (.seq (.reg 0 [⟨0, some 21, none, .p .mov, [.t 1]⟩,
    ⟨1, some 22, none, .p (.bin .add), [.t 21, .c (.int .i64 1)]⟩,
    ⟨2, some 1, none, .p .mov, [.t 22]⟩])
   (.seq (.seq (.reg 0 [⟨0, some 23, none, .p .mov, [.t 0]⟩,
    ⟨1, some 24, none, .p .mov, [.t 5]⟩,
    ⟨2, some 25, none, .p (.idx 2), [.t 23, .t 24]⟩,
    ⟨3, some 26, none, .p (.faddr 1), [.t 25]⟩,
    ⟨4, some 27, none, .r (.load false 1) false, [.t 26]⟩,
    ⟨5, some 28, none, .p .mov, [.t 1]⟩,
    ⟨6, some 29, none, .p (.bin .neq), [.t 27, .t 28]⟩])
   (.cond (.t 29) (.seq (.reg 0 [⟨0, some 4, none, .p .mov, [.c (.int .i64 (-1))]⟩])
   (.ret))
   (.skip)))
   (.reg 0 [⟨0, some 30, none, .p .mov, [.t 1]⟩,
    ⟨1, some 31, none, .p (.bin .add), [.t 30, .c (.int .i64 1)]⟩,
    ⟨2, some 1, none, .p .mov, [.t 31]⟩])))))
   (.reg 0 [⟨0, some 10, none, .p .mov, [.t 5]⟩,
    ⟨1, some 11, none, .p (.bin .add), [.t 10, .c (.int .i64 1)]⟩,
    ⟨2, some 5, none, .p .mov, [.t 11]⟩]))
def g115 : GL.Fn := ⟨.seq (.reg 0 [⟨0, some 4, none, .p .mov, [.c (.int .i64 0)]⟩])
   (.seq (.seq (.reg 0 [⟨0, some 5, none, .p .mov, [.c (.int .i64 0)]⟩])
   (.block 0 (.loop g115_0)))
   (.seq (.reg 0 [⟨0, some 32, none, .p .mov, [.t 1]⟩,
    ⟨1, some 4, none, .p .mov, [.t 32]⟩])
   (.ret))),
  [.tmp 4]⟩
/- loop.example/g00641/impl.isKey -/
def g126 : GL.Fn := ⟨.seq (.reg 0 [⟨0, some 2, none, .p .mov, [.c (.bool false)]⟩])
   (.seq (.reg 0 [⟨0, some 3, none, .p .mov, [.t 0]⟩,
    ⟨1, some 4, none, .e .call [] [], [.f 107, .t 3, .c (.int .i64 0), .c (.int .i64 999)]⟩,
    ⟨2, some 2, none, .p .mov, [.t 4]⟩])
   (.ret)),
  [.tmp 2]⟩
/- loop.example/g00641/impl.place -/
def g127 : GL.Fn := ⟨.seq (.reg 0 [⟨0, some 4, none, .p .mov, [.c (.int .i64 0)]⟩,
    ⟨1, some 5, none, .p .mov, [.c (.bool false)]⟩])
   (.seq (.reg 0 [⟨0, some 6, none, .p .mov, [.t 0]⟩,
    ⟨1, some 7, none, .p .mov, [.t 1]⟩,
    ⟨2, some 8, none, .e .call [] [], [.f 147, .t 6, .t 7, .f 148]⟩,
    ⟨3, some 9, none, .p (.extract 0), [.t 8]⟩,
    ⟨4, some 10, none, .p (.extract 1), [.t 8]⟩,
    ⟨5, some 4, none, .p .mov, [.t 9]⟩,
    ⟨6, some 5, none, .p .mov, [.t 10]⟩])
   (.ret)),
  [.tmp 4, .tmp 5]⟩
/- (loop.example/g00641/impl.Row).cloned -/
def g128 : GL.Fn := ⟨.seq (.reg 0 [⟨0, some 1, none, .l (.box 1 2), [.t 0]⟩,
    ⟨1, some 2, none, .l (.alloc 2 [.int .i64 0, .nils]), []⟩])
   (.seq (.reg 0 [⟨0, some 3, none, .p (.faddr 0), [.t 1]⟩,
    ⟨1, some 4, none, .l (.load 1 false 1), [.t 3]⟩,
    ⟨2, some 5, none, .p (.faddr 1), [.t 1]⟩,
    ⟨3, some 6, none, .l (.load 1 false 1), [.t 5]⟩,
    ⟨4, some 7, none, .e .call [] [], [.f 149, .t 6]⟩,
    ⟨5, some 8, none, .p (.build [.int .i64 0, .nils] [(0, 1), (1, 1)]), [.t 4, .t 7]⟩,
    ⟨6, none, none, .l (.store 2 2), [.t 2, .t 8]⟩])
   (.ret)),
  [.cellL 2 2 true 2]⟩
/- loop.example/g00641/spec.l2Drop -/
def g111_0 : GL.Code := .seq (.reg 0 [⟨0, some 11, none, .p (.bin .lss), [.t 10, .t 9]⟩])
   (.seq (.cond (.t 11) (.skip)
   (.exit 0))
   (.seq (.block 1 (.seq (.reg 0 [⟨0, some 12, none, .p (.idx 2), [.t 8, .t 10]⟩,
    ⟨1, some 13, none, .r (.load true 2) false, [.t 12]⟩,
    ⟨2, some 7, none, .l (.alloc 7 [.int .i64 0, .nils]), []⟩,
    ⟨3, none, none, .l (.store 7 2), [.t 7, .t 13]⟩])
   (.seq (.reg 0 [⟨0, some 14, none, .p (.faddr 0), [.t 7]⟩,
    ⟨1, some 15, none, .l (.load 7 false 1), [.t 14]⟩,
    ⟨2, some 16, none, .p .mov, [.t 1]⟩,
    ⟨3, some 17, none, .p (.bin .neq), [.t 15, .t 16]⟩])
   (.cond (.t 17) (.reg 0 [⟨0, some 18, none, .p .mov, [.t 5]⟩,
    ⟨1, some 19, none, .l (.load 7 true 2), [.t 7]⟩,
    ⟨2, some 20, none, .e (.new (.lit 2)) [] [], [.t 19]⟩,
    ⟨3, some 21, none, .e (.append 2 32) [] [], [.t 18, .t 20]⟩,
    ⟨4, some 5, none, .p .mov, [.t 21]⟩])
   (.skip)))))
   (.reg 0 [⟨0, some 22, none, .p (.bin .add), [.t 10, .c (.int .i64 1)]⟩,
    ⟨1, some 10, none, .p .mov, [.t 22]⟩])))
def g111 : GL.Fn := ⟨.seq (.reg 0 [⟨0, some 4, none, .p .mov, [.c (.nils)]⟩])
   (.seq (.reg 0 [⟨0, some 5, none, .p .mov, [.c (.nils)]⟩])
   (.seq (.seq (.reg 0 [⟨0, some 8, none, .p .mov, [.t 0]⟩,
    ⟨1, some 9, none, .p .len, [.t 8]⟩,
    ⟨2, some 10, none, .p .mov, [.c (.int .i64 0)]⟩])
   (.block 0 (.loop g111_0)))
   (.seq (.reg 0 [⟨0, some 23, none, .p .mov, [.t 5]⟩,
    ⟨1, some 4, none, .p .mov, [.t 23]⟩])
   (.ret)))),
  [.tmp 4]⟩
/- loop.example/g00641/spec.l2Copy -/
def g130 : GL.Fn := ⟨.seq (.reg 0 [⟨0, some 1, none, .l (.box 1 2), [.t 0]⟩,
    ⟨1, some 2, none, .l (.alloc 2 [.int .i64 0, .nils]), []⟩])
   (.seq (.reg 0 [⟨0, some 3, none, .p (.faddr 0), [.t 1]⟩,
    ⟨1, some 4, none, .l (.load 1 false 1), [.t 3]⟩,
    ⟨2, some 5, none, .e (.new (.lit 2)) [] [], []⟩,
    ⟨3, some 6, none, .p (.faddr 1), [.t 1]⟩,
    ⟨4, some 7, none, .l (.load 1 false 1), [.t 6]⟩,
    ⟨5, some 8, none, .e (.append 2 16) [] [], [.t 5, .t 7]⟩,
    ⟨6, some 9, none, .p (.build [.int .i64 0, .nils] [(0, 1), (1, 1)]), [.t 4, .t 8]⟩,
    ⟨7, none, none, .l (.store 2 2), [.t 2, .t 9]⟩])
   (.ret)),
  [.cellL 2 2 true 2]⟩
/- slices.Clone[[]loop.example/g00641/impl.Value,loop.example/g00641/impl.Value] -/
def g149 : GL.Fn := ⟨.seq (.reg 0 [⟨0, some 2, none, .p .mov, [.c (.nils)]⟩])
   (.seq (.seq (.reg 0 [⟨0, some 3, none, .p .mov, [.t 0]⟩,
    ⟨1, some 4, none, .p (.isNil false), [.t 3]⟩])
   (.cond (.t 4) (.seq (.reg 0 [⟨0, some 2, none, .p .mov, [.c (.nils)]⟩])
   (.ret))
   (.skip)))
   (.seq (.reg 0 [⟨0, some 5, none, .e (.new (.lit 2)) [] [], []⟩,
    ⟨1, some 6, none, .p .mov, [.t 0]⟩,
    ⟨2, some 7, none, .e (.append 2 16) [] [], [.t 5, .t 6]⟩,
    ⟨3, some 2, none, .p .mov, [.t 7]⟩])
   (.ret))),
  [.tmp 2]⟩
/- loop.example/g00641/spec.l2Own -/
def g116_0 : GL.Code := .seq (.reg 0 [⟨0, some 9, none, .p (.bin .lss), [.t 8, .t 7]⟩])
   (.seq (.cond (.t 9) (.skip)
   (.exit 0))
   (.seq (.block 1 (.seq (.reg 0 [⟨0, some 10, none, .p (.idx 2), [.t 6, .t 8]⟩,
    ⟨1, some 11, none, .r (.load true 2) false, [.t 10]⟩,
    ⟨2, some 5, none, .l (.alloc 5 [.int .i64 0, .nils]), []⟩,
    ⟨3, none, none, .l (.store 5 2), [.t 5, .t 11]⟩])
   (.reg 0 [⟨0, some 12, none, .p .mov, [.t 3]⟩,
    ⟨1, some 13, none, .l (.load 5 true 2), [.t 5]⟩,
    ⟨2, some 14, none, .e .call [] [], [.f 130, .t 13]⟩,
    ⟨3, some 15, none, .e (.new (.lit 2)) [] [], [.t 14]⟩,
    ⟨4, some 16, none, .e (.append 2 32) [] [], [.t 12, .t 15]⟩,
    ⟨5, some 3, none, .p .mov, [.t 16]⟩])))
   (.reg 0 [⟨0, some 17, none, .p (.bin .add), [.t 8, .c (.int .i64 1)]⟩,
    ⟨1, some 8, none, .p .mov, [.t 17]⟩])))
def g116 : GL.Fn := ⟨.seq (.reg 0 [⟨0, some 2, none, .p .mov, [.c (.nils)]⟩])
   (.seq (.reg 0 [⟨0, some 3, none, .p .mov, [.c (.nils)]⟩])
   (.seq (.seq (.reg 0 [⟨0, some 6, none, .p .mov, [.t 0]⟩,
    ⟨1, some 7, none, .p .len, [.t 6]⟩,
    ⟨2, some 8, none, .p .mov, [.c (.int .i64 0)]⟩])
   (.block 0 (.loop g116_0)))
   (.seq (.reg 0 [⟨0, some 18, none, .p .mov, [.t 3]⟩,
    ⟨1, some 2, none, .p .mov, [.t 18]⟩])
   (.ret)))),
  [.tmp 2]⟩
/- loop.example/g00641/laws.toValue -/
def g49 : GL.Fn := ⟨.seq (.reg 0 [⟨0, some 1, none, .l (.box 1 2), [.t 0]⟩,
    ⟨1, some 2, none, .l (.alloc 2 [.bool false, .int .i64 0]), []⟩])
   (.seq (.reg 0 [⟨0, some 3, none, .l (.alloc 3 [.bool false, .int .i64 0]), []⟩])
   (.seq (.reg 0 [⟨0, some 4, none, .p (.faddr 0), [.t 1]⟩,
    ⟨1, some 5, none, .l (.load 1 false 1), [.t 4]⟩,
    ⟨2, some 6, none, .p (.faddr 0), [.t 3]⟩,
    ⟨3, none, none, .l (.store 3 1), [.t 6, .t 5]⟩])
   (.seq (.reg 0 [⟨0, some 7, none, .p (.faddr 1), [.t 1]⟩,
    ⟨1, some 8, none, .l (.load 1 false 1), [.t 7]⟩,
    ⟨2, some 9, none, .p (.faddr 1), [.t 3]⟩,
    ⟨3, none, none, .l (.store 3 1), [.t 9, .t 8]⟩])
   (.seq (.reg 0 [⟨0, some 10, none, .l (.load 3 true 2), [.t 3]⟩,
    ⟨1, none, none, .l (.store 2 2), [.t 2, .t 10]⟩])
   (.ret))))),
  [.cellL 2 2 true 2]⟩
/- loop.example/g00641/impl.clonedRows -/
def g131_0 : GL.Code := .seq (.reg 0 [⟨0, some 10, none, .p (.bin .lss), [.t 9, .t 8]⟩])
   (.seq (.cond (.t 10) (.skip)
   (.exit 0))
   (.seq (.block 1 (.seq (.reg 0 [⟨0, some 11, none, .p (.idx 2), [.t 7, .t 9]⟩,
    ⟨1, some 12, none, .r (.load true 2) false, [.t 11]⟩,
    ⟨2, some 5, none, .l (.alloc 5 [.int .i64 0, .nils]), []⟩,
    ⟨3, none, none, .l (.store 5 2), [.t 5, .t 12]⟩])
   (.reg 0 [⟨0, some 13, none, .p .mov, [.t 3]⟩,
    ⟨1, some 14, none, .l (.load 5 true 2), [.t 5]⟩,
    ⟨2, some 15, none, .e .call [] [], [.f 128, .t 14]⟩,
    ⟨3, some 16, none, .e (.new (.lit 2)) [] [], [.t 15]⟩,
    ⟨4, some 17, none, .e (.append 2 32) [] [], [.t 13, .t 16]⟩,
    ⟨5, some 3, none, .p .mov, [.t 17]⟩])))
   (.reg 0 [⟨0, some 18, none, .p (.bin .add), [.t 9, .c (.int .i64 1)]⟩,
    ⟨1, some 9, none, .p .mov, [.t 18]⟩])))
def g131 : GL.Fn := ⟨.seq (.reg 0 [⟨0, some 2, none, .p .mov, [.c (.nils)]⟩])
   (.seq (.reg 0 [⟨0, some 6, none, .e (.new (.lit 2)) [] [], []⟩,
    ⟨1, some 3, none, .p .mov, [.t 6]⟩])
   (.seq (.seq (.reg 0 [⟨0, some 7, none, .p .mov, [.t 0]⟩,
    ⟨1, some 8, none, .p .len, [.t 7]⟩,
    ⟨2, some 9, none, .p .mov, [.c (.int .i64 0)]⟩])
   (.block 0 (.loop g131_0)))
   (.seq (.reg 0 [⟨0, some 19, none, .p .mov, [.t 3]⟩,
    ⟨1, some 2, none, .p .mov, [.t 19]⟩])
   (.ret)))),
  [.tmp 2]⟩
/- loop.example/g00641/laws.eqValue -/
def g146 : GL.Fn := ⟨.seq (.reg 0 [⟨0, some 2, none, .l (.box 2 2), [.t 0]⟩,
    ⟨1, some 3, none, .l (.box 3 2), [.t 1]⟩,
    ⟨2, some 4, none, .p .mov, [.c (.bool false)]⟩])
   (.seq (.seq (.reg 0 [⟨0, some 5, none, .p (.faddr 0), [.t 2]⟩,
    ⟨1, some 6, none, .l (.load 2 false 1), [.t 5]⟩,
    ⟨2, some 7, none, .p (.faddr 0), [.t 3]⟩,
    ⟨3, some 8, none, .l (.load 3 false 1), [.t 7]⟩,
    ⟨4, some 9, none, .p (.eqB true), [.t 6, .t 8]⟩])
   (.cond (.t 9) (.seq (.reg 0 [⟨0, some 4, none, .p .mov, [.c (.bool false)]⟩])
   (.ret))
   (.skip)))
   (.seq (.seq (.reg 0 [⟨0, some 10, none, .p (.faddr 1), [.t 2]⟩,
    ⟨1, some 11, none, .l (.load 2 false 1), [.t 10]⟩,
    ⟨2, some 12, none, .p (.faddr 1), [.t 3]⟩,
    ⟨3, some 13, none, .l (.load 3 false 1), [.t 12]⟩,
    ⟨4, some 14, none, .p (.bin .neq), [.t 11, .t 13]⟩])
   (.cond (.t 14) (.seq (.reg 0 [⟨0, some 4, none, .p .mov, [.c (.bool false)]⟩])
   (.ret))
   (.skip)))
   (.seq (.reg 0 [⟨0, some 4, none, .p .mov, [.c (.bool true)]⟩])
   (.ret)))),
  [.tmp 4]⟩
/- slices.BinarySearchFunc[[]loop.example/g00641/impl.Row,loop.example/g00641/impl.Row,int] -/
def g147_0 : GL.Code := .seq (.seq (.reg 0 [⟨0, some 15, none, .p .mov, [.t 9]⟩,
    ⟨1, some 16, none, .p .mov, [.t 10]⟩,
    ⟨2, some 17, none, .p (.bin .lss), [.t 15, .t 16]⟩])
   (.cond (.t 17) (.skip)
   (.exit 0)))
   (.block 1 (.seq (.reg 0 [⟨0, some 18, none, .p .mov, [.t 9]⟩,
    ⟨1, some 19, none, .p .mov, [.t 10]⟩,
    ⟨2, some 20, none, .p (.bin .add), [.t 18, .t 19]⟩,
    ⟨3, some 21, none, .p (.conv .u64), [.t 20]⟩,
    ⟨4, some 22, none, .p (.bin .shr), [.t 21, .c (.int .u64 1)]⟩,
    ⟨5, some 23, none, .p (.conv .i64), [.t 22]⟩,
    ⟨6, some 11, none, .p .mov, [.t 23]⟩])
   (.seq (.reg 0 [⟨0, some 24, none, .p .mov, [.t 2]⟩,
    ⟨1, some 25, none, .p .mov, [.t 0]⟩,
    ⟨2, some 26, none, .p .mov, [.t 11]⟩,
    ⟨3, some 27, none, .p (.idx 2), [.t 25, .t 26]⟩,
    ⟨4, some 28, none, .r (.load true 2) false, [.t 27]⟩,
    ⟨5, some 29, none, .p .mov, [.t 1]⟩,
    ⟨6, some 30, none, .e .call [] [], [.t 24, .t 28, .t 29]⟩,
    ⟨7, some 31, none, .p (.bin .lss), [.t 30, .c (.int .i64 0)]⟩])
   (.cond (.t 31) (.reg 0 [⟨0, some 32, none, .p .mov, [.t 11]⟩,
    ⟨1, some 33, none, .p (.bin .add), [.t 32, .c (.int .i64 1)]⟩,
    ⟨2, some 9, none, .p .mov, [.t 33]⟩])
   (.reg 0 [⟨0, some 34, none, .p .mov, [.t 11]⟩,
    ⟨1, some 10, none, .p .mov, [.t 34]⟩])))))
def g147 : GL.Fn := ⟨.seq (.reg 0 [⟨0, some 6, none, .p .mov, [.c (.int .i64 0)]⟩,
    ⟨1, some 7, none, .p .mov, [.c (.bool false)]⟩])
   (.seq (.reg 0 [⟨0, some 12, none, .p .mov, [.t 0]⟩,
    ⟨1, some 13, none, .p .len, [.t 12]⟩,
    ⟨2, some 8, none, .p .mov, [.t 13]⟩])
   (.seq (.reg 0 [⟨0, some 14, none, .p .mov, [.t 8]⟩,
    ⟨1, some 9, none, .p .mov, [.c (.int .i64 0)]⟩,
    ⟨2, some 10, none, .p .mov, [.t 14]⟩])
   (.seq (.block 0 (.loop g147_0))
   (.seq (.reg 0 [⟨0, some 35, none, .p .mov, [.t 9]⟩,
    ⟨1, some 36, none, .p .mov, [.t 9]⟩,
    ⟨2, some 37, none, .p .mov, [.t 8]⟩,
    ⟨3, some 38, none, .p (.bin .lss), [.t 36, .t 37]⟩,
    ⟨4, some 39, none, .p .mov, [.t 38]⟩,
    ⟨5, some 40, some (39, true), .p .mov, [.t 2]⟩,
    ⟨6, some 41, some (39, true), .p .mov, [.t 0]⟩,
    ⟨7, some 42, some (39, true), .p .mov, [.t 9]⟩,
    ⟨8, some 43, some (39, true), .p (.idx 2), [.t 41, .t 42]⟩,
    ⟨9, some 44, some (39, true), .r (.load true 2) false, [.t 43]⟩,
    ⟨10, some 45, some (39, true), .p .mov, [.t 1]⟩,
    ⟨11, some 46, some (39, true), .e .call [] [], [.t 40, .t 44, .t 45]⟩,
    ⟨12, some 47, some (39, true), .p (.bin .eql), [.t 46, .c (.int .i64 0)]⟩,
    ⟨13, some 48, none, .p .pick, [.t 39, .t 47, .c (.bool false)]⟩,
    ⟨14, some 6, none, .p .mov, [.t 35]⟩,
    ⟨15, some 7, none, .p .mov, [.t 48]⟩])
   (.ret))))),
  [.tmp 6, .tmp 7]⟩
/- loop.example/g00641/impl.place$1 -/
def g148 : GL.Fn := ⟨.seq (.reg 0 [⟨0, some 2, none, .l (.box 2 2), [.t 0]⟩,
    ⟨1, some 4, none, .p .mov, [.c (.int .i64 0)]⟩])
   (.seq (.reg 0 [⟨0, some 5, none, .p (.faddr 0), [.t 2]⟩,
    ⟨1, some 6, none, .l (.load 2 false 1), [.t 5]⟩,
    ⟨2, some 7, none, .p .mov, [.t 1]⟩,
    ⟨3, some 8, none, .p (.bin .sub), [.t 6, .t 7]⟩,
    ⟨4, some 4, none, .p .mov, [.t 8]⟩])
   (.ret)),
  [.tmp 4]⟩
end GL
