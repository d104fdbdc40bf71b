import Derived.Test.YtnlagjpblhjnbaaGlA
/- GL code of functions. -/
set_option linter.unusedSimpArgs false
set_option linter.unusedVariables false
namespace GL
open Go
/- loop.example/g00641/laws.FnWord -/
def g226_0 : GL.Code := .seq (.reg 0 [⟨0, some 75, none, .p (.bin .lss), [.t 74, .t 73]⟩])
   (.seq (.cond (.t 75) (.skip)
   (.exit 0))
   (.seq (.block 1 (.seq (.reg 0 [⟨0, some 76, none, .p (.idx 1), [.t 72, .t 74]⟩,
    ⟨1, some 77, none, .r (.load false 1) false, [.t 76]⟩,
    ⟨2, some 15, none, .p .mov, [.t 77]⟩])
   (.seq (.seq (.reg 0 [⟨0, some 78, none, .p .mov, [.t 15]⟩,
    ⟨1, some 79, none, .p (.bin .gtr), [.t 78, .c (.int .i64 0)]⟩,
    ⟨2, some 80, none, .p .mov, [.t 79]⟩,
    ⟨3, some 81, some (80, true), .p .mov, [.t 13]⟩,
    ⟨4, some 82, some (80, true), .p (.bin .gtr), [.t 81, .c (.int .i64 0)]⟩,
    ⟨5, some 83, none, .p .pick, [.t 80, .t 82, .c (.bool false)]⟩,
    ⟨6, some 84, none, .p .mov, [.t 83]⟩,
    ⟨7, some 85, some (84, true), .p .mov, [.t 15]⟩,
    ⟨8, some 86, some (84, true), .p .mov, [.t 13]⟩,
    ⟨9, some 87, some (84, true), .p (.bin .neq), [.t 85, .t 86]⟩,
    ⟨10, some 88, none, .p .pick, [.t 84, .t 87, .c (.bool false)]⟩])
   (.cond (.t 88) (.seq (.reg 0 [⟨0, some 4, none, .p .mov, [.c (.bool false)]⟩])
   (.ret))
   (.skip)))
   (.seq (.reg 0 [⟨0, some 89, none, .p .mov, [.t 15]⟩,
    ⟨1, some 90, none, .p (.bin .gtr), [.t 89, .c (.int .i64 0)]⟩])
   (.cond (.t 90) (.reg 0 [⟨0, some 91, none, .p .mov, [.t 15]⟩,
    ⟨1, some 13, none, .p .mov, [.t 91]⟩])
   (.skip))))))
   (.reg 0 [⟨0, some 92, none, .p (.bin .add), [.t 74, .c (.int .i64 1)]⟩,
    ⟨1, some 74, none, .p .mov, [.t 92]⟩])))
def g226 : GL.Fn := ⟨.seq (.reg 0 [⟨0, some 4, none, .p .mov, [.c (.bool false)]⟩])
   (.seq (.seq (.reg 0 [⟨0, some 31, none, .p .mov, [.t 0]⟩,
    ⟨1, some 32, none, .p .len, [.t 31]⟩,
    ⟨2, some 33, none, .p .mov, [.t 1]⟩,
    ⟨3, some 34, none, .p .len, [.t 33]⟩,
    ⟨4, some 35, none, .p (.bin .add), [.t 32, .t 34]⟩,
    ⟨5, some 36, none, .p (.bin .gtr), [.t 35, .c (.int .i64 1048576)]⟩])
   (.cond (.t 36) (.seq (.reg 0 [⟨0, some 4, none, .p .mov, [.c (.bool true)]⟩])
   (.ret))
   (.skip)))
   (.seq (.reg 0 [⟨0, some 38, none, .p .mov, [.t 0]⟩,
    ⟨1, some 39, none, .e .call [] [], [.f 227, .t 38]⟩,
    ⟨2, some 37, none, .p .mov, [.t 39]⟩,
    ⟨3, some 40, none, .p (.extract 0), [.t 37]⟩,
    ⟨4, some 41, none, .p (.extract 1), [.t 37]⟩,
    ⟨5, some 5, none, .p .mov, [.t 40]⟩,
    ⟨6, some 6, none, .p .mov, [.t 41]⟩])
   (.seq (.reg 0 [⟨0, some 43, none, .p .mov, [.t 5]⟩,
    ⟨1, some 44, none, .p .mov, [.t 6]⟩,
    ⟨2, some 45, none, .e .call [] [], [.f 228, .t 43, .t 44]⟩,
    ⟨3, some 42, none, .p .mov, [.t 45]⟩,
    ⟨4, some 46, none, .p (.extract 0), [.t 42]⟩,
    ⟨5, some 47, none, .p (.extract 1), [.t 42]⟩,
    ⟨6, some 48, none, .p (.extract 2), [.t 42]⟩,
    ⟨7, some 7, none, .p .mov, [.t 46]⟩,
    ⟨8, some 8, none, .p .mov, [.t 47]⟩,
    ⟨9, some 9, none, .p .mov, [.t 48]⟩])
   (.seq (.reg 0 [⟨0, some 50, none, .p .mov, [.t 5]⟩,
    ⟨1, some 51, none, .p .mov, [.t 6]⟩,
    ⟨2, some 52, none, .e .call [] [], [.f 229, .t 50, .t 51]⟩,
    ⟨3, some 49, none, .p .mov, [.t 52]⟩,
    ⟨4, some 53, none, .p (.extract 0), [.t 49]⟩,
    ⟨5, some 54, none, .p (.extract 1), [.t 49]⟩,
    ⟨6, some 55, none, .p (.extract 2), [.t 49]⟩,
    ⟨7, some 10, none, .p .mov, [.t 53]⟩,
    ⟨8, some 11, none, .p .mov, [.t 54]⟩,
    ⟨9, some 12, none, .p .mov, [.t 55]⟩])
   (.seq (.seq (.reg 0 [⟨0, some 56, none, .p .mov, [.t 9]⟩,
    ⟨1, some 57, none, .p .mov, [.t 12]⟩,
    ⟨2, some 58, none, .p (.eqB true), [.t 56, .t 57]⟩,
    ⟨3, some 59, none, .p .mov, [.t 58]⟩,
    ⟨4, some 60, some (59, false), .p .mov, [.t 8]⟩,
    ⟨5, some 61, some (59, false), .p .mov, [.t 11]⟩,
    ⟨6, some 62, some (59, false), .e .call [] [], [.f 24, .t 60, .t 61]⟩,
    ⟨7, some 63, some (59, false), .p (.un .not), [.t 62]⟩,
    ⟨8, some 64, none, .p .pick, [.t 59, .c (.bool true), .t 63]⟩,
    ⟨9, some 65, none, .p .mov, [.t 64]⟩,
    ⟨10, some 66, some (65, false), .p .mov, [.t 7]⟩,
    ⟨11, some 67, some (65, false), .p .mov, [.t 10]⟩,
    ⟨12, some 68, some (65, false), .e .call [] [], [.f 215, .t 66, .t 67]⟩,
    ⟨13, some 69, some (65, false), .p (.un .not), [.t 68]⟩,
    ⟨14, some 70, none, .p .pick, [.t 65, .c (.bool true), .t 69]⟩])
   (.cond (.t 70) (.seq (.reg 0 [⟨0, some 4, none, .p .mov, [.c (.bool false)]⟩])
   (.ret))
   (.skip)))
   (.seq (.seq (.reg 0 [⟨0, some 71, none, .p .mov, [.t 9]⟩])
   (.cond (.t 71) (.seq (.reg 0 [⟨0, some 13, none, .p .mov, [.c (.int .i64 0)]⟩])
   (.seq (.seq (.reg 0 [⟨0, some 72, none, .p .mov, [.t 8]⟩,
    ⟨1, some 73, none, .p .len, [.t 72]⟩,
    ⟨2, some 74, none, .p .mov, [.c (.int .i64 0)]⟩])
   (.block 0 (.loop g226_0)))
   (.seq (.reg 0 [⟨0, some 94, none, .p .mov, [.t 7]⟩,
    ⟨1, some 95, none, .e .call [] [], [.f 218, .t 94]⟩,
    ⟨2, some 93, none, .p .mov, [.t 95]⟩,
    ⟨3, some 96, none, .p (.extract 0), [.t 93]⟩,
    ⟨4, some 97, none, .p (.extract 1), [.t 93]⟩,
    ⟨5, some 16, none, .p .mov, [.t 96]⟩,
    ⟨6, some 17, none, .p .mov, [.t 97]⟩])
   (.seq (.reg 0 [⟨0, some 98, none, .p .mov, [.t 7]⟩,
    ⟨1, some 99, none, .e .call [] [], [.f 216, .t 98]⟩,
    ⟨2, some 100, none, .p (.un .not), [.t 99]⟩,
    ⟨3, some 101, none, .p .mov, [.t 100]⟩,
    ⟨4, some 102, some (101, false), .p .mov, [.t 17]⟩,
    ⟨5, some 103, some (101, false), .p .mov, [.t 102]⟩,
    ⟨6, some 104, some (103, true), .p .mov, [.t 13]⟩,
    ⟨7, some 105, some (103, true), .p (.bin .eql), [.t 104, .c (.int .i64 0)]⟩,
    ⟨8, some 106, some (101, false), .p .pick, [.t 103, .t 105, .c (.bool false)]⟩,
    ⟨9, some 107, none, .p .pick, [.t 101, .c (.bool true), .t 106]⟩,
    ⟨10, some 108, none, .p .mov, [.t 107]⟩,
    ⟨11, some 109, some (108, false), .p .mov, [.t 17]⟩,
    ⟨12, some 110, some (108, false), .p .mov, [.t 109]⟩,
    ⟨13, some 111, some (110, true), .p .mov, [.t 16]⟩,
    ⟨14, some 112, some (110, true), .p .mov, [.t 13]⟩,
    ⟨15, some 113, some (110, true), .p (.bin .neq), [.t 111, .t 112]⟩,
    ⟨16, some 114, some (108, false), .p .pick, [.t 110, .t 113, .c (.bool false)]⟩,
    ⟨17, some 115, none, .p .pick, [.t 108, .c (.bool true), .t 114]⟩])
   (.cond (.t 115) (.seq (.reg 0 [⟨0, some 4, none, .p .mov, [.c (.bool false)]⟩])
   (.ret))
   (.skip))))))
   (.skip)))
   (.seq (.reg 0 [⟨0, some 116, none, .p .mov, [.t 1]⟩,
    ⟨1, some 117, none, .e .call [] [], [.f 230, .t 116]⟩,
    ⟨2, some 18, none, .p .mov, [.t 117]⟩])
   (.seq (.reg 0 [⟨0, some 119, none, .p .mov, [.t 18]⟩,
    ⟨1, some 120, none, .e .call [] [], [.f 218, .t 119]⟩,
    ⟨2, some 118, none, .p .mov, [.t 120]⟩,
    ⟨3, some 121, none, .p (.extract 0), [.t 118]⟩,
    ⟨4, some 122, none, .p (.extract 1), [.t 118]⟩,
    ⟨5, some 19, none, .p .mov, [.t 121]⟩,
    ⟨6, some 20, none, .p .mov, [.t 122]⟩])
   (.seq (.reg 0 [⟨0, some 124, none, .p .mov, [.t 18]⟩,
    ⟨1, some 125, none, .e .call [] [], [.f 231, .t 124]⟩,
    ⟨2, some 123, none, .p .mov, [.t 125]⟩,
    ⟨3, some 126, none, .p (.extract 0), [.t 123]⟩,
    ⟨4, some 127, none, .p (.extract 1), [.t 123]⟩,
    ⟨5, some 21, none, .p .mov, [.t 126]⟩,
    ⟨6, some 22, none, .p .mov, [.t 127]⟩])
   (.seq (.reg 0 [⟨0, some 129, none, .p .mov, [.t 1]⟩,
    ⟨1, some 130, none, .e .call [] [], [.f 232, .t 129]⟩,
    ⟨2, some 128, none, .p .mov, [.t 130]⟩,
    ⟨3, some 131, none, .p (.extract 0), [.t 128]⟩,
    ⟨4, some 132, none, .p (.extract 1), [.t 128]⟩,
    ⟨5, some 24, none, .l (.alloc 24 [.int .i64 0, .int .i64 0, .nils, .nils]), []⟩,
    ⟨6, some 23, none, .p .mov, [.t 131]⟩,
    ⟨7, none, none, .l (.store 24 4), [.t 24, .t 132]⟩])
   (.seq (.reg 0 [⟨0, some 134, none, .p .mov, [.t 23]⟩,
    ⟨1, some 135, none, .l (.load 24 true 4), [.t 24]⟩,
    ⟨2, some 136, none, .e .call [] [], [.f 233, .t 134, .t 135]⟩,
    ⟨3, some 133, none, .p .mov, [.t 136]⟩,
    ⟨4, some 137, none, .p (.extract 0), [.t 133]⟩,
    ⟨5, some 138, none, .p (.extract 1), [.t 133]⟩,
    ⟨6, some 139, none, .p (.extract 2), [.t 133]⟩,
    ⟨7, some 25, none, .p .mov, [.t 137]⟩,
    ⟨8, some 26, none, .p .mov, [.t 138]⟩,
    ⟨9, some 27, none, .p .mov, [.t 139]⟩])
   (.seq (.reg 0 [⟨0, some 141, none, .p .mov, [.t 23]⟩,
    ⟨1, some 142, none, .l (.load 24 true 4), [.t 24]⟩,
    ⟨2, some 143, none, .e .call [] [], [.f 234, .t 141, .t 142]⟩,
    ⟨3, some 140, none, .p .mov, [.t 143]⟩,
    ⟨4, some 144, none, .p (.extract 0), [.t 140]⟩,
    ⟨5, some 145, none, .p (.extract 1), [.t 140]⟩,
    ⟨6, some 146, none, .p (.extract 2), [.t 140]⟩,
    ⟨7, some 28, none, .p .mov, [.t 144]⟩,
    ⟨8, some 29, none, .p .mov, [.t 145]⟩,
    ⟨9, some 30, none, .p .mov, [.t 146]⟩])
   (.seq (.reg 0 [⟨0, some 147, none, .p .mov, [.t 20]⟩,
    ⟨1, some 148, none, .p .mov, [.t 22]⟩,
    ⟨2, some 149, none, .p (.eqB false), [.t 147, .t 148]⟩,
    ⟨3, some 150, none, .p .mov, [.t 149]⟩,
    ⟨4, some 151, some (150, true), .p .mov, [.t 19]⟩,
    ⟨5, some 152, some (150, true), .p .mov, [.t 21]⟩,
    ⟨6, some 153, some (150, true), .p (.bin .eql), [.t 151, .t 152]⟩,
    ⟨7, some 154, none, .p .pick, [.t 150, .t 153, .c (.bool false)]⟩,
    ⟨8, some 155, none, .p .mov, [.t 154]⟩,
    ⟨9, some 156, some (155, true), .p .mov, [.t 27]⟩,
    ⟨10, some 157, some (155, true), .p .mov, [.t 30]⟩,
    ⟨11, some 158, some (155, true), .p (.eqB false), [.t 156, .t 157]⟩,
    ⟨12, some 159, none, .p .pick, [.t 155, .t 158, .c (.bool false)]⟩,
    ⟨13, some 160, none, .p .mov, [.t 159]⟩,
    ⟨14, some 161, some (160, true), .p .mov, [.t 26]⟩,
    ⟨15, some 162, some (160, true), .p .mov, [.t 29]⟩,
    ⟨16, some 163, some (160, true), .p (.bin .eql), [.t 161, .t 162]⟩,
    ⟨17, some 164, none, .p .pick, [.t 160, .t 163, .c (.bool false)]⟩,
    ⟨18, some 165, none, .p .mov, [.t 164]⟩,
    ⟨19, some 166, some (165, true), .p .mov, [.t 25]⟩,
    ⟨20, some 167, some (165, true), .p .mov, [.t 28]⟩,
    ⟨21, some 168, some (165, true), .e .call [] [], [.f 215, .t 166, .t 167]⟩,
    ⟨22, some 169, none, .p .pick, [.t 165, .t 168, .c (.bool false)]⟩,
    ⟨23, some 4, none, .p .mov, [.t 169]⟩])
   (.ret)))))))))))))),
  [.tmp 4]⟩
/- loop.example/g00641/laws.samePlaces -/
def g215_0 : GL.Code := .seq (.reg 0 [⟨0, some 14, none, .p (.bin .lss), [.t 13, .t 12]⟩])
   (.seq (.cond (.t 14) (.skip)
   (.exit 0))
   (.seq (.block 1 (.seq (.reg 0 [⟨0, some 15, none, .p .mov, [.t 13]⟩,
    ⟨1, some 5, none, .p .mov, [.t 15]⟩])
   (.seq (.reg 0 [⟨0, some 16, none, .p .mov, [.t 0]⟩,
    ⟨1, some 17, none, .p .mov, [.t 5]⟩,
    ⟨2, some 18, none, .p (.idx 3), [.t 16, .t 17]⟩,
    ⟨3, some 19, none, .r (.load true 3) false, [.t 18]⟩,
    ⟨4, some 20, none, .p .mov, [.t 1]⟩,
    ⟨5, some 21, none, .p .mov, [.t 5]⟩,
    ⟨6, some 22, none, .p (.idx 3), [.t 20, .t 21]⟩,
    ⟨7, some 23, none, .r (.load true 3) false, [.t 22]⟩,
    ⟨8, some 24, none, .p (.eqAgg true [some .i64, some .i64, some .i64]), [.t 19, .t 23]⟩])
   (.cond (.t 24) (.seq (.reg 0 [⟨0, some 4, none, .p .mov, [.c (.bool false)]⟩])
   (.ret))
   (.skip)))))
   (.reg 0 [⟨0, some 25, none, .p (.bin .add), [.t 13, .c (.int .i64 1)]⟩,
    ⟨1, some 13, none, .p .mov, [.t 25]⟩])))
def g215 : GL.Fn := ⟨.seq (.reg 0 [⟨0, some 4, none, .p .mov, [.c (.bool false)]⟩])
   (.seq (.seq (.reg 0 [⟨0, some 6, none, .p .mov, [.t 0]⟩,
    ⟨1, some 7, none, .p .len, [.t 6]⟩,
    ⟨2, some 8, none, .p .mov, [.t 1]⟩,
    ⟨3, some 9, none, .p .len, [.t 8]⟩,
    ⟨4, some 10, none, .p (.bin .neq), [.t 7, .t 9]⟩])
   (.cond (.t 10) (.seq (.reg 0 [⟨0, some 4, none, .p .mov, [.c (.bool false)]⟩])
   (.ret))
   (.skip)))
   (.seq (.seq (.reg 0 [⟨0, some 11, none, .p .mov, [.t 0]⟩,
    ⟨1, some 12, none, .p .len, [.t 11]⟩,
    ⟨2, some 13, none, .p .mov, [.c (.int .i64 0)]⟩])
   (.block 0 (.loop g215_0)))
   (.seq (.reg 0 [⟨0, some 4, none, .p .mov, [.c (.bool true)]⟩])
   (.ret)))),
  [.tmp 4]⟩
/- loop.example/g00641/impl.GoodPlaces -/
def g216 : GL.Fn := ⟨.seq (.reg 0 [⟨0, some 2, none, .p .mov, [.c (.bool false)]⟩])
   (.seq (.reg 0 [⟨0, some 3, none, .p .mov, [.t 0]⟩,
    ⟨1, some 4, none, .p .len, [.t 3]⟩,
    ⟨2, some 5, none, .e .call [] [], [.f 318, .t 4]⟩,
    ⟨3, some 6, none, .p .mov, [.t 5]⟩,
    ⟨4, some 7, some (6, true), .p .mov, [.t 0]⟩,
    ⟨5, some 8, some (6, true), .e .call [] [], [.f 319, .t 7, .f 320]⟩,
    ⟨6, some 9, some (6, true), .p (.un .not), [.t 8]⟩,
    ⟨7, some 10, none, .p .pick, [.t 6, .t 9, .c (.bool false)]⟩,
    ⟨8, some 2, none, .p .mov, [.t 10]⟩])
   (.ret)),
  [.tmp 2]⟩
/- loop.example/g00641/spec.GoodPlaces -/
def g217_0 : GL.Code := .seq (.reg 0 [⟨0, some 8, none, .p (.bin .lss), [.t 7, .t 6]⟩])
   (.seq (.cond (.t 8) (.skip)
   (.exit 0))
   (.seq (.block 1 (.seq (.reg 0 [⟨0, some 9, none, .p (.idx 3), [.t 5, .t 7]⟩,
    ⟨1, some 10, none, .r (.load true 3) false, [.t 9]⟩,
    ⟨2, some 4, none, .l (.alloc 4 [.int .i64 0, .int .i64 0, .int .i64 0]), []⟩,
    ⟨3, none, none, .l (.store 4 3), [.t 4, .t 10]⟩])
   (.seq (.reg 0 [⟨0, some 11, none, .p (.faddr 0), [.t 4]⟩,
    ⟨1, some 12, none, .l (.load 4 false 1), [.t 11]⟩,
    ⟨2, some 13, none, .e .call [] [], [.f 98, .t 12, .c (.int .i64 0), .c (.int .i64 40)]⟩,
    ⟨3, some 14, none, .p (.un .not), [.t 13]⟩,
    ⟨4, some 15, none, .p .mov, [.t 14]⟩,
    ⟨5, some 16, some (15, false), .p (.faddr 1), [.t 4]⟩,
    ⟨6, some 17, some (15, false), .l (.load 4 false 1), [.t 16]⟩,
    ⟨7, some 18, some (15, false), .p (.faddr 0), [.t 4]⟩,
    ⟨8, some 19, some (15, false), .l (.load 4 false 1), [.t 18]⟩,
    ⟨9, some 20, some (15, false), .e .call [] [], [.f 98, .t 17, .c (.int .i64 0), .t 19]⟩,
    ⟨10, some 21, some (15, false), .p (.un .not), [.t 20]⟩,
    ⟨11, some 22, none, .p .pick, [.t 15, .c (.bool true), .t 21]⟩,
    ⟨12, some 23, none, .p .mov, [.t 22]⟩,
    ⟨13, some 24, some (23, false), .p (.faddr 1), [.t 4]⟩,
    ⟨14, some 25, some (23, false), .l (.load 4 false 1), [.t 24]⟩,
    ⟨15, some 26, some (23, false), .p (.bin .eql), [.t 25, .c (.int .i64 0)]⟩,
    ⟨16, some 27, some (23, false), .p (.faddr 2), [.t 4]⟩,
    ⟨17, some 28, some (23, false), .l (.load 4 false 1), [.t 27]⟩,
    ⟨18, some 29, some (23, false), .p (.bin .eql), [.t 28, .c (.int .i64 0)]⟩,
    ⟨19, some 30, some (23, false), .p (.eqB true), [.t 26, .t 29]⟩,
    ⟨20, some 31, none, .p .pick, [.t 23, .c (.bool true), .t 30]⟩,
    ⟨21, some 32, none, .p .mov, [.t 31]⟩,
    ⟨22, some 33, some (32, false), .p (.faddr 2), [.t 4]⟩,
    ⟨23, some 34, some (32, false), .l (.load 4 false 1), [.t 33]⟩,
    ⟨24, some 35, some (32, false), .e .call [] [], [.f 98, .t 34, .c (.int .i64 0), .c (.int .i64 99)]⟩,
    ⟨25, some 36, some (32, false), .p (.un .not), [.t 35]⟩,
    ⟨26, some 37, none, .p .pick, [.t 32, .c (.bool true), .t 36]⟩])
   (.cond (.t 37) (.seq (.reg 0 [⟨0, some 2, none, .p .mov, [.c (.bool false)]⟩])
   (.ret))
   (.skip)))))
   (.reg 0 [⟨0, some 38, none, .p (.bin .add), [.t 7, .c (.int .i64 1)]⟩,
    ⟨1, some 7, none, .p .mov, [.t 38]⟩])))
def g217 : GL.Fn := ⟨.seq (.reg 0 [⟨0, some 2, none, .p .mov, [.c (.bool false)]⟩])
   (.seq (.seq (.reg 0 [⟨0, some 5, none, .p .mov, [.t 0]⟩,
    ⟨1, some 6, none, .p .len, [.t 5]⟩,
    ⟨2, some 7, none, .p .mov, [.c (.int .i64 0)]⟩])
   (.block 0 (.loop g217_0)))
   (.seq (.reg 0 [⟨0, some 39, none, .p .mov, [.t 0]⟩,
    ⟨1, some 40, none, .p .len, [.t 39]⟩,
    ⟨2, some 41, none, .e .call [] [], [.f 321, .t 40]⟩,
    ⟨3, some 2, none, .p .mov, [.t 41]⟩])
   (.ret))),
  [.tmp 2]⟩
/- loop.example/g00641/impl.ChosenIn -/
def g218_0 : GL.Code := .seq (.reg 0 [⟨0, some 21, none, .p (.bin .lss), [.t 20, .t 19]⟩])
   (.seq (.cond (.t 21) (.skip)
   (.exit 2))
   (.seq (.block 3 (.seq (.reg 0 [⟨0, some 22, none, .p (.idx 3), [.t 18, .t 20]⟩,
    ⟨1, some 23, none, .r (.load true 3) false, [.t 22]⟩,
    ⟨2, some 8, none, .l (.alloc 8 [.int .i64 0, .int .i64 0, .int .i64 0]), []⟩,
    ⟨3, none, none, .l (.store 8 3), [.t 8, .t 23]⟩])
   (.seq (.reg 0 [⟨0, some 24, none, .p (.faddr 1), [.t 5]⟩,
    ⟨1, some 25, none, .l (.load 5 false 1), [.t 24]⟩,
    ⟨2, some 26, none, .p (.bin .gtr), [.t 25, .c (.int .i64 0)]⟩,
    ⟨3, some 27, none, .p .mov, [.t 26]⟩,
    ⟨4, some 28, some (27, true), .p (.faddr 1), [.t 8]⟩,
    ⟨5, some 29, some (27, true), .l (.load 8 false 1), [.t 28]⟩,
    ⟨6, some 30, some (27, true), .p (.faddr 1), [.t 5]⟩,
    ⟨7, some 31, some (27, true), .l (.load 5 false 1), [.t 30]⟩,
    ⟨8, some 32, some (27, true), .p (.bin .eql), [.t 29, .t 31]⟩,
    ⟨9, some 33, none, .p .pick, [.t 27, .t 32, .c (.bool false)]⟩,
    ⟨10, some 34, none, .p .mov, [.t 33]⟩,
    ⟨11, some 35, some (34, true), .p (.faddr 2), [.t 8]⟩,
    ⟨12, some 36, some (34, true), .l (.load 8 false 1), [.t 35]⟩,
    ⟨13, some 37, some (34, true), .p (.faddr 2), [.t 5]⟩,
    ⟨14, some 38, some (34, true), .l (.load 5 false 1), [.t 37]⟩,
    ⟨15, some 39, some (34, true), .p (.bin .eql), [.t 36, .t 38]⟩,
    ⟨16, some 40, none, .p .pick, [.t 34, .t 39, .c (.bool false)]⟩])
   (.cond (.t 40) (.reg 0 [⟨0, some 41, none, .p .mov, [.t 6]⟩,
    ⟨1, some 42, none, .p (.bin .add), [.t 41, .c (.int .i64 1)]⟩,
    ⟨2, some 6, none, .p .mov, [.t 42]⟩])
   (.skip)))))
   (.reg 0 [⟨0, some 43, none, .p (.bin .add), [.t 20, .c (.int .i64 1)]⟩,
    ⟨1, some 20, none, .p .mov, [.t 43]⟩])))
def g218_1 : GL.Code := .seq (.reg 0 [⟨0, some 15, none, .p (.bin .lss), [.t 14, .t 13]⟩])
   (.seq (.cond (.t 15) (.skip)
   (.exit 0))
   (.seq (.block 1 (.seq (.reg 0 [⟨0, some 16, none, .p (.idx 3), [.t 12, .t 14]⟩,
    ⟨1, some 17, none, .r (.load true 3) false, [.t 16]⟩,
    ⟨2, some 5, none, .l (.alloc 5 [.int .i64 0, .int .i64 0, .int .i64 0]), []⟩,
    ⟨3, none, none, .l (.store 5 3), [.t 5, .t 17]⟩])
   (.seq (.reg 0 [⟨0, some 6, none, .p .mov, [.c (.int .i64 0)]⟩])
   (.seq (.seq (.reg 0 [⟨0, some 18, none, .p .mov, [.t 0]⟩,
    ⟨1, some 19, none, .p .len, [.t 18]⟩,
    ⟨2, some 20, none, .p .mov, [.c (.int .i64 0)]⟩])
   (.block 2 (.loop g218_0)))
   (.seq (.reg 0 [⟨0, some 44, none, .p .mov, [.t 6]⟩,
    ⟨1, some 45, none, .p .mov, [.t 0]⟩,
    ⟨2, some 46, none, .p .len, [.t 45]⟩,
    ⟨3, some 47, none, .e .call [] [], [.f 322, .t 46]⟩,
    ⟨4, some 48, none, .p (.bin .geq), [.t 44, .t 47]⟩])
   (.cond (.t 48) (.seq (.reg 0 [⟨0, some 49, none, .p (.faddr 2), [.t 5]⟩,
    ⟨1, some 50, none, .l (.load 5 false 1), [.t 49]⟩,
    ⟨2, some 2, none, .p .mov, [.t 50]⟩,
    ⟨3, some 3, none, .p .mov, [.c (.bool true)]⟩])
   (.ret))
   (.skip)))))))
   (.reg 0 [⟨0, some 51, none, .p (.bin .add), [.t 14, .c (.int .i64 1)]⟩,
    ⟨1, some 14, none, .p .mov, [.t 51]⟩])))
def g218 : GL.Fn := ⟨.seq (.reg 0 [⟨0, some 2, none, .p .mov, [.c (.int .i64 0)]⟩,
    ⟨1, some 3, none, .p .mov, [.c (.bool false)]⟩])
   (.seq (.seq (.reg 0 [⟨0, some 9, none, .p .mov, [.t 0]⟩,
    ⟨1, some 10, none, .e .call [] [], [.f 216, .t 9]⟩,
    ⟨2, some 11, none, .p (.un .not), [.t 10]⟩])
   (.cond (.t 11) (.seq (.reg 0 [⟨0, some 2, none, .p .mov, [.c (.int .i64 0)]⟩,
    ⟨1, some 3, none, .p .mov, [.c (.bool false)]⟩])
   (.ret))
   (.skip)))
   (.seq (.seq (.reg 0 [⟨0, some 12, none, .p .mov, [.t 0]⟩,
    ⟨1, some 13, none, .p .len, [.t 12]⟩,
    ⟨2, some 14, none, .p .mov, [.c (.int .i64 0)]⟩])
   (.block 0 (.loop g218_1)))
   (.seq (.reg 0 [⟨0, some 2, none, .p .mov, [.c (.int .i64 0)]⟩,
    ⟨1, some 3, none, .p .mov, [.c (.bool false)]⟩])
   (.ret)))),
  [.tmp 2, .tmp 3]⟩
/- loop.example/g00641/impl.NewPlaces -/
def g224 : GL.Fn := ⟨.seq (.reg 0 [⟨0, some 2, none, .p .mov, [.c (.nils)]⟩,
    ⟨1, some 3, none, .p .mov, [.c (.bool false)]⟩])
   (.seq (.seq (.reg 0 [⟨0, some 4, none, .p .mov, [.t 0]⟩,
    ⟨1, some 5, none, .e .call [] [], [.f 318, .t 4]⟩,
    ⟨2, some 6, none, .p (.un .not), [.t 5]⟩])
   (.cond (.t 6) (.seq (.reg 0 [⟨0, some 2, none, .p .mov, [.c (.nils)]⟩,
    ⟨1, some 3, none, .p .mov, [.c (.bool false)]⟩])
   (.ret))
   (.skip)))
   (.seq (.reg 0 [⟨0, some 7, none, .p .mov, [.t 0]⟩,
    ⟨1, some 8, none, .e (.new (.make 3 24 [.int .i64 0, .int .i64 0, .int .i64 0])) [] [], [.t 7, .t 7]⟩,
    ⟨2, some 2, none, .p .mov, [.t 8]⟩,
    ⟨3, some 3, none, .p .mov, [.c (.bool true)]⟩])
   (.ret))),
  [.tmp 2, .tmp 3]⟩
/- loop.example/g00641/spec.NewPlaces -/
def g225 : GL.Fn := ⟨.seq (.reg 0 [⟨0, some 2, none, .p .mov, [.c (.nils)]⟩,
    ⟨1, some 3, none, .p .mov, [.c (.bool false)]⟩])
   (.seq (.seq (.reg 0 [⟨0, some 4, none, .p .mov, [.t 0]⟩,
    ⟨1, some 5, none, .e .call [] [], [.f 321, .t 4]⟩,
    ⟨2, some 6, none, .p (.un .not), [.t 5]⟩])
   (.cond (.t 6) (.seq (.reg 0 [⟨0, some 2, none, .p .mov, [.c (.nils)]⟩,
    ⟨1, some 3, none, .p .mov, [.c (.bool false)]⟩])
   (.ret))
   (.skip)))
   (.seq (.reg 0 [⟨0, some 7, none, .p .mov, [.t 0]⟩,
    ⟨1, some 8, none, .e (.new (.make 3 24 [.int .i64 0, .int .i64 0, .int .i64 0])) [] [], [.t 7, .t 7]⟩,
    ⟨2, some 2, none, .p .mov, [.t 8]⟩,
    ⟨3, some 3, none, .p .mov, [.c (.bool true)]⟩])
   (.ret))),
  [.tmp 2, .tmp 3]⟩
/- loop.example/g00641/laws.sameInts -/
def g24_0 : GL.Code := .seq (.reg 0 [⟨0, some 14, none, .p (.bin .lss), [.t 13, .t 12]⟩])
   (.seq (.cond (.t 14) (.skip)
   (.exit 0))
   (.seq (.block 1 (.seq (.reg 0 [⟨0, some 15, none, .p .mov, [.t 13]⟩,
    ⟨1, some 5, none, .p .mov, [.t 15]⟩])
   (.seq (.reg 0 [⟨0, some 16, none, .p .mov, [.t 0]⟩,
    ⟨1, some 17, none, .p .mov, [.t 5]⟩,
    ⟨2, some 18, none, .p (.idx 1), [.t 16, .t 17]⟩,
    ⟨3, some 19, none, .r (.load false 1) false, [.t 18]⟩,
    ⟨4, some 20, none, .p .mov, [.t 1]⟩,
    ⟨5, some 21, none, .p .mov, [.t 5]⟩,
    ⟨6, some 22, none, .p (.idx 1), [.t 20, .t 21]⟩,
    ⟨7, some 23, none, .r (.load false 1) false, [.t 22]⟩,
    ⟨8, some 24, none, .p (.bin .neq), [.t 19, .t 23]⟩])
   (.cond (.t 24) (.seq (.reg 0 [⟨0, some 4, none, .p .mov, [.c (.bool false)]⟩])
   (.ret))
   (.skip)))))
   (.reg 0 [⟨0, some 25, none, .p (.bin .add), [.t 13, .c (.int .i64 1)]⟩,
    ⟨1, some 13, none, .p .mov, [.t 25]⟩])))
def g24 : GL.Fn := ⟨.seq (.reg 0 [⟨0, some 4, none, .p .mov, [.c (.bool false)]⟩])
   (.seq (.seq (.reg 0 [⟨0, some 6, none, .p .mov, [.t 0]⟩,
    ⟨1, some 7, none, .p .len, [.t 6]⟩,
    ⟨2, some 8, none, .p .mov, [.t 1]⟩,
    ⟨3, some 9, none, .p .len, [.t 8]⟩,
    ⟨4, some 10, none, .p (.bin .neq), [.t 7, .t 9]⟩])
   (.cond (.t 10) (.seq (.reg 0 [⟨0, some 4, none, .p .mov, [.c (.bool false)]⟩])
   (.ret))
   (.skip)))
   (.seq (.seq (.reg 0 [⟨0, some 11, none, .p .mov, [.t 0]⟩,
    ⟨1, some 12, none, .p .len, [.t 11]⟩,
    ⟨2, some 13, none, .p .mov, [.c (.int .i64 0)]⟩])
   (.block 0 (.loop g24_0)))
   (.seq (.reg 0 [⟨0, some 4, none, .p .mov, [.c (.bool true)]⟩])
   (.ret)))),
  [.tmp 4]⟩
/- loop.example/g00641/spec.DrawRunBallots -/
def g227 : GL.Fn := ⟨.seq (.reg 0 [⟨0, some 2, none, .p .mov, [.c (.int .i64 0)]⟩,
    ⟨1, some 3, none, .p .mov, [.c (.nils)]⟩])
   (.seq (.reg 0 [⟨0, some 6, none, .p .mov, [.t 0]⟩,
    ⟨1, some 7, none, .p (.build [.nils, .int .i64 0, .int .u64 0] [(0, 1)]), [.t 6]⟩,
    ⟨2, some 8, none, .e (.new (.box 3)) [] [], [.t 7]⟩,
    ⟨3, some 4, none, .p .mov, [.t 8]⟩])
   (.seq (.reg 0 [⟨0, some 9, none, .p .mov, [.t 4]⟩,
    ⟨1, some 10, none, .e .call [] [], [.f 326, .t 9]⟩,
    ⟨2, some 5, none, .p .mov, [.t 10]⟩])
   (.seq (.reg 0 [⟨0, some 11, none, .p .mov, [.t 5]⟩,
    ⟨1, some 12, none, .p .mov, [.t 4]⟩,
    ⟨2, some 13, none, .p .mov, [.t 5]⟩,
    ⟨3, some 14, none, .e .call [] [], [.f 327, .t 12, .t 13]⟩,
    ⟨4, some 2, none, .p .mov, [.t 11]⟩,
    ⟨5, some 3, none, .p .mov, [.t 14]⟩])
   (.ret)))),
  [.tmp 2, .tmp 3]⟩
/- loop.example/g00641/impl.RunBallots -/
def g228_0 : GL.Code := .seq (.reg 0 [⟨0, some 29, none, .p (.bin .lss), [.t 28, .t 27]⟩])
   (.seq (.cond (.t 29) (.skip)
   (.exit 0))
   (.seq (.block 1 (.seq (.reg 0 [⟨0, some 30, none, .p .mov, [.t 28]⟩,
    ⟨1, some 31, none, .p (.idx 4), [.t 26, .t 28]⟩,
    ⟨2, some 32, none, .r (.load true 4) false, [.t 31]⟩,
    ⟨3, some 11, none, .l (.alloc 11 [.int .i64 0, .int .i64 0, .nils, .nils]), []⟩,
    ⟨4, some 10, none, .p .mov, [.t 30]⟩,
    ⟨5, none, none, .l (.store 11 4), [.t 11, .t 32]⟩])
   (.seq (.seq (.reg 0 [⟨0, some 33, none, .l (.load 11 true 4), [.t 11]⟩,
    ⟨1, some 34, none, .p .mov, [.t 0]⟩,
    ⟨2, some 35, none, .e .call [] [], [.f 328, .t 33, .t 34]⟩,
    ⟨3, some 36, none, .p (.un .not), [.t 35]⟩,
    ⟨4, some 37, none, .p .mov, [.t 36]⟩,
    ⟨5, some 38, some (37, false), .p .mov, [.t 10]⟩,
    ⟨6, some 39, some (37, false), .p (.bin .gtr), [.t 38, .c (.int .i64 0)]⟩,
    ⟨7, some 40, some (37, false), .p .mov, [.t 39]⟩,
    ⟨8, some 41, some (40, true), .p .mov, [.t 1]⟩,
    ⟨9, some 42, some (40, true), .p .mov, [.t 10]⟩,
    ⟨10, some 43, some (40, true), .p (.bin .sub), [.t 42, .c (.int .i64 1)]⟩,
    ⟨11, some 44, some (40, true), .p (.idx 4), [.t 41, .t 43]⟩,
    ⟨12, some 45, some (40, true), .p (.faddr 0), [.t 44]⟩,
    ⟨13, some 46, some (40, true), .r (.load false 1) false, [.t 45]⟩,
    ⟨14, some 47, some (40, true), .p (.faddr 0), [.t 11]⟩,
    ⟨15, some 48, some (40, true), .l (.load 11 false 1), [.t 47]⟩,
    ⟨16, some 49, some (40, true), .p (.bin .geq), [.t 46, .t 48]⟩,
    ⟨17, some 50, some (37, false), .p .pick, [.t 40, .t 49, .c (.bool false)]⟩,
    ⟨18, some 51, none, .p .pick, [.t 37, .c (.bool true), .t 50]⟩])
   (.cond (.t 51) (.seq (.reg 0 [⟨0, some 4, none, .p .mov, [.c (.nils)]⟩,
    ⟨1, some 5, none, .p .mov, [.c (.nils)]⟩,
    ⟨2, some 6, none, .p .mov, [.c (.bool false)]⟩])
   (.ret))
   (.skip)))
   (.seq (.reg 0 [⟨0, some 12, none, .p .mov, [.c (.int .i64 0)]⟩])
   (.seq (.reg 0 [⟨0, some 53, none, .p .mov, [.t 7]⟩,
    ⟨1, some 54, none, .l (.load 11 true 4), [.t 11]⟩,
    ⟨2, some 55, none, .e .call [] [], [.f 329, .t 53, .t 54]⟩,
    ⟨3, some 52, none, .p .mov, [.t 55]⟩,
    ⟨4, some 56, none, .p (.extract 0), [.t 52]⟩,
    ⟨5, some 57, none, .p (.extract 1), [.t 52]⟩,
    ⟨6, some 7, none, .p .mov, [.t 56]⟩,
    ⟨7, some 12, none, .p .mov, [.t 57]⟩])
   (.reg 0 [⟨0, some 58, none, .p .mov, [.t 9]⟩,
    ⟨1, some 59, none, .p .mov, [.t 12]⟩,
    ⟨2, some 60, none, .e (.new (.lit 1)) [] [], [.t 59]⟩,
    ⟨3, some 61, none, .e (.append 1 8) [] [], [.t 58, .t 60]⟩,
    ⟨4, some 9, none, .p .mov, [.t 61]⟩]))))))
   (.reg 0 [⟨0, some 62, none, .p (.bin .add), [.t 28, .c (.int .i64 1)]⟩,
    ⟨1, some 28, none, .p .mov, [.t 62]⟩])))
def g228 : GL.Fn := ⟨.seq (.reg 0 [⟨0, some 4, none, .p .mov, [.c (.nils)]⟩,
    ⟨1, some 5, none, .p .mov, [.c (.nils)]⟩,
    ⟨2, some 6, none, .p .mov, [.c (.bool false)]⟩])
   (.seq (.reg 0 [⟨0, some 14, none, .p .mov, [.t 0]⟩,
    ⟨1, some 15, none, .e .call [] [], [.f 224, .t 14]⟩,
    ⟨2, some 13, none, .p .mov, [.t 15]⟩,
    ⟨3, some 16, none, .p (.extract 0), [.t 13]⟩,
    ⟨4, some 17, none, .p (.extract 1), [.t 13]⟩,
    ⟨5, some 7, none, .p .mov, [.t 16]⟩,
    ⟨6, some 8, none, .p .mov, [.t 17]⟩])
   (.seq (.seq (.reg 0 [⟨0, some 18, none, .p .mov, [.t 8]⟩,
    ⟨1, some 19, none, .p (.un .not), [.t 18]⟩,
    ⟨2, some 20, none, .p .mov, [.t 19]⟩,
    ⟨3, some 21, some (20, false), .p .mov, [.t 1]⟩,
    ⟨4, some 22, some (20, false), .p .len, [.t 21]⟩,
    ⟨5, some 23, some (20, false), .p (.bin .gtr), [.t 22, .c (.int .i64 40)]⟩,
    ⟨6, some 24, none, .p .pick, [.t 20, .c (.bool true), .t 23]⟩])
   (.cond (.t 24) (.seq (.reg 0 [⟨0, some 4, none, .p .mov, [.c (.nils)]⟩,
    ⟨1, some 5, none, .p .mov, [.c (.nils)]⟩,
    ⟨2, some 6, none, .p .mov, [.c (.bool false)]⟩])
   (.ret))
   (.skip)))
   (.seq (.reg 0 [⟨0, some 25, none, .e (.new (.lit 1)) [] [], []⟩,
    ⟨1, some 9, none, .p .mov, [.t 25]⟩])
   (.seq (.seq (.reg 0 [⟨0, some 26, none, .p .mov, [.t 1]⟩,
    ⟨1, some 27, none, .p .len, [.t 26]⟩,
    ⟨2, some 28, none, .p .mov, [.c (.int .i64 0)]⟩])
   (.block 0 (.loop g228_0)))
   (.seq (.reg 0 [⟨0, some 63, none, .p .mov, [.t 7]⟩,
    ⟨1, some 64, none, .p .mov, [.t 9]⟩,
    ⟨2, some 4, none, .p .mov, [.t 63]⟩,
    ⟨3, some 5, none, .p .mov, [.t 64]⟩,
    ⟨4, some 6, none, .p .mov, [.c (.bool true)]⟩])
   (.ret)))))),
  [.tmp 4, .tmp 5, .tmp 6]⟩
/- loop.example/g00641/spec.RunBallots -/
def g229_0 : GL.Code := .seq (.reg 0 [⟨0, some 29, none, .p (.bin .lss), [.t 28, .t 27]⟩])
   (.seq (.cond (.t 29) (.skip)
   (.exit 0))
   (.seq (.block 1 (.seq (.reg 0 [⟨0, some 30, none, .p .mov, [.t 28]⟩,
    ⟨1, some 31, none, .p (.idx 4), [.t 26, .t 28]⟩,
    ⟨2, some 32, none, .r (.load true 4) false, [.t 31]⟩,
    ⟨3, some 10, none, .l (.alloc 10 [.int .i64 0, .int .i64 0, .nils, .nils]), []⟩,
    ⟨4, some 9, none, .p .mov, [.t 30]⟩,
    ⟨5, none, none, .l (.store 10 4), [.t 10, .t 32]⟩])
   (.seq (.reg 0 [⟨0, some 33, none, .p .mov, [.t 0]⟩,
    ⟨1, some 34, none, .l (.load 10 true 4), [.t 10]⟩,
    ⟨2, some 35, none, .e .call [] [], [.f 330, .t 33, .t 34]⟩,
    ⟨3, some 36, none, .p (.un .not), [.t 35]⟩,
    ⟨4, some 37, none, .p .mov, [.t 36]⟩,
    ⟨5, some 38, some (37, false), .p .mov, [.t 9]⟩,
    ⟨6, some 39, some (37, false), .p (.bin .gtr), [.t 38, .c (.int .i64 0)]⟩,
    ⟨7, some 40, some (37, false), .p .mov, [.t 39]⟩,
    ⟨8, some 41, some (40, true), .p .mov, [.t 1]⟩,
    ⟨9, some 42, some (40, true), .p .mov, [.t 9]⟩,
    ⟨10, some 43, some (40, true), .p (.bin .sub), [.t 42, .c (.int .i64 1)]⟩,
    ⟨11, some 44, some (40, true), .p (.idx 4), [.t 41, .t 43]⟩,
    ⟨12, some 45, some (40, true), .p (.faddr 0), [.t 44]⟩,
    ⟨13, some 46, some (40, true), .r (.load false 1) false, [.t 45]⟩,
    ⟨14, some 47, some (40, true), .p (.faddr 0), [.t 10]⟩,
    ⟨15, some 48, some (40, true), .l (.load 10 false 1), [.t 47]⟩,
    ⟨16, some 49, some (40, true), .p (.bin .geq), [.t 46, .t 48]⟩,
    ⟨17, some 50, some (37, false), .p .pick, [.t 40, .t 49, .c (.bool false)]⟩,
    ⟨18, some 51, none, .p .pick, [.t 37, .c (.bool true), .t 50]⟩])
   (.cond (.t 51) (.seq (.reg 0 [⟨0, some 4, none, .p .mov, [.c (.nils)]⟩,
    ⟨1, some 5, none, .p .mov, [.c (.nils)]⟩,
    ⟨2, some 6, none, .p .mov, [.c (.bool false)]⟩])
   (.ret))
   (.skip)))))
   (.reg 0 [⟨0, some 52, none, .p (.bin .add), [.t 28, .c (.int .i64 1)]⟩,
    ⟨1, some 28, none, .p .mov, [.t 52]⟩])))
def g229_1 : GL.Code := .seq (.reg 0 [⟨0, some 56, none, .p (.bin .lss), [.t 55, .t 54]⟩])
   (.seq (.cond (.t 56) (.skip)
   (.exit 2))
   (.seq (.block 3 (.seq (.reg 0 [⟨0, some 57, none, .p (.idx 4), [.t 53, .t 55]⟩,
    ⟨1, some 58, none, .r (.load true 4) false, [.t 57]⟩,
    ⟨2, some 13, none, .l (.alloc 13 [.int .i64 0, .int .i64 0, .nils, .nils]), []⟩,
    ⟨3, none, none, .l (.store 13 4), [.t 13, .t 58]⟩])
   (.reg 0 [⟨0, some 59, none, .p .mov, [.t 11]⟩,
    ⟨1, some 60, none, .p .mov, [.t 7]⟩,
    ⟨2, some 61, none, .l (.load 13 true 4), [.t 13]⟩,
    ⟨3, some 62, none, .e .call [] [], [.f 331, .t 60, .t 61]⟩,
    ⟨4, some 63, none, .e (.new (.lit 1)) [] [], [.t 62]⟩,
    ⟨5, some 64, none, .e (.append 1 8) [] [], [.t 59, .t 63]⟩,
    ⟨6, some 11, none, .p .mov, [.t 64]⟩])))
   (.reg 0 [⟨0, some 65, none, .p (.bin .add), [.t 55, .c (.int .i64 1)]⟩,
    ⟨1, some 55, none, .p .mov, [.t 65]⟩])))
def g229 : GL.Fn := ⟨.seq (.reg 0 [⟨0, some 4, none, .p .mov, [.c (.nils)]⟩,
    ⟨1, some 5, none, .p .mov, [.c (.nils)]⟩,
    ⟨2, some 6, none, .p .mov, [.c (.bool false)]⟩])
   (.seq (.reg 0 [⟨0, some 15, none, .p .mov, [.t 0]⟩,
    ⟨1, some 16, none, .e .call [] [], [.f 225, .t 15]⟩,
    ⟨2, some 14, none, .p .mov, [.t 16]⟩,
    ⟨3, some 17, none, .p (.extract 0), [.t 14]⟩,
    ⟨4, some 18, none, .p (.extract 1), [.t 14]⟩,
    ⟨5, some 7, none, .p .mov, [.t 17]⟩,
    ⟨6, some 8, none, .p .mov, [.t 18]⟩])
   (.seq (.seq (.reg 0 [⟨0, some 19, none, .p .mov, [.t 8]⟩,
    ⟨1, some 20, none, .p (.un .not), [.t 19]⟩,
    ⟨2, some 21, none, .p .mov, [.t 20]⟩,
    ⟨3, some 22, some (21, false), .p .mov, [.t 1]⟩,
    ⟨4, some 23, some (21, false), .p .len, [.t 22]⟩,
    ⟨5, some 24, some (21, false), .p (.bin .gtr), [.t 23, .c (.int .i64 40)]⟩,
    ⟨6, some 25, none, .p .pick, [.t 21, .c (.bool true), .t 24]⟩])
   (.cond (.t 25) (.seq (.reg 0 [⟨0, some 4, none, .p .mov, [.c (.nils)]⟩,
    ⟨1, some 5, none, .p .mov, [.c (.nils)]⟩,
    ⟨2, some 6, none, .p .mov, [.c (.bool false)]⟩])
   (.ret))
   (.skip)))
   (.seq (.seq (.reg 0 [⟨0, some 26, none, .p .mov, [.t 1]⟩,
    ⟨1, some 27, none, .p .len, [.t 26]⟩,
    ⟨2, some 28, none, .p .mov, [.c (.int .i64 0)]⟩])
   (.block 0 (.loop g229_0)))
   (.seq (.reg 0 [⟨0, some 11, none, .p .mov, [.c (.nils)]⟩])
   (.seq (.seq (.reg 0 [⟨0, some 53, none, .p .mov, [.t 1]⟩,
    ⟨1, some 54, none, .p .len, [.t 53]⟩,
    ⟨2, some 55, none, .p .mov, [.c (.int .i64 0)]⟩])
   (.block 2 (.loop g229_1)))
   (.seq (.reg 0 [⟨0, some 66, none, .p .mov, [.t 7]⟩,
    ⟨1, some 67, none, .p .mov, [.t 11]⟩,
    ⟨2, some 4, none, .p .mov, [.t 66]⟩,
    ⟨3, some 5, none, .p .mov, [.t 67]⟩,
    ⟨4, some 6, none, .p .mov, [.c (.bool true)]⟩])
   (.ret))))))),
  [.tmp 4, .tmp 5, .tmp 6]⟩
/- loop.example/g00641/spec.DrawChosenIn -/
def g230 : GL.Fn := ⟨.seq (.reg 0 [⟨0, some 2, none, .p .mov, [.c (.nils)]⟩])
   (.seq (.reg 0 [⟨0, some 3, none, .p .mov, [.t 0]⟩,
    ⟨1, some 4, none, .e .call [] [], [.f 332, .t 3]⟩,
    ⟨2, some 2, none, .p .mov, [.t 4]⟩])
   (.ret)),
  [.tmp 2]⟩
/- loop.example/g00641/spec.ChosenIn -/
def g231_0 : GL.Code := .seq (.reg 0 [⟨0, some 21, none, .p (.bin .lss), [.t 20, .t 19]⟩])
   (.seq (.cond (.t 21) (.skip)
   (.exit 2))
   (.seq (.block 3 (.seq (.reg 0 [⟨0, some 22, none, .p (.idx 3), [.t 18, .t 20]⟩,
    ⟨1, some 23, none, .r (.load true 3) false, [.t 22]⟩,
    ⟨2, some 8, none, .l (.alloc 8 [.int .i64 0, .int .i64 0, .int .i64 0]), []⟩,
    ⟨3, none, none, .l (.store 8 3), [.t 8, .t 23]⟩])
   (.seq (.reg 0 [⟨0, some 24, none, .p (.faddr 1), [.t 8]⟩,
    ⟨1, some 25, none, .l (.load 8 false 1), [.t 24]⟩,
    ⟨2, some 26, none, .p (.faddr 1), [.t 5]⟩,
    ⟨3, some 27, none, .l (.load 5 false 1), [.t 26]⟩,
    ⟨4, some 28, none, .p (.bin .eql), [.t 25, .t 27]⟩,
    ⟨5, some 29, none, .p .mov, [.t 28]⟩,
    ⟨6, some 30, some (29, true), .p (.faddr 2), [.t 8]⟩,
    ⟨7, some 31, some (29, true), .l (.load 8 false 1), [.t 30]⟩,
    ⟨8, some 32, some (29, true), .p (.faddr 2), [.t 5]⟩,
    ⟨9, some 33, some (29, true), .l (.load 5 false 1), [.t 32]⟩,
    ⟨10, some 34, some (29, true), .p (.bin .eql), [.t 31, .t 33]⟩,
    ⟨11, some 35, none, .p .pick, [.t 29, .t 34, .c (.bool false)]⟩])
   (.cond (.t 35) (.reg 0 [⟨0, some 36, none, .p .mov, [.t 6]⟩,
    ⟨1, some 37, none, .p (.bin .add), [.t 36, .c (.int .i64 1)]⟩,
    ⟨2, some 6, none, .p .mov, [.t 37]⟩])
   (.skip)))))
   (.reg 0 [⟨0, some 38, none, .p (.bin .add), [.t 20, .c (.int .i64 1)]⟩,
    ⟨1, some 20, none, .p .mov, [.t 38]⟩])))
def g231_1 : GL.Code := .seq (.reg 0 [⟨0, some 15, none, .p (.bin .lss), [.t 14, .t 13]⟩])
   (.seq (.cond (.t 15) (.skip)
   (.exit 0))
   (.seq (.block 1 (.seq (.reg 0 [⟨0, some 16, none, .p (.idx 3), [.t 12, .t 14]⟩,
    ⟨1, some 17, none, .r (.load true 3) false, [.t 16]⟩,
    ⟨2, some 5, none, .l (.alloc 5 [.int .i64 0, .int .i64 0, .int .i64 0]), []⟩,
    ⟨3, none, none, .l (.store 5 3), [.t 5, .t 17]⟩])
   (.seq (.reg 0 [⟨0, some 6, none, .p .mov, [.c (.int .i64 0)]⟩])
   (.seq (.seq (.reg 0 [⟨0, some 18, none, .p .mov, [.t 0]⟩,
    ⟨1, some 19, none, .p .len, [.t 18]⟩,
    ⟨2, some 20, none, .p .mov, [.c (.int .i64 0)]⟩])
   (.block 2 (.loop g231_0)))
   (.seq (.reg 0 [⟨0, some 39, none, .p (.faddr 1), [.t 5]⟩,
    ⟨1, some 40, none, .l (.load 5 false 1), [.t 39]⟩,
    ⟨2, some 41, none, .p (.bin .gtr), [.t 40, .c (.int .i64 0)]⟩,
    ⟨3, some 42, none, .p .mov, [.t 41]⟩,
    ⟨4, some 43, some (42, true), .p .mov, [.t 6]⟩,
    ⟨5, some 44, some (42, true), .p .mov, [.t 0]⟩,
    ⟨6, some 45, some (42, true), .p .len, [.t 44]⟩,
    ⟨7, some 46, some (42, true), .e .call [] [], [.f 333, .t 45]⟩,
    ⟨8, some 47, some (42, true), .p (.bin .geq), [.t 43, .t 46]⟩,
    ⟨9, some 48, none, .p .pick, [.t 42, .t 47, .c (.bool false)]⟩])
   (.cond (.t 48) (.seq (.reg 0 [⟨0, some 49, none, .p (.faddr 2), [.t 5]⟩,
    ⟨1, some 50, none, .l (.load 5 false 1), [.t 49]⟩,
    ⟨2, some 2, none, .p .mov, [.t 50]⟩,
    ⟨3, some 3, none, .p .mov, [.c (.bool true)]⟩])
   (.ret))
   (.skip)))))))
   (.reg 0 [⟨0, some 51, none, .p (.bin .add), [.t 14, .c (.int .i64 1)]⟩,
    ⟨1, some 14, none, .p .mov, [.t 51]⟩])))
def g231 : GL.Fn := ⟨.seq (.reg 0 [⟨0, some 2, none, .p .mov, [.c (.int .i64 0)]⟩,
    ⟨1, some 3, none, .p .mov, [.c (.bool false)]⟩])
   (.seq (.seq (.reg 0 [⟨0, some 9, none, .p .mov, [.t 0]⟩,
    ⟨1, some 10, none, .e .call [] [], [.f 217, .t 9]⟩,
    ⟨2, some 11, none, .p (.un .not), [.t 10]⟩])
   (.cond (.t 11) (.seq (.reg 0 [⟨0, some 2, none, .p .mov, [.c (.int .i64 0)]⟩,
    ⟨1, some 3, none, .p .mov, [.c (.bool false)]⟩])
   (.ret))
   (.skip)))
   (.seq (.seq (.reg 0 [⟨0, some 12, none, .p .mov, [.t 0]⟩,
    ⟨1, some 13, none, .p .len, [.t 12]⟩,
    ⟨2, some 14, none, .p .mov, [.c (.int .i64 0)]⟩])
   (.block 0 (.loop g231_1)))
   (.seq (.reg 0 [⟨0, some 2, none, .p .mov, [.c (.int .i64 0)]⟩,
    ⟨1, some 3, none, .p .mov, [.c (.bool false)]⟩])
   (.ret)))),
  [.tmp 2, .tmp 3]⟩
/- loop.example/g00641/spec.DrawRunBallot -/
def g232 : GL.Fn := ⟨.seq (.reg 0 [⟨0, some 2, none, .p .mov, [.c (.nils)]⟩,
    ⟨1, some 3, none, .l (.alloc 3 [.int .i64 0, .int .i64 0, .nils, .nils]), []⟩])
   (.seq (.reg 0 [⟨0, some 6, none, .p .mov, [.t 0]⟩,
    ⟨1, some 7, none, .p (.build [.nils, .int .i64 0, .int .u64 0] [(0, 1)]), [.t 6]⟩,
    ⟨2, some 8, none, .e (.new (.box 3)) [] [], [.t 7]⟩,
    ⟨3, some 4, none, .p .mov, [.t 8]⟩])
   (.seq (.reg 0 [⟨0, some 9, none, .p .mov, [.t 4]⟩,
    ⟨1, some 10, none, .e .call [] [], [.f 311, .t 9]⟩,
    ⟨2, some 5, none, .p .mov, [.t 10]⟩])
   (.seq (.reg 0 [⟨0, some 11, none, .p .mov, [.t 5]⟩,
    ⟨1, some 12, none, .p .mov, [.t 4]⟩,
    ⟨2, some 13, none, .e (.new (.lit 1)) [] [], [.c (.int .i64 0), .c (.int .i64 5), .c (.int .i64 20), .c (.int .i64 40), .c (.int .i64 41)]⟩,
    ⟨3, some 14, none, .e .call [] [], [.f 93, .t 12, .t 13]⟩,
    ⟨4, some 15, none, .p .mov, [.t 4]⟩,
    ⟨5, some 16, none, .e .call [] [], [.f 91, .t 15, .c (.int .i64 9)]⟩,
    ⟨6, some 17, none, .p (.bin .add), [.c (.int .i64 1), .t 16]⟩,
    ⟨7, some 18, none, .p .mov, [.t 4]⟩,
    ⟨8, some 19, none, .p .mov, [.t 5]⟩,
    ⟨9, some 20, none, .p .len, [.t 19]⟩,
    ⟨10, some 21, none, .e .call [] [], [.f 312, .t 18, .t 20]⟩,
    ⟨11, some 22, none, .p .mov, [.t 4]⟩,
    ⟨12, some 23, none, .p .mov, [.t 5]⟩,
    ⟨13, some 24, none, .p .len, [.t 23]⟩,
    ⟨14, some 25, none, .e .call [] [], [.f 312, .t 22, .t 24]⟩,
    ⟨15, some 26, none, .p (.build [.int .i64 0, .int .i64 0, .nils, .nils] [(0, 1), (1, 1), (2, 1), (3, 1)]), [.t 14, .t 17, .t 21, .t 25]⟩,
    ⟨16, some 2, none, .p .mov, [.t 11]⟩,
    ⟨17, none, none, .l (.store 3 4), [.t 3, .t 26]⟩])
   (.ret)))),
  [.tmp 2, .cellL 3 3 true 4]⟩
/- loop.example/g00641/impl.RunBallot -/
def g233 : GL.Fn := ⟨.seq (.reg 0 [⟨0, some 3, none, .l (.box 3 4), [.t 1]⟩,
    ⟨1, some 4, none, .p .mov, [.c (.nils)]⟩,
    ⟨2, some 5, none, .p .mov, [.c (.int .i64 0)]⟩,
    ⟨3, some 6, none, .p .mov, [.c (.bool false)]⟩])
   (.seq (.seq (.reg 0 [⟨0, some 9, none, .p .mov, [.t 0]⟩,
    ⟨1, some 10, none, .e .call [] [], [.f 216, .t 9]⟩,
    ⟨2, some 11, none, .p (.un .not), [.t 10]⟩,
    ⟨3, some 12, none, .p .mov, [.t 11]⟩,
    ⟨4, some 13, some (12, false), .l (.load 3 true 4), [.t 3]⟩,
    ⟨5, some 14, some (12, false), .p .mov, [.t 0]⟩,
    ⟨6, some 15, some (12, false), .p .len, [.t 14]⟩,
    ⟨7, some 16, some (12, false), .e .call [] [], [.f 328, .t 13, .t 15]⟩,
    ⟨8, some 17, some (12, false), .p (.un .not), [.t 16]⟩,
    ⟨9, some 18, none, .p .pick, [.t 12, .c (.bool true), .t 17]⟩])
   (.cond (.t 18) (.seq (.reg 0 [⟨0, some 4, none, .p .mov, [.c (.nils)]⟩,
    ⟨1, some 5, none, .p .mov, [.c (.int .i64 0)]⟩,
    ⟨2, some 6, none, .p .mov, [.c (.bool false)]⟩])
   (.ret))
   (.skip)))
   (.seq (.reg 0 [⟨0, some 20, none, .p .mov, [.t 0]⟩,
    ⟨1, some 21, none, .l (.load 3 true 4), [.t 3]⟩,
    ⟨2, some 22, none, .e .call [] [], [.f 329, .t 20, .t 21]⟩,
    ⟨3, some 19, none, .p .mov, [.t 22]⟩,
    ⟨4, some 23, none, .p (.extract 0), [.t 19]⟩,
    ⟨5, some 24, none, .p (.extract 1), [.t 19]⟩,
    ⟨6, some 7, none, .p .mov, [.t 23]⟩,
    ⟨7, some 8, none, .p .mov, [.t 24]⟩])
   (.seq (.reg 0 [⟨0, some 25, none, .p .mov, [.t 7]⟩,
    ⟨1, some 26, none, .p .mov, [.t 8]⟩,
    ⟨2, some 4, none, .p .mov, [.t 25]⟩,
    ⟨3, some 5, none, .p .mov, [.t 26]⟩,
    ⟨4, some 6, none, .p .mov, [.c (.bool true)]⟩])
   (.ret)))),
  [.tmp 4, .tmp 5, .tmp 6]⟩
/- loop.example/g00641/spec.RunBallot -/
def g234 : GL.Fn := ⟨.seq (.reg 0 [⟨0, some 3, none, .l (.box 3 4), [.t 1]⟩,
    ⟨1, some 4, none, .p .mov, [.c (.nils)]⟩,
    ⟨2, some 5, none, .p .mov, [.c (.int .i64 0)]⟩,
    ⟨3, some 6, none, .p .mov, [.c (.bool false)]⟩])
   (.seq (.seq (.reg 0 [⟨0, some 9, none, .p .mov, [.t 0]⟩,
    ⟨1, some 10, none, .e .call [] [], [.f 217, .t 9]⟩,
    ⟨2, some 11, none, .p (.un .not), [.t 10]⟩,
    ⟨3, some 12, none, .p .mov, [.t 11]⟩,
    ⟨4, some 13, some (12, false), .p .mov, [.t 0]⟩,
    ⟨5, some 14, some (12, false), .p .len, [.t 13]⟩,
    ⟨6, some 15, some (12, false), .l (.load 3 true 4), [.t 3]⟩,
    ⟨7, some 16, some (12, false), .e .call [] [], [.f 330, .t 14, .t 15]⟩,
    ⟨8, some 17, some (12, false), .p (.un .not), [.t 16]⟩,
    ⟨9, some 18, none, .p .pick, [.t 12, .c (.bool true), .t 17]⟩])
   (.cond (.t 18) (.seq (.reg 0 [⟨0, some 4, none, .p .mov, [.c (.nils)]⟩,
    ⟨1, some 5, none, .p .mov, [.c (.int .i64 0)]⟩,
    ⟨2, some 6, none, .p .mov, [.c (.bool false)]⟩])
   (.ret))
   (.skip)))
   (.seq (.reg 0 [⟨0, some 19, none, .e (.new (.lit 3)) [] [], []⟩,
    ⟨1, some 20, none, .p .mov, [.t 0]⟩,
    ⟨2, some 21, none, .e (.append 3 24) [] [], [.t 19, .t 20]⟩,
    ⟨3, some 7, none, .p .mov, [.t 21]⟩])
   (.seq (.reg 0 [⟨0, some 22, none, .p .mov, [.t 7]⟩,
    ⟨1, some 23, none, .l (.load 3 true 4), [.t 3]⟩,
    ⟨2, some 24, none, .e .call [] [], [.f 331, .t 22, .t 23]⟩,
    ⟨3, some 8, none, .p .mov, [.t 24]⟩])
   (.seq (.reg 0 [⟨0, some 25, none, .p .mov, [.t 7]⟩,
    ⟨1, some 26, none, .p .mov, [.t 8]⟩,
    ⟨2, some 4, none, .p .mov, [.t 25]⟩,
    ⟨3, some 5, none, .p .mov, [.t 26]⟩,
    ⟨4, some 6, none, .p .mov, [.c (.bool true)]⟩])
   (.ret))))),
  [.tmp 4, .tmp 5, .tmp 6]⟩
/- loop.example/g00641/impl.within -/
def g107 : GL.Fn := ⟨.seq (.reg 0 [⟨0, some 6, none, .p .mov, [.c (.bool false)]⟩])
   (.seq (.reg 0 [⟨0, some 7, none, .p .mov, [.t 0]⟩,
    ⟨1, some 8, none, .p .mov, [.t 1]⟩,
    ⟨2, some 9, none, .p (.bin .geq), [.t 7, .t 8]⟩,
    ⟨3, some 10, none, .p .mov, [.t 9]⟩,
    ⟨4, some 11, some (10, true), .p .mov, [.t 0]⟩,
    ⟨5, some 12, some (10, true), .p .mov, [.t 2]⟩,
    ⟨6, some 13, some (10, true), .p (.bin .leq), [.t 11, .t 12]⟩,
    ⟨7, some 14, none, .p .pick, [.t 10, .t 13, .c (.bool false)]⟩,
    ⟨8, some 6, none, .p .mov, [.t 14]⟩])
   (.ret)),
  [.tmp 6]⟩
/- loop.example/g00641/spec.l1In -/
def g98 : GL.Fn := ⟨.seq (.reg 0 [⟨0, some 6, none, .p .mov, [.c (.bool false)]⟩])
   (.seq (.reg 0 [⟨0, some 7, none, .p .mov, [.t 0]⟩,
    ⟨1, some 8, none, .p .mov, [.t 1]⟩,
    ⟨2, some 9, none, .p (.bin .geq), [.t 7, .t 8]⟩,
    ⟨3, some 10, none, .p .mov, [.t 9]⟩,
    ⟨4, some 11, some (10, true), .p .mov, [.t 0]⟩,
    ⟨5, some 12, some (10, true), .p .mov, [.t 2]⟩,
    ⟨6, some 13, some (10, true), .p (.bin .leq), [.t 11, .t 12]⟩,
    ⟨7, some 14, none, .p .pick, [.t 10, .t 13, .c (.bool false)]⟩,
    ⟨8, some 6, none, .p .mov, [.t 14]⟩])
   (.ret)),
  [.tmp 6]⟩
/- (*loop.example/g00641/spec.l1Cur).pick -/
def g91 : GL.Fn := ⟨.seq (.reg 0 [⟨0, some 4, none, .p .mov, [.c (.int .i64 0)]⟩])
   (.seq (.seq (.reg 0 [⟨0, some 6, none, .p .mov, [.t 1]⟩,
    ⟨1, some 7, none, .p (.bin .leq), [.t 6, .c (.int .i64 1)]⟩])
   (.cond (.t 7) (.seq (.reg 0 [⟨0, some 4, none, .p .mov, [.c (.int .i64 0)]⟩])
   (.ret))
   (.skip)))
   (.seq (.reg 0 [⟨0, some 8, none, .p .mov, [.t 0]⟩,
    ⟨1, some 9, none, .e .call [] [], [.f 140, .t 8]⟩,
    ⟨2, some 5, none, .p .mov, [.t 9]⟩])
   (.seq (.seq (.reg 0 [⟨0, some 10, none, .p .mov, [.t 1]⟩,
    ⟨1, some 11, none, .p (.bin .gtr), [.t 10, .c (.int .i64 200)]⟩])
   (.cond (.t 11) (.reg 0 [⟨0, some 12, none, .p .mov, [.t 5]⟩,
    ⟨1, some 13, none, .p (.bin .mul), [.t 12, .c (.int .i64 256)]⟩,
    ⟨2, some 14, none, .p .mov, [.t 0]⟩,
    ⟨3, some 15, none, .e .call [] [], [.f 140, .t 14]⟩,
    ⟨4, some 16, none, .p (.bin .add), [.t 13, .t 15]⟩,
    ⟨5, some 5, none, .p .mov, [.t 16]⟩])
   (.skip)))
   (.seq (.reg 0 [⟨0, some 17, none, .p .mov, [.t 5]⟩,
    ⟨1, some 18, none, .p .mov, [.t 1]⟩,
    ⟨2, some 19, none, .p (.bin .rem), [.t 17, .t 18]⟩,
    ⟨3, some 4, none, .p .mov, [.t 19]⟩])
   (.ret))))),
  [.tmp 4]⟩
/- (*loop.example/g00641/spec.l1Cur).among -/
def g93 : GL.Fn := ⟨.seq (.reg 0 [⟨0, some 4, none, .p .mov, [.c (.int .i64 0)]⟩])
   (.seq (.reg 0 [⟨0, some 5, none, .p .mov, [.t 1]⟩,
    ⟨1, some 6, none, .p .mov, [.t 0]⟩,
    ⟨2, some 7, none, .p .mov, [.t 1]⟩,
    ⟨3, some 8, none, .p .len, [.t 7]⟩,
    ⟨4, some 9, none, .e .call [] [], [.f 91, .t 6, .t 8]⟩,
    ⟨5, some 10, none, .p (.idx 1), [.t 5, .t 9]⟩,
    ⟨6, some 11, none, .r (.load false 1) false, [.t 10]⟩,
    ⟨7, some 4, none, .p .mov, [.t 11]⟩])
   (.ret)),
  [.tmp 4]⟩
/- (*loop.example/g00641/spec.l1Cur).placesOf -/
def g311 : GL.Fn := ⟨.seq (.reg 0 [⟨0, some 2, none, .p .mov, [.c (.nils)]⟩])
   (.seq (.reg 0 [⟨0, some 7, none, .p .mov, [.t 0]⟩,
    ⟨1, some 8, none, .e (.new (.lit 1)) [] [], [.c (.int .i64 3), .c (.int .i64 5), .c (.int .i64 5), .c (.int .i64 7)]⟩,
    ⟨2, some 9, none, .e .call [] [], [.f 93, .t 7, .t 8]⟩,
    ⟨3, some 3, none, .p .mov, [.t 9]⟩])
   (.seq (.reg 0 [⟨0, some 11, none, .p .mov, [.t 3]⟩,
    ⟨1, some 12, none, .p .mov, [.t 0]⟩,
    ⟨2, some 13, none, .p .mov, [.t 3]⟩,
    ⟨3, some 14, none, .e .call [] [], [.f 327, .t 12, .t 13]⟩,
    ⟨4, some 15, none, .e .call [] [], [.f 229, .t 11, .t 14]⟩,
    ⟨5, some 10, none, .p .mov, [.t 15]⟩,
    ⟨6, some 16, none, .p (.extract 0), [.t 10]⟩,
    ⟨7, some 17, none, .p (.extract 1), [.t 10]⟩,
    ⟨8, some 18, none, .p (.extract 2), [.t 10]⟩,
    ⟨9, some 4, none, .p .mov, [.t 16]⟩,
    ⟨10, some 5, none, .p .mov, [.t 17]⟩,
    ⟨11, some 6, none, .p .mov, [.t 18]⟩])
   (.seq (.seq (.reg 0 [⟨0, some 19, none, .p .mov, [.t 6]⟩,
    ⟨1, some 20, none, .p (.un .not), [.t 19]⟩])
   (.cond (.t 20) (.reg 0 [⟨0, some 22, none, .e .call [] [], [.f 225, .c (.int .i64 3)]⟩,
    ⟨1, some 21, none, .p .mov, [.t 22]⟩,
    ⟨2, some 23, none, .p (.extract 0), [.t 21]⟩,
    ⟨3, some 24, none, .p (.extract 1), [.t 21]⟩,
    ⟨4, some 4, none, .p .mov, [.t 23]⟩])
   (.skip)))
   (.seq (.seq (.reg 0 [⟨0, some 25, none, .p .mov, [.t 0]⟩,
    ⟨1, some 26, none, .e .call [] [], [.f 92, .t 25, .c (.int .i64 20)]⟩])
   (.cond (.t 26) (.reg 0 [⟨0, some 27, none, .p .mov, [.t 4]⟩,
    ⟨1, some 28, none, .p .mov, [.t 0]⟩,
    ⟨2, some 29, none, .e (.new (.lit 1)) [] [], [.c (.int .i64 (-1)), .c (.int .i64 40), .c (.int .i64 41)]⟩,
    ⟨3, some 30, none, .e .call [] [], [.f 93, .t 28, .t 29]⟩,
    ⟨4, some 31, none, .p (.idx 3), [.t 27, .c (.int .i64 0)]⟩,
    ⟨5, some 32, none, .p (.faddr 0), [.t 31]⟩,
    ⟨6, none, none, .e (.store 1) [] [], [.t 32, .t 30]⟩])
   (.skip)))
   (.seq (.reg 0 [⟨0, some 33, none, .p .mov, [.t 4]⟩,
    ⟨1, some 2, none, .p .mov, [.t 33]⟩])
   (.ret)))))),
  [.tmp 2]⟩
/- (*loop.example/g00641/spec.l1Cur).someOf -/
def g312_0 : GL.Code := .seq (.seq (.reg 0 [⟨0, some 7, none, .p .mov, [.t 6]⟩,
    ⟨1, some 8, none, .p .mov, [.t 1]⟩,
    ⟨2, some 9, none, .p (.bin .lss), [.t 7, .t 8]⟩])
   (.cond (.t 9) (.skip)
   (.exit 0)))
   (.seq (.block 1 (.seq (.reg 0 [⟨0, some 12, none, .p .mov, [.t 0]⟩,
    ⟨1, some 13, none, .e .call [] [], [.f 92, .t 12, .c (.int .i64 3)]⟩,
    ⟨2, some 14, none, .p (.un .not), [.t 13]⟩])
   (.cond (.t 14) (.reg 0 [⟨0, some 15, none, .p .mov, [.t 5]⟩,
    ⟨1, some 16, none, .p .mov, [.t 6]⟩,
    ⟨2, some 17, none, .e (.new (.lit 1)) [] [], [.t 16]⟩,
    ⟨3, some 18, none, .e (.append 1 8) [] [], [.t 15, .t 17]⟩,
    ⟨4, some 5, none, .p .mov, [.t 18]⟩])
   (.skip))))
   (.reg 0 [⟨0, some 10, none, .p .mov, [.t 6]⟩,
    ⟨1, some 11, none, .p (.bin .add), [.t 10, .c (.int .i64 1)]⟩,
    ⟨2, some 6, none, .p .mov, [.t 11]⟩]))
def g312 : GL.Fn := ⟨.seq (.reg 0 [⟨0, some 4, none, .p .mov, [.c (.nils)]⟩])
   (.seq (.reg 0 [⟨0, some 5, none, .p .mov, [.c (.nils)]⟩])
   (.seq (.seq (.reg 0 [⟨0, some 6, none, .p .mov, [.c (.int .i64 0)]⟩])
   (.block 0 (.loop g312_0)))
   (.seq (.reg 0 [⟨0, some 19, none, .p .mov, [.t 5]⟩,
    ⟨1, some 4, none, .p .mov, [.t 19]⟩])
   (.ret)))),
  [.tmp 4]⟩
/- loop.example/g00641/impl.isBallot -/
def g313 : GL.Fn := ⟨.seq (.reg 0 [⟨0, some 2, none, .p .mov, [.c (.bool false)]⟩])
   (.seq (.reg 0 [⟨0, some 3, none, .p .mov, [.t 0]⟩,
    ⟨1, some 4, none, .e .call [] [], [.f 107, .t 3, .c (.int .i64 1), .c (.int .i64 40)]⟩,
    ⟨2, some 2, none, .p .mov, [.t 4]⟩])
   (.ret)),
  [.tmp 2]⟩
/- loop.example/g00641/impl.arePlaces -/
def g314 : GL.Fn := ⟨.seq (.reg 0 [⟨0, some 4, none, .p .mov, [.c (.bool false)]⟩])
   (.seq (.reg 0 [⟨0, some 5, none, .p .mov, [.t 0]⟩,
    ⟨1, some 6, none, .e .call [] [], [.f 318, .t 5]⟩,
    ⟨2, some 7, none, .p .mov, [.t 6]⟩,
    ⟨3, some 8, some (7, true), .p .mov, [.t 1]⟩,
    ⟨4, some 9, some (7, true), .p .mov, [.t 0]⟩,
    ⟨5, some 10, some (7, true), .p (.bin .sub), [.t 9, .c (.int .i64 1)]⟩,
    ⟨6, some 11, some (7, true), .e .call [] [], [.f 385, .t 8, .c (.int .i64 0), .t 10]⟩,
    ⟨7, some 12, none, .p .pick, [.t 7, .t 11, .c (.bool false)]⟩,
    ⟨8, some 4, none, .p .mov, [.t 12]⟩])
   (.ret)),
  [.tmp 4]⟩
/- loop.example/g00641/impl.askPlaces -/
def g315_0 : GL.Code := .seq (.reg 0 [⟨0, some 20, none, .p (.bin .lss), [.t 19, .t 18]⟩])
   (.seq (.cond (.t 20) (.skip)
   (.exit 0))
   (.seq (.block 1 (.seq (.reg 0 [⟨0, some 21, none, .p (.idx 1), [.t 17, .t 19]⟩,
    ⟨1, some 22, none, .r (.load false 1) false, [.t 21]⟩,
    ⟨2, some 13, none, .p .mov, [.t 22]⟩])
   (.seq (.seq (.reg 0 [⟨0, some 23, none, .p .mov, [.t 0]⟩,
    ⟨1, some 24, none, .p .mov, [.t 13]⟩,
    ⟨2, some 25, none, .p (.idx 3), [.t 23, .t 24]⟩,
    ⟨3, some 26, none, .p (.faddr 0), [.t 25]⟩,
    ⟨4, some 27, none, .r (.load false 1) false, [.t 26]⟩,
    ⟨5, some 28, none, .p .mov, [.t 1]⟩,
    ⟨6, some 29, none, .p (.bin .geq), [.t 27, .t 28]⟩])
   (.cond (.t 29) (.exit 1)
   (.skip)))
   (.seq (.reg 0 [⟨0, some 30, none, .p .mov, [.t 9]⟩,
    ⟨1, some 31, none, .p .mov, [.t 13]⟩,
    ⟨2, some 32, none, .p .mov, [.t 1]⟩,
    ⟨3, some 33, none, .p (.idx 3), [.t 30, .t 31]⟩,
    ⟨4, some 34, none, .p (.faddr 0), [.t 33]⟩,
    ⟨5, none, none, .e (.store 1) [] [], [.t 34, .t 32]⟩])
   (.seq (.reg 0 [⟨0, some 35, none, .p .mov, [.t 10]⟩,
    ⟨1, some 36, none, .p (.bin .add), [.t 35, .c (.int .i64 1)]⟩,
    ⟨2, some 10, none, .p .mov, [.t 36]⟩])
   (.seq (.reg 0 [⟨0, some 37, none, .p .mov, [.t 0]⟩,
    ⟨1, some 38, none, .p .mov, [.t 13]⟩,
    ⟨2, some 39, none, .p (.idx 3), [.t 37, .t 38]⟩,
    ⟨3, some 40, none, .p (.faddr 1), [.t 39]⟩,
    ⟨4, some 41, none, .r (.load false 1) false, [.t 40]⟩,
    ⟨5, some 42, none, .p (.faddr 1), [.t 11]⟩,
    ⟨6, some 43, none, .l (.load 11 false 1), [.t 42]⟩,
    ⟨7, some 44, none, .p (.bin .gtr), [.t 41, .t 43]⟩])
   (.cond (.t 44) (.reg 0 [⟨0, some 45, none, .p .mov, [.t 0]⟩,
    ⟨1, some 46, none, .p .mov, [.t 13]⟩,
    ⟨2, some 47, none, .p (.idx 3), [.t 45, .t 46]⟩,
    ⟨3, some 48, none, .r (.load true 3) false, [.t 47]⟩,
    ⟨4, none, none, .l (.store 11 3), [.t 11, .t 48]⟩])
   (.skip))))))))
   (.reg 0 [⟨0, some 49, none, .p (.bin .add), [.t 19, .c (.int .i64 1)]⟩,
    ⟨1, some 19, none, .p .mov, [.t 49]⟩])))
def g315 : GL.Fn := ⟨.seq (.reg 0 [⟨0, some 6, none, .p .mov, [.c (.nils)]⟩,
    ⟨1, some 7, none, .p .mov, [.c (.int .i64 0)]⟩,
    ⟨2, some 8, none, .p .mov, [.c (.bool false)]⟩])
   (.seq (.reg 0 [⟨0, some 14, none, .p .mov, [.t 0]⟩,
    ⟨1, some 15, none, .e .call [] [], [.f 393, .t 14]⟩,
    ⟨2, some 16, none, .p (.build [.int .i64 0, .int .i64 0, .int .i64 0] []), []⟩,
    ⟨3, some 11, none, .l (.alloc 11 [.int .i64 0, .int .i64 0, .int .i64 0]), []⟩,
    ⟨4, some 9, none, .p .mov, [.t 15]⟩,
    ⟨5, some 10, none, .p .mov, [.c (.int .i64 0)]⟩,
    ⟨6, none, none, .l (.store 11 3), [.t 11, .t 16]⟩])
   (.seq (.seq (.reg 0 [⟨0, some 17, none, .p .mov, [.t 2]⟩,
    ⟨1, some 18, none, .p .len, [.t 17]⟩,
    ⟨2, some 19, none, .p .mov, [.c (.int .i64 0)]⟩])
   (.block 0 (.loop g315_0)))
   (.seq (.seq (.reg 0 [⟨0, some 50, none, .p .mov, [.t 10]⟩,
    ⟨1, some 51, none, .p .mov, [.t 0]⟩,
    ⟨2, some 52, none, .p .len, [.t 51]⟩,
    ⟨3, some 53, none, .e .call [] [], [.f 322, .t 52]⟩,
    ⟨4, some 54, none, .p (.bin .lss), [.t 50, .t 53]⟩])
   (.cond (.t 54) (.seq (.reg 0 [⟨0, some 55, none, .p .mov, [.t 9]⟩,
    ⟨1, some 6, none, .p .mov, [.t 55]⟩,
    ⟨2, some 7, none, .p .mov, [.c (.int .i64 0)]⟩,
    ⟨3, some 8, none, .p .mov, [.c (.bool false)]⟩])
   (.ret))
   (.skip)))
   (.seq (.reg 0 [⟨0, some 56, none, .p .mov, [.t 9]⟩,
    ⟨1, some 57, none, .p (.faddr 2), [.t 11]⟩,
    ⟨2, some 58, none, .l (.load 11 false 1), [.t 57]⟩,
    ⟨3, some 6, none, .p .mov, [.t 56]⟩,
    ⟨4, some 7, none, .p .mov, [.t 58]⟩,
    ⟨5, some 8, none, .p .mov, [.c (.bool true)]⟩])
   (.ret))))),
  [.tmp 6, .tmp 7, .tmp 8]⟩
/- loop.example/g00641/spec.l12Ask -/
def g317_0 : GL.Code := .seq (.reg 0 [⟨0, some 15, none, .p (.bin .lss), [.t 14, .t 13]⟩])
   (.seq (.cond (.t 15) (.skip)
   (.exit 0))
   (.seq (.block 1 (.seq (.reg 0 [⟨0, some 16, none, .p (.idx 1), [.t 12, .t 14]⟩,
    ⟨1, some 17, none, .r (.load false 1) false, [.t 16]⟩,
    ⟨2, some 11, none, .p .mov, [.t 17]⟩])
   (.seq (.seq (.reg 0 [⟨0, some 18, none, .p .mov, [.t 0]⟩,
    ⟨1, some 19, none, .p .mov, [.t 11]⟩,
    ⟨2, some 20, none, .p (.idx 3), [.t 18, .t 19]⟩,
    ⟨3, some 21, none, .p (.faddr 0), [.t 20]⟩,
    ⟨4, some 22, none, .r (.load false 1) false, [.t 21]⟩,
    ⟨5, some 23, none, .p .mov, [.t 1]⟩,
    ⟨6, some 24, none, .p (.bin .geq), [.t 22, .t 23]⟩])
   (.cond (.t 24) (.exit 1)
   (.skip)))
   (.seq (.reg 0 [⟨0, some 25, none, .p .mov, [.t 0]⟩,
    ⟨1, some 26, none, .p .mov, [.t 11]⟩,
    ⟨2, some 27, none, .p .mov, [.t 1]⟩,
    ⟨3, some 28, none, .p (.idx 3), [.t 25, .t 26]⟩,
    ⟨4, some 29, none, .p (.faddr 0), [.t 28]⟩,
    ⟨5, none, none, .e (.store 1) [] [], [.t 29, .t 27]⟩])
   (.seq (.reg 0 [⟨0, some 30, none, .p .mov, [.t 8]⟩,
    ⟨1, some 31, none, .p (.bin .add), [.t 30, .c (.int .i64 1)]⟩,
    ⟨2, some 8, none, .p .mov, [.t 31]⟩])
   (.seq (.reg 0 [⟨0, some 32, none, .p .mov, [.t 0]⟩,
    ⟨1, some 33, none, .p .mov, [.t 11]⟩,
    ⟨2, some 34, none, .p (.idx 3), [.t 32, .t 33]⟩,
    ⟨3, some 35, none, .p (.faddr 1), [.t 34]⟩,
    ⟨4, some 36, none, .r (.load false 1) false, [.t 35]⟩,
    ⟨5, some 37, none, .p (.faddr 1), [.t 9]⟩,
    ⟨6, some 38, none, .l (.load 9 false 1), [.t 37]⟩,
    ⟨7, some 39, none, .p (.bin .gtr), [.t 36, .t 38]⟩])
   (.cond (.t 39) (.reg 0 [⟨0, some 40, none, .p .mov, [.t 0]⟩,
    ⟨1, some 41, none, .p .mov, [.t 11]⟩,
    ⟨2, some 42, none, .p (.idx 3), [.t 40, .t 41]⟩,
    ⟨3, some 43, none, .r (.load true 3) false, [.t 42]⟩,
    ⟨4, none, none, .l (.store 9 3), [.t 9, .t 43]⟩])
   (.skip))))))))
   (.reg 0 [⟨0, some 44, none, .p (.bin .add), [.t 14, .c (.int .i64 1)]⟩,
    ⟨1, some 14, none, .p .mov, [.t 44]⟩])))
def g317 : GL.Fn := ⟨.seq (.reg 0 [⟨0, some 6, none, .p .mov, [.c (.int .i64 0)]⟩,
    ⟨1, some 7, none, .p .mov, [.c (.bool false)]⟩])
   (.seq (.reg 0 [⟨0, some 8, none, .p .mov, [.c (.int .i64 0)]⟩])
   (.seq (.reg 0 [⟨0, some 9, none, .l (.alloc 9 [.int .i64 0, .int .i64 0, .int .i64 0]), []⟩])
   (.seq (.seq (.reg 0 [⟨0, some 12, none, .p .mov, [.t 2]⟩,
    ⟨1, some 13, none, .p .len, [.t 12]⟩,
    ⟨2, some 14, none, .p .mov, [.c (.int .i64 0)]⟩])
   (.block 0 (.loop g317_0)))
   (.seq (.seq (.reg 0 [⟨0, some 45, none, .p .mov, [.t 8]⟩,
    ⟨1, some 46, none, .p .mov, [.t 0]⟩,
    ⟨2, some 47, none, .p .len, [.t 46]⟩,
    ⟨3, some 48, none, .e .call [] [], [.f 333, .t 47]⟩,
    ⟨4, some 49, none, .p (.bin .lss), [.t 45, .t 48]⟩])
   (.cond (.t 49) (.seq (.reg 0 [⟨0, some 6, none, .p .mov, [.c (.int .i64 0)]⟩,
    ⟨1, some 7, none, .p .mov, [.c (.bool false)]⟩])
   (.ret))
   (.skip)))
   (.seq (.reg 0 [⟨0, some 50, none, .p (.faddr 2), [.t 9]⟩,
    ⟨1, some 51, none, .l (.load 9 false 1), [.t 50]⟩,
    ⟨2, some 6, none, .p .mov, [.t 51]⟩,
    ⟨3, some 7, none, .p .mov, [.c (.bool true)]⟩])
   (.ret)))))),
  [.tmp 6, .tmp 7]⟩
/- loop.example/g00641/impl.isMany -/
def g318 : GL.Fn := ⟨.seq (.reg 0 [⟨0, some 2, none, .p .mov, [.c (.bool false)]⟩])
   (.seq (.reg 0 [⟨0, some 3, none, .p .mov, [.t 0]⟩,
    ⟨1, some 4, none, .e .call [] [], [.f 107, .t 3, .c (.int .i64 3), .c (.int .i64 9)]⟩,
    ⟨2, some 5, none, .p .mov, [.t 4]⟩,
    ⟨3, some 6, some (5, true), .p .mov, [.t 0]⟩,
    ⟨4, some 7, some (5, true), .p (.bin .rem), [.t 6, .c (.int .i64 2)]⟩,
    ⟨5, some 8, some (5, true), .p (.bin .eql), [.t 7, .c (.int .i64 1)]⟩,
    ⟨6, some 9, none, .p .pick, [.t 5, .t 8, .c (.bool false)]⟩,
    ⟨7, some 2, none, .p .mov, [.t 9]⟩])
   (.ret)),
  [.tmp 2]⟩
/- slices.ContainsFunc[[]loop.example/g00641/impl.Place,loop.example/g00641/impl.Place] -/
def g319 : GL.Fn := ⟨.seq (.reg 0 [⟨0, some 4, none, .p .mov, [.c (.bool false)]⟩])
   (.seq (.reg 0 [⟨0, some 5, none, .p .mov, [.t 0]⟩,
    ⟨1, some 6, none, .p .mov, [.t 1]⟩,
    ⟨2, some 7, none, .e .call [] [], [.f 394, .t 5, .t 6]⟩,
    ⟨3, some 8, none, .p (.bin .geq), [.t 7, .c (.int .i64 0)]⟩,
    ⟨4, some 4, none, .p .mov, [.t 8]⟩])
   (.ret)),
  [.tmp 4]⟩
/- loop.example/g00641/impl.GoodPlaces$1 -/
def g320 : GL.Fn := ⟨.seq (.reg 0 [⟨0, some 1, none, .l (.box 1 3), [.t 0]⟩,
    ⟨1, some 2, none, .p .mov, [.c (.bool false)]⟩])
   (.seq (.reg 0 [⟨0, some 5, none, .p (.faddr 1), [.t 1]⟩,
    ⟨1, some 6, none, .l (.load 1 false 1), [.t 5]⟩,
    ⟨2, some 7, none, .p (.bin .eql), [.t 6, .c (.int .i64 0)]⟩,
    ⟨3, some 8, none, .p .mov, [.t 7]⟩,
    ⟨4, some 9, some (8, true), .p (.faddr 2), [.t 1]⟩,
    ⟨5, some 10, some (8, true), .l (.load 1 false 1), [.t 9]⟩,
    ⟨6, some 11, some (8, true), .p (.bin .eql), [.t 10, .c (.int .i64 0)]⟩,
    ⟨7, some 12, none, .p .pick, [.t 8, .t 11, .c (.bool false)]⟩,
    ⟨8, some 3, none, .p .mov, [.t 12]⟩])
   (.seq (.reg 0 [⟨0, some 13, none, .p (.faddr 1), [.t 1]⟩,
    ⟨1, some 14, none, .l (.load 1 false 1), [.t 13]⟩,
    ⟨2, some 15, none, .p (.faddr 0), [.t 1]⟩,
    ⟨3, some 16, none, .l (.load 1 false 1), [.t 15]⟩,
    ⟨4, some 17, none, .e .call [] [], [.f 107, .t 14, .c (.int .i64 1), .t 16]⟩,
    ⟨5, some 18, none, .p .mov, [.t 17]⟩,
    ⟨6, some 19, some (18, true), .p (.faddr 2), [.t 1]⟩,
    ⟨7, some 20, some (18, true), .l (.load 1 false 1), [.t 19]⟩,
    ⟨8, some 21, some (18, true), .e .call [] [], [.f 323, .t 20]⟩,
    ⟨9, some 22, none, .p .pick, [.t 18, .t 21, .c (.bool false)]⟩,
    ⟨10, some 4, none, .p .mov, [.t 22]⟩])
   (.seq (.reg 0 [⟨0, some 23, none, .p (.faddr 0), [.t 1]⟩,
    ⟨1, some 24, none, .l (.load 1 false 1), [.t 23]⟩,
    ⟨2, some 25, none, .e .call [] [], [.f 107, .t 24, .c (.int .i64 0), .c (.int .i64 40)]⟩,
    ⟨3, some 26, none, .p (.un .not), [.t 25]⟩,
    ⟨4, some 27, none, .p .mov, [.t 26]⟩,
    ⟨5, some 28, some (27, false), .p .mov, [.t 3]⟩,
    ⟨6, some 29, some (27, false), .p (.un .not), [.t 28]⟩,
    ⟨7, some 30, some (27, false), .p .mov, [.t 29]⟩,
    ⟨8, some 31, some (30, true), .p .mov, [.t 4]⟩,
    ⟨9, some 32, some (30, true), .p (.un .not), [.t 31]⟩,
    ⟨10, some 33, some (27, false), .p .pick, [.t 30, .t 32, .c (.bool false)]⟩,
    ⟨11, some 34, none, .p .pick, [.t 27, .c (.bool true), .t 33]⟩,
    ⟨12, some 2, none, .p .mov, [.t 34]⟩])
   (.ret)))),
  [.tmp 2]⟩
/- loop.example/g00641/impl.isWord -/
def g323 : GL.Fn := ⟨.seq (.reg 0 [⟨0, some 2, none, .p .mov, [.c (.bool false)]⟩])
   (.seq (.reg 0 [⟨0, some 3, none, .p .mov, [.t 0]⟩,
    ⟨1, some 4, none, .e .call [] [], [.f 107, .t 3, .c (.int .i64 1), .c (.int .i64 99)]⟩,
    ⟨2, some 2, none, .p .mov, [.t 4]⟩])
   (.ret)),
  [.tmp 2]⟩
/- loop.example/g00641/spec.l11Places -/
def g321 : GL.Fn := ⟨.seq (.reg 0 [⟨0, some 2, none, .p .mov, [.c (.bool false)]⟩])
   (.seq (.reg 0 [⟨0, some 3, none, .p .mov, [.t 0]⟩,
    ⟨1, some 4, none, .e .call [] [], [.f 98, .t 3, .c (.int .i64 3), .c (.int .i64 9)]⟩,
    ⟨2, some 5, none, .p .mov, [.t 4]⟩,
    ⟨3, some 6, some (5, true), .p .mov, [.t 0]⟩,
    ⟨4, some 7, some (5, true), .p (.bin .rem), [.t 6, .c (.int .i64 2)]⟩,
    ⟨5, some 8, some (5, true), .p (.bin .eql), [.t 7, .c (.int .i64 1)]⟩,
    ⟨6, some 9, none, .p .pick, [.t 5, .t 8, .c (.bool false)]⟩,
    ⟨7, some 2, none, .p .mov, [.t 9]⟩])
   (.ret)),
  [.tmp 2]⟩
/- loop.example/g00641/impl.slow -/
def g322 : GL.Fn := ⟨.seq (.reg 0 [⟨0, some 2, none, .p .mov, [.c (.int .i64 0)]⟩])
   (.seq (.reg 0 [⟨0, some 3, none, .p .mov, [.t 0]⟩,
    ⟨1, some 4, none, .p (.bin .quo), [.t 3, .c (.int .i64 2)]⟩,
    ⟨2, some 5, none, .p (.bin .add), [.t 4, .c (.int .i64 1)]⟩,
    ⟨3, some 2, none, .p .mov, [.t 5]⟩])
   (.ret)),
  [.tmp 2]⟩
/- loop.example/g00641/impl.takeWord -/
def g324_0 : GL.Code := .seq (.reg 0 [⟨0, some 20, none, .p (.bin .lss), [.t 19, .t 18]⟩])
   (.seq (.cond (.t 20) (.skip)
   (.exit 0))
   (.seq (.block 1 (.seq (.reg 0 [⟨0, some 21, none, .p (.idx 1), [.t 17, .t 19]⟩,
    ⟨1, some 22, none, .r (.load false 1) false, [.t 21]⟩,
    ⟨2, some 13, none, .p .mov, [.t 22]⟩])
   (.seq (.reg 0 [⟨0, some 23, none, .p .mov, [.t 0]⟩,
    ⟨1, some 24, none, .p .mov, [.t 13]⟩,
    ⟨2, some 25, none, .p (.idx 3), [.t 23, .t 24]⟩,
    ⟨3, some 26, none, .p (.faddr 0), [.t 25]⟩,
    ⟨4, some 27, none, .r (.load false 1) false, [.t 26]⟩,
    ⟨5, some 28, none, .p .mov, [.t 1]⟩,
    ⟨6, some 29, none, .p (.bin .leq), [.t 27, .t 28]⟩])
   (.cond (.t 29) (.seq (.reg 0 [⟨0, some 30, none, .p .mov, [.t 10]⟩,
    ⟨1, some 31, none, .p .mov, [.t 13]⟩,
    ⟨2, some 32, none, .p .mov, [.t 1]⟩,
    ⟨3, some 33, none, .p .mov, [.t 1]⟩,
    ⟨4, some 34, none, .p .mov, [.t 2]⟩,
    ⟨5, some 35, none, .p (.build [.int .i64 0, .int .i64 0, .int .i64 0] [(0, 1), (1, 1), (2, 1)]), [.t 32, .t 33, .t 34]⟩,
    ⟨6, some 36, none, .p (.idx 3), [.t 30, .t 31]⟩,
    ⟨7, none, none, .e (.store 3) [] [], [.t 36, .t 35]⟩])
   (.reg 0 [⟨0, some 37, none, .p .mov, [.t 11]⟩,
    ⟨1, some 38, none, .p .mov, [.t 13]⟩,
    ⟨2, some 39, none, .e (.new (.lit 1)) [] [], [.t 38]⟩,
    ⟨3, some 40, none, .e (.append 1 8) [] [], [.t 37, .t 39]⟩,
    ⟨4, some 11, none, .p .mov, [.t 40]⟩]))
   (.skip)))))
   (.reg 0 [⟨0, some 41, none, .p (.bin .add), [.t 19, .c (.int .i64 1)]⟩,
    ⟨1, some 19, none, .p .mov, [.t 41]⟩])))
def g324 : GL.Fn := ⟨.seq (.reg 0 [⟨0, some 8, none, .p .mov, [.c (.nils)]⟩,
    ⟨1, some 9, none, .p .mov, [.c (.nils)]⟩])
   (.seq (.reg 0 [⟨0, some 14, none, .p .mov, [.t 0]⟩,
    ⟨1, some 15, none, .e .call [] [], [.f 393, .t 14]⟩,
    ⟨2, some 16, none, .e (.new (.lit 1)) [] [], []⟩,
    ⟨3, some 10, none, .p .mov, [.t 15]⟩,
    ⟨4, some 11, none, .p .mov, [.t 16]⟩])
   (.seq (.seq (.reg 0 [⟨0, some 17, none, .p .mov, [.t 3]⟩,
    ⟨1, some 18, none, .p .len, [.t 17]⟩,
    ⟨2, some 19, none, .p .mov, [.c (.int .i64 0)]⟩])
   (.block 0 (.loop g324_0)))
   (.seq (.reg 0 [⟨0, some 42, none, .p .mov, [.t 10]⟩,
    ⟨1, some 43, none, .p .mov, [.t 11]⟩,
    ⟨2, some 8, none, .p .mov, [.t 42]⟩,
    ⟨3, some 9, none, .p .mov, [.t 43]⟩])
   (.ret)))),
  [.tmp 8, .tmp 9]⟩
/- loop.example/g00641/spec.l12Take -/
def g325_0 : GL.Code := .seq (.reg 0 [⟨0, some 15, none, .p (.bin .lss), [.t 14, .t 13]⟩])
   (.seq (.cond (.t 15) (.skip)
   (.exit 0))
   (.seq (.block 1 (.seq (.reg 0 [⟨0, some 16, none, .p (.idx 1), [.t 12, .t 14]⟩,
    ⟨1, some 17, none, .r (.load false 1) false, [.t 16]⟩,
    ⟨2, some 11, none, .p .mov, [.t 17]⟩])
   (.seq (.reg 0 [⟨0, some 18, none, .p .mov, [.t 0]⟩,
    ⟨1, some 19, none, .p .mov, [.t 11]⟩,
    ⟨2, some 20, none, .p (.idx 3), [.t 18, .t 19]⟩,
    ⟨3, some 21, none, .p (.faddr 0), [.t 20]⟩,
    ⟨4, some 22, none, .r (.load false 1) false, [.t 21]⟩,
    ⟨5, some 23, none, .p .mov, [.t 1]⟩,
    ⟨6, some 24, none, .p (.bin .leq), [.t 22, .t 23]⟩])
   (.cond (.t 24) (.seq (.reg 0 [⟨0, some 25, none, .p .mov, [.t 0]⟩,
    ⟨1, some 26, none, .p .mov, [.t 11]⟩,
    ⟨2, some 27, none, .p .mov, [.t 1]⟩,
    ⟨3, some 28, none, .p .mov, [.t 1]⟩,
    ⟨4, some 29, none, .p .mov, [.t 2]⟩,
    ⟨5, some 30, none, .p (.build [.int .i64 0, .int .i64 0, .int .i64 0] [(0, 1), (1, 1), (2, 1)]), [.t 27, .t 28, .t 29]⟩,
    ⟨6, some 31, none, .p (.idx 3), [.t 25, .t 26]⟩,
    ⟨7, none, none, .e (.store 3) [] [], [.t 31, .t 30]⟩])
   (.reg 0 [⟨0, some 32, none, .p .mov, [.t 9]⟩,
    ⟨1, some 33, none, .p .mov, [.t 11]⟩,
    ⟨2, some 34, none, .e (.new (.lit 1)) [] [], [.t 33]⟩,
    ⟨3, some 35, none, .e (.append 1 8) [] [], [.t 32, .t 34]⟩,
    ⟨4, some 9, none, .p .mov, [.t 35]⟩]))
   (.skip)))))
   (.reg 0 [⟨0, some 36, none, .p (.bin .add), [.t 14, .c (.int .i64 1)]⟩,
    ⟨1, some 14, none, .p .mov, [.t 36]⟩])))
def g325 : GL.Fn := ⟨.seq (.reg 0 [⟨0, some 8, none, .p .mov, [.c (.nils)]⟩])
   (.seq (.reg 0 [⟨0, some 9, none, .p .mov, [.c (.nils)]⟩])
   (.seq (.seq (.reg 0 [⟨0, some 12, none, .p .mov, [.t 3]⟩,
    ⟨1, some 13, none, .p .len, [.t 12]⟩,
    ⟨2, some 14, none, .p .mov, [.c (.int .i64 0)]⟩])
   (.block 0 (.loop g325_0)))
   (.seq (.reg 0 [⟨0, some 37, none, .p .mov, [.t 9]⟩,
    ⟨1, some 8, none, .p .mov, [.t 37]⟩])
   (.ret)))),
  [.tmp 8]⟩
/- (*loop.example/g00641/spec.l1Cur).places -/
def g326 : GL.Fn := ⟨.seq (.reg 0 [⟨0, some 2, none, .p .mov, [.c (.int .i64 0)]⟩])
   (.seq (.reg 0 [⟨0, some 3, none, .p .mov, [.t 0]⟩,
    ⟨1, some 4, none, .e (.new (.lit 1)) [] [], [.c (.int .i64 3), .c (.int .i64 5), .c (.int .i64 5), .c (.int .i64 7), .c (.int .i64 9), .c (.int .i64 2), .c (.int .i64 4), .c (.int .i64 11)]⟩,
    ⟨2, some 5, none, .e .call [] [], [.f 93, .t 3, .t 4]⟩,
    ⟨3, some 2, none, .p .mov, [.t 5]⟩])
   (.ret)),
  [.tmp 2]⟩
/- (*loop.example/g00641/spec.l1Cur).ballots -/
def g327_0 : GL.Code := .seq (.seq (.reg 0 [⟨0, some 10, none, .p .mov, [.t 7]⟩,
    ⟨1, some 11, none, .p (.bin .gtr), [.t 10, .c (.int .i64 0)]⟩])
   (.cond (.t 11) (.skip)
   (.exit 0)))
   (.seq (.block 1 (.seq (.reg 0 [⟨0, some 14, none, .p .mov, [.t 6]⟩,
    ⟨1, some 15, none, .p .mov, [.t 0]⟩,
    ⟨2, some 16, none, .e .call [] [], [.f 91, .t 15, .c (.int .i64 3)]⟩,
    ⟨3, some 17, none, .p (.bin .add), [.c (.int .i64 1), .t 16]⟩,
    ⟨4, some 18, none, .p (.bin .add), [.t 14, .t 17]⟩,
    ⟨5, some 6, none, .p .mov, [.t 18]⟩])
   (.reg 0 [⟨0, some 19, none, .p .mov, [.t 5]⟩,
    ⟨1, some 20, none, .p .mov, [.t 6]⟩,
    ⟨2, some 21, none, .p .mov, [.t 0]⟩,
    ⟨3, some 22, none, .e .call [] [], [.f 91, .t 21, .c (.int .i64 9)]⟩,
    ⟨4, some 23, none, .p (.bin .add), [.c (.int .i64 1), .t 22]⟩,
    ⟨5, some 24, none, .p .mov, [.t 0]⟩,
    ⟨6, some 25, none, .p .mov, [.t 1]⟩,
    ⟨7, some 26, none, .e .call [] [], [.f 312, .t 24, .t 25]⟩,
    ⟨8, some 27, none, .p .mov, [.t 0]⟩,
    ⟨9, some 28, none, .p .mov, [.t 1]⟩,
    ⟨10, some 29, none, .e .call [] [], [.f 312, .t 27, .t 28]⟩,
    ⟨11, some 30, none, .p (.build [.int .i64 0, .int .i64 0, .nils, .nils] [(0, 1), (1, 1), (2, 1), (3, 1)]), [.t 20, .t 23, .t 26, .t 29]⟩,
    ⟨12, some 31, none, .e (.new (.lit 4)) [] [], [.t 30]⟩,
    ⟨13, some 32, none, .e (.append 4 64) [] [], [.t 19, .t 31]⟩,
    ⟨14, some 5, none, .p .mov, [.t 32]⟩])))
   (.reg 0 [⟨0, some 12, none, .p .mov, [.t 7]⟩,
    ⟨1, some 13, none, .p (.bin .sub), [.t 12, .c (.int .i64 1)]⟩,
    ⟨2, some 7, none, .p .mov, [.t 13]⟩]))
def g327 : GL.Fn := ⟨.seq (.reg 0 [⟨0, some 4, none, .p .mov, [.c (.nils)]⟩])
   (.seq (.reg 0 [⟨0, some 5, none, .p .mov, [.c (.nils)]⟩])
   (.seq (.reg 0 [⟨0, some 6, none, .p .mov, [.c (.int .i64 0)]⟩])
   (.seq (.seq (.reg 0 [⟨0, some 8, none, .p .mov, [.t 0]⟩,
    ⟨1, some 9, none, .e .call [] [], [.f 91, .t 8, .c (.int .i64 8)]⟩,
    ⟨2, some 7, none, .p .mov, [.t 9]⟩])
   (.block 0 (.loop g327_0)))
   (.seq (.seq (.reg 0 [⟨0, some 33, none, .p .mov, [.t 5]⟩,
    ⟨1, some 34, none, .p .len, [.t 33]⟩,
    ⟨2, some 35, none, .p (.bin .gtr), [.t 34, .c (.int .i64 0)]⟩,
    ⟨3, some 36, none, .p .mov, [.t 35]⟩,
    ⟨4, some 37, some (36, true), .p .mov, [.t 0]⟩,
    ⟨5, some 38, some (36, true), .e .call [] [], [.f 92, .t 37, .c (.int .i64 20)]⟩,
    ⟨6, some 39, none, .p .pick, [.t 36, .t 38, .c (.bool false)]⟩])
   (.cond (.t 39) (.reg 0 [⟨0, some 40, none, .p .mov, [.t 5]⟩,
    ⟨1, some 41, none, .p .mov, [.t 0]⟩,
    ⟨2, some 42, none, .e (.new (.lit 1)) [] [], [.c (.int .i64 0), .c (.int .i64 40), .c (.int .i64 41)]⟩,
    ⟨3, some 43, none, .e .call [] [], [.f 93, .t 41, .t 42]⟩,
    ⟨4, some 44, none, .p (.idx 4), [.t 40, .c (.int .i64 0)]⟩,
    ⟨5, some 45, none, .p (.faddr 0), [.t 44]⟩,
    ⟨6, none, none, .e (.store 1) [] [], [.t 45, .t 43]⟩])
   (.skip)))
   (.seq (.reg 0 [⟨0, some 46, none, .p .mov, [.t 5]⟩,
    ⟨1, some 4, none, .p .mov, [.t 46]⟩])
   (.ret)))))),
  [.tmp 4]⟩
/- (loop.example/g00641/impl.Ballot).isGood -/
def g328 : GL.Fn := ⟨.seq (.reg 0 [⟨0, some 2, none, .l (.box 2 4), [.t 0]⟩,
    ⟨1, some 4, none, .p .mov, [.c (.bool false)]⟩])
   (.seq (.reg 0 [⟨0, some 5, none, .p (.faddr 0), [.t 2]⟩,
    ⟨1, some 6, none, .l (.load 2 false 1), [.t 5]⟩,
    ⟨2, some 7, none, .e .call [] [], [.f 313, .t 6]⟩,
    ⟨3, some 8, none, .p .mov, [.t 7]⟩,
    ⟨4, some 9, some (8, true), .p (.faddr 1), [.t 2]⟩,
    ⟨5, some 10, some (8, true), .l (.load 2 false 1), [.t 9]⟩,
    ⟨6, some 11, some (8, true), .e .call [] [], [.f 323, .t 10]⟩,
    ⟨7, some 12, none, .p .pick, [.t 8, .t 11, .c (.bool false)]⟩,
    ⟨8, some 13, none, .p .mov, [.t 12]⟩,
    ⟨9, some 14, some (13, true), .p .mov, [.t 1]⟩,
    ⟨10, some 15, some (13, true), .p (.faddr 2), [.t 2]⟩,
    ⟨11, some 16, some (13, true), .l (.load 2 false 1), [.t 15]⟩,
    ⟨12, some 17, some (13, true), .e .call [] [], [.f 314, .t 14, .t 16]⟩,
    ⟨13, some 18, none, .p .pick, [.t 13, .t 17, .c (.bool false)]⟩,
    ⟨14, some 19, none, .p .mov, [.t 18]⟩,
    ⟨15, some 20, some (19, true), .p .mov, [.t 1]⟩,
    ⟨16, some 21, some (19, true), .p (.faddr 3), [.t 2]⟩,
    ⟨17, some 22, some (19, true), .l (.load 2 false 1), [.t 21]⟩,
    ⟨18, some 23, some (19, true), .e .call [] [], [.f 314, .t 20, .t 22]⟩,
    ⟨19, some 24, none, .p .pick, [.t 19, .t 23, .c (.bool false)]⟩,
    ⟨20, some 4, none, .p .mov, [.t 24]⟩])
   (.ret)),
  [.tmp 4]⟩
/- loop.example/g00641/impl.runBallot -/
def g329 : GL.Fn := ⟨.seq (.reg 0 [⟨0, some 3, none, .l (.box 3 4), [.t 1]⟩,
    ⟨1, some 4, none, .p .mov, [.c (.nils)]⟩,
    ⟨2, some 5, none, .p .mov, [.c (.int .i64 0)]⟩])
   (.seq (.reg 0 [⟨0, some 12, none, .p .mov, [.t 0]⟩,
    ⟨1, some 13, none, .p (.faddr 0), [.t 3]⟩,
    ⟨2, some 14, none, .l (.load 3 false 1), [.t 13]⟩,
    ⟨3, some 15, none, .p (.faddr 2), [.t 3]⟩,
    ⟨4, some 16, none, .l (.load 3 false 1), [.t 15]⟩,
    ⟨5, some 17, none, .e .call [] [], [.f 315, .t 12, .t 14, .t 16]⟩,
    ⟨6, some 11, none, .p .mov, [.t 17]⟩,
    ⟨7, some 18, none, .p (.extract 0), [.t 11]⟩,
    ⟨8, some 19, none, .p (.extract 1), [.t 11]⟩,
    ⟨9, some 20, none, .p (.extract 2), [.t 11]⟩,
    ⟨10, some 6, none, .p .mov, [.t 18]⟩,
    ⟨11, some 7, none, .p .mov, [.t 19]⟩,
    ⟨12, some 8, none, .p .mov, [.t 20]⟩])
   (.seq (.seq (.reg 0 [⟨0, some 21, none, .p .mov, [.t 8]⟩,
    ⟨1, some 22, none, .p (.un .not), [.t 21]⟩])
   (.cond (.t 22) (.seq (.reg 0 [⟨0, some 23, none, .p .mov, [.t 6]⟩,
    ⟨1, some 4, none, .p .mov, [.t 23]⟩,
    ⟨2, some 5, none, .p .mov, [.c (.int .i64 0)]⟩])
   (.ret))
   (.skip)))
   (.seq (.seq (.reg 0 [⟨0, some 24, none, .p .mov, [.t 7]⟩,
    ⟨1, some 25, none, .p (.bin .eql), [.t 24, .c (.int .i64 0)]⟩])
   (.cond (.t 25) (.reg 0 [⟨0, some 26, none, .p (.faddr 1), [.t 3]⟩,
    ⟨1, some 27, none, .l (.load 3 false 1), [.t 26]⟩,
    ⟨2, some 7, none, .p .mov, [.t 27]⟩])
   (.skip)))
   (.seq (.reg 0 [⟨0, some 29, none, .p .mov, [.t 6]⟩,
    ⟨1, some 30, none, .p (.faddr 0), [.t 3]⟩,
    ⟨2, some 31, none, .l (.load 3 false 1), [.t 30]⟩,
    ⟨3, some 32, none, .p .mov, [.t 7]⟩,
    ⟨4, some 33, none, .p (.faddr 3), [.t 3]⟩,
    ⟨5, some 34, none, .l (.load 3 false 1), [.t 33]⟩,
    ⟨6, some 35, none, .e .call [] [], [.f 324, .t 29, .t 31, .t 32, .t 34]⟩,
    ⟨7, some 28, none, .p .mov, [.t 35]⟩,
    ⟨8, some 36, none, .p (.extract 0), [.t 28]⟩,
    ⟨9, some 37, none, .p (.extract 1), [.t 28]⟩,
    ⟨10, some 9, none, .p .mov, [.t 36]⟩,
    ⟨11, some 10, none, .p .mov, [.t 37]⟩])
   (.seq (.seq (.reg 0 [⟨0, some 38, none, .p .mov, [.t 10]⟩,
    ⟨1, some 39, none, .p .len, [.t 38]⟩,
    ⟨2, some 40, none, .p .mov, [.t 0]⟩,
    ⟨3, some 41, none, .p .len, [.t 40]⟩,
    ⟨4, some 42, none, .e .call [] [], [.f 322, .t 41]⟩,
    ⟨5, some 43, none, .p (.bin .lss), [.t 39, .t 42]⟩])
   (.cond (.t 43) (.seq (.reg 0 [⟨0, some 44, none, .p .mov, [.t 9]⟩,
    ⟨1, some 4, none, .p .mov, [.t 44]⟩,
    ⟨2, some 5, none, .p .mov, [.c (.int .i64 0)]⟩])
   (.ret))
   (.skip)))
   (.seq (.reg 0 [⟨0, some 45, none, .p .mov, [.t 9]⟩,
    ⟨1, some 46, none, .p .mov, [.t 7]⟩,
    ⟨2, some 4, none, .p .mov, [.t 45]⟩,
    ⟨3, some 5, none, .p .mov, [.t 46]⟩])
   (.ret))))))),
  [.tmp 4, .tmp 5]⟩
/- loop.example/g00641/spec.l12Ballot -/
def g330 : GL.Fn := ⟨.seq (.reg 0 [⟨0, some 3, none, .l (.box 3 4), [.t 1]⟩,
    ⟨1, some 4, none, .p .mov, [.c (.bool false)]⟩])
   (.seq (.reg 0 [⟨0, some 5, none, .p (.faddr 0), [.t 3]⟩,
    ⟨1, some 6, none, .l (.load 3 false 1), [.t 5]⟩,
    ⟨2, some 7, none, .e .call [] [], [.f 98, .t 6, .c (.int .i64 1), .c (.int .i64 40)]⟩,
    ⟨3, some 8, none, .p .mov, [.t 7]⟩,
    ⟨4, some 9, some (8, true), .p (.faddr 1), [.t 3]⟩,
    ⟨5, some 10, some (8, true), .l (.load 3 false 1), [.t 9]⟩,
    ⟨6, some 11, some (8, true), .e .call [] [], [.f 98, .t 10, .c (.int .i64 1), .c (.int .i64 99)]⟩,
    ⟨7, some 12, none, .p .pick, [.t 8, .t 11, .c (.bool false)]⟩,
    ⟨8, some 13, none, .p .mov, [.t 12]⟩,
    ⟨9, some 14, some (13, true), .p (.faddr 2), [.t 3]⟩,
    ⟨10, some 15, some (13, true), .l (.load 3 false 1), [.t 14]⟩,
    ⟨11, some 16, some (13, true), .p .mov, [.t 0]⟩,
    ⟨12, some 17, some (13, true), .p (.bin .sub), [.t 16, .c (.int .i64 1)]⟩,
    ⟨13, some 18, some (13, true), .e .call [] [], [.f 337, .t 15, .c (.int .i64 0), .t 17]⟩,
    ⟨14, some 19, none, .p .pick, [.t 13, .t 18, .c (.bool false)]⟩,
    ⟨15, some 20, none, .p .mov, [.t 19]⟩,
    ⟨16, some 21, some (20, true), .p (.faddr 3), [.t 3]⟩,
    ⟨17, some 22, some (20, true), .l (.load 3 false 1), [.t 21]⟩,
    ⟨18, some 23, some (20, true), .p .mov, [.t 0]⟩,
    ⟨19, some 24, some (20, true), .p (.bin .sub), [.t 23, .c (.int .i64 1)]⟩,
    ⟨20, some 25, some (20, true), .e .call [] [], [.f 337, .t 22, .c (.int .i64 0), .t 24]⟩,
    ⟨21, some 26, none, .p .pick, [.t 20, .t 25, .c (.bool false)]⟩,
    ⟨22, some 4, none, .p .mov, [.t 26]⟩])
   (.ret)),
  [.tmp 4]⟩
/- loop.example/g00641/spec.l12Run -/
def g331 : GL.Fn := ⟨.seq (.reg 0 [⟨0, some 3, none, .l (.box 3 4), [.t 1]⟩,
    ⟨1, some 4, none, .p .mov, [.c (.int .i64 0)]⟩])
   (.seq (.reg 0 [⟨0, some 8, none, .p .mov, [.t 0]⟩,
    ⟨1, some 9, none, .p (.faddr 0), [.t 3]⟩,
    ⟨2, some 10, none, .l (.load 3 false 1), [.t 9]⟩,
    ⟨3, some 11, none, .p (.faddr 2), [.t 3]⟩,
    ⟨4, some 12, none, .l (.load 3 false 1), [.t 11]⟩,
    ⟨5, some 13, none, .e .call [] [], [.f 317, .t 8, .t 10, .t 12]⟩,
    ⟨6, some 7, none, .p .mov, [.t 13]⟩,
    ⟨7, some 14, none, .p (.extract 0), [.t 7]⟩,
    ⟨8, some 15, none, .p (.extract 1), [.t 7]⟩,
    ⟨9, some 5, none, .p .mov, [.t 14]⟩,
    ⟨10, some 6, none, .p .mov, [.t 15]⟩])
   (.seq (.seq (.reg 0 [⟨0, some 16, none, .p .mov, [.t 6]⟩,
    ⟨1, some 17, none, .p (.un .not), [.t 16]⟩])
   (.cond (.t 17) (.seq (.reg 0 [⟨0, some 4, none, .p .mov, [.c (.int .i64 0)]⟩])
   (.ret))
   (.skip)))
   (.seq (.seq (.reg 0 [⟨0, some 18, none, .p .mov, [.t 5]⟩,
    ⟨1, some 19, none, .p (.bin .eql), [.t 18, .c (.int .i64 0)]⟩])
   (.cond (.t 19) (.reg 0 [⟨0, some 20, none, .p (.faddr 1), [.t 3]⟩,
    ⟨1, some 21, none, .l (.load 3 false 1), [.t 20]⟩,
    ⟨2, some 5, none, .p .mov, [.t 21]⟩])
   (.skip)))
   (.seq (.seq (.reg 0 [⟨0, some 22, none, .p .mov, [.t 0]⟩,
    ⟨1, some 23, none, .p (.faddr 0), [.t 3]⟩,
    ⟨2, some 24, none, .l (.load 3 false 1), [.t 23]⟩,
    ⟨3, some 25, none, .p .mov, [.t 5]⟩,
    ⟨4, some 26, none, .p (.faddr 3), [.t 3]⟩,
    ⟨5, some 27, none, .l (.load 3 false 1), [.t 26]⟩,
    ⟨6, some 28, none, .e .call [] [], [.f 325, .t 22, .t 24, .t 25, .t 27]⟩,
    ⟨7, some 29, none, .p .len, [.t 28]⟩,
    ⟨8, some 30, none, .p .mov, [.t 0]⟩,
    ⟨9, some 31, none, .p .len, [.t 30]⟩,
    ⟨10, some 32, none, .e .call [] [], [.f 333, .t 31]⟩,
    ⟨11, some 33, none, .p (.bin .lss), [.t 29, .t 32]⟩])
   (.cond (.t 33) (.seq (.reg 0 [⟨0, some 4, none, .p .mov, [.c (.int .i64 0)]⟩])
   (.ret))
   (.skip)))
   (.seq (.reg 0 [⟨0, some 34, none, .p .mov, [.t 5]⟩,
    ⟨1, some 4, none, .p .mov, [.t 34]⟩])
   (.ret)))))),
  [.tmp 4]⟩
/- loop.example/g00641/spec.DrawGoodPlaces -/
def g332 : GL.Fn := ⟨.seq (.reg 0 [⟨0, some 2, none, .p .mov, [.c (.nils)]⟩])
   (.seq (.reg 0 [⟨0, some 4, none, .p .mov, [.t 0]⟩,
    ⟨1, some 5, none, .p (.build [.nils, .int .i64 0, .int .u64 0] [(0, 1)]), [.t 4]⟩,
    ⟨2, some 6, none, .e (.new (.box 3)) [] [], [.t 5]⟩,
    ⟨3, some 3, none, .p .mov, [.t 6]⟩])
   (.seq (.reg 0 [⟨0, some 7, none, .p .mov, [.t 3]⟩,
    ⟨1, some 8, none, .e .call [] [], [.f 311, .t 7]⟩,
    ⟨2, some 2, none, .p .mov, [.t 8]⟩])
   (.ret))),
  [.tmp 2]⟩
/- loop.example/g00641/spec.l11Slow -/
def g333 : GL.Fn := ⟨.seq (.reg 0 [⟨0, some 2, none, .p .mov, [.c (.int .i64 0)]⟩])
   (.seq (.reg 0 [⟨0, some 3, none, .p .mov, [.t 0]⟩,
    ⟨1, some 4, none, .p (.bin .quo), [.t 3, .c (.int .i64 2)]⟩,
    ⟨2, some 5, none, .p (.bin .add), [.t 4, .c (.int .i64 1)]⟩,
    ⟨3, some 2, none, .p .mov, [.t 5]⟩])
   (.ret)),
  [.tmp 2]⟩
/- (*loop.example/g00641/spec.l1Cur).one -/
def g92 : GL.Fn := ⟨.seq (.reg 0 [⟨0, some 4, none, .p .mov, [.c (.bool false)]⟩])
   (.seq (.reg 0 [⟨0, some 5, none, .p .mov, [.t 0]⟩,
    ⟨1, some 6, none, .p .mov, [.t 1]⟩,
    ⟨2, some 7, none, .e .call [] [], [.f 91, .t 5, .t 6]⟩,
    ⟨3, some 8, none, .p (.bin .eql), [.t 7, .c (.int .i64 0)]⟩,
    ⟨4, some 4, none, .p .mov, [.t 8]⟩])
   (.ret)),
  [.tmp 4]⟩
/- (*loop.example/g00641/spec.l1Cur).next -/
def g140 : GL.Fn := ⟨.seq (.reg 0 [⟨0, some 2, none, .p .mov, [.c (.int .i64 0)]⟩])
   (.seq (.reg 0 [⟨0, some 3, none, .p .mov, [.c (.int .i64 0)]⟩])
   (.seq (.seq (.reg 0 [⟨0, some 4, none, .p .mov, [.t 0]⟩,
    ⟨1, some 5, none, .p .nilCheck, [.t 4]⟩,
    ⟨2, some 6, none, .p (.faddr 1), [.t 5]⟩,
    ⟨3, some 7, none, .r (.load false 1) false, [.t 6]⟩,
    ⟨4, some 8, none, .p .mov, [.t 0]⟩,
    ⟨5, some 9, none, .p .nilCheck, [.t 8]⟩,
    ⟨6, some 10, none, .p (.faddr 0), [.t 9]⟩,
    ⟨7, some 11, none, .r (.load false 1) false, [.t 10]⟩,
    ⟨8, some 12, none, .p .len, [.t 11]⟩,
    ⟨9, some 13, none, .p (.bin .lss), [.t 7, .t 12]⟩])
   (.cond (.t 13) (.reg 0 [⟨0, some 14, none, .p .mov, [.t 0]⟩,
    ⟨1, some 15, none, .p .nilCheck, [.t 14]⟩,
    ⟨2, some 16, none, .p (.faddr 0), [.t 15]⟩,
    ⟨3, some 17, none, .r (.load false 1) false, [.t 16]⟩,
    ⟨4, some 18, none, .p .mov, [.t 0]⟩,
    ⟨5, some 19, none, .p .nilCheck, [.t 18]⟩,
    ⟨6, some 20, none, .p (.faddr 1), [.t 19]⟩,
    ⟨7, some 21, none, .r (.load false 1) false, [.t 20]⟩,
    ⟨8, some 22, none, .p (.idx 1), [.t 17, .t 21]⟩,
    ⟨9, some 23, none, .r (.load false 1) false, [.t 22]⟩,
    ⟨10, some 24, none, .p (.conv .i64), [.t 23]⟩,
    ⟨11, some 3, none, .p .mov, [.t 24]⟩])
   (.skip)))
   (.seq (.reg 0 [⟨0, some 25, none, .p .mov, [.t 0]⟩,
    ⟨1, some 26, none, .p .nilCheck, [.t 25]⟩,
    ⟨2, some 27, none, .p (.faddr 1), [.t 26]⟩,
    ⟨3, some 28, none, .r (.load false 1) false, [.t 27]⟩,
    ⟨4, some 29, none, .p (.bin .add), [.t 28, .c (.int .i64 1)]⟩,
    ⟨5, some 30, none, .p .nilCheck, [.t 25]⟩,
    ⟨6, some 31, none, .p (.faddr 1), [.t 30]⟩,
    ⟨7, none, none, .e (.store 1) [] [], [.t 31, .t 29]⟩])
   (.seq (.reg 0 [⟨0, some 32, none, .p .mov, [.t 0]⟩,
    ⟨1, some 33, none, .p .mov, [.t 0]⟩,
    ⟨2, some 34, none, .p .nilCheck, [.t 33]⟩,
    ⟨3, some 35, none, .p (.faddr 2), [.t 34]⟩,
    ⟨4, some 36, none, .r (.load false 1) false, [.t 35]⟩,
    ⟨5, some 37, none, .p (.bin .mul), [.t 36, .c (.int .u64 6364136223846793005)]⟩,
    ⟨6, some 38, none, .p .mov, [.t 3]⟩,
    ⟨7, some 39, none, .p (.conv .u64), [.t 38]⟩,
    ⟨8, some 40, none, .p (.bin .add), [.t 37, .t 39]⟩,
    ⟨9, some 41, none, .p (.bin .add), [.t 40, .c (.int .u64 1442695040888963407)]⟩,
    ⟨10, some 42, none, .p .nilCheck, [.t 32]⟩,
    ⟨11, some 43, none, .p (.faddr 2), [.t 42]⟩,
    ⟨12, none, none, .e (.store 1) [] [], [.t 43, .t 41]⟩])
   (.seq (.seq (.reg 0 [⟨0, some 44, none, .p .mov, [.t 0]⟩,
    ⟨1, some 45, none, .p .nilCheck, [.t 44]⟩,
    ⟨2, some 46, none, .p (.faddr 1), [.t 45]⟩,
    ⟨3, some 47, none, .r (.load false 1) false, [.t 46]⟩,
    ⟨4, some 48, none, .p .mov, [.t 0]⟩,
    ⟨5, some 49, none, .p .nilCheck, [.t 48]⟩,
    ⟨6, some 50, none, .p (.faddr 0), [.t 49]⟩,
    ⟨7, some 51, none, .r (.load false 1) false, [.t 50]⟩,
    ⟨8, some 52, none, .p .len, [.t 51]⟩,
    ⟨9, some 53, none, .p (.bin .leq), [.t 47, .t 52]⟩])
   (.cond (.t 53) (.seq (.reg 0 [⟨0, some 54, none, .p .mov, [.t 3]⟩,
    ⟨1, some 2, none, .p .mov, [.t 54]⟩])
   (.ret))
   (.skip)))
   (.seq (.reg 0 [⟨0, some 55, none, .p .mov, [.t 0]⟩,
    ⟨1, some 56, none, .p .nilCheck, [.t 55]⟩,
    ⟨2, some 57, none, .p (.faddr 2), [.t 56]⟩,
    ⟨3, some 58, none, .r (.load false 1) false, [.t 57]⟩,
    ⟨4, some 59, none, .p (.bin .shr), [.t 58, .c (.int .u64 40)]⟩,
    ⟨5, some 60, none, .p (.bin .and), [.t 59, .c (.int .u64 255)]⟩,
    ⟨6, some 61, none, .p (.conv .i64), [.t 60]⟩,
    ⟨7, some 2, none, .p .mov, [.t 61]⟩])
   (.ret))))))),
  [.tmp 2]⟩
/- loop.example/g00641/impl.isRising -/
def g385_0 : GL.Code := .seq (.reg 0 [⟨0, some 12, none, .p (.bin .lss), [.t 11, .t 10]⟩])
   (.seq (.cond (.t 12) (.skip)
   (.exit 0))
   (.seq (.block 1 (.seq (.reg 0 [⟨0, some 13, none, .p .mov, [.t 11]⟩,
    ⟨1, some 14, none, .p (.idx 1), [.t 9, .t 11]⟩,
    ⟨2, some 15, none, .r (.load false 1) false, [.t 14]⟩,
    ⟨3, some 7, none, .p .mov, [.t 13]⟩,
    ⟨4, some 8, none, .p .mov, [.t 15]⟩])
   (.seq (.reg 0 [⟨0, some 16, none, .p .mov, [.t 8]⟩,
    ⟨1, some 17, none, .p .mov, [.t 1]⟩,
    ⟨2, some 18, none, .p .mov, [.t 2]⟩,
    ⟨3, some 19, none, .e .call [] [], [.f 107, .t 16, .t 17, .t 18]⟩,
    ⟨4, some 20, none, .p (.un .not), [.t 19]⟩,
    ⟨5, some 21, none, .p .mov, [.t 20]⟩,
    ⟨6, some 22, some (21, false), .p .mov, [.t 7]⟩,
    ⟨7, some 23, some (21, false), .p (.bin .gtr), [.t 22, .c (.int .i64 0)]⟩,
    ⟨8, some 24, some (21, false), .p .mov, [.t 23]⟩,
    ⟨9, some 25, some (24, true), .p .mov, [.t 0]⟩,
    ⟨10, some 26, some (24, true), .p .mov, [.t 7]⟩,
    ⟨11, some 27, some (24, true), .p (.bin .sub), [.t 26, .c (.int .i64 1)]⟩,
    ⟨12, some 28, some (24, true), .p (.idx 1), [.t 25, .t 27]⟩,
    ⟨13, some 29, some (24, true), .r (.load false 1) false, [.t 28]⟩,
    ⟨14, some 30, some (24, true), .p .mov, [.t 8]⟩,
    ⟨15, some 31, some (24, true), .p (.bin .geq), [.t 29, .t 30]⟩,
    ⟨16, some 32, some (21, false), .p .pick, [.t 24, .t 31, .c (.bool false)]⟩,
    ⟨17, some 33, none, .p .pick, [.t 21, .c (.bool true), .t 32]⟩])
   (.cond (.t 33) (.seq (.reg 0 [⟨0, some 6, none, .p .mov, [.c (.bool false)]⟩])
   (.ret))
   (.skip)))))
   (.reg 0 [⟨0, some 34, none, .p (.bin .add), [.t 11, .c (.int .i64 1)]⟩,
    ⟨1, some 11, none, .p .mov, [.t 34]⟩])))
def g385 : GL.Fn := ⟨.seq (.reg 0 [⟨0, some 6, none, .p .mov, [.c (.bool false)]⟩])
   (.seq (.seq (.reg 0 [⟨0, some 9, none, .p .mov, [.t 0]⟩,
    ⟨1, some 10, none, .p .len, [.t 9]⟩,
    ⟨2, some 11, none, .p .mov, [.c (.int .i64 0)]⟩])
   (.block 0 (.loop g385_0)))
   (.seq (.reg 0 [⟨0, some 6, none, .p .mov, [.c (.bool true)]⟩])
   (.ret))),
  [.tmp 6]⟩
/- slices.Clone[[]loop.example/g00641/impl.Place,loop.example/g00641/impl.Place] -/
def g393 : GL.Fn := ⟨.seq (.reg 0 [⟨0, some 2, none, .p .mov, [.c (.nils)]⟩])
   (.seq (.seq (.reg 0 [⟨0, some 3, none, .p .mov, [.t 0]⟩,
    ⟨1, some 4, none, .p (.isNil false), [.t 3]⟩])
   (.cond (.t 4) (.seq (.reg 0 [⟨0, some 2, none, .p .mov, [.c (.nils)]⟩])
   (.ret))
   (.skip)))
   (.seq (.reg 0 [⟨0, some 5, none, .e (.new (.lit 3)) [] [], []⟩,
    ⟨1, some 6, none, .p .mov, [.t 0]⟩,
    ⟨2, some 7, none, .e (.append 3 24) [] [], [.t 5, .t 6]⟩,
    ⟨3, some 2, none, .p .mov, [.t 7]⟩])
   (.ret))),
  [.tmp 2]⟩
/- loop.example/g00641/spec.l1Rising -/
def g337_0 : GL.Code := .seq (.reg 0 [⟨0, some 12, none, .p (.bin .lss), [.t 11, .t 10]⟩])
   (.seq (.cond (.t 12) (.skip)
   (.exit 0))
   (.seq (.block 1 (.seq (.reg 0 [⟨0, some 13, none, .p .mov, [.t 11]⟩,
    ⟨1, some 14, none, .p (.idx 1), [.t 9, .t 11]⟩,
    ⟨2, some 15, none, .r (.load false 1) false, [.t 14]⟩,
    ⟨3, some 7, none, .p .mov, [.t 13]⟩,
    ⟨4, some 8, none, .p .mov, [.t 15]⟩])
   (.seq (.reg 0 [⟨0, some 16, none, .p .mov, [.t 8]⟩,
    ⟨1, some 17, none, .p .mov, [.t 1]⟩,
    ⟨2, some 18, none, .p .mov, [.t 2]⟩,
    ⟨3, some 19, none, .e .call [] [], [.f 98, .t 16, .t 17, .t 18]⟩,
    ⟨4, some 20, none, .p (.un .not), [.t 19]⟩,
    ⟨5, some 21, none, .p .mov, [.t 20]⟩,
    ⟨6, some 22, some (21, false), .p .mov, [.t 7]⟩,
    ⟨7, some 23, some (21, false), .p (.bin .gtr), [.t 22, .c (.int .i64 0)]⟩,
    ⟨8, some 24, some (21, false), .p .mov, [.t 23]⟩,
    ⟨9, some 25, some (24, true), .p .mov, [.t 0]⟩,
    ⟨10, some 26, some (24, true), .p .mov, [.t 7]⟩,
    ⟨11, some 27, some (24, true), .p (.bin .sub), [.t 26, .c (.int .i64 1)]⟩,
    ⟨12, some 28, some (24, true), .p (.idx 1), [.t 25, .t 27]⟩,
    ⟨13, some 29, some (24, true), .r (.load false 1) false, [.t 28]⟩,
    ⟨14, some 30, some (24, true), .p .mov, [.t 8]⟩,
    ⟨15, some 31, some (24, true), .p (.bin .geq), [.t 29, .t 30]⟩,
    ⟨16, some 32, some (21, false), .p .pick, [.t 24, .t 31, .c (.bool false)]⟩,
    ⟨17, some 33, none, .p .pick, [.t 21, .c (.bool true), .t 32]⟩])
   (.cond (.t 33) (.seq (.reg 0 [⟨0, some 6, none, .p .mov, [.c (.bool false)]⟩])
   (.ret))
   (.skip)))))
   (.reg 0 [⟨0, some 34, none, .p (.bin .add), [.t 11, .c (.int .i64 1)]⟩,
    ⟨1, some 11, none, .p .mov, [.t 34]⟩])))
def g337 : GL.Fn := ⟨.seq (.reg 0 [⟨0, some 6, none, .p .mov, [.c (.bool false)]⟩])
   (.seq (.seq (.reg 0 [⟨0, some 9, none, .p .mov, [.t 0]⟩,
    ⟨1, some 10, none, .p .len, [.t 9]⟩,
    ⟨2, some 11, none, .p .mov, [.c (.int .i64 0)]⟩])
   (.block 0 (.loop g337_0)))
   (.seq (.reg 0 [⟨0, some 6, none, .p .mov, [.c (.bool true)]⟩])
   (.ret))),
  [.tmp 6]⟩
/- slices.IndexFunc[[]loop.example/g00641/impl.Place,loop.example/g00641/impl.Place] -/
def g394_0 : GL.Code := .seq (.reg 0 [⟨0, some 9, none, .p (.bin .lss), [.t 8, .t 7]⟩])
   (.seq (.cond (.t 9) (.skip)
   (.exit 0))
   (.seq (.block 1 (.seq (.reg 0 [⟨0, some 10, none, .p .mov, [.t 8]⟩,
    ⟨1, some 5, none, .p .mov, [.t 10]⟩])
   (.seq (.reg 0 [⟨0, some 11, none, .p .mov, [.t 1]⟩,
    ⟨1, some 12, none, .p .mov, [.t 0]⟩,
    ⟨2, some 13, none, .p .mov, [.t 5]⟩,
    ⟨3, some 14, none, .p (.idx 3), [.t 12, .t 13]⟩,
    ⟨4, some 15, none, .r (.load true 3) false, [.t 14]⟩,
    ⟨5, some 16, none, .e .call [] [], [.t 11, .t 15]⟩])
   (.cond (.t 16) (.seq (.reg 0 [⟨0, some 17, none, .p .mov, [.t 5]⟩,
    ⟨1, some 4, none, .p .mov, [.t 17]⟩])
   (.ret))
   (.skip)))))
   (.reg 0 [⟨0, some 18, none, .p (.bin .add), [.t 8, .c (.int .i64 1)]⟩,
    ⟨1, some 8, none, .p .mov, [.t 18]⟩])))
def g394 : GL.Fn := ⟨.seq (.reg 0 [⟨0, some 4, none, .p .mov, [.c (.int .i64 0)]⟩])
   (.seq (.seq (.reg 0 [⟨0, some 6, none, .p .mov, [.t 0]⟩,
    ⟨1, some 7, none, .p .len, [.t 6]⟩,
    ⟨2, some 8, none, .p .mov, [.c (.int .i64 0)]⟩])
   (.block 0 (.loop g394_0)))
   (.seq (.reg 0 [⟨0, some 4, none, .p .mov, [.c (.int .i64 (-1))]⟩])
   (.ret))),
  [.tmp 4]⟩
end GL
