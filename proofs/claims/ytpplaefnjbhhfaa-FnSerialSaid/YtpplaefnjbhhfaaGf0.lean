import Derived.Test.YtpplaefnjbhhfaaGlA
/- GL code of functions. -/
set_option linter.unusedSimpArgs false
set_option linter.unusedVariables false
set_option linter.unnecessarySimpa false
namespace GL
open Go
/- loop.example/g00641/laws.FnSerial -/
def g262_0 : GL.Code := .seq (.reg 0 [⟨0, some 119, none, .p (.bin .lss), [.t 118, .t 117]⟩])
   (.seq (.cond (.t 119) (.skip)
   (.exit 2))
   (.seq (.block 3 (.seq (.reg 0 [⟨0, some 120, none, .p (.idx 1), [.t 116, .t 118]⟩,
    ⟨1, some 121, none, .r (.load false 1) false, [.t 120]⟩,
    ⟨2, some 21, none, .p .mov, [.t 121]⟩])
   (.seq (.reg 0 [⟨0, some 122, none, .p .mov, [.t 10]⟩,
    ⟨1, some 123, none, .p .mov, [.t 19]⟩,
    ⟨2, some 124, none, .p (.bin .mul), [.c (.int .i64 4), .t 123]⟩,
    ⟨3, some 125, none, .p .mov, [.t 21]⟩,
    ⟨4, some 126, none, .p (.bin .add), [.t 124, .t 125]⟩,
    ⟨5, some 127, none, .p (.idx 1), [.t 122, .t 126]⟩,
    ⟨6, some 128, none, .r (.load false 1) false, [.t 127]⟩,
    ⟨7, some 129, none, .p (.bin .gtr), [.t 128, .c (.int .i64 0)]⟩])
   (.cond (.t 129) (.seq (.reg 0 [⟨0, some 4, none, .p .mov, [.c (.bool false)]⟩])
   (.ret))
   (.skip)))))
   (.reg 0 [⟨0, some 130, none, .p (.bin .add), [.t 118, .c (.int .i64 1)]⟩,
    ⟨1, some 118, none, .p .mov, [.t 130]⟩])))
def g262_1 : GL.Code := .seq (.reg 0 [⟨0, some 110, none, .p (.bin .lss), [.t 109, .t 108]⟩])
   (.seq (.cond (.t 110) (.skip)
   (.exit 0))
   (.seq (.block 1 (.seq (.reg 0 [⟨0, some 111, none, .p .mov, [.t 109]⟩,
    ⟨1, some 112, none, .p (.idx 1), [.t 107, .t 109]⟩,
    ⟨2, some 113, none, .r (.load false 1) false, [.t 112]⟩,
    ⟨3, some 18, none, .p .mov, [.t 111]⟩,
    ⟨4, some 19, none, .p .mov, [.t 113]⟩])
   (.seq (.reg 0 [⟨0, some 114, none, .p .mov, [.t 6]⟩,
    ⟨1, some 115, none, .p .mov, [.t 18]⟩,
    ⟨2, some 116, none, .p (.slice 1 false true false), [.t 114, .t 115]⟩,
    ⟨3, some 117, none, .p .len, [.t 116]⟩,
    ⟨4, some 118, none, .p .mov, [.c (.int .i64 0)]⟩])
   (.block 2 (.loop g262_0)))))
   (.reg 0 [⟨0, some 131, none, .p (.bin .add), [.t 109, .c (.int .i64 1)]⟩,
    ⟨1, some 109, none, .p .mov, [.t 131]⟩])))
def g262 : GL.Fn := ⟨.seq (.reg 0 [⟨0, some 4, none, .p .mov, [.c (.bool false)]⟩])
   (.seq (.seq (.reg 0 [⟨0, some 30, none, .p .mov, [.t 0]⟩,
    ⟨1, some 31, none, .p .len, [.t 30]⟩,
    ⟨2, some 32, none, .p .mov, [.t 1]⟩,
    ⟨3, some 33, none, .p .len, [.t 32]⟩,
    ⟨4, some 34, none, .p (.bin .add), [.t 31, .t 33]⟩,
    ⟨5, some 35, none, .p (.bin .gtr), [.t 34, .c (.int .i64 1048576)]⟩])
   (.cond (.t 35) (.seq (.reg 0 [⟨0, some 4, none, .p .mov, [.c (.bool true)]⟩])
   (.ret))
   (.skip)))
   (.seq (.reg 0 [⟨0, some 36, none, .p .mov, [.t 0]⟩,
    ⟨1, some 37, none, .e .call [] [], [.f 263, .t 36]⟩,
    ⟨2, some 5, none, .p .mov, [.t 37]⟩])
   (.seq (.reg 0 [⟨0, some 39, none, .p .mov, [.t 5]⟩,
    ⟨1, some 40, none, .e .call [] [], [.f 264, .t 39]⟩,
    ⟨2, some 38, none, .p .mov, [.t 40]⟩,
    ⟨3, some 41, none, .p (.extract 0), [.t 38]⟩,
    ⟨4, some 42, none, .p (.extract 1), [.t 38]⟩,
    ⟨5, some 6, none, .p .mov, [.t 41]⟩,
    ⟨6, some 7, none, .p .mov, [.t 42]⟩])
   (.seq (.reg 0 [⟨0, some 44, none, .p .mov, [.t 5]⟩,
    ⟨1, some 45, none, .e .call [] [], [.f 265, .t 44]⟩,
    ⟨2, some 43, none, .p .mov, [.t 45]⟩,
    ⟨3, some 46, none, .p (.extract 0), [.t 43]⟩,
    ⟨4, some 47, none, .p (.extract 1), [.t 43]⟩,
    ⟨5, some 8, none, .p .mov, [.t 46]⟩,
    ⟨6, some 9, none, .p .mov, [.t 47]⟩])
   (.seq (.reg 0 [⟨0, some 49, none, .p .mov, [.t 5]⟩,
    ⟨1, some 50, none, .e .call [] [], [.f 254, .t 49]⟩,
    ⟨2, some 48, none, .p .mov, [.t 50]⟩,
    ⟨3, some 51, none, .p (.extract 0), [.t 48]⟩,
    ⟨4, some 52, none, .p (.extract 1), [.t 48]⟩,
    ⟨5, some 10, none, .p .mov, [.t 51]⟩,
    ⟨6, some 11, none, .p .mov, [.t 52]⟩])
   (.seq (.reg 0 [⟨0, some 54, none, .p .mov, [.t 5]⟩,
    ⟨1, some 55, none, .e .call [] [], [.f 266, .t 54]⟩,
    ⟨2, some 53, none, .p .mov, [.t 55]⟩,
    ⟨3, some 56, none, .p (.extract 0), [.t 53]⟩,
    ⟨4, some 57, none, .p (.extract 1), [.t 53]⟩,
    ⟨5, some 12, none, .p .mov, [.t 56]⟩,
    ⟨6, some 13, none, .p .mov, [.t 57]⟩])
   (.seq (.seq (.reg 0 [⟨0, some 58, none, .p .mov, [.t 7]⟩,
    ⟨1, some 59, none, .p .mov, [.t 9]⟩,
    ⟨2, some 60, none, .p (.eqB true), [.t 58, .t 59]⟩,
    ⟨3, some 61, none, .p .mov, [.t 60]⟩,
    ⟨4, some 62, some (61, false), .p .mov, [.t 6]⟩,
    ⟨5, some 63, some (61, false), .p .mov, [.t 8]⟩,
    ⟨6, some 64, some (61, false), .e .call [] [], [.f 24, .t 62, .t 63]⟩,
    ⟨7, some 65, some (61, false), .p (.un .not), [.t 64]⟩,
    ⟨8, some 66, none, .p .pick, [.t 61, .c (.bool true), .t 65]⟩,
    ⟨9, some 67, none, .p .mov, [.t 66]⟩,
    ⟨10, some 68, some (67, false), .p .mov, [.t 11]⟩,
    ⟨11, some 69, some (67, false), .p .mov, [.t 13]⟩,
    ⟨12, some 70, some (67, false), .p (.eqB true), [.t 68, .t 69]⟩,
    ⟨13, some 71, none, .p .pick, [.t 67, .c (.bool true), .t 70]⟩,
    ⟨14, some 72, none, .p .mov, [.t 71]⟩,
    ⟨15, some 73, some (72, false), .p .mov, [.t 10]⟩,
    ⟨16, some 74, some (72, false), .p .mov, [.t 12]⟩,
    ⟨17, some 75, some (72, false), .e .call [] [], [.f 24, .t 73, .t 74]⟩,
    ⟨18, some 76, some (72, false), .p (.un .not), [.t 75]⟩,
    ⟨19, some 77, none, .p .pick, [.t 72, .c (.bool true), .t 76]⟩,
    ⟨20, some 78, none, .p .mov, [.t 77]⟩,
    ⟨21, some 79, some (78, false), .p .mov, [.t 5]⟩,
    ⟨22, some 80, some (78, false), .e .call [] [], [.f 267, .t 79]⟩,
    ⟨23, some 81, some (78, false), .p .mov, [.t 11]⟩,
    ⟨24, some 82, some (78, false), .p (.eqB true), [.t 80, .t 81]⟩,
    ⟨25, some 83, none, .p .pick, [.t 78, .c (.bool true), .t 82]⟩])
   (.cond (.t 83) (.seq (.reg 0 [⟨0, some 4, none, .p .mov, [.c (.bool false)]⟩])
   (.ret))
   (.skip)))
   (.seq (.seq (.reg 0 [⟨0, some 84, none, .p .mov, [.t 7]⟩])
   (.cond (.t 84) (.seq (.reg 0 [⟨0, some 86, none, .p .mov, [.t 5]⟩,
    ⟨1, some 87, none, .p .mov, [.t 6]⟩,
    ⟨2, some 88, none, .e .call [] [], [.f 268, .t 86, .t 87]⟩,
    ⟨3, some 85, none, .p .mov, [.t 88]⟩,
    ⟨4, some 89, none, .p (.extract 0), [.t 85]⟩,
    ⟨5, some 90, none, .p (.extract 1), [.t 85]⟩,
    ⟨6, some 14, none, .p .mov, [.t 89]⟩,
    ⟨7, some 15, none, .p .mov, [.t 90]⟩])
   (.seq (.reg 0 [⟨0, some 92, none, .p .mov, [.t 5]⟩,
    ⟨1, some 93, none, .p .mov, [.t 14]⟩,
    ⟨2, some 94, none, .e .call [] [], [.f 253, .t 92, .t 93]⟩,
    ⟨3, some 91, none, .p .mov, [.t 94]⟩,
    ⟨4, some 95, none, .p (.extract 0), [.t 91]⟩,
    ⟨5, some 96, none, .p (.extract 1), [.t 91]⟩,
    ⟨6, some 16, none, .p .mov, [.t 95]⟩,
    ⟨7, some 17, none, .p .mov, [.t 96]⟩])
   (.seq (.seq (.reg 0 [⟨0, some 97, none, .p .mov, [.t 15]⟩,
    ⟨1, some 98, none, .p (.un .not), [.t 97]⟩,
    ⟨2, some 99, none, .p .mov, [.t 98]⟩,
    ⟨3, some 100, some (99, false), .p .mov, [.t 17]⟩,
    ⟨4, some 101, some (99, false), .p (.un .not), [.t 100]⟩,
    ⟨5, some 102, none, .p .pick, [.t 99, .c (.bool true), .t 101]⟩,
    ⟨6, some 103, none, .p .mov, [.t 102]⟩,
    ⟨7, some 104, some (103, false), .p .mov, [.t 16]⟩,
    ⟨8, some 105, some (103, false), .p (.un .not), [.t 104]⟩,
    ⟨9, some 106, none, .p .pick, [.t 103, .c (.bool true), .t 105]⟩])
   (.cond (.t 106) (.seq (.reg 0 [⟨0, some 4, none, .p .mov, [.c (.bool false)]⟩])
   (.ret))
   (.skip)))
   (.seq (.reg 0 [⟨0, some 107, none, .p .mov, [.t 6]⟩,
    ⟨1, some 108, none, .p .len, [.t 107]⟩,
    ⟨2, some 109, none, .p .mov, [.c (.int .i64 0)]⟩])
   (.block 0 (.loop g262_1))))))
   (.skip)))
   (.seq (.reg 0 [⟨0, some 133, none, .p .mov, [.t 1]⟩,
    ⟨1, some 134, none, .e .call [] [], [.f 269, .t 133]⟩,
    ⟨2, some 132, none, .p .mov, [.t 134]⟩,
    ⟨3, some 135, none, .p (.extract 0), [.t 132]⟩,
    ⟨4, some 136, none, .p (.extract 1), [.t 132]⟩,
    ⟨5, some 22, none, .p .mov, [.t 135]⟩,
    ⟨6, some 23, none, .p .mov, [.t 136]⟩])
   (.seq (.reg 0 [⟨0, some 138, none, .p .mov, [.t 22]⟩,
    ⟨1, some 139, none, .p .mov, [.t 23]⟩,
    ⟨2, some 140, none, .e .call [] [], [.f 268, .t 138, .t 139]⟩,
    ⟨3, some 137, none, .p .mov, [.t 140]⟩,
    ⟨4, some 141, none, .p (.extract 0), [.t 137]⟩,
    ⟨5, some 142, none, .p (.extract 1), [.t 137]⟩,
    ⟨6, some 24, none, .p .mov, [.t 141]⟩,
    ⟨7, some 25, none, .p .mov, [.t 142]⟩])
   (.seq (.reg 0 [⟨0, some 144, none, .p .mov, [.t 22]⟩,
    ⟨1, some 145, none, .p .mov, [.t 23]⟩,
    ⟨2, some 146, none, .e .call [] [], [.f 270, .t 144, .t 145]⟩,
    ⟨3, some 143, none, .p .mov, [.t 146]⟩,
    ⟨4, some 147, none, .p (.extract 0), [.t 143]⟩,
    ⟨5, some 148, none, .p (.extract 1), [.t 143]⟩,
    ⟨6, some 26, none, .p .mov, [.t 147]⟩,
    ⟨7, some 27, none, .p .mov, [.t 148]⟩])
   (.seq (.seq (.reg 0 [⟨0, some 149, none, .p .mov, [.t 25]⟩,
    ⟨1, some 150, none, .p .mov, [.t 27]⟩,
    ⟨2, some 151, none, .p (.eqB true), [.t 149, .t 150]⟩,
    ⟨3, some 152, none, .p .mov, [.t 151]⟩,
    ⟨4, some 153, some (152, false), .p .mov, [.t 24]⟩,
    ⟨5, some 154, some (152, false), .p .mov, [.t 26]⟩,
    ⟨6, some 155, some (152, false), .e .call [] [], [.f 252, .t 153, .t 154]⟩,
    ⟨7, some 156, some (152, false), .p (.un .not), [.t 155]⟩,
    ⟨8, some 157, none, .p .pick, [.t 152, .c (.bool true), .t 156]⟩])
   (.cond (.t 157) (.seq (.reg 0 [⟨0, some 4, none, .p .mov, [.c (.bool false)]⟩])
   (.ret))
   (.skip)))
   (.seq (.seq (.reg 0 [⟨0, some 158, none, .p .mov, [.t 25]⟩])
   (.cond (.t 158) (.seq (.reg 0 [⟨0, some 160, none, .p .mov, [.t 24]⟩,
    ⟨1, some 161, none, .e .call [] [], [.f 264, .t 160]⟩,
    ⟨2, some 159, none, .p .mov, [.t 161]⟩,
    ⟨3, some 162, none, .p (.extract 0), [.t 159]⟩,
    ⟨4, some 163, none, .p (.extract 1), [.t 159]⟩,
    ⟨5, some 28, none, .p .mov, [.t 162]⟩,
    ⟨6, some 29, none, .p .mov, [.t 163]⟩])
   (.seq (.reg 0 [⟨0, some 164, none, .p .mov, [.t 29]⟩,
    ⟨1, some 4, none, .p .mov, [.t 164]⟩])
   (.ret)))
   (.skip)))
   (.seq (.reg 0 [⟨0, some 4, none, .p .mov, [.c (.bool true)]⟩])
   (.ret))))))))))))))),
  [.tmp 4]⟩
/- loop.example/g00641/laws.sameActs -/
def g252_0 : GL.Code := .seq (.reg 0 [⟨0, some 14, none, .p (.bin .lss), [.t 13, .t 12]⟩])
   (.seq (.cond (.t 14) (.skip)
   (.exit 0))
   (.seq (.block 1 (.seq (.reg 0 [⟨0, some 15, none, .p .mov, [.t 13]⟩,
    ⟨1, some 5, none, .p .mov, [.t 15]⟩])
   (.seq (.reg 0 [⟨0, some 16, none, .p .mov, [.t 0]⟩,
    ⟨1, some 17, none, .p .mov, [.t 5]⟩,
    ⟨2, some 18, none, .p (.idx 3), [.t 16, .t 17]⟩,
    ⟨3, some 19, none, .r (.load true 3) false, [.t 18]⟩,
    ⟨4, some 20, none, .p .mov, [.t 1]⟩,
    ⟨5, some 21, none, .p .mov, [.t 5]⟩,
    ⟨6, some 22, none, .p (.idx 3), [.t 20, .t 21]⟩,
    ⟨7, some 23, none, .r (.load true 3) false, [.t 22]⟩,
    ⟨8, some 24, none, .p (.eqAgg true [some .i64, some .i64, none]), [.t 19, .t 23]⟩])
   (.cond (.t 24) (.seq (.reg 0 [⟨0, some 4, none, .p .mov, [.c (.bool false)]⟩])
   (.ret))
   (.skip)))))
   (.reg 0 [⟨0, some 25, none, .p (.bin .add), [.t 13, .c (.int .i64 1)]⟩,
    ⟨1, some 13, none, .p .mov, [.t 25]⟩])))
def g252 : GL.Fn := ⟨.seq (.reg 0 [⟨0, some 4, none, .p .mov, [.c (.bool false)]⟩])
   (.seq (.seq (.reg 0 [⟨0, some 6, none, .p .mov, [.t 0]⟩,
    ⟨1, some 7, none, .p .len, [.t 6]⟩,
    ⟨2, some 8, none, .p .mov, [.t 1]⟩,
    ⟨3, some 9, none, .p .len, [.t 8]⟩,
    ⟨4, some 10, none, .p (.bin .neq), [.t 7, .t 9]⟩])
   (.cond (.t 10) (.seq (.reg 0 [⟨0, some 4, none, .p .mov, [.c (.bool false)]⟩])
   (.ret))
   (.skip)))
   (.seq (.seq (.reg 0 [⟨0, some 11, none, .p .mov, [.t 0]⟩,
    ⟨1, some 12, none, .p .len, [.t 11]⟩,
    ⟨2, some 13, none, .p .mov, [.c (.int .i64 0)]⟩])
   (.block 0 (.loop g252_0)))
   (.seq (.reg 0 [⟨0, some 4, none, .p .mov, [.c (.bool true)]⟩])
   (.ret)))),
  [.tmp 4]⟩
/- loop.example/g00641/impl.SameEffect -/
def g253_0 : GL.Code := .seq (.reg 0 [⟨0, some 17, none, .p (.bin .lss), [.t 16, .c (.int .i64 4)]⟩])
   (.seq (.cond (.t 17) (.skip)
   (.exit 0))
   (.seq (.block 1 (.seq (.reg 0 [⟨0, some 18, none, .p .mov, [.t 16]⟩,
    ⟨1, some 6, none, .p .mov, [.t 18]⟩])
   (.seq (.reg 0 [⟨0, some 19, none, .p .mov, [.t 0]⟩,
    ⟨1, some 20, none, .p .mov, [.t 6]⟩,
    ⟨2, some 21, none, .e .call [] [], [.f 347, .t 19, .t 20]⟩,
    ⟨3, some 22, none, .p .mov, [.t 1]⟩,
    ⟨4, some 23, none, .p .mov, [.t 6]⟩,
    ⟨5, some 24, none, .e .call [] [], [.f 347, .t 22, .t 23]⟩,
    ⟨6, some 25, none, .e .call [] [], [.f 348, .t 21, .t 24]⟩,
    ⟨7, some 26, none, .p (.un .not), [.t 25]⟩,
    ⟨8, some 27, none, .p .mov, [.t 26]⟩,
    ⟨9, some 28, some (27, false), .p .mov, [.t 0]⟩,
    ⟨10, some 29, some (27, false), .p .mov, [.t 6]⟩,
    ⟨11, some 30, some (27, false), .e .call [] [], [.f 349, .t 28, .t 29]⟩,
    ⟨12, some 31, some (27, false), .p .mov, [.t 1]⟩,
    ⟨13, some 32, some (27, false), .p .mov, [.t 6]⟩,
    ⟨14, some 33, some (27, false), .e .call [] [], [.f 349, .t 31, .t 32]⟩,
    ⟨15, some 34, some (27, false), .e .call [] [], [.f 350, .t 30, .t 33]⟩,
    ⟨16, some 35, some (27, false), .p (.un .not), [.t 34]⟩,
    ⟨17, some 36, none, .p .pick, [.t 27, .c (.bool true), .t 35]⟩])
   (.cond (.t 36) (.seq (.reg 0 [⟨0, some 4, none, .p .mov, [.c (.bool false)]⟩,
    ⟨1, some 5, none, .p .mov, [.c (.bool true)]⟩])
   (.ret))
   (.skip)))))
   (.reg 0 [⟨0, some 37, none, .p (.bin .add), [.t 16, .c (.int .i64 1)]⟩,
    ⟨1, some 16, none, .p .mov, [.t 37]⟩])))
def g253_1 : GL.Code := .seq (.reg 0 [⟨0, some 39, none, .p (.bin .lss), [.t 38, .c (.int .i64 4)]⟩])
   (.seq (.cond (.t 39) (.skip)
   (.exit 2))
   (.seq (.block 3 (.seq (.reg 0 [⟨0, some 40, none, .p .mov, [.t 38]⟩,
    ⟨1, some 7, none, .p .mov, [.t 40]⟩])
   (.seq (.reg 0 [⟨0, some 41, none, .p .mov, [.t 0]⟩,
    ⟨1, some 42, none, .p .mov, [.t 0]⟩,
    ⟨2, some 43, none, .p .mov, [.t 7]⟩,
    ⟨3, some 44, none, .e .call [] [], [.f 351, .t 42, .t 43]⟩,
    ⟨4, some 45, none, .e .call [] [], [.f 352, .t 41, .t 44]⟩,
    ⟨5, some 46, none, .p .mov, [.t 1]⟩,
    ⟨6, some 47, none, .p .mov, [.t 1]⟩,
    ⟨7, some 48, none, .p .mov, [.t 7]⟩,
    ⟨8, some 49, none, .e .call [] [], [.f 351, .t 47, .t 48]⟩,
    ⟨9, some 50, none, .e .call [] [], [.f 352, .t 46, .t 49]⟩,
    ⟨10, some 51, none, .p (.eqAgg true [some .i64, some .i64]), [.t 45, .t 50]⟩])
   (.cond (.t 51) (.seq (.reg 0 [⟨0, some 4, none, .p .mov, [.c (.bool false)]⟩,
    ⟨1, some 5, none, .p .mov, [.c (.bool true)]⟩])
   (.ret))
   (.skip)))))
   (.reg 0 [⟨0, some 52, none, .p (.bin .add), [.t 38, .c (.int .i64 1)]⟩,
    ⟨1, some 38, none, .p .mov, [.t 52]⟩])))
def g253 : GL.Fn := ⟨.seq (.reg 0 [⟨0, some 4, none, .p .mov, [.c (.bool false)]⟩,
    ⟨1, some 5, none, .p .mov, [.c (.bool false)]⟩])
   (.seq (.seq (.reg 0 [⟨0, some 8, none, .p .mov, [.t 0]⟩,
    ⟨1, some 9, none, .e .call [] [], [.f 267, .t 8]⟩,
    ⟨2, some 10, none, .p (.un .not), [.t 9]⟩,
    ⟨3, some 11, none, .p .mov, [.t 10]⟩,
    ⟨4, some 12, some (11, false), .p .mov, [.t 1]⟩,
    ⟨5, some 13, some (11, false), .e .call [] [], [.f 267, .t 12]⟩,
    ⟨6, some 14, some (11, false), .p (.un .not), [.t 13]⟩,
    ⟨7, some 15, none, .p .pick, [.t 11, .c (.bool true), .t 14]⟩])
   (.cond (.t 15) (.seq (.reg 0 [⟨0, some 4, none, .p .mov, [.c (.bool false)]⟩,
    ⟨1, some 5, none, .p .mov, [.c (.bool false)]⟩])
   (.ret))
   (.skip)))
   (.seq (.seq (.reg 0 [⟨0, some 16, none, .p .mov, [.c (.int .i64 0)]⟩])
   (.block 0 (.loop g253_0)))
   (.seq (.seq (.reg 0 [⟨0, some 38, none, .p .mov, [.c (.int .i64 0)]⟩])
   (.block 2 (.loop g253_1)))
   (.seq (.reg 0 [⟨0, some 4, none, .p .mov, [.c (.bool true)]⟩,
    ⟨1, some 5, none, .p .mov, [.c (.bool true)]⟩])
   (.ret))))),
  [.tmp 4, .tmp 5]⟩
/- loop.example/g00641/impl.ConflictsOf -/
def g254 : GL.Fn := ⟨.seq (.reg 0 [⟨0, some 2, none, .p .mov, [.c (.nils)]⟩,
    ⟨1, some 3, none, .p .mov, [.c (.bool false)]⟩])
   (.seq (.seq (.reg 0 [⟨0, some 4, none, .p .mov, [.t 0]⟩,
    ⟨1, some 5, none, .e .call [] [], [.f 267, .t 4]⟩,
    ⟨2, some 6, none, .p (.un .not), [.t 5]⟩])
   (.cond (.t 6) (.seq (.reg 0 [⟨0, some 2, none, .p .mov, [.c (.nils)]⟩,
    ⟨1, some 3, none, .p .mov, [.c (.bool false)]⟩])
   (.ret))
   (.skip)))
   (.seq (.reg 0 [⟨0, some 7, none, .p .mov, [.t 0]⟩,
    ⟨1, some 8, none, .e .call [] [], [.f 353, .t 7]⟩,
    ⟨2, some 2, none, .p .mov, [.t 8]⟩,
    ⟨3, some 3, none, .p .mov, [.c (.bool true)]⟩])
   (.ret))),
  [.tmp 2, .tmp 3]⟩
/- loop.example/g00641/laws.sameInts -/
def g24_0 : GL.Code := .seq (.reg 0 [⟨0, some 14, none, .p (.bin .lss), [.t 13, .t 12]⟩])
   (.seq (.cond (.t 14) (.skip)
   (.exit 0))
   (.seq (.block 1 (.seq (.reg 0 [⟨0, some 15, none, .p .mov, [.t 13]⟩,
    ⟨1, some 5, none, .p .mov, [.t 15]⟩])
   (.seq (.reg 0 [⟨0, some 16, none, .p .mov, [.t 0]⟩,
    ⟨1, some 17, none, .p .mov, [.t 5]⟩,
    ⟨2, some 18, none, .p (.idx 1), [.t 16, .t 17]⟩,
    ⟨3, some 19, none, .r (.load false 1) false, [.t 18]⟩,
    ⟨4, some 20, none, .p .mov, [.t 1]⟩,
    ⟨5, some 21, none, .p .mov, [.t 5]⟩,
    ⟨6, some 22, none, .p (.idx 1), [.t 20, .t 21]⟩,
    ⟨7, some 23, none, .r (.load false 1) false, [.t 22]⟩,
    ⟨8, some 24, none, .p (.bin .neq), [.t 19, .t 23]⟩])
   (.cond (.t 24) (.seq (.reg 0 [⟨0, some 4, none, .p .mov, [.c (.bool false)]⟩])
   (.ret))
   (.skip)))))
   (.reg 0 [⟨0, some 25, none, .p (.bin .add), [.t 13, .c (.int .i64 1)]⟩,
    ⟨1, some 13, none, .p .mov, [.t 25]⟩])))
def g24 : GL.Fn := ⟨.seq (.reg 0 [⟨0, some 4, none, .p .mov, [.c (.bool false)]⟩])
   (.seq (.seq (.reg 0 [⟨0, some 6, none, .p .mov, [.t 0]⟩,
    ⟨1, some 7, none, .p .len, [.t 6]⟩,
    ⟨2, some 8, none, .p .mov, [.t 1]⟩,
    ⟨3, some 9, none, .p .len, [.t 8]⟩,
    ⟨4, some 10, none, .p (.bin .neq), [.t 7, .t 9]⟩])
   (.cond (.t 10) (.seq (.reg 0 [⟨0, some 4, none, .p .mov, [.c (.bool false)]⟩])
   (.ret))
   (.skip)))
   (.seq (.seq (.reg 0 [⟨0, some 11, none, .p .mov, [.t 0]⟩,
    ⟨1, some 12, none, .p .len, [.t 11]⟩,
    ⟨2, some 13, none, .p .mov, [.c (.int .i64 0)]⟩])
   (.block 0 (.loop g24_0)))
   (.seq (.reg 0 [⟨0, some 4, none, .p .mov, [.c (.bool true)]⟩])
   (.ret)))),
  [.tmp 4]⟩
/- loop.example/g00641/spec.DrawSerialOf -/
def g263 : GL.Fn := ⟨.seq (.reg 0 [⟨0, some 2, none, .p .mov, [.c (.nils)]⟩])
   (.seq (.reg 0 [⟨0, some 3, none, .p .mov, [.t 0]⟩,
    ⟨1, some 4, none, .e .call [] [], [.f 357, .t 3]⟩,
    ⟨2, some 2, none, .p .mov, [.t 4]⟩])
   (.ret)),
  [.tmp 2]⟩
/- loop.example/g00641/impl.SerialOf -/
def g264 : GL.Fn := ⟨.seq (.reg 0 [⟨0, some 2, none, .p .mov, [.c (.nils)]⟩,
    ⟨1, some 3, none, .p .mov, [.c (.bool false)]⟩])
   (.seq (.seq (.reg 0 [⟨0, some 4, none, .p .mov, [.t 0]⟩,
    ⟨1, some 5, none, .e .call [] [], [.f 267, .t 4]⟩,
    ⟨2, some 6, none, .p (.un .not), [.t 5]⟩])
   (.cond (.t 6) (.seq (.reg 0 [⟨0, some 2, none, .p .mov, [.c (.nils)]⟩,
    ⟨1, some 3, none, .p .mov, [.c (.bool false)]⟩])
   (.ret))
   (.skip)))
   (.seq (.reg 0 [⟨0, some 7, none, .p .mov, [.t 0]⟩,
    ⟨1, some 8, none, .e .call [] [], [.f 360, .t 7]⟩,
    ⟨2, some 9, none, .p (.extract 0), [.t 8]⟩,
    ⟨3, some 10, none, .p (.extract 1), [.t 8]⟩,
    ⟨4, some 2, none, .p .mov, [.t 9]⟩,
    ⟨5, some 3, none, .p .mov, [.t 10]⟩])
   (.ret))),
  [.tmp 2, .tmp 3]⟩
/- loop.example/g00641/spec.SerialOf -/
def g265 : GL.Fn := ⟨.seq (.reg 0 [⟨0, some 2, none, .p .mov, [.c (.nils)]⟩,
    ⟨1, some 3, none, .p .mov, [.c (.bool false)]⟩])
   (.seq (.seq (.reg 0 [⟨0, some 5, none, .p .mov, [.t 0]⟩,
    ⟨1, some 6, none, .e .call [] [], [.f 345, .t 5]⟩,
    ⟨2, some 7, none, .p (.un .not), [.t 6]⟩])
   (.cond (.t 7) (.seq (.reg 0 [⟨0, some 2, none, .p .mov, [.c (.nils)]⟩,
    ⟨1, some 3, none, .p .mov, [.c (.bool false)]⟩])
   (.ret))
   (.skip)))
   (.seq (.reg 0 [⟨0, some 8, none, .p .mov, [.t 0]⟩,
    ⟨1, some 9, none, .e .call [] [], [.f 361, .t 8]⟩,
    ⟨2, some 10, none, .e .call [] [], [.f 362, .t 9]⟩,
    ⟨3, some 4, none, .p .mov, [.t 10]⟩])
   (.seq (.reg 0 [⟨0, some 11, none, .p .mov, [.t 4]⟩,
    ⟨1, some 12, none, .p .mov, [.t 4]⟩,
    ⟨2, some 13, none, .p .len, [.t 12]⟩,
    ⟨3, some 14, none, .p (.bin .gtr), [.t 13, .c (.int .i64 0)]⟩,
    ⟨4, some 2, none, .p .mov, [.t 11]⟩,
    ⟨5, some 3, none, .p .mov, [.t 14]⟩])
   (.ret)))),
  [.tmp 2, .tmp 3]⟩
/- loop.example/g00641/spec.ConflictsOf -/
def g266 : GL.Fn := ⟨.seq (.reg 0 [⟨0, some 2, none, .p .mov, [.c (.nils)]⟩,
    ⟨1, some 3, none, .p .mov, [.c (.bool false)]⟩])
   (.seq (.seq (.reg 0 [⟨0, some 4, none, .p .mov, [.t 0]⟩,
    ⟨1, some 5, none, .e .call [] [], [.f 345, .t 4]⟩,
    ⟨2, some 6, none, .p (.un .not), [.t 5]⟩])
   (.cond (.t 6) (.seq (.reg 0 [⟨0, some 2, none, .p .mov, [.c (.nils)]⟩,
    ⟨1, some 3, none, .p .mov, [.c (.bool false)]⟩])
   (.ret))
   (.skip)))
   (.seq (.reg 0 [⟨0, some 7, none, .p .mov, [.t 0]⟩,
    ⟨1, some 8, none, .e .call [] [], [.f 361, .t 7]⟩,
    ⟨2, some 2, none, .p .mov, [.t 8]⟩,
    ⟨3, some 3, none, .p .mov, [.c (.bool true)]⟩])
   (.ret))),
  [.tmp 2, .tmp 3]⟩
/- loop.example/g00641/impl.GoodPlay -/
def g267 : GL.Fn := ⟨.seq (.reg 0 [⟨0, some 2, none, .p .mov, [.c (.bool false)]⟩])
   (.seq (.reg 0 [⟨0, some 3, none, .p .mov, [.t 0]⟩,
    ⟨1, some 4, none, .p .len, [.t 3]⟩,
    ⟨2, some 5, none, .p (.bin .leq), [.t 4, .c (.int .i64 16)]⟩,
    ⟨3, some 6, none, .p .mov, [.t 5]⟩,
    ⟨4, some 7, some (6, true), .p .mov, [.t 0]⟩,
    ⟨5, some 8, some (6, true), .e .call [] [], [.f 363, .t 7, .f 364]⟩,
    ⟨6, some 9, some (6, true), .p (.un .not), [.t 8]⟩,
    ⟨7, some 10, none, .p .pick, [.t 6, .t 9, .c (.bool false)]⟩,
    ⟨8, some 2, none, .p .mov, [.t 10]⟩])
   (.ret)),
  [.tmp 2]⟩
/- loop.example/g00641/impl.OneByOne -/
def g268_0 : GL.Code := .seq (.reg 0 [⟨0, some 21, none, .p (.bin .lss), [.t 20, .t 19]⟩])
   (.seq (.cond (.t 21) (.skip)
   (.exit 0))
   (.seq (.block 1 (.seq (.reg 0 [⟨0, some 22, none, .p (.idx 1), [.t 18, .t 20]⟩,
    ⟨1, some 23, none, .r (.load false 1) false, [.t 22]⟩,
    ⟨2, some 8, none, .p .mov, [.t 23]⟩])
   (.reg 0 [⟨0, some 24, none, .p .mov, [.t 6]⟩,
    ⟨1, some 25, none, .p .mov, [.t 0]⟩,
    ⟨2, some 26, none, .p .mov, [.t 8]⟩,
    ⟨3, some 27, none, .e .call [] [], [.f 347, .t 25, .t 26]⟩,
    ⟨4, some 28, none, .e (.append 3 24) [] [], [.t 24, .t 27]⟩,
    ⟨5, some 6, none, .p .mov, [.t 28]⟩])))
   (.reg 0 [⟨0, some 29, none, .p (.bin .add), [.t 20, .c (.int .i64 1)]⟩,
    ⟨1, some 20, none, .p .mov, [.t 29]⟩])))
def g268 : GL.Fn := ⟨.seq (.reg 0 [⟨0, some 4, none, .p .mov, [.c (.nils)]⟩,
    ⟨1, some 5, none, .p .mov, [.c (.bool false)]⟩])
   (.seq (.seq (.reg 0 [⟨0, some 9, none, .p .mov, [.t 0]⟩,
    ⟨1, some 10, none, .e .call [] [], [.f 267, .t 9]⟩,
    ⟨2, some 11, none, .p (.un .not), [.t 10]⟩,
    ⟨3, some 12, none, .p .mov, [.t 11]⟩,
    ⟨4, some 13, some (12, false), .p .mov, [.t 1]⟩,
    ⟨5, some 14, some (12, false), .e .call [] [], [.f 365, .t 13]⟩,
    ⟨6, some 15, some (12, false), .p (.un .not), [.t 14]⟩,
    ⟨7, some 16, none, .p .pick, [.t 12, .c (.bool true), .t 15]⟩])
   (.cond (.t 16) (.seq (.reg 0 [⟨0, some 4, none, .p .mov, [.c (.nils)]⟩,
    ⟨1, some 5, none, .p .mov, [.c (.bool false)]⟩])
   (.ret))
   (.skip)))
   (.seq (.reg 0 [⟨0, some 17, none, .e (.new (.lit 3)) [] [], []⟩,
    ⟨1, some 6, none, .p .mov, [.t 17]⟩])
   (.seq (.seq (.reg 0 [⟨0, some 18, none, .p .mov, [.t 1]⟩,
    ⟨1, some 19, none, .p .len, [.t 18]⟩,
    ⟨2, some 20, none, .p .mov, [.c (.int .i64 0)]⟩])
   (.block 0 (.loop g268_0)))
   (.seq (.reg 0 [⟨0, some 30, none, .p .mov, [.t 6]⟩,
    ⟨1, some 4, none, .p .mov, [.t 30]⟩,
    ⟨2, some 5, none, .p .mov, [.c (.bool true)]⟩])
   (.ret))))),
  [.tmp 4, .tmp 5]⟩
/- loop.example/g00641/spec.DrawOneByOne -/
def g269 : GL.Fn := ⟨.seq (.reg 0 [⟨0, some 2, none, .p .mov, [.c (.nils)]⟩,
    ⟨1, some 3, none, .p .mov, [.c (.nils)]⟩])
   (.seq (.reg 0 [⟨0, some 7, none, .p .mov, [.t 0]⟩,
    ⟨1, some 8, none, .p (.build [.nils, .int .i64 0, .int .u64 0] [(0, 1)]), [.t 7]⟩,
    ⟨2, some 9, none, .e (.new (.box 3)) [] [], [.t 8]⟩,
    ⟨3, some 4, none, .p .mov, [.t 9]⟩])
   (.seq (.reg 0 [⟨0, some 10, none, .p .mov, [.t 4]⟩,
    ⟨1, some 11, none, .e .call [] [], [.f 342, .t 10]⟩,
    ⟨2, some 5, none, .p .mov, [.t 11]⟩])
   (.seq (.reg 0 [⟨0, some 12, none, .e (.new (.lit 1)) [] [], [.c (.int .i64 0), .c (.int .i64 1), .c (.int .i64 2), .c (.int .i64 3)]⟩,
    ⟨1, some 13, none, .e (.new (.lit 1)) [] [], [.c (.int .i64 3), .c (.int .i64 2), .c (.int .i64 1), .c (.int .i64 0)]⟩,
    ⟨2, some 14, none, .e (.new (.lit 1)) [] [], [.c (.int .i64 1), .c (.int .i64 0), .c (.int .i64 3), .c (.int .i64 2)]⟩,
    ⟨3, some 15, none, .e (.new (.lit 1)) [] [], [.c (.int .i64 0), .c (.int .i64 1), .c (.int .i64 2)]⟩,
    ⟨4, some 16, none, .e (.new (.lit 1)) [] [], [.c (.int .i64 0), .c (.int .i64 0), .c (.int .i64 1), .c (.int .i64 2)]⟩,
    ⟨5, some 17, none, .e (.new (.lit 1)) [] [], [.t 12, .t 13, .t 14, .t 15, .t 16]⟩,
    ⟨6, some 18, none, .p .mov, [.t 4]⟩,
    ⟨7, some 19, none, .e .call [] [], [.f 91, .t 18, .c (.int .i64 5)]⟩,
    ⟨8, some 20, none, .p (.idx 1), [.t 17, .t 19]⟩,
    ⟨9, some 21, none, .r (.load false 1) false, [.t 20]⟩,
    ⟨10, some 6, none, .p .mov, [.t 21]⟩])
   (.seq (.reg 0 [⟨0, some 22, none, .p .mov, [.t 5]⟩,
    ⟨1, some 23, none, .p .mov, [.t 6]⟩,
    ⟨2, some 2, none, .p .mov, [.t 22]⟩,
    ⟨3, some 3, none, .p .mov, [.t 23]⟩])
   (.ret))))),
  [.tmp 2, .tmp 3]⟩
/- loop.example/g00641/spec.OneByOne -/
def g270_0 : GL.Code := .seq (.reg 0 [⟨0, some 20, none, .p (.bin .lss), [.t 19, .t 18]⟩])
   (.seq (.cond (.t 20) (.skip)
   (.exit 0))
   (.seq (.block 1 (.seq (.reg 0 [⟨0, some 21, none, .p (.idx 1), [.t 17, .t 19]⟩,
    ⟨1, some 22, none, .r (.load false 1) false, [.t 21]⟩,
    ⟨2, some 8, none, .p .mov, [.t 22]⟩])
   (.reg 0 [⟨0, some 23, none, .p .mov, [.t 6]⟩,
    ⟨1, some 24, none, .p .mov, [.t 0]⟩,
    ⟨2, some 25, none, .p .mov, [.t 8]⟩,
    ⟨3, some 26, none, .e .call [] [], [.f 354, .t 24, .t 25]⟩,
    ⟨4, some 27, none, .e (.append 3 24) [] [], [.t 23, .t 26]⟩,
    ⟨5, some 6, none, .p .mov, [.t 27]⟩])))
   (.reg 0 [⟨0, some 28, none, .p (.bin .add), [.t 19, .c (.int .i64 1)]⟩,
    ⟨1, some 19, none, .p .mov, [.t 28]⟩])))
def g270 : GL.Fn := ⟨.seq (.reg 0 [⟨0, some 4, none, .p .mov, [.c (.nils)]⟩,
    ⟨1, some 5, none, .p .mov, [.c (.bool false)]⟩])
   (.seq (.seq (.reg 0 [⟨0, some 9, none, .p .mov, [.t 0]⟩,
    ⟨1, some 10, none, .e .call [] [], [.f 345, .t 9]⟩,
    ⟨2, some 11, none, .p (.un .not), [.t 10]⟩,
    ⟨3, some 12, none, .p .mov, [.t 11]⟩,
    ⟨4, some 13, some (12, false), .p .mov, [.t 1]⟩,
    ⟨5, some 14, some (12, false), .e .call [] [], [.f 366, .t 13]⟩,
    ⟨6, some 15, some (12, false), .p (.un .not), [.t 14]⟩,
    ⟨7, some 16, none, .p .pick, [.t 12, .c (.bool true), .t 15]⟩])
   (.cond (.t 16) (.seq (.reg 0 [⟨0, some 4, none, .p .mov, [.c (.nils)]⟩,
    ⟨1, some 5, none, .p .mov, [.c (.bool false)]⟩])
   (.ret))
   (.skip)))
   (.seq (.reg 0 [⟨0, some 6, none, .p .mov, [.c (.nils)]⟩])
   (.seq (.seq (.reg 0 [⟨0, some 17, none, .p .mov, [.t 1]⟩,
    ⟨1, some 18, none, .p .len, [.t 17]⟩,
    ⟨2, some 19, none, .p .mov, [.c (.int .i64 0)]⟩])
   (.block 0 (.loop g270_0)))
   (.seq (.reg 0 [⟨0, some 29, none, .p .mov, [.t 6]⟩,
    ⟨1, some 4, none, .p .mov, [.t 29]⟩,
    ⟨2, some 5, none, .p .mov, [.c (.bool true)]⟩])
   (.ret))))),
  [.tmp 4, .tmp 5]⟩
/- (*loop.example/g00641/spec.l1Cur).play -/
def g342_0 : GL.Code := .seq (.seq (.reg 0 [⟨0, some 12, none, .p .mov, [.t 4]⟩,
    ⟨1, some 13, none, .p (.bin .gtr), [.t 12, .c (.int .i64 0)]⟩])
   (.cond (.t 13) (.skip)
   (.exit 0)))
   (.seq (.block 1 (.reg 0 [⟨0, some 16, none, .p .mov, [.t 3]⟩,
    ⟨1, some 17, none, .p .mov, [.t 0]⟩,
    ⟨2, some 18, none, .e .call [] [], [.f 91, .t 17, .c (.int .i64 4)]⟩,
    ⟨3, some 19, none, .p .mov, [.t 0]⟩,
    ⟨4, some 20, none, .e .call [] [], [.f 91, .t 19, .c (.int .i64 3)]⟩,
    ⟨5, some 21, none, .p .mov, [.t 0]⟩,
    ⟨6, some 22, none, .e .call [] [], [.f 92, .t 21, .c (.int .i64 2)]⟩,
    ⟨7, some 23, none, .p (.build [.int .i64 0, .int .i64 0, .bool false] [(0, 1), (1, 1), (2, 1)]), [.t 18, .t 20, .t 22]⟩,
    ⟨8, some 24, none, .e (.new (.lit 3)) [] [], [.t 23]⟩,
    ⟨9, some 25, none, .e (.append 3 24) [] [], [.t 16, .t 24]⟩,
    ⟨10, some 3, none, .p .mov, [.t 25]⟩]))
   (.reg 0 [⟨0, some 14, none, .p .mov, [.t 4]⟩,
    ⟨1, some 15, none, .p (.bin .sub), [.t 14, .c (.int .i64 1)]⟩,
    ⟨2, some 4, none, .p .mov, [.t 15]⟩]))
def g342 : GL.Fn := ⟨.seq (.reg 0 [⟨0, some 2, none, .p .mov, [.c (.nils)]⟩])
   (.seq (.reg 0 [⟨0, some 3, none, .p .mov, [.c (.nils)]⟩])
   (.seq (.reg 0 [⟨0, some 5, none, .p .mov, [.t 0]⟩,
    ⟨1, some 6, none, .e .call [] [], [.f 91, .t 5, .c (.int .i64 10)]⟩,
    ⟨2, some 4, none, .p .mov, [.t 6]⟩])
   (.seq (.seq (.reg 0 [⟨0, some 7, none, .p .mov, [.t 0]⟩,
    ⟨1, some 8, none, .e .call [] [], [.f 92, .t 7, .c (.int .i64 20)]⟩])
   (.cond (.t 8) (.reg 0 [⟨0, some 9, none, .p .mov, [.t 0]⟩,
    ⟨1, some 10, none, .e .call [] [], [.f 91, .t 9, .c (.int .i64 2)]⟩,
    ⟨2, some 11, none, .p (.bin .add), [.c (.int .i64 16), .t 10]⟩,
    ⟨3, some 4, none, .p .mov, [.t 11]⟩])
   (.skip)))
   (.seq (.block 0 (.loop g342_0))
   (.seq (.seq (.reg 0 [⟨0, some 26, none, .p .mov, [.t 3]⟩,
    ⟨1, some 27, none, .p .len, [.t 26]⟩,
    ⟨2, some 28, none, .p (.bin .gtr), [.t 27, .c (.int .i64 0)]⟩,
    ⟨3, some 29, none, .p .mov, [.t 28]⟩,
    ⟨4, some 30, some (29, true), .p .mov, [.t 0]⟩,
    ⟨5, some 31, some (29, true), .e .call [] [], [.f 92, .t 30, .c (.int .i64 30)]⟩,
    ⟨6, some 32, none, .p .pick, [.t 29, .t 31, .c (.bool false)]⟩])
   (.cond (.t 32) (.reg 0 [⟨0, some 33, none, .p .mov, [.t 3]⟩,
    ⟨1, some 34, none, .p .mov, [.t 0]⟩,
    ⟨2, some 35, none, .e .call [] [], [.f 91, .t 34, .c (.int .i64 6)]⟩,
    ⟨3, some 36, none, .p (.bin .sub), [.t 35, .c (.int .i64 1)]⟩,
    ⟨4, some 37, none, .p .mov, [.t 0]⟩,
    ⟨5, some 38, none, .e .call [] [], [.f 91, .t 37, .c (.int .i64 6)]⟩,
    ⟨6, some 39, none, .p (.bin .sub), [.t 38, .c (.int .i64 1)]⟩,
    ⟨7, some 40, none, .p (.build [.int .i64 0, .int .i64 0, .bool false] [(0, 1), (1, 1)]), [.t 36, .t 39]⟩,
    ⟨8, some 41, none, .p (.idx 3), [.t 33, .c (.int .i64 0)]⟩,
    ⟨9, none, none, .e (.store 3) [] [], [.t 41, .t 40]⟩])
   (.skip)))
   (.seq (.reg 0 [⟨0, some 42, none, .p .mov, [.t 3]⟩,
    ⟨1, some 2, none, .p .mov, [.t 42]⟩])
   (.ret))))))),
  [.tmp 2]⟩
/- (*loop.example/g00641/spec.l1Cur).pick -/
def g91 : GL.Fn := ⟨.seq (.reg 0 [⟨0, some 4, none, .p .mov, [.c (.int .i64 0)]⟩])
   (.seq (.seq (.reg 0 [⟨0, some 6, none, .p .mov, [.t 1]⟩,
    ⟨1, some 7, none, .p (.bin .leq), [.t 6, .c (.int .i64 1)]⟩])
   (.cond (.t 7) (.seq (.reg 0 [⟨0, some 4, none, .p .mov, [.c (.int .i64 0)]⟩])
   (.ret))
   (.skip)))
   (.seq (.reg 0 [⟨0, some 8, none, .p .mov, [.t 0]⟩,
    ⟨1, some 9, none, .e .call [] [], [.f 140, .t 8]⟩,
    ⟨2, some 5, none, .p .mov, [.t 9]⟩])
   (.seq (.seq (.reg 0 [⟨0, some 10, none, .p .mov, [.t 1]⟩,
    ⟨1, some 11, none, .p (.bin .gtr), [.t 10, .c (.int .i64 200)]⟩])
   (.cond (.t 11) (.reg 0 [⟨0, some 12, none, .p .mov, [.t 5]⟩,
    ⟨1, some 13, none, .p (.bin .mul), [.t 12, .c (.int .i64 256)]⟩,
    ⟨2, some 14, none, .p .mov, [.t 0]⟩,
    ⟨3, some 15, none, .e .call [] [], [.f 140, .t 14]⟩,
    ⟨4, some 16, none, .p (.bin .add), [.t 13, .t 15]⟩,
    ⟨5, some 5, none, .p .mov, [.t 16]⟩])
   (.skip)))
   (.seq (.reg 0 [⟨0, some 17, none, .p .mov, [.t 5]⟩,
    ⟨1, some 18, none, .p .mov, [.t 1]⟩,
    ⟨2, some 19, none, .p (.bin .rem), [.t 17, .t 18]⟩,
    ⟨3, some 4, none, .p .mov, [.t 19]⟩])
   (.ret))))),
  [.tmp 4]⟩
/- loop.example/g00641/impl.within -/
def g107 : GL.Fn := ⟨.seq (.reg 0 [⟨0, some 6, none, .p .mov, [.c (.bool false)]⟩])
   (.seq (.reg 0 [⟨0, some 7, none, .p .mov, [.t 0]⟩,
    ⟨1, some 8, none, .p .mov, [.t 1]⟩,
    ⟨2, some 9, none, .p (.bin .geq), [.t 7, .t 8]⟩,
    ⟨3, some 10, none, .p .mov, [.t 9]⟩,
    ⟨4, some 11, some (10, true), .p .mov, [.t 0]⟩,
    ⟨5, some 12, some (10, true), .p .mov, [.t 2]⟩,
    ⟨6, some 13, some (10, true), .p (.bin .leq), [.t 11, .t 12]⟩,
    ⟨7, some 14, none, .p .pick, [.t 10, .t 13, .c (.bool false)]⟩,
    ⟨8, some 6, none, .p .mov, [.t 14]⟩])
   (.ret)),
  [.tmp 6]⟩
/- loop.example/g00641/impl.clash -/
def g343 : GL.Fn := ⟨.seq (.reg 0 [⟨0, some 2, none, .l (.box 2 3), [.t 0]⟩,
    ⟨1, some 3, none, .l (.box 3 3), [.t 1]⟩,
    ⟨2, some 4, none, .p .mov, [.c (.bool false)]⟩])
   (.seq (.reg 0 [⟨0, some 5, none, .p (.faddr 0), [.t 2]⟩,
    ⟨1, some 6, none, .l (.load 2 false 1), [.t 5]⟩,
    ⟨2, some 7, none, .p (.faddr 0), [.t 3]⟩,
    ⟨3, some 8, none, .l (.load 3 false 1), [.t 7]⟩,
    ⟨4, some 9, none, .p (.bin .neq), [.t 6, .t 8]⟩,
    ⟨5, some 10, none, .p .mov, [.t 9]⟩,
    ⟨6, some 11, some (10, true), .p (.faddr 1), [.t 2]⟩,
    ⟨7, some 12, some (10, true), .l (.load 2 false 1), [.t 11]⟩,
    ⟨8, some 13, some (10, true), .p (.faddr 1), [.t 3]⟩,
    ⟨9, some 14, some (10, true), .l (.load 3 false 1), [.t 13]⟩,
    ⟨10, some 15, some (10, true), .p (.bin .eql), [.t 12, .t 14]⟩,
    ⟨11, some 16, none, .p .pick, [.t 10, .t 15, .c (.bool false)]⟩,
    ⟨12, some 17, none, .p .mov, [.t 16]⟩,
    ⟨13, some 18, some (17, true), .p (.faddr 2), [.t 2]⟩,
    ⟨14, some 19, some (17, true), .l (.load 2 false 1), [.t 18]⟩,
    ⟨15, some 20, some (17, true), .p .mov, [.t 19]⟩,
    ⟨16, some 21, some (20, false), .p (.faddr 2), [.t 3]⟩,
    ⟨17, some 22, some (20, false), .l (.load 3 false 1), [.t 21]⟩,
    ⟨18, some 23, some (17, true), .p .pick, [.t 20, .c (.bool true), .t 22]⟩,
    ⟨19, some 24, none, .p .pick, [.t 17, .t 23, .c (.bool false)]⟩,
    ⟨20, some 4, none, .p .mov, [.t 24]⟩])
   (.ret)),
  [.tmp 4]⟩
/- slices.Clone[[]loop.example/g00641/impl.Act,loop.example/g00641/impl.Act] -/
def g344 : GL.Fn := ⟨.seq (.reg 0 [⟨0, some 2, none, .p .mov, [.c (.nils)]⟩])
   (.seq (.seq (.reg 0 [⟨0, some 3, none, .p .mov, [.t 0]⟩,
    ⟨1, some 4, none, .p (.isNil false), [.t 3]⟩])
   (.cond (.t 4) (.seq (.reg 0 [⟨0, some 2, none, .p .mov, [.c (.nils)]⟩])
   (.ret))
   (.skip)))
   (.seq (.reg 0 [⟨0, some 5, none, .e (.new (.lit 3)) [] [], []⟩,
    ⟨1, some 6, none, .p .mov, [.t 0]⟩,
    ⟨2, some 7, none, .e (.append 3 24) [] [], [.t 5, .t 6]⟩,
    ⟨3, some 2, none, .p .mov, [.t 7]⟩])
   (.ret))),
  [.tmp 2]⟩
/- loop.example/g00641/spec.GoodPlay -/
def g345_0 : GL.Code := .seq (.reg 0 [⟨0, some 8, none, .p (.bin .lss), [.t 7, .t 6]⟩])
   (.seq (.cond (.t 8) (.skip)
   (.exit 0))
   (.seq (.block 1 (.seq (.reg 0 [⟨0, some 9, none, .p (.idx 3), [.t 5, .t 7]⟩,
    ⟨1, some 10, none, .r (.load true 3) false, [.t 9]⟩,
    ⟨2, some 4, none, .l (.alloc 4 [.int .i64 0, .int .i64 0, .bool false]), []⟩,
    ⟨3, none, none, .l (.store 4 3), [.t 4, .t 10]⟩])
   (.seq (.reg 0 [⟨0, some 11, none, .p (.faddr 0), [.t 4]⟩,
    ⟨1, some 12, none, .l (.load 4 false 1), [.t 11]⟩,
    ⟨2, some 13, none, .e .call [] [], [.f 98, .t 12, .c (.int .i64 0), .c (.int .i64 3)]⟩,
    ⟨3, some 14, none, .p (.un .not), [.t 13]⟩,
    ⟨4, some 15, none, .p .mov, [.t 14]⟩,
    ⟨5, some 16, some (15, false), .p (.faddr 1), [.t 4]⟩,
    ⟨6, some 17, some (15, false), .l (.load 4 false 1), [.t 16]⟩,
    ⟨7, some 18, some (15, false), .e .call [] [], [.f 98, .t 17, .c (.int .i64 0), .c (.int .i64 3)]⟩,
    ⟨8, some 19, some (15, false), .p (.un .not), [.t 18]⟩,
    ⟨9, some 20, none, .p .pick, [.t 15, .c (.bool true), .t 19]⟩])
   (.cond (.t 20) (.seq (.reg 0 [⟨0, some 2, none, .p .mov, [.c (.bool false)]⟩])
   (.ret))
   (.skip)))))
   (.reg 0 [⟨0, some 21, none, .p (.bin .add), [.t 7, .c (.int .i64 1)]⟩,
    ⟨1, some 7, none, .p .mov, [.t 21]⟩])))
def g345 : GL.Fn := ⟨.seq (.reg 0 [⟨0, some 2, none, .p .mov, [.c (.bool false)]⟩])
   (.seq (.seq (.reg 0 [⟨0, some 5, none, .p .mov, [.t 0]⟩,
    ⟨1, some 6, none, .p .len, [.t 5]⟩,
    ⟨2, some 7, none, .p .mov, [.c (.int .i64 0)]⟩])
   (.block 0 (.loop g345_0)))
   (.seq (.reg 0 [⟨0, some 22, none, .p .mov, [.t 0]⟩,
    ⟨1, some 23, none, .p .len, [.t 22]⟩,
    ⟨2, some 24, none, .p (.bin .leq), [.t 23, .c (.int .i64 16)]⟩,
    ⟨3, some 2, none, .p .mov, [.t 24]⟩])
   (.ret))),
  [.tmp 2]⟩
/- loop.example/g00641/spec.l1In -/
def g98 : GL.Fn := ⟨.seq (.reg 0 [⟨0, some 6, none, .p .mov, [.c (.bool false)]⟩])
   (.seq (.reg 0 [⟨0, some 7, none, .p .mov, [.t 0]⟩,
    ⟨1, some 8, none, .p .mov, [.t 1]⟩,
    ⟨2, some 9, none, .p (.bin .geq), [.t 7, .t 8]⟩,
    ⟨3, some 10, none, .p .mov, [.t 9]⟩,
    ⟨4, some 11, some (10, true), .p .mov, [.t 0]⟩,
    ⟨5, some 12, some (10, true), .p .mov, [.t 2]⟩,
    ⟨6, some 13, some (10, true), .p (.bin .leq), [.t 11, .t 12]⟩,
    ⟨7, some 14, none, .p .pick, [.t 10, .t 13, .c (.bool false)]⟩,
    ⟨8, some 6, none, .p .mov, [.t 14]⟩])
   (.ret)),
  [.tmp 6]⟩
/- loop.example/g00641/spec.l7Clash -/
def g346 : GL.Fn := ⟨.seq (.reg 0 [⟨0, some 2, none, .l (.box 2 3), [.t 0]⟩,
    ⟨1, some 3, none, .l (.box 3 3), [.t 1]⟩,
    ⟨2, some 4, none, .p .mov, [.c (.bool false)]⟩])
   (.seq (.reg 0 [⟨0, some 5, none, .p (.faddr 0), [.t 2]⟩,
    ⟨1, some 6, none, .l (.load 2 false 1), [.t 5]⟩,
    ⟨2, some 7, none, .p (.faddr 0), [.t 3]⟩,
    ⟨3, some 8, none, .l (.load 3 false 1), [.t 7]⟩,
    ⟨4, some 9, none, .p (.bin .neq), [.t 6, .t 8]⟩,
    ⟨5, some 10, none, .p .mov, [.t 9]⟩,
    ⟨6, some 11, some (10, true), .p (.faddr 1), [.t 2]⟩,
    ⟨7, some 12, some (10, true), .l (.load 2 false 1), [.t 11]⟩,
    ⟨8, some 13, some (10, true), .p (.faddr 1), [.t 3]⟩,
    ⟨9, some 14, some (10, true), .l (.load 3 false 1), [.t 13]⟩,
    ⟨10, some 15, some (10, true), .p (.bin .eql), [.t 12, .t 14]⟩,
    ⟨11, some 16, none, .p .pick, [.t 10, .t 15, .c (.bool false)]⟩,
    ⟨12, some 17, none, .p .mov, [.t 16]⟩,
    ⟨13, some 18, some (17, true), .p (.faddr 2), [.t 2]⟩,
    ⟨14, some 19, some (17, true), .l (.load 2 false 1), [.t 18]⟩,
    ⟨15, some 20, some (17, true), .p .mov, [.t 19]⟩,
    ⟨16, some 21, some (20, false), .p (.faddr 2), [.t 3]⟩,
    ⟨17, some 22, some (20, false), .l (.load 3 false 1), [.t 21]⟩,
    ⟨18, some 23, some (17, true), .p .pick, [.t 20, .c (.bool true), .t 22]⟩,
    ⟨19, some 24, none, .p .pick, [.t 17, .t 23, .c (.bool false)]⟩,
    ⟨20, some 4, none, .p .mov, [.t 24]⟩])
   (.ret)),
  [.tmp 4]⟩
/- slices.Equal[[]loop.example/g00641/impl.Act,loop.example/g00641/impl.Act] -/
def g348_0 : GL.Code := .seq (.reg 0 [⟨0, some 14, none, .p (.bin .lss), [.t 13, .t 12]⟩])
   (.seq (.cond (.t 14) (.skip)
   (.exit 0))
   (.seq (.block 1 (.seq (.reg 0 [⟨0, some 15, none, .p .mov, [.t 13]⟩,
    ⟨1, some 5, none, .p .mov, [.t 15]⟩])
   (.seq (.reg 0 [⟨0, some 16, none, .p .mov, [.t 0]⟩,
    ⟨1, some 17, none, .p .mov, [.t 5]⟩,
    ⟨2, some 18, none, .p (.idx 3), [.t 16, .t 17]⟩,
    ⟨3, some 19, none, .r (.load true 3) false, [.t 18]⟩,
    ⟨4, some 20, none, .p .mov, [.t 1]⟩,
    ⟨5, some 21, none, .p .mov, [.t 5]⟩,
    ⟨6, some 22, none, .p (.idx 3), [.t 20, .t 21]⟩,
    ⟨7, some 23, none, .r (.load true 3) false, [.t 22]⟩,
    ⟨8, some 24, none, .p (.eqAgg true [some .i64, some .i64, none]), [.t 19, .t 23]⟩])
   (.cond (.t 24) (.seq (.reg 0 [⟨0, some 4, none, .p .mov, [.c (.bool false)]⟩])
   (.ret))
   (.skip)))))
   (.reg 0 [⟨0, some 25, none, .p (.bin .add), [.t 13, .c (.int .i64 1)]⟩,
    ⟨1, some 13, none, .p .mov, [.t 25]⟩])))
def g348 : GL.Fn := ⟨.seq (.reg 0 [⟨0, some 4, none, .p .mov, [.c (.bool false)]⟩])
   (.seq (.seq (.reg 0 [⟨0, some 6, none, .p .mov, [.t 0]⟩,
    ⟨1, some 7, none, .p .len, [.t 6]⟩,
    ⟨2, some 8, none, .p .mov, [.t 1]⟩,
    ⟨3, some 9, none, .p .len, [.t 8]⟩,
    ⟨4, some 10, none, .p (.bin .neq), [.t 7, .t 9]⟩])
   (.cond (.t 10) (.seq (.reg 0 [⟨0, some 4, none, .p .mov, [.c (.bool false)]⟩])
   (.ret))
   (.skip)))
   (.seq (.seq (.reg 0 [⟨0, some 11, none, .p .mov, [.t 0]⟩,
    ⟨1, some 12, none, .p .len, [.t 11]⟩,
    ⟨2, some 13, none, .p .mov, [.c (.int .i64 0)]⟩])
   (.block 0 (.loop g348_0)))
   (.seq (.reg 0 [⟨0, some 4, none, .p .mov, [.c (.bool true)]⟩])
   (.ret)))),
  [.tmp 4]⟩
/- loop.example/g00641/impl.actsOf -/
def g347 : GL.Fn := ⟨.seq (.reg 0 [⟨0, some 3, none, .e (.new (.box 1)) [] [], [.t 1]⟩,
    ⟨1, some 4, none, .p .mov, [.c (.nils)]⟩])
   (.seq (.reg 0 [⟨0, some 5, none, .p .mov, [.t 0]⟩,
    ⟨1, some 6, none, .e .call [] [], [.f 344, .t 5]⟩,
    ⟨2, some 7, none, .p (.mkFn 399), [.t 3]⟩,
    ⟨3, some 8, none, .e .call [] [], [.f 400, .t 6, .t 7]⟩,
    ⟨4, some 4, none, .p .mov, [.t 8]⟩])
   (.ret)),
  [.tmp 4]⟩
/- slices.Equal[[]loop.example/g00641/impl.origin,loop.example/g00641/impl.origin] -/
def g350_0 : GL.Code := .seq (.reg 0 [⟨0, some 14, none, .p (.bin .lss), [.t 13, .t 12]⟩])
   (.seq (.cond (.t 14) (.skip)
   (.exit 0))
   (.seq (.block 1 (.seq (.reg 0 [⟨0, some 15, none, .p .mov, [.t 13]⟩,
    ⟨1, some 5, none, .p .mov, [.t 15]⟩])
   (.seq (.reg 0 [⟨0, some 16, none, .p .mov, [.t 0]⟩,
    ⟨1, some 17, none, .p .mov, [.t 5]⟩,
    ⟨2, some 18, none, .p (.idx 2), [.t 16, .t 17]⟩,
    ⟨3, some 19, none, .r (.load true 2) false, [.t 18]⟩,
    ⟨4, some 20, none, .p .mov, [.t 1]⟩,
    ⟨5, some 21, none, .p .mov, [.t 5]⟩,
    ⟨6, some 22, none, .p (.idx 2), [.t 20, .t 21]⟩,
    ⟨7, some 23, none, .r (.load true 2) false, [.t 22]⟩,
    ⟨8, some 24, none, .p (.eqAgg true [some .i64, some .i64]), [.t 19, .t 23]⟩])
   (.cond (.t 24) (.seq (.reg 0 [⟨0, some 4, none, .p .mov, [.c (.bool false)]⟩])
   (.ret))
   (.skip)))))
   (.reg 0 [⟨0, some 25, none, .p (.bin .add), [.t 13, .c (.int .i64 1)]⟩,
    ⟨1, some 13, none, .p .mov, [.t 25]⟩])))
def g350 : GL.Fn := ⟨.seq (.reg 0 [⟨0, some 4, none, .p .mov, [.c (.bool false)]⟩])
   (.seq (.seq (.reg 0 [⟨0, some 6, none, .p .mov, [.t 0]⟩,
    ⟨1, some 7, none, .p .len, [.t 6]⟩,
    ⟨2, some 8, none, .p .mov, [.t 1]⟩,
    ⟨3, some 9, none, .p .len, [.t 8]⟩,
    ⟨4, some 10, none, .p (.bin .neq), [.t 7, .t 9]⟩])
   (.cond (.t 10) (.seq (.reg 0 [⟨0, some 4, none, .p .mov, [.c (.bool false)]⟩])
   (.ret))
   (.skip)))
   (.seq (.seq (.reg 0 [⟨0, some 11, none, .p .mov, [.t 0]⟩,
    ⟨1, some 12, none, .p .len, [.t 11]⟩,
    ⟨2, some 13, none, .p .mov, [.c (.int .i64 0)]⟩])
   (.block 0 (.loop g350_0)))
   (.seq (.reg 0 [⟨0, some 4, none, .p .mov, [.c (.bool true)]⟩])
   (.ret)))),
  [.tmp 4]⟩
/- loop.example/g00641/impl.origins -/
def g349_0 : GL.Code := .seq (.reg 0 [⟨0, some 12, none, .p (.bin .lss), [.t 11, .t 10]⟩])
   (.seq (.cond (.t 12) (.skip)
   (.exit 0))
   (.seq (.block 1 (.seq (.reg 0 [⟨0, some 13, none, .p .mov, [.t 11]⟩,
    ⟨1, some 14, none, .p (.idx 3), [.t 9, .t 11]⟩,
    ⟨2, some 15, none, .r (.load true 3) false, [.t 14]⟩,
    ⟨3, some 7, none, .l (.alloc 7 [.int .i64 0, .int .i64 0, .bool false]), []⟩,
    ⟨4, some 6, none, .p .mov, [.t 13]⟩,
    ⟨5, none, none, .l (.store 7 3), [.t 7, .t 15]⟩])
   (.seq (.reg 0 [⟨0, some 16, none, .p (.faddr 0), [.t 7]⟩,
    ⟨1, some 17, none, .l (.load 7 false 1), [.t 16]⟩,
    ⟨2, some 18, none, .p .mov, [.t 1]⟩,
    ⟨3, some 19, none, .p (.bin .eql), [.t 17, .t 18]⟩,
    ⟨4, some 20, none, .p .mov, [.t 19]⟩,
    ⟨5, some 21, some (20, true), .p (.faddr 2), [.t 7]⟩,
    ⟨6, some 22, some (20, true), .l (.load 7 false 1), [.t 21]⟩,
    ⟨7, some 23, some (20, true), .p (.un .not), [.t 22]⟩,
    ⟨8, some 24, none, .p .pick, [.t 20, .t 23, .c (.bool false)]⟩])
   (.cond (.t 24) (.reg 0 [⟨0, some 25, none, .p .mov, [.t 5]⟩,
    ⟨1, some 26, none, .p .mov, [.t 0]⟩,
    ⟨2, some 27, none, .p .mov, [.t 0]⟩,
    ⟨3, some 28, none, .p .mov, [.t 6]⟩,
    ⟨4, some 29, none, .p (.slice 3 false true false), [.t 27, .t 28]⟩,
    ⟨5, some 30, none, .p (.faddr 1), [.t 7]⟩,
    ⟨6, some 31, none, .l (.load 7 false 1), [.t 30]⟩,
    ⟨7, some 32, none, .e .call [] [], [.f 351, .t 29, .t 31]⟩,
    ⟨8, some 33, none, .e .call [] [], [.f 352, .t 26, .t 32]⟩,
    ⟨9, some 34, none, .e (.new (.lit 2)) [] [], [.t 33]⟩,
    ⟨10, some 35, none, .e (.append 2 16) [] [], [.t 25, .t 34]⟩,
    ⟨11, some 5, none, .p .mov, [.t 35]⟩])
   (.skip)))))
   (.reg 0 [⟨0, some 36, none, .p (.bin .add), [.t 11, .c (.int .i64 1)]⟩,
    ⟨1, some 11, none, .p .mov, [.t 36]⟩])))
def g349 : GL.Fn := ⟨.seq (.reg 0 [⟨0, some 4, none, .p .mov, [.c (.nils)]⟩])
   (.seq (.reg 0 [⟨0, some 8, none, .e (.new (.lit 2)) [] [], []⟩,
    ⟨1, some 5, none, .p .mov, [.t 8]⟩])
   (.seq (.seq (.reg 0 [⟨0, some 9, none, .p .mov, [.t 0]⟩,
    ⟨1, some 10, none, .p .len, [.t 9]⟩,
    ⟨2, some 11, none, .p .mov, [.c (.int .i64 0)]⟩])
   (.block 0 (.loop g349_0)))
   (.seq (.reg 0 [⟨0, some 37, none, .p .mov, [.t 5]⟩,
    ⟨1, some 4, none, .p .mov, [.t 37]⟩])
   (.ret)))),
  [.tmp 4]⟩
/- loop.example/g00641/impl.originOf -/
def g352_0 : GL.Code := .seq (.reg 0 [⟨0, some 16, none, .p (.bin .lss), [.t 15, .t 14]⟩])
   (.seq (.cond (.t 16) (.skip)
   (.exit 0))
   (.seq (.block 1 (.seq (.reg 0 [⟨0, some 17, none, .p (.idx 3), [.t 13, .t 15]⟩,
    ⟨1, some 18, none, .r (.load true 3) false, [.t 17]⟩,
    ⟨2, some 7, none, .l (.alloc 7 [.int .i64 0, .int .i64 0, .bool false]), []⟩,
    ⟨3, none, none, .l (.store 7 3), [.t 7, .t 18]⟩])
   (.seq (.reg 0 [⟨0, some 19, none, .l (.load 7 true 3), [.t 7]⟩,
    ⟨1, some 20, none, .p .mov, [.t 0]⟩,
    ⟨2, some 21, none, .p .mov, [.t 1]⟩,
    ⟨3, some 22, none, .p (.idx 3), [.t 20, .t 21]⟩,
    ⟨4, some 23, none, .r (.load true 3) false, [.t 22]⟩,
    ⟨5, some 24, none, .p (.eqAgg false [some .i64, some .i64, none]), [.t 19, .t 23]⟩])
   (.cond (.t 24) (.reg 0 [⟨0, some 25, none, .p .mov, [.t 5]⟩,
    ⟨1, some 26, none, .p (.bin .add), [.t 25, .c (.int .i64 1)]⟩,
    ⟨2, some 5, none, .p .mov, [.t 26]⟩])
   (.skip)))))
   (.reg 0 [⟨0, some 27, none, .p (.bin .add), [.t 15, .c (.int .i64 1)]⟩,
    ⟨1, some 15, none, .p .mov, [.t 27]⟩])))
def g352 : GL.Fn := ⟨.seq (.reg 0 [⟨0, some 4, none, .l (.alloc 4 [.int .i64 0, .int .i64 0]), []⟩])
   (.seq (.seq (.reg 0 [⟨0, some 8, none, .p .mov, [.t 1]⟩,
    ⟨1, some 9, none, .p (.bin .lss), [.t 8, .c (.int .i64 0)]⟩])
   (.cond (.t 9) (.seq (.reg 0 [⟨0, some 10, none, .p (.build [.int .i64 0, .int .i64 0] [(0, 1), (1, 1)]), [.c (.int .i64 (-1)), .c (.int .i64 (-1))]⟩,
    ⟨1, none, none, .l (.store 4 2), [.t 4, .t 10]⟩])
   (.ret))
   (.skip)))
   (.seq (.reg 0 [⟨0, some 5, none, .p .mov, [.c (.int .i64 0)]⟩])
   (.seq (.seq (.reg 0 [⟨0, some 11, none, .p .mov, [.t 0]⟩,
    ⟨1, some 12, none, .p .mov, [.t 1]⟩,
    ⟨2, some 13, none, .p (.slice 3 false true false), [.t 11, .t 12]⟩,
    ⟨3, some 14, none, .p .len, [.t 13]⟩,
    ⟨4, some 15, none, .p .mov, [.c (.int .i64 0)]⟩])
   (.block 0 (.loop g352_0)))
   (.seq (.reg 0 [⟨0, some 28, none, .p .mov, [.t 0]⟩,
    ⟨1, some 29, none, .p .mov, [.t 1]⟩,
    ⟨2, some 30, none, .p (.idx 3), [.t 28, .t 29]⟩,
    ⟨3, some 31, none, .p (.faddr 0), [.t 30]⟩,
    ⟨4, some 32, none, .r (.load false 1) false, [.t 31]⟩,
    ⟨5, some 33, none, .p .mov, [.t 5]⟩,
    ⟨6, some 34, none, .p (.build [.int .i64 0, .int .i64 0] [(0, 1), (1, 1)]), [.t 32, .t 33]⟩,
    ⟨7, none, none, .l (.store 4 2), [.t 4, .t 34]⟩])
   (.ret))))),
  [.cellL 4 4 true 2]⟩
/- loop.example/g00641/impl.conflicts -/
def g353_0 : GL.Code := .seq (.reg 0 [⟨0, some 22, none, .p (.bin .lss), [.t 21, .t 20]⟩])
   (.seq (.cond (.t 22) (.skip)
   (.exit 2))
   (.seq (.block 3 (.seq (.reg 0 [⟨0, some 23, none, .p (.idx 3), [.t 19, .t 21]⟩,
    ⟨1, some 24, none, .r (.load true 3) false, [.t 23]⟩,
    ⟨2, some 7, none, .l (.alloc 7 [.int .i64 0, .int .i64 0, .bool false]), []⟩,
    ⟨3, none, none, .l (.store 7 3), [.t 7, .t 24]⟩])
   (.seq (.reg 0 [⟨0, some 25, none, .l (.load 5 true 3), [.t 5]⟩,
    ⟨1, some 26, none, .l (.load 7 true 3), [.t 7]⟩,
    ⟨2, some 27, none, .e .call [] [], [.f 343, .t 25, .t 26]⟩])
   (.cond (.t 27) (.reg 0 [⟨0, some 28, none, .p .mov, [.t 3]⟩,
    ⟨1, some 29, none, .p (.faddr 0), [.t 5]⟩,
    ⟨2, some 30, none, .l (.load 5 false 1), [.t 29]⟩,
    ⟨3, some 31, none, .p (.bin .mul), [.c (.int .i64 4), .t 30]⟩,
    ⟨4, some 32, none, .p (.faddr 0), [.t 7]⟩,
    ⟨5, some 33, none, .l (.load 7 false 1), [.t 32]⟩,
    ⟨6, some 34, none, .p (.bin .add), [.t 31, .t 33]⟩,
    ⟨7, some 35, none, .p (.idx 1), [.t 28, .t 34]⟩,
    ⟨8, some 36, none, .r (.load false 1) false, [.t 35]⟩,
    ⟨9, some 37, none, .p (.bin .add), [.t 36, .c (.int .i64 1)]⟩,
    ⟨10, some 38, none, .p (.idx 1), [.t 28, .t 34]⟩,
    ⟨11, none, none, .e (.store 1) [] [], [.t 38, .t 37]⟩])
   (.skip)))))
   (.reg 0 [⟨0, some 39, none, .p (.bin .add), [.t 21, .c (.int .i64 1)]⟩,
    ⟨1, some 21, none, .p .mov, [.t 39]⟩])))
def g353_1 : GL.Code := .seq (.reg 0 [⟨0, some 12, none, .p (.bin .lss), [.t 11, .t 10]⟩])
   (.seq (.cond (.t 12) (.skip)
   (.exit 0))
   (.seq (.block 1 (.seq (.reg 0 [⟨0, some 13, none, .p .mov, [.t 11]⟩,
    ⟨1, some 14, none, .p (.idx 3), [.t 9, .t 11]⟩,
    ⟨2, some 15, none, .r (.load true 3) false, [.t 14]⟩,
    ⟨3, some 5, none, .l (.alloc 5 [.int .i64 0, .int .i64 0, .bool false]), []⟩,
    ⟨4, some 4, none, .p .mov, [.t 13]⟩,
    ⟨5, none, none, .l (.store 5 3), [.t 5, .t 15]⟩])
   (.seq (.reg 0 [⟨0, some 16, none, .p .mov, [.t 0]⟩,
    ⟨1, some 17, none, .p .mov, [.t 4]⟩,
    ⟨2, some 18, none, .p (.bin .add), [.t 17, .c (.int .i64 1)]⟩,
    ⟨3, some 19, none, .p (.slice 3 true false false), [.t 16, .t 18]⟩,
    ⟨4, some 20, none, .p .len, [.t 19]⟩,
    ⟨5, some 21, none, .p .mov, [.c (.int .i64 0)]⟩])
   (.block 2 (.loop g353_0)))))
   (.reg 0 [⟨0, some 40, none, .p (.bin .add), [.t 11, .c (.int .i64 1)]⟩,
    ⟨1, some 11, none, .p .mov, [.t 40]⟩])))
def g353 : GL.Fn := ⟨.seq (.reg 0 [⟨0, some 2, none, .p .mov, [.c (.nils)]⟩])
   (.seq (.reg 0 [⟨0, some 8, none, .e (.new (.make 1 8 [.int .i64 0])) [] [], [.c (.int .i64 16), .c (.int .i64 16)]⟩,
    ⟨1, some 3, none, .p .mov, [.t 8]⟩])
   (.seq (.seq (.reg 0 [⟨0, some 9, none, .p .mov, [.t 0]⟩,
    ⟨1, some 10, none, .p .len, [.t 9]⟩,
    ⟨2, some 11, none, .p .mov, [.c (.int .i64 0)]⟩])
   (.block 0 (.loop g353_1)))
   (.seq (.reg 0 [⟨0, some 41, none, .p .mov, [.t 3]⟩,
    ⟨1, some 2, none, .p .mov, [.t 41]⟩])
   (.ret)))),
  [.tmp 2]⟩
/- (*loop.example/g00641/spec.l1Cur).one -/
def g92 : GL.Fn := ⟨.seq (.reg 0 [⟨0, some 4, none, .p .mov, [.c (.bool false)]⟩])
   (.seq (.reg 0 [⟨0, some 5, none, .p .mov, [.t 0]⟩,
    ⟨1, some 6, none, .p .mov, [.t 1]⟩,
    ⟨2, some 7, none, .e .call [] [], [.f 91, .t 5, .t 6]⟩,
    ⟨3, some 8, none, .p (.bin .eql), [.t 7, .c (.int .i64 0)]⟩,
    ⟨4, some 4, none, .p .mov, [.t 8]⟩])
   (.ret)),
  [.tmp 4]⟩
/- loop.example/g00641/spec.l7Of -/
def g354_0 : GL.Code := .seq (.reg 0 [⟨0, some 11, none, .p (.bin .lss), [.t 10, .t 9]⟩])
   (.seq (.cond (.t 11) (.skip)
   (.exit 0))
   (.seq (.block 1 (.seq (.reg 0 [⟨0, some 12, none, .p (.idx 3), [.t 8, .t 10]⟩,
    ⟨1, some 13, none, .r (.load true 3) false, [.t 12]⟩,
    ⟨2, some 7, none, .l (.alloc 7 [.int .i64 0, .int .i64 0, .bool false]), []⟩,
    ⟨3, none, none, .l (.store 7 3), [.t 7, .t 13]⟩])
   (.seq (.reg 0 [⟨0, some 14, none, .p (.faddr 0), [.t 7]⟩,
    ⟨1, some 15, none, .l (.load 7 false 1), [.t 14]⟩,
    ⟨2, some 16, none, .p .mov, [.t 1]⟩,
    ⟨3, some 17, none, .p (.bin .eql), [.t 15, .t 16]⟩])
   (.cond (.t 17) (.reg 0 [⟨0, some 18, none, .p .mov, [.t 5]⟩,
    ⟨1, some 19, none, .l (.load 7 true 3), [.t 7]⟩,
    ⟨2, some 20, none, .e (.new (.lit 3)) [] [], [.t 19]⟩,
    ⟨3, some 21, none, .e (.append 3 24) [] [], [.t 18, .t 20]⟩,
    ⟨4, some 5, none, .p .mov, [.t 21]⟩])
   (.skip)))))
   (.reg 0 [⟨0, some 22, none, .p (.bin .add), [.t 10, .c (.int .i64 1)]⟩,
    ⟨1, some 10, none, .p .mov, [.t 22]⟩])))
def g354 : GL.Fn := ⟨.seq (.reg 0 [⟨0, some 4, none, .p .mov, [.c (.nils)]⟩])
   (.seq (.reg 0 [⟨0, some 5, none, .p .mov, [.c (.nils)]⟩])
   (.seq (.seq (.reg 0 [⟨0, some 8, none, .p .mov, [.t 0]⟩,
    ⟨1, some 9, none, .p .len, [.t 8]⟩,
    ⟨2, some 10, none, .p .mov, [.c (.int .i64 0)]⟩])
   (.block 0 (.loop g354_0)))
   (.seq (.reg 0 [⟨0, some 23, none, .p .mov, [.t 5]⟩,
    ⟨1, some 4, none, .p .mov, [.t 23]⟩])
   (.ret)))),
  [.tmp 4]⟩
/- loop.example/g00641/spec.DrawGoodPlay -/
def g357 : GL.Fn := ⟨.seq (.reg 0 [⟨0, some 2, none, .p .mov, [.c (.nils)]⟩])
   (.seq (.reg 0 [⟨0, some 4, none, .p .mov, [.t 0]⟩,
    ⟨1, some 5, none, .p (.build [.nils, .int .i64 0, .int .u64 0] [(0, 1)]), [.t 4]⟩,
    ⟨2, some 6, none, .e (.new (.box 3)) [] [], [.t 5]⟩,
    ⟨3, some 3, none, .p .mov, [.t 6]⟩])
   (.seq (.reg 0 [⟨0, some 7, none, .p .mov, [.t 3]⟩,
    ⟨1, some 8, none, .e .call [] [], [.f 342, .t 7]⟩,
    ⟨2, some 2, none, .p .mov, [.t 8]⟩])
   (.ret))),
  [.tmp 2]⟩
/- loop.example/g00641/impl.serial -/
def g360_0 : GL.Code := .seq (.reg 0 [⟨0, some 25, none, .p (.bin .lss), [.t 24, .c (.int .i64 4)]⟩])
   (.seq (.cond (.t 25) (.skip)
   (.exit 4))
   (.seq (.block 5 (.seq (.reg 0 [⟨0, some 26, none, .p .mov, [.t 24]⟩,
    ⟨1, some 9, none, .p .mov, [.t 26]⟩])
   (.reg 0 [⟨0, some 27, none, .p .mov, [.t 8]⟩,
    ⟨1, some 28, none, .p .mov, [.t 27]⟩,
    ⟨2, some 29, some (28, true), .p .mov, [.t 5]⟩,
    ⟨3, some 30, some (28, true), .p .mov, [.t 9]⟩,
    ⟨4, some 31, some (28, true), .e .call [] [], [.f 301, .t 29, .t 30]⟩,
    ⟨5, some 32, some (28, true), .p .mov, [.t 31]⟩,
    ⟨6, some 33, some (32, false), .p .mov, [.t 4]⟩,
    ⟨7, some 34, some (32, false), .p .mov, [.t 9]⟩,
    ⟨8, some 35, some (32, false), .p (.bin .mul), [.c (.int .i64 4), .t 34]⟩,
    ⟨9, some 36, some (32, false), .p .mov, [.t 7]⟩,
    ⟨10, some 37, some (32, false), .p (.bin .add), [.t 35, .t 36]⟩,
    ⟨11, some 38, some (32, false), .p (.idx 1), [.t 33, .t 37]⟩,
    ⟨12, some 39, some (32, false), .r (.load false 1) false, [.t 38]⟩,
    ⟨13, some 40, some (32, false), .p (.bin .eql), [.t 39, .c (.int .i64 0)]⟩,
    ⟨14, some 41, some (28, true), .p .pick, [.t 32, .c (.bool true), .t 40]⟩,
    ⟨15, some 42, none, .p .pick, [.t 28, .t 41, .c (.bool false)]⟩,
    ⟨16, some 8, none, .p .mov, [.t 42]⟩])))
   (.reg 0 [⟨0, some 43, none, .p (.bin .add), [.t 24, .c (.int .i64 1)]⟩,
    ⟨1, some 24, none, .p .mov, [.t 43]⟩])))
def g360_1 : GL.Code := .seq (.seq (.reg 0 [⟨0, some 16, none, .p .mov, [.t 7]⟩,
    ⟨1, some 17, none, .p (.bin .geq), [.t 16, .c (.int .i64 0)]⟩])
   (.cond (.t 17) (.skip)
   (.exit 2)))
   (.seq (.block 3 (.seq (.reg 0 [⟨0, some 20, none, .p .mov, [.t 5]⟩,
    ⟨1, some 21, none, .p .mov, [.t 7]⟩,
    ⟨2, some 22, none, .e .call [] [], [.f 301, .t 20, .t 21]⟩,
    ⟨3, some 23, none, .p (.un .not), [.t 22]⟩,
    ⟨4, some 8, none, .p .mov, [.t 23]⟩])
   (.seq (.seq (.reg 0 [⟨0, some 24, none, .p .mov, [.c (.int .i64 0)]⟩])
   (.block 4 (.loop g360_0)))
   (.seq (.reg 0 [⟨0, some 44, none, .p .mov, [.t 8]⟩])
   (.cond (.t 44) (.reg 0 [⟨0, some 45, none, .p .mov, [.t 7]⟩,
    ⟨1, some 6, none, .p .mov, [.t 45]⟩])
   (.skip))))))
   (.reg 0 [⟨0, some 18, none, .p .mov, [.t 7]⟩,
    ⟨1, some 19, none, .p (.bin .sub), [.t 18, .c (.int .i64 1)]⟩,
    ⟨2, some 7, none, .p .mov, [.t 19]⟩]))
def g360_2 : GL.Code := .seq (.seq (.reg 0 [⟨0, some 13, none, .p .mov, [.t 5]⟩,
    ⟨1, some 14, none, .p .len, [.t 13]⟩,
    ⟨2, some 15, none, .p (.bin .lss), [.t 14, .c (.int .i64 4)]⟩])
   (.cond (.t 15) (.skip)
   (.exit 0)))
   (.block 1 (.seq (.reg 0 [⟨0, some 6, none, .p .mov, [.c (.int .i64 (-1))]⟩])
   (.seq (.seq (.reg 0 [⟨0, some 7, none, .p .mov, [.c (.int .i64 3)]⟩])
   (.block 2 (.loop g360_1)))
   (.seq (.seq (.reg 0 [⟨0, some 46, none, .p .mov, [.t 6]⟩,
    ⟨1, some 47, none, .p (.bin .lss), [.t 46, .c (.int .i64 0)]⟩])
   (.cond (.t 47) (.seq (.reg 0 [⟨0, some 2, none, .p .mov, [.c (.nils)]⟩,
    ⟨1, some 3, none, .p .mov, [.c (.bool false)]⟩])
   (.ret))
   (.skip)))
   (.reg 0 [⟨0, some 48, none, .p .mov, [.t 5]⟩,
    ⟨1, some 49, none, .p .mov, [.t 6]⟩,
    ⟨2, some 50, none, .e (.new (.lit 1)) [] [], [.t 49]⟩,
    ⟨3, some 51, none, .e (.append 1 8) [] [], [.t 48, .t 50]⟩,
    ⟨4, some 5, none, .p .mov, [.t 51]⟩])))))
def g360 : GL.Fn := ⟨.seq (.reg 0 [⟨0, some 2, none, .p .mov, [.c (.nils)]⟩,
    ⟨1, some 3, none, .p .mov, [.c (.bool false)]⟩])
   (.seq (.reg 0 [⟨0, some 10, none, .p .mov, [.t 0]⟩,
    ⟨1, some 11, none, .e .call [] [], [.f 353, .t 10]⟩,
    ⟨2, some 12, none, .e (.new (.lit 1)) [] [], []⟩,
    ⟨3, some 4, none, .p .mov, [.t 11]⟩,
    ⟨4, some 5, none, .p .mov, [.t 12]⟩])
   (.seq (.block 0 (.loop g360_2))
   (.seq (.reg 0 [⟨0, some 52, none, .p .mov, [.t 5]⟩,
    ⟨1, some 2, none, .p .mov, [.t 52]⟩,
    ⟨2, some 3, none, .p .mov, [.c (.bool true)]⟩])
   (.ret)))),
  [.tmp 2, .tmp 3]⟩
/- loop.example/g00641/spec.l7Serial -/
def g362_0 : GL.Code := .seq (.seq (.reg 0 [⟨0, some 23, none, .p .mov, [.t 7]⟩,
    ⟨1, some 24, none, .p (.bin .lss), [.t 23, .c (.int .i64 4)]⟩])
   (.cond (.t 24) (.skip)
   (.exit 4)))
   (.seq (.block 5 (.reg 0 [⟨0, some 27, none, .p .mov, [.t 6]⟩,
    ⟨1, some 28, none, .p .mov, [.t 27]⟩,
    ⟨2, some 29, some (28, true), .p .mov, [.t 3]⟩,
    ⟨3, some 30, some (28, true), .p .mov, [.t 7]⟩,
    ⟨4, some 31, some (28, true), .e .call [] [], [.f 302, .t 29, .t 30]⟩,
    ⟨5, some 32, some (28, true), .p .mov, [.t 31]⟩,
    ⟨6, some 33, some (32, false), .p .mov, [.t 0]⟩,
    ⟨7, some 34, some (32, false), .p .mov, [.t 7]⟩,
    ⟨8, some 35, some (32, false), .p (.bin .mul), [.c (.int .i64 4), .t 34]⟩,
    ⟨9, some 36, some (32, false), .p .mov, [.t 5]⟩,
    ⟨10, some 37, some (32, false), .p (.bin .add), [.t 35, .t 36]⟩,
    ⟨11, some 38, some (32, false), .p (.idx 1), [.t 33, .t 37]⟩,
    ⟨12, some 39, some (32, false), .r (.load false 1) false, [.t 38]⟩,
    ⟨13, some 40, some (32, false), .p (.bin .eql), [.t 39, .c (.int .i64 0)]⟩,
    ⟨14, some 41, some (28, true), .p .pick, [.t 32, .c (.bool true), .t 40]⟩,
    ⟨15, some 42, none, .p .pick, [.t 28, .t 41, .c (.bool false)]⟩,
    ⟨16, some 6, none, .p .mov, [.t 42]⟩]))
   (.reg 0 [⟨0, some 25, none, .p .mov, [.t 7]⟩,
    ⟨1, some 26, none, .p (.bin .add), [.t 25, .c (.int .i64 1)]⟩,
    ⟨2, some 7, none, .p .mov, [.t 26]⟩]))
def g362_1 : GL.Code := .seq (.seq (.reg 0 [⟨0, some 11, none, .p .mov, [.t 5]⟩,
    ⟨1, some 12, none, .p (.bin .lss), [.t 11, .c (.int .i64 4)]⟩])
   (.cond (.t 12) (.skip)
   (.exit 2)))
   (.seq (.block 3 (.seq (.reg 0 [⟨0, some 15, none, .p .mov, [.t 4]⟩,
    ⟨1, some 16, none, .p (.bin .lss), [.t 15, .c (.int .i64 0)]⟩,
    ⟨2, some 17, none, .p .mov, [.t 16]⟩,
    ⟨3, some 18, some (17, true), .p .mov, [.t 3]⟩,
    ⟨4, some 19, some (17, true), .p .mov, [.t 5]⟩,
    ⟨5, some 20, some (17, true), .e .call [] [], [.f 302, .t 18, .t 19]⟩,
    ⟨6, some 21, some (17, true), .p (.un .not), [.t 20]⟩,
    ⟨7, some 22, none, .p .pick, [.t 17, .t 21, .c (.bool false)]⟩,
    ⟨8, some 6, none, .p .mov, [.t 22]⟩])
   (.seq (.seq (.reg 0 [⟨0, some 7, none, .p .mov, [.c (.int .i64 0)]⟩])
   (.block 4 (.loop g362_0)))
   (.seq (.reg 0 [⟨0, some 43, none, .p .mov, [.t 6]⟩])
   (.cond (.t 43) (.reg 0 [⟨0, some 44, none, .p .mov, [.t 5]⟩,
    ⟨1, some 4, none, .p .mov, [.t 44]⟩])
   (.skip))))))
   (.reg 0 [⟨0, some 13, none, .p .mov, [.t 5]⟩,
    ⟨1, some 14, none, .p (.bin .add), [.t 13, .c (.int .i64 1)]⟩,
    ⟨2, some 5, none, .p .mov, [.t 14]⟩]))
def g362_2 : GL.Code := .seq (.seq (.reg 0 [⟨0, some 8, none, .p .mov, [.t 3]⟩,
    ⟨1, some 9, none, .p .len, [.t 8]⟩,
    ⟨2, some 10, none, .p (.bin .lss), [.t 9, .c (.int .i64 4)]⟩])
   (.cond (.t 10) (.skip)
   (.exit 0)))
   (.block 1 (.seq (.reg 0 [⟨0, some 4, none, .p .mov, [.c (.int .i64 (-1))]⟩])
   (.seq (.seq (.reg 0 [⟨0, some 5, none, .p .mov, [.c (.int .i64 0)]⟩])
   (.block 2 (.loop g362_1)))
   (.seq (.seq (.reg 0 [⟨0, some 45, none, .p .mov, [.t 4]⟩,
    ⟨1, some 46, none, .p (.bin .lss), [.t 45, .c (.int .i64 0)]⟩])
   (.cond (.t 46) (.seq (.reg 0 [⟨0, some 2, none, .p .mov, [.c (.nils)]⟩])
   (.ret))
   (.skip)))
   (.reg 0 [⟨0, some 47, none, .p .mov, [.t 3]⟩,
    ⟨1, some 48, none, .p .mov, [.t 4]⟩,
    ⟨2, some 49, none, .e (.new (.lit 1)) [] [], [.t 48]⟩,
    ⟨3, some 50, none, .e (.append 1 8) [] [], [.t 47, .t 49]⟩,
    ⟨4, some 3, none, .p .mov, [.t 50]⟩])))))
def g362 : GL.Fn := ⟨.seq (.reg 0 [⟨0, some 2, none, .p .mov, [.c (.nils)]⟩])
   (.seq (.reg 0 [⟨0, some 3, none, .p .mov, [.c (.nils)]⟩])
   (.seq (.block 0 (.loop g362_2))
   (.seq (.reg 0 [⟨0, some 51, none, .p .mov, [.t 3]⟩,
    ⟨1, some 2, none, .p .mov, [.t 51]⟩])
   (.ret)))),
  [.tmp 2]⟩
/- loop.example/g00641/spec.l7Conflicts -/
def g361_0 : GL.Code := .seq (.reg 0 [⟨0, some 22, none, .p (.bin .lss), [.t 21, .t 20]⟩])
   (.seq (.cond (.t 22) (.skip)
   (.exit 2))
   (.seq (.block 3 (.seq (.reg 0 [⟨0, some 23, none, .p (.idx 3), [.t 19, .t 21]⟩,
    ⟨1, some 24, none, .r (.load true 3) false, [.t 23]⟩,
    ⟨2, some 7, none, .l (.alloc 7 [.int .i64 0, .int .i64 0, .bool false]), []⟩,
    ⟨3, none, none, .l (.store 7 3), [.t 7, .t 24]⟩])
   (.seq (.reg 0 [⟨0, some 25, none, .l (.load 5 true 3), [.t 5]⟩,
    ⟨1, some 26, none, .l (.load 7 true 3), [.t 7]⟩,
    ⟨2, some 27, none, .e .call [] [], [.f 346, .t 25, .t 26]⟩])
   (.cond (.t 27) (.reg 0 [⟨0, some 28, none, .p .mov, [.t 3]⟩,
    ⟨1, some 29, none, .p (.faddr 0), [.t 5]⟩,
    ⟨2, some 30, none, .l (.load 5 false 1), [.t 29]⟩,
    ⟨3, some 31, none, .p (.bin .mul), [.c (.int .i64 4), .t 30]⟩,
    ⟨4, some 32, none, .p (.faddr 0), [.t 7]⟩,
    ⟨5, some 33, none, .l (.load 7 false 1), [.t 32]⟩,
    ⟨6, some 34, none, .p (.bin .add), [.t 31, .t 33]⟩,
    ⟨7, some 35, none, .p (.idx 1), [.t 28, .t 34]⟩,
    ⟨8, some 36, none, .r (.load false 1) false, [.t 35]⟩,
    ⟨9, some 37, none, .p (.bin .add), [.t 36, .c (.int .i64 1)]⟩,
    ⟨10, some 38, none, .p (.idx 1), [.t 28, .t 34]⟩,
    ⟨11, none, none, .e (.store 1) [] [], [.t 38, .t 37]⟩])
   (.skip)))))
   (.reg 0 [⟨0, some 39, none, .p (.bin .add), [.t 21, .c (.int .i64 1)]⟩,
    ⟨1, some 21, none, .p .mov, [.t 39]⟩])))
def g361_1 : GL.Code := .seq (.reg 0 [⟨0, some 12, none, .p (.bin .lss), [.t 11, .t 10]⟩])
   (.seq (.cond (.t 12) (.skip)
   (.exit 0))
   (.seq (.block 1 (.seq (.reg 0 [⟨0, some 13, none, .p .mov, [.t 11]⟩,
    ⟨1, some 14, none, .p (.idx 3), [.t 9, .t 11]⟩,
    ⟨2, some 15, none, .r (.load true 3) false, [.t 14]⟩,
    ⟨3, some 5, none, .l (.alloc 5 [.int .i64 0, .int .i64 0, .bool false]), []⟩,
    ⟨4, some 4, none, .p .mov, [.t 13]⟩,
    ⟨5, none, none, .l (.store 5 3), [.t 5, .t 15]⟩])
   (.seq (.reg 0 [⟨0, some 16, none, .p .mov, [.t 0]⟩,
    ⟨1, some 17, none, .p .mov, [.t 4]⟩,
    ⟨2, some 18, none, .p (.bin .add), [.t 17, .c (.int .i64 1)]⟩,
    ⟨3, some 19, none, .p (.slice 3 true false false), [.t 16, .t 18]⟩,
    ⟨4, some 20, none, .p .len, [.t 19]⟩,
    ⟨5, some 21, none, .p .mov, [.c (.int .i64 0)]⟩])
   (.block 2 (.loop g361_0)))))
   (.reg 0 [⟨0, some 40, none, .p (.bin .add), [.t 11, .c (.int .i64 1)]⟩,
    ⟨1, some 11, none, .p .mov, [.t 40]⟩])))
def g361 : GL.Fn := ⟨.seq (.reg 0 [⟨0, some 2, none, .p .mov, [.c (.nils)]⟩])
   (.seq (.reg 0 [⟨0, some 8, none, .e (.new (.make 1 8 [.int .i64 0])) [] [], [.c (.int .i64 16), .c (.int .i64 16)]⟩,
    ⟨1, some 3, none, .p .mov, [.t 8]⟩])
   (.seq (.seq (.reg 0 [⟨0, some 9, none, .p .mov, [.t 0]⟩,
    ⟨1, some 10, none, .p .len, [.t 9]⟩,
    ⟨2, some 11, none, .p .mov, [.c (.int .i64 0)]⟩])
   (.block 0 (.loop g361_1)))
   (.seq (.reg 0 [⟨0, some 41, none, .p .mov, [.t 3]⟩,
    ⟨1, some 2, none, .p .mov, [.t 41]⟩])
   (.ret)))),
  [.tmp 2]⟩
/- slices.ContainsFunc[[]loop.example/g00641/impl.Act,loop.example/g00641/impl.Act] -/
def g363 : GL.Fn := ⟨.seq (.reg 0 [⟨0, some 4, none, .p .mov, [.c (.bool false)]⟩])
   (.seq (.reg 0 [⟨0, some 5, none, .p .mov, [.t 0]⟩,
    ⟨1, some 6, none, .p .mov, [.t 1]⟩,
    ⟨2, some 7, none, .e .call [] [], [.f 404, .t 5, .t 6]⟩,
    ⟨3, some 8, none, .p (.bin .geq), [.t 7, .c (.int .i64 0)]⟩,
    ⟨4, some 4, none, .p .mov, [.t 8]⟩])
   (.ret)),
  [.tmp 4]⟩
/- loop.example/g00641/impl.GoodPlay$1 -/
def g364 : GL.Fn := ⟨.seq (.reg 0 [⟨0, some 1, none, .l (.box 1 3), [.t 0]⟩,
    ⟨1, some 2, none, .p .mov, [.c (.bool false)]⟩])
   (.seq (.reg 0 [⟨0, some 3, none, .p (.faddr 0), [.t 1]⟩,
    ⟨1, some 4, none, .l (.load 1 false 1), [.t 3]⟩,
    ⟨2, some 5, none, .e .call [] [], [.f 384, .t 4]⟩,
    ⟨3, some 6, none, .p (.un .not), [.t 5]⟩,
    ⟨4, some 7, none, .p .mov, [.t 6]⟩,
    ⟨5, some 8, some (7, false), .p (.faddr 1), [.t 1]⟩,
    ⟨6, some 9, some (7, false), .l (.load 1 false 1), [.t 8]⟩,
    ⟨7, some 10, some (7, false), .e .call [] [], [.f 405, .t 9]⟩,
    ⟨8, some 11, some (7, false), .p (.un .not), [.t 10]⟩,
    ⟨9, some 12, none, .p .pick, [.t 7, .c (.bool true), .t 11]⟩,
    ⟨10, some 2, none, .p .mov, [.t 12]⟩])
   (.ret)),
  [.tmp 2]⟩
/- loop.example/g00641/impl.isDealer -/
def g384 : GL.Fn := ⟨.seq (.reg 0 [⟨0, some 2, none, .p .mov, [.c (.bool false)]⟩])
   (.seq (.reg 0 [⟨0, some 3, none, .p .mov, [.t 0]⟩,
    ⟨1, some 4, none, .e .call [] [], [.f 107, .t 3, .c (.int .i64 0), .c (.int .i64 3)]⟩,
    ⟨2, some 2, none, .p .mov, [.t 4]⟩])
   (.ret)),
  [.tmp 2]⟩
/- loop.example/g00641/impl.isItem -/
def g405 : GL.Fn := ⟨.seq (.reg 0 [⟨0, some 2, none, .p .mov, [.c (.bool false)]⟩])
   (.seq (.reg 0 [⟨0, some 3, none, .p .mov, [.t 0]⟩,
    ⟨1, some 4, none, .e .call [] [], [.f 107, .t 3, .c (.int .i64 0), .c (.int .i64 3)]⟩,
    ⟨2, some 2, none, .p .mov, [.t 4]⟩])
   (.ret)),
  [.tmp 2]⟩
/- loop.example/g00641/impl.isOrder -/
def g365 : GL.Fn := ⟨.seq (.reg 0 [⟨0, some 2, none, .p .mov, [.c (.bool false)]⟩])
   (.seq (.reg 0 [⟨0, some 4, none, .p .mov, [.t 0]⟩,
    ⟨1, some 5, none, .e .call [] [], [.f 406, .t 4]⟩,
    ⟨2, some 6, none, .e .call [] [], [.f 407, .t 5]⟩,
    ⟨3, some 3, none, .p .mov, [.t 6]⟩])
   (.seq (.reg 0 [⟨0, some 7, none, .p .mov, [.t 3]⟩,
    ⟨1, some 8, none, .e (.new (.lit 1)) [] [], [.c (.int .i64 0), .c (.int .i64 1), .c (.int .i64 2), .c (.int .i64 3)]⟩,
    ⟨2, some 9, none, .e .call [] [], [.f 386, .t 7, .t 8]⟩,
    ⟨3, some 2, none, .p .mov, [.t 9]⟩])
   (.ret))),
  [.tmp 2]⟩
/- loop.example/g00641/spec.l7Order -/
def g366_0 : GL.Code := .seq (.seq (.reg 0 [⟨0, some 12, none, .p .mov, [.t 3]⟩,
    ⟨1, some 13, none, .p (.bin .lss), [.t 12, .c (.int .i64 4)]⟩])
   (.cond (.t 13) (.skip)
   (.exit 0)))
   (.seq (.block 1 (.seq (.reg 0 [⟨0, some 16, none, .p .mov, [.t 0]⟩,
    ⟨1, some 17, none, .p .mov, [.t 3]⟩,
    ⟨2, some 18, none, .e .call [] [], [.f 302, .t 16, .t 17]⟩,
    ⟨3, some 19, none, .p (.un .not), [.t 18]⟩])
   (.cond (.t 19) (.seq (.reg 0 [⟨0, some 2, none, .p .mov, [.c (.bool false)]⟩])
   (.ret))
   (.skip))))
   (.reg 0 [⟨0, some 14, none, .p .mov, [.t 3]⟩,
    ⟨1, some 15, none, .p (.bin .add), [.t 14, .c (.int .i64 1)]⟩,
    ⟨2, some 3, none, .p .mov, [.t 15]⟩]))
def g366 : GL.Fn := ⟨.seq (.reg 0 [⟨0, some 2, none, .p .mov, [.c (.bool false)]⟩])
   (.seq (.seq (.reg 0 [⟨0, some 4, none, .p .mov, [.t 0]⟩,
    ⟨1, some 5, none, .p .len, [.t 4]⟩,
    ⟨2, some 6, none, .p (.bin .neq), [.t 5, .c (.int .i64 4)]⟩,
    ⟨3, some 7, none, .p .mov, [.t 6]⟩,
    ⟨4, some 8, some (7, false), .p .mov, [.t 0]⟩,
    ⟨5, some 9, some (7, false), .e .call [] [], [.f 94, .t 8, .c (.int .i64 0), .c (.int .i64 3)]⟩,
    ⟨6, some 10, some (7, false), .p (.un .not), [.t 9]⟩,
    ⟨7, some 11, none, .p .pick, [.t 7, .c (.bool true), .t 10]⟩])
   (.cond (.t 11) (.seq (.reg 0 [⟨0, some 2, none, .p .mov, [.c (.bool false)]⟩])
   (.ret))
   (.skip)))
   (.seq (.seq (.reg 0 [⟨0, some 3, none, .p .mov, [.c (.int .i64 0)]⟩])
   (.block 0 (.loop g366_0)))
   (.seq (.reg 0 [⟨0, some 2, none, .p .mov, [.c (.bool true)]⟩])
   (.ret)))),
  [.tmp 2]⟩
/- (*loop.example/g00641/spec.l1Cur).next -/
def g140 : GL.Fn := ⟨.seq (.reg 0 [⟨0, some 2, none, .p .mov, [.c (.int .i64 0)]⟩])
   (.seq (.reg 0 [⟨0, some 3, none, .p .mov, [.c (.int .i64 0)]⟩])
   (.seq (.seq (.reg 0 [⟨0, some 4, none, .p .mov, [.t 0]⟩,
    ⟨1, some 5, none, .p .nilCheck, [.t 4]⟩,
    ⟨2, some 6, none, .p (.faddr 1), [.t 5]⟩,
    ⟨3, some 7, none, .r (.load false 1) false, [.t 6]⟩,
    ⟨4, some 8, none, .p .mov, [.t 0]⟩,
    ⟨5, some 9, none, .p .nilCheck, [.t 8]⟩,
    ⟨6, some 10, none, .p (.faddr 0), [.t 9]⟩,
    ⟨7, some 11, none, .r (.load false 1) false, [.t 10]⟩,
    ⟨8, some 12, none, .p .len, [.t 11]⟩,
    ⟨9, some 13, none, .p (.bin .lss), [.t 7, .t 12]⟩])
   (.cond (.t 13) (.reg 0 [⟨0, some 14, none, .p .mov, [.t 0]⟩,
    ⟨1, some 15, none, .p .nilCheck, [.t 14]⟩,
    ⟨2, some 16, none, .p (.faddr 0), [.t 15]⟩,
    ⟨3, some 17, none, .r (.load false 1) false, [.t 16]⟩,
    ⟨4, some 18, none, .p .mov, [.t 0]⟩,
    ⟨5, some 19, none, .p .nilCheck, [.t 18]⟩,
    ⟨6, some 20, none, .p (.faddr 1), [.t 19]⟩,
    ⟨7, some 21, none, .r (.load false 1) false, [.t 20]⟩,
    ⟨8, some 22, none, .p (.idx 1), [.t 17, .t 21]⟩,
    ⟨9, some 23, none, .r (.load false 1) false, [.t 22]⟩,
    ⟨10, some 24, none, .p (.conv .i64), [.t 23]⟩,
    ⟨11, some 3, none, .p .mov, [.t 24]⟩])
   (.skip)))
   (.seq (.reg 0 [⟨0, some 25, none, .p .mov, [.t 0]⟩,
    ⟨1, some 26, none, .p .nilCheck, [.t 25]⟩,
    ⟨2, some 27, none, .p (.faddr 1), [.t 26]⟩,
    ⟨3, some 28, none, .r (.load false 1) false, [.t 27]⟩,
    ⟨4, some 29, none, .p (.bin .add), [.t 28, .c (.int .i64 1)]⟩,
    ⟨5, some 30, none, .p .nilCheck, [.t 25]⟩,
    ⟨6, some 31, none, .p (.faddr 1), [.t 30]⟩,
    ⟨7, none, none, .e (.store 1) [] [], [.t 31, .t 29]⟩])
   (.seq (.reg 0 [⟨0, some 32, none, .p .mov, [.t 0]⟩,
    ⟨1, some 33, none, .p .mov, [.t 0]⟩,
    ⟨2, some 34, none, .p .nilCheck, [.t 33]⟩,
    ⟨3, some 35, none, .p (.faddr 2), [.t 34]⟩,
    ⟨4, some 36, none, .r (.load false 1) false, [.t 35]⟩,
    ⟨5, some 37, none, .p (.bin .mul), [.t 36, .c (.int .u64 6364136223846793005)]⟩,
    ⟨6, some 38, none, .p .mov, [.t 3]⟩,
    ⟨7, some 39, none, .p (.conv .u64), [.t 38]⟩,
    ⟨8, some 40, none, .p (.bin .add), [.t 37, .t 39]⟩,
    ⟨9, some 41, none, .p (.bin .add), [.t 40, .c (.int .u64 1442695040888963407)]⟩,
    ⟨10, some 42, none, .p .nilCheck, [.t 32]⟩,
    ⟨11, some 43, none, .p (.faddr 2), [.t 42]⟩,
    ⟨12, none, none, .e (.store 1) [] [], [.t 43, .t 41]⟩])
   (.seq (.seq (.reg 0 [⟨0, some 44, none, .p .mov, [.t 0]⟩,
    ⟨1, some 45, none, .p .nilCheck, [.t 44]⟩,
    ⟨2, some 46, none, .p (.faddr 1), [.t 45]⟩,
    ⟨3, some 47, none, .r (.load false 1) false, [.t 46]⟩,
    ⟨4, some 48, none, .p .mov, [.t 0]⟩,
    ⟨5, some 49, none, .p .nilCheck, [.t 48]⟩,
    ⟨6, some 50, none, .p (.faddr 0), [.t 49]⟩,
    ⟨7, some 51, none, .r (.load false 1) false, [.t 50]⟩,
    ⟨8, some 52, none, .p .len, [.t 51]⟩,
    ⟨9, some 53, none, .p (.bin .leq), [.t 47, .t 52]⟩])
   (.cond (.t 53) (.seq (.reg 0 [⟨0, some 54, none, .p .mov, [.t 3]⟩,
    ⟨1, some 2, none, .p .mov, [.t 54]⟩])
   (.ret))
   (.skip)))
   (.seq (.reg 0 [⟨0, some 55, none, .p .mov, [.t 0]⟩,
    ⟨1, some 56, none, .p .nilCheck, [.t 55]⟩,
    ⟨2, some 57, none, .p (.faddr 2), [.t 56]⟩,
    ⟨3, some 58, none, .r (.load false 1) false, [.t 57]⟩,
    ⟨4, some 59, none, .p (.bin .shr), [.t 58, .c (.int .u64 40)]⟩,
    ⟨5, some 60, none, .p (.bin .and), [.t 59, .c (.int .u64 255)]⟩,
    ⟨6, some 61, none, .p (.conv .i64), [.t 60]⟩,
    ⟨7, some 2, none, .p .mov, [.t 61]⟩])
   (.ret))))))),
  [.tmp 2]⟩
/- slices.DeleteFunc[[]loop.example/g00641/impl.Act,loop.example/g00641/impl.Act] -/
def g400_0 : GL.Code := .seq (.seq (.reg 0 [⟨0, some 16, none, .p .mov, [.t 6]⟩,
    ⟨1, some 17, none, .p .mov, [.t 0]⟩,
    ⟨2, some 18, none, .p .len, [.t 17]⟩,
    ⟨3, some 19, none, .p (.bin .lss), [.t 16, .t 18]⟩])
   (.cond (.t 19) (.skip)
   (.exit 0)))
   (.seq (.block 1 (.seq (.reg 0 [⟨0, some 22, none, .p .mov, [.t 0]⟩,
    ⟨1, some 23, none, .p .mov, [.t 6]⟩,
    ⟨2, some 24, none, .p (.idx 3), [.t 22, .t 23]⟩,
    ⟨3, some 25, none, .r (.load true 3) false, [.t 24]⟩,
    ⟨4, some 7, none, .l (.alloc 7 [.int .i64 0, .int .i64 0, .bool false]), []⟩,
    ⟨5, none, none, .l (.store 7 3), [.t 7, .t 25]⟩])
   (.seq (.reg 0 [⟨0, some 26, none, .p .mov, [.t 1]⟩,
    ⟨1, some 27, none, .l (.load 7 true 3), [.t 7]⟩,
    ⟨2, some 28, none, .e .call [] [], [.t 26, .t 27]⟩,
    ⟨3, some 29, none, .p (.un .not), [.t 28]⟩])
   (.cond (.t 29) (.seq (.reg 0 [⟨0, some 30, none, .p .mov, [.t 0]⟩,
    ⟨1, some 31, none, .p .mov, [.t 5]⟩,
    ⟨2, some 32, none, .l (.load 7 true 3), [.t 7]⟩,
    ⟨3, some 33, none, .p (.idx 3), [.t 30, .t 31]⟩,
    ⟨4, none, none, .e (.store 3) [] [], [.t 33, .t 32]⟩])
   (.reg 0 [⟨0, some 34, none, .p .mov, [.t 5]⟩,
    ⟨1, some 35, none, .p (.bin .add), [.t 34, .c (.int .i64 1)]⟩,
    ⟨2, some 5, none, .p .mov, [.t 35]⟩]))
   (.skip)))))
   (.reg 0 [⟨0, some 20, none, .p .mov, [.t 6]⟩,
    ⟨1, some 21, none, .p (.bin .add), [.t 20, .c (.int .i64 1)]⟩,
    ⟨2, some 6, none, .p .mov, [.t 21]⟩]))
def g400 : GL.Fn := ⟨.seq (.reg 0 [⟨0, some 4, none, .p .mov, [.c (.nils)]⟩])
   (.seq (.reg 0 [⟨0, some 8, none, .p .mov, [.t 0]⟩,
    ⟨1, some 9, none, .p .mov, [.t 1]⟩,
    ⟨2, some 10, none, .e .call [] [], [.f 404, .t 8, .t 9]⟩,
    ⟨3, some 5, none, .p .mov, [.t 10]⟩])
   (.seq (.seq (.reg 0 [⟨0, some 11, none, .p .mov, [.t 5]⟩,
    ⟨1, some 12, none, .p (.bin .eql), [.t 11, .c (.int .i64 (-1))]⟩])
   (.cond (.t 12) (.seq (.reg 0 [⟨0, some 13, none, .p .mov, [.t 0]⟩,
    ⟨1, some 4, none, .p .mov, [.t 13]⟩])
   (.ret))
   (.skip)))
   (.seq (.seq (.reg 0 [⟨0, some 14, none, .p .mov, [.t 5]⟩,
    ⟨1, some 15, none, .p (.bin .add), [.t 14, .c (.int .i64 1)]⟩,
    ⟨2, some 6, none, .p .mov, [.t 15]⟩])
   (.block 0 (.loop g400_0)))
   (.seq (.reg 0 [⟨0, some 36, none, .p .mov, [.t 0]⟩,
    ⟨1, some 37, none, .p .mov, [.t 5]⟩,
    ⟨2, some 38, none, .p (.slice 3 true false false), [.t 36, .t 37]⟩,
    ⟨3, none, none, .e (.clear 3 [.int .i64 0, .int .i64 0, .bool false]) [] [], [.t 38]⟩])
   (.seq (.reg 0 [⟨0, some 39, none, .p .mov, [.t 0]⟩,
    ⟨1, some 40, none, .p .mov, [.t 5]⟩,
    ⟨2, some 41, none, .p (.slice 3 false true false), [.t 39, .t 40]⟩,
    ⟨3, some 4, none, .p .mov, [.t 41]⟩])
   (.ret)))))),
  [.tmp 4]⟩
/- loop.example/g00641/impl.actsOf$1 -/
def g399 : GL.Fn := ⟨.seq (.reg 0 [⟨0, some 2, none, .l (.box 2 3), [.t 0]⟩,
    ⟨1, some 3, none, .p .mov, [.c (.bool false)]⟩])
   (.seq (.reg 0 [⟨0, some 4, none, .p (.faddr 0), [.t 2]⟩,
    ⟨1, some 5, none, .l (.load 2 false 1), [.t 4]⟩,
    ⟨2, some 6, none, .r (.load false 1) false, [.t 1]⟩,
    ⟨3, some 7, none, .p (.bin .neq), [.t 5, .t 6]⟩,
    ⟨4, some 3, none, .p .mov, [.t 7]⟩])
   (.ret)),
  [.tmp 3]⟩
/- slices.Contains[[]int,int] -/
def g301 : GL.Fn := ⟨.seq (.reg 0 [⟨0, some 4, none, .p .mov, [.c (.bool false)]⟩])
   (.seq (.reg 0 [⟨0, some 5, none, .p .mov, [.t 0]⟩,
    ⟨1, some 6, none, .p .mov, [.t 1]⟩,
    ⟨2, some 7, none, .e .call [] [], [.f 390, .t 5, .t 6]⟩,
    ⟨3, some 8, none, .p (.bin .geq), [.t 7, .c (.int .i64 0)]⟩,
    ⟨4, some 4, none, .p .mov, [.t 8]⟩])
   (.ret)),
  [.tmp 4]⟩
/- loop.example/g00641/spec.l1Has -/
def g302_0 : GL.Code := .seq (.reg 0 [⟨0, some 10, none, .p (.bin .lss), [.t 9, .t 8]⟩])
   (.seq (.cond (.t 10) (.skip)
   (.exit 0))
   (.seq (.block 1 (.seq (.reg 0 [⟨0, some 11, none, .p (.idx 1), [.t 7, .t 9]⟩,
    ⟨1, some 12, none, .r (.load false 1) false, [.t 11]⟩,
    ⟨2, some 6, none, .p .mov, [.t 12]⟩])
   (.seq (.reg 0 [⟨0, some 13, none, .p .mov, [.t 6]⟩,
    ⟨1, some 14, none, .p .mov, [.t 1]⟩,
    ⟨2, some 15, none, .p (.bin .eql), [.t 13, .t 14]⟩])
   (.cond (.t 15) (.seq (.reg 0 [⟨0, some 4, none, .p .mov, [.c (.bool true)]⟩])
   (.ret))
   (.skip)))))
   (.reg 0 [⟨0, some 16, none, .p (.bin .add), [.t 9, .c (.int .i64 1)]⟩,
    ⟨1, some 9, none, .p .mov, [.t 16]⟩])))
def g302 : GL.Fn := ⟨.seq (.reg 0 [⟨0, some 4, none, .p .mov, [.c (.bool false)]⟩])
   (.seq (.seq (.reg 0 [⟨0, some 7, none, .p .mov, [.t 0]⟩,
    ⟨1, some 8, none, .p .len, [.t 7]⟩,
    ⟨2, some 9, none, .p .mov, [.c (.int .i64 0)]⟩])
   (.block 0 (.loop g302_0)))
   (.seq (.reg 0 [⟨0, some 4, none, .p .mov, [.c (.bool false)]⟩])
   (.ret))),
  [.tmp 4]⟩
/- slices.IndexFunc[[]loop.example/g00641/impl.Act,loop.example/g00641/impl.Act] -/
def g404_0 : GL.Code := .seq (.reg 0 [⟨0, some 9, none, .p (.bin .lss), [.t 8, .t 7]⟩])
   (.seq (.cond (.t 9) (.skip)
   (.exit 0))
   (.seq (.block 1 (.seq (.reg 0 [⟨0, some 10, none, .p .mov, [.t 8]⟩,
    ⟨1, some 5, none, .p .mov, [.t 10]⟩])
   (.seq (.reg 0 [⟨0, some 11, none, .p .mov, [.t 1]⟩,
    ⟨1, some 12, none, .p .mov, [.t 0]⟩,
    ⟨2, some 13, none, .p .mov, [.t 5]⟩,
    ⟨3, some 14, none, .p (.idx 3), [.t 12, .t 13]⟩,
    ⟨4, some 15, none, .r (.load true 3) false, [.t 14]⟩,
    ⟨5, some 16, none, .e .call [] [], [.t 11, .t 15]⟩])
   (.cond (.t 16) (.seq (.reg 0 [⟨0, some 17, none, .p .mov, [.t 5]⟩,
    ⟨1, some 4, none, .p .mov, [.t 17]⟩])
   (.ret))
   (.skip)))))
   (.reg 0 [⟨0, some 18, none, .p (.bin .add), [.t 8, .c (.int .i64 1)]⟩,
    ⟨1, some 8, none, .p .mov, [.t 18]⟩])))
def g404 : GL.Fn := ⟨.seq (.reg 0 [⟨0, some 4, none, .p .mov, [.c (.int .i64 0)]⟩])
   (.seq (.seq (.reg 0 [⟨0, some 6, none, .p .mov, [.t 0]⟩,
    ⟨1, some 7, none, .p .len, [.t 6]⟩,
    ⟨2, some 8, none, .p .mov, [.c (.int .i64 0)]⟩])
   (.block 0 (.loop g404_0)))
   (.seq (.reg 0 [⟨0, some 4, none, .p .mov, [.c (.int .i64 (-1))]⟩])
   (.ret))),
  [.tmp 4]⟩
/- slices.Equal[[]int,int] -/
def g386_0 : GL.Code := .seq (.reg 0 [⟨0, some 14, none, .p (.bin .lss), [.t 13, .t 12]⟩])
   (.seq (.cond (.t 14) (.skip)
   (.exit 0))
   (.seq (.block 1 (.seq (.reg 0 [⟨0, some 15, none, .p .mov, [.t 13]⟩,
    ⟨1, some 5, none, .p .mov, [.t 15]⟩])
   (.seq (.reg 0 [⟨0, some 16, none, .p .mov, [.t 0]⟩,
    ⟨1, some 17, none, .p .mov, [.t 5]⟩,
    ⟨2, some 18, none, .p (.idx 1), [.t 16, .t 17]⟩,
    ⟨3, some 19, none, .r (.load false 1) false, [.t 18]⟩,
    ⟨4, some 20, none, .p .mov, [.t 1]⟩,
    ⟨5, some 21, none, .p .mov, [.t 5]⟩,
    ⟨6, some 22, none, .p (.idx 1), [.t 20, .t 21]⟩,
    ⟨7, some 23, none, .r (.load false 1) false, [.t 22]⟩,
    ⟨8, some 24, none, .p (.bin .neq), [.t 19, .t 23]⟩])
   (.cond (.t 24) (.seq (.reg 0 [⟨0, some 4, none, .p .mov, [.c (.bool false)]⟩])
   (.ret))
   (.skip)))))
   (.reg 0 [⟨0, some 25, none, .p (.bin .add), [.t 13, .c (.int .i64 1)]⟩,
    ⟨1, some 13, none, .p .mov, [.t 25]⟩])))
def g386 : GL.Fn := ⟨.seq (.reg 0 [⟨0, some 4, none, .p .mov, [.c (.bool false)]⟩])
   (.seq (.seq (.reg 0 [⟨0, some 6, none, .p .mov, [.t 0]⟩,
    ⟨1, some 7, none, .p .len, [.t 6]⟩,
    ⟨2, some 8, none, .p .mov, [.t 1]⟩,
    ⟨3, some 9, none, .p .len, [.t 8]⟩,
    ⟨4, some 10, none, .p (.bin .neq), [.t 7, .t 9]⟩])
   (.cond (.t 10) (.seq (.reg 0 [⟨0, some 4, none, .p .mov, [.c (.bool false)]⟩])
   (.ret))
   (.skip)))
   (.seq (.seq (.reg 0 [⟨0, some 11, none, .p .mov, [.t 0]⟩,
    ⟨1, some 12, none, .p .len, [.t 11]⟩,
    ⟨2, some 13, none, .p .mov, [.c (.int .i64 0)]⟩])
   (.block 0 (.loop g386_0)))
   (.seq (.reg 0 [⟨0, some 4, none, .p .mov, [.c (.bool true)]⟩])
   (.ret)))),
  [.tmp 4]⟩
/- loop.example/g00641/spec.l1All -/
def g94_0 : GL.Code := .seq (.reg 0 [⟨0, some 12, none, .p (.bin .lss), [.t 11, .t 10]⟩])
   (.seq (.cond (.t 12) (.skip)
   (.exit 0))
   (.seq (.block 1 (.seq (.reg 0 [⟨0, some 13, none, .p (.idx 1), [.t 9, .t 11]⟩,
    ⟨1, some 14, none, .r (.load false 1) false, [.t 13]⟩,
    ⟨2, some 8, none, .p .mov, [.t 14]⟩])
   (.seq (.reg 0 [⟨0, some 15, none, .p .mov, [.t 8]⟩,
    ⟨1, some 16, none, .p .mov, [.t 1]⟩,
    ⟨2, some 17, none, .p .mov, [.t 2]⟩,
    ⟨3, some 18, none, .e .call [] [], [.f 98, .t 15, .t 16, .t 17]⟩,
    ⟨4, some 19, none, .p (.un .not), [.t 18]⟩])
   (.cond (.t 19) (.seq (.reg 0 [⟨0, some 6, none, .p .mov, [.c (.bool false)]⟩])
   (.ret))
   (.skip)))))
   (.reg 0 [⟨0, some 20, none, .p (.bin .add), [.t 11, .c (.int .i64 1)]⟩,
    ⟨1, some 11, none, .p .mov, [.t 20]⟩])))
def g94 : GL.Fn := ⟨.seq (.reg 0 [⟨0, some 6, none, .p .mov, [.c (.bool false)]⟩])
   (.seq (.seq (.reg 0 [⟨0, some 9, none, .p .mov, [.t 0]⟩,
    ⟨1, some 10, none, .p .len, [.t 9]⟩,
    ⟨2, some 11, none, .p .mov, [.c (.int .i64 0)]⟩])
   (.block 0 (.loop g94_0)))
   (.seq (.reg 0 [⟨0, some 6, none, .p .mov, [.c (.bool true)]⟩])
   (.ret))),
  [.tmp 6]⟩
/- slices.Index[[]int,int] -/
def g390_0 : GL.Code := .seq (.reg 0 [⟨0, some 9, none, .p (.bin .lss), [.t 8, .t 7]⟩])
   (.seq (.cond (.t 9) (.skip)
   (.exit 0))
   (.seq (.block 1 (.seq (.reg 0 [⟨0, some 10, none, .p .mov, [.t 8]⟩,
    ⟨1, some 5, none, .p .mov, [.t 10]⟩])
   (.seq (.reg 0 [⟨0, some 11, none, .p .mov, [.t 1]⟩,
    ⟨1, some 12, none, .p .mov, [.t 0]⟩,
    ⟨2, some 13, none, .p .mov, [.t 5]⟩,
    ⟨3, some 14, none, .p (.idx 1), [.t 12, .t 13]⟩,
    ⟨4, some 15, none, .r (.load false 1) false, [.t 14]⟩,
    ⟨5, some 16, none, .p (.bin .eql), [.t 11, .t 15]⟩])
   (.cond (.t 16) (.seq (.reg 0 [⟨0, some 17, none, .p .mov, [.t 5]⟩,
    ⟨1, some 4, none, .p .mov, [.t 17]⟩])
   (.ret))
   (.skip)))))
   (.reg 0 [⟨0, some 18, none, .p (.bin .add), [.t 8, .c (.int .i64 1)]⟩,
    ⟨1, some 8, none, .p .mov, [.t 18]⟩])))
def g390 : GL.Fn := ⟨.seq (.reg 0 [⟨0, some 4, none, .p .mov, [.c (.int .i64 0)]⟩])
   (.seq (.seq (.reg 0 [⟨0, some 6, none, .p .mov, [.t 0]⟩,
    ⟨1, some 7, none, .p .len, [.t 6]⟩,
    ⟨2, some 8, none, .p .mov, [.c (.int .i64 0)]⟩])
   (.block 0 (.loop g390_0)))
   (.seq (.reg 0 [⟨0, some 4, none, .p .mov, [.c (.int .i64 (-1))]⟩])
   (.ret))),
  [.tmp 4]⟩
end GL
