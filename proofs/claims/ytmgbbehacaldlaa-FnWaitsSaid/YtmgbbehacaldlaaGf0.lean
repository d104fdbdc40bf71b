import Derived.Test.YtmgbbehacaldlaaGlA
/- GL code of functions. -/
set_option linter.unusedSimpArgs false
set_option linter.unusedVariables false
set_option linter.unnecessarySimpa false
namespace GL
open Go
/- loop.example/g00641/laws.FnWaits -/
def g280_0 : GL.Code := .seq (.reg 0 [⟨0, some 148, none, .p (.bin .lss), [.t 147, .t 146]⟩])
   (.seq (.cond (.t 148) (.skip)
   (.exit 0))
   (.seq (.block 1 (.seq (.reg 0 [⟨0, some 149, none, .p .mov, [.t 147]⟩,
    ⟨1, some 22, none, .p .mov, [.t 149]⟩])
   (.seq (.reg 0 [⟨0, some 150, none, .p .mov, [.t 17]⟩,
    ⟨1, some 151, none, .p .mov, [.t 18]⟩,
    ⟨2, some 152, none, .p .mov, [.t 22]⟩,
    ⟨3, some 153, none, .p (.idx 1), [.t 151, .t 152]⟩,
    ⟨4, some 154, none, .r (.load false 1) false, [.t 153]⟩,
    ⟨5, some 155, none, .p (.idx 1), [.t 150, .t 154]⟩,
    ⟨6, some 156, none, .r (.load false 1) false, [.t 155]⟩,
    ⟨7, some 157, none, .p .mov, [.t 18]⟩,
    ⟨8, some 158, none, .p .mov, [.t 22]⟩,
    ⟨9, some 159, none, .p (.bin .add), [.t 158, .c (.int .i64 1)]⟩,
    ⟨10, some 160, none, .p .mov, [.t 18]⟩,
    ⟨11, some 161, none, .p .len, [.t 160]⟩,
    ⟨12, some 162, none, .p (.bin .rem), [.t 159, .t 161]⟩,
    ⟨13, some 163, none, .p (.idx 1), [.t 157, .t 162]⟩,
    ⟨14, some 164, none, .r (.load false 1) false, [.t 163]⟩,
    ⟨15, some 165, none, .p (.bin .neq), [.t 156, .t 164]⟩])
   (.cond (.t 165) (.seq (.reg 0 [⟨0, some 4, none, .p .mov, [.c (.bool false)]⟩])
   (.ret))
   (.skip)))))
   (.reg 0 [⟨0, some 166, none, .p (.bin .add), [.t 147, .c (.int .i64 1)]⟩,
    ⟨1, some 147, none, .p .mov, [.t 166]⟩])))
def g280 : GL.Fn := ⟨.seq (.reg 0 [⟨0, some 4, none, .p .mov, [.c (.bool false)]⟩])
   (.seq (.seq (.reg 0 [⟨0, some 23, none, .p .mov, [.t 0]⟩,
    ⟨1, some 24, none, .p .len, [.t 23]⟩,
    ⟨2, some 25, none, .p .mov, [.t 1]⟩,
    ⟨3, some 26, none, .p .len, [.t 25]⟩,
    ⟨4, some 27, none, .p (.bin .add), [.t 24, .t 26]⟩,
    ⟨5, some 28, none, .p (.bin .gtr), [.t 27, .c (.int .i64 1048576)]⟩])
   (.cond (.t 28) (.seq (.reg 0 [⟨0, some 4, none, .p .mov, [.c (.bool true)]⟩])
   (.ret))
   (.skip)))
   (.seq (.reg 0 [⟨0, some 30, none, .p .mov, [.t 0]⟩,
    ⟨1, some 31, none, .e .call [] [], [.f 281, .t 30]⟩,
    ⟨2, some 29, none, .p .mov, [.t 31]⟩,
    ⟨3, some 32, none, .p (.extract 0), [.t 29]⟩,
    ⟨4, some 33, none, .p (.extract 1), [.t 29]⟩,
    ⟨5, some 5, none, .l (.alloc 5 [.nils, .nils, .nils]), []⟩,
    ⟨6, some 6, none, .l (.alloc 6 [.int .i64 0, .int .i64 0, .bool false, .bool false]), []⟩,
    ⟨7, none, none, .l (.store 5 3), [.t 5, .t 32]⟩,
    ⟨8, none, none, .l (.store 6 4), [.t 6, .t 33]⟩])
   (.seq (.reg 0 [⟨0, some 35, none, .l (.load 5 true 3), [.t 5]⟩,
    ⟨1, some 36, none, .l (.load 6 true 4), [.t 6]⟩,
    ⟨2, some 37, none, .e .call [] [], [.f 276, .t 35, .t 36]⟩,
    ⟨3, some 34, none, .p .mov, [.t 37]⟩,
    ⟨4, some 38, none, .p (.extract 0), [.t 34]⟩,
    ⟨5, some 39, none, .p (.extract 1), [.t 34]⟩,
    ⟨6, some 7, none, .l (.alloc 7 [.nils, .nils, .nils]), []⟩,
    ⟨7, none, none, .l (.store 7 3), [.t 7, .t 38]⟩,
    ⟨8, some 8, none, .p .mov, [.t 39]⟩])
   (.seq (.reg 0 [⟨0, some 41, none, .l (.load 5 true 3), [.t 5]⟩,
    ⟨1, some 42, none, .l (.load 6 true 4), [.t 6]⟩,
    ⟨2, some 43, none, .e .call [] [], [.f 275, .t 41, .t 42]⟩,
    ⟨3, some 40, none, .p .mov, [.t 43]⟩,
    ⟨4, some 44, none, .p (.extract 0), [.t 40]⟩,
    ⟨5, some 45, none, .p (.extract 1), [.t 40]⟩,
    ⟨6, some 9, none, .l (.alloc 9 [.nils, .nils, .nils]), []⟩,
    ⟨7, none, none, .l (.store 9 3), [.t 9, .t 44]⟩,
    ⟨8, some 10, none, .p .mov, [.t 45]⟩])
   (.seq (.reg 0 [⟨0, some 47, none, .l (.load 5 true 3), [.t 5]⟩,
    ⟨1, some 48, none, .l (.load 6 true 4), [.t 6]⟩,
    ⟨2, some 49, none, .e .call [] [], [.f 282, .t 47, .t 48]⟩,
    ⟨3, some 46, none, .p .mov, [.t 49]⟩,
    ⟨4, some 50, none, .p (.extract 0), [.t 46]⟩,
    ⟨5, some 51, none, .p (.extract 1), [.t 46]⟩,
    ⟨6, some 11, none, .p .mov, [.t 50]⟩,
    ⟨7, some 12, none, .p .mov, [.t 51]⟩])
   (.seq (.reg 0 [⟨0, some 53, none, .l (.load 5 true 3), [.t 5]⟩,
    ⟨1, some 54, none, .l (.load 6 true 4), [.t 6]⟩,
    ⟨2, some 55, none, .e .call [] [], [.f 283, .t 53, .t 54]⟩,
    ⟨3, some 52, none, .p .mov, [.t 55]⟩,
    ⟨4, some 56, none, .p (.extract 0), [.t 52]⟩,
    ⟨5, some 57, none, .p (.extract 1), [.t 52]⟩,
    ⟨6, some 13, none, .p .mov, [.t 56]⟩,
    ⟨7, some 14, none, .p .mov, [.t 57]⟩])
   (.seq (.seq (.reg 0 [⟨0, some 58, none, .p .mov, [.t 8]⟩,
    ⟨1, some 59, none, .p .mov, [.t 10]⟩,
    ⟨2, some 60, none, .p (.eqB true), [.t 58, .t 59]⟩,
    ⟨3, some 61, none, .p .mov, [.t 60]⟩,
    ⟨4, some 62, some (61, false), .l (.load 7 true 3), [.t 7]⟩,
    ⟨5, some 63, some (61, false), .l (.load 9 true 3), [.t 9]⟩,
    ⟨6, some 64, some (61, false), .e .call [] [], [.f 284, .t 62, .t 63]⟩,
    ⟨7, some 65, some (61, false), .p (.un .not), [.t 64]⟩,
    ⟨8, some 66, none, .p .pick, [.t 61, .c (.bool true), .t 65]⟩,
    ⟨9, some 67, none, .p .mov, [.t 66]⟩,
    ⟨10, some 68, some (67, false), .p .mov, [.t 12]⟩,
    ⟨11, some 69, some (67, false), .p .mov, [.t 14]⟩,
    ⟨12, some 70, some (67, false), .p (.eqB true), [.t 68, .t 69]⟩,
    ⟨13, some 71, none, .p .pick, [.t 67, .c (.bool true), .t 70]⟩,
    ⟨14, some 72, none, .p .mov, [.t 71]⟩,
    ⟨15, some 73, some (72, false), .p .mov, [.t 11]⟩,
    ⟨16, some 74, some (72, false), .p .mov, [.t 13]⟩,
    ⟨17, some 75, some (72, false), .e .call [] [], [.f 24, .t 73, .t 74]⟩,
    ⟨18, some 76, some (72, false), .p (.un .not), [.t 75]⟩,
    ⟨19, some 77, none, .p .pick, [.t 72, .c (.bool true), .t 76]⟩,
    ⟨20, some 78, none, .p .mov, [.t 77]⟩,
    ⟨21, some 79, some (78, false), .p .mov, [.t 12]⟩,
    ⟨22, some 80, some (78, false), .p .mov, [.t 79]⟩,
    ⟨23, some 81, some (80, true), .p .mov, [.t 8]⟩,
    ⟨24, some 82, some (80, true), .p .mov, [.t 11]⟩,
    ⟨25, some 83, some (80, true), .p .len, [.t 82]⟩,
    ⟨26, some 84, some (80, true), .p (.bin .eql), [.t 83, .c (.int .i64 0)]⟩,
    ⟨27, some 85, some (80, true), .p (.eqB true), [.t 81, .t 84]⟩,
    ⟨28, some 86, some (78, false), .p .pick, [.t 80, .t 85, .c (.bool false)]⟩,
    ⟨29, some 87, none, .p .pick, [.t 78, .c (.bool true), .t 86]⟩])
   (.cond (.t 87) (.seq (.reg 0 [⟨0, some 4, none, .p .mov, [.c (.bool false)]⟩])
   (.ret))
   (.skip)))
   (.seq (.seq (.reg 0 [⟨0, some 88, none, .p .mov, [.t 8]⟩])
   (.cond (.t 88) (.seq (.reg 0 [⟨0, some 90, none, .l (.load 7 true 3), [.t 7]⟩,
    ⟨1, some 91, none, .p (.faddr 0), [.t 6]⟩,
    ⟨2, some 92, none, .l (.load 6 false 1), [.t 91]⟩,
    ⟨3, some 93, none, .e .call [] [], [.f 285, .t 90, .t 92]⟩,
    ⟨4, some 89, none, .p .mov, [.t 93]⟩,
    ⟨5, some 94, none, .p (.extract 0), [.t 89]⟩,
    ⟨6, some 95, none, .p (.extract 1), [.t 89]⟩,
    ⟨7, some 15, none, .p .mov, [.t 94]⟩,
    ⟨8, some 16, none, .p .mov, [.t 95]⟩])
   (.seq (.reg 0 [⟨0, some 96, none, .l (.load 7 true 3), [.t 7]⟩,
    ⟨1, some 97, none, .e .call [] [], [.f 286, .t 96]⟩,
    ⟨2, some 98, none, .p (.un .not), [.t 97]⟩,
    ⟨3, some 99, none, .p .mov, [.t 98]⟩,
    ⟨4, some 100, some (99, false), .p .mov, [.t 16]⟩,
    ⟨5, some 101, some (99, false), .p (.un .not), [.t 100]⟩,
    ⟨6, some 102, none, .p .pick, [.t 99, .c (.bool true), .t 101]⟩,
    ⟨7, some 103, none, .p .mov, [.t 102]⟩,
    ⟨8, some 104, some (103, false), .p (.faddr 3), [.t 6]⟩,
    ⟨9, some 105, some (103, false), .l (.load 6 false 1), [.t 104]⟩,
    ⟨10, some 106, some (103, false), .p .mov, [.t 105]⟩,
    ⟨11, some 107, some (106, true), .p .mov, [.t 15]⟩,
    ⟨12, some 108, some (106, true), .p .len, [.t 107]⟩,
    ⟨13, some 109, some (106, true), .p (.bin .gtr), [.t 108, .c (.int .i64 0)]⟩,
    ⟨14, some 110, some (103, false), .p .pick, [.t 106, .t 109, .c (.bool false)]⟩,
    ⟨15, some 111, none, .p .pick, [.t 103, .c (.bool true), .t 110]⟩,
    ⟨16, some 112, none, .p .mov, [.t 111]⟩,
    ⟨17, some 113, some (112, false), .p (.faddr 3), [.t 6]⟩,
    ⟨18, some 114, some (112, false), .l (.load 6 false 1), [.t 113]⟩,
    ⟨19, some 115, some (112, false), .p (.un .not), [.t 114]⟩,
    ⟨20, some 116, some (112, false), .p .mov, [.t 115]⟩,
    ⟨21, some 117, some (116, true), .p .mov, [.t 15]⟩,
    ⟨22, some 118, some (116, true), .p (.faddr 1), [.t 6]⟩,
    ⟨23, some 119, some (116, true), .l (.load 6 false 1), [.t 118]⟩,
    ⟨24, some 120, some (116, true), .e .call [] [], [.f 204, .t 117, .t 119]⟩,
    ⟨25, some 121, some (116, true), .p (.un .not), [.t 120]⟩,
    ⟨26, some 122, some (112, false), .p .pick, [.t 116, .t 121, .c (.bool false)]⟩,
    ⟨27, some 123, none, .p .pick, [.t 112, .c (.bool true), .t 122]⟩])
   (.cond (.t 123) (.seq (.reg 0 [⟨0, some 4, none, .p .mov, [.c (.bool false)]⟩])
   (.ret))
   (.skip))))
   (.skip)))
   (.seq (.reg 0 [⟨0, some 124, none, .p .mov, [.t 1]⟩,
    ⟨1, some 125, none, .e .call [] [], [.f 287, .t 124]⟩,
    ⟨2, some 17, none, .p .mov, [.t 125]⟩])
   (.seq (.reg 0 [⟨0, some 127, none, .p .mov, [.t 17]⟩,
    ⟨1, some 128, none, .e .call [] [], [.f 288, .t 127]⟩,
    ⟨2, some 126, none, .p .mov, [.t 128]⟩,
    ⟨3, some 129, none, .p (.extract 0), [.t 126]⟩,
    ⟨4, some 130, none, .p (.extract 1), [.t 126]⟩,
    ⟨5, some 18, none, .p .mov, [.t 129]⟩,
    ⟨6, some 19, none, .p .mov, [.t 130]⟩])
   (.seq (.reg 0 [⟨0, some 132, none, .p .mov, [.t 17]⟩,
    ⟨1, some 133, none, .e .call [] [], [.f 289, .t 132]⟩,
    ⟨2, some 131, none, .p .mov, [.t 133]⟩,
    ⟨3, some 134, none, .p (.extract 0), [.t 131]⟩,
    ⟨4, some 135, none, .p (.extract 1), [.t 131]⟩,
    ⟨5, some 20, none, .p .mov, [.t 134]⟩,
    ⟨6, some 21, none, .p .mov, [.t 135]⟩])
   (.seq (.seq (.reg 0 [⟨0, some 136, none, .p .mov, [.t 19]⟩,
    ⟨1, some 137, none, .p .mov, [.t 21]⟩,
    ⟨2, some 138, none, .p (.eqB true), [.t 136, .t 137]⟩,
    ⟨3, some 139, none, .p .mov, [.t 138]⟩,
    ⟨4, some 140, some (139, false), .p .mov, [.t 18]⟩,
    ⟨5, some 141, some (139, false), .p .mov, [.t 20]⟩,
    ⟨6, some 142, some (139, false), .e .call [] [], [.f 24, .t 140, .t 141]⟩,
    ⟨7, some 143, some (139, false), .p (.un .not), [.t 142]⟩,
    ⟨8, some 144, none, .p .pick, [.t 139, .c (.bool true), .t 143]⟩])
   (.cond (.t 144) (.seq (.reg 0 [⟨0, some 4, none, .p .mov, [.c (.bool false)]⟩])
   (.ret))
   (.skip)))
   (.seq (.seq (.reg 0 [⟨0, some 145, none, .p .mov, [.t 18]⟩,
    ⟨1, some 146, none, .p .len, [.t 145]⟩,
    ⟨2, some 147, none, .p .mov, [.c (.int .i64 0)]⟩])
   (.block 0 (.loop g280_0)))
   (.seq (.reg 0 [⟨0, some 4, none, .p .mov, [.c (.bool true)]⟩])
   (.ret))))))))))))))),
  [.tmp 4]⟩
/- loop.example/g00641/laws.sameRows -/
def g383_0 : GL.Code := .seq (.reg 0 [⟨0, some 14, none, .p (.bin .lss), [.t 13, .t 12]⟩])
   (.seq (.cond (.t 14) (.skip)
   (.exit 0))
   (.seq (.block 1 (.seq (.reg 0 [⟨0, some 15, none, .p .mov, [.t 13]⟩,
    ⟨1, some 5, none, .p .mov, [.t 15]⟩])
   (.seq (.reg 0 [⟨0, some 16, none, .p .mov, [.t 0]⟩,
    ⟨1, some 17, none, .p .mov, [.t 5]⟩,
    ⟨2, some 18, none, .p (.idx 1), [.t 16, .t 17]⟩,
    ⟨3, some 19, none, .r (.load false 1) false, [.t 18]⟩,
    ⟨4, some 20, none, .p .mov, [.t 1]⟩,
    ⟨5, some 21, none, .p .mov, [.t 5]⟩,
    ⟨6, some 22, none, .p (.idx 1), [.t 20, .t 21]⟩,
    ⟨7, some 23, none, .r (.load false 1) false, [.t 22]⟩,
    ⟨8, some 24, none, .e .call [] [], [.f 24, .t 19, .t 23]⟩,
    ⟨9, some 25, none, .p (.un .not), [.t 24]⟩])
   (.cond (.t 25) (.seq (.reg 0 [⟨0, some 4, none, .p .mov, [.c (.bool false)]⟩])
   (.ret))
   (.skip)))))
   (.reg 0 [⟨0, some 26, none, .p (.bin .add), [.t 13, .c (.int .i64 1)]⟩,
    ⟨1, some 13, none, .p .mov, [.t 26]⟩])))
def g383 : GL.Fn := ⟨.seq (.reg 0 [⟨0, some 4, none, .p .mov, [.c (.bool false)]⟩])
   (.seq (.seq (.reg 0 [⟨0, some 6, none, .p .mov, [.t 0]⟩,
    ⟨1, some 7, none, .p .len, [.t 6]⟩,
    ⟨2, some 8, none, .p .mov, [.t 1]⟩,
    ⟨3, some 9, none, .p .len, [.t 8]⟩,
    ⟨4, some 10, none, .p (.bin .neq), [.t 7, .t 9]⟩])
   (.cond (.t 10) (.seq (.reg 0 [⟨0, some 4, none, .p .mov, [.c (.bool false)]⟩])
   (.ret))
   (.skip)))
   (.seq (.seq (.reg 0 [⟨0, some 11, none, .p .mov, [.t 0]⟩,
    ⟨1, some 12, none, .p .len, [.t 11]⟩,
    ⟨2, some 13, none, .p .mov, [.c (.int .i64 0)]⟩])
   (.block 0 (.loop g383_0)))
   (.seq (.reg 0 [⟨0, some 4, none, .p .mov, [.c (.bool true)]⟩])
   (.ret)))),
  [.tmp 4]⟩
/- loop.example/g00641/laws.sameInts -/
def g24_0 : GL.Code := .seq (.reg 0 [⟨0, some 14, none, .p (.bin .lss), [.t 13, .t 12]⟩])
   (.seq (.cond (.t 14) (.skip)
   (.exit 0))
   (.seq (.block 1 (.seq (.reg 0 [⟨0, some 15, none, .p .mov, [.t 13]⟩,
    ⟨1, some 5, none, .p .mov, [.t 15]⟩])
   (.seq (.reg 0 [⟨0, some 16, none, .p .mov, [.t 0]⟩,
    ⟨1, some 17, none, .p .mov, [.t 5]⟩,
    ⟨2, some 18, none, .p (.idx 1), [.t 16, .t 17]⟩,
    ⟨3, some 19, none, .r (.load false 1) false, [.t 18]⟩,
    ⟨4, some 20, none, .p .mov, [.t 1]⟩,
    ⟨5, some 21, none, .p .mov, [.t 5]⟩,
    ⟨6, some 22, none, .p (.idx 1), [.t 20, .t 21]⟩,
    ⟨7, some 23, none, .r (.load false 1) false, [.t 22]⟩,
    ⟨8, some 24, none, .p (.bin .neq), [.t 19, .t 23]⟩])
   (.cond (.t 24) (.seq (.reg 0 [⟨0, some 4, none, .p .mov, [.c (.bool false)]⟩])
   (.ret))
   (.skip)))))
   (.reg 0 [⟨0, some 25, none, .p (.bin .add), [.t 13, .c (.int .i64 1)]⟩,
    ⟨1, some 13, none, .p .mov, [.t 25]⟩])))
def g24 : GL.Fn := ⟨.seq (.reg 0 [⟨0, some 4, none, .p .mov, [.c (.bool false)]⟩])
   (.seq (.seq (.reg 0 [⟨0, some 6, none, .p .mov, [.t 0]⟩,
    ⟨1, some 7, none, .p .len, [.t 6]⟩,
    ⟨2, some 8, none, .p .mov, [.t 1]⟩,
    ⟨3, some 9, none, .p .len, [.t 8]⟩,
    ⟨4, some 10, none, .p (.bin .neq), [.t 7, .t 9]⟩])
   (.cond (.t 10) (.seq (.reg 0 [⟨0, some 4, none, .p .mov, [.c (.bool false)]⟩])
   (.ret))
   (.skip)))
   (.seq (.seq (.reg 0 [⟨0, some 11, none, .p .mov, [.t 0]⟩,
    ⟨1, some 12, none, .p .len, [.t 11]⟩,
    ⟨2, some 13, none, .p .mov, [.c (.int .i64 0)]⟩])
   (.block 0 (.loop g24_0)))
   (.seq (.reg 0 [⟨0, some 4, none, .p .mov, [.c (.bool true)]⟩])
   (.ret)))),
  [.tmp 4]⟩
/- loop.example/g00641/laws.has -/
def g204_0 : GL.Code := .seq (.reg 0 [⟨0, some 10, none, .p (.bin .lss), [.t 9, .t 8]⟩])
   (.seq (.cond (.t 10) (.skip)
   (.exit 0))
   (.seq (.block 1 (.seq (.reg 0 [⟨0, some 11, none, .p (.idx 1), [.t 7, .t 9]⟩,
    ⟨1, some 12, none, .r (.load false 1) false, [.t 11]⟩,
    ⟨2, some 6, none, .p .mov, [.t 12]⟩])
   (.seq (.reg 0 [⟨0, some 13, none, .p .mov, [.t 6]⟩,
    ⟨1, some 14, none, .p .mov, [.t 1]⟩,
    ⟨2, some 15, none, .p (.bin .eql), [.t 13, .t 14]⟩])
   (.cond (.t 15) (.seq (.reg 0 [⟨0, some 4, none, .p .mov, [.c (.bool true)]⟩])
   (.ret))
   (.skip)))))
   (.reg 0 [⟨0, some 16, none, .p (.bin .add), [.t 9, .c (.int .i64 1)]⟩,
    ⟨1, some 9, none, .p .mov, [.t 16]⟩])))
def g204 : GL.Fn := ⟨.seq (.reg 0 [⟨0, some 4, none, .p .mov, [.c (.bool false)]⟩])
   (.seq (.seq (.reg 0 [⟨0, some 7, none, .p .mov, [.t 0]⟩,
    ⟨1, some 8, none, .p .len, [.t 7]⟩,
    ⟨2, some 9, none, .p .mov, [.c (.int .i64 0)]⟩])
   (.block 0 (.loop g204_0)))
   (.seq (.reg 0 [⟨0, some 4, none, .p .mov, [.c (.bool false)]⟩])
   (.ret))),
  [.tmp 4]⟩
/- loop.example/g00641/spec.AskLock -/
def g275 : GL.Fn := ⟨.seq (.reg 0 [⟨0, some 2, none, .l (.box 2 3), [.t 0]⟩,
    ⟨1, some 3, none, .l (.box 3 4), [.t 1]⟩,
    ⟨2, some 4, none, .l (.alloc 4 [.nils, .nils, .nils]), []⟩,
    ⟨3, some 5, none, .p .mov, [.c (.bool false)]⟩])
   (.seq (.seq (.reg 0 [⟨0, some 8, none, .l (.load 2 true 3), [.t 2]⟩,
    ⟨1, some 9, none, .e .call [] [], [.f 368, .t 8]⟩,
    ⟨2, some 10, none, .p (.un .not), [.t 9]⟩])
   (.cond (.t 10) (.seq (.reg 0 [⟨0, some 11, none, .p (.build [.nils, .nils, .nils] []), []⟩,
    ⟨1, none, none, .l (.store 4 3), [.t 4, .t 11]⟩,
    ⟨2, some 5, none, .p .mov, [.c (.bool false)]⟩])
   (.ret))
   (.skip)))
   (.seq (.reg 0 [⟨0, some 13, none, .l (.load 2 true 3), [.t 2]⟩,
    ⟨1, some 14, none, .e .call [] [], [.f 369, .t 13]⟩,
    ⟨2, some 15, none, .l (.load 3 true 4), [.t 3]⟩,
    ⟨3, some 16, none, .e .call [] [], [.f 370, .t 14, .t 15]⟩,
    ⟨4, some 12, none, .p .mov, [.t 16]⟩,
    ⟨5, some 17, none, .p (.extract 0), [.t 12]⟩,
    ⟨6, some 18, none, .p (.extract 1), [.t 12]⟩,
    ⟨7, some 6, none, .l (.alloc 6 [.nils, .nils, .nils]), []⟩,
    ⟨8, none, none, .l (.store 6 3), [.t 6, .t 17]⟩,
    ⟨9, some 7, none, .p .mov, [.t 18]⟩])
   (.seq (.seq (.reg 0 [⟨0, some 19, none, .p .mov, [.t 7]⟩,
    ⟨1, some 20, none, .p (.un .not), [.t 19]⟩])
   (.cond (.t 20) (.seq (.reg 0 [⟨0, some 21, none, .p (.build [.nils, .nils, .nils] []), []⟩,
    ⟨1, none, none, .l (.store 4 3), [.t 4, .t 21]⟩,
    ⟨2, some 5, none, .p .mov, [.c (.bool false)]⟩])
   (.ret))
   (.skip)))
   (.seq (.reg 0 [⟨0, some 22, none, .l (.load 6 true 3), [.t 6]⟩,
    ⟨1, some 23, none, .e .call [] [], [.f 369, .t 22]⟩,
    ⟨2, none, none, .l (.store 4 3), [.t 4, .t 23]⟩,
    ⟨3, some 5, none, .p .mov, [.c (.bool true)]⟩])
   (.ret))))),
  [.cellL 4 4 true 3, .tmp 5]⟩
/- loop.example/g00641/impl.AskLock -/
def g276 : GL.Fn := ⟨.seq (.reg 0 [⟨0, some 2, none, .l (.box 2 3), [.t 0]⟩,
    ⟨1, some 3, none, .l (.box 3 4), [.t 1]⟩,
    ⟨2, some 4, none, .l (.alloc 4 [.nils, .nils, .nils]), []⟩,
    ⟨3, some 5, none, .p .mov, [.c (.bool false)]⟩])
   (.seq (.seq (.reg 0 [⟨0, some 7, none, .l (.load 2 true 3), [.t 2]⟩,
    ⟨1, some 8, none, .e .call [] [], [.f 286, .t 7]⟩,
    ⟨2, some 9, none, .p (.un .not), [.t 8]⟩])
   (.cond (.t 9) (.seq (.reg 0 [⟨0, some 10, none, .p (.build [.nils, .nils, .nils] []), []⟩,
    ⟨1, none, none, .l (.store 4 3), [.t 4, .t 10]⟩,
    ⟨2, some 5, none, .p .mov, [.c (.bool false)]⟩])
   (.ret))
   (.skip)))
   (.seq (.reg 0 [⟨0, some 11, none, .l (.load 2 true 3), [.t 2]⟩,
    ⟨1, some 12, none, .e .call [] [], [.f 372, .t 11]⟩,
    ⟨2, some 6, none, .e (.new (.alloc [.nils, .nils, .nils])) [] [], []⟩,
    ⟨3, none, none, .e (.store 3) [] [], [.t 6, .t 12]⟩])
   (.seq (.seq (.reg 0 [⟨0, some 13, none, .l (.load 3 true 4), [.t 3]⟩,
    ⟨1, some 14, none, .e .call [] [], [.f 373, .t 6, .t 13]⟩,
    ⟨2, some 15, none, .p (.un .not), [.t 14]⟩])
   (.cond (.t 15) (.seq (.reg 0 [⟨0, some 16, none, .p (.build [.nils, .nils, .nils] []), []⟩,
    ⟨1, none, none, .l (.store 4 3), [.t 4, .t 16]⟩,
    ⟨2, some 5, none, .p .mov, [.c (.bool false)]⟩])
   (.ret))
   (.skip)))
   (.seq (.reg 0 [⟨0, some 17, none, .r (.load true 3) false, [.t 6]⟩,
    ⟨1, none, none, .l (.store 4 3), [.t 4, .t 17]⟩,
    ⟨2, some 5, none, .p .mov, [.c (.bool true)]⟩])
   (.ret))))),
  [.cellL 4 4 true 3, .tmp 5]⟩
/- loop.example/g00641/spec.DrawAskLock -/
def g281 : GL.Fn := ⟨.seq (.reg 0 [⟨0, some 2, none, .l (.alloc 2 [.nils, .nils, .nils]), []⟩,
    ⟨1, some 3, none, .l (.alloc 3 [.int .i64 0, .int .i64 0, .bool false, .bool false]), []⟩])
   (.seq (.reg 0 [⟨0, some 5, none, .p .mov, [.t 0]⟩,
    ⟨1, some 6, none, .p (.build [.nils, .int .i64 0, .int .u64 0] [(0, 1)]), [.t 5]⟩,
    ⟨2, some 7, none, .e (.new (.box 3)) [] [], [.t 6]⟩,
    ⟨3, some 4, none, .p .mov, [.t 7]⟩])
   (.seq (.reg 0 [⟨0, some 8, none, .p .mov, [.t 4]⟩,
    ⟨1, some 9, none, .e .call [] [], [.f 377, .t 8]⟩,
    ⟨2, some 10, none, .p .mov, [.t 4]⟩,
    ⟨3, some 11, none, .e .call [] [], [.f 378, .t 10]⟩,
    ⟨4, none, none, .l (.store 2 3), [.t 2, .t 9]⟩,
    ⟨5, none, none, .l (.store 3 4), [.t 3, .t 11]⟩])
   (.ret))),
  [.cellL 2 2 true 3, .cellL 3 3 true 4]⟩
/- loop.example/g00641/impl.WaitsFor -/
def g282 : GL.Fn := ⟨.seq (.reg 0 [⟨0, some 2, none, .l (.box 2 3), [.t 0]⟩,
    ⟨1, some 3, none, .l (.box 3 4), [.t 1]⟩,
    ⟨2, some 4, none, .p .mov, [.c (.nils)]⟩,
    ⟨3, some 5, none, .p .mov, [.c (.bool false)]⟩])
   (.seq (.seq (.reg 0 [⟨0, some 6, none, .l (.load 2 true 3), [.t 2]⟩,
    ⟨1, some 7, none, .e .call [] [], [.f 286, .t 6]⟩,
    ⟨2, some 8, none, .p (.un .not), [.t 7]⟩,
    ⟨3, some 9, none, .p .mov, [.t 8]⟩,
    ⟨4, some 10, some (9, false), .l (.load 2 true 3), [.t 2]⟩,
    ⟨5, some 11, some (9, false), .l (.load 3 true 4), [.t 3]⟩,
    ⟨6, some 12, some (9, false), .e .call [] [], [.f 379, .t 10, .t 11]⟩,
    ⟨7, some 13, some (9, false), .p (.un .not), [.t 12]⟩,
    ⟨8, some 14, none, .p .pick, [.t 9, .c (.bool true), .t 13]⟩,
    ⟨9, some 15, none, .p .mov, [.t 14]⟩,
    ⟨10, some 16, some (15, false), .p (.faddr 3), [.t 3]⟩,
    ⟨11, some 17, some (15, false), .l (.load 3 false 1), [.t 16]⟩,
    ⟨12, some 18, none, .p .pick, [.t 15, .c (.bool true), .t 17]⟩])
   (.cond (.t 18) (.seq (.reg 0 [⟨0, some 4, none, .p .mov, [.c (.nils)]⟩,
    ⟨1, some 5, none, .p .mov, [.c (.bool false)]⟩])
   (.ret))
   (.skip)))
   (.seq (.reg 0 [⟨0, some 19, none, .l (.load 2 true 3), [.t 2]⟩,
    ⟨1, some 20, none, .l (.load 3 true 4), [.t 3]⟩,
    ⟨2, some 21, none, .e .call [] [], [.f 380, .t 19, .t 20]⟩,
    ⟨3, some 4, none, .p .mov, [.t 21]⟩,
    ⟨4, some 5, none, .p .mov, [.c (.bool true)]⟩])
   (.ret))),
  [.tmp 4, .tmp 5]⟩
/- loop.example/g00641/spec.WaitsFor -/
def g283 : GL.Fn := ⟨.seq (.reg 0 [⟨0, some 2, none, .l (.box 2 3), [.t 0]⟩,
    ⟨1, some 3, none, .l (.box 3 4), [.t 1]⟩,
    ⟨2, some 4, none, .p .mov, [.c (.nils)]⟩,
    ⟨3, some 5, none, .p .mov, [.c (.bool false)]⟩])
   (.seq (.seq (.reg 0 [⟨0, some 6, none, .l (.load 2 true 3), [.t 2]⟩,
    ⟨1, some 7, none, .e .call [] [], [.f 368, .t 6]⟩,
    ⟨2, some 8, none, .p (.un .not), [.t 7]⟩,
    ⟨3, some 9, none, .p .mov, [.t 8]⟩,
    ⟨4, some 10, some (9, false), .l (.load 2 true 3), [.t 2]⟩,
    ⟨5, some 11, some (9, false), .l (.load 3 true 4), [.t 3]⟩,
    ⟨6, some 12, some (9, false), .e .call [] [], [.f 381, .t 10, .t 11]⟩,
    ⟨7, some 13, some (9, false), .p (.un .not), [.t 12]⟩,
    ⟨8, some 14, none, .p .pick, [.t 9, .c (.bool true), .t 13]⟩,
    ⟨9, some 15, none, .p .mov, [.t 14]⟩,
    ⟨10, some 16, some (15, false), .p (.faddr 3), [.t 3]⟩,
    ⟨11, some 17, some (15, false), .l (.load 3 false 1), [.t 16]⟩,
    ⟨12, some 18, none, .p .pick, [.t 15, .c (.bool true), .t 17]⟩])
   (.cond (.t 18) (.seq (.reg 0 [⟨0, some 4, none, .p .mov, [.c (.nils)]⟩,
    ⟨1, some 5, none, .p .mov, [.c (.bool false)]⟩])
   (.ret))
   (.skip)))
   (.seq (.reg 0 [⟨0, some 19, none, .l (.load 2 true 3), [.t 2]⟩,
    ⟨1, some 20, none, .l (.load 3 true 4), [.t 3]⟩,
    ⟨2, some 21, none, .e .call [] [], [.f 382, .t 19, .t 20]⟩,
    ⟨3, some 4, none, .p .mov, [.t 21]⟩,
    ⟨4, some 5, none, .p .mov, [.c (.bool true)]⟩])
   (.ret))),
  [.tmp 4, .tmp 5]⟩
/- loop.example/g00641/laws.sameLocks -/
def g284 : GL.Fn := ⟨.seq (.reg 0 [⟨0, some 2, none, .l (.box 2 3), [.t 0]⟩,
    ⟨1, some 3, none, .l (.box 3 3), [.t 1]⟩,
    ⟨2, some 4, none, .p .mov, [.c (.bool false)]⟩])
   (.seq (.reg 0 [⟨0, some 5, none, .p (.faddr 0), [.t 2]⟩,
    ⟨1, some 6, none, .l (.load 2 false 1), [.t 5]⟩,
    ⟨2, some 7, none, .p (.faddr 0), [.t 3]⟩,
    ⟨3, some 8, none, .l (.load 3 false 1), [.t 7]⟩,
    ⟨4, some 9, none, .e .call [] [], [.f 383, .t 6, .t 8]⟩,
    ⟨5, some 10, none, .p .mov, [.t 9]⟩,
    ⟨6, some 11, some (10, true), .p (.faddr 1), [.t 2]⟩,
    ⟨7, some 12, some (10, true), .l (.load 2 false 1), [.t 11]⟩,
    ⟨8, some 13, some (10, true), .p (.faddr 1), [.t 3]⟩,
    ⟨9, some 14, some (10, true), .l (.load 3 false 1), [.t 13]⟩,
    ⟨10, some 15, some (10, true), .e .call [] [], [.f 24, .t 12, .t 14]⟩,
    ⟨11, some 16, none, .p .pick, [.t 10, .t 15, .c (.bool false)]⟩,
    ⟨12, some 17, none, .p .mov, [.t 16]⟩,
    ⟨13, some 18, some (17, true), .p (.faddr 2), [.t 2]⟩,
    ⟨14, some 19, some (17, true), .l (.load 2 false 1), [.t 18]⟩,
    ⟨15, some 20, some (17, true), .p (.faddr 2), [.t 3]⟩,
    ⟨16, some 21, some (17, true), .l (.load 3 false 1), [.t 20]⟩,
    ⟨17, some 22, some (17, true), .e .call [] [], [.f 24, .t 19, .t 21]⟩,
    ⟨18, some 23, none, .p .pick, [.t 17, .t 22, .c (.bool false)]⟩,
    ⟨19, some 4, none, .p .mov, [.t 23]⟩])
   (.ret)),
  [.tmp 4]⟩
/- loop.example/g00641/impl.HeldBy -/
def g285_0 : GL.Code := .seq (.reg 0 [⟨0, some 18, none, .p (.bin .lss), [.t 17, .c (.int .i64 4)]⟩])
   (.seq (.cond (.t 18) (.skip)
   (.exit 0))
   (.seq (.block 1 (.seq (.reg 0 [⟨0, some 19, none, .p .mov, [.t 17]⟩,
    ⟨1, some 7, none, .p .mov, [.t 19]⟩])
   (.seq (.reg 0 [⟨0, some 20, none, .p (.faddr 1), [.t 2]⟩,
    ⟨1, some 21, none, .l (.load 2 false 1), [.t 20]⟩,
    ⟨2, some 22, none, .p .mov, [.t 7]⟩,
    ⟨3, some 23, none, .p (.idx 1), [.t 21, .t 22]⟩,
    ⟨4, some 24, none, .r (.load false 1) false, [.t 23]⟩,
    ⟨5, some 25, none, .p .mov, [.t 1]⟩,
    ⟨6, some 26, none, .p (.bin .eql), [.t 24, .t 25]⟩,
    ⟨7, some 27, none, .p .mov, [.t 26]⟩,
    ⟨8, some 28, some (27, false), .p (.faddr 0), [.t 2]⟩,
    ⟨9, some 29, some (27, false), .l (.load 2 false 1), [.t 28]⟩,
    ⟨10, some 30, some (27, false), .p .mov, [.t 7]⟩,
    ⟨11, some 31, some (27, false), .p (.idx 1), [.t 29, .t 30]⟩,
    ⟨12, some 32, some (27, false), .r (.load false 1) false, [.t 31]⟩,
    ⟨13, some 33, some (27, false), .p .mov, [.t 1]⟩,
    ⟨14, some 34, some (27, false), .e .call [] [], [.f 301, .t 32, .t 33]⟩,
    ⟨15, some 35, none, .p .pick, [.t 27, .c (.bool true), .t 34]⟩])
   (.cond (.t 35) (.reg 0 [⟨0, some 36, none, .p .mov, [.t 6]⟩,
    ⟨1, some 37, none, .p .mov, [.t 7]⟩,
    ⟨2, some 38, none, .e (.new (.lit 1)) [] [], [.t 37]⟩,
    ⟨3, some 39, none, .e (.append 1 8) [] [], [.t 36, .t 38]⟩,
    ⟨4, some 6, none, .p .mov, [.t 39]⟩])
   (.skip)))))
   (.reg 0 [⟨0, some 40, none, .p (.bin .add), [.t 17, .c (.int .i64 1)]⟩,
    ⟨1, some 17, none, .p .mov, [.t 40]⟩])))
def g285 : GL.Fn := ⟨.seq (.reg 0 [⟨0, some 2, none, .l (.box 2 3), [.t 0]⟩,
    ⟨1, some 4, none, .p .mov, [.c (.nils)]⟩,
    ⟨2, some 5, none, .p .mov, [.c (.bool false)]⟩])
   (.seq (.seq (.reg 0 [⟨0, some 8, none, .l (.load 2 true 3), [.t 2]⟩,
    ⟨1, some 9, none, .e .call [] [], [.f 286, .t 8]⟩,
    ⟨2, some 10, none, .p (.un .not), [.t 9]⟩,
    ⟨3, some 11, none, .p .mov, [.t 10]⟩,
    ⟨4, some 12, some (11, false), .p .mov, [.t 1]⟩,
    ⟨5, some 13, some (11, false), .e .call [] [], [.f 384, .t 12]⟩,
    ⟨6, some 14, some (11, false), .p (.un .not), [.t 13]⟩,
    ⟨7, some 15, none, .p .pick, [.t 11, .c (.bool true), .t 14]⟩])
   (.cond (.t 15) (.seq (.reg 0 [⟨0, some 4, none, .p .mov, [.c (.nils)]⟩,
    ⟨1, some 5, none, .p .mov, [.c (.bool false)]⟩])
   (.ret))
   (.skip)))
   (.seq (.reg 0 [⟨0, some 16, none, .e (.new (.lit 1)) [] [], []⟩,
    ⟨1, some 6, none, .p .mov, [.t 16]⟩])
   (.seq (.seq (.reg 0 [⟨0, some 17, none, .p .mov, [.c (.int .i64 0)]⟩])
   (.block 0 (.loop g285_0)))
   (.seq (.reg 0 [⟨0, some 41, none, .p .mov, [.t 6]⟩,
    ⟨1, some 4, none, .p .mov, [.t 41]⟩,
    ⟨2, some 5, none, .p .mov, [.c (.bool true)]⟩])
   (.ret))))),
  [.tmp 4, .tmp 5]⟩
/- loop.example/g00641/impl.GoodLocks -/
def g286_0 : GL.Code := .seq (.reg 0 [⟨0, some 22, none, .p (.bin .lss), [.t 21, .t 20]⟩])
   (.seq (.cond (.t 22) (.skip)
   (.exit 0))
   (.seq (.block 1 (.seq (.reg 0 [⟨0, some 23, none, .p .mov, [.t 21]⟩,
    ⟨1, some 24, none, .p (.idx 1), [.t 19, .t 21]⟩,
    ⟨2, some 25, none, .r (.load false 1) false, [.t 24]⟩,
    ⟨3, some 3, none, .p .mov, [.t 23]⟩,
    ⟨4, some 4, none, .p .mov, [.t 25]⟩])
   (.seq (.reg 0 [⟨0, some 26, none, .p .mov, [.t 4]⟩,
    ⟨1, some 27, none, .e .call [] [], [.f 384, .t 26]⟩,
    ⟨2, some 28, none, .p (.un .not), [.t 27]⟩,
    ⟨3, some 29, none, .p .mov, [.t 28]⟩,
    ⟨4, some 30, some (29, false), .p (.faddr 2), [.t 1]⟩,
    ⟨5, some 31, some (29, false), .l (.load 1 false 1), [.t 30]⟩,
    ⟨6, some 32, some (29, false), .p .mov, [.t 3]⟩,
    ⟨7, some 33, some (29, false), .p (.slice 1 false true false), [.t 31, .t 32]⟩,
    ⟨8, some 34, some (29, false), .p .mov, [.t 4]⟩,
    ⟨9, some 35, some (29, false), .e .call [] [], [.f 301, .t 33, .t 34]⟩,
    ⟨10, some 36, none, .p .pick, [.t 29, .c (.bool true), .t 35]⟩])
   (.cond (.t 36) (.seq (.reg 0 [⟨0, some 2, none, .p .mov, [.c (.bool false)]⟩])
   (.ret))
   (.skip)))))
   (.reg 0 [⟨0, some 37, none, .p (.bin .add), [.t 21, .c (.int .i64 1)]⟩,
    ⟨1, some 21, none, .p .mov, [.t 37]⟩])))
def g286_1 : GL.Code := .seq (.reg 0 [⟨0, some 42, none, .p (.bin .lss), [.t 41, .t 40]⟩])
   (.seq (.cond (.t 42) (.skip)
   (.exit 2))
   (.seq (.block 3 (.seq (.reg 0 [⟨0, some 43, none, .p .mov, [.t 41]⟩,
    ⟨1, some 44, none, .p (.idx 1), [.t 39, .t 41]⟩,
    ⟨2, some 45, none, .r (.load false 1) false, [.t 44]⟩,
    ⟨3, some 5, none, .p .mov, [.t 43]⟩,
    ⟨4, some 6, none, .p .mov, [.t 45]⟩])
   (.seq (.reg 0 [⟨0, some 46, none, .p (.faddr 1), [.t 1]⟩,
    ⟨1, some 47, none, .l (.load 1 false 1), [.t 46]⟩,
    ⟨2, some 48, none, .p .mov, [.t 5]⟩,
    ⟨3, some 49, none, .p (.idx 1), [.t 47, .t 48]⟩,
    ⟨4, some 50, none, .r (.load false 1) false, [.t 49]⟩,
    ⟨5, some 7, none, .p .mov, [.t 50]⟩])
   (.seq (.seq (.reg 0 [⟨0, some 51, none, .p .mov, [.t 6]⟩,
    ⟨1, some 52, none, .e .call [] [], [.f 385, .t 51, .c (.int .i64 0), .c (.int .i64 3)]⟩,
    ⟨2, some 53, none, .p (.un .not), [.t 52]⟩,
    ⟨3, some 54, none, .p .mov, [.t 53]⟩,
    ⟨4, some 55, some (54, false), .p .mov, [.t 7]⟩,
    ⟨5, some 56, some (54, false), .e .call [] [], [.f 107, .t 55, .c (.int .i64 (-1)), .c (.int .i64 3)]⟩,
    ⟨6, some 57, some (54, false), .p (.un .not), [.t 56]⟩,
    ⟨7, some 58, none, .p .pick, [.t 54, .c (.bool true), .t 57]⟩,
    ⟨8, some 59, none, .p .mov, [.t 58]⟩,
    ⟨9, some 60, some (59, false), .p .mov, [.t 7]⟩,
    ⟨10, some 61, some (59, false), .p (.bin .geq), [.t 60, .c (.int .i64 0)]⟩,
    ⟨11, some 62, some (59, false), .p .mov, [.t 61]⟩,
    ⟨12, some 63, some (62, true), .p .mov, [.t 6]⟩,
    ⟨13, some 64, some (62, true), .p .len, [.t 63]⟩,
    ⟨14, some 65, some (62, true), .p (.bin .gtr), [.t 64, .c (.int .i64 0)]⟩,
    ⟨15, some 66, some (59, false), .p .pick, [.t 62, .t 65, .c (.bool false)]⟩,
    ⟨16, some 67, some (59, false), .p .mov, [.t 66]⟩,
    ⟨17, some 68, some (67, true), .p .mov, [.t 6]⟩,
    ⟨18, some 69, some (67, true), .p .mov, [.t 7]⟩,
    ⟨19, some 70, some (67, true), .e (.new (.lit 1)) [] [], [.t 69]⟩,
    ⟨20, some 71, some (67, true), .e .call [] [], [.f 386, .t 68, .t 70]⟩,
    ⟨21, some 72, some (67, true), .p (.un .not), [.t 71]⟩,
    ⟨22, some 73, some (59, false), .p .pick, [.t 67, .t 72, .c (.bool false)]⟩,
    ⟨23, some 74, none, .p .pick, [.t 59, .c (.bool true), .t 73]⟩])
   (.cond (.t 74) (.seq (.reg 0 [⟨0, some 2, none, .p .mov, [.c (.bool false)]⟩])
   (.ret))
   (.skip)))
   (.seq (.reg 0 [⟨0, some 75, none, .p (.faddr 2), [.t 1]⟩,
    ⟨1, some 76, none, .l (.load 1 false 1), [.t 75]⟩,
    ⟨2, some 77, none, .p .mov, [.t 7]⟩,
    ⟨3, some 78, none, .e .call [] [], [.f 301, .t 76, .t 77]⟩,
    ⟨4, some 79, none, .p .mov, [.t 78]⟩,
    ⟨5, some 80, some (79, false), .p .mov, [.t 6]⟩,
    ⟨6, some 81, some (79, false), .p (.faddr 2), [.t 1]⟩,
    ⟨7, some 82, some (79, false), .l (.load 1 false 1), [.t 81]⟩,
    ⟨8, some 83, some (79, false), .e .call [] [], [.f 336, .t 80, .t 82]⟩,
    ⟨9, some 84, some (79, false), .p .len, [.t 83]⟩,
    ⟨10, some 85, some (79, false), .p (.bin .gtr), [.t 84, .c (.int .i64 0)]⟩,
    ⟨11, some 86, none, .p .pick, [.t 79, .c (.bool true), .t 85]⟩])
   (.cond (.t 86) (.seq (.reg 0 [⟨0, some 2, none, .p .mov, [.c (.bool false)]⟩])
   (.ret))
   (.skip)))))))
   (.reg 0 [⟨0, some 87, none, .p (.bin .add), [.t 41, .c (.int .i64 1)]⟩,
    ⟨1, some 41, none, .p .mov, [.t 87]⟩])))
def g286 : GL.Fn := ⟨.seq (.reg 0 [⟨0, some 1, none, .l (.box 1 3), [.t 0]⟩,
    ⟨1, some 2, none, .p .mov, [.c (.bool false)]⟩])
   (.seq (.seq (.reg 0 [⟨0, some 8, none, .p (.faddr 0), [.t 1]⟩,
    ⟨1, some 9, none, .l (.load 1 false 1), [.t 8]⟩,
    ⟨2, some 10, none, .p .len, [.t 9]⟩,
    ⟨3, some 11, none, .p (.bin .neq), [.t 10, .c (.int .i64 4)]⟩,
    ⟨4, some 12, none, .p .mov, [.t 11]⟩,
    ⟨5, some 13, some (12, false), .p (.faddr 1), [.t 1]⟩,
    ⟨6, some 14, some (12, false), .l (.load 1 false 1), [.t 13]⟩,
    ⟨7, some 15, some (12, false), .p .len, [.t 14]⟩,
    ⟨8, some 16, some (12, false), .p (.bin .neq), [.t 15, .c (.int .i64 4)]⟩,
    ⟨9, some 17, none, .p .pick, [.t 12, .c (.bool true), .t 16]⟩])
   (.cond (.t 17) (.seq (.reg 0 [⟨0, some 2, none, .p .mov, [.c (.bool false)]⟩])
   (.ret))
   (.skip)))
   (.seq (.seq (.reg 0 [⟨0, some 18, none, .p (.faddr 2), [.t 1]⟩,
    ⟨1, some 19, none, .l (.load 1 false 1), [.t 18]⟩,
    ⟨2, some 20, none, .p .len, [.t 19]⟩,
    ⟨3, some 21, none, .p .mov, [.c (.int .i64 0)]⟩])
   (.block 0 (.loop g286_0)))
   (.seq (.seq (.reg 0 [⟨0, some 38, none, .p (.faddr 0), [.t 1]⟩,
    ⟨1, some 39, none, .l (.load 1 false 1), [.t 38]⟩,
    ⟨2, some 40, none, .p .len, [.t 39]⟩,
    ⟨3, some 41, none, .p .mov, [.c (.int .i64 0)]⟩])
   (.block 2 (.loop g286_1)))
   (.seq (.reg 0 [⟨0, some 2, none, .p .mov, [.c (.bool true)]⟩])
   (.ret))))),
  [.tmp 2]⟩
/- loop.example/g00641/spec.DrawHasRound -/
def g287 : GL.Fn := ⟨.seq (.reg 0 [⟨0, some 2, none, .p .mov, [.c (.nils)]⟩])
   (.seq (.reg 0 [⟨0, some 5, none, .p .mov, [.t 0]⟩,
    ⟨1, some 6, none, .p (.build [.nils, .int .i64 0, .int .u64 0] [(0, 1)]), [.t 5]⟩,
    ⟨2, some 7, none, .e (.new (.box 3)) [] [], [.t 6]⟩,
    ⟨3, some 3, none, .p .mov, [.t 7]⟩])
   (.seq (.reg 0 [⟨0, some 8, none, .p .mov, [.t 3]⟩,
    ⟨1, some 9, none, .e .call [] [], [.f 91, .t 8, .c (.int .i64 5)]⟩,
    ⟨2, some 10, none, .p (.bin .sub), [.t 9, .c (.int .i64 1)]⟩,
    ⟨3, some 11, none, .p .mov, [.t 3]⟩,
    ⟨4, some 12, none, .e .call [] [], [.f 91, .t 11, .c (.int .i64 5)]⟩,
    ⟨5, some 13, none, .p (.bin .sub), [.t 12, .c (.int .i64 1)]⟩,
    ⟨6, some 14, none, .p .mov, [.t 3]⟩,
    ⟨7, some 15, none, .e .call [] [], [.f 91, .t 14, .c (.int .i64 5)]⟩,
    ⟨8, some 16, none, .p (.bin .sub), [.t 15, .c (.int .i64 1)]⟩,
    ⟨9, some 17, none, .p .mov, [.t 3]⟩,
    ⟨10, some 18, none, .e .call [] [], [.f 91, .t 17, .c (.int .i64 5)]⟩,
    ⟨11, some 19, none, .p (.bin .sub), [.t 18, .c (.int .i64 1)]⟩,
    ⟨12, some 20, none, .e (.new (.lit 1)) [] [], [.t 10, .t 13, .t 16, .t 19]⟩,
    ⟨13, some 4, none, .p .mov, [.t 20]⟩])
   (.seq (.seq (.reg 0 [⟨0, some 21, none, .p .mov, [.t 3]⟩,
    ⟨1, some 22, none, .e .call [] [], [.f 92, .t 21, .c (.int .i64 20)]⟩])
   (.cond (.t 22) (.reg 0 [⟨0, some 23, none, .p .mov, [.t 4]⟩,
    ⟨1, some 24, none, .p (.slice 1 true false false), [.t 23, .c (.int .i64 1)]⟩,
    ⟨2, some 4, none, .p .mov, [.t 24]⟩])
   (.skip)))
   (.seq (.reg 0 [⟨0, some 25, none, .p .mov, [.t 4]⟩,
    ⟨1, some 2, none, .p .mov, [.t 25]⟩])
   (.ret))))),
  [.tmp 2]⟩
/- loop.example/g00641/impl.HasRound -/
def g288_0 : GL.Code := .seq (.seq (.reg 0 [⟨0, some 23, none, .p .mov, [.t 6]⟩,
    ⟨1, some 24, none, .p (.bin .geq), [.t 23, .c (.int .i64 0)]⟩,
    ⟨2, some 25, none, .p .mov, [.t 24]⟩,
    ⟨3, some 26, some (25, true), .p .mov, [.t 5]⟩,
    ⟨4, some 27, some (25, true), .p (.slice 1 true false false), [.t 26, .c (.int .i64 1)]⟩,
    ⟨5, some 28, some (25, true), .p .mov, [.t 6]⟩,
    ⟨6, some 29, some (25, true), .e .call [] [], [.f 301, .t 27, .t 28]⟩,
    ⟨7, some 30, some (25, true), .p (.un .not), [.t 29]⟩,
    ⟨8, some 31, none, .p .pick, [.t 25, .t 30, .c (.bool false)]⟩])
   (.cond (.t 31) (.skip)
   (.exit 2)))
   (.seq (.block 3 (.seq (.seq (.reg 0 [⟨0, some 36, none, .p .mov, [.t 6]⟩,
    ⟨1, some 37, none, .p .mov, [.t 4]⟩,
    ⟨2, some 38, none, .p (.bin .eql), [.t 36, .t 37]⟩])
   (.cond (.t 38) (.seq (.reg 0 [⟨0, some 39, none, .p .mov, [.t 5]⟩,
    ⟨1, some 2, none, .p .mov, [.t 39]⟩,
    ⟨2, some 3, none, .p .mov, [.c (.bool true)]⟩])
   (.ret))
   (.skip)))
   (.reg 0 [⟨0, some 40, none, .p .mov, [.t 5]⟩,
    ⟨1, some 41, none, .p .mov, [.t 6]⟩,
    ⟨2, some 42, none, .e (.new (.lit 1)) [] [], [.t 41]⟩,
    ⟨3, some 43, none, .e (.append 1 8) [] [], [.t 40, .t 42]⟩,
    ⟨4, some 5, none, .p .mov, [.t 43]⟩])))
   (.reg 0 [⟨0, some 32, none, .p .mov, [.t 0]⟩,
    ⟨1, some 33, none, .p .mov, [.t 6]⟩,
    ⟨2, some 34, none, .p (.idx 1), [.t 32, .t 33]⟩,
    ⟨3, some 35, none, .r (.load false 1) false, [.t 34]⟩,
    ⟨4, some 6, none, .p .mov, [.t 35]⟩]))
def g288_1 : GL.Code := .seq (.reg 0 [⟨0, some 15, none, .p (.bin .lss), [.t 14, .c (.int .i64 4)]⟩])
   (.seq (.cond (.t 15) (.skip)
   (.exit 0))
   (.seq (.block 1 (.seq (.reg 0 [⟨0, some 16, none, .p .mov, [.t 14]⟩,
    ⟨1, some 4, none, .p .mov, [.t 16]⟩])
   (.seq (.reg 0 [⟨0, some 17, none, .p .mov, [.t 4]⟩,
    ⟨1, some 18, none, .e (.new (.lit 1)) [] [], [.t 17]⟩,
    ⟨2, some 5, none, .p .mov, [.t 18]⟩])
   (.seq (.reg 0 [⟨0, some 19, none, .p .mov, [.t 0]⟩,
    ⟨1, some 20, none, .p .mov, [.t 4]⟩,
    ⟨2, some 21, none, .p (.idx 1), [.t 19, .t 20]⟩,
    ⟨3, some 22, none, .r (.load false 1) false, [.t 21]⟩,
    ⟨4, some 6, none, .p .mov, [.t 22]⟩])
   (.block 2 (.loop g288_0))))))
   (.reg 0 [⟨0, some 44, none, .p (.bin .add), [.t 14, .c (.int .i64 1)]⟩,
    ⟨1, some 14, none, .p .mov, [.t 44]⟩])))
def g288 : GL.Fn := ⟨.seq (.reg 0 [⟨0, some 2, none, .p .mov, [.c (.nils)]⟩,
    ⟨1, some 3, none, .p .mov, [.c (.bool false)]⟩])
   (.seq (.seq (.reg 0 [⟨0, some 7, none, .p .mov, [.t 0]⟩,
    ⟨1, some 8, none, .p .len, [.t 7]⟩,
    ⟨2, some 9, none, .p (.bin .neq), [.t 8, .c (.int .i64 4)]⟩,
    ⟨3, some 10, none, .p .mov, [.t 9]⟩,
    ⟨4, some 11, some (10, false), .p .mov, [.t 0]⟩,
    ⟨5, some 12, some (10, false), .e .call [] [], [.f 304, .t 11, .f 387]⟩,
    ⟨6, some 13, none, .p .pick, [.t 10, .c (.bool true), .t 12]⟩])
   (.cond (.t 13) (.seq (.reg 0 [⟨0, some 2, none, .p .mov, [.c (.nils)]⟩,
    ⟨1, some 3, none, .p .mov, [.c (.bool false)]⟩])
   (.ret))
   (.skip)))
   (.seq (.seq (.reg 0 [⟨0, some 14, none, .p .mov, [.c (.int .i64 0)]⟩])
   (.block 0 (.loop g288_1)))
   (.seq (.reg 0 [⟨0, some 2, none, .p .mov, [.c (.nils)]⟩,
    ⟨1, some 3, none, .p .mov, [.c (.bool false)]⟩])
   (.ret)))),
  [.tmp 2, .tmp 3]⟩
/- loop.example/g00641/spec.HasRound -/
def g289_0 : GL.Code := .seq (.seq (.reg 0 [⟨0, some 26, none, .p .mov, [.t 6]⟩,
    ⟨1, some 27, none, .p (.bin .geq), [.t 26, .c (.int .i64 0)]⟩,
    ⟨2, some 28, none, .p .mov, [.t 27]⟩,
    ⟨3, some 29, some (28, true), .p .mov, [.t 6]⟩,
    ⟨4, some 30, some (28, true), .p .mov, [.t 4]⟩,
    ⟨5, some 31, some (28, true), .p (.bin .neq), [.t 29, .t 30]⟩,
    ⟨6, some 32, none, .p .pick, [.t 28, .t 31, .c (.bool false)]⟩,
    ⟨7, some 33, none, .p .mov, [.t 32]⟩,
    ⟨8, some 34, some (33, true), .p .mov, [.t 5]⟩,
    ⟨9, some 35, some (33, true), .p .len, [.t 34]⟩,
    ⟨10, some 36, some (33, true), .p (.bin .leq), [.t 35, .c (.int .i64 4)]⟩,
    ⟨11, some 37, none, .p .pick, [.t 33, .t 36, .c (.bool false)]⟩])
   (.cond (.t 37) (.skip)
   (.exit 2)))
   (.seq (.block 3 (.reg 0 [⟨0, some 42, none, .p .mov, [.t 5]⟩,
    ⟨1, some 43, none, .p .mov, [.t 6]⟩,
    ⟨2, some 44, none, .e (.new (.lit 1)) [] [], [.t 43]⟩,
    ⟨3, some 45, none, .e (.append 1 8) [] [], [.t 42, .t 44]⟩,
    ⟨4, some 5, none, .p .mov, [.t 45]⟩]))
   (.reg 0 [⟨0, some 38, none, .p .mov, [.t 0]⟩,
    ⟨1, some 39, none, .p .mov, [.t 6]⟩,
    ⟨2, some 40, none, .p (.idx 1), [.t 38, .t 39]⟩,
    ⟨3, some 41, none, .r (.load false 1) false, [.t 40]⟩,
    ⟨4, some 6, none, .p .mov, [.t 41]⟩]))
def g289_1 : GL.Code := .seq (.reg 0 [⟨0, some 18, none, .p (.bin .lss), [.t 17, .t 16]⟩])
   (.seq (.cond (.t 18) (.skip)
   (.exit 0))
   (.seq (.block 1 (.seq (.reg 0 [⟨0, some 19, none, .p .mov, [.t 17]⟩,
    ⟨1, some 4, none, .p .mov, [.t 19]⟩])
   (.seq (.reg 0 [⟨0, some 20, none, .p .mov, [.t 4]⟩,
    ⟨1, some 21, none, .e (.new (.lit 1)) [] [], [.t 20]⟩,
    ⟨2, some 5, none, .p .mov, [.t 21]⟩])
   (.seq (.seq (.reg 0 [⟨0, some 22, none, .p .mov, [.t 0]⟩,
    ⟨1, some 23, none, .p .mov, [.t 4]⟩,
    ⟨2, some 24, none, .p (.idx 1), [.t 22, .t 23]⟩,
    ⟨3, some 25, none, .r (.load false 1) false, [.t 24]⟩,
    ⟨4, some 6, none, .p .mov, [.t 25]⟩])
   (.block 2 (.loop g289_0)))
   (.seq (.reg 0 [⟨0, some 46, none, .p .mov, [.t 5]⟩,
    ⟨1, some 47, none, .p .len, [.t 46]⟩,
    ⟨2, some 48, none, .p (.bin .leq), [.t 47, .c (.int .i64 4)]⟩,
    ⟨3, some 49, none, .p .mov, [.t 48]⟩,
    ⟨4, some 50, some (49, true), .p .mov, [.t 0]⟩,
    ⟨5, some 51, some (49, true), .p .mov, [.t 5]⟩,
    ⟨6, some 52, some (49, true), .p .mov, [.t 5]⟩,
    ⟨7, some 53, some (49, true), .p .len, [.t 52]⟩,
    ⟨8, some 54, some (49, true), .p (.bin .sub), [.t 53, .c (.int .i64 1)]⟩,
    ⟨9, some 55, some (49, true), .p (.idx 1), [.t 51, .t 54]⟩,
    ⟨10, some 56, some (49, true), .r (.load false 1) false, [.t 55]⟩,
    ⟨11, some 57, some (49, true), .p (.idx 1), [.t 50, .t 56]⟩,
    ⟨12, some 58, some (49, true), .r (.load false 1) false, [.t 57]⟩,
    ⟨13, some 59, some (49, true), .p .mov, [.t 4]⟩,
    ⟨14, some 60, some (49, true), .p (.bin .eql), [.t 58, .t 59]⟩,
    ⟨15, some 61, none, .p .pick, [.t 49, .t 60, .c (.bool false)]⟩])
   (.cond (.t 61) (.seq (.reg 0 [⟨0, some 62, none, .p .mov, [.t 5]⟩,
    ⟨1, some 2, none, .p .mov, [.t 62]⟩,
    ⟨2, some 3, none, .p .mov, [.c (.bool true)]⟩])
   (.ret))
   (.skip)))))))
   (.reg 0 [⟨0, some 63, none, .p (.bin .add), [.t 17, .c (.int .i64 1)]⟩,
    ⟨1, some 17, none, .p .mov, [.t 63]⟩])))
def g289 : GL.Fn := ⟨.seq (.reg 0 [⟨0, some 2, none, .p .mov, [.c (.nils)]⟩,
    ⟨1, some 3, none, .p .mov, [.c (.bool false)]⟩])
   (.seq (.seq (.reg 0 [⟨0, some 7, none, .p .mov, [.t 0]⟩,
    ⟨1, some 8, none, .p .len, [.t 7]⟩,
    ⟨2, some 9, none, .p (.bin .neq), [.t 8, .c (.int .i64 4)]⟩,
    ⟨3, some 10, none, .p .mov, [.t 9]⟩,
    ⟨4, some 11, some (10, false), .p .mov, [.t 0]⟩,
    ⟨5, some 12, some (10, false), .e .call [] [], [.f 94, .t 11, .c (.int .i64 (-1)), .c (.int .i64 3)]⟩,
    ⟨6, some 13, some (10, false), .p (.un .not), [.t 12]⟩,
    ⟨7, some 14, none, .p .pick, [.t 10, .c (.bool true), .t 13]⟩])
   (.cond (.t 14) (.seq (.reg 0 [⟨0, some 2, none, .p .mov, [.c (.nils)]⟩,
    ⟨1, some 3, none, .p .mov, [.c (.bool false)]⟩])
   (.ret))
   (.skip)))
   (.seq (.seq (.reg 0 [⟨0, some 15, none, .p .mov, [.t 0]⟩,
    ⟨1, some 16, none, .p .len, [.t 15]⟩,
    ⟨2, some 17, none, .p .mov, [.c (.int .i64 0)]⟩])
   (.block 0 (.loop g289_1)))
   (.seq (.reg 0 [⟨0, some 2, none, .p .mov, [.c (.nils)]⟩,
    ⟨1, some 3, none, .p .mov, [.c (.bool false)]⟩])
   (.ret)))),
  [.tmp 2, .tmp 3]⟩
/- (*loop.example/g00641/spec.l1Cur).one -/
def g92 : GL.Fn := ⟨.seq (.reg 0 [⟨0, some 4, none, .p .mov, [.c (.bool false)]⟩])
   (.seq (.reg 0 [⟨0, some 5, none, .p .mov, [.t 0]⟩,
    ⟨1, some 6, none, .p .mov, [.t 1]⟩,
    ⟨2, some 7, none, .e .call [] [], [.f 91, .t 5, .t 6]⟩,
    ⟨3, some 8, none, .p (.bin .eql), [.t 7, .c (.int .i64 0)]⟩,
    ⟨4, some 4, none, .p .mov, [.t 8]⟩])
   (.ret)),
  [.tmp 4]⟩
/- loop.example/g00641/spec.l1All -/
def g94_0 : GL.Code := .seq (.reg 0 [⟨0, some 12, none, .p (.bin .lss), [.t 11, .t 10]⟩])
   (.seq (.cond (.t 12) (.skip)
   (.exit 0))
   (.seq (.block 1 (.seq (.reg 0 [⟨0, some 13, none, .p (.idx 1), [.t 9, .t 11]⟩,
    ⟨1, some 14, none, .r (.load false 1) false, [.t 13]⟩,
    ⟨2, some 8, none, .p .mov, [.t 14]⟩])
   (.seq (.reg 0 [⟨0, some 15, none, .p .mov, [.t 8]⟩,
    ⟨1, some 16, none, .p .mov, [.t 1]⟩,
    ⟨2, some 17, none, .p .mov, [.t 2]⟩,
    ⟨3, some 18, none, .e .call [] [], [.f 98, .t 15, .t 16, .t 17]⟩,
    ⟨4, some 19, none, .p (.un .not), [.t 18]⟩])
   (.cond (.t 19) (.seq (.reg 0 [⟨0, some 6, none, .p .mov, [.c (.bool false)]⟩])
   (.ret))
   (.skip)))))
   (.reg 0 [⟨0, some 20, none, .p (.bin .add), [.t 11, .c (.int .i64 1)]⟩,
    ⟨1, some 11, none, .p .mov, [.t 20]⟩])))
def g94 : GL.Fn := ⟨.seq (.reg 0 [⟨0, some 6, none, .p .mov, [.c (.bool false)]⟩])
   (.seq (.seq (.reg 0 [⟨0, some 9, none, .p .mov, [.t 0]⟩,
    ⟨1, some 10, none, .p .len, [.t 9]⟩,
    ⟨2, some 11, none, .p .mov, [.c (.int .i64 0)]⟩])
   (.block 0 (.loop g94_0)))
   (.seq (.reg 0 [⟨0, some 6, none, .p .mov, [.c (.bool true)]⟩])
   (.ret))),
  [.tmp 6]⟩
/- loop.example/g00641/spec.l1Has -/
def g302_0 : GL.Code := .seq (.reg 0 [⟨0, some 10, none, .p (.bin .lss), [.t 9, .t 8]⟩])
   (.seq (.cond (.t 10) (.skip)
   (.exit 0))
   (.seq (.block 1 (.seq (.reg 0 [⟨0, some 11, none, .p (.idx 1), [.t 7, .t 9]⟩,
    ⟨1, some 12, none, .r (.load false 1) false, [.t 11]⟩,
    ⟨2, some 6, none, .p .mov, [.t 12]⟩])
   (.seq (.reg 0 [⟨0, some 13, none, .p .mov, [.t 6]⟩,
    ⟨1, some 14, none, .p .mov, [.t 1]⟩,
    ⟨2, some 15, none, .p (.bin .eql), [.t 13, .t 14]⟩])
   (.cond (.t 15) (.seq (.reg 0 [⟨0, some 4, none, .p .mov, [.c (.bool true)]⟩])
   (.ret))
   (.skip)))))
   (.reg 0 [⟨0, some 16, none, .p (.bin .add), [.t 9, .c (.int .i64 1)]⟩,
    ⟨1, some 9, none, .p .mov, [.t 16]⟩])))
def g302 : GL.Fn := ⟨.seq (.reg 0 [⟨0, some 4, none, .p .mov, [.c (.bool false)]⟩])
   (.seq (.seq (.reg 0 [⟨0, some 7, none, .p .mov, [.t 0]⟩,
    ⟨1, some 8, none, .p .len, [.t 7]⟩,
    ⟨2, some 9, none, .p .mov, [.c (.int .i64 0)]⟩])
   (.block 0 (.loop g302_0)))
   (.seq (.reg 0 [⟨0, some 4, none, .p .mov, [.c (.bool false)]⟩])
   (.ret))),
  [.tmp 4]⟩
/- loop.example/g00641/impl.isRising -/
def g385_0 : GL.Code := .seq (.reg 0 [⟨0, some 12, none, .p (.bin .lss), [.t 11, .t 10]⟩])
   (.seq (.cond (.t 12) (.skip)
   (.exit 0))
   (.seq (.block 1 (.seq (.reg 0 [⟨0, some 13, none, .p .mov, [.t 11]⟩,
    ⟨1, some 14, none, .p (.idx 1), [.t 9, .t 11]⟩,
    ⟨2, some 15, none, .r (.load false 1) false, [.t 14]⟩,
    ⟨3, some 7, none, .p .mov, [.t 13]⟩,
    ⟨4, some 8, none, .p .mov, [.t 15]⟩])
   (.seq (.reg 0 [⟨0, some 16, none, .p .mov, [.t 8]⟩,
    ⟨1, some 17, none, .p .mov, [.t 1]⟩,
    ⟨2, some 18, none, .p .mov, [.t 2]⟩,
    ⟨3, some 19, none, .e .call [] [], [.f 107, .t 16, .t 17, .t 18]⟩,
    ⟨4, some 20, none, .p (.un .not), [.t 19]⟩,
    ⟨5, some 21, none, .p .mov, [.t 20]⟩,
    ⟨6, some 22, some (21, false), .p .mov, [.t 7]⟩,
    ⟨7, some 23, some (21, false), .p (.bin .gtr), [.t 22, .c (.int .i64 0)]⟩,
    ⟨8, some 24, some (21, false), .p .mov, [.t 23]⟩,
    ⟨9, some 25, some (24, true), .p .mov, [.t 0]⟩,
    ⟨10, some 26, some (24, true), .p .mov, [.t 7]⟩,
    ⟨11, some 27, some (24, true), .p (.bin .sub), [.t 26, .c (.int .i64 1)]⟩,
    ⟨12, some 28, some (24, true), .p (.idx 1), [.t 25, .t 27]⟩,
    ⟨13, some 29, some (24, true), .r (.load false 1) false, [.t 28]⟩,
    ⟨14, some 30, some (24, true), .p .mov, [.t 8]⟩,
    ⟨15, some 31, some (24, true), .p (.bin .geq), [.t 29, .t 30]⟩,
    ⟨16, some 32, some (21, false), .p .pick, [.t 24, .t 31, .c (.bool false)]⟩,
    ⟨17, some 33, none, .p .pick, [.t 21, .c (.bool true), .t 32]⟩])
   (.cond (.t 33) (.seq (.reg 0 [⟨0, some 6, none, .p .mov, [.c (.bool false)]⟩])
   (.ret))
   (.skip)))))
   (.reg 0 [⟨0, some 34, none, .p (.bin .add), [.t 11, .c (.int .i64 1)]⟩,
    ⟨1, some 11, none, .p .mov, [.t 34]⟩])))
def g385 : GL.Fn := ⟨.seq (.reg 0 [⟨0, some 6, none, .p .mov, [.c (.bool false)]⟩])
   (.seq (.seq (.reg 0 [⟨0, some 9, none, .p .mov, [.t 0]⟩,
    ⟨1, some 10, none, .p .len, [.t 9]⟩,
    ⟨2, some 11, none, .p .mov, [.c (.int .i64 0)]⟩])
   (.block 0 (.loop g385_0)))
   (.seq (.reg 0 [⟨0, some 6, none, .p .mov, [.c (.bool true)]⟩])
   (.ret))),
  [.tmp 6]⟩
/- slices.Contains[[]int,int] -/
def g301 : GL.Fn := ⟨.seq (.reg 0 [⟨0, some 4, none, .p .mov, [.c (.bool false)]⟩])
   (.seq (.reg 0 [⟨0, some 5, none, .p .mov, [.t 0]⟩,
    ⟨1, some 6, none, .p .mov, [.t 1]⟩,
    ⟨2, some 7, none, .e .call [] [], [.f 390, .t 5, .t 6]⟩,
    ⟨3, some 8, none, .p (.bin .geq), [.t 7, .c (.int .i64 0)]⟩,
    ⟨4, some 4, none, .p .mov, [.t 8]⟩])
   (.ret)),
  [.tmp 4]⟩
/- (*loop.example/g00641/spec.l1Cur).pick -/
def g91 : GL.Fn := ⟨.seq (.reg 0 [⟨0, some 4, none, .p .mov, [.c (.int .i64 0)]⟩])
   (.seq (.seq (.reg 0 [⟨0, some 6, none, .p .mov, [.t 1]⟩,
    ⟨1, some 7, none, .p (.bin .leq), [.t 6, .c (.int .i64 1)]⟩])
   (.cond (.t 7) (.seq (.reg 0 [⟨0, some 4, none, .p .mov, [.c (.int .i64 0)]⟩])
   (.ret))
   (.skip)))
   (.seq (.reg 0 [⟨0, some 8, none, .p .mov, [.t 0]⟩,
    ⟨1, some 9, none, .e .call [] [], [.f 140, .t 8]⟩,
    ⟨2, some 5, none, .p .mov, [.t 9]⟩])
   (.seq (.seq (.reg 0 [⟨0, some 10, none, .p .mov, [.t 1]⟩,
    ⟨1, some 11, none, .p (.bin .gtr), [.t 10, .c (.int .i64 200)]⟩])
   (.cond (.t 11) (.reg 0 [⟨0, some 12, none, .p .mov, [.t 5]⟩,
    ⟨1, some 13, none, .p (.bin .mul), [.t 12, .c (.int .i64 256)]⟩,
    ⟨2, some 14, none, .p .mov, [.t 0]⟩,
    ⟨3, some 15, none, .e .call [] [], [.f 140, .t 14]⟩,
    ⟨4, some 16, none, .p (.bin .add), [.t 13, .t 15]⟩,
    ⟨5, some 5, none, .p .mov, [.t 16]⟩])
   (.skip)))
   (.seq (.reg 0 [⟨0, some 17, none, .p .mov, [.t 5]⟩,
    ⟨1, some 18, none, .p .mov, [.t 1]⟩,
    ⟨2, some 19, none, .p (.bin .rem), [.t 17, .t 18]⟩,
    ⟨3, some 4, none, .p .mov, [.t 19]⟩])
   (.ret))))),
  [.tmp 4]⟩
/- loop.example/g00641/spec.l1Put -/
def g410_0 : GL.Code := .seq (.seq (.reg 0 [⟨0, some 7, none, .p .mov, [.t 5]⟩,
    ⟨1, some 8, none, .p .mov, [.t 0]⟩,
    ⟨2, some 9, none, .p .len, [.t 8]⟩,
    ⟨3, some 10, none, .p (.bin .lss), [.t 7, .t 9]⟩,
    ⟨4, some 11, none, .p .mov, [.t 10]⟩,
    ⟨5, some 12, some (11, true), .p .mov, [.t 0]⟩,
    ⟨6, some 13, some (11, true), .p .mov, [.t 5]⟩,
    ⟨7, some 14, some (11, true), .p (.idx 1), [.t 12, .t 13]⟩,
    ⟨8, some 15, some (11, true), .r (.load false 1) false, [.t 14]⟩,
    ⟨9, some 16, some (11, true), .p .mov, [.t 1]⟩,
    ⟨10, some 17, some (11, true), .p (.bin .lss), [.t 15, .t 16]⟩,
    ⟨11, some 18, none, .p .pick, [.t 11, .t 17, .c (.bool false)]⟩])
   (.cond (.t 18) (.skip)
   (.exit 0)))
   (.block 1 (.reg 0 [⟨0, some 19, none, .p .mov, [.t 5]⟩,
    ⟨1, some 20, none, .p (.bin .add), [.t 19, .c (.int .i64 1)]⟩,
    ⟨2, some 5, none, .p .mov, [.t 20]⟩]))
def g410 : GL.Fn := ⟨.seq (.reg 0 [⟨0, some 4, none, .p .mov, [.c (.nils)]⟩])
   (.seq (.reg 0 [⟨0, some 5, none, .p .mov, [.c (.int .i64 0)]⟩])
   (.seq (.block 0 (.loop g410_0))
   (.seq (.seq (.reg 0 [⟨0, some 21, none, .p .mov, [.t 5]⟩,
    ⟨1, some 22, none, .p .mov, [.t 0]⟩,
    ⟨2, some 23, none, .p .len, [.t 22]⟩,
    ⟨3, some 24, none, .p (.bin .lss), [.t 21, .t 23]⟩,
    ⟨4, some 25, none, .p .mov, [.t 24]⟩,
    ⟨5, some 26, some (25, true), .p .mov, [.t 0]⟩,
    ⟨6, some 27, some (25, true), .p .mov, [.t 5]⟩,
    ⟨7, some 28, some (25, true), .p (.idx 1), [.t 26, .t 27]⟩,
    ⟨8, some 29, some (25, true), .r (.load false 1) false, [.t 28]⟩,
    ⟨9, some 30, some (25, true), .p .mov, [.t 1]⟩,
    ⟨10, some 31, some (25, true), .p (.bin .eql), [.t 29, .t 30]⟩,
    ⟨11, some 32, none, .p .pick, [.t 25, .t 31, .c (.bool false)]⟩])
   (.cond (.t 32) (.seq (.reg 0 [⟨0, some 33, none, .p .mov, [.t 0]⟩,
    ⟨1, some 4, none, .p .mov, [.t 33]⟩])
   (.ret))
   (.skip)))
   (.seq (.reg 0 [⟨0, some 34, none, .e (.new (.lit 1)) [] [], []⟩,
    ⟨1, some 35, none, .p .mov, [.t 0]⟩,
    ⟨2, some 36, none, .p .mov, [.t 5]⟩,
    ⟨3, some 37, none, .p (.slice 1 false true false), [.t 35, .t 36]⟩,
    ⟨4, some 38, none, .e (.append 1 8) [] [], [.t 34, .t 37]⟩,
    ⟨5, some 6, none, .p .mov, [.t 38]⟩])
   (.seq (.reg 0 [⟨0, some 39, none, .p .mov, [.t 6]⟩,
    ⟨1, some 40, none, .p .mov, [.t 1]⟩,
    ⟨2, some 41, none, .e (.new (.lit 1)) [] [], [.t 40]⟩,
    ⟨3, some 42, none, .e (.append 1 8) [] [], [.t 39, .t 41]⟩,
    ⟨4, some 6, none, .p .mov, [.t 42]⟩])
   (.seq (.reg 0 [⟨0, some 43, none, .p .mov, [.t 6]⟩,
    ⟨1, some 44, none, .p .mov, [.t 0]⟩,
    ⟨2, some 45, none, .p .mov, [.t 5]⟩,
    ⟨3, some 46, none, .p (.slice 1 true false false), [.t 44, .t 45]⟩,
    ⟨4, some 47, none, .e (.append 1 8) [] [], [.t 43, .t 46]⟩,
    ⟨5, some 4, none, .p .mov, [.t 47]⟩])
   (.ret))))))),
  [.tmp 4]⟩
/- loop.example/g00641/impl.within -/
def g107 : GL.Fn := ⟨.seq (.reg 0 [⟨0, some 6, none, .p .mov, [.c (.bool false)]⟩])
   (.seq (.reg 0 [⟨0, some 7, none, .p .mov, [.t 0]⟩,
    ⟨1, some 8, none, .p .mov, [.t 1]⟩,
    ⟨2, some 9, none, .p (.bin .geq), [.t 7, .t 8]⟩,
    ⟨3, some 10, none, .p .mov, [.t 9]⟩,
    ⟨4, some 11, some (10, true), .p .mov, [.t 0]⟩,
    ⟨5, some 12, some (10, true), .p .mov, [.t 2]⟩,
    ⟨6, some 13, some (10, true), .p (.bin .leq), [.t 11, .t 12]⟩,
    ⟨7, some 14, none, .p .pick, [.t 10, .t 13, .c (.bool false)]⟩,
    ⟨8, some 6, none, .p .mov, [.t 14]⟩])
   (.ret)),
  [.tmp 6]⟩
/- slices.ContainsFunc[[]int,int] -/
def g304 : GL.Fn := ⟨.seq (.reg 0 [⟨0, some 4, none, .p .mov, [.c (.bool false)]⟩])
   (.seq (.reg 0 [⟨0, some 5, none, .p .mov, [.t 0]⟩,
    ⟨1, some 6, none, .p .mov, [.t 1]⟩,
    ⟨2, some 7, none, .e .call [] [], [.f 391, .t 5, .t 6]⟩,
    ⟨3, some 8, none, .p (.bin .geq), [.t 7, .c (.int .i64 0)]⟩,
    ⟨4, some 4, none, .p .mov, [.t 8]⟩])
   (.ret)),
  [.tmp 4]⟩
/- slices.Index[[]int,int] -/
def g390_0 : GL.Code := .seq (.reg 0 [⟨0, some 9, none, .p (.bin .lss), [.t 8, .t 7]⟩])
   (.seq (.cond (.t 9) (.skip)
   (.exit 0))
   (.seq (.block 1 (.seq (.reg 0 [⟨0, some 10, none, .p .mov, [.t 8]⟩,
    ⟨1, some 5, none, .p .mov, [.t 10]⟩])
   (.seq (.reg 0 [⟨0, some 11, none, .p .mov, [.t 1]⟩,
    ⟨1, some 12, none, .p .mov, [.t 0]⟩,
    ⟨2, some 13, none, .p .mov, [.t 5]⟩,
    ⟨3, some 14, none, .p (.idx 1), [.t 12, .t 13]⟩,
    ⟨4, some 15, none, .r (.load false 1) false, [.t 14]⟩,
    ⟨5, some 16, none, .p (.bin .eql), [.t 11, .t 15]⟩])
   (.cond (.t 16) (.seq (.reg 0 [⟨0, some 17, none, .p .mov, [.t 5]⟩,
    ⟨1, some 4, none, .p .mov, [.t 17]⟩])
   (.ret))
   (.skip)))))
   (.reg 0 [⟨0, some 18, none, .p (.bin .add), [.t 8, .c (.int .i64 1)]⟩,
    ⟨1, some 8, none, .p .mov, [.t 18]⟩])))
def g390 : GL.Fn := ⟨.seq (.reg 0 [⟨0, some 4, none, .p .mov, [.c (.int .i64 0)]⟩])
   (.seq (.seq (.reg 0 [⟨0, some 6, none, .p .mov, [.t 0]⟩,
    ⟨1, some 7, none, .p .len, [.t 6]⟩,
    ⟨2, some 8, none, .p .mov, [.c (.int .i64 0)]⟩])
   (.block 0 (.loop g390_0)))
   (.seq (.reg 0 [⟨0, some 4, none, .p .mov, [.c (.int .i64 (-1))]⟩])
   (.ret))),
  [.tmp 4]⟩
/- loop.example/g00641/impl.together -/
def g412 : GL.Fn := ⟨.seq (.reg 0 [⟨0, some 4, none, .p .mov, [.c (.nils)]⟩])
   (.seq (.reg 0 [⟨0, some 6, none, .p .mov, [.t 0]⟩,
    ⟨1, some 7, none, .p .mov, [.t 1]⟩,
    ⟨2, some 8, none, .e (.new (.lit 1)) [] [], [.t 6, .t 7]⟩,
    ⟨3, some 9, none, .e .call [] [], [.f 429, .t 8]⟩,
    ⟨4, some 5, none, .p .mov, [.t 9]⟩])
   (.seq (.reg 0 [⟨0, some 10, none, .p .mov, [.t 5]⟩,
    ⟨1, some 11, none, .e .call [] [], [.f 340, .t 10]⟩])
   (.seq (.reg 0 [⟨0, some 12, none, .p .mov, [.t 5]⟩,
    ⟨1, some 13, none, .e .call [] [], [.f 430, .t 12]⟩,
    ⟨2, some 4, none, .p .mov, [.t 13]⟩])
   (.ret)))),
  [.tmp 4]⟩
/- loop.example/g00641/spec.GoodLocks -/
def g368_0 : GL.Code := .seq (.reg 0 [⟨0, some 34, none, .p (.bin .lss), [.t 33, .t 32]⟩])
   (.seq (.cond (.t 34) (.skip)
   (.exit 0))
   (.seq (.block 1 (.seq (.reg 0 [⟨0, some 35, none, .p .mov, [.t 33]⟩,
    ⟨1, some 36, none, .p (.idx 1), [.t 31, .t 33]⟩,
    ⟨2, some 37, none, .r (.load false 1) false, [.t 36]⟩,
    ⟨3, some 3, none, .p .mov, [.t 35]⟩,
    ⟨4, some 4, none, .p .mov, [.t 37]⟩])
   (.seq (.reg 0 [⟨0, some 38, none, .p (.faddr 1), [.t 1]⟩,
    ⟨1, some 39, none, .l (.load 1 false 1), [.t 38]⟩,
    ⟨2, some 40, none, .p .mov, [.t 3]⟩,
    ⟨3, some 41, none, .p (.idx 1), [.t 39, .t 40]⟩,
    ⟨4, some 42, none, .r (.load false 1) false, [.t 41]⟩,
    ⟨5, some 5, none, .p .mov, [.t 42]⟩])
   (.seq (.reg 0 [⟨0, some 43, none, .p .mov, [.t 4]⟩,
    ⟨1, some 44, none, .e .call [] [], [.f 337, .t 43, .c (.int .i64 0), .c (.int .i64 3)]⟩,
    ⟨2, some 45, none, .p (.un .not), [.t 44]⟩,
    ⟨3, some 46, none, .p .mov, [.t 45]⟩,
    ⟨4, some 47, some (46, false), .p .mov, [.t 5]⟩,
    ⟨5, some 48, some (46, false), .p (.bin .geq), [.t 47, .c (.int .i64 0)]⟩,
    ⟨6, some 49, some (46, false), .p .mov, [.t 48]⟩,
    ⟨7, some 50, some (49, true), .p .mov, [.t 4]⟩,
    ⟨8, some 51, some (49, true), .p .len, [.t 50]⟩,
    ⟨9, some 52, some (49, true), .p (.bin .gtr), [.t 51, .c (.int .i64 1)]⟩,
    ⟨10, some 53, some (49, true), .p .mov, [.t 52]⟩,
    ⟨11, some 54, some (53, false), .p .mov, [.t 4]⟩,
    ⟨12, some 55, some (53, false), .p .len, [.t 54]⟩,
    ⟨13, some 56, some (53, false), .p (.bin .eql), [.t 55, .c (.int .i64 1)]⟩,
    ⟨14, some 57, some (53, false), .p .mov, [.t 56]⟩,
    ⟨15, some 58, some (57, true), .p .mov, [.t 4]⟩,
    ⟨16, some 59, some (57, true), .p (.idx 1), [.t 58, .c (.int .i64 0)]⟩,
    ⟨17, some 60, some (57, true), .r (.load false 1) false, [.t 59]⟩,
    ⟨18, some 61, some (57, true), .p .mov, [.t 5]⟩,
    ⟨19, some 62, some (57, true), .p (.bin .neq), [.t 60, .t 61]⟩,
    ⟨20, some 63, some (53, false), .p .pick, [.t 57, .t 62, .c (.bool false)]⟩,
    ⟨21, some 64, some (49, true), .p .pick, [.t 53, .c (.bool true), .t 63]⟩,
    ⟨22, some 65, some (46, false), .p .pick, [.t 49, .t 64, .c (.bool false)]⟩,
    ⟨23, some 66, none, .p .pick, [.t 46, .c (.bool true), .t 65]⟩])
   (.cond (.t 66) (.seq (.reg 0 [⟨0, some 2, none, .p .mov, [.c (.bool false)]⟩])
   (.ret))
   (.skip))))))
   (.reg 0 [⟨0, some 67, none, .p (.bin .add), [.t 33, .c (.int .i64 1)]⟩,
    ⟨1, some 33, none, .p .mov, [.t 67]⟩])))
def g368_1 : GL.Code := .seq (.reg 0 [⟨0, some 72, none, .p (.bin .lss), [.t 71, .t 70]⟩])
   (.seq (.cond (.t 72) (.skip)
   (.exit 2))
   (.seq (.block 3 (.seq (.reg 0 [⟨0, some 73, none, .p .mov, [.t 71]⟩,
    ⟨1, some 74, none, .p (.idx 1), [.t 69, .t 71]⟩,
    ⟨2, some 75, none, .r (.load false 1) false, [.t 74]⟩,
    ⟨3, some 6, none, .p .mov, [.t 73]⟩,
    ⟨4, some 7, none, .p .mov, [.t 75]⟩])
   (.seq (.reg 0 [⟨0, some 76, none, .p (.faddr 2), [.t 1]⟩,
    ⟨1, some 77, none, .l (.load 1 false 1), [.t 76]⟩,
    ⟨2, some 78, none, .p .mov, [.t 6]⟩,
    ⟨3, some 79, none, .p (.slice 1 false true false), [.t 77, .t 78]⟩,
    ⟨4, some 80, none, .p .mov, [.t 7]⟩,
    ⟨5, some 81, none, .e .call [] [], [.f 302, .t 79, .t 80]⟩,
    ⟨6, some 82, none, .p .mov, [.t 81]⟩,
    ⟨7, some 83, some (82, false), .l (.load 1 true 3), [.t 1]⟩,
    ⟨8, some 84, some (82, false), .p .mov, [.t 7]⟩,
    ⟨9, some 85, some (82, false), .e .call [] [], [.f 408, .t 83, .t 84]⟩,
    ⟨10, some 86, some (82, false), .p .len, [.t 85]⟩,
    ⟨11, some 87, some (82, false), .p (.bin .gtr), [.t 86, .c (.int .i64 0)]⟩,
    ⟨12, some 88, none, .p .pick, [.t 82, .c (.bool true), .t 87]⟩])
   (.cond (.t 88) (.seq (.reg 0 [⟨0, some 2, none, .p .mov, [.c (.bool false)]⟩])
   (.ret))
   (.skip)))))
   (.reg 0 [⟨0, some 89, none, .p (.bin .add), [.t 71, .c (.int .i64 1)]⟩,
    ⟨1, some 71, none, .p .mov, [.t 89]⟩])))
def g368 : GL.Fn := ⟨.seq (.reg 0 [⟨0, some 1, none, .l (.box 1 3), [.t 0]⟩,
    ⟨1, some 2, none, .p .mov, [.c (.bool false)]⟩])
   (.seq (.seq (.reg 0 [⟨0, some 8, none, .p (.faddr 0), [.t 1]⟩,
    ⟨1, some 9, none, .l (.load 1 false 1), [.t 8]⟩,
    ⟨2, some 10, none, .p .len, [.t 9]⟩,
    ⟨3, some 11, none, .p (.bin .neq), [.t 10, .c (.int .i64 4)]⟩,
    ⟨4, some 12, none, .p .mov, [.t 11]⟩,
    ⟨5, some 13, some (12, false), .p (.faddr 1), [.t 1]⟩,
    ⟨6, some 14, some (12, false), .l (.load 1 false 1), [.t 13]⟩,
    ⟨7, some 15, some (12, false), .p .len, [.t 14]⟩,
    ⟨8, some 16, some (12, false), .p (.bin .neq), [.t 15, .c (.int .i64 4)]⟩,
    ⟨9, some 17, none, .p .pick, [.t 12, .c (.bool true), .t 16]⟩,
    ⟨10, some 18, none, .p .mov, [.t 17]⟩,
    ⟨11, some 19, some (18, false), .p (.faddr 1), [.t 1]⟩,
    ⟨12, some 20, some (18, false), .l (.load 1 false 1), [.t 19]⟩,
    ⟨13, some 21, some (18, false), .e .call [] [], [.f 94, .t 20, .c (.int .i64 (-1)), .c (.int .i64 3)]⟩,
    ⟨14, some 22, some (18, false), .p (.un .not), [.t 21]⟩,
    ⟨15, some 23, none, .p .pick, [.t 18, .c (.bool true), .t 22]⟩,
    ⟨16, some 24, none, .p .mov, [.t 23]⟩,
    ⟨17, some 25, some (24, false), .p (.faddr 2), [.t 1]⟩,
    ⟨18, some 26, some (24, false), .l (.load 1 false 1), [.t 25]⟩,
    ⟨19, some 27, some (24, false), .e .call [] [], [.f 94, .t 26, .c (.int .i64 0), .c (.int .i64 3)]⟩,
    ⟨20, some 28, some (24, false), .p (.un .not), [.t 27]⟩,
    ⟨21, some 29, none, .p .pick, [.t 24, .c (.bool true), .t 28]⟩])
   (.cond (.t 29) (.seq (.reg 0 [⟨0, some 2, none, .p .mov, [.c (.bool false)]⟩])
   (.ret))
   (.skip)))
   (.seq (.seq (.reg 0 [⟨0, some 30, none, .p (.faddr 0), [.t 1]⟩,
    ⟨1, some 31, none, .l (.load 1 false 1), [.t 30]⟩,
    ⟨2, some 32, none, .p .len, [.t 31]⟩,
    ⟨3, some 33, none, .p .mov, [.c (.int .i64 0)]⟩])
   (.block 0 (.loop g368_0)))
   (.seq (.seq (.reg 0 [⟨0, some 68, none, .p (.faddr 2), [.t 1]⟩,
    ⟨1, some 69, none, .l (.load 1 false 1), [.t 68]⟩,
    ⟨2, some 70, none, .p .len, [.t 69]⟩,
    ⟨3, some 71, none, .p .mov, [.c (.int .i64 0)]⟩])
   (.block 2 (.loop g368_1)))
   (.seq (.reg 0 [⟨0, some 2, none, .p .mov, [.c (.bool true)]⟩])
   (.ret))))),
  [.tmp 2]⟩
/- loop.example/g00641/spec.l8Step -/
def g370_0 : GL.Code := .seq (.reg 0 [⟨0, some 34, none, .p (.bin .lss), [.t 33, .t 32]⟩])
   (.seq (.cond (.t 34) (.skip)
   (.exit 1))
   (.seq (.block 2 (.seq (.reg 0 [⟨0, some 35, none, .p .mov, [.t 33]⟩,
    ⟨1, some 6, none, .p .mov, [.t 35]⟩])
   (.seq (.reg 0 [⟨0, some 36, none, .p (.faddr 0), [.t 2]⟩,
    ⟨1, some 37, none, .l (.load 2 false 1), [.t 36]⟩,
    ⟨2, some 38, none, .p .mov, [.t 6]⟩,
    ⟨3, some 39, none, .p (.faddr 0), [.t 2]⟩,
    ⟨4, some 40, none, .l (.load 2 false 1), [.t 39]⟩,
    ⟨5, some 41, none, .p .mov, [.t 6]⟩,
    ⟨6, some 42, none, .p (.idx 1), [.t 40, .t 41]⟩,
    ⟨7, some 43, none, .r (.load false 1) false, [.t 42]⟩,
    ⟨8, some 44, none, .p (.faddr 0), [.t 3]⟩,
    ⟨9, some 45, none, .l (.load 3 false 1), [.t 44]⟩,
    ⟨10, some 46, none, .e .call [] [], [.f 409, .t 43, .t 45]⟩,
    ⟨11, some 47, none, .p (.idx 1), [.t 37, .t 38]⟩,
    ⟨12, none, none, .e (.store 1) [] [], [.t 47, .t 46]⟩])
   (.seq (.reg 0 [⟨0, some 48, none, .p (.faddr 1), [.t 2]⟩,
    ⟨1, some 49, none, .l (.load 2 false 1), [.t 48]⟩,
    ⟨2, some 50, none, .p .mov, [.t 6]⟩,
    ⟨3, some 51, none, .p (.idx 1), [.t 49, .t 50]⟩,
    ⟨4, some 52, none, .r (.load false 1) false, [.t 51]⟩,
    ⟨5, some 53, none, .p (.faddr 0), [.t 3]⟩,
    ⟨6, some 54, none, .l (.load 3 false 1), [.t 53]⟩,
    ⟨7, some 55, none, .p (.bin .eql), [.t 52, .t 54]⟩])
   (.cond (.t 55) (.reg 0 [⟨0, some 56, none, .p (.faddr 1), [.t 2]⟩,
    ⟨1, some 57, none, .l (.load 2 false 1), [.t 56]⟩,
    ⟨2, some 58, none, .p .mov, [.t 6]⟩,
    ⟨3, some 59, none, .p (.idx 1), [.t 57, .t 58]⟩,
    ⟨4, none, none, .e (.store 1) [] [], [.t 59, .c (.int .i64 (-1))]⟩])
   (.skip))))))
   (.reg 0 [⟨0, some 60, none, .p (.bin .add), [.t 33, .c (.int .i64 1)]⟩,
    ⟨1, some 33, none, .p .mov, [.t 60]⟩])))
def g370 : GL.Fn := ⟨.seq (.reg 0 [⟨0, some 2, none, .l (.box 2 3), [.t 0]⟩,
    ⟨1, some 3, none, .l (.box 3 4), [.t 1]⟩,
    ⟨2, some 4, none, .l (.alloc 4 [.nils, .nils, .nils]), []⟩,
    ⟨3, some 5, none, .p .mov, [.c (.bool false)]⟩])
   (.seq (.block 0 (.seq (.reg 0 [⟨0, some 22, none, .l (.load 2 true 3), [.t 2]⟩,
    ⟨1, some 23, none, .l (.load 3 true 4), [.t 3]⟩,
    ⟨2, some 24, none, .e .call [] [], [.f 381, .t 22, .t 23]⟩,
    ⟨3, some 25, none, .p (.un .not), [.t 24]⟩,
    ⟨4, some 21, none, .p .mov, [.t 25]⟩])
   (.cond (.t 21) (.seq (.reg 0 [⟨0, some 26, none, .l (.load 2 true 3), [.t 2]⟩,
    ⟨1, none, none, .l (.store 4 3), [.t 4, .t 26]⟩,
    ⟨2, some 5, none, .p .mov, [.c (.bool false)]⟩])
   (.ret))
   (.seq (.reg 0 [⟨0, some 28, none, .p (.faddr 3), [.t 3]⟩,
    ⟨1, some 29, none, .l (.load 3 false 1), [.t 28]⟩,
    ⟨2, some 27, none, .p .mov, [.t 29]⟩])
   (.cond (.t 27) (.seq (.seq (.reg 0 [⟨0, some 30, none, .p (.faddr 1), [.t 2]⟩,
    ⟨1, some 31, none, .l (.load 2 false 1), [.t 30]⟩,
    ⟨2, some 32, none, .p .len, [.t 31]⟩,
    ⟨3, some 33, none, .p .mov, [.c (.int .i64 0)]⟩])
   (.block 1 (.loop g370_0)))
   (.seq (.reg 0 [⟨0, some 61, none, .p (.faddr 2), [.t 2]⟩,
    ⟨1, some 62, none, .l (.load 2 false 1), [.t 61]⟩,
    ⟨2, some 63, none, .p (.faddr 0), [.t 3]⟩,
    ⟨3, some 64, none, .l (.load 3 false 1), [.t 63]⟩,
    ⟨4, some 65, none, .e (.new (.lit 1)) [] [], [.t 64]⟩,
    ⟨5, some 66, none, .e (.append 1 8) [] [], [.t 62, .t 65]⟩,
    ⟨6, some 67, none, .p (.faddr 2), [.t 2]⟩,
    ⟨7, none, none, .l (.store 2 1), [.t 67, .t 66]⟩])
   (.seq (.reg 0 [⟨0, some 68, none, .l (.load 2 true 3), [.t 2]⟩,
    ⟨1, none, none, .l (.store 4 3), [.t 4, .t 68]⟩,
    ⟨2, some 5, none, .p .mov, [.c (.bool true)]⟩])
   (.ret))))
   (.seq (.reg 0 [⟨0, some 70, none, .l (.load 2 true 3), [.t 2]⟩,
    ⟨1, some 71, none, .l (.load 3 true 4), [.t 3]⟩,
    ⟨2, some 72, none, .e .call [] [], [.f 382, .t 70, .t 71]⟩,
    ⟨3, some 73, none, .p .len, [.t 72]⟩,
    ⟨4, some 74, none, .p (.bin .gtr), [.t 73, .c (.int .i64 0)]⟩,
    ⟨5, some 69, none, .p .mov, [.t 74]⟩])
   (.cond (.t 69) (.seq (.reg 0 [⟨0, some 75, none, .l (.load 2 true 3), [.t 2]⟩,
    ⟨1, none, none, .l (.store 4 3), [.t 4, .t 75]⟩,
    ⟨2, some 5, none, .p .mov, [.c (.bool false)]⟩])
   (.ret))
   (.seq (.reg 0 [⟨0, some 77, none, .p (.faddr 2), [.t 3]⟩,
    ⟨1, some 78, none, .l (.load 3 false 1), [.t 77]⟩,
    ⟨2, some 76, none, .p .mov, [.t 78]⟩])
   (.cond (.t 76) (.reg 0 [⟨0, some 79, none, .p (.faddr 1), [.t 2]⟩,
    ⟨1, some 80, none, .l (.load 2 false 1), [.t 79]⟩,
    ⟨2, some 81, none, .p (.faddr 1), [.t 3]⟩,
    ⟨3, some 82, none, .l (.load 3 false 1), [.t 81]⟩,
    ⟨4, some 83, none, .p (.faddr 0), [.t 3]⟩,
    ⟨5, some 84, none, .l (.load 3 false 1), [.t 83]⟩,
    ⟨6, some 85, none, .p (.idx 1), [.t 80, .t 82]⟩,
    ⟨7, none, none, .e (.store 1) [] [], [.t 85, .t 84]⟩])
   (.reg 0 [⟨0, some 7, none, .p (.faddr 0), [.t 2]⟩,
    ⟨1, some 8, none, .l (.load 2 false 1), [.t 7]⟩,
    ⟨2, some 9, none, .p (.faddr 1), [.t 3]⟩,
    ⟨3, some 10, none, .l (.load 3 false 1), [.t 9]⟩,
    ⟨4, some 11, none, .p (.faddr 0), [.t 2]⟩,
    ⟨5, some 12, none, .l (.load 2 false 1), [.t 11]⟩,
    ⟨6, some 13, none, .p (.faddr 1), [.t 3]⟩,
    ⟨7, some 14, none, .l (.load 3 false 1), [.t 13]⟩,
    ⟨8, some 15, none, .p (.idx 1), [.t 12, .t 14]⟩,
    ⟨9, some 16, none, .r (.load false 1) false, [.t 15]⟩,
    ⟨10, some 17, none, .p (.faddr 0), [.t 3]⟩,
    ⟨11, some 18, none, .l (.load 3 false 1), [.t 17]⟩,
    ⟨12, some 19, none, .e .call [] [], [.f 410, .t 16, .t 18]⟩,
    ⟨13, some 20, none, .p (.idx 1), [.t 8, .t 10]⟩,
    ⟨14, none, none, .e (.store 1) [] [], [.t 20, .t 19]⟩]))))))))))
   (.seq (.reg 0 [⟨0, some 86, none, .l (.load 2 true 3), [.t 2]⟩,
    ⟨1, none, none, .l (.store 4 3), [.t 4, .t 86]⟩,
    ⟨2, some 5, none, .p .mov, [.c (.bool true)]⟩])
   (.ret))),
  [.cellL 4 4 true 3, .tmp 5]⟩
/- loop.example/g00641/spec.l8Own -/
def g369_0 : GL.Code := .seq (.reg 0 [⟨0, some 19, none, .p (.bin .lss), [.t 18, .t 17]⟩])
   (.seq (.cond (.t 19) (.skip)
   (.exit 0))
   (.seq (.block 1 (.seq (.reg 0 [⟨0, some 20, none, .p (.idx 1), [.t 16, .t 18]⟩,
    ⟨1, some 21, none, .r (.load false 1) false, [.t 20]⟩,
    ⟨2, some 5, none, .p .mov, [.t 21]⟩])
   (.reg 0 [⟨0, some 22, none, .p (.faddr 0), [.t 3]⟩,
    ⟨1, some 23, none, .l (.load 3 false 1), [.t 22]⟩,
    ⟨2, some 24, none, .e (.new (.lit 1)) [] [], []⟩,
    ⟨3, some 25, none, .p .mov, [.t 5]⟩,
    ⟨4, some 26, none, .e (.append 1 8) [] [], [.t 24, .t 25]⟩,
    ⟨5, some 27, none, .e (.new (.lit 1)) [] [], [.t 26]⟩,
    ⟨6, some 28, none, .e (.append 1 24) [] [], [.t 23, .t 27]⟩,
    ⟨7, some 29, none, .p (.faddr 0), [.t 3]⟩,
    ⟨8, none, none, .l (.store 3 1), [.t 29, .t 28]⟩])))
   (.reg 0 [⟨0, some 30, none, .p (.bin .add), [.t 18, .c (.int .i64 1)]⟩,
    ⟨1, some 18, none, .p .mov, [.t 30]⟩])))
def g369 : GL.Fn := ⟨.seq (.reg 0 [⟨0, some 1, none, .l (.box 1 3), [.t 0]⟩,
    ⟨1, some 2, none, .l (.alloc 2 [.nils, .nils, .nils]), []⟩])
   (.seq (.reg 2 [⟨0, some 6, none, .m (.lit 1) 0, []⟩,
    ⟨1, some 7, none, .p (.faddr 1), [.t 1]⟩,
    ⟨2, some 8, none, .l (.load 1 false 1), [.t 7]⟩,
    ⟨3, some 9, none, .e (.append 1 8) [] [1], [.t 6, .t 8]⟩,
    ⟨4, some 10, none, .m (.lit 1) 1, []⟩,
    ⟨5, some 11, none, .p (.faddr 2), [.t 1]⟩,
    ⟨6, some 12, none, .l (.load 1 false 1), [.t 11]⟩,
    ⟨7, some 13, none, .e (.append 1 8) [] [], [.t 10, .t 12]⟩,
    ⟨8, some 14, none, .p (.build [.nils, .nils, .nils] [(1, 1), (2, 1)]), [.t 9, .t 13]⟩,
    ⟨9, some 3, none, .l (.alloc 3 [.nils, .nils, .nils]), []⟩,
    ⟨10, none, none, .l (.store 3 3), [.t 3, .t 14]⟩])
   (.seq (.seq (.reg 0 [⟨0, some 15, none, .p (.faddr 0), [.t 1]⟩,
    ⟨1, some 16, none, .l (.load 1 false 1), [.t 15]⟩,
    ⟨2, some 17, none, .p .len, [.t 16]⟩,
    ⟨3, some 18, none, .p .mov, [.c (.int .i64 0)]⟩])
   (.block 0 (.loop g369_0)))
   (.seq (.reg 0 [⟨0, some 31, none, .l (.load 3 true 3), [.t 3]⟩,
    ⟨1, none, none, .l (.store 2 3), [.t 2, .t 31]⟩])
   (.ret)))),
  [.cellL 2 2 true 3]⟩
/- (loop.example/g00641/impl.Locks).cloned -/
def g372_0 : GL.Code := .seq (.reg 0 [⟨0, some 17, none, .p (.bin .lss), [.t 16, .t 15]⟩])
   (.seq (.cond (.t 17) (.skip)
   (.exit 0))
   (.seq (.block 1 (.seq (.reg 0 [⟨0, some 18, none, .p (.idx 1), [.t 14, .t 16]⟩,
    ⟨1, some 19, none, .r (.load false 1) false, [.t 18]⟩,
    ⟨2, some 5, none, .p .mov, [.t 19]⟩])
   (.reg 0 [⟨0, some 20, none, .p (.faddr 0), [.t 3]⟩,
    ⟨1, some 21, none, .l (.load 3 false 1), [.t 20]⟩,
    ⟨2, some 22, none, .p .mov, [.t 5]⟩,
    ⟨3, some 23, none, .e .call [] [], [.f 389, .t 22]⟩,
    ⟨4, some 24, none, .e (.new (.lit 1)) [] [], [.t 23]⟩,
    ⟨5, some 25, none, .e (.append 1 24) [] [], [.t 21, .t 24]⟩,
    ⟨6, some 26, none, .p (.faddr 0), [.t 3]⟩,
    ⟨7, none, none, .l (.store 3 1), [.t 26, .t 25]⟩])))
   (.reg 0 [⟨0, some 27, none, .p (.bin .add), [.t 16, .c (.int .i64 1)]⟩,
    ⟨1, some 16, none, .p .mov, [.t 27]⟩])))
def g372 : GL.Fn := ⟨.seq (.reg 0 [⟨0, some 1, none, .l (.box 1 3), [.t 0]⟩,
    ⟨1, some 2, none, .l (.alloc 2 [.nils, .nils, .nils]), []⟩])
   (.seq (.reg 0 [⟨0, some 6, none, .p (.faddr 1), [.t 1]⟩,
    ⟨1, some 7, none, .l (.load 1 false 1), [.t 6]⟩,
    ⟨2, some 8, none, .e .call [] [], [.f 389, .t 7]⟩,
    ⟨3, some 9, none, .p (.faddr 2), [.t 1]⟩,
    ⟨4, some 10, none, .l (.load 1 false 1), [.t 9]⟩,
    ⟨5, some 11, none, .e .call [] [], [.f 389, .t 10]⟩,
    ⟨6, some 12, none, .p (.build [.nils, .nils, .nils] [(0, 1), (1, 1), (2, 1)]), [.c (.nils), .t 8, .t 11]⟩,
    ⟨7, some 3, none, .l (.alloc 3 [.nils, .nils, .nils]), []⟩,
    ⟨8, none, none, .l (.store 3 3), [.t 3, .t 12]⟩])
   (.seq (.seq (.reg 0 [⟨0, some 13, none, .p (.faddr 0), [.t 1]⟩,
    ⟨1, some 14, none, .l (.load 1 false 1), [.t 13]⟩,
    ⟨2, some 15, none, .p .len, [.t 14]⟩,
    ⟨3, some 16, none, .p .mov, [.c (.int .i64 0)]⟩])
   (.block 0 (.loop g372_0)))
   (.seq (.reg 0 [⟨0, some 28, none, .l (.load 3 true 3), [.t 3]⟩,
    ⟨1, none, none, .l (.store 2 3), [.t 2, .t 28]⟩])
   (.ret)))),
  [.cellL 2 2 true 3]⟩
/- (*loop.example/g00641/impl.Locks).ask -/
def g373 : GL.Fn := ⟨.seq (.reg 0 [⟨0, some 3, none, .l (.box 3 4), [.t 1]⟩,
    ⟨1, some 4, none, .p .mov, [.c (.bool false)]⟩])
   (.seq (.block 0 (.seq (.reg 0 [⟨0, some 25, none, .p .mov, [.t 0]⟩,
    ⟨1, some 26, none, .p .nilCheck, [.t 25]⟩,
    ⟨2, some 27, none, .r (.load true 3) false, [.t 26]⟩,
    ⟨3, some 28, none, .l (.load 3 true 4), [.t 3]⟩,
    ⟨4, some 29, none, .e .call [] [], [.f 379, .t 27, .t 28]⟩,
    ⟨5, some 30, none, .p (.un .not), [.t 29]⟩,
    ⟨6, some 24, none, .p .mov, [.t 30]⟩])
   (.cond (.t 24) (.seq (.reg 0 [⟨0, some 4, none, .p .mov, [.c (.bool false)]⟩])
   (.ret))
   (.seq (.reg 0 [⟨0, some 32, none, .p (.faddr 3), [.t 3]⟩,
    ⟨1, some 33, none, .l (.load 3 false 1), [.t 32]⟩,
    ⟨2, some 31, none, .p .mov, [.t 33]⟩])
   (.cond (.t 31) (.seq (.reg 0 [⟨0, some 34, none, .p .mov, [.t 0]⟩,
    ⟨1, some 35, none, .p (.faddr 0), [.t 3]⟩,
    ⟨2, some 36, none, .l (.load 3 false 1), [.t 35]⟩,
    ⟨3, some 37, none, .e .call [] [], [.f 411, .t 34, .t 36]⟩])
   (.seq (.reg 0 [⟨0, some 4, none, .p .mov, [.c (.bool true)]⟩])
   (.ret)))
   (.seq (.reg 0 [⟨0, some 39, none, .p .mov, [.t 0]⟩,
    ⟨1, some 40, none, .p .nilCheck, [.t 39]⟩,
    ⟨2, some 41, none, .r (.load true 3) false, [.t 40]⟩,
    ⟨3, some 42, none, .l (.load 3 true 4), [.t 3]⟩,
    ⟨4, some 43, none, .e .call [] [], [.f 380, .t 41, .t 42]⟩,
    ⟨5, some 44, none, .p .len, [.t 43]⟩,
    ⟨6, some 45, none, .p (.bin .gtr), [.t 44, .c (.int .i64 0)]⟩,
    ⟨7, some 38, none, .p .mov, [.t 45]⟩])
   (.cond (.t 38) (.seq (.reg 0 [⟨0, some 4, none, .p .mov, [.c (.bool false)]⟩])
   (.ret))
   (.seq (.reg 0 [⟨0, some 47, none, .p (.faddr 2), [.t 3]⟩,
    ⟨1, some 48, none, .l (.load 3 false 1), [.t 47]⟩,
    ⟨2, some 46, none, .p .mov, [.t 48]⟩])
   (.cond (.t 46) (.reg 0 [⟨0, some 49, none, .p .mov, [.t 0]⟩,
    ⟨1, some 50, none, .p .nilCheck, [.t 49]⟩,
    ⟨2, some 51, none, .p (.faddr 1), [.t 50]⟩,
    ⟨3, some 52, none, .r (.load false 1) false, [.t 51]⟩,
    ⟨4, some 53, none, .p (.faddr 1), [.t 3]⟩,
    ⟨5, some 54, none, .l (.load 3 false 1), [.t 53]⟩,
    ⟨6, some 55, none, .p (.faddr 0), [.t 3]⟩,
    ⟨7, some 56, none, .l (.load 3 false 1), [.t 55]⟩,
    ⟨8, some 57, none, .p (.idx 1), [.t 52, .t 54]⟩,
    ⟨9, none, none, .e (.store 1) [] [], [.t 57, .t 56]⟩])
   (.reg 0 [⟨0, some 5, none, .p .mov, [.t 0]⟩,
    ⟨1, some 6, none, .p .nilCheck, [.t 5]⟩,
    ⟨2, some 7, none, .p (.faddr 0), [.t 6]⟩,
    ⟨3, some 8, none, .r (.load false 1) true, [.t 7]⟩,
    ⟨4, some 9, none, .p (.faddr 1), [.t 3]⟩,
    ⟨5, some 10, none, .l (.load 3 false 1), [.t 9]⟩,
    ⟨6, some 11, none, .p .mov, [.t 0]⟩,
    ⟨7, some 12, none, .p .nilCheck, [.t 11]⟩,
    ⟨8, some 13, none, .p (.faddr 0), [.t 12]⟩,
    ⟨9, some 14, none, .r (.load false 1) true, [.t 13]⟩,
    ⟨10, some 15, none, .p (.faddr 1), [.t 3]⟩,
    ⟨11, some 16, none, .l (.load 3 false 1), [.t 15]⟩,
    ⟨12, some 17, none, .p (.idx 1), [.t 14, .t 16]⟩,
    ⟨13, some 18, none, .r (.load false 1) true, [.t 17]⟩,
    ⟨14, some 19, none, .p (.faddr 0), [.t 3]⟩,
    ⟨15, some 20, none, .l (.load 3 false 1), [.t 19]⟩,
    ⟨16, some 21, none, .e (.new (.lit 1)) [3, 9, 13] [], [.t 20]⟩,
    ⟨17, some 22, none, .e .call [3] [], [.f 412, .t 18, .t 21]⟩,
    ⟨18, some 23, none, .p (.idx 1), [.t 8, .t 10]⟩,
    ⟨19, none, none, .e (.store 1) [] [], [.t 23, .t 22]⟩]))))))))))
   (.seq (.reg 0 [⟨0, some 4, none, .p .mov, [.c (.bool true)]⟩])
   (.ret))),
  [.tmp 4]⟩
/- (*loop.example/g00641/spec.l1Cur).locks -/
def g377 : GL.Fn := ⟨.seq (.reg 0 [⟨0, some 2, none, .l (.alloc 2 [.nils, .nils, .nils]), []⟩])
   (.seq (.reg 0 [⟨0, some 8, none, .p .mov, [.t 0]⟩,
    ⟨1, some 9, none, .e .call [] [], [.f 413, .t 8]⟩,
    ⟨2, some 10, none, .e .call [] [], [.f 414, .t 9]⟩,
    ⟨3, some 7, none, .p .mov, [.t 10]⟩,
    ⟨4, some 11, none, .p (.extract 0), [.t 7]⟩,
    ⟨5, some 12, none, .p (.extract 1), [.t 7]⟩,
    ⟨6, some 13, none, .p (.extract 2), [.t 7]⟩,
    ⟨7, some 14, none, .p (.extract 3), [.t 7]⟩,
    ⟨8, some 3, none, .l (.alloc 3 [.nils, .nils, .nils]), []⟩,
    ⟨9, none, none, .l (.store 3 3), [.t 3, .t 11]⟩,
    ⟨10, some 4, none, .p .mov, [.t 12]⟩,
    ⟨11, some 5, none, .p .mov, [.t 13]⟩,
    ⟨12, some 6, none, .p .mov, [.t 14]⟩])
   (.seq (.seq (.reg 0 [⟨0, some 15, none, .p .mov, [.t 6]⟩,
    ⟨1, some 16, none, .p (.un .not), [.t 15]⟩])
   (.cond (.t 16) (.reg 0 [⟨0, some 17, none, .e .call [] [], [.f 415]⟩,
    ⟨1, none, none, .l (.store 3 3), [.t 3, .t 17]⟩])
   (.skip)))
   (.seq (.seq (.reg 0 [⟨0, some 18, none, .p .mov, [.t 0]⟩,
    ⟨1, some 19, none, .e .call [] [], [.f 91, .t 18, .c (.int .i64 20)]⟩])
   (.block 0 (.seq (.reg 0 [⟨0, some 21, none, .p (.bin .eql), [.t 19, .c (.int .i64 0)]⟩,
    ⟨1, some 20, none, .p .mov, [.t 21]⟩])
   (.cond (.t 20) (.reg 0 [⟨0, some 22, none, .p (.faddr 1), [.t 3]⟩,
    ⟨1, some 23, none, .l (.load 3 false 1), [.t 22]⟩,
    ⟨2, some 24, none, .p .mov, [.t 0]⟩,
    ⟨3, some 25, none, .e .call [] [], [.f 91, .t 24, .c (.int .i64 6)]⟩,
    ⟨4, some 26, none, .p (.bin .sub), [.t 25, .c (.int .i64 2)]⟩,
    ⟨5, some 27, none, .p (.idx 1), [.t 23, .c (.int .i64 0)]⟩,
    ⟨6, none, none, .e (.store 1) [] [], [.t 27, .t 26]⟩])
   (.seq (.reg 0 [⟨0, some 29, none, .p (.bin .eql), [.t 19, .c (.int .i64 1)]⟩,
    ⟨1, some 28, none, .p .mov, [.t 29]⟩])
   (.cond (.t 28) (.reg 0 [⟨0, some 30, none, .p (.faddr 2), [.t 3]⟩,
    ⟨1, some 31, none, .l (.load 3 false 1), [.t 30]⟩,
    ⟨2, some 32, none, .p .mov, [.t 0]⟩,
    ⟨3, some 33, none, .e .call [] [], [.f 91, .t 32, .c (.int .i64 4)]⟩,
    ⟨4, some 34, none, .e (.new (.lit 1)) [] [], [.t 33]⟩,
    ⟨5, some 35, none, .e (.append 1 8) [] [], [.t 31, .t 34]⟩,
    ⟨6, some 36, none, .p (.faddr 2), [.t 3]⟩,
    ⟨7, none, none, .l (.store 3 1), [.t 36, .t 35]⟩])
   (.skip)))))))
   (.seq (.reg 0 [⟨0, some 37, none, .l (.load 3 true 3), [.t 3]⟩,
    ⟨1, none, none, .l (.store 2 3), [.t 2, .t 37]⟩])
   (.ret))))),
  [.cellL 2 2 true 3]⟩
/- (*loop.example/g00641/spec.l1Cur).ask -/
def g378 : GL.Fn := ⟨.seq (.reg 0 [⟨0, some 2, none, .l (.alloc 2 [.int .i64 0, .int .i64 0, .bool false, .bool false]), []⟩])
   (.seq (.reg 0 [⟨0, some 4, none, .p .mov, [.t 0]⟩,
    ⟨1, some 5, none, .e .call [] [], [.f 413, .t 4]⟩,
    ⟨2, some 3, none, .p .mov, [.t 5]⟩])
   (.seq (.seq (.reg 0 [⟨0, some 6, none, .p .mov, [.t 3]⟩,
    ⟨1, some 7, none, .p .len, [.t 6]⟩,
    ⟨2, some 8, none, .p (.bin .eql), [.t 7, .c (.int .i64 0)]⟩])
   (.cond (.t 8) (.seq (.reg 0 [⟨0, some 9, none, .p (.build [.int .i64 0, .int .i64 0, .bool false, .bool false] [(3, 1)]), [.c (.bool true)]⟩,
    ⟨1, none, none, .l (.store 2 4), [.t 2, .t 9]⟩])
   (.ret))
   (.skip)))
   (.seq (.reg 0 [⟨0, some 10, none, .p .mov, [.t 3]⟩,
    ⟨1, some 11, none, .p (.idx 4), [.t 10, .c (.int .i64 0)]⟩,
    ⟨2, some 12, none, .r (.load true 4) false, [.t 11]⟩,
    ⟨3, none, none, .l (.store 2 4), [.t 2, .t 12]⟩])
   (.ret)))),
  [.cellL 2 2 true 4]⟩
/- (loop.example/g00641/impl.Locks).isAsk -/
def g379 : GL.Fn := ⟨.seq (.reg 0 [⟨0, some 2, none, .l (.box 2 3), [.t 0]⟩,
    ⟨1, some 3, none, .l (.box 3 4), [.t 1]⟩,
    ⟨2, some 4, none, .p .mov, [.c (.bool false)]⟩])
   (.seq (.reg 0 [⟨0, some 5, none, .p (.faddr 0), [.t 3]⟩,
    ⟨1, some 6, none, .l (.load 3 false 1), [.t 5]⟩,
    ⟨2, some 7, none, .e .call [] [], [.f 384, .t 6]⟩,
    ⟨3, some 8, none, .p .mov, [.t 7]⟩,
    ⟨4, some 9, some (8, true), .p (.faddr 2), [.t 2]⟩,
    ⟨5, some 10, some (8, true), .l (.load 2 false 1), [.t 9]⟩,
    ⟨6, some 11, some (8, true), .p (.faddr 0), [.t 3]⟩,
    ⟨7, some 12, some (8, true), .l (.load 3 false 1), [.t 11]⟩,
    ⟨8, some 13, some (8, true), .e .call [] [], [.f 301, .t 10, .t 12]⟩,
    ⟨9, some 14, some (8, true), .p (.un .not), [.t 13]⟩,
    ⟨10, some 15, none, .p .pick, [.t 8, .t 14, .c (.bool false)]⟩,
    ⟨11, some 16, none, .p .mov, [.t 15]⟩,
    ⟨12, some 17, some (16, true), .p (.faddr 1), [.t 3]⟩,
    ⟨13, some 18, some (16, true), .l (.load 3 false 1), [.t 17]⟩,
    ⟨14, some 19, some (16, true), .e .call [] [], [.f 405, .t 18]⟩,
    ⟨15, some 20, none, .p .pick, [.t 16, .t 19, .c (.bool false)]⟩,
    ⟨16, some 21, none, .p .mov, [.t 20]⟩,
    ⟨17, some 22, some (21, true), .p (.faddr 3), [.t 3]⟩,
    ⟨18, some 23, some (21, true), .l (.load 3 false 1), [.t 22]⟩,
    ⟨19, some 24, some (21, true), .p (.un .not), [.t 23]⟩,
    ⟨20, some 25, some (21, true), .p .mov, [.t 24]⟩,
    ⟨21, some 26, some (25, false), .p (.faddr 1), [.t 3]⟩,
    ⟨22, some 27, some (25, false), .l (.load 3 false 1), [.t 26]⟩,
    ⟨23, some 28, some (25, false), .p (.bin .eql), [.t 27, .c (.int .i64 0)]⟩,
    ⟨24, some 29, some (25, false), .p .mov, [.t 28]⟩,
    ⟨25, some 30, some (29, true), .p (.faddr 2), [.t 3]⟩,
    ⟨26, some 31, some (29, true), .l (.load 3 false 1), [.t 30]⟩,
    ⟨27, some 32, some (29, true), .p (.un .not), [.t 31]⟩,
    ⟨28, some 33, some (25, false), .p .pick, [.t 29, .t 32, .c (.bool false)]⟩,
    ⟨29, some 34, some (21, true), .p .pick, [.t 25, .c (.bool true), .t 33]⟩,
    ⟨30, some 35, none, .p .pick, [.t 21, .t 34, .c (.bool false)]⟩,
    ⟨31, some 4, none, .p .mov, [.t 35]⟩])
   (.ret)),
  [.tmp 4]⟩
/- (loop.example/g00641/impl.Locks).keepers -/
def g380_0 : GL.Code := .seq (.reg 0 [⟨0, some 9, none, .p (.bin .lss), [.t 8, .c (.int .i64 4)]⟩])
   (.seq (.cond (.t 9) (.skip)
   (.exit 0))
   (.seq (.block 1 (.seq (.reg 0 [⟨0, some 10, none, .p .mov, [.t 8]⟩,
    ⟨1, some 6, none, .p .mov, [.t 10]⟩])
   (.seq (.reg 0 [⟨0, some 11, none, .p .mov, [.t 6]⟩,
    ⟨1, some 12, none, .p (.faddr 0), [.t 3]⟩,
    ⟨2, some 13, none, .l (.load 3 false 1), [.t 12]⟩,
    ⟨3, some 14, none, .p (.bin .neq), [.t 11, .t 13]⟩,
    ⟨4, some 15, none, .p .mov, [.t 14]⟩,
    ⟨5, some 16, some (15, true), .p (.faddr 1), [.t 2]⟩,
    ⟨6, some 17, some (15, true), .l (.load 2 false 1), [.t 16]⟩,
    ⟨7, some 18, some (15, true), .p (.faddr 1), [.t 3]⟩,
    ⟨8, some 19, some (15, true), .l (.load 3 false 1), [.t 18]⟩,
    ⟨9, some 20, some (15, true), .p (.idx 1), [.t 17, .t 19]⟩,
    ⟨10, some 21, some (15, true), .r (.load false 1) false, [.t 20]⟩,
    ⟨11, some 22, some (15, true), .p .mov, [.t 6]⟩,
    ⟨12, some 23, some (15, true), .p (.bin .eql), [.t 21, .t 22]⟩,
    ⟨13, some 24, some (15, true), .p .mov, [.t 23]⟩,
    ⟨14, some 25, some (24, false), .p (.faddr 2), [.t 3]⟩,
    ⟨15, some 26, some (24, false), .l (.load 3 false 1), [.t 25]⟩,
    ⟨16, some 27, some (24, false), .p .mov, [.t 26]⟩,
    ⟨17, some 28, some (27, true), .p (.faddr 0), [.t 2]⟩,
    ⟨18, some 29, some (27, true), .l (.load 2 false 1), [.t 28]⟩,
    ⟨19, some 30, some (27, true), .p (.faddr 1), [.t 3]⟩,
    ⟨20, some 31, some (27, true), .l (.load 3 false 1), [.t 30]⟩,
    ⟨21, some 32, some (27, true), .p (.idx 1), [.t 29, .t 31]⟩,
    ⟨22, some 33, some (27, true), .r (.load false 1) false, [.t 32]⟩,
    ⟨23, some 34, some (27, true), .p .mov, [.t 6]⟩,
    ⟨24, some 35, some (27, true), .e .call [] [], [.f 301, .t 33, .t 34]⟩,
    ⟨25, some 36, some (24, false), .p .pick, [.t 27, .t 35, .c (.bool false)]⟩,
    ⟨26, some 37, some (15, true), .p .pick, [.t 24, .c (.bool true), .t 36]⟩,
    ⟨27, some 38, none, .p .pick, [.t 15, .t 37, .c (.bool false)]⟩])
   (.cond (.t 38) (.reg 0 [⟨0, some 39, none, .p .mov, [.t 5]⟩,
    ⟨1, some 40, none, .p .mov, [.t 6]⟩,
    ⟨2, some 41, none, .e (.new (.lit 1)) [] [], [.t 40]⟩,
    ⟨3, some 42, none, .e (.append 1 8) [] [], [.t 39, .t 41]⟩,
    ⟨4, some 5, none, .p .mov, [.t 42]⟩])
   (.skip)))))
   (.reg 0 [⟨0, some 43, none, .p (.bin .add), [.t 8, .c (.int .i64 1)]⟩,
    ⟨1, some 8, none, .p .mov, [.t 43]⟩])))
def g380 : GL.Fn := ⟨.seq (.reg 0 [⟨0, some 2, none, .l (.box 2 3), [.t 0]⟩,
    ⟨1, some 3, none, .l (.box 3 4), [.t 1]⟩,
    ⟨2, some 4, none, .p .mov, [.c (.nils)]⟩])
   (.seq (.reg 0 [⟨0, some 7, none, .e (.new (.lit 1)) [] [], []⟩,
    ⟨1, some 5, none, .p .mov, [.t 7]⟩])
   (.seq (.seq (.reg 0 [⟨0, some 8, none, .p .mov, [.c (.int .i64 0)]⟩])
   (.block 0 (.loop g380_0)))
   (.seq (.reg 0 [⟨0, some 44, none, .p .mov, [.t 5]⟩,
    ⟨1, some 4, none, .p .mov, [.t 44]⟩])
   (.ret)))),
  [.tmp 4]⟩
/- loop.example/g00641/spec.l8Ask -/
def g381 : GL.Fn := ⟨.seq (.reg 0 [⟨0, some 2, none, .l (.box 2 3), [.t 0]⟩,
    ⟨1, some 3, none, .l (.box 3 4), [.t 1]⟩,
    ⟨2, some 4, none, .p .mov, [.c (.bool false)]⟩])
   (.seq (.seq (.reg 0 [⟨0, some 5, none, .p (.faddr 0), [.t 3]⟩,
    ⟨1, some 6, none, .l (.load 3 false 1), [.t 5]⟩,
    ⟨2, some 7, none, .e .call [] [], [.f 98, .t 6, .c (.int .i64 0), .c (.int .i64 3)]⟩,
    ⟨3, some 8, none, .p (.un .not), [.t 7]⟩,
    ⟨4, some 9, none, .p .mov, [.t 8]⟩,
    ⟨5, some 10, some (9, false), .p (.faddr 2), [.t 2]⟩,
    ⟨6, some 11, some (9, false), .l (.load 2 false 1), [.t 10]⟩,
    ⟨7, some 12, some (9, false), .p (.faddr 0), [.t 3]⟩,
    ⟨8, some 13, some (9, false), .l (.load 3 false 1), [.t 12]⟩,
    ⟨9, some 14, some (9, false), .e .call [] [], [.f 302, .t 11, .t 13]⟩,
    ⟨10, some 15, none, .p .pick, [.t 9, .c (.bool true), .t 14]⟩,
    ⟨11, some 16, none, .p .mov, [.t 15]⟩,
    ⟨12, some 17, some (16, false), .p (.faddr 1), [.t 3]⟩,
    ⟨13, some 18, some (16, false), .l (.load 3 false 1), [.t 17]⟩,
    ⟨14, some 19, some (16, false), .e .call [] [], [.f 98, .t 18, .c (.int .i64 0), .c (.int .i64 3)]⟩,
    ⟨15, some 20, some (16, false), .p (.un .not), [.t 19]⟩,
    ⟨16, some 21, none, .p .pick, [.t 16, .c (.bool true), .t 20]⟩])
   (.cond (.t 21) (.seq (.reg 0 [⟨0, some 4, none, .p .mov, [.c (.bool false)]⟩])
   (.ret))
   (.skip)))
   (.seq (.reg 0 [⟨0, some 22, none, .p (.faddr 3), [.t 3]⟩,
    ⟨1, some 23, none, .l (.load 3 false 1), [.t 22]⟩,
    ⟨2, some 24, none, .p (.un .not), [.t 23]⟩,
    ⟨3, some 25, none, .p .mov, [.t 24]⟩,
    ⟨4, some 26, some (25, false), .p (.faddr 1), [.t 3]⟩,
    ⟨5, some 27, some (25, false), .l (.load 3 false 1), [.t 26]⟩,
    ⟨6, some 28, some (25, false), .p (.bin .eql), [.t 27, .c (.int .i64 0)]⟩,
    ⟨7, some 29, some (25, false), .p .mov, [.t 28]⟩,
    ⟨8, some 30, some (29, true), .p (.faddr 2), [.t 3]⟩,
    ⟨9, some 31, some (29, true), .l (.load 3 false 1), [.t 30]⟩,
    ⟨10, some 32, some (29, true), .p (.un .not), [.t 31]⟩,
    ⟨11, some 33, some (25, false), .p .pick, [.t 29, .t 32, .c (.bool false)]⟩,
    ⟨12, some 34, none, .p .pick, [.t 25, .c (.bool true), .t 33]⟩,
    ⟨13, some 4, none, .p .mov, [.t 34]⟩])
   (.ret))),
  [.tmp 4]⟩
/- loop.example/g00641/spec.l8Waits -/
def g382_0 : GL.Code := .seq (.seq (.reg 0 [⟨0, some 7, none, .p .mov, [.t 6]⟩,
    ⟨1, some 8, none, .p (.bin .lss), [.t 7, .c (.int .i64 4)]⟩])
   (.cond (.t 8) (.skip)
   (.exit 0)))
   (.seq (.block 1 (.seq (.reg 0 [⟨0, some 11, none, .p .mov, [.t 6]⟩,
    ⟨1, some 12, none, .p (.faddr 0), [.t 3]⟩,
    ⟨2, some 13, none, .l (.load 3 false 1), [.t 12]⟩,
    ⟨3, some 14, none, .p (.bin .neq), [.t 11, .t 13]⟩,
    ⟨4, some 15, none, .p .mov, [.t 14]⟩,
    ⟨5, some 16, some (15, true), .p (.faddr 1), [.t 2]⟩,
    ⟨6, some 17, some (15, true), .l (.load 2 false 1), [.t 16]⟩,
    ⟨7, some 18, some (15, true), .p (.faddr 1), [.t 3]⟩,
    ⟨8, some 19, some (15, true), .l (.load 3 false 1), [.t 18]⟩,
    ⟨9, some 20, some (15, true), .p (.idx 1), [.t 17, .t 19]⟩,
    ⟨10, some 21, some (15, true), .r (.load false 1) false, [.t 20]⟩,
    ⟨11, some 22, some (15, true), .p .mov, [.t 6]⟩,
    ⟨12, some 23, some (15, true), .p (.bin .eql), [.t 21, .t 22]⟩,
    ⟨13, some 24, some (15, true), .p .mov, [.t 23]⟩,
    ⟨14, some 25, some (24, false), .p (.faddr 2), [.t 3]⟩,
    ⟨15, some 26, some (24, false), .l (.load 3 false 1), [.t 25]⟩,
    ⟨16, some 27, some (24, false), .p .mov, [.t 26]⟩,
    ⟨17, some 28, some (27, true), .p (.faddr 0), [.t 2]⟩,
    ⟨18, some 29, some (27, true), .l (.load 2 false 1), [.t 28]⟩,
    ⟨19, some 30, some (27, true), .p (.faddr 1), [.t 3]⟩,
    ⟨20, some 31, some (27, true), .l (.load 3 false 1), [.t 30]⟩,
    ⟨21, some 32, some (27, true), .p (.idx 1), [.t 29, .t 31]⟩,
    ⟨22, some 33, some (27, true), .r (.load false 1) false, [.t 32]⟩,
    ⟨23, some 34, some (27, true), .p .mov, [.t 6]⟩,
    ⟨24, some 35, some (27, true), .e .call [] [], [.f 302, .t 33, .t 34]⟩,
    ⟨25, some 36, some (24, false), .p .pick, [.t 27, .t 35, .c (.bool false)]⟩,
    ⟨26, some 37, some (15, true), .p .pick, [.t 24, .c (.bool true), .t 36]⟩,
    ⟨27, some 38, none, .p .pick, [.t 15, .t 37, .c (.bool false)]⟩])
   (.cond (.t 38) (.reg 0 [⟨0, some 39, none, .p .mov, [.t 5]⟩,
    ⟨1, some 40, none, .p .mov, [.t 6]⟩,
    ⟨2, some 41, none, .e (.new (.lit 1)) [] [], [.t 40]⟩,
    ⟨3, some 42, none, .e (.append 1 8) [] [], [.t 39, .t 41]⟩,
    ⟨4, some 5, none, .p .mov, [.t 42]⟩])
   (.skip))))
   (.reg 0 [⟨0, some 9, none, .p .mov, [.t 6]⟩,
    ⟨1, some 10, none, .p (.bin .add), [.t 9, .c (.int .i64 1)]⟩,
    ⟨2, some 6, none, .p .mov, [.t 10]⟩]))
def g382 : GL.Fn := ⟨.seq (.reg 0 [⟨0, some 2, none, .l (.box 2 3), [.t 0]⟩,
    ⟨1, some 3, none, .l (.box 3 4), [.t 1]⟩,
    ⟨2, some 4, none, .p .mov, [.c (.nils)]⟩])
   (.seq (.reg 0 [⟨0, some 5, none, .p .mov, [.c (.nils)]⟩])
   (.seq (.seq (.reg 0 [⟨0, some 6, none, .p .mov, [.c (.int .i64 0)]⟩])
   (.block 0 (.loop g382_0)))
   (.seq (.reg 0 [⟨0, some 43, none, .p .mov, [.t 5]⟩,
    ⟨1, some 4, none, .p .mov, [.t 43]⟩])
   (.ret)))),
  [.tmp 4]⟩
/- loop.example/g00641/impl.isDealer -/
def g384 : GL.Fn := ⟨.seq (.reg 0 [⟨0, some 2, none, .p .mov, [.c (.bool false)]⟩])
   (.seq (.reg 0 [⟨0, some 3, none, .p .mov, [.t 0]⟩,
    ⟨1, some 4, none, .e .call [] [], [.f 107, .t 3, .c (.int .i64 0), .c (.int .i64 3)]⟩,
    ⟨2, some 2, none, .p .mov, [.t 4]⟩])
   (.ret)),
  [.tmp 2]⟩
/- slices.Equal[[]int,int] -/
def g386_0 : GL.Code := .seq (.reg 0 [⟨0, some 14, none, .p (.bin .lss), [.t 13, .t 12]⟩])
   (.seq (.cond (.t 14) (.skip)
   (.exit 0))
   (.seq (.block 1 (.seq (.reg 0 [⟨0, some 15, none, .p .mov, [.t 13]⟩,
    ⟨1, some 5, none, .p .mov, [.t 15]⟩])
   (.seq (.reg 0 [⟨0, some 16, none, .p .mov, [.t 0]⟩,
    ⟨1, some 17, none, .p .mov, [.t 5]⟩,
    ⟨2, some 18, none, .p (.idx 1), [.t 16, .t 17]⟩,
    ⟨3, some 19, none, .r (.load false 1) false, [.t 18]⟩,
    ⟨4, some 20, none, .p .mov, [.t 1]⟩,
    ⟨5, some 21, none, .p .mov, [.t 5]⟩,
    ⟨6, some 22, none, .p (.idx 1), [.t 20, .t 21]⟩,
    ⟨7, some 23, none, .r (.load false 1) false, [.t 22]⟩,
    ⟨8, some 24, none, .p (.bin .neq), [.t 19, .t 23]⟩])
   (.cond (.t 24) (.seq (.reg 0 [⟨0, some 4, none, .p .mov, [.c (.bool false)]⟩])
   (.ret))
   (.skip)))))
   (.reg 0 [⟨0, some 25, none, .p (.bin .add), [.t 13, .c (.int .i64 1)]⟩,
    ⟨1, some 13, none, .p .mov, [.t 25]⟩])))
def g386 : GL.Fn := ⟨.seq (.reg 0 [⟨0, some 4, none, .p .mov, [.c (.bool false)]⟩])
   (.seq (.seq (.reg 0 [⟨0, some 6, none, .p .mov, [.t 0]⟩,
    ⟨1, some 7, none, .p .len, [.t 6]⟩,
    ⟨2, some 8, none, .p .mov, [.t 1]⟩,
    ⟨3, some 9, none, .p .len, [.t 8]⟩,
    ⟨4, some 10, none, .p (.bin .neq), [.t 7, .t 9]⟩])
   (.cond (.t 10) (.seq (.reg 0 [⟨0, some 4, none, .p .mov, [.c (.bool false)]⟩])
   (.ret))
   (.skip)))
   (.seq (.seq (.reg 0 [⟨0, some 11, none, .p .mov, [.t 0]⟩,
    ⟨1, some 12, none, .p .len, [.t 11]⟩,
    ⟨2, some 13, none, .p .mov, [.c (.int .i64 0)]⟩])
   (.block 0 (.loop g386_0)))
   (.seq (.reg 0 [⟨0, some 4, none, .p .mov, [.c (.bool true)]⟩])
   (.ret)))),
  [.tmp 4]⟩
/- loop.example/g00641/impl.both -/
def g336 : GL.Fn := ⟨.seq (.reg 0 [⟨0, some 3, none, .e (.new (.box 1)) [] [], [.t 1]⟩,
    ⟨1, some 4, none, .p .mov, [.c (.nils)]⟩])
   (.seq (.reg 0 [⟨0, some 5, none, .p .mov, [.t 0]⟩,
    ⟨1, some 6, none, .e .call [] [], [.f 389, .t 5]⟩,
    ⟨2, some 7, none, .p (.mkFn 396), [.t 3]⟩,
    ⟨3, some 8, none, .e .call [] [], [.f 397, .t 6, .t 7]⟩,
    ⟨4, some 4, none, .p .mov, [.t 8]⟩])
   (.ret)),
  [.tmp 4]⟩
/- loop.example/g00641/impl.HasRound$1 -/
def g387 : GL.Fn := ⟨.seq (.reg 0 [⟨0, some 2, none, .p .mov, [.c (.bool false)]⟩])
   (.seq (.reg 0 [⟨0, some 3, none, .p .mov, [.t 0]⟩,
    ⟨1, some 4, none, .e .call [] [], [.f 107, .t 3, .c (.int .i64 (-1)), .c (.int .i64 3)]⟩,
    ⟨2, some 5, none, .p (.un .not), [.t 4]⟩,
    ⟨3, some 2, none, .p .mov, [.t 5]⟩])
   (.ret)),
  [.tmp 2]⟩
/- loop.example/g00641/spec.l1In -/
def g98 : GL.Fn := ⟨.seq (.reg 0 [⟨0, some 6, none, .p .mov, [.c (.bool false)]⟩])
   (.seq (.reg 0 [⟨0, some 7, none, .p .mov, [.t 0]⟩,
    ⟨1, some 8, none, .p .mov, [.t 1]⟩,
    ⟨2, some 9, none, .p (.bin .geq), [.t 7, .t 8]⟩,
    ⟨3, some 10, none, .p .mov, [.t 9]⟩,
    ⟨4, some 11, some (10, true), .p .mov, [.t 0]⟩,
    ⟨5, some 12, some (10, true), .p .mov, [.t 2]⟩,
    ⟨6, some 13, some (10, true), .p (.bin .leq), [.t 11, .t 12]⟩,
    ⟨7, some 14, none, .p .pick, [.t 10, .t 13, .c (.bool false)]⟩,
    ⟨8, some 6, none, .p .mov, [.t 14]⟩])
   (.ret)),
  [.tmp 6]⟩
/- loop.example/g00641/impl.isItem -/
def g405 : GL.Fn := ⟨.seq (.reg 0 [⟨0, some 2, none, .p .mov, [.c (.bool false)]⟩])
   (.seq (.reg 0 [⟨0, some 3, none, .p .mov, [.t 0]⟩,
    ⟨1, some 4, none, .e .call [] [], [.f 107, .t 3, .c (.int .i64 0), .c (.int .i64 3)]⟩,
    ⟨2, some 2, none, .p .mov, [.t 4]⟩])
   (.ret)),
  [.tmp 2]⟩
/- loop.example/g00641/spec.l1Rising -/
def g337_0 : GL.Code := .seq (.reg 0 [⟨0, some 12, none, .p (.bin .lss), [.t 11, .t 10]⟩])
   (.seq (.cond (.t 12) (.skip)
   (.exit 0))
   (.seq (.block 1 (.seq (.reg 0 [⟨0, some 13, none, .p .mov, [.t 11]⟩,
    ⟨1, some 14, none, .p (.idx 1), [.t 9, .t 11]⟩,
    ⟨2, some 15, none, .r (.load false 1) false, [.t 14]⟩,
    ⟨3, some 7, none, .p .mov, [.t 13]⟩,
    ⟨4, some 8, none, .p .mov, [.t 15]⟩])
   (.seq (.reg 0 [⟨0, some 16, none, .p .mov, [.t 8]⟩,
    ⟨1, some 17, none, .p .mov, [.t 1]⟩,
    ⟨2, some 18, none, .p .mov, [.t 2]⟩,
    ⟨3, some 19, none, .e .call [] [], [.f 98, .t 16, .t 17, .t 18]⟩,
    ⟨4, some 20, none, .p (.un .not), [.t 19]⟩,
    ⟨5, some 21, none, .p .mov, [.t 20]⟩,
    ⟨6, some 22, some (21, false), .p .mov, [.t 7]⟩,
    ⟨7, some 23, some (21, false), .p (.bin .gtr), [.t 22, .c (.int .i64 0)]⟩,
    ⟨8, some 24, some (21, false), .p .mov, [.t 23]⟩,
    ⟨9, some 25, some (24, true), .p .mov, [.t 0]⟩,
    ⟨10, some 26, some (24, true), .p .mov, [.t 7]⟩,
    ⟨11, some 27, some (24, true), .p (.bin .sub), [.t 26, .c (.int .i64 1)]⟩,
    ⟨12, some 28, some (24, true), .p (.idx 1), [.t 25, .t 27]⟩,
    ⟨13, some 29, some (24, true), .r (.load false 1) false, [.t 28]⟩,
    ⟨14, some 30, some (24, true), .p .mov, [.t 8]⟩,
    ⟨15, some 31, some (24, true), .p (.bin .geq), [.t 29, .t 30]⟩,
    ⟨16, some 32, some (21, false), .p .pick, [.t 24, .t 31, .c (.bool false)]⟩,
    ⟨17, some 33, none, .p .pick, [.t 21, .c (.bool true), .t 32]⟩])
   (.cond (.t 33) (.seq (.reg 0 [⟨0, some 6, none, .p .mov, [.c (.bool false)]⟩])
   (.ret))
   (.skip)))))
   (.reg 0 [⟨0, some 34, none, .p (.bin .add), [.t 11, .c (.int .i64 1)]⟩,
    ⟨1, some 11, none, .p .mov, [.t 34]⟩])))
def g337 : GL.Fn := ⟨.seq (.reg 0 [⟨0, some 6, none, .p .mov, [.c (.bool false)]⟩])
   (.seq (.seq (.reg 0 [⟨0, some 9, none, .p .mov, [.t 0]⟩,
    ⟨1, some 10, none, .p .len, [.t 9]⟩,
    ⟨2, some 11, none, .p .mov, [.c (.int .i64 0)]⟩])
   (.block 0 (.loop g337_0)))
   (.seq (.reg 0 [⟨0, some 6, none, .p .mov, [.c (.bool true)]⟩])
   (.ret))),
  [.tmp 6]⟩
/- (*loop.example/g00641/spec.l1Cur).next -/
def g140 : GL.Fn := ⟨.seq (.reg 0 [⟨0, some 2, none, .p .mov, [.c (.int .i64 0)]⟩])
   (.seq (.reg 0 [⟨0, some 3, none, .p .mov, [.c (.int .i64 0)]⟩])
   (.seq (.seq (.reg 0 [⟨0, some 4, none, .p .mov, [.t 0]⟩,
    ⟨1, some 5, none, .p .nilCheck, [.t 4]⟩,
    ⟨2, some 6, none, .p (.faddr 1), [.t 5]⟩,
    ⟨3, some 7, none, .r (.load false 1) false, [.t 6]⟩,
    ⟨4, some 8, none, .p .mov, [.t 0]⟩,
    ⟨5, some 9, none, .p .nilCheck, [.t 8]⟩,
    ⟨6, some 10, none, .p (.faddr 0), [.t 9]⟩,
    ⟨7, some 11, none, .r (.load false 1) false, [.t 10]⟩,
    ⟨8, some 12, none, .p .len, [.t 11]⟩,
    ⟨9, some 13, none, .p (.bin .lss), [.t 7, .t 12]⟩])
   (.cond (.t 13) (.reg 0 [⟨0, some 14, none, .p .mov, [.t 0]⟩,
    ⟨1, some 15, none, .p .nilCheck, [.t 14]⟩,
    ⟨2, some 16, none, .p (.faddr 0), [.t 15]⟩,
    ⟨3, some 17, none, .r (.load false 1) false, [.t 16]⟩,
    ⟨4, some 18, none, .p .mov, [.t 0]⟩,
    ⟨5, some 19, none, .p .nilCheck, [.t 18]⟩,
    ⟨6, some 20, none, .p (.faddr 1), [.t 19]⟩,
    ⟨7, some 21, none, .r (.load false 1) false, [.t 20]⟩,
    ⟨8, some 22, none, .p (.idx 1), [.t 17, .t 21]⟩,
    ⟨9, some 23, none, .r (.load false 1) false, [.t 22]⟩,
    ⟨10, some 24, none, .p (.conv .i64), [.t 23]⟩,
    ⟨11, some 3, none, .p .mov, [.t 24]⟩])
   (.skip)))
   (.seq (.reg 0 [⟨0, some 25, none, .p .mov, [.t 0]⟩,
    ⟨1, some 26, none, .p .nilCheck, [.t 25]⟩,
    ⟨2, some 27, none, .p (.faddr 1), [.t 26]⟩,
    ⟨3, some 28, none, .r (.load false 1) false, [.t 27]⟩,
    ⟨4, some 29, none, .p (.bin .add), [.t 28, .c (.int .i64 1)]⟩,
    ⟨5, some 30, none, .p .nilCheck, [.t 25]⟩,
    ⟨6, some 31, none, .p (.faddr 1), [.t 30]⟩,
    ⟨7, none, none, .e (.store 1) [] [], [.t 31, .t 29]⟩])
   (.seq (.reg 0 [⟨0, some 32, none, .p .mov, [.t 0]⟩,
    ⟨1, some 33, none, .p .mov, [.t 0]⟩,
    ⟨2, some 34, none, .p .nilCheck, [.t 33]⟩,
    ⟨3, some 35, none, .p (.faddr 2), [.t 34]⟩,
    ⟨4, some 36, none, .r (.load false 1) false, [.t 35]⟩,
    ⟨5, some 37, none, .p (.bin .mul), [.t 36, .c (.int .u64 6364136223846793005)]⟩,
    ⟨6, some 38, none, .p .mov, [.t 3]⟩,
    ⟨7, some 39, none, .p (.conv .u64), [.t 38]⟩,
    ⟨8, some 40, none, .p (.bin .add), [.t 37, .t 39]⟩,
    ⟨9, some 41, none, .p (.bin .add), [.t 40, .c (.int .u64 1442695040888963407)]⟩,
    ⟨10, some 42, none, .p .nilCheck, [.t 32]⟩,
    ⟨11, some 43, none, .p (.faddr 2), [.t 42]⟩,
    ⟨12, none, none, .e (.store 1) [] [], [.t 43, .t 41]⟩])
   (.seq (.seq (.reg 0 [⟨0, some 44, none, .p .mov, [.t 0]⟩,
    ⟨1, some 45, none, .p .nilCheck, [.t 44]⟩,
    ⟨2, some 46, none, .p (.faddr 1), [.t 45]⟩,
    ⟨3, some 47, none, .r (.load false 1) false, [.t 46]⟩,
    ⟨4, some 48, none, .p .mov, [.t 0]⟩,
    ⟨5, some 49, none, .p .nilCheck, [.t 48]⟩,
    ⟨6, some 50, none, .p (.faddr 0), [.t 49]⟩,
    ⟨7, some 51, none, .r (.load false 1) false, [.t 50]⟩,
    ⟨8, some 52, none, .p .len, [.t 51]⟩,
    ⟨9, some 53, none, .p (.bin .leq), [.t 47, .t 52]⟩])
   (.cond (.t 53) (.seq (.reg 0 [⟨0, some 54, none, .p .mov, [.t 3]⟩,
    ⟨1, some 2, none, .p .mov, [.t 54]⟩])
   (.ret))
   (.skip)))
   (.seq (.reg 0 [⟨0, some 55, none, .p .mov, [.t 0]⟩,
    ⟨1, some 56, none, .p .nilCheck, [.t 55]⟩,
    ⟨2, some 57, none, .p (.faddr 2), [.t 56]⟩,
    ⟨3, some 58, none, .r (.load false 1) false, [.t 57]⟩,
    ⟨4, some 59, none, .p (.bin .shr), [.t 58, .c (.int .u64 40)]⟩,
    ⟨5, some 60, none, .p (.bin .and), [.t 59, .c (.int .u64 255)]⟩,
    ⟨6, some 61, none, .p (.conv .i64), [.t 60]⟩,
    ⟨7, some 2, none, .p .mov, [.t 61]⟩])
   (.ret))))))),
  [.tmp 2]⟩
/- slices.Concat[[]int,int] -/
def g429_0 : GL.Code := .seq (.reg 0 [⟨0, some 12, none, .p (.bin .lss), [.t 11, .t 10]⟩])
   (.seq (.cond (.t 12) (.skip)
   (.exit 0))
   (.seq (.block 1 (.seq (.reg 0 [⟨0, some 13, none, .p (.idx 1), [.t 9, .t 11]⟩,
    ⟨1, some 14, none, .r (.load false 1) false, [.t 13]⟩,
    ⟨2, some 5, none, .p .mov, [.t 14]⟩])
   (.seq (.reg 0 [⟨0, some 15, none, .p .mov, [.t 3]⟩,
    ⟨1, some 16, none, .p .mov, [.t 5]⟩,
    ⟨2, some 17, none, .p .len, [.t 16]⟩,
    ⟨3, some 18, none, .p (.bin .add), [.t 15, .t 17]⟩,
    ⟨4, some 3, none, .p .mov, [.t 18]⟩])
   (.seq (.reg 0 [⟨0, some 19, none, .p .mov, [.t 3]⟩,
    ⟨1, some 20, none, .p (.bin .lss), [.t 19, .c (.int .i64 0)]⟩])
   (.cond (.t 20) (.reg 0 [⟨0, some 21, none, .p .bad, []⟩,
    ⟨1, none, none, .p .bad, []⟩])
   (.skip))))))
   (.reg 0 [⟨0, some 22, none, .p (.bin .add), [.t 11, .c (.int .i64 1)]⟩,
    ⟨1, some 11, none, .p .mov, [.t 22]⟩])))
def g429_1 : GL.Code := .seq (.reg 0 [⟨0, some 28, none, .p (.bin .lss), [.t 27, .t 26]⟩])
   (.seq (.cond (.t 28) (.skip)
   (.exit 2))
   (.seq (.block 3 (.seq (.reg 0 [⟨0, some 29, none, .p (.idx 1), [.t 25, .t 27]⟩,
    ⟨1, some 30, none, .r (.load false 1) false, [.t 29]⟩,
    ⟨2, some 8, none, .p .mov, [.t 30]⟩])
   (.reg 0 [⟨0, some 31, none, .p .mov, [.t 6]⟩,
    ⟨1, some 32, none, .p .mov, [.t 8]⟩,
    ⟨2, some 33, none, .e (.append 1 8) [] [], [.t 31, .t 32]⟩,
    ⟨3, some 6, none, .p .mov, [.t 33]⟩])))
   (.reg 0 [⟨0, some 34, none, .p (.bin .add), [.t 27, .c (.int .i64 1)]⟩,
    ⟨1, some 27, none, .p .mov, [.t 34]⟩])))
def g429 : GL.Fn := ⟨.seq (.reg 0 [⟨0, some 2, none, .p .mov, [.c (.nils)]⟩])
   (.seq (.reg 0 [⟨0, some 3, none, .p .mov, [.c (.int .i64 0)]⟩])
   (.seq (.seq (.reg 0 [⟨0, some 9, none, .p .mov, [.t 0]⟩,
    ⟨1, some 10, none, .p .len, [.t 9]⟩,
    ⟨2, some 11, none, .p .mov, [.c (.int .i64 0)]⟩])
   (.block 0 (.loop g429_0)))
   (.seq (.reg 0 [⟨0, some 23, none, .p .mov, [.t 3]⟩,
    ⟨1, some 24, none, .e .call [] [], [.f 436, .c (.nils), .t 23]⟩,
    ⟨2, some 6, none, .p .mov, [.t 24]⟩])
   (.seq (.seq (.reg 0 [⟨0, some 25, none, .p .mov, [.t 0]⟩,
    ⟨1, some 26, none, .p .len, [.t 25]⟩,
    ⟨2, some 27, none, .p .mov, [.c (.int .i64 0)]⟩])
   (.block 2 (.loop g429_1)))
   (.seq (.reg 0 [⟨0, some 35, none, .p .mov, [.t 6]⟩,
    ⟨1, some 2, none, .p .mov, [.t 35]⟩])
   (.ret)))))),
  [.tmp 2]⟩
/- slices.DeleteFunc[[]int,int] -/
def g397_0 : GL.Code := .seq (.seq (.reg 0 [⟨0, some 16, none, .p .mov, [.t 6]⟩,
    ⟨1, some 17, none, .p .mov, [.t 0]⟩,
    ⟨2, some 18, none, .p .len, [.t 17]⟩,
    ⟨3, some 19, none, .p (.bin .lss), [.t 16, .t 18]⟩])
   (.cond (.t 19) (.skip)
   (.exit 0)))
   (.seq (.block 1 (.seq (.reg 0 [⟨0, some 22, none, .p .mov, [.t 0]⟩,
    ⟨1, some 23, none, .p .mov, [.t 6]⟩,
    ⟨2, some 24, none, .p (.idx 1), [.t 22, .t 23]⟩,
    ⟨3, some 25, none, .r (.load false 1) false, [.t 24]⟩,
    ⟨4, some 7, none, .p .mov, [.t 25]⟩])
   (.seq (.reg 0 [⟨0, some 26, none, .p .mov, [.t 1]⟩,
    ⟨1, some 27, none, .p .mov, [.t 7]⟩,
    ⟨2, some 28, none, .e .call [] [], [.t 26, .t 27]⟩,
    ⟨3, some 29, none, .p (.un .not), [.t 28]⟩])
   (.cond (.t 29) (.seq (.reg 0 [⟨0, some 30, none, .p .mov, [.t 0]⟩,
    ⟨1, some 31, none, .p .mov, [.t 5]⟩,
    ⟨2, some 32, none, .p .mov, [.t 7]⟩,
    ⟨3, some 33, none, .p (.idx 1), [.t 30, .t 31]⟩,
    ⟨4, none, none, .e (.store 1) [] [], [.t 33, .t 32]⟩])
   (.reg 0 [⟨0, some 34, none, .p .mov, [.t 5]⟩,
    ⟨1, some 35, none, .p (.bin .add), [.t 34, .c (.int .i64 1)]⟩,
    ⟨2, some 5, none, .p .mov, [.t 35]⟩]))
   (.skip)))))
   (.reg 0 [⟨0, some 20, none, .p .mov, [.t 6]⟩,
    ⟨1, some 21, none, .p (.bin .add), [.t 20, .c (.int .i64 1)]⟩,
    ⟨2, some 6, none, .p .mov, [.t 21]⟩]))
def g397 : GL.Fn := ⟨.seq (.reg 0 [⟨0, some 4, none, .p .mov, [.c (.nils)]⟩])
   (.seq (.reg 0 [⟨0, some 8, none, .p .mov, [.t 0]⟩,
    ⟨1, some 9, none, .p .mov, [.t 1]⟩,
    ⟨2, some 10, none, .e .call [] [], [.f 391, .t 8, .t 9]⟩,
    ⟨3, some 5, none, .p .mov, [.t 10]⟩])
   (.seq (.seq (.reg 0 [⟨0, some 11, none, .p .mov, [.t 5]⟩,
    ⟨1, some 12, none, .p (.bin .eql), [.t 11, .c (.int .i64 (-1))]⟩])
   (.cond (.t 12) (.seq (.reg 0 [⟨0, some 13, none, .p .mov, [.t 0]⟩,
    ⟨1, some 4, none, .p .mov, [.t 13]⟩])
   (.ret))
   (.skip)))
   (.seq (.seq (.reg 0 [⟨0, some 14, none, .p .mov, [.t 5]⟩,
    ⟨1, some 15, none, .p (.bin .add), [.t 14, .c (.int .i64 1)]⟩,
    ⟨2, some 6, none, .p .mov, [.t 15]⟩])
   (.block 0 (.loop g397_0)))
   (.seq (.reg 0 [⟨0, some 36, none, .p .mov, [.t 0]⟩,
    ⟨1, some 37, none, .p .mov, [.t 5]⟩,
    ⟨2, some 38, none, .p (.slice 1 true false false), [.t 36, .t 37]⟩,
    ⟨3, none, none, .e (.clear 1 [.int .i64 0]) [] [], [.t 38]⟩])
   (.seq (.reg 0 [⟨0, some 39, none, .p .mov, [.t 0]⟩,
    ⟨1, some 40, none, .p .mov, [.t 5]⟩,
    ⟨2, some 41, none, .p (.slice 1 false true false), [.t 39, .t 40]⟩,
    ⟨3, some 4, none, .p .mov, [.t 41]⟩])
   (.ret)))))),
  [.tmp 4]⟩
/- slices.Clone[[]int,int] -/
def g389 : GL.Fn := ⟨.seq (.reg 0 [⟨0, some 2, none, .p .mov, [.c (.nils)]⟩])
   (.seq (.seq (.reg 0 [⟨0, some 3, none, .p .mov, [.t 0]⟩,
    ⟨1, some 4, none, .p (.isNil false), [.t 3]⟩])
   (.cond (.t 4) (.seq (.reg 0 [⟨0, some 2, none, .p .mov, [.c (.nils)]⟩])
   (.ret))
   (.skip)))
   (.seq (.reg 0 [⟨0, some 5, none, .e (.new (.lit 1)) [] [], []⟩,
    ⟨1, some 6, none, .p .mov, [.t 0]⟩,
    ⟨2, some 7, none, .e (.append 1 8) [] [], [.t 5, .t 6]⟩,
    ⟨3, some 2, none, .p .mov, [.t 7]⟩])
   (.ret))),
  [.tmp 2]⟩
/- slices.IndexFunc[[]int,int] -/
def g391_0 : GL.Code := .seq (.reg 0 [⟨0, some 9, none, .p (.bin .lss), [.t 8, .t 7]⟩])
   (.seq (.cond (.t 9) (.skip)
   (.exit 0))
   (.seq (.block 1 (.seq (.reg 0 [⟨0, some 10, none, .p .mov, [.t 8]⟩,
    ⟨1, some 5, none, .p .mov, [.t 10]⟩])
   (.seq (.reg 0 [⟨0, some 11, none, .p .mov, [.t 1]⟩,
    ⟨1, some 12, none, .p .mov, [.t 0]⟩,
    ⟨2, some 13, none, .p .mov, [.t 5]⟩,
    ⟨3, some 14, none, .p (.idx 1), [.t 12, .t 13]⟩,
    ⟨4, some 15, none, .r (.load false 1) false, [.t 14]⟩,
    ⟨5, some 16, none, .e .call [] [], [.t 11, .t 15]⟩])
   (.cond (.t 16) (.seq (.reg 0 [⟨0, some 17, none, .p .mov, [.t 5]⟩,
    ⟨1, some 4, none, .p .mov, [.t 17]⟩])
   (.ret))
   (.skip)))))
   (.reg 0 [⟨0, some 18, none, .p (.bin .add), [.t 8, .c (.int .i64 1)]⟩,
    ⟨1, some 8, none, .p .mov, [.t 18]⟩])))
def g391 : GL.Fn := ⟨.seq (.reg 0 [⟨0, some 4, none, .p .mov, [.c (.int .i64 0)]⟩])
   (.seq (.seq (.reg 0 [⟨0, some 6, none, .p .mov, [.t 0]⟩,
    ⟨1, some 7, none, .p .len, [.t 6]⟩,
    ⟨2, some 8, none, .p .mov, [.c (.int .i64 0)]⟩])
   (.block 0 (.loop g391_0)))
   (.seq (.reg 0 [⟨0, some 4, none, .p .mov, [.c (.int .i64 (-1))]⟩])
   (.ret))),
  [.tmp 4]⟩
/- slices.Compact[[]int,int] -/
def g430_0 : GL.Code := .seq (.seq (.reg 0 [⟨0, some 29, none, .p .mov, [.t 5]⟩,
    ⟨1, some 30, none, .p .mov, [.t 4]⟩,
    ⟨2, some 31, none, .p .len, [.t 30]⟩,
    ⟨3, some 32, none, .p (.bin .lss), [.t 29, .t 31]⟩])
   (.cond (.t 32) (.skip)
   (.exit 2)))
   (.seq (.block 3 (.seq (.reg 0 [⟨0, some 35, none, .p .mov, [.t 4]⟩,
    ⟨1, some 36, none, .p .mov, [.t 5]⟩,
    ⟨2, some 37, none, .p (.idx 1), [.t 35, .t 36]⟩,
    ⟨3, some 38, none, .r (.load false 1) false, [.t 37]⟩,
    ⟨4, some 39, none, .p .mov, [.t 4]⟩,
    ⟨5, some 40, none, .p .mov, [.t 5]⟩,
    ⟨6, some 41, none, .p (.bin .sub), [.t 40, .c (.int .i64 1)]⟩,
    ⟨7, some 42, none, .p (.idx 1), [.t 39, .t 41]⟩,
    ⟨8, some 43, none, .r (.load false 1) false, [.t 42]⟩,
    ⟨9, some 44, none, .p (.bin .neq), [.t 38, .t 43]⟩])
   (.cond (.t 44) (.seq (.reg 0 [⟨0, some 45, none, .p .mov, [.t 0]⟩,
    ⟨1, some 46, none, .p .mov, [.t 3]⟩,
    ⟨2, some 47, none, .p .mov, [.t 4]⟩,
    ⟨3, some 48, none, .p .mov, [.t 5]⟩,
    ⟨4, some 49, none, .p (.idx 1), [.t 47, .t 48]⟩,
    ⟨5, some 50, none, .r (.load false 1) false, [.t 49]⟩,
    ⟨6, some 51, none, .p (.idx 1), [.t 45, .t 46]⟩,
    ⟨7, none, none, .e (.store 1) [] [], [.t 51, .t 50]⟩])
   (.reg 0 [⟨0, some 52, none, .p .mov, [.t 3]⟩,
    ⟨1, some 53, none, .p (.bin .add), [.t 52, .c (.int .i64 1)]⟩,
    ⟨2, some 3, none, .p .mov, [.t 53]⟩]))
   (.skip))))
   (.reg 0 [⟨0, some 33, none, .p .mov, [.t 5]⟩,
    ⟨1, some 34, none, .p (.bin .add), [.t 33, .c (.int .i64 1)]⟩,
    ⟨2, some 5, none, .p .mov, [.t 34]⟩]))
def g430_1 : GL.Code := .seq (.seq (.reg 0 [⟨0, some 10, none, .p .mov, [.t 3]⟩,
    ⟨1, some 11, none, .p .mov, [.t 0]⟩,
    ⟨2, some 12, none, .p .len, [.t 11]⟩,
    ⟨3, some 13, none, .p (.bin .lss), [.t 10, .t 12]⟩])
   (.cond (.t 13) (.skip)
   (.exit 0)))
   (.seq (.block 1 (.seq (.reg 0 [⟨0, some 16, none, .p .mov, [.t 0]⟩,
    ⟨1, some 17, none, .p .mov, [.t 3]⟩,
    ⟨2, some 18, none, .p (.idx 1), [.t 16, .t 17]⟩,
    ⟨3, some 19, none, .r (.load false 1) false, [.t 18]⟩,
    ⟨4, some 20, none, .p .mov, [.t 0]⟩,
    ⟨5, some 21, none, .p .mov, [.t 3]⟩,
    ⟨6, some 22, none, .p (.bin .sub), [.t 21, .c (.int .i64 1)]⟩,
    ⟨7, some 23, none, .p (.idx 1), [.t 20, .t 22]⟩,
    ⟨8, some 24, none, .r (.load false 1) false, [.t 23]⟩,
    ⟨9, some 25, none, .p (.bin .eql), [.t 19, .t 24]⟩])
   (.cond (.t 25) (.seq (.reg 0 [⟨0, some 26, none, .p .mov, [.t 0]⟩,
    ⟨1, some 27, none, .p .mov, [.t 3]⟩,
    ⟨2, some 28, none, .p (.slice 1 true false false), [.t 26, .t 27]⟩,
    ⟨3, some 4, none, .p .mov, [.t 28]⟩])
   (.seq (.seq (.reg 0 [⟨0, some 5, none, .p .mov, [.c (.int .i64 1)]⟩])
   (.block 2 (.loop g430_0)))
   (.seq (.reg 0 [⟨0, some 54, none, .p .mov, [.t 0]⟩,
    ⟨1, some 55, none, .p .mov, [.t 3]⟩,
    ⟨2, some 56, none, .p (.slice 1 true false false), [.t 54, .t 55]⟩,
    ⟨3, none, none, .e (.clear 1 [.int .i64 0]) [] [], [.t 56]⟩])
   (.seq (.reg 0 [⟨0, some 57, none, .p .mov, [.t 0]⟩,
    ⟨1, some 58, none, .p .mov, [.t 3]⟩,
    ⟨2, some 59, none, .p (.slice 1 false true false), [.t 57, .t 58]⟩,
    ⟨3, some 2, none, .p .mov, [.t 59]⟩])
   (.ret)))))
   (.skip))))
   (.reg 0 [⟨0, some 14, none, .p .mov, [.t 3]⟩,
    ⟨1, some 15, none, .p (.bin .add), [.t 14, .c (.int .i64 1)]⟩,
    ⟨2, some 3, none, .p .mov, [.t 15]⟩]))
def g430 : GL.Fn := ⟨.seq (.reg 0 [⟨0, some 2, none, .p .mov, [.c (.nils)]⟩])
   (.seq (.seq (.reg 0 [⟨0, some 6, none, .p .mov, [.t 0]⟩,
    ⟨1, some 7, none, .p .len, [.t 6]⟩,
    ⟨2, some 8, none, .p (.bin .lss), [.t 7, .c (.int .i64 2)]⟩])
   (.cond (.t 8) (.seq (.reg 0 [⟨0, some 9, none, .p .mov, [.t 0]⟩,
    ⟨1, some 2, none, .p .mov, [.t 9]⟩])
   (.ret))
   (.skip)))
   (.seq (.seq (.reg 0 [⟨0, some 3, none, .p .mov, [.c (.int .i64 1)]⟩])
   (.block 0 (.loop g430_1)))
   (.seq (.reg 0 [⟨0, some 60, none, .p .mov, [.t 0]⟩,
    ⟨1, some 2, none, .p .mov, [.t 60]⟩])
   (.ret)))),
  [.tmp 2]⟩
/- loop.example/g00641/spec.l8Held -/
def g408_0 : GL.Code := .seq (.reg 0 [⟨0, some 11, none, .p (.bin .lss), [.t 10, .t 9]⟩])
   (.seq (.cond (.t 11) (.skip)
   (.exit 0))
   (.seq (.block 1 (.seq (.reg 0 [⟨0, some 12, none, .p .mov, [.t 10]⟩,
    ⟨1, some 6, none, .p .mov, [.t 12]⟩])
   (.seq (.reg 0 [⟨0, some 13, none, .p (.faddr 1), [.t 2]⟩,
    ⟨1, some 14, none, .l (.load 2 false 1), [.t 13]⟩,
    ⟨2, some 15, none, .p .mov, [.t 6]⟩,
    ⟨3, some 16, none, .p (.idx 1), [.t 14, .t 15]⟩,
    ⟨4, some 17, none, .r (.load false 1) false, [.t 16]⟩,
    ⟨5, some 18, none, .p .mov, [.t 1]⟩,
    ⟨6, some 19, none, .p (.bin .eql), [.t 17, .t 18]⟩,
    ⟨7, some 20, none, .p .mov, [.t 19]⟩,
    ⟨8, some 21, some (20, false), .p (.faddr 0), [.t 2]⟩,
    ⟨9, some 22, some (20, false), .l (.load 2 false 1), [.t 21]⟩,
    ⟨10, some 23, some (20, false), .p .mov, [.t 6]⟩,
    ⟨11, some 24, some (20, false), .p (.idx 1), [.t 22, .t 23]⟩,
    ⟨12, some 25, some (20, false), .r (.load false 1) false, [.t 24]⟩,
    ⟨13, some 26, some (20, false), .p .mov, [.t 1]⟩,
    ⟨14, some 27, some (20, false), .e .call [] [], [.f 302, .t 25, .t 26]⟩,
    ⟨15, some 28, none, .p .pick, [.t 20, .c (.bool true), .t 27]⟩])
   (.cond (.t 28) (.reg 0 [⟨0, some 29, none, .p .mov, [.t 5]⟩,
    ⟨1, some 30, none, .p .mov, [.t 6]⟩,
    ⟨2, some 31, none, .e (.new (.lit 1)) [] [], [.t 30]⟩,
    ⟨3, some 32, none, .e (.append 1 8) [] [], [.t 29, .t 31]⟩,
    ⟨4, some 5, none, .p .mov, [.t 32]⟩])
   (.skip)))))
   (.reg 0 [⟨0, some 33, none, .p (.bin .add), [.t 10, .c (.int .i64 1)]⟩,
    ⟨1, some 10, none, .p .mov, [.t 33]⟩])))
def g408 : GL.Fn := ⟨.seq (.reg 0 [⟨0, some 2, none, .l (.box 2 3), [.t 0]⟩,
    ⟨1, some 4, none, .p .mov, [.c (.nils)]⟩])
   (.seq (.reg 0 [⟨0, some 5, none, .p .mov, [.c (.nils)]⟩])
   (.seq (.seq (.reg 0 [⟨0, some 7, none, .p (.faddr 1), [.t 2]⟩,
    ⟨1, some 8, none, .l (.load 2 false 1), [.t 7]⟩,
    ⟨2, some 9, none, .p .len, [.t 8]⟩,
    ⟨3, some 10, none, .p .mov, [.c (.int .i64 0)]⟩])
   (.block 0 (.loop g408_0)))
   (.seq (.reg 0 [⟨0, some 34, none, .p .mov, [.t 5]⟩,
    ⟨1, some 4, none, .p .mov, [.t 34]⟩])
   (.ret)))),
  [.tmp 4]⟩
/- loop.example/g00641/spec.l8Drop -/
def g409_0 : GL.Code := .seq (.reg 0 [⟨0, some 11, none, .p (.bin .lss), [.t 10, .t 9]⟩])
   (.seq (.cond (.t 11) (.skip)
   (.exit 0))
   (.seq (.block 1 (.seq (.reg 0 [⟨0, some 12, none, .p (.idx 1), [.t 8, .t 10]⟩,
    ⟨1, some 13, none, .r (.load false 1) false, [.t 12]⟩,
    ⟨2, some 7, none, .p .mov, [.t 13]⟩])
   (.seq (.reg 0 [⟨0, some 14, none, .p .mov, [.t 7]⟩,
    ⟨1, some 15, none, .p .mov, [.t 1]⟩,
    ⟨2, some 16, none, .p (.bin .neq), [.t 14, .t 15]⟩])
   (.cond (.t 16) (.reg 0 [⟨0, some 17, none, .p .mov, [.t 5]⟩,
    ⟨1, some 18, none, .p .mov, [.t 7]⟩,
    ⟨2, some 19, none, .e (.new (.lit 1)) [] [], [.t 18]⟩,
    ⟨3, some 20, none, .e (.append 1 8) [] [], [.t 17, .t 19]⟩,
    ⟨4, some 5, none, .p .mov, [.t 20]⟩])
   (.skip)))))
   (.reg 0 [⟨0, some 21, none, .p (.bin .add), [.t 10, .c (.int .i64 1)]⟩,
    ⟨1, some 10, none, .p .mov, [.t 21]⟩])))
def g409 : GL.Fn := ⟨.seq (.reg 0 [⟨0, some 4, none, .p .mov, [.c (.nils)]⟩])
   (.seq (.reg 0 [⟨0, some 5, none, .p .mov, [.c (.nils)]⟩])
   (.seq (.seq (.reg 0 [⟨0, some 8, none, .p .mov, [.t 0]⟩,
    ⟨1, some 9, none, .p .len, [.t 8]⟩,
    ⟨2, some 10, none, .p .mov, [.c (.int .i64 0)]⟩])
   (.block 0 (.loop g409_0)))
   (.seq (.reg 0 [⟨0, some 22, none, .p .mov, [.t 5]⟩,
    ⟨1, some 4, none, .p .mov, [.t 22]⟩])
   (.ret)))),
  [.tmp 4]⟩
/- (*loop.example/g00641/impl.Locks).end -/
def g411_0 : GL.Code := .seq (.reg 0 [⟨0, some 6, none, .p (.bin .lss), [.t 5, .c (.int .i64 4)]⟩])
   (.seq (.cond (.t 6) (.skip)
   (.exit 0))
   (.seq (.block 1 (.seq (.reg 0 [⟨0, some 7, none, .p .mov, [.t 5]⟩,
    ⟨1, some 4, none, .p .mov, [.t 7]⟩])
   (.seq (.reg 0 [⟨0, some 8, none, .p .mov, [.t 0]⟩,
    ⟨1, some 9, none, .p .nilCheck, [.t 8]⟩,
    ⟨2, some 10, none, .p (.faddr 0), [.t 9]⟩,
    ⟨3, some 11, none, .r (.load false 1) true, [.t 10]⟩,
    ⟨4, some 12, none, .p .mov, [.t 4]⟩,
    ⟨5, some 13, none, .p .mov, [.t 0]⟩,
    ⟨6, some 14, none, .p .nilCheck, [.t 13]⟩,
    ⟨7, some 15, none, .p (.faddr 0), [.t 14]⟩,
    ⟨8, some 16, none, .r (.load false 1) true, [.t 15]⟩,
    ⟨9, some 17, none, .p .mov, [.t 4]⟩,
    ⟨10, some 18, none, .p (.idx 1), [.t 16, .t 17]⟩,
    ⟨11, some 19, none, .r (.load false 1) true, [.t 18]⟩,
    ⟨12, some 20, none, .p .mov, [.t 1]⟩,
    ⟨13, some 21, none, .e (.new (.lit 1)) [3, 8, 11] [], [.t 20]⟩,
    ⟨14, some 22, none, .e .call [3] [], [.f 428, .t 19, .t 21]⟩,
    ⟨15, some 23, none, .p (.idx 1), [.t 11, .t 12]⟩,
    ⟨16, none, none, .e (.store 1) [] [], [.t 23, .t 22]⟩])
   (.seq (.reg 0 [⟨0, some 24, none, .p .mov, [.t 0]⟩,
    ⟨1, some 25, none, .p .nilCheck, [.t 24]⟩,
    ⟨2, some 26, none, .p (.faddr 1), [.t 25]⟩,
    ⟨3, some 27, none, .r (.load false 1) false, [.t 26]⟩,
    ⟨4, some 28, none, .p .mov, [.t 4]⟩,
    ⟨5, some 29, none, .p (.idx 1), [.t 27, .t 28]⟩,
    ⟨6, some 30, none, .r (.load false 1) false, [.t 29]⟩,
    ⟨7, some 31, none, .p .mov, [.t 1]⟩,
    ⟨8, some 32, none, .p (.bin .eql), [.t 30, .t 31]⟩])
   (.cond (.t 32) (.reg 0 [⟨0, some 33, none, .p .mov, [.t 0]⟩,
    ⟨1, some 34, none, .p .nilCheck, [.t 33]⟩,
    ⟨2, some 35, none, .p (.faddr 1), [.t 34]⟩,
    ⟨3, some 36, none, .r (.load false 1) false, [.t 35]⟩,
    ⟨4, some 37, none, .p .mov, [.t 4]⟩,
    ⟨5, some 38, none, .p (.idx 1), [.t 36, .t 37]⟩,
    ⟨6, none, none, .e (.store 1) [] [], [.t 38, .c (.int .i64 (-1))]⟩])
   (.skip))))))
   (.reg 0 [⟨0, some 39, none, .p (.bin .add), [.t 5, .c (.int .i64 1)]⟩,
    ⟨1, some 5, none, .p .mov, [.t 39]⟩])))
def g411 : GL.Fn := ⟨.seq (.seq (.reg 0 [⟨0, some 5, none, .p .mov, [.c (.int .i64 0)]⟩])
   (.block 0 (.loop g411_0)))
   (.reg 0 [⟨0, some 40, none, .p .mov, [.t 0]⟩,
    ⟨1, some 41, none, .p .mov, [.t 0]⟩,
    ⟨2, some 42, none, .p .nilCheck, [.t 41]⟩,
    ⟨3, some 43, none, .p (.faddr 2), [.t 42]⟩,
    ⟨4, some 44, none, .r (.load false 1) false, [.t 43]⟩,
    ⟨5, some 45, none, .p .mov, [.t 1]⟩,
    ⟨6, some 46, none, .e (.new (.lit 1)) [] [], [.t 45]⟩,
    ⟨7, some 47, none, .e (.append 1 8) [] [], [.t 44, .t 46]⟩,
    ⟨8, some 48, none, .p .nilCheck, [.t 40]⟩,
    ⟨9, some 49, none, .p (.faddr 2), [.t 48]⟩,
    ⟨10, none, none, .e (.store 1) [] [], [.t 49, .t 47]⟩]),
  []⟩
/- loop.example/g00641/spec.PlayLocks -/
def g414_0 : GL.Code := .seq (.reg 0 [⟨0, some 21, none, .p (.bin .lss), [.t 20, .t 19]⟩])
   (.seq (.cond (.t 21) (.skip)
   (.exit 0))
   (.seq (.block 1 (.seq (.reg 0 [⟨0, some 22, none, .p (.idx 4), [.t 18, .t 20]⟩,
    ⟨1, some 23, none, .r (.load true 4) false, [.t 22]⟩,
    ⟨2, some 10, none, .l (.alloc 10 [.int .i64 0, .int .i64 0, .bool false, .bool false]), []⟩,
    ⟨3, none, none, .l (.store 10 4), [.t 10, .t 23]⟩])
   (.seq (.reg 0 [⟨0, some 25, none, .l (.load 6 true 3), [.t 6]⟩,
    ⟨1, some 26, none, .e .call [] [], [.f 369, .t 25]⟩,
    ⟨2, some 27, none, .l (.load 10 true 4), [.t 10]⟩,
    ⟨3, some 28, none, .e .call [] [], [.f 370, .t 26, .t 27]⟩,
    ⟨4, some 24, none, .p .mov, [.t 28]⟩,
    ⟨5, some 29, none, .p (.extract 0), [.t 24]⟩,
    ⟨6, some 30, none, .p (.extract 1), [.t 24]⟩,
    ⟨7, some 11, none, .l (.alloc 11 [.nils, .nils, .nils]), []⟩,
    ⟨8, none, none, .l (.store 11 3), [.t 11, .t 29]⟩,
    ⟨9, some 12, none, .p .mov, [.t 30]⟩])
   (.seq (.seq (.reg 0 [⟨0, some 31, none, .p .mov, [.t 12]⟩])
   (.cond (.t 31) (.seq (.reg 0 [⟨0, some 32, none, .l (.load 11 true 3), [.t 11]⟩,
    ⟨1, none, none, .l (.store 6 3), [.t 6, .t 32]⟩])
   (.seq (.reg 0 [⟨0, some 33, none, .p (.faddr 3), [.t 10]⟩,
    ⟨1, some 34, none, .l (.load 10 false 1), [.t 33]⟩,
    ⟨2, some 35, none, .p (.un .not), [.t 34]⟩])
   (.cond (.t 35) (.reg 0 [⟨0, some 36, none, .p .mov, [.t 7]⟩,
    ⟨1, some 37, none, .p (.faddr 0), [.t 10]⟩,
    ⟨2, some 38, none, .l (.load 10 false 1), [.t 37]⟩,
    ⟨3, some 39, none, .p (.faddr 1), [.t 10]⟩,
    ⟨4, some 40, none, .l (.load 10 false 1), [.t 39]⟩,
    ⟨5, some 41, none, .p (.faddr 2), [.t 10]⟩,
    ⟨6, some 42, none, .l (.load 10 false 1), [.t 41]⟩,
    ⟨7, some 43, none, .p (.build [.int .i64 0, .int .i64 0, .bool false] [(0, 1), (1, 1), (2, 1)]), [.t 38, .t 40, .t 42]⟩,
    ⟨8, some 44, none, .e (.new (.lit 3)) [] [], [.t 43]⟩,
    ⟨9, some 45, none, .e (.append 3 24) [] [], [.t 36, .t 44]⟩,
    ⟨10, some 7, none, .p .mov, [.t 45]⟩])
   (.skip))))
   (.skip)))
   (.reg 0 [⟨0, some 46, none, .p .mov, [.t 8]⟩,
    ⟨1, some 47, none, .p .mov, [.t 12]⟩,
    ⟨2, some 48, none, .e (.new (.lit 1)) [] [], [.t 47]⟩,
    ⟨3, some 49, none, .e (.append 1 1) [] [], [.t 46, .t 48]⟩,
    ⟨4, some 8, none, .p .mov, [.t 49]⟩])))))
   (.reg 0 [⟨0, some 50, none, .p (.bin .add), [.t 20, .c (.int .i64 1)]⟩,
    ⟨1, some 20, none, .p .mov, [.t 50]⟩])))
def g414 : GL.Fn := ⟨.seq (.reg 0 [⟨0, some 2, none, .l (.alloc 2 [.nils, .nils, .nils]), []⟩,
    ⟨1, some 3, none, .p .mov, [.c (.nils)]⟩,
    ⟨2, some 4, none, .p .mov, [.c (.nils)]⟩,
    ⟨3, some 5, none, .p .mov, [.c (.bool false)]⟩])
   (.seq (.seq (.reg 0 [⟨0, some 13, none, .p .mov, [.t 0]⟩,
    ⟨1, some 14, none, .p .len, [.t 13]⟩,
    ⟨2, some 15, none, .p (.bin .gtr), [.t 14, .c (.int .i64 40)]⟩])
   (.cond (.t 15) (.seq (.reg 0 [⟨0, some 16, none, .p (.build [.nils, .nils, .nils] []), []⟩,
    ⟨1, none, none, .l (.store 2 3), [.t 2, .t 16]⟩,
    ⟨2, some 3, none, .p .mov, [.c (.nils)]⟩,
    ⟨3, some 4, none, .p .mov, [.c (.nils)]⟩,
    ⟨4, some 5, none, .p .mov, [.c (.bool false)]⟩])
   (.ret))
   (.skip)))
   (.seq (.reg 0 [⟨0, some 17, none, .e .call [] [], [.f 415]⟩,
    ⟨1, some 6, none, .l (.alloc 6 [.nils, .nils, .nils]), []⟩,
    ⟨2, none, none, .l (.store 6 3), [.t 6, .t 17]⟩])
   (.seq (.reg 0 [⟨0, some 7, none, .p .mov, [.c (.nils)]⟩])
   (.seq (.reg 0 [⟨0, some 8, none, .p .mov, [.c (.nils)]⟩])
   (.seq (.seq (.reg 0 [⟨0, some 18, none, .p .mov, [.t 0]⟩,
    ⟨1, some 19, none, .p .len, [.t 18]⟩,
    ⟨2, some 20, none, .p .mov, [.c (.int .i64 0)]⟩])
   (.block 0 (.loop g414_0)))
   (.seq (.seq (.reg 0 [⟨0, some 51, none, .p .mov, [.t 7]⟩,
    ⟨1, some 52, none, .p .len, [.t 51]⟩,
    ⟨2, some 53, none, .p (.bin .gtr), [.t 52, .c (.int .i64 16)]⟩])
   (.cond (.t 53) (.seq (.reg 0 [⟨0, some 54, none, .p (.build [.nils, .nils, .nils] []), []⟩,
    ⟨1, none, none, .l (.store 2 3), [.t 2, .t 54]⟩,
    ⟨2, some 3, none, .p .mov, [.c (.nils)]⟩,
    ⟨3, some 4, none, .p .mov, [.c (.nils)]⟩,
    ⟨4, some 5, none, .p .mov, [.c (.bool false)]⟩])
   (.ret))
   (.skip)))
   (.seq (.reg 0 [⟨0, some 55, none, .l (.load 6 true 3), [.t 6]⟩,
    ⟨1, some 56, none, .e .call [] [], [.f 369, .t 55]⟩,
    ⟨2, some 57, none, .p .mov, [.t 7]⟩,
    ⟨3, some 58, none, .p .mov, [.t 8]⟩,
    ⟨4, none, none, .l (.store 2 3), [.t 2, .t 56]⟩,
    ⟨5, some 3, none, .p .mov, [.t 57]⟩,
    ⟨6, some 4, none, .p .mov, [.t 58]⟩,
    ⟨7, some 5, none, .p .mov, [.c (.bool true)]⟩])
   (.ret)))))))),
  [.cellL 2 2 true 3, .tmp 3, .tmp 4, .tmp 5]⟩
/- (*loop.example/g00641/spec.l1Cur).asks -/
def g413_0 : GL.Code := .seq (.seq (.reg 0 [⟨0, some 13, none, .p .mov, [.t 4]⟩,
    ⟨1, some 14, none, .p (.bin .gtr), [.t 13, .c (.int .i64 0)]⟩])
   (.cond (.t 14) (.skip)
   (.exit 0)))
   (.seq (.block 1 (.seq (.reg 0 [⟨0, some 17, none, .p .mov, [.t 0]⟩,
    ⟨1, some 18, none, .e .call [] [], [.f 91, .t 17, .c (.int .i64 4)]⟩,
    ⟨2, some 19, none, .p .mov, [.t 0]⟩,
    ⟨3, some 20, none, .e .call [] [], [.f 91, .t 19, .c (.int .i64 3)]⟩,
    ⟨4, some 21, none, .p .mov, [.t 0]⟩,
    ⟨5, some 22, none, .e .call [] [], [.f 92, .t 21, .c (.int .i64 2)]⟩,
    ⟨6, some 23, none, .p (.build [.int .i64 0, .int .i64 0, .bool false, .bool false] [(0, 1), (1, 1), (2, 1)]), [.t 18, .t 20, .t 22]⟩,
    ⟨7, some 5, none, .l (.alloc 5 [.int .i64 0, .int .i64 0, .bool false, .bool false]), []⟩,
    ⟨8, none, none, .l (.store 5 4), [.t 5, .t 23]⟩])
   (.seq (.seq (.reg 0 [⟨0, some 24, none, .p .mov, [.t 0]⟩,
    ⟨1, some 25, none, .e .call [] [], [.f 92, .t 24, .c (.int .i64 5)]⟩])
   (.cond (.t 25) (.reg 0 [⟨0, some 26, none, .p .mov, [.t 0]⟩,
    ⟨1, some 27, none, .e .call [] [], [.f 91, .t 26, .c (.int .i64 4)]⟩,
    ⟨2, some 28, none, .p (.build [.int .i64 0, .int .i64 0, .bool false, .bool false] [(0, 1), (3, 1)]), [.t 27, .c (.bool true)]⟩,
    ⟨3, none, none, .l (.store 5 4), [.t 5, .t 28]⟩])
   (.skip)))
   (.seq (.seq (.reg 0 [⟨0, some 29, none, .p .mov, [.t 0]⟩,
    ⟨1, some 30, none, .e .call [] [], [.f 92, .t 29, .c (.int .i64 40)]⟩])
   (.cond (.t 30) (.reg 0 [⟨0, some 31, none, .p .mov, [.t 0]⟩,
    ⟨1, some 32, none, .e .call [] [], [.f 91, .t 31, .c (.int .i64 6)]⟩,
    ⟨2, some 33, none, .p (.bin .sub), [.t 32, .c (.int .i64 1)]⟩,
    ⟨3, some 34, none, .p .mov, [.t 0]⟩,
    ⟨4, some 35, none, .e .call [] [], [.f 91, .t 34, .c (.int .i64 6)]⟩,
    ⟨5, some 36, none, .p (.bin .sub), [.t 35, .c (.int .i64 1)]⟩,
    ⟨6, some 37, none, .p .mov, [.t 0]⟩,
    ⟨7, some 38, none, .e .call [] [], [.f 92, .t 37, .c (.int .i64 2)]⟩,
    ⟨8, some 39, none, .p (.build [.int .i64 0, .int .i64 0, .bool false, .bool false] [(0, 1), (1, 1), (3, 1)]), [.t 33, .t 36, .t 38]⟩,
    ⟨9, none, none, .l (.store 5 4), [.t 5, .t 39]⟩])
   (.skip)))
   (.reg 0 [⟨0, some 40, none, .p .mov, [.t 3]⟩,
    ⟨1, some 41, none, .l (.load 5 true 4), [.t 5]⟩,
    ⟨2, some 42, none, .e (.new (.lit 4)) [] [], [.t 41]⟩,
    ⟨3, some 43, none, .e (.append 4 24) [] [], [.t 40, .t 42]⟩,
    ⟨4, some 3, none, .p .mov, [.t 43]⟩])))))
   (.reg 0 [⟨0, some 15, none, .p .mov, [.t 4]⟩,
    ⟨1, some 16, none, .p (.bin .sub), [.t 15, .c (.int .i64 1)]⟩,
    ⟨2, some 4, none, .p .mov, [.t 16]⟩]))
def g413 : GL.Fn := ⟨.seq (.reg 0 [⟨0, some 2, none, .p .mov, [.c (.nils)]⟩])
   (.seq (.reg 0 [⟨0, some 3, none, .p .mov, [.c (.nils)]⟩])
   (.seq (.reg 0 [⟨0, some 6, none, .p .mov, [.t 0]⟩,
    ⟨1, some 7, none, .e .call [] [], [.f 91, .t 6, .c (.int .i64 20)]⟩,
    ⟨2, some 4, none, .p .mov, [.t 7]⟩])
   (.seq (.seq (.reg 0 [⟨0, some 8, none, .p .mov, [.t 0]⟩,
    ⟨1, some 9, none, .e .call [] [], [.f 92, .t 8, .c (.int .i64 20)]⟩])
   (.cond (.t 9) (.reg 0 [⟨0, some 10, none, .p .mov, [.t 0]⟩,
    ⟨1, some 11, none, .e .call [] [], [.f 91, .t 10, .c (.int .i64 2)]⟩,
    ⟨2, some 12, none, .p (.bin .add), [.c (.int .i64 40), .t 11]⟩,
    ⟨3, some 4, none, .p .mov, [.t 12]⟩])
   (.skip)))
   (.seq (.block 0 (.loop g413_0))
   (.seq (.reg 0 [⟨0, some 44, none, .p .mov, [.t 3]⟩,
    ⟨1, some 2, none, .p .mov, [.t 44]⟩])
   (.ret)))))),
  [.tmp 2]⟩
/- loop.example/g00641/spec.NewLocks -/
def g415 : GL.Fn := ⟨.seq (.reg 0 [⟨0, some 0, none, .l (.alloc 0 [.nils, .nils, .nils]), []⟩])
   (.seq (.reg 0 [⟨0, some 1, none, .e (.new (.make 1 24 [.nils])) [] [], [.c (.int .i64 4), .c (.int .i64 4)]⟩,
    ⟨1, some 2, none, .e (.new (.lit 1)) [] [], [.c (.int .i64 (-1)), .c (.int .i64 (-1)), .c (.int .i64 (-1)), .c (.int .i64 (-1))]⟩,
    ⟨2, some 3, none, .p (.build [.nils, .nils, .nils] [(0, 1), (1, 1)]), [.t 1, .t 2]⟩,
    ⟨3, none, none, .l (.store 0 3), [.t 0, .t 3]⟩])
   (.ret)),
  [.cellL 0 0 true 3]⟩
/- loop.example/g00641/impl.both$1 -/
def g396 : GL.Fn := ⟨.seq (.reg 0 [⟨0, some 3, none, .p .mov, [.c (.bool false)]⟩])
   (.seq (.reg 0 [⟨0, some 4, none, .r (.load false 1) false, [.t 1]⟩,
    ⟨1, some 5, none, .p .mov, [.t 0]⟩,
    ⟨2, some 6, none, .e .call [] [], [.f 301, .t 4, .t 5]⟩,
    ⟨3, some 7, none, .p (.un .not), [.t 6]⟩,
    ⟨4, some 3, none, .p .mov, [.t 7]⟩])
   (.ret)),
  [.tmp 3]⟩
/- loop.example/g00641/impl.without -/
def g428 : GL.Fn := ⟨.seq (.reg 0 [⟨0, some 3, none, .e (.new (.box 1)) [] [], [.t 1]⟩,
    ⟨1, some 4, none, .p .mov, [.c (.nils)]⟩])
   (.seq (.reg 0 [⟨0, some 5, none, .p .mov, [.t 0]⟩,
    ⟨1, some 6, none, .e .call [] [], [.f 389, .t 5]⟩,
    ⟨2, some 7, none, .p (.mkFn 435), [.t 3]⟩,
    ⟨3, some 8, none, .e .call [] [], [.f 397, .t 6, .t 7]⟩,
    ⟨4, some 4, none, .p .mov, [.t 8]⟩])
   (.ret)),
  [.tmp 4]⟩
/- slices.Grow[[]int,int] -/
def g436 : GL.Fn := ⟨.seq (.reg 0 [⟨0, some 4, none, .p .mov, [.c (.nils)]⟩])
   (.seq (.seq (.reg 0 [⟨0, some 5, none, .p .mov, [.t 1]⟩,
    ⟨1, some 6, none, .p (.bin .lss), [.t 5, .c (.int .i64 0)]⟩])
   (.cond (.t 6) (.reg 0 [⟨0, some 7, none, .p .bad, []⟩,
    ⟨1, none, none, .p .bad, []⟩])
   (.skip)))
   (.seq (.seq (.reg 0 [⟨0, some 8, none, .p .mov, [.t 1]⟩,
    ⟨1, some 9, none, .p .mov, [.t 0]⟩,
    ⟨2, some 10, none, .p .cap, [.t 9]⟩,
    ⟨3, some 11, none, .p .mov, [.t 0]⟩,
    ⟨4, some 12, none, .p .len, [.t 11]⟩,
    ⟨5, some 13, none, .p (.bin .sub), [.t 10, .t 12]⟩,
    ⟨6, some 14, none, .p (.bin .sub), [.t 8, .t 13]⟩,
    ⟨7, some 1, none, .p .mov, [.t 14]⟩])
   (.seq (.reg 0 [⟨0, some 15, none, .p .mov, [.t 1]⟩,
    ⟨1, some 16, none, .p (.bin .gtr), [.t 15, .c (.int .i64 0)]⟩])
   (.cond (.t 16) (.reg 0 [⟨0, some 17, none, .p .mov, [.t 0]⟩,
    ⟨1, some 18, none, .p .mov, [.t 0]⟩,
    ⟨2, some 19, none, .p .cap, [.t 18]⟩,
    ⟨3, some 20, none, .p (.slice 1 false true false), [.t 17, .t 19]⟩,
    ⟨4, some 21, none, .p .mov, [.t 1]⟩,
    ⟨5, some 22, none, .e (.appendZ 1 8 [.int .i64 0]) [] [], [.t 20, .t 21]⟩,
    ⟨6, some 23, none, .p .mov, [.t 0]⟩,
    ⟨7, some 24, none, .p .len, [.t 23]⟩,
    ⟨8, some 25, none, .p (.slice 1 false true false), [.t 22, .t 24]⟩,
    ⟨9, some 0, none, .p .mov, [.t 25]⟩])
   (.skip))))
   (.seq (.reg 0 [⟨0, some 26, none, .p .mov, [.t 0]⟩,
    ⟨1, some 4, none, .p .mov, [.t 26]⟩])
   (.ret)))),
  [.tmp 4]⟩
/- loop.example/g00641/impl.without$1 -/
def g435 : GL.Fn := ⟨.seq (.reg 0 [⟨0, some 3, none, .p .mov, [.c (.bool false)]⟩])
   (.seq (.reg 0 [⟨0, some 4, none, .r (.load false 1) false, [.t 1]⟩,
    ⟨1, some 5, none, .p .mov, [.t 0]⟩,
    ⟨2, some 6, none, .e .call [] [], [.f 301, .t 4, .t 5]⟩,
    ⟨3, some 3, none, .p .mov, [.t 6]⟩])
   (.ret)),
  [.tmp 3]⟩
end GL
