import Derived.Test.YtkmggfhfefaehaaGlA
/- GL code of functions. -/
set_option linter.unusedSimpArgs false
set_option linter.unusedVariables false
set_option linter.unnecessarySimpa false
namespace GL
open Go
/- loop.example/g00641/laws.FnClosed -/
def g635_0 : GL.Code := .seq (.reg 0 [⟨0, some 113, none, .p (.bin .lss), [.t 112, .t 111]⟩])
   (.seq (.cond (.t 113) (.skip)
   (.exit 0))
   (.seq (.block 1 (.seq (.reg 0 [⟨0, some 114, none, .p (.idx 2), [.t 110, .t 112]⟩,
    ⟨1, some 115, none, .r (.load true 2) false, [.t 114]⟩,
    ⟨2, some 19, none, .l (.alloc 19 [.nils, .nils]), []⟩,
    ⟨3, none, none, .l (.store 19 2), [.t 19, .t 115]⟩])
   (.seq (.reg 0 [⟨0, some 117, none, .l (.load 12 true 2), [.t 12]⟩,
    ⟨1, some 118, none, .l (.load 19 true 2), [.t 19]⟩,
    ⟨2, some 119, none, .e .call [] [], [.f 620, .t 117, .t 118]⟩,
    ⟨3, some 116, none, .p .mov, [.t 119]⟩,
    ⟨4, some 120, none, .p (.extract 0), [.t 116]⟩,
    ⟨5, some 121, none, .p (.extract 1), [.t 116]⟩,
    ⟨6, some 20, none, .p .mov, [.t 120]⟩,
    ⟨7, some 21, none, .p .mov, [.t 121]⟩])
   (.seq (.reg 0 [⟨0, some 122, none, .p .mov, [.t 21]⟩,
    ⟨1, some 123, none, .p (.un .not), [.t 122]⟩,
    ⟨2, some 124, none, .p .mov, [.t 123]⟩,
    ⟨3, some 125, some (124, false), .p .mov, [.t 20]⟩,
    ⟨4, some 126, some (124, false), .p (.un .not), [.t 125]⟩,
    ⟨5, some 127, none, .p .pick, [.t 124, .c (.bool true), .t 126]⟩])
   (.cond (.t 127) (.seq (.reg 0 [⟨0, some 4, none, .p .mov, [.c (.bool false)]⟩])
   (.ret))
   (.skip))))))
   (.reg 0 [⟨0, some 128, none, .p (.bin .add), [.t 112, .c (.int .i64 1)]⟩,
    ⟨1, some 112, none, .p .mov, [.t 128]⟩])))
def g635 : GL.Fn := ⟨.seq (.reg 0 [⟨0, some 4, none, .p .mov, [.c (.bool false)]⟩])
   (.seq (.seq (.reg 0 [⟨0, some 31, none, .p .mov, [.t 0]⟩,
    ⟨1, some 32, none, .p .len, [.t 31]⟩,
    ⟨2, some 33, none, .p .mov, [.t 1]⟩,
    ⟨3, some 34, none, .p .len, [.t 33]⟩,
    ⟨4, some 35, none, .p (.bin .add), [.t 32, .t 34]⟩,
    ⟨5, some 36, none, .p (.bin .gtr), [.t 35, .c (.int .i64 1048576)]⟩])
   (.cond (.t 36) (.seq (.reg 0 [⟨0, some 4, none, .p .mov, [.c (.bool true)]⟩])
   (.ret))
   (.skip)))
   (.seq (.reg 0 [⟨0, some 38, none, .p .mov, [.t 0]⟩,
    ⟨1, some 39, none, .e .call [] [], [.f 636, .t 38]⟩,
    ⟨2, some 37, none, .p .mov, [.t 39]⟩,
    ⟨3, some 40, none, .p (.extract 0), [.t 37]⟩,
    ⟨4, some 41, none, .p (.extract 1), [.t 37]⟩,
    ⟨5, some 42, none, .p (.extract 2), [.t 37]⟩,
    ⟨6, some 7, none, .l (.alloc 7 [.nils, .nils]), []⟩,
    ⟨7, some 5, none, .p .mov, [.t 40]⟩,
    ⟨8, some 6, none, .p .mov, [.t 41]⟩,
    ⟨9, none, none, .l (.store 7 2), [.t 7, .t 42]⟩])
   (.seq (.reg 0 [⟨0, some 44, none, .p .mov, [.t 5]⟩,
    ⟨1, some 45, none, .p .mov, [.t 6]⟩,
    ⟨2, some 46, none, .l (.load 7 true 2), [.t 7]⟩,
    ⟨3, some 47, none, .e .call [] [], [.f 618, .t 44, .t 45, .t 46]⟩,
    ⟨4, some 43, none, .p .mov, [.t 47]⟩,
    ⟨5, some 48, none, .p (.extract 0), [.t 43]⟩,
    ⟨6, some 49, none, .p (.extract 1), [.t 43]⟩,
    ⟨7, some 8, none, .p .mov, [.t 48]⟩,
    ⟨8, some 9, none, .p .mov, [.t 49]⟩])
   (.seq (.reg 0 [⟨0, some 51, none, .p .mov, [.t 5]⟩,
    ⟨1, some 52, none, .p .mov, [.t 6]⟩,
    ⟨2, some 53, none, .l (.load 7 true 2), [.t 7]⟩,
    ⟨3, some 54, none, .e .call [] [], [.f 637, .t 51, .t 52, .t 53]⟩,
    ⟨4, some 50, none, .p .mov, [.t 54]⟩,
    ⟨5, some 55, none, .p (.extract 0), [.t 50]⟩,
    ⟨6, some 56, none, .p (.extract 1), [.t 50]⟩,
    ⟨7, some 10, none, .p .mov, [.t 55]⟩,
    ⟨8, some 11, none, .p .mov, [.t 56]⟩])
   (.seq (.reg 0 [⟨0, some 58, none, .p .mov, [.t 5]⟩,
    ⟨1, some 59, none, .p .mov, [.t 6]⟩,
    ⟨2, some 60, none, .l (.load 7 true 2), [.t 7]⟩,
    ⟨3, some 61, none, .e .call [] [], [.f 638, .t 58, .t 59, .t 60]⟩,
    ⟨4, some 57, none, .p .mov, [.t 61]⟩,
    ⟨5, some 62, none, .p (.extract 0), [.t 57]⟩,
    ⟨6, some 63, none, .p (.extract 1), [.t 57]⟩,
    ⟨7, some 12, none, .l (.alloc 12 [.nils, .nils]), []⟩,
    ⟨8, none, none, .l (.store 12 2), [.t 12, .t 62]⟩,
    ⟨9, some 13, none, .p .mov, [.t 63]⟩])
   (.seq (.reg 0 [⟨0, some 65, none, .p .mov, [.t 5]⟩,
    ⟨1, some 66, none, .p .mov, [.t 6]⟩,
    ⟨2, some 67, none, .l (.load 7 true 2), [.t 7]⟩,
    ⟨3, some 68, none, .e .call [] [], [.f 639, .t 65, .t 66, .t 67]⟩,
    ⟨4, some 64, none, .p .mov, [.t 68]⟩,
    ⟨5, some 69, none, .p (.extract 0), [.t 64]⟩,
    ⟨6, some 70, none, .p (.extract 1), [.t 64]⟩,
    ⟨7, some 14, none, .l (.alloc 14 [.nils, .nils]), []⟩,
    ⟨8, none, none, .l (.store 14 2), [.t 14, .t 69]⟩,
    ⟨9, some 15, none, .p .mov, [.t 70]⟩])
   (.seq (.seq (.reg 0 [⟨0, some 71, none, .p .mov, [.t 9]⟩,
    ⟨1, some 72, none, .p .mov, [.t 11]⟩,
    ⟨2, some 73, none, .p (.eqB true), [.t 71, .t 72]⟩,
    ⟨3, some 74, none, .p .mov, [.t 73]⟩,
    ⟨4, some 75, some (74, false), .p .mov, [.t 8]⟩,
    ⟨5, some 76, some (74, false), .p .mov, [.t 10]⟩,
    ⟨6, some 77, some (74, false), .p (.eqB true), [.t 75, .t 76]⟩,
    ⟨7, some 78, none, .p .pick, [.t 74, .c (.bool true), .t 77]⟩,
    ⟨8, some 79, none, .p .mov, [.t 78]⟩,
    ⟨9, some 80, some (79, false), .p .mov, [.t 13]⟩,
    ⟨10, some 81, some (79, false), .p .mov, [.t 15]⟩,
    ⟨11, some 82, some (79, false), .p (.eqB true), [.t 80, .t 81]⟩,
    ⟨12, some 83, none, .p .pick, [.t 79, .c (.bool true), .t 82]⟩,
    ⟨13, some 84, none, .p .mov, [.t 83]⟩,
    ⟨14, some 85, some (84, false), .l (.load 12 true 2), [.t 12]⟩,
    ⟨15, some 86, some (84, false), .l (.load 14 true 2), [.t 14]⟩,
    ⟨16, some 87, some (84, false), .e .call [] [], [.f 640, .t 85, .t 86]⟩,
    ⟨17, some 88, some (84, false), .p (.un .not), [.t 87]⟩,
    ⟨18, some 89, none, .p .pick, [.t 84, .c (.bool true), .t 88]⟩,
    ⟨19, some 90, none, .p .mov, [.t 89]⟩,
    ⟨20, some 91, some (90, false), .p .mov, [.t 9]⟩,
    ⟨21, some 92, some (90, false), .p .mov, [.t 91]⟩,
    ⟨22, some 93, some (92, true), .p .mov, [.t 13]⟩,
    ⟨23, some 94, some (92, true), .p .mov, [.t 8]⟩,
    ⟨24, some 95, some (92, true), .p (.eqB false), [.t 93, .t 94]⟩,
    ⟨25, some 96, some (90, false), .p .pick, [.t 92, .t 95, .c (.bool false)]⟩,
    ⟨26, some 97, none, .p .pick, [.t 90, .c (.bool true), .t 96]⟩])
   (.cond (.t 97) (.seq (.reg 0 [⟨0, some 4, none, .p .mov, [.c (.bool false)]⟩])
   (.ret))
   (.skip)))
   (.seq (.seq (.reg 0 [⟨0, some 98, none, .p .mov, [.t 13]⟩])
   (.cond (.t 98) (.seq (.reg 0 [⟨0, some 100, none, .l (.load 12 true 2), [.t 12]⟩,
    ⟨1, some 101, none, .l (.load 7 true 2), [.t 7]⟩,
    ⟨2, some 102, none, .e .call [] [], [.f 620, .t 100, .t 101]⟩,
    ⟨3, some 99, none, .p .mov, [.t 102]⟩,
    ⟨4, some 103, none, .p (.extract 0), [.t 99]⟩,
    ⟨5, some 104, none, .p (.extract 1), [.t 99]⟩,
    ⟨6, some 16, none, .p .mov, [.t 103]⟩,
    ⟨7, some 17, none, .p .mov, [.t 104]⟩])
   (.seq (.seq (.reg 0 [⟨0, some 105, none, .p .mov, [.t 17]⟩,
    ⟨1, some 106, none, .p (.un .not), [.t 105]⟩,
    ⟨2, some 107, none, .p .mov, [.t 106]⟩,
    ⟨3, some 108, some (107, false), .p .mov, [.t 16]⟩,
    ⟨4, some 109, none, .p .pick, [.t 107, .c (.bool true), .t 108]⟩])
   (.cond (.t 109) (.seq (.reg 0 [⟨0, some 4, none, .p .mov, [.c (.bool false)]⟩])
   (.ret))
   (.skip)))
   (.seq (.reg 0 [⟨0, some 110, none, .p .mov, [.t 6]⟩,
    ⟨1, some 111, none, .p .len, [.t 110]⟩,
    ⟨2, some 112, none, .p .mov, [.c (.int .i64 0)]⟩])
   (.block 0 (.loop g635_0)))))
   (.skip)))
   (.seq (.reg 0 [⟨0, some 130, none, .p .mov, [.t 1]⟩,
    ⟨1, some 131, none, .e .call [] [], [.f 641, .t 130]⟩,
    ⟨2, some 129, none, .p .mov, [.t 131]⟩,
    ⟨3, some 132, none, .p (.extract 0), [.t 129]⟩,
    ⟨4, some 133, none, .p (.extract 1), [.t 129]⟩,
    ⟨5, some 134, none, .p (.extract 2), [.t 129]⟩,
    ⟨6, some 22, none, .p .mov, [.t 132]⟩,
    ⟨7, some 23, none, .p .mov, [.t 133]⟩,
    ⟨8, some 24, none, .p .mov, [.t 134]⟩])
   (.seq (.reg 0 [⟨0, some 136, none, .p .mov, [.t 22]⟩,
    ⟨1, some 137, none, .p .mov, [.t 23]⟩,
    ⟨2, some 138, none, .p .mov, [.t 24]⟩,
    ⟨3, some 139, none, .e .call [] [], [.f 617, .t 136, .t 137, .t 138]⟩,
    ⟨4, some 135, none, .p .mov, [.t 139]⟩,
    ⟨5, some 140, none, .p (.extract 0), [.t 135]⟩,
    ⟨6, some 141, none, .p (.extract 1), [.t 135]⟩,
    ⟨7, some 25, none, .p .mov, [.t 140]⟩,
    ⟨8, some 26, none, .p .mov, [.t 141]⟩])
   (.seq (.reg 0 [⟨0, some 143, none, .p .mov, [.t 22]⟩,
    ⟨1, some 144, none, .p .mov, [.t 23]⟩,
    ⟨2, some 145, none, .p .mov, [.t 24]⟩,
    ⟨3, some 146, none, .e .call [] [], [.f 642, .t 143, .t 144, .t 145]⟩,
    ⟨4, some 142, none, .p .mov, [.t 146]⟩,
    ⟨5, some 147, none, .p (.extract 0), [.t 142]⟩,
    ⟨6, some 148, none, .p (.extract 1), [.t 142]⟩,
    ⟨7, some 27, none, .p .mov, [.t 147]⟩,
    ⟨8, some 28, none, .p .mov, [.t 148]⟩])
   (.seq (.seq (.reg 0 [⟨0, some 149, none, .p .mov, [.t 26]⟩,
    ⟨1, some 150, none, .p .mov, [.t 28]⟩,
    ⟨2, some 151, none, .p (.eqB true), [.t 149, .t 150]⟩,
    ⟨3, some 152, none, .p .mov, [.t 151]⟩,
    ⟨4, some 153, some (152, false), .p .mov, [.t 25]⟩,
    ⟨5, some 154, some (152, false), .p .mov, [.t 27]⟩,
    ⟨6, some 155, some (152, false), .e .call [] [], [.f 24, .t 153, .t 154]⟩,
    ⟨7, some 156, some (152, false), .p (.un .not), [.t 155]⟩,
    ⟨8, some 157, none, .p .pick, [.t 152, .c (.bool true), .t 156]⟩])
   (.cond (.t 157) (.seq (.reg 0 [⟨0, some 4, none, .p .mov, [.c (.bool false)]⟩])
   (.ret))
   (.skip)))
   (.seq (.seq (.reg 0 [⟨0, some 158, none, .p .mov, [.t 26]⟩])
   (.cond (.t 158) (.seq (.reg 0 [⟨0, some 160, none, .p .mov, [.t 22]⟩,
    ⟨1, some 161, none, .p .mov, [.t 23]⟩,
    ⟨2, some 162, none, .p .mov, [.t 25]⟩,
    ⟨3, some 163, none, .e .call [] [], [.f 617, .t 160, .t 161, .t 162]⟩,
    ⟨4, some 159, none, .p .mov, [.t 163]⟩,
    ⟨5, some 164, none, .p (.extract 0), [.t 159]⟩,
    ⟨6, some 165, none, .p (.extract 1), [.t 159]⟩,
    ⟨7, some 29, none, .p .mov, [.t 164]⟩,
    ⟨8, some 30, none, .p .mov, [.t 165]⟩])
   (.seq (.reg 0 [⟨0, some 166, none, .p .mov, [.t 30]⟩,
    ⟨1, some 167, none, .p .mov, [.t 166]⟩,
    ⟨2, some 168, some (167, true), .p .mov, [.t 29]⟩,
    ⟨3, some 169, some (167, true), .p .mov, [.t 25]⟩,
    ⟨4, some 170, some (167, true), .e .call [] [], [.f 24, .t 168, .t 169]⟩,
    ⟨5, some 171, none, .p .pick, [.t 167, .t 170, .c (.bool false)]⟩,
    ⟨6, some 4, none, .p .mov, [.t 171]⟩])
   (.ret)))
   (.skip)))
   (.seq (.reg 0 [⟨0, some 4, none, .p .mov, [.c (.bool true)]⟩])
   (.ret))))))))))))))),
  [.tmp 4]⟩
/- loop.example/g00641/laws.sameRows -/
def g383_0 : GL.Code := .seq (.reg 0 [⟨0, some 14, none, .p (.bin .lss), [.t 13, .t 12]⟩])
   (.seq (.cond (.t 14) (.skip)
   (.exit 0))
   (.seq (.block 1 (.seq (.reg 0 [⟨0, some 15, none, .p .mov, [.t 13]⟩,
    ⟨1, some 5, none, .p .mov, [.t 15]⟩])
   (.seq (.reg 0 [⟨0, some 16, none, .p .mov, [.t 0]⟩,
    ⟨1, some 17, none, .p .mov, [.t 5]⟩,
    ⟨2, some 18, none, .p (.idx 1), [.t 16, .t 17]⟩,
    ⟨3, some 19, none, .r (.load false 1) false, [.t 18]⟩,
    ⟨4, some 20, none, .p .mov, [.t 1]⟩,
    ⟨5, some 21, none, .p .mov, [.t 5]⟩,
    ⟨6, some 22, none, .p (.idx 1), [.t 20, .t 21]⟩,
    ⟨7, some 23, none, .r (.load false 1) false, [.t 22]⟩,
    ⟨8, some 24, none, .e .call [] [], [.f 24, .t 19, .t 23]⟩,
    ⟨9, some 25, none, .p (.un .not), [.t 24]⟩])
   (.cond (.t 25) (.seq (.reg 0 [⟨0, some 4, none, .p .mov, [.c (.bool false)]⟩])
   (.ret))
   (.skip)))))
   (.reg 0 [⟨0, some 26, none, .p (.bin .add), [.t 13, .c (.int .i64 1)]⟩,
    ⟨1, some 13, none, .p .mov, [.t 26]⟩])))
def g383 : GL.Fn := ⟨.seq (.reg 0 [⟨0, some 4, none, .p .mov, [.c (.bool false)]⟩])
   (.seq (.seq (.reg 0 [⟨0, some 6, none, .p .mov, [.t 0]⟩,
    ⟨1, some 7, none, .p .len, [.t 6]⟩,
    ⟨2, some 8, none, .p .mov, [.t 1]⟩,
    ⟨3, some 9, none, .p .len, [.t 8]⟩,
    ⟨4, some 10, none, .p (.bin .neq), [.t 7, .t 9]⟩])
   (.cond (.t 10) (.seq (.reg 0 [⟨0, some 4, none, .p .mov, [.c (.bool false)]⟩])
   (.ret))
   (.skip)))
   (.seq (.seq (.reg 0 [⟨0, some 11, none, .p .mov, [.t 0]⟩,
    ⟨1, some 12, none, .p .len, [.t 11]⟩,
    ⟨2, some 13, none, .p .mov, [.c (.int .i64 0)]⟩])
   (.block 0 (.loop g383_0)))
   (.seq (.reg 0 [⟨0, some 4, none, .p .mov, [.c (.bool true)]⟩])
   (.ret)))),
  [.tmp 4]⟩
/- loop.example/g00641/laws.sameInts -/
def g24_0 : GL.Code := .seq (.reg 0 [⟨0, some 14, none, .p (.bin .lss), [.t 13, .t 12]⟩])
   (.seq (.cond (.t 14) (.skip)
   (.exit 0))
   (.seq (.block 1 (.seq (.reg 0 [⟨0, some 15, none, .p .mov, [.t 13]⟩,
    ⟨1, some 5, none, .p .mov, [.t 15]⟩])
   (.seq (.reg 0 [⟨0, some 16, none, .p .mov, [.t 0]⟩,
    ⟨1, some 17, none, .p .mov, [.t 5]⟩,
    ⟨2, some 18, none, .p (.idx 1), [.t 16, .t 17]⟩,
    ⟨3, some 19, none, .r (.load false 1) false, [.t 18]⟩,
    ⟨4, some 20, none, .p .mov, [.t 1]⟩,
    ⟨5, some 21, none, .p .mov, [.t 5]⟩,
    ⟨6, some 22, none, .p (.idx 1), [.t 20, .t 21]⟩,
    ⟨7, some 23, none, .r (.load false 1) false, [.t 22]⟩,
    ⟨8, some 24, none, .p (.bin .neq), [.t 19, .t 23]⟩])
   (.cond (.t 24) (.seq (.reg 0 [⟨0, some 4, none, .p .mov, [.c (.bool false)]⟩])
   (.ret))
   (.skip)))))
   (.reg 0 [⟨0, some 25, none, .p (.bin .add), [.t 13, .c (.int .i64 1)]⟩,
    ⟨1, some 13, none, .p .mov, [.t 25]⟩])))
def g24 : GL.Fn := ⟨.seq (.reg 0 [⟨0, some 4, none, .p .mov, [.c (.bool false)]⟩])
   (.seq (.seq (.reg 0 [⟨0, some 6, none, .p .mov, [.t 0]⟩,
    ⟨1, some 7, none, .p .len, [.t 6]⟩,
    ⟨2, some 8, none, .p .mov, [.t 1]⟩,
    ⟨3, some 9, none, .p .len, [.t 8]⟩,
    ⟨4, some 10, none, .p (.bin .neq), [.t 7, .t 9]⟩])
   (.cond (.t 10) (.seq (.reg 0 [⟨0, some 4, none, .p .mov, [.c (.bool false)]⟩])
   (.ret))
   (.skip)))
   (.seq (.seq (.reg 0 [⟨0, some 11, none, .p .mov, [.t 0]⟩,
    ⟨1, some 12, none, .p .len, [.t 11]⟩,
    ⟨2, some 13, none, .p .mov, [.c (.int .i64 0)]⟩])
   (.block 0 (.loop g24_0)))
   (.seq (.reg 0 [⟨0, some 4, none, .p .mov, [.c (.bool true)]⟩])
   (.ret)))),
  [.tmp 4]⟩
/- loop.example/g00641/spec.DrawImplies -/
def g636 : GL.Fn := ⟨.seq (.reg 0 [⟨0, some 2, none, .p .mov, [.c (.int .i64 0)]⟩,
    ⟨1, some 3, none, .p .mov, [.c (.nils)]⟩,
    ⟨2, some 4, none, .l (.alloc 4 [.nils, .nils]), []⟩])
   (.seq (.reg 0 [⟨0, some 7, none, .p .mov, [.t 0]⟩,
    ⟨1, some 8, none, .p (.build [.nils, .int .i64 0, .int .u64 0] [(0, 1)]), [.t 7]⟩,
    ⟨2, some 9, none, .e (.new (.box 3)) [] [], [.t 8]⟩,
    ⟨3, some 5, none, .p .mov, [.t 9]⟩])
   (.seq (.reg 0 [⟨0, some 10, none, .p .mov, [.t 5]⟩,
    ⟨1, some 11, none, .e .call [] [], [.f 670, .t 10]⟩,
    ⟨2, some 6, none, .p .mov, [.t 11]⟩])
   (.seq (.reg 0 [⟨0, some 12, none, .p .mov, [.t 6]⟩,
    ⟨1, some 13, none, .p .mov, [.t 5]⟩,
    ⟨2, some 14, none, .p .mov, [.t 6]⟩,
    ⟨3, some 15, none, .e .call [] [], [.f 671, .t 13, .t 14]⟩,
    ⟨4, some 16, none, .p .mov, [.t 5]⟩,
    ⟨5, some 17, none, .p .mov, [.t 6]⟩,
    ⟨6, some 18, none, .e .call [] [], [.f 658, .t 16, .t 17]⟩,
    ⟨7, some 19, none, .p .mov, [.t 5]⟩,
    ⟨8, some 20, none, .p .mov, [.t 6]⟩,
    ⟨9, some 21, none, .e .call [] [], [.f 658, .t 19, .t 20]⟩,
    ⟨10, some 22, none, .p (.build [.nils, .nils] [(0, 1), (1, 1)]), [.t 18, .t 21]⟩,
    ⟨11, some 2, none, .p .mov, [.t 12]⟩,
    ⟨12, some 3, none, .p .mov, [.t 15]⟩,
    ⟨13, none, none, .l (.store 4 2), [.t 4, .t 22]⟩])
   (.ret)))),
  [.tmp 2, .tmp 3, .cellL 4 4 true 2]⟩
/- loop.example/g00641/impl.Implies -/
def g618 : GL.Fn := ⟨.seq (.reg 0 [⟨0, some 5, none, .l (.box 5 2), [.t 2]⟩,
    ⟨1, some 6, none, .p .mov, [.c (.bool false)]⟩,
    ⟨2, some 7, none, .p .mov, [.c (.bool false)]⟩])
   (.seq (.seq (.reg 0 [⟨0, some 8, none, .p .mov, [.t 0]⟩,
    ⟨1, some 9, none, .p .mov, [.t 1]⟩,
    ⟨2, some 10, none, .e .call [] [], [.f 616, .t 8, .t 9]⟩,
    ⟨3, some 11, none, .p (.un .not), [.t 10]⟩,
    ⟨4, some 12, none, .p .mov, [.t 11]⟩,
    ⟨5, some 13, some (12, false), .p .mov, [.t 0]⟩,
    ⟨6, some 14, some (12, false), .l (.load 5 true 2), [.t 5]⟩,
    ⟨7, some 15, some (12, false), .e .call [] [], [.f 656, .t 13, .t 14]⟩,
    ⟨8, some 16, some (12, false), .p (.un .not), [.t 15]⟩,
    ⟨9, some 17, none, .p .pick, [.t 12, .c (.bool true), .t 16]⟩])
   (.cond (.t 17) (.seq (.reg 0 [⟨0, some 6, none, .p .mov, [.c (.bool false)]⟩,
    ⟨1, some 7, none, .p .mov, [.c (.bool false)]⟩])
   (.ret))
   (.skip)))
   (.seq (.reg 0 [⟨0, some 18, none, .p .mov, [.t 1]⟩,
    ⟨1, some 19, none, .l (.load 5 true 2), [.t 5]⟩,
    ⟨2, some 20, none, .e .call [] [], [.f 652, .t 18, .t 19]⟩,
    ⟨3, some 6, none, .p .mov, [.t 20]⟩,
    ⟨4, some 7, none, .p .mov, [.c (.bool true)]⟩])
   (.ret))),
  [.tmp 6, .tmp 7]⟩
/- loop.example/g00641/spec.Implies -/
def g637 : GL.Fn := ⟨.seq (.reg 0 [⟨0, some 5, none, .l (.box 5 2), [.t 2]⟩,
    ⟨1, some 6, none, .p .mov, [.c (.bool false)]⟩,
    ⟨2, some 7, none, .p .mov, [.c (.bool false)]⟩])
   (.seq (.seq (.reg 0 [⟨0, some 8, none, .p .mov, [.t 0]⟩,
    ⟨1, some 9, none, .p .mov, [.t 1]⟩,
    ⟨2, some 10, none, .e .call [] [], [.f 647, .t 8, .t 9]⟩,
    ⟨3, some 11, none, .p (.un .not), [.t 10]⟩,
    ⟨4, some 12, none, .p .mov, [.t 11]⟩,
    ⟨5, some 13, some (12, false), .p .mov, [.t 0]⟩,
    ⟨6, some 14, some (12, false), .l (.load 5 true 2), [.t 5]⟩,
    ⟨7, some 15, some (12, false), .e .call [] [], [.f 672, .t 13, .t 14]⟩,
    ⟨8, some 16, some (12, false), .p (.un .not), [.t 15]⟩,
    ⟨9, some 17, none, .p .pick, [.t 12, .c (.bool true), .t 16]⟩])
   (.cond (.t 17) (.seq (.reg 0 [⟨0, some 6, none, .p .mov, [.c (.bool false)]⟩,
    ⟨1, some 7, none, .p .mov, [.c (.bool false)]⟩])
   (.ret))
   (.skip)))
   (.seq (.reg 0 [⟨0, some 18, none, .p (.faddr 1), [.t 5]⟩,
    ⟨1, some 19, none, .l (.load 5 false 1), [.t 18]⟩,
    ⟨2, some 20, none, .p .mov, [.t 1]⟩,
    ⟨3, some 21, none, .p (.faddr 0), [.t 5]⟩,
    ⟨4, some 22, none, .l (.load 5 false 1), [.t 21]⟩,
    ⟨5, some 23, none, .e .call [] [], [.f 649, .t 20, .t 22]⟩,
    ⟨6, some 24, none, .e .call [] [], [.f 554, .t 19, .t 23]⟩,
    ⟨7, some 6, none, .p .mov, [.t 24]⟩,
    ⟨8, some 7, none, .p .mov, [.c (.bool true)]⟩])
   (.ret))),
  [.tmp 6, .tmp 7]⟩
/- loop.example/g00641/impl.WitnessFor -/
def g638_0 : GL.Code := .seq (.reg 0 [⟨0, some 36, none, .p (.bin .lss), [.t 35, .t 34]⟩])
   (.seq (.cond (.t 36) (.skip)
   (.exit 0))
   (.seq (.block 1 (.seq (.reg 0 [⟨0, some 37, none, .p .mov, [.t 35]⟩,
    ⟨1, some 10, none, .p .mov, [.t 37]⟩])
   (.seq (.reg 0 [⟨0, some 38, none, .p .mov, [.t 8]⟩,
    ⟨1, some 39, none, .p .mov, [.t 10]⟩,
    ⟨2, some 40, none, .e .call [] [], [.f 301, .t 38, .t 39]⟩,
    ⟨3, some 41, none, .p (.un .not), [.t 40]⟩])
   (.cond (.t 41) (.reg 0 [⟨0, some 42, none, .p .mov, [.t 9]⟩,
    ⟨1, some 43, none, .p .mov, [.t 10]⟩,
    ⟨2, some 44, none, .p (.idx 1), [.t 42, .t 43]⟩,
    ⟨3, none, none, .e (.store 1) [] [], [.t 44, .c (.int .i64 1)]⟩])
   (.skip)))))
   (.reg 0 [⟨0, some 45, none, .p (.bin .add), [.t 35, .c (.int .i64 1)]⟩,
    ⟨1, some 35, none, .p .mov, [.t 45]⟩])))
def g638 : GL.Fn := ⟨.seq (.reg 0 [⟨0, some 5, none, .l (.box 5 2), [.t 2]⟩,
    ⟨1, some 6, none, .l (.alloc 6 [.nils, .nils]), []⟩,
    ⟨2, some 7, none, .p .mov, [.c (.bool false)]⟩])
   (.seq (.seq (.reg 0 [⟨0, some 11, none, .p .mov, [.t 0]⟩,
    ⟨1, some 12, none, .p .mov, [.t 1]⟩,
    ⟨2, some 13, none, .e .call [] [], [.f 616, .t 11, .t 12]⟩,
    ⟨3, some 14, none, .p (.un .not), [.t 13]⟩,
    ⟨4, some 15, none, .p .mov, [.t 14]⟩,
    ⟨5, some 16, some (15, false), .p .mov, [.t 0]⟩,
    ⟨6, some 17, some (15, false), .l (.load 5 true 2), [.t 5]⟩,
    ⟨7, some 18, some (15, false), .e .call [] [], [.f 656, .t 16, .t 17]⟩,
    ⟨8, some 19, some (15, false), .p (.un .not), [.t 18]⟩,
    ⟨9, some 20, none, .p .pick, [.t 15, .c (.bool true), .t 19]⟩,
    ⟨10, some 21, none, .p .mov, [.t 20]⟩,
    ⟨11, some 22, some (21, false), .p .mov, [.t 1]⟩,
    ⟨12, some 23, some (21, false), .l (.load 5 true 2), [.t 5]⟩,
    ⟨13, some 24, some (21, false), .e .call [] [], [.f 652, .t 22, .t 23]⟩,
    ⟨14, some 25, none, .p .pick, [.t 21, .c (.bool true), .t 24]⟩])
   (.cond (.t 25) (.seq (.reg 0 [⟨0, some 26, none, .p (.build [.nils, .nils] []), []⟩,
    ⟨1, none, none, .l (.store 6 2), [.t 6, .t 26]⟩,
    ⟨2, some 7, none, .p .mov, [.c (.bool false)]⟩])
   (.ret))
   (.skip)))
   (.seq (.reg 1 [⟨0, some 27, none, .p .mov, [.t 1]⟩,
    ⟨1, some 28, none, .p (.faddr 0), [.t 5]⟩,
    ⟨2, some 29, none, .l (.load 5 false 1), [.t 28]⟩,
    ⟨3, some 30, none, .e .call [] [0], [.f 645, .t 27, .t 29]⟩,
    ⟨4, some 31, none, .p .mov, [.t 0]⟩,
    ⟨5, some 32, none, .m (.make 1 8 [.int .i64 0]) 0, [.t 31, .t 31]⟩,
    ⟨6, some 8, none, .p .mov, [.t 30]⟩,
    ⟨7, some 9, none, .p .mov, [.t 32]⟩])
   (.seq (.seq (.reg 0 [⟨0, some 33, none, .p .mov, [.t 9]⟩,
    ⟨1, some 34, none, .p .len, [.t 33]⟩,
    ⟨2, some 35, none, .p .mov, [.c (.int .i64 0)]⟩])
   (.block 0 (.loop g638_0)))
   (.seq (.reg 2 [⟨0, some 46, none, .p .mov, [.t 0]⟩,
    ⟨1, some 47, none, .e .call [] [0, 1], [.f 598, .t 46]⟩,
    ⟨2, some 48, none, .p .mov, [.t 0]⟩,
    ⟨3, some 49, none, .m (.make 1 8 [.int .i64 0]) 0, [.t 48, .t 48]⟩,
    ⟨4, some 50, none, .p .mov, [.t 9]⟩,
    ⟨5, some 51, none, .m (.lit 1) 1, [.t 49, .t 50]⟩,
    ⟨6, some 52, none, .e .call [] [], [.f 673, .t 47, .t 51]⟩,
    ⟨7, some 53, none, .p (.extract 0), [.t 52]⟩,
    ⟨8, some 54, none, .p (.extract 1), [.t 52]⟩,
    ⟨9, none, none, .l (.store 6 2), [.t 6, .t 53]⟩,
    ⟨10, some 7, none, .p .mov, [.t 54]⟩])
   (.ret))))),
  [.cellL 6 6 true 2, .tmp 7]⟩
/- loop.example/g00641/spec.WitnessFor -/
def g639_0 : GL.Code := .seq (.seq (.reg 0 [⟨0, some 32, none, .p .mov, [.t 13]⟩,
    ⟨1, some 33, none, .p .mov, [.t 0]⟩,
    ⟨2, some 34, none, .p (.bin .lss), [.t 32, .t 33]⟩])
   (.cond (.t 34) (.skip)
   (.exit 0)))
   (.seq (.block 1 (.seq (.reg 0 [⟨0, some 37, none, .p .mov, [.t 11]⟩,
    ⟨1, some 38, none, .p .mov, [.t 13]⟩,
    ⟨2, some 39, none, .e (.new (.lit 1)) [] [], [.t 38]⟩,
    ⟨3, some 40, none, .e (.append 1 8) [] [], [.t 37, .t 39]⟩,
    ⟨4, some 11, none, .p .mov, [.t 40]⟩])
   (.seq (.reg 0 [⟨0, some 14, none, .p .mov, [.c (.int .i64 1)]⟩])
   (.seq (.seq (.reg 0 [⟨0, some 41, none, .p .mov, [.t 10]⟩,
    ⟨1, some 42, none, .p .mov, [.t 13]⟩,
    ⟨2, some 43, none, .e .call [] [], [.f 302, .t 41, .t 42]⟩])
   (.cond (.t 43) (.reg 0 [⟨0, some 14, none, .p .mov, [.c (.int .i64 0)]⟩])
   (.skip)))
   (.reg 0 [⟨0, some 44, none, .p .mov, [.t 12]⟩,
    ⟨1, some 45, none, .p .mov, [.t 14]⟩,
    ⟨2, some 46, none, .e (.new (.lit 1)) [] [], [.t 45]⟩,
    ⟨3, some 47, none, .e (.append 1 8) [] [], [.t 44, .t 46]⟩,
    ⟨4, some 12, none, .p .mov, [.t 47]⟩])))))
   (.reg 0 [⟨0, some 35, none, .p .mov, [.t 13]⟩,
    ⟨1, some 36, none, .p (.bin .add), [.t 35, .c (.int .i64 1)]⟩,
    ⟨2, some 13, none, .p .mov, [.t 36]⟩]))
def g639 : GL.Fn := ⟨.seq (.reg 0 [⟨0, some 5, none, .l (.box 5 2), [.t 2]⟩,
    ⟨1, some 6, none, .l (.alloc 6 [.nils, .nils]), []⟩,
    ⟨2, some 7, none, .p .mov, [.c (.bool false)]⟩])
   (.seq (.reg 0 [⟨0, some 16, none, .p .mov, [.t 0]⟩,
    ⟨1, some 17, none, .p .mov, [.t 1]⟩,
    ⟨2, some 18, none, .l (.load 5 true 2), [.t 5]⟩,
    ⟨3, some 19, none, .e .call [] [], [.f 637, .t 16, .t 17, .t 18]⟩,
    ⟨4, some 15, none, .p .mov, [.t 19]⟩,
    ⟨5, some 20, none, .p (.extract 0), [.t 15]⟩,
    ⟨6, some 21, none, .p (.extract 1), [.t 15]⟩,
    ⟨7, some 8, none, .p .mov, [.t 20]⟩,
    ⟨8, some 9, none, .p .mov, [.t 21]⟩])
   (.seq (.seq (.reg 0 [⟨0, some 22, none, .p .mov, [.t 9]⟩,
    ⟨1, some 23, none, .p (.un .not), [.t 22]⟩,
    ⟨2, some 24, none, .p .mov, [.t 23]⟩,
    ⟨3, some 25, some (24, false), .p .mov, [.t 8]⟩,
    ⟨4, some 26, none, .p .pick, [.t 24, .c (.bool true), .t 25]⟩])
   (.cond (.t 26) (.seq (.reg 0 [⟨0, some 27, none, .p (.build [.nils, .nils] []), []⟩,
    ⟨1, none, none, .l (.store 6 2), [.t 6, .t 27]⟩,
    ⟨2, some 7, none, .p .mov, [.c (.bool false)]⟩])
   (.ret))
   (.skip)))
   (.seq (.reg 0 [⟨0, some 28, none, .p .mov, [.t 1]⟩,
    ⟨1, some 29, none, .p (.faddr 0), [.t 5]⟩,
    ⟨2, some 30, none, .l (.load 5 false 1), [.t 29]⟩,
    ⟨3, some 31, none, .e .call [] [], [.f 649, .t 28, .t 30]⟩,
    ⟨4, some 10, none, .p .mov, [.t 31]⟩])
   (.seq (.reg 0 [⟨0, some 11, none, .p .mov, [.c (.nils)]⟩,
    ⟨1, some 12, none, .p .mov, [.c (.nils)]⟩])
   (.seq (.seq (.reg 0 [⟨0, some 13, none, .p .mov, [.c (.int .i64 0)]⟩])
   (.block 0 (.loop g639_0)))
   (.seq (.reg 0 [⟨0, some 48, none, .p .mov, [.t 11]⟩,
    ⟨1, some 49, none, .p .mov, [.t 0]⟩,
    ⟨2, some 50, none, .e (.new (.make 1 8 [.int .i64 0])) [] [], [.t 49, .t 49]⟩,
    ⟨3, some 51, none, .p .mov, [.t 12]⟩,
    ⟨4, some 52, none, .e (.new (.lit 1)) [] [], [.t 50, .t 51]⟩,
    ⟨5, some 53, none, .e .call [] [], [.f 674, .t 48, .t 52]⟩,
    ⟨6, some 54, none, .p (.extract 0), [.t 53]⟩,
    ⟨7, some 55, none, .p (.extract 1), [.t 53]⟩,
    ⟨8, none, none, .l (.store 6 2), [.t 6, .t 54]⟩,
    ⟨9, some 7, none, .p .mov, [.t 55]⟩])
   (.ret))))))),
  [.cellL 6 6 true 2, .tmp 7]⟩
/- loop.example/g00641/laws.sameRelation -/
def g640 : GL.Fn := ⟨.seq (.reg 0 [⟨0, some 2, none, .l (.box 2 2), [.t 0]⟩,
    ⟨1, some 3, none, .l (.box 3 2), [.t 1]⟩,
    ⟨2, some 4, none, .p .mov, [.c (.bool false)]⟩])
   (.seq (.reg 0 [⟨0, some 5, none, .p (.faddr 0), [.t 2]⟩,
    ⟨1, some 6, none, .l (.load 2 false 1), [.t 5]⟩,
    ⟨2, some 7, none, .p (.faddr 0), [.t 3]⟩,
    ⟨3, some 8, none, .l (.load 3 false 1), [.t 7]⟩,
    ⟨4, some 9, none, .e .call [] [], [.f 24, .t 6, .t 8]⟩,
    ⟨5, some 10, none, .p .mov, [.t 9]⟩,
    ⟨6, some 11, some (10, true), .p (.faddr 1), [.t 2]⟩,
    ⟨7, some 12, some (10, true), .l (.load 2 false 1), [.t 11]⟩,
    ⟨8, some 13, some (10, true), .p (.faddr 1), [.t 3]⟩,
    ⟨9, some 14, some (10, true), .l (.load 3 false 1), [.t 13]⟩,
    ⟨10, some 15, some (10, true), .e .call [] [], [.f 383, .t 12, .t 14]⟩,
    ⟨11, some 16, none, .p .pick, [.t 10, .t 15, .c (.bool false)]⟩,
    ⟨12, some 4, none, .p .mov, [.t 16]⟩])
   (.ret)),
  [.tmp 4]⟩
/- loop.example/g00641/impl.HoldsIn -/
def g620_0 : GL.Code := .seq (.reg 0 [⟨0, some 43, none, .p (.bin .lss), [.t 42, .t 41]⟩])
   (.seq (.cond (.t 43) (.skip)
   (.exit 2))
   (.seq (.block 3 (.seq (.reg 0 [⟨0, some 44, none, .p (.idx 1), [.t 40, .t 42]⟩,
    ⟨1, some 45, none, .r (.load false 1) false, [.t 44]⟩,
    ⟨2, some 9, none, .p .mov, [.t 45]⟩])
   (.seq (.reg 0 [⟨0, some 46, none, .p (.faddr 0), [.t 2]⟩,
    ⟨1, some 47, none, .l (.load 2 false 1), [.t 46]⟩,
    ⟨2, some 48, none, .p .mov, [.t 7]⟩,
    ⟨3, some 49, none, .p (.faddr 0), [.t 3]⟩,
    ⟨4, some 50, none, .l (.load 3 false 1), [.t 49]⟩,
    ⟨5, some 51, none, .e .call [] [], [.f 661, .t 47, .t 48, .t 50]⟩,
    ⟨6, some 52, none, .p (.faddr 0), [.t 2]⟩,
    ⟨7, some 53, none, .l (.load 2 false 1), [.t 52]⟩,
    ⟨8, some 54, none, .p .mov, [.t 9]⟩,
    ⟨9, some 55, none, .p (.faddr 0), [.t 3]⟩,
    ⟨10, some 56, none, .l (.load 3 false 1), [.t 55]⟩,
    ⟨11, some 57, none, .e .call [] [], [.f 661, .t 53, .t 54, .t 56]⟩,
    ⟨12, some 58, none, .e .call [] [], [.f 386, .t 51, .t 57]⟩,
    ⟨13, some 59, none, .p .mov, [.t 58]⟩,
    ⟨14, some 60, some (59, true), .p (.faddr 0), [.t 2]⟩,
    ⟨15, some 61, some (59, true), .l (.load 2 false 1), [.t 60]⟩,
    ⟨16, some 62, some (59, true), .p .mov, [.t 7]⟩,
    ⟨17, some 63, some (59, true), .p (.faddr 1), [.t 3]⟩,
    ⟨18, some 64, some (59, true), .l (.load 3 false 1), [.t 63]⟩,
    ⟨19, some 65, some (59, true), .e .call [] [], [.f 661, .t 61, .t 62, .t 64]⟩,
    ⟨20, some 66, some (59, true), .p (.faddr 0), [.t 2]⟩,
    ⟨21, some 67, some (59, true), .l (.load 2 false 1), [.t 66]⟩,
    ⟨22, some 68, some (59, true), .p .mov, [.t 9]⟩,
    ⟨23, some 69, some (59, true), .p (.faddr 1), [.t 3]⟩,
    ⟨24, some 70, some (59, true), .l (.load 3 false 1), [.t 69]⟩,
    ⟨25, some 71, some (59, true), .e .call [] [], [.f 661, .t 67, .t 68, .t 70]⟩,
    ⟨26, some 72, some (59, true), .e .call [] [], [.f 386, .t 65, .t 71]⟩,
    ⟨27, some 73, some (59, true), .p (.un .not), [.t 72]⟩,
    ⟨28, some 74, none, .p .pick, [.t 59, .t 73, .c (.bool false)]⟩])
   (.cond (.t 74) (.seq (.reg 0 [⟨0, some 4, none, .p .mov, [.c (.bool false)]⟩,
    ⟨1, some 5, none, .p .mov, [.c (.bool true)]⟩])
   (.ret))
   (.skip)))))
   (.reg 0 [⟨0, some 75, none, .p (.bin .add), [.t 42, .c (.int .i64 1)]⟩,
    ⟨1, some 42, none, .p .mov, [.t 75]⟩])))
def g620_1 : GL.Code := .seq (.reg 0 [⟨0, some 33, none, .p (.bin .lss), [.t 32, .t 31]⟩])
   (.seq (.cond (.t 33) (.skip)
   (.exit 0))
   (.seq (.block 1 (.seq (.reg 0 [⟨0, some 34, none, .p .mov, [.t 32]⟩,
    ⟨1, some 35, none, .p (.idx 1), [.t 30, .t 32]⟩,
    ⟨2, some 36, none, .r (.load false 1) false, [.t 35]⟩,
    ⟨3, some 6, none, .p .mov, [.t 34]⟩,
    ⟨4, some 7, none, .p .mov, [.t 36]⟩])
   (.seq (.reg 0 [⟨0, some 37, none, .p (.faddr 1), [.t 2]⟩,
    ⟨1, some 38, none, .l (.load 2 false 1), [.t 37]⟩,
    ⟨2, some 39, none, .p .mov, [.t 6]⟩,
    ⟨3, some 40, none, .p (.slice 1 false true false), [.t 38, .t 39]⟩,
    ⟨4, some 41, none, .p .len, [.t 40]⟩,
    ⟨5, some 42, none, .p .mov, [.c (.int .i64 0)]⟩])
   (.block 2 (.loop g620_0)))))
   (.reg 0 [⟨0, some 76, none, .p (.bin .add), [.t 32, .c (.int .i64 1)]⟩,
    ⟨1, some 32, none, .p .mov, [.t 76]⟩])))
def g620 : GL.Fn := ⟨.seq (.reg 0 [⟨0, some 2, none, .l (.box 2 2), [.t 0]⟩,
    ⟨1, some 3, none, .l (.box 3 2), [.t 1]⟩,
    ⟨2, some 4, none, .p .mov, [.c (.bool false)]⟩,
    ⟨3, some 5, none, .p .mov, [.c (.bool false)]⟩])
   (.seq (.seq (.reg 0 [⟨0, some 10, none, .l (.load 2 true 2), [.t 2]⟩,
    ⟨1, some 11, none, .e .call [] [], [.f 659, .t 10]⟩,
    ⟨2, some 12, none, .p (.un .not), [.t 11]⟩,
    ⟨3, some 13, none, .p .mov, [.t 12]⟩,
    ⟨4, some 14, some (13, false), .p (.faddr 0), [.t 3]⟩,
    ⟨5, some 15, some (13, false), .l (.load 3 false 1), [.t 14]⟩,
    ⟨6, some 16, some (13, false), .p (.faddr 0), [.t 2]⟩,
    ⟨7, some 17, some (13, false), .l (.load 2 false 1), [.t 16]⟩,
    ⟨8, some 18, some (13, false), .e .call [] [], [.f 660, .t 15, .t 17]⟩,
    ⟨9, some 19, some (13, false), .p (.un .not), [.t 18]⟩,
    ⟨10, some 20, none, .p .pick, [.t 13, .c (.bool true), .t 19]⟩,
    ⟨11, some 21, none, .p .mov, [.t 20]⟩,
    ⟨12, some 22, some (21, false), .p (.faddr 1), [.t 3]⟩,
    ⟨13, some 23, some (21, false), .l (.load 3 false 1), [.t 22]⟩,
    ⟨14, some 24, some (21, false), .p (.faddr 0), [.t 2]⟩,
    ⟨15, some 25, some (21, false), .l (.load 2 false 1), [.t 24]⟩,
    ⟨16, some 26, some (21, false), .e .call [] [], [.f 660, .t 23, .t 25]⟩,
    ⟨17, some 27, some (21, false), .p (.un .not), [.t 26]⟩,
    ⟨18, some 28, none, .p .pick, [.t 21, .c (.bool true), .t 27]⟩])
   (.cond (.t 28) (.seq (.reg 0 [⟨0, some 4, none, .p .mov, [.c (.bool false)]⟩,
    ⟨1, some 5, none, .p .mov, [.c (.bool false)]⟩])
   (.ret))
   (.skip)))
   (.seq (.seq (.reg 0 [⟨0, some 29, none, .p (.faddr 1), [.t 2]⟩,
    ⟨1, some 30, none, .l (.load 2 false 1), [.t 29]⟩,
    ⟨2, some 31, none, .p .len, [.t 30]⟩,
    ⟨3, some 32, none, .p .mov, [.c (.int .i64 0)]⟩])
   (.block 0 (.loop g620_1)))
   (.seq (.reg 0 [⟨0, some 4, none, .p .mov, [.c (.bool true)]⟩,
    ⟨1, some 5, none, .p .mov, [.c (.bool true)]⟩])
   (.ret)))),
  [.tmp 4, .tmp 5]⟩
/- loop.example/g00641/spec.DrawClosureOf -/
def g641 : GL.Fn := ⟨.seq (.reg 0 [⟨0, some 2, none, .p .mov, [.c (.int .i64 0)]⟩,
    ⟨1, some 3, none, .p .mov, [.c (.nils)]⟩,
    ⟨2, some 4, none, .p .mov, [.c (.nils)]⟩])
   (.seq (.reg 0 [⟨0, some 7, none, .p .mov, [.t 0]⟩,
    ⟨1, some 8, none, .p (.build [.nils, .int .i64 0, .int .u64 0] [(0, 1)]), [.t 7]⟩,
    ⟨2, some 9, none, .e (.new (.box 3)) [] [], [.t 8]⟩,
    ⟨3, some 5, none, .p .mov, [.t 9]⟩])
   (.seq (.reg 0 [⟨0, some 10, none, .p .mov, [.t 5]⟩,
    ⟨1, some 11, none, .e .call [] [], [.f 670, .t 10]⟩,
    ⟨2, some 6, none, .p .mov, [.t 11]⟩])
   (.seq (.reg 0 [⟨0, some 12, none, .p .mov, [.t 6]⟩,
    ⟨1, some 13, none, .p .mov, [.t 5]⟩,
    ⟨2, some 14, none, .p .mov, [.t 6]⟩,
    ⟨3, some 15, none, .e .call [] [], [.f 671, .t 13, .t 14]⟩,
    ⟨4, some 16, none, .p .mov, [.t 5]⟩,
    ⟨5, some 17, none, .p .mov, [.t 6]⟩,
    ⟨6, some 18, none, .e .call [] [], [.f 658, .t 16, .t 17]⟩,
    ⟨7, some 2, none, .p .mov, [.t 12]⟩,
    ⟨8, some 3, none, .p .mov, [.t 15]⟩,
    ⟨9, some 4, none, .p .mov, [.t 18]⟩])
   (.ret)))),
  [.tmp 2, .tmp 3, .tmp 4]⟩
/- loop.example/g00641/impl.ClosureOf -/
def g617 : GL.Fn := ⟨.seq (.reg 0 [⟨0, some 6, none, .p .mov, [.c (.nils)]⟩,
    ⟨1, some 7, none, .p .mov, [.c (.bool false)]⟩])
   (.seq (.seq (.reg 0 [⟨0, some 8, none, .p .mov, [.t 0]⟩,
    ⟨1, some 9, none, .p .mov, [.t 1]⟩,
    ⟨2, some 10, none, .e .call [] [], [.f 616, .t 8, .t 9]⟩,
    ⟨3, some 11, none, .p (.un .not), [.t 10]⟩,
    ⟨4, some 12, none, .p .mov, [.t 11]⟩,
    ⟨5, some 13, some (12, false), .p .mov, [.t 0]⟩,
    ⟨6, some 14, some (12, false), .p .mov, [.t 2]⟩,
    ⟨7, some 15, some (12, false), .e .call [] [], [.f 655, .t 13, .t 14]⟩,
    ⟨8, some 16, some (12, false), .p (.un .not), [.t 15]⟩,
    ⟨9, some 17, none, .p .pick, [.t 12, .c (.bool true), .t 16]⟩])
   (.cond (.t 17) (.seq (.reg 0 [⟨0, some 6, none, .p .mov, [.c (.nils)]⟩,
    ⟨1, some 7, none, .p .mov, [.c (.bool false)]⟩])
   (.ret))
   (.skip)))
   (.seq (.reg 0 [⟨0, some 18, none, .p .mov, [.t 1]⟩,
    ⟨1, some 19, none, .p .mov, [.t 2]⟩,
    ⟨2, some 20, none, .e .call [] [], [.f 645, .t 18, .t 19]⟩,
    ⟨3, some 6, none, .p .mov, [.t 20]⟩,
    ⟨4, some 7, none, .p .mov, [.c (.bool true)]⟩])
   (.ret))),
  [.tmp 6, .tmp 7]⟩
/- loop.example/g00641/spec.ClosureOf -/
def g642 : GL.Fn := ⟨.seq (.reg 0 [⟨0, some 6, none, .p .mov, [.c (.nils)]⟩,
    ⟨1, some 7, none, .p .mov, [.c (.bool false)]⟩])
   (.seq (.seq (.reg 0 [⟨0, some 8, none, .p .mov, [.t 0]⟩,
    ⟨1, some 9, none, .p .mov, [.t 1]⟩,
    ⟨2, some 10, none, .e .call [] [], [.f 647, .t 8, .t 9]⟩,
    ⟨3, some 11, none, .p (.un .not), [.t 10]⟩,
    ⟨4, some 12, none, .p .mov, [.t 11]⟩,
    ⟨5, some 13, some (12, false), .p .mov, [.t 2]⟩,
    ⟨6, some 14, some (12, false), .p .mov, [.t 0]⟩,
    ⟨7, some 15, some (12, false), .p (.bin .sub), [.t 14, .c (.int .i64 1)]⟩,
    ⟨8, some 16, some (12, false), .e .call [] [], [.f 337, .t 13, .c (.int .i64 0), .t 15]⟩,
    ⟨9, some 17, some (12, false), .p (.un .not), [.t 16]⟩,
    ⟨10, some 18, none, .p .pick, [.t 12, .c (.bool true), .t 17]⟩])
   (.cond (.t 18) (.seq (.reg 0 [⟨0, some 6, none, .p .mov, [.c (.nils)]⟩,
    ⟨1, some 7, none, .p .mov, [.c (.bool false)]⟩])
   (.ret))
   (.skip)))
   (.seq (.reg 0 [⟨0, some 19, none, .p .mov, [.t 1]⟩,
    ⟨1, some 20, none, .p .mov, [.t 2]⟩,
    ⟨2, some 21, none, .e .call [] [], [.f 649, .t 19, .t 20]⟩,
    ⟨3, some 6, none, .p .mov, [.t 21]⟩,
    ⟨4, some 7, none, .p .mov, [.c (.bool true)]⟩])
   (.ret))),
  [.tmp 6, .tmp 7]⟩
/- loop.example/g00641/impl.GoodDeps -/
def g616 : GL.Fn := ⟨.seq (.reg 0 [⟨0, some 2, none, .e (.new (.box 1)) [] [], [.t 0]⟩,
    ⟨1, some 4, none, .p .mov, [.c (.bool false)]⟩])
   (.seq (.reg 0 [⟨0, some 5, none, .r (.load false 1) false, [.t 2]⟩,
    ⟨1, some 6, none, .e .call [] [], [.f 107, .t 5, .c (.int .i64 1), .c (.int .i64 6)]⟩,
    ⟨2, some 7, none, .p .mov, [.t 6]⟩,
    ⟨3, some 8, some (7, true), .p .mov, [.t 1]⟩,
    ⟨4, some 9, some (7, true), .p .len, [.t 8]⟩,
    ⟨5, some 10, some (7, true), .p (.bin .leq), [.t 9, .c (.int .i64 8)]⟩,
    ⟨6, some 11, none, .p .pick, [.t 7, .t 10, .c (.bool false)]⟩,
    ⟨7, some 12, none, .p .mov, [.t 11]⟩,
    ⟨8, some 13, some (12, true), .p .mov, [.t 1]⟩,
    ⟨9, some 14, some (12, true), .p (.mkFn 653), [.t 2]⟩,
    ⟨10, some 15, some (12, true), .e .call [] [], [.f 654, .t 13, .t 14]⟩,
    ⟨11, some 16, some (12, true), .p (.un .not), [.t 15]⟩,
    ⟨12, some 17, none, .p .pick, [.t 12, .t 16, .c (.bool false)]⟩,
    ⟨13, some 4, none, .p .mov, [.t 17]⟩])
   (.ret)),
  [.tmp 4]⟩
/- loop.example/g00641/impl.allColumns -/
def g598_0 : GL.Code := .seq (.reg 0 [⟨0, some 8, none, .p (.bin .lss), [.t 7, .t 6]⟩])
   (.seq (.cond (.t 8) (.skip)
   (.exit 0))
   (.seq (.block 1 (.seq (.reg 0 [⟨0, some 9, none, .p .mov, [.t 7]⟩,
    ⟨1, some 4, none, .p .mov, [.t 9]⟩])
   (.reg 0 [⟨0, some 10, none, .p .mov, [.t 3]⟩,
    ⟨1, some 11, none, .p .mov, [.t 4]⟩,
    ⟨2, some 12, none, .e (.new (.lit 1)) [] [], [.t 11]⟩,
    ⟨3, some 13, none, .e (.append 1 8) [] [], [.t 10, .t 12]⟩,
    ⟨4, some 3, none, .p .mov, [.t 13]⟩])))
   (.reg 0 [⟨0, some 14, none, .p (.bin .add), [.t 7, .c (.int .i64 1)]⟩,
    ⟨1, some 7, none, .p .mov, [.t 14]⟩])))
def g598 : GL.Fn := ⟨.seq (.reg 0 [⟨0, some 2, none, .p .mov, [.c (.nils)]⟩])
   (.seq (.reg 0 [⟨0, some 5, none, .e (.new (.lit 1)) [] [], []⟩,
    ⟨1, some 3, none, .p .mov, [.t 5]⟩])
   (.seq (.seq (.reg 0 [⟨0, some 6, none, .p .mov, [.t 0]⟩,
    ⟨1, some 7, none, .p .mov, [.c (.int .i64 0)]⟩])
   (.block 0 (.loop g598_0)))
   (.seq (.reg 0 [⟨0, some 15, none, .p .mov, [.t 3]⟩,
    ⟨1, some 2, none, .p .mov, [.t 15]⟩])
   (.ret)))),
  [.tmp 2]⟩
/- loop.example/g00641/impl.together -/
def g412 : GL.Fn := ⟨.seq (.reg 0 [⟨0, some 4, none, .p .mov, [.c (.nils)]⟩])
   (.seq (.reg 0 [⟨0, some 6, none, .p .mov, [.t 0]⟩,
    ⟨1, some 7, none, .p .mov, [.t 1]⟩,
    ⟨2, some 8, none, .e (.new (.lit 1)) [] [], [.t 6, .t 7]⟩,
    ⟨3, some 9, none, .e .call [] [], [.f 429, .t 8]⟩,
    ⟨4, some 5, none, .p .mov, [.t 9]⟩])
   (.seq (.reg 0 [⟨0, some 10, none, .p .mov, [.t 5]⟩,
    ⟨1, some 11, none, .e .call [] [], [.f 340, .t 10]⟩])
   (.seq (.reg 0 [⟨0, some 12, none, .p .mov, [.t 5]⟩,
    ⟨1, some 13, none, .e .call [] [], [.f 430, .t 12]⟩,
    ⟨2, some 4, none, .p .mov, [.t 13]⟩])
   (.ret)))),
  [.tmp 4]⟩
/- loop.example/g00641/spec.GoodDeps -/
def g647_0 : GL.Code := .seq (.reg 0 [⟨0, some 18, none, .p (.bin .lss), [.t 17, .t 16]⟩])
   (.seq (.cond (.t 18) (.skip)
   (.exit 0))
   (.seq (.block 1 (.seq (.reg 0 [⟨0, some 19, none, .p (.idx 2), [.t 15, .t 17]⟩,
    ⟨1, some 20, none, .r (.load true 2) false, [.t 19]⟩,
    ⟨2, some 6, none, .l (.alloc 6 [.nils, .nils]), []⟩,
    ⟨3, none, none, .l (.store 6 2), [.t 6, .t 20]⟩])
   (.seq (.reg 0 [⟨0, some 21, none, .p .mov, [.t 0]⟩,
    ⟨1, some 22, none, .l (.load 6 true 2), [.t 6]⟩,
    ⟨2, some 23, none, .e .call [] [], [.f 672, .t 21, .t 22]⟩,
    ⟨3, some 24, none, .p (.un .not), [.t 23]⟩])
   (.cond (.t 24) (.seq (.reg 0 [⟨0, some 4, none, .p .mov, [.c (.bool false)]⟩])
   (.ret))
   (.skip)))))
   (.reg 0 [⟨0, some 25, none, .p (.bin .add), [.t 17, .c (.int .i64 1)]⟩,
    ⟨1, some 17, none, .p .mov, [.t 25]⟩])))
def g647 : GL.Fn := ⟨.seq (.reg 0 [⟨0, some 4, none, .p .mov, [.c (.bool false)]⟩])
   (.seq (.seq (.reg 0 [⟨0, some 7, none, .p .mov, [.t 0]⟩,
    ⟨1, some 8, none, .e .call [] [], [.f 98, .t 7, .c (.int .i64 1), .c (.int .i64 6)]⟩,
    ⟨2, some 9, none, .p (.un .not), [.t 8]⟩,
    ⟨3, some 10, none, .p .mov, [.t 9]⟩,
    ⟨4, some 11, some (10, false), .p .mov, [.t 1]⟩,
    ⟨5, some 12, some (10, false), .p .len, [.t 11]⟩,
    ⟨6, some 13, some (10, false), .p (.bin .gtr), [.t 12, .c (.int .i64 8)]⟩,
    ⟨7, some 14, none, .p .pick, [.t 10, .c (.bool true), .t 13]⟩])
   (.cond (.t 14) (.seq (.reg 0 [⟨0, some 4, none, .p .mov, [.c (.bool false)]⟩])
   (.ret))
   (.skip)))
   (.seq (.seq (.reg 0 [⟨0, some 15, none, .p .mov, [.t 1]⟩,
    ⟨1, some 16, none, .p .len, [.t 15]⟩,
    ⟨2, some 17, none, .p .mov, [.c (.int .i64 0)]⟩])
   (.block 0 (.loop g647_0)))
   (.seq (.reg 0 [⟨0, some 4, none, .p .mov, [.c (.bool true)]⟩])
   (.ret)))),
  [.tmp 4]⟩
/- loop.example/g00641/impl.areColumns -/
def g655 : GL.Fn := ⟨.seq (.reg 0 [⟨0, some 4, none, .p .mov, [.c (.bool false)]⟩])
   (.seq (.reg 0 [⟨0, some 5, none, .p .mov, [.t 1]⟩,
    ⟨1, some 6, none, .p .mov, [.t 0]⟩,
    ⟨2, some 7, none, .p (.bin .sub), [.t 6, .c (.int .i64 1)]⟩,
    ⟨3, some 8, none, .e .call [] [], [.f 385, .t 5, .c (.int .i64 0), .t 7]⟩,
    ⟨4, some 4, none, .p .mov, [.t 8]⟩])
   (.ret)),
  [.tmp 4]⟩
/- loop.example/g00641/impl.within -/
def g107 : GL.Fn := ⟨.seq (.reg 0 [⟨0, some 6, none, .p .mov, [.c (.bool false)]⟩])
   (.seq (.reg 0 [⟨0, some 7, none, .p .mov, [.t 0]⟩,
    ⟨1, some 8, none, .p .mov, [.t 1]⟩,
    ⟨2, some 9, none, .p (.bin .geq), [.t 7, .t 8]⟩,
    ⟨3, some 10, none, .p .mov, [.t 9]⟩,
    ⟨4, some 11, some (10, true), .p .mov, [.t 0]⟩,
    ⟨5, some 12, some (10, true), .p .mov, [.t 2]⟩,
    ⟨6, some 13, some (10, true), .p (.bin .leq), [.t 11, .t 12]⟩,
    ⟨7, some 14, none, .p .pick, [.t 10, .t 13, .c (.bool false)]⟩,
    ⟨8, some 6, none, .p .mov, [.t 14]⟩])
   (.ret)),
  [.tmp 6]⟩
/- loop.example/g00641/impl.isPart -/
def g660_0 : GL.Code := .seq (.reg 0 [⟨0, some 10, none, .p (.bin .lss), [.t 9, .t 8]⟩])
   (.seq (.cond (.t 10) (.skip)
   (.exit 0))
   (.seq (.block 1 (.seq (.reg 0 [⟨0, some 11, none, .p .mov, [.t 9]⟩,
    ⟨1, some 12, none, .p (.idx 1), [.t 7, .t 9]⟩,
    ⟨2, some 13, none, .r (.load false 1) false, [.t 12]⟩,
    ⟨3, some 5, none, .p .mov, [.t 11]⟩,
    ⟨4, some 6, none, .p .mov, [.t 13]⟩])
   (.seq (.reg 0 [⟨0, some 14, none, .p .mov, [.t 1]⟩,
    ⟨1, some 15, none, .p .mov, [.t 6]⟩,
    ⟨2, some 16, none, .e .call [] [], [.f 301, .t 14, .t 15]⟩,
    ⟨3, some 17, none, .p (.un .not), [.t 16]⟩,
    ⟨4, some 18, none, .p .mov, [.t 17]⟩,
    ⟨5, some 19, some (18, false), .p .mov, [.t 5]⟩,
    ⟨6, some 20, some (18, false), .p (.bin .gtr), [.t 19, .c (.int .i64 0)]⟩,
    ⟨7, some 21, some (18, false), .p .mov, [.t 20]⟩,
    ⟨8, some 22, some (21, true), .p .mov, [.t 0]⟩,
    ⟨9, some 23, some (21, true), .p .mov, [.t 5]⟩,
    ⟨10, some 24, some (21, true), .p (.bin .sub), [.t 23, .c (.int .i64 1)]⟩,
    ⟨11, some 25, some (21, true), .p (.idx 1), [.t 22, .t 24]⟩,
    ⟨12, some 26, some (21, true), .r (.load false 1) false, [.t 25]⟩,
    ⟨13, some 27, some (21, true), .p .mov, [.t 6]⟩,
    ⟨14, some 28, some (21, true), .p (.bin .geq), [.t 26, .t 27]⟩,
    ⟨15, some 29, some (18, false), .p .pick, [.t 21, .t 28, .c (.bool false)]⟩,
    ⟨16, some 30, none, .p .pick, [.t 18, .c (.bool true), .t 29]⟩])
   (.cond (.t 30) (.seq (.reg 0 [⟨0, some 4, none, .p .mov, [.c (.bool false)]⟩])
   (.ret))
   (.skip)))))
   (.reg 0 [⟨0, some 31, none, .p (.bin .add), [.t 9, .c (.int .i64 1)]⟩,
    ⟨1, some 9, none, .p .mov, [.t 31]⟩])))
def g660 : GL.Fn := ⟨.seq (.reg 0 [⟨0, some 4, none, .p .mov, [.c (.bool false)]⟩])
   (.seq (.seq (.reg 0 [⟨0, some 7, none, .p .mov, [.t 0]⟩,
    ⟨1, some 8, none, .p .len, [.t 7]⟩,
    ⟨2, some 9, none, .p .mov, [.c (.int .i64 0)]⟩])
   (.block 0 (.loop g660_0)))
   (.seq (.reg 0 [⟨0, some 4, none, .p .mov, [.c (.bool true)]⟩])
   (.ret))),
  [.tmp 4]⟩
/- loop.example/g00641/impl.implies -/
def g652 : GL.Fn := ⟨.seq (.reg 0 [⟨0, some 3, none, .l (.box 3 2), [.t 1]⟩,
    ⟨1, some 4, none, .p .mov, [.c (.bool false)]⟩])
   (.seq (.reg 0 [⟨0, some 5, none, .p .mov, [.t 0]⟩,
    ⟨1, some 6, none, .p (.faddr 0), [.t 3]⟩,
    ⟨2, some 7, none, .l (.load 3 false 1), [.t 6]⟩,
    ⟨3, some 8, none, .e .call [] [], [.f 645, .t 5, .t 7]⟩,
    ⟨4, some 9, none, .p (.faddr 1), [.t 3]⟩,
    ⟨5, some 10, none, .l (.load 3 false 1), [.t 9]⟩,
    ⟨6, some 11, none, .e .call [] [], [.f 552, .t 8, .t 10]⟩,
    ⟨7, some 4, none, .p .mov, [.t 11]⟩])
   (.ret)),
  [.tmp 4]⟩
/- (*loop.example/g00641/spec.l1Cur).cols -/
def g670 : GL.Fn := ⟨.seq (.reg 0 [⟨0, some 2, none, .p .mov, [.c (.int .i64 0)]⟩])
   (.seq (.reg 0 [⟨0, some 3, none, .p .mov, [.t 0]⟩,
    ⟨1, some 4, none, .e (.new (.lit 1)) [] [], [.c (.int .i64 0), .c (.int .i64 1), .c (.int .i64 3), .c (.int .i64 4), .c (.int .i64 4), .c (.int .i64 5), .c (.int .i64 6), .c (.int .i64 7)]⟩,
    ⟨2, some 5, none, .e .call [] [], [.f 93, .t 3, .t 4]⟩,
    ⟨3, some 2, none, .p .mov, [.t 5]⟩])
   (.ret)),
  [.tmp 2]⟩
/- (*loop.example/g00641/spec.l1Cur).someCols -/
def g658_0 : GL.Code := .seq (.seq (.reg 0 [⟨0, some 7, none, .p .mov, [.t 6]⟩,
    ⟨1, some 8, none, .p .mov, [.t 1]⟩,
    ⟨2, some 9, none, .p (.bin .lss), [.t 7, .t 8]⟩])
   (.cond (.t 9) (.skip)
   (.exit 0)))
   (.seq (.block 1 (.seq (.reg 0 [⟨0, some 12, none, .p .mov, [.t 0]⟩,
    ⟨1, some 13, none, .e .call [] [], [.f 92, .t 12, .c (.int .i64 3)]⟩])
   (.cond (.t 13) (.reg 0 [⟨0, some 14, none, .p .mov, [.t 5]⟩,
    ⟨1, some 15, none, .p .mov, [.t 6]⟩,
    ⟨2, some 16, none, .e (.new (.lit 1)) [] [], [.t 15]⟩,
    ⟨3, some 17, none, .e (.append 1 8) [] [], [.t 14, .t 16]⟩,
    ⟨4, some 5, none, .p .mov, [.t 17]⟩])
   (.skip))))
   (.reg 0 [⟨0, some 10, none, .p .mov, [.t 6]⟩,
    ⟨1, some 11, none, .p (.bin .add), [.t 10, .c (.int .i64 1)]⟩,
    ⟨2, some 6, none, .p .mov, [.t 11]⟩]))
def g658 : GL.Fn := ⟨.seq (.reg 0 [⟨0, some 4, none, .p .mov, [.c (.nils)]⟩])
   (.seq (.reg 0 [⟨0, some 5, none, .p .mov, [.c (.nils)]⟩])
   (.seq (.seq (.reg 0 [⟨0, some 6, none, .p .mov, [.c (.int .i64 0)]⟩])
   (.block 0 (.loop g658_0)))
   (.seq (.seq (.reg 0 [⟨0, some 18, none, .p .mov, [.t 0]⟩,
    ⟨1, some 19, none, .e .call [] [], [.f 92, .t 18, .c (.int .i64 40)]⟩])
   (.cond (.t 19) (.reg 0 [⟨0, some 20, none, .p .mov, [.t 5]⟩,
    ⟨1, some 21, none, .p .mov, [.t 1]⟩,
    ⟨2, some 22, none, .e (.new (.lit 1)) [] [], [.t 21]⟩,
    ⟨3, some 23, none, .e (.append 1 8) [] [], [.t 20, .t 22]⟩,
    ⟨4, some 5, none, .p .mov, [.t 23]⟩])
   (.skip)))
   (.seq (.reg 0 [⟨0, some 24, none, .p .mov, [.t 5]⟩,
    ⟨1, some 4, none, .p .mov, [.t 24]⟩])
   (.ret))))),
  [.tmp 4]⟩
/- (*loop.example/g00641/spec.l1Cur).one -/
def g92 : GL.Fn := ⟨.seq (.reg 0 [⟨0, some 4, none, .p .mov, [.c (.bool false)]⟩])
   (.seq (.reg 0 [⟨0, some 5, none, .p .mov, [.t 0]⟩,
    ⟨1, some 6, none, .p .mov, [.t 1]⟩,
    ⟨2, some 7, none, .e .call [] [], [.f 91, .t 5, .t 6]⟩,
    ⟨3, some 8, none, .p (.bin .eql), [.t 7, .c (.int .i64 0)]⟩,
    ⟨4, some 4, none, .p .mov, [.t 8]⟩])
   (.ret)),
  [.tmp 4]⟩
/- loop.example/g00641/spec.l5Sub -/
def g554_0 : GL.Code := .seq (.reg 0 [⟨0, some 10, none, .p (.bin .lss), [.t 9, .t 8]⟩])
   (.seq (.cond (.t 10) (.skip)
   (.exit 0))
   (.seq (.block 1 (.seq (.reg 0 [⟨0, some 11, none, .p (.idx 1), [.t 7, .t 9]⟩,
    ⟨1, some 12, none, .r (.load false 1) false, [.t 11]⟩,
    ⟨2, some 6, none, .p .mov, [.t 12]⟩])
   (.seq (.reg 0 [⟨0, some 13, none, .p .mov, [.t 1]⟩,
    ⟨1, some 14, none, .p .mov, [.t 6]⟩,
    ⟨2, some 15, none, .e .call [] [], [.f 302, .t 13, .t 14]⟩,
    ⟨3, some 16, none, .p (.un .not), [.t 15]⟩])
   (.cond (.t 16) (.seq (.reg 0 [⟨0, some 4, none, .p .mov, [.c (.bool false)]⟩])
   (.ret))
   (.skip)))))
   (.reg 0 [⟨0, some 17, none, .p (.bin .add), [.t 9, .c (.int .i64 1)]⟩,
    ⟨1, some 9, none, .p .mov, [.t 17]⟩])))
def g554 : GL.Fn := ⟨.seq (.reg 0 [⟨0, some 4, none, .p .mov, [.c (.bool false)]⟩])
   (.seq (.seq (.reg 0 [⟨0, some 7, none, .p .mov, [.t 0]⟩,
    ⟨1, some 8, none, .p .len, [.t 7]⟩,
    ⟨2, some 9, none, .p .mov, [.c (.int .i64 0)]⟩])
   (.block 0 (.loop g554_0)))
   (.seq (.reg 0 [⟨0, some 4, none, .p .mov, [.c (.bool true)]⟩])
   (.ret))),
  [.tmp 4]⟩
/- (*loop.example/g00641/spec.l1Cur).deps -/
def g671_0 : GL.Code := .seq (.seq (.reg 0 [⟨0, some 14, none, .p .mov, [.t 6]⟩,
    ⟨1, some 15, none, .p (.bin .gtr), [.t 14, .c (.int .i64 0)]⟩])
   (.cond (.t 15) (.skip)
   (.exit 0)))
   (.seq (.block 1 (.reg 0 [⟨0, some 18, none, .p .mov, [.t 5]⟩,
    ⟨1, some 19, none, .p .mov, [.t 0]⟩,
    ⟨2, some 20, none, .p .mov, [.t 1]⟩,
    ⟨3, some 21, none, .e .call [] [], [.f 658, .t 19, .t 20]⟩,
    ⟨4, some 22, none, .p .mov, [.t 0]⟩,
    ⟨5, some 23, none, .p .mov, [.t 1]⟩,
    ⟨6, some 24, none, .e .call [] [], [.f 658, .t 22, .t 23]⟩,
    ⟨7, some 25, none, .p (.build [.nils, .nils] [(0, 1), (1, 1)]), [.t 21, .t 24]⟩,
    ⟨8, some 26, none, .e (.new (.lit 2)) [] [], [.t 25]⟩,
    ⟨9, some 27, none, .e (.append 2 48) [] [], [.t 18, .t 26]⟩,
    ⟨10, some 5, none, .p .mov, [.t 27]⟩]))
   (.reg 0 [⟨0, some 16, none, .p .mov, [.t 6]⟩,
    ⟨1, some 17, none, .p (.bin .sub), [.t 16, .c (.int .i64 1)]⟩,
    ⟨2, some 6, none, .p .mov, [.t 17]⟩]))
def g671 : GL.Fn := ⟨.seq (.reg 0 [⟨0, some 4, none, .p .mov, [.c (.nils)]⟩])
   (.seq (.reg 0 [⟨0, some 5, none, .p .mov, [.c (.nils)]⟩])
   (.seq (.reg 0 [⟨0, some 7, none, .p .mov, [.t 0]⟩,
    ⟨1, some 8, none, .e .call [] [], [.f 91, .t 7, .c (.int .i64 6)]⟩,
    ⟨2, some 6, none, .p .mov, [.t 8]⟩])
   (.seq (.seq (.reg 0 [⟨0, some 9, none, .p .mov, [.t 0]⟩,
    ⟨1, some 10, none, .e .call [] [], [.f 92, .t 9, .c (.int .i64 20)]⟩])
   (.cond (.t 10) (.reg 0 [⟨0, some 11, none, .p .mov, [.t 0]⟩,
    ⟨1, some 12, none, .e .call [] [], [.f 91, .t 11, .c (.int .i64 2)]⟩,
    ⟨2, some 13, none, .p (.bin .add), [.c (.int .i64 8), .t 12]⟩,
    ⟨3, some 6, none, .p .mov, [.t 13]⟩])
   (.skip)))
   (.seq (.block 0 (.loop g671_0))
   (.seq (.reg 0 [⟨0, some 28, none, .p .mov, [.t 5]⟩,
    ⟨1, some 4, none, .p .mov, [.t 28]⟩])
   (.ret)))))),
  [.tmp 4]⟩
/- loop.example/g00641/spec.l5Dep -/
def g672 : GL.Fn := ⟨.seq (.reg 0 [⟨0, some 3, none, .l (.box 3 2), [.t 1]⟩,
    ⟨1, some 4, none, .p .mov, [.c (.bool false)]⟩])
   (.seq (.reg 0 [⟨0, some 5, none, .p (.faddr 0), [.t 3]⟩,
    ⟨1, some 6, none, .l (.load 3 false 1), [.t 5]⟩,
    ⟨2, some 7, none, .p .mov, [.t 0]⟩,
    ⟨3, some 8, none, .p (.bin .sub), [.t 7, .c (.int .i64 1)]⟩,
    ⟨4, some 9, none, .e .call [] [], [.f 337, .t 6, .c (.int .i64 0), .t 8]⟩,
    ⟨5, some 10, none, .p .mov, [.t 9]⟩,
    ⟨6, some 11, some (10, true), .p (.faddr 1), [.t 3]⟩,
    ⟨7, some 12, some (10, true), .l (.load 3 false 1), [.t 11]⟩,
    ⟨8, some 13, some (10, true), .p .mov, [.t 0]⟩,
    ⟨9, some 14, some (10, true), .p (.bin .sub), [.t 13, .c (.int .i64 1)]⟩,
    ⟨10, some 15, some (10, true), .e .call [] [], [.f 337, .t 12, .c (.int .i64 0), .t 14]⟩,
    ⟨11, some 16, none, .p .pick, [.t 10, .t 15, .c (.bool false)]⟩,
    ⟨12, some 4, none, .p .mov, [.t 16]⟩])
   (.ret)),
  [.tmp 4]⟩
/- loop.example/g00641/spec.l5Closure -/
def g649_0 : GL.Code := .seq (.reg 0 [⟨0, some 36, none, .p (.bin .lss), [.t 35, .t 34]⟩])
   (.seq (.cond (.t 36) (.skip)
   (.exit 4))
   (.seq (.block 5 (.seq (.reg 0 [⟨0, some 37, none, .p (.idx 1), [.t 33, .t 35]⟩,
    ⟨1, some 38, none, .r (.load false 1) false, [.t 37]⟩,
    ⟨2, some 10, none, .p .mov, [.t 38]⟩])
   (.reg 0 [⟨0, some 39, none, .p .mov, [.t 5]⟩,
    ⟨1, some 40, none, .p .mov, [.t 10]⟩,
    ⟨2, some 41, none, .e .call [] [], [.f 410, .t 39, .t 40]⟩,
    ⟨3, some 5, none, .p .mov, [.t 41]⟩])))
   (.reg 0 [⟨0, some 42, none, .p (.bin .add), [.t 35, .c (.int .i64 1)]⟩,
    ⟨1, some 35, none, .p .mov, [.t 42]⟩])))
def g649_1 : GL.Code := .seq (.reg 0 [⟨0, some 18, none, .p (.bin .lss), [.t 17, .t 16]⟩])
   (.seq (.cond (.t 18) (.skip)
   (.exit 2))
   (.seq (.block 3 (.seq (.reg 0 [⟨0, some 19, none, .p (.idx 2), [.t 15, .t 17]⟩,
    ⟨1, some 20, none, .r (.load true 2) false, [.t 19]⟩,
    ⟨2, some 8, none, .l (.alloc 8 [.nils, .nils]), []⟩,
    ⟨3, none, none, .l (.store 8 2), [.t 8, .t 20]⟩])
   (.seq (.reg 0 [⟨0, some 21, none, .p (.faddr 0), [.t 8]⟩,
    ⟨1, some 22, none, .l (.load 8 false 1), [.t 21]⟩,
    ⟨2, some 23, none, .p .mov, [.t 5]⟩,
    ⟨3, some 24, none, .e .call [] [], [.f 554, .t 22, .t 23]⟩,
    ⟨4, some 25, none, .p .mov, [.t 24]⟩,
    ⟨5, some 26, some (25, true), .p (.faddr 1), [.t 8]⟩,
    ⟨6, some 27, some (25, true), .l (.load 8 false 1), [.t 26]⟩,
    ⟨7, some 28, some (25, true), .p .mov, [.t 5]⟩,
    ⟨8, some 29, some (25, true), .e .call [] [], [.f 554, .t 27, .t 28]⟩,
    ⟨9, some 30, some (25, true), .p (.un .not), [.t 29]⟩,
    ⟨10, some 31, none, .p .pick, [.t 25, .t 30, .c (.bool false)]⟩])
   (.cond (.t 31) (.seq (.reg 0 [⟨0, some 6, none, .p .mov, [.c (.bool true)]⟩])
   (.seq (.reg 0 [⟨0, some 32, none, .p (.faddr 1), [.t 8]⟩,
    ⟨1, some 33, none, .l (.load 8 false 1), [.t 32]⟩,
    ⟨2, some 34, none, .p .len, [.t 33]⟩,
    ⟨3, some 35, none, .p .mov, [.c (.int .i64 0)]⟩])
   (.block 4 (.loop g649_0))))
   (.skip)))))
   (.reg 0 [⟨0, some 43, none, .p (.bin .add), [.t 17, .c (.int .i64 1)]⟩,
    ⟨1, some 17, none, .p .mov, [.t 43]⟩])))
def g649_2 : GL.Code := .seq (.seq (.reg 0 [⟨0, some 14, none, .p .mov, [.t 6]⟩])
   (.cond (.t 14) (.skip)
   (.exit 0)))
   (.block 1 (.seq (.reg 0 [⟨0, some 6, none, .p .mov, [.c (.bool false)]⟩])
   (.seq (.reg 0 [⟨0, some 15, none, .p .mov, [.t 0]⟩,
    ⟨1, some 16, none, .p .len, [.t 15]⟩,
    ⟨2, some 17, none, .p .mov, [.c (.int .i64 0)]⟩])
   (.block 2 (.loop g649_1)))))
def g649 : GL.Fn := ⟨.seq (.reg 0 [⟨0, some 4, none, .p .mov, [.c (.nils)]⟩])
   (.seq (.reg 0 [⟨0, some 11, none, .e (.new (.lit 1)) [] [], []⟩,
    ⟨1, some 12, none, .p .mov, [.t 1]⟩,
    ⟨2, some 13, none, .e (.append 1 8) [] [], [.t 11, .t 12]⟩,
    ⟨3, some 5, none, .p .mov, [.t 13]⟩])
   (.seq (.seq (.reg 0 [⟨0, some 6, none, .p .mov, [.c (.bool true)]⟩])
   (.block 0 (.loop g649_2)))
   (.seq (.reg 0 [⟨0, some 44, none, .p .mov, [.t 5]⟩,
    ⟨1, some 4, none, .p .mov, [.t 44]⟩])
   (.ret)))),
  [.tmp 4]⟩
/- loop.example/g00641/impl.isDep -/
def g656 : GL.Fn := ⟨.seq (.reg 0 [⟨0, some 3, none, .l (.box 3 2), [.t 1]⟩,
    ⟨1, some 4, none, .p .mov, [.c (.bool false)]⟩])
   (.seq (.reg 0 [⟨0, some 5, none, .p .mov, [.t 0]⟩,
    ⟨1, some 6, none, .p (.faddr 0), [.t 3]⟩,
    ⟨2, some 7, none, .l (.load 3 false 1), [.t 6]⟩,
    ⟨3, some 8, none, .e .call [] [], [.f 655, .t 5, .t 7]⟩,
    ⟨4, some 9, none, .p .mov, [.t 8]⟩,
    ⟨5, some 10, some (9, true), .p .mov, [.t 0]⟩,
    ⟨6, some 11, some (9, true), .p (.faddr 1), [.t 3]⟩,
    ⟨7, some 12, some (9, true), .l (.load 3 false 1), [.t 11]⟩,
    ⟨8, some 13, some (9, true), .e .call [] [], [.f 655, .t 10, .t 12]⟩,
    ⟨9, some 14, none, .p .pick, [.t 9, .t 13, .c (.bool false)]⟩,
    ⟨10, some 4, none, .p .mov, [.t 14]⟩])
   (.ret)),
  [.tmp 4]⟩
/- loop.example/g00641/impl.closure -/
def g645_0 : GL.Code := .seq (.reg 0 [⟨0, some 15, none, .p (.bin .lss), [.t 14, .t 13]⟩])
   (.seq (.cond (.t 15) (.skip)
   (.exit 2))
   (.seq (.block 3 (.seq (.reg 0 [⟨0, some 16, none, .p (.idx 2), [.t 12, .t 14]⟩,
    ⟨1, some 17, none, .r (.load true 2) false, [.t 16]⟩,
    ⟨2, some 8, none, .l (.alloc 8 [.nils, .nils]), []⟩,
    ⟨3, none, none, .l (.store 8 2), [.t 8, .t 17]⟩])
   (.seq (.reg 0 [⟨0, some 18, none, .p .mov, [.t 5]⟩,
    ⟨1, some 19, none, .p (.faddr 0), [.t 8]⟩,
    ⟨2, some 20, none, .l (.load 8 false 1), [.t 19]⟩,
    ⟨3, some 21, none, .e .call [] [], [.f 552, .t 18, .t 20]⟩,
    ⟨4, some 22, none, .p .mov, [.t 21]⟩,
    ⟨5, some 23, some (22, true), .p .mov, [.t 5]⟩,
    ⟨6, some 24, some (22, true), .p (.faddr 1), [.t 8]⟩,
    ⟨7, some 25, some (22, true), .l (.load 8 false 1), [.t 24]⟩,
    ⟨8, some 26, some (22, true), .e .call [] [], [.f 552, .t 23, .t 25]⟩,
    ⟨9, some 27, some (22, true), .p (.un .not), [.t 26]⟩,
    ⟨10, some 28, none, .p .pick, [.t 22, .t 27, .c (.bool false)]⟩])
   (.cond (.t 28) (.reg 0 [⟨0, some 29, none, .p .mov, [.t 5]⟩,
    ⟨1, some 30, none, .p (.faddr 1), [.t 8]⟩,
    ⟨2, some 31, none, .l (.load 8 false 1), [.t 30]⟩,
    ⟨3, some 32, none, .e .call [] [], [.f 412, .t 29, .t 31]⟩,
    ⟨4, some 5, none, .p .mov, [.t 32]⟩,
    ⟨5, some 6, none, .p .mov, [.c (.bool true)]⟩])
   (.skip)))))
   (.reg 0 [⟨0, some 33, none, .p (.bin .add), [.t 14, .c (.int .i64 1)]⟩,
    ⟨1, some 14, none, .p .mov, [.t 33]⟩])))
def g645_1 : GL.Code := .seq (.seq (.reg 0 [⟨0, some 11, none, .p .mov, [.t 6]⟩])
   (.cond (.t 11) (.skip)
   (.exit 0)))
   (.block 1 (.seq (.reg 0 [⟨0, some 6, none, .p .mov, [.c (.bool false)]⟩])
   (.seq (.reg 0 [⟨0, some 12, none, .p .mov, [.t 0]⟩,
    ⟨1, some 13, none, .p .len, [.t 12]⟩,
    ⟨2, some 14, none, .p .mov, [.c (.int .i64 0)]⟩])
   (.block 2 (.loop g645_0)))))
def g645 : GL.Fn := ⟨.seq (.reg 0 [⟨0, some 4, none, .p .mov, [.c (.nils)]⟩])
   (.seq (.reg 0 [⟨0, some 9, none, .p .mov, [.t 1]⟩,
    ⟨1, some 10, none, .e .call [] [], [.f 389, .t 9]⟩,
    ⟨2, some 5, none, .p .mov, [.t 10]⟩])
   (.seq (.seq (.reg 0 [⟨0, some 6, none, .p .mov, [.c (.bool true)]⟩])
   (.block 0 (.loop g645_1)))
   (.seq (.reg 0 [⟨0, some 34, none, .p .mov, [.t 5]⟩,
    ⟨1, some 4, none, .p .mov, [.t 34]⟩])
   (.ret)))),
  [.tmp 4]⟩
/- slices.Contains[[]int,int] -/
def g301 : GL.Fn := ⟨.seq (.reg 0 [⟨0, some 4, none, .p .mov, [.c (.bool false)]⟩])
   (.seq (.reg 0 [⟨0, some 5, none, .p .mov, [.t 0]⟩,
    ⟨1, some 6, none, .p .mov, [.t 1]⟩,
    ⟨2, some 7, none, .e .call [] [], [.f 390, .t 5, .t 6]⟩,
    ⟨3, some 8, none, .p (.bin .geq), [.t 7, .c (.int .i64 0)]⟩,
    ⟨4, some 4, none, .p .mov, [.t 8]⟩])
   (.ret)),
  [.tmp 4]⟩
/- loop.example/g00641/impl.related -/
def g673_0 : GL.Code := .seq (.reg 0 [⟨0, some 15, none, .p (.bin .lss), [.t 14, .t 13]⟩])
   (.seq (.cond (.t 15) (.skip)
   (.exit 0))
   (.seq (.block 1 (.seq (.reg 0 [⟨0, some 16, none, .p (.idx 1), [.t 12, .t 14]⟩,
    ⟨1, some 17, none, .r (.load false 1) false, [.t 16]⟩,
    ⟨2, some 8, none, .p .mov, [.t 17]⟩])
   (.reg 0 [⟨0, some 18, none, .p (.faddr 1), [.t 6]⟩,
    ⟨1, some 19, none, .l (.load 6 false 1), [.t 18]⟩,
    ⟨2, some 20, none, .p .mov, [.t 8]⟩,
    ⟨3, some 21, none, .e .call [] [], [.f 389, .t 20]⟩,
    ⟨4, some 22, none, .e (.new (.lit 1)) [] [], [.t 21]⟩,
    ⟨5, some 23, none, .e (.append 1 24) [] [], [.t 19, .t 22]⟩,
    ⟨6, some 24, none, .p (.faddr 1), [.t 6]⟩,
    ⟨7, none, none, .l (.store 6 1), [.t 24, .t 23]⟩])))
   (.reg 0 [⟨0, some 25, none, .p (.bin .add), [.t 14, .c (.int .i64 1)]⟩,
    ⟨1, some 14, none, .p .mov, [.t 25]⟩])))
def g673 : GL.Fn := ⟨.seq (.reg 0 [⟨0, some 4, none, .l (.alloc 4 [.nils, .nils]), []⟩,
    ⟨1, some 5, none, .p .mov, [.c (.bool false)]⟩])
   (.seq (.reg 0 [⟨0, some 9, none, .p .mov, [.t 0]⟩,
    ⟨1, some 10, none, .e .call [] [], [.f 389, .t 9]⟩,
    ⟨2, some 11, none, .p (.build [.nils, .nils] [(0, 1), (1, 1)]), [.t 10, .c (.nils)]⟩,
    ⟨3, some 6, none, .l (.alloc 6 [.nils, .nils]), []⟩,
    ⟨4, none, none, .l (.store 6 2), [.t 6, .t 11]⟩])
   (.seq (.seq (.reg 0 [⟨0, some 12, none, .p .mov, [.t 1]⟩,
    ⟨1, some 13, none, .p .len, [.t 12]⟩,
    ⟨2, some 14, none, .p .mov, [.c (.int .i64 0)]⟩])
   (.block 0 (.loop g673_0)))
   (.seq (.reg 0 [⟨0, some 26, none, .p (.faddr 1), [.t 6]⟩,
    ⟨1, some 27, none, .l (.load 6 false 1), [.t 26]⟩,
    ⟨2, some 28, none, .e .call [] [], [.f 685, .t 27, .f 677]⟩])
   (.seq (.reg 0 [⟨0, some 29, none, .p (.faddr 1), [.t 6]⟩,
    ⟨1, some 30, none, .l (.load 6 false 1), [.t 29]⟩,
    ⟨2, some 31, none, .e .call [] [], [.f 686, .t 30, .f 386]⟩,
    ⟨3, some 32, none, .p (.faddr 1), [.t 6]⟩,
    ⟨4, none, none, .l (.store 6 1), [.t 32, .t 31]⟩])
   (.seq (.seq (.reg 0 [⟨0, some 33, none, .l (.load 6 true 2), [.t 6]⟩,
    ⟨1, some 34, none, .e .call [] [], [.f 659, .t 33]⟩,
    ⟨2, some 35, none, .p (.un .not), [.t 34]⟩])
   (.cond (.t 35) (.seq (.reg 0 [⟨0, some 36, none, .p (.build [.nils, .nils] []), []⟩,
    ⟨1, none, none, .l (.store 4 2), [.t 4, .t 36]⟩,
    ⟨2, some 5, none, .p .mov, [.c (.bool false)]⟩])
   (.ret))
   (.skip)))
   (.seq (.reg 0 [⟨0, some 37, none, .l (.load 6 true 2), [.t 6]⟩,
    ⟨1, none, none, .l (.store 4 2), [.t 4, .t 37]⟩,
    ⟨2, some 5, none, .p .mov, [.c (.bool true)]⟩])
   (.ret))))))),
  [.cellL 4 4 true 2, .tmp 5]⟩
/- loop.example/g00641/spec.l1Has -/
def g302_0 : GL.Code := .seq (.reg 0 [⟨0, some 10, none, .p (.bin .lss), [.t 9, .t 8]⟩])
   (.seq (.cond (.t 10) (.skip)
   (.exit 0))
   (.seq (.block 1 (.seq (.reg 0 [⟨0, some 11, none, .p (.idx 1), [.t 7, .t 9]⟩,
    ⟨1, some 12, none, .r (.load false 1) false, [.t 11]⟩,
    ⟨2, some 6, none, .p .mov, [.t 12]⟩])
   (.seq (.reg 0 [⟨0, some 13, none, .p .mov, [.t 6]⟩,
    ⟨1, some 14, none, .p .mov, [.t 1]⟩,
    ⟨2, some 15, none, .p (.bin .eql), [.t 13, .t 14]⟩])
   (.cond (.t 15) (.seq (.reg 0 [⟨0, some 4, none, .p .mov, [.c (.bool true)]⟩])
   (.ret))
   (.skip)))))
   (.reg 0 [⟨0, some 16, none, .p (.bin .add), [.t 9, .c (.int .i64 1)]⟩,
    ⟨1, some 9, none, .p .mov, [.t 16]⟩])))
def g302 : GL.Fn := ⟨.seq (.reg 0 [⟨0, some 4, none, .p .mov, [.c (.bool false)]⟩])
   (.seq (.seq (.reg 0 [⟨0, some 7, none, .p .mov, [.t 0]⟩,
    ⟨1, some 8, none, .p .len, [.t 7]⟩,
    ⟨2, some 9, none, .p .mov, [.c (.int .i64 0)]⟩])
   (.block 0 (.loop g302_0)))
   (.seq (.reg 0 [⟨0, some 4, none, .p .mov, [.c (.bool false)]⟩])
   (.ret))),
  [.tmp 4]⟩
/- loop.example/g00641/spec.l3Tell -/
def g674_0 : GL.Code := .seq (.reg 0 [⟨0, some 16, none, .p (.bin .lss), [.t 15, .t 14]⟩])
   (.seq (.cond (.t 16) (.skip)
   (.exit 0))
   (.seq (.block 1 (.seq (.reg 0 [⟨0, some 17, none, .p (.idx 1), [.t 13, .t 15]⟩,
    ⟨1, some 18, none, .r (.load false 1) false, [.t 17]⟩,
    ⟨2, some 8, none, .p .mov, [.t 18]⟩])
   (.reg 0 [⟨0, some 19, none, .p (.faddr 1), [.t 6]⟩,
    ⟨1, some 20, none, .l (.load 6 false 1), [.t 19]⟩,
    ⟨2, some 21, none, .p .mov, [.t 8]⟩,
    ⟨3, some 22, none, .e .call [] [], [.f 687, .t 20, .t 21]⟩,
    ⟨4, some 23, none, .p (.faddr 1), [.t 6]⟩,
    ⟨5, none, none, .l (.store 6 1), [.t 23, .t 22]⟩])))
   (.reg 0 [⟨0, some 24, none, .p (.bin .add), [.t 15, .c (.int .i64 1)]⟩,
    ⟨1, some 15, none, .p .mov, [.t 24]⟩])))
def g674 : GL.Fn := ⟨.seq (.reg 0 [⟨0, some 4, none, .l (.alloc 4 [.nils, .nils]), []⟩,
    ⟨1, some 5, none, .p .mov, [.c (.bool false)]⟩])
   (.seq (.reg 0 [⟨0, some 9, none, .e (.new (.lit 1)) [] [], []⟩,
    ⟨1, some 10, none, .p .mov, [.t 0]⟩,
    ⟨2, some 11, none, .e (.append 1 8) [] [], [.t 9, .t 10]⟩,
    ⟨3, some 12, none, .p (.build [.nils, .nils] [(0, 1)]), [.t 11]⟩,
    ⟨4, some 6, none, .l (.alloc 6 [.nils, .nils]), []⟩,
    ⟨5, none, none, .l (.store 6 2), [.t 6, .t 12]⟩])
   (.seq (.seq (.reg 0 [⟨0, some 13, none, .p .mov, [.t 1]⟩,
    ⟨1, some 14, none, .p .len, [.t 13]⟩,
    ⟨2, some 15, none, .p .mov, [.c (.int .i64 0)]⟩])
   (.block 0 (.loop g674_0)))
   (.seq (.seq (.reg 0 [⟨0, some 25, none, .l (.load 6 true 2), [.t 6]⟩,
    ⟨1, some 26, none, .e .call [] [], [.f 662, .t 25]⟩,
    ⟨2, some 27, none, .p (.un .not), [.t 26]⟩])
   (.cond (.t 27) (.seq (.reg 0 [⟨0, some 28, none, .p (.build [.nils, .nils] []), []⟩,
    ⟨1, none, none, .l (.store 4 2), [.t 4, .t 28]⟩,
    ⟨2, some 5, none, .p .mov, [.c (.bool false)]⟩])
   (.ret))
   (.skip)))
   (.seq (.reg 0 [⟨0, some 29, none, .l (.load 6 true 2), [.t 6]⟩,
    ⟨1, none, none, .l (.store 4 2), [.t 4, .t 29]⟩,
    ⟨2, some 5, none, .p .mov, [.c (.bool true)]⟩])
   (.ret))))),
  [.cellL 4 4 true 2, .tmp 5]⟩
/- loop.example/g00641/impl.GoodRelation -/
def g659_0 : GL.Code := .seq (.reg 0 [⟨0, some 25, none, .p (.bin .lss), [.t 24, .t 23]⟩])
   (.seq (.cond (.t 25) (.skip)
   (.exit 0))
   (.seq (.block 1 (.seq (.reg 0 [⟨0, some 26, none, .p .mov, [.t 24]⟩,
    ⟨1, some 27, none, .p (.idx 1), [.t 22, .t 24]⟩,
    ⟨2, some 28, none, .r (.load false 1) false, [.t 27]⟩,
    ⟨3, some 3, none, .p .mov, [.t 26]⟩,
    ⟨4, some 4, none, .p .mov, [.t 28]⟩])
   (.seq (.seq (.reg 0 [⟨0, some 29, none, .p .mov, [.t 4]⟩,
    ⟨1, some 30, none, .p .len, [.t 29]⟩,
    ⟨2, some 31, none, .p (.faddr 0), [.t 1]⟩,
    ⟨3, some 32, none, .l (.load 1 false 1), [.t 31]⟩,
    ⟨4, some 33, none, .p .len, [.t 32]⟩,
    ⟨5, some 34, none, .p (.bin .neq), [.t 30, .t 33]⟩,
    ⟨6, some 35, none, .p .mov, [.t 34]⟩,
    ⟨7, some 36, some (35, false), .p .mov, [.t 4]⟩,
    ⟨8, some 37, some (35, false), .e .call [] [], [.f 304, .t 36, .f 676]⟩,
    ⟨9, some 38, none, .p .pick, [.t 35, .c (.bool true), .t 37]⟩])
   (.cond (.t 38) (.seq (.reg 0 [⟨0, some 2, none, .p .mov, [.c (.bool false)]⟩])
   (.ret))
   (.skip)))
   (.seq (.reg 0 [⟨0, some 39, none, .p .mov, [.t 3]⟩,
    ⟨1, some 40, none, .p (.bin .gtr), [.t 39, .c (.int .i64 0)]⟩,
    ⟨2, some 41, none, .p .mov, [.t 40]⟩,
    ⟨3, some 42, some (41, true), .p (.faddr 1), [.t 1]⟩,
    ⟨4, some 43, some (41, true), .l (.load 1 false 1), [.t 42]⟩,
    ⟨5, some 44, some (41, true), .p .mov, [.t 3]⟩,
    ⟨6, some 45, some (41, true), .p (.bin .sub), [.t 44, .c (.int .i64 1)]⟩,
    ⟨7, some 46, some (41, true), .p (.idx 1), [.t 43, .t 45]⟩,
    ⟨8, some 47, some (41, true), .r (.load false 1) false, [.t 46]⟩,
    ⟨9, some 48, some (41, true), .p .mov, [.t 4]⟩,
    ⟨10, some 49, some (41, true), .e .call [] [], [.f 677, .t 47, .t 48]⟩,
    ⟨11, some 50, some (41, true), .p (.bin .geq), [.t 49, .c (.int .i64 0)]⟩,
    ⟨12, some 51, none, .p .pick, [.t 41, .t 50, .c (.bool false)]⟩])
   (.cond (.t 51) (.seq (.reg 0 [⟨0, some 2, none, .p .mov, [.c (.bool false)]⟩])
   (.ret))
   (.skip))))))
   (.reg 0 [⟨0, some 52, none, .p (.bin .add), [.t 24, .c (.int .i64 1)]⟩,
    ⟨1, some 24, none, .p .mov, [.t 52]⟩])))
def g659 : GL.Fn := ⟨.seq (.reg 0 [⟨0, some 1, none, .l (.box 1 2), [.t 0]⟩,
    ⟨1, some 2, none, .p .mov, [.c (.bool false)]⟩])
   (.seq (.seq (.reg 0 [⟨0, some 5, none, .p (.faddr 0), [.t 1]⟩,
    ⟨1, some 6, none, .l (.load 1 false 1), [.t 5]⟩,
    ⟨2, some 7, none, .p .len, [.t 6]⟩,
    ⟨3, some 8, none, .p (.bin .gtr), [.t 7, .c (.int .i64 6)]⟩,
    ⟨4, some 9, none, .p .mov, [.t 8]⟩,
    ⟨5, some 10, some (9, false), .p (.faddr 0), [.t 1]⟩,
    ⟨6, some 11, some (9, false), .l (.load 1 false 1), [.t 10]⟩,
    ⟨7, some 12, some (9, false), .e .call [] [], [.f 385, .t 11, .c (.int .i64 0), .c (.int .i64 20)]⟩,
    ⟨8, some 13, some (9, false), .p (.un .not), [.t 12]⟩,
    ⟨9, some 14, none, .p .pick, [.t 9, .c (.bool true), .t 13]⟩,
    ⟨10, some 15, none, .p .mov, [.t 14]⟩,
    ⟨11, some 16, some (15, false), .p (.faddr 1), [.t 1]⟩,
    ⟨12, some 17, some (15, false), .l (.load 1 false 1), [.t 16]⟩,
    ⟨13, some 18, some (15, false), .p .len, [.t 17]⟩,
    ⟨14, some 19, some (15, false), .p (.bin .gtr), [.t 18, .c (.int .i64 60)]⟩,
    ⟨15, some 20, none, .p .pick, [.t 15, .c (.bool true), .t 19]⟩])
   (.cond (.t 20) (.seq (.reg 0 [⟨0, some 2, none, .p .mov, [.c (.bool false)]⟩])
   (.ret))
   (.skip)))
   (.seq (.seq (.reg 0 [⟨0, some 21, none, .p (.faddr 1), [.t 1]⟩,
    ⟨1, some 22, none, .l (.load 1 false 1), [.t 21]⟩,
    ⟨2, some 23, none, .p .len, [.t 22]⟩,
    ⟨3, some 24, none, .p .mov, [.c (.int .i64 0)]⟩])
   (.block 0 (.loop g659_0)))
   (.seq (.reg 0 [⟨0, some 2, none, .p .mov, [.c (.bool true)]⟩])
   (.ret)))),
  [.tmp 2]⟩
/- slices.Equal[[]int,int] -/
def g386_0 : GL.Code := .seq (.reg 0 [⟨0, some 14, none, .p (.bin .lss), [.t 13, .t 12]⟩])
   (.seq (.cond (.t 14) (.skip)
   (.exit 0))
   (.seq (.block 1 (.seq (.reg 0 [⟨0, some 15, none, .p .mov, [.t 13]⟩,
    ⟨1, some 5, none, .p .mov, [.t 15]⟩])
   (.seq (.reg 0 [⟨0, some 16, none, .p .mov, [.t 0]⟩,
    ⟨1, some 17, none, .p .mov, [.t 5]⟩,
    ⟨2, some 18, none, .p (.idx 1), [.t 16, .t 17]⟩,
    ⟨3, some 19, none, .r (.load false 1) false, [.t 18]⟩,
    ⟨4, some 20, none, .p .mov, [.t 1]⟩,
    ⟨5, some 21, none, .p .mov, [.t 5]⟩,
    ⟨6, some 22, none, .p (.idx 1), [.t 20, .t 21]⟩,
    ⟨7, some 23, none, .r (.load false 1) false, [.t 22]⟩,
    ⟨8, some 24, none, .p (.bin .neq), [.t 19, .t 23]⟩])
   (.cond (.t 24) (.seq (.reg 0 [⟨0, some 4, none, .p .mov, [.c (.bool false)]⟩])
   (.ret))
   (.skip)))))
   (.reg 0 [⟨0, some 25, none, .p (.bin .add), [.t 13, .c (.int .i64 1)]⟩,
    ⟨1, some 13, none, .p .mov, [.t 25]⟩])))
def g386 : GL.Fn := ⟨.seq (.reg 0 [⟨0, some 4, none, .p .mov, [.c (.bool false)]⟩])
   (.seq (.seq (.reg 0 [⟨0, some 6, none, .p .mov, [.t 0]⟩,
    ⟨1, some 7, none, .p .len, [.t 6]⟩,
    ⟨2, some 8, none, .p .mov, [.t 1]⟩,
    ⟨3, some 9, none, .p .len, [.t 8]⟩,
    ⟨4, some 10, none, .p (.bin .neq), [.t 7, .t 9]⟩])
   (.cond (.t 10) (.seq (.reg 0 [⟨0, some 4, none, .p .mov, [.c (.bool false)]⟩])
   (.ret))
   (.skip)))
   (.seq (.seq (.reg 0 [⟨0, some 11, none, .p .mov, [.t 0]⟩,
    ⟨1, some 12, none, .p .len, [.t 11]⟩,
    ⟨2, some 13, none, .p .mov, [.c (.int .i64 0)]⟩])
   (.block 0 (.loop g386_0)))
   (.seq (.reg 0 [⟨0, some 4, none, .p .mov, [.c (.bool true)]⟩])
   (.ret)))),
  [.tmp 4]⟩
/- loop.example/g00641/impl.under -/
def g661_0 : GL.Code := .seq (.reg 0 [⟨0, some 14, none, .p (.bin .lss), [.t 13, .t 12]⟩])
   (.seq (.cond (.t 14) (.skip)
   (.exit 0))
   (.seq (.block 1 (.seq (.reg 0 [⟨0, some 15, none, .p (.idx 1), [.t 11, .t 13]⟩,
    ⟨1, some 16, none, .r (.load false 1) false, [.t 15]⟩,
    ⟨2, some 9, none, .p .mov, [.t 16]⟩])
   (.reg 0 [⟨0, some 17, none, .p .mov, [.t 7]⟩,
    ⟨1, some 18, none, .p .mov, [.t 1]⟩,
    ⟨2, some 19, none, .p .mov, [.t 0]⟩,
    ⟨3, some 20, none, .p .mov, [.t 9]⟩,
    ⟨4, some 21, none, .e .call [] [], [.f 390, .t 19, .t 20]⟩,
    ⟨5, some 22, none, .p (.idx 1), [.t 18, .t 21]⟩,
    ⟨6, some 23, none, .r (.load false 1) false, [.t 22]⟩,
    ⟨7, some 24, none, .e (.new (.lit 1)) [] [], [.t 23]⟩,
    ⟨8, some 25, none, .e (.append 1 8) [] [], [.t 17, .t 24]⟩,
    ⟨9, some 7, none, .p .mov, [.t 25]⟩])))
   (.reg 0 [⟨0, some 26, none, .p (.bin .add), [.t 13, .c (.int .i64 1)]⟩,
    ⟨1, some 13, none, .p .mov, [.t 26]⟩])))
def g661 : GL.Fn := ⟨.seq (.reg 0 [⟨0, some 6, none, .p .mov, [.c (.nils)]⟩])
   (.seq (.reg 0 [⟨0, some 10, none, .e (.new (.lit 1)) [] [], []⟩,
    ⟨1, some 7, none, .p .mov, [.t 10]⟩])
   (.seq (.seq (.reg 0 [⟨0, some 11, none, .p .mov, [.t 2]⟩,
    ⟨1, some 12, none, .p .len, [.t 11]⟩,
    ⟨2, some 13, none, .p .mov, [.c (.int .i64 0)]⟩])
   (.block 0 (.loop g661_0)))
   (.seq (.reg 0 [⟨0, some 27, none, .p .mov, [.t 7]⟩,
    ⟨1, some 6, none, .p .mov, [.t 27]⟩])
   (.ret)))),
  [.tmp 6]⟩
/- loop.example/g00641/spec.l1Rising -/
def g337_0 : GL.Code := .seq (.reg 0 [⟨0, some 12, none, .p (.bin .lss), [.t 11, .t 10]⟩])
   (.seq (.cond (.t 12) (.skip)
   (.exit 0))
   (.seq (.block 1 (.seq (.reg 0 [⟨0, some 13, none, .p .mov, [.t 11]⟩,
    ⟨1, some 14, none, .p (.idx 1), [.t 9, .t 11]⟩,
    ⟨2, some 15, none, .r (.load false 1) false, [.t 14]⟩,
    ⟨3, some 7, none, .p .mov, [.t 13]⟩,
    ⟨4, some 8, none, .p .mov, [.t 15]⟩])
   (.seq (.reg 0 [⟨0, some 16, none, .p .mov, [.t 8]⟩,
    ⟨1, some 17, none, .p .mov, [.t 1]⟩,
    ⟨2, some 18, none, .p .mov, [.t 2]⟩,
    ⟨3, some 19, none, .e .call [] [], [.f 98, .t 16, .t 17, .t 18]⟩,
    ⟨4, some 20, none, .p (.un .not), [.t 19]⟩,
    ⟨5, some 21, none, .p .mov, [.t 20]⟩,
    ⟨6, some 22, some (21, false), .p .mov, [.t 7]⟩,
    ⟨7, some 23, some (21, false), .p (.bin .gtr), [.t 22, .c (.int .i64 0)]⟩,
    ⟨8, some 24, some (21, false), .p .mov, [.t 23]⟩,
    ⟨9, some 25, some (24, true), .p .mov, [.t 0]⟩,
    ⟨10, some 26, some (24, true), .p .mov, [.t 7]⟩,
    ⟨11, some 27, some (24, true), .p (.bin .sub), [.t 26, .c (.int .i64 1)]⟩,
    ⟨12, some 28, some (24, true), .p (.idx 1), [.t 25, .t 27]⟩,
    ⟨13, some 29, some (24, true), .r (.load false 1) false, [.t 28]⟩,
    ⟨14, some 30, some (24, true), .p .mov, [.t 8]⟩,
    ⟨15, some 31, some (24, true), .p (.bin .geq), [.t 29, .t 30]⟩,
    ⟨16, some 32, some (21, false), .p .pick, [.t 24, .t 31, .c (.bool false)]⟩,
    ⟨17, some 33, none, .p .pick, [.t 21, .c (.bool true), .t 32]⟩])
   (.cond (.t 33) (.seq (.reg 0 [⟨0, some 6, none, .p .mov, [.c (.bool false)]⟩])
   (.ret))
   (.skip)))))
   (.reg 0 [⟨0, some 34, none, .p (.bin .add), [.t 11, .c (.int .i64 1)]⟩,
    ⟨1, some 11, none, .p .mov, [.t 34]⟩])))
def g337 : GL.Fn := ⟨.seq (.reg 0 [⟨0, some 6, none, .p .mov, [.c (.bool false)]⟩])
   (.seq (.seq (.reg 0 [⟨0, some 9, none, .p .mov, [.t 0]⟩,
    ⟨1, some 10, none, .p .len, [.t 9]⟩,
    ⟨2, some 11, none, .p .mov, [.c (.int .i64 0)]⟩])
   (.block 0 (.loop g337_0)))
   (.seq (.reg 0 [⟨0, some 6, none, .p .mov, [.c (.bool true)]⟩])
   (.ret))),
  [.tmp 6]⟩
/- slices.ContainsFunc[[]loop.example/g00641/impl.Dep,loop.example/g00641/impl.Dep] -/
def g654 : GL.Fn := ⟨.seq (.reg 0 [⟨0, some 4, none, .p .mov, [.c (.bool false)]⟩])
   (.seq (.reg 0 [⟨0, some 5, none, .p .mov, [.t 0]⟩,
    ⟨1, some 6, none, .p .mov, [.t 1]⟩,
    ⟨2, some 7, none, .e .call [] [], [.f 675, .t 5, .t 6]⟩,
    ⟨3, some 8, none, .p (.bin .geq), [.t 7, .c (.int .i64 0)]⟩,
    ⟨4, some 4, none, .p .mov, [.t 8]⟩])
   (.ret)),
  [.tmp 4]⟩
/- loop.example/g00641/impl.GoodDeps$1 -/
def g653 : GL.Fn := ⟨.seq (.reg 0 [⟨0, some 2, none, .l (.box 2 2), [.t 0]⟩,
    ⟨1, some 3, none, .p .mov, [.c (.bool false)]⟩])
   (.seq (.reg 0 [⟨0, some 4, none, .r (.load false 1) false, [.t 1]⟩,
    ⟨1, some 5, none, .l (.load 2 true 2), [.t 2]⟩,
    ⟨2, some 6, none, .e .call [] [], [.f 656, .t 4, .t 5]⟩,
    ⟨3, some 7, none, .p (.un .not), [.t 6]⟩,
    ⟨4, some 3, none, .p .mov, [.t 7]⟩])
   (.ret)),
  [.tmp 3]⟩
/- slices.Concat[[]int,int] -/
def g429_0 : GL.Code := .seq (.reg 0 [⟨0, some 12, none, .p (.bin .lss), [.t 11, .t 10]⟩])
   (.seq (.cond (.t 12) (.skip)
   (.exit 0))
   (.seq (.block 1 (.seq (.reg 0 [⟨0, some 13, none, .p (.idx 1), [.t 9, .t 11]⟩,
    ⟨1, some 14, none, .r (.load false 1) false, [.t 13]⟩,
    ⟨2, some 5, none, .p .mov, [.t 14]⟩])
   (.seq (.reg 0 [⟨0, some 15, none, .p .mov, [.t 3]⟩,
    ⟨1, some 16, none, .p .mov, [.t 5]⟩,
    ⟨2, some 17, none, .p .len, [.t 16]⟩,
    ⟨3, some 18, none, .p (.bin .add), [.t 15, .t 17]⟩,
    ⟨4, some 3, none, .p .mov, [.t 18]⟩])
   (.seq (.reg 0 [⟨0, some 19, none, .p .mov, [.t 3]⟩,
    ⟨1, some 20, none, .p (.bin .lss), [.t 19, .c (.int .i64 0)]⟩])
   (.cond (.t 20) (.reg 0 [⟨0, some 21, none, .p .bad, []⟩,
    ⟨1, none, none, .p .bad, []⟩])
   (.skip))))))
   (.reg 0 [⟨0, some 22, none, .p (.bin .add), [.t 11, .c (.int .i64 1)]⟩,
    ⟨1, some 11, none, .p .mov, [.t 22]⟩])))
def g429_1 : GL.Code := .seq (.reg 0 [⟨0, some 28, none, .p (.bin .lss), [.t 27, .t 26]⟩])
   (.seq (.cond (.t 28) (.skip)
   (.exit 2))
   (.seq (.block 3 (.seq (.reg 0 [⟨0, some 29, none, .p (.idx 1), [.t 25, .t 27]⟩,
    ⟨1, some 30, none, .r (.load false 1) false, [.t 29]⟩,
    ⟨2, some 8, none, .p .mov, [.t 30]⟩])
   (.reg 0 [⟨0, some 31, none, .p .mov, [.t 6]⟩,
    ⟨1, some 32, none, .p .mov, [.t 8]⟩,
    ⟨2, some 33, none, .e (.append 1 8) [] [], [.t 31, .t 32]⟩,
    ⟨3, some 6, none, .p .mov, [.t 33]⟩])))
   (.reg 0 [⟨0, some 34, none, .p (.bin .add), [.t 27, .c (.int .i64 1)]⟩,
    ⟨1, some 27, none, .p .mov, [.t 34]⟩])))
def g429 : GL.Fn := ⟨.seq (.reg 0 [⟨0, some 2, none, .p .mov, [.c (.nils)]⟩])
   (.seq (.reg 0 [⟨0, some 3, none, .p .mov, [.c (.int .i64 0)]⟩])
   (.seq (.seq (.reg 0 [⟨0, some 9, none, .p .mov, [.t 0]⟩,
    ⟨1, some 10, none, .p .len, [.t 9]⟩,
    ⟨2, some 11, none, .p .mov, [.c (.int .i64 0)]⟩])
   (.block 0 (.loop g429_0)))
   (.seq (.reg 0 [⟨0, some 23, none, .p .mov, [.t 3]⟩,
    ⟨1, some 24, none, .e .call [] [], [.f 436, .c (.nils), .t 23]⟩,
    ⟨2, some 6, none, .p .mov, [.t 24]⟩])
   (.seq (.seq (.reg 0 [⟨0, some 25, none, .p .mov, [.t 0]⟩,
    ⟨1, some 26, none, .p .len, [.t 25]⟩,
    ⟨2, some 27, none, .p .mov, [.c (.int .i64 0)]⟩])
   (.block 2 (.loop g429_1)))
   (.seq (.reg 0 [⟨0, some 35, none, .p .mov, [.t 6]⟩,
    ⟨1, some 2, none, .p .mov, [.t 35]⟩])
   (.ret)))))),
  [.tmp 2]⟩
/- slices.Compact[[]int,int] -/
def g430_0 : GL.Code := .seq (.seq (.reg 0 [⟨0, some 29, none, .p .mov, [.t 5]⟩,
    ⟨1, some 30, none, .p .mov, [.t 4]⟩,
    ⟨2, some 31, none, .p .len, [.t 30]⟩,
    ⟨3, some 32, none, .p (.bin .lss), [.t 29, .t 31]⟩])
   (.cond (.t 32) (.skip)
   (.exit 2)))
   (.seq (.block 3 (.seq (.reg 0 [⟨0, some 35, none, .p .mov, [.t 4]⟩,
    ⟨1, some 36, none, .p .mov, [.t 5]⟩,
    ⟨2, some 37, none, .p (.idx 1), [.t 35, .t 36]⟩,
    ⟨3, some 38, none, .r (.load false 1) false, [.t 37]⟩,
    ⟨4, some 39, none, .p .mov, [.t 4]⟩,
    ⟨5, some 40, none, .p .mov, [.t 5]⟩,
    ⟨6, some 41, none, .p (.bin .sub), [.t 40, .c (.int .i64 1)]⟩,
    ⟨7, some 42, none, .p (.idx 1), [.t 39, .t 41]⟩,
    ⟨8, some 43, none, .r (.load false 1) false, [.t 42]⟩,
    ⟨9, some 44, none, .p (.bin .neq), [.t 38, .t 43]⟩])
   (.cond (.t 44) (.seq (.reg 0 [⟨0, some 45, none, .p .mov, [.t 0]⟩,
    ⟨1, some 46, none, .p .mov, [.t 3]⟩,
    ⟨2, some 47, none, .p .mov, [.t 4]⟩,
    ⟨3, some 48, none, .p .mov, [.t 5]⟩,
    ⟨4, some 49, none, .p (.idx 1), [.t 47, .t 48]⟩,
    ⟨5, some 50, none, .r (.load false 1) false, [.t 49]⟩,
    ⟨6, some 51, none, .p (.idx 1), [.t 45, .t 46]⟩,
    ⟨7, none, none, .e (.store 1) [] [], [.t 51, .t 50]⟩])
   (.reg 0 [⟨0, some 52, none, .p .mov, [.t 3]⟩,
    ⟨1, some 53, none, .p (.bin .add), [.t 52, .c (.int .i64 1)]⟩,
    ⟨2, some 3, none, .p .mov, [.t 53]⟩]))
   (.skip))))
   (.reg 0 [⟨0, some 33, none, .p .mov, [.t 5]⟩,
    ⟨1, some 34, none, .p (.bin .add), [.t 33, .c (.int .i64 1)]⟩,
    ⟨2, some 5, none, .p .mov, [.t 34]⟩]))
def g430_1 : GL.Code := .seq (.seq (.reg 0 [⟨0, some 10, none, .p .mov, [.t 3]⟩,
    ⟨1, some 11, none, .p .mov, [.t 0]⟩,
    ⟨2, some 12, none, .p .len, [.t 11]⟩,
    ⟨3, some 13, none, .p (.bin .lss), [.t 10, .t 12]⟩])
   (.cond (.t 13) (.skip)
   (.exit 0)))
   (.seq (.block 1 (.seq (.reg 0 [⟨0, some 16, none, .p .mov, [.t 0]⟩,
    ⟨1, some 17, none, .p .mov, [.t 3]⟩,
    ⟨2, some 18, none, .p (.idx 1), [.t 16, .t 17]⟩,
    ⟨3, some 19, none, .r (.load false 1) false, [.t 18]⟩,
    ⟨4, some 20, none, .p .mov, [.t 0]⟩,
    ⟨5, some 21, none, .p .mov, [.t 3]⟩,
    ⟨6, some 22, none, .p (.bin .sub), [.t 21, .c (.int .i64 1)]⟩,
    ⟨7, some 23, none, .p (.idx 1), [.t 20, .t 22]⟩,
    ⟨8, some 24, none, .r (.load false 1) false, [.t 23]⟩,
    ⟨9, some 25, none, .p (.bin .eql), [.t 19, .t 24]⟩])
   (.cond (.t 25) (.seq (.reg 0 [⟨0, some 26, none, .p .mov, [.t 0]⟩,
    ⟨1, some 27, none, .p .mov, [.t 3]⟩,
    ⟨2, some 28, none, .p (.slice 1 true false false), [.t 26, .t 27]⟩,
    ⟨3, some 4, none, .p .mov, [.t 28]⟩])
   (.seq (.seq (.reg 0 [⟨0, some 5, none, .p .mov, [.c (.int .i64 1)]⟩])
   (.block 2 (.loop g430_0)))
   (.seq (.reg 0 [⟨0, some 54, none, .p .mov, [.t 0]⟩,
    ⟨1, some 55, none, .p .mov, [.t 3]⟩,
    ⟨2, some 56, none, .p (.slice 1 true false false), [.t 54, .t 55]⟩,
    ⟨3, none, none, .e (.clear 1 [.int .i64 0]) [] [], [.t 56]⟩])
   (.seq (.reg 0 [⟨0, some 57, none, .p .mov, [.t 0]⟩,
    ⟨1, some 58, none, .p .mov, [.t 3]⟩,
    ⟨2, some 59, none, .p (.slice 1 false true false), [.t 57, .t 58]⟩,
    ⟨3, some 2, none, .p .mov, [.t 59]⟩])
   (.ret)))))
   (.skip))))
   (.reg 0 [⟨0, some 14, none, .p .mov, [.t 3]⟩,
    ⟨1, some 15, none, .p (.bin .add), [.t 14, .c (.int .i64 1)]⟩,
    ⟨2, some 3, none, .p .mov, [.t 15]⟩]))
def g430 : GL.Fn := ⟨.seq (.reg 0 [⟨0, some 2, none, .p .mov, [.c (.nils)]⟩])
   (.seq (.seq (.reg 0 [⟨0, some 6, none, .p .mov, [.t 0]⟩,
    ⟨1, some 7, none, .p .len, [.t 6]⟩,
    ⟨2, some 8, none, .p (.bin .lss), [.t 7, .c (.int .i64 2)]⟩])
   (.cond (.t 8) (.seq (.reg 0 [⟨0, some 9, none, .p .mov, [.t 0]⟩,
    ⟨1, some 2, none, .p .mov, [.t 9]⟩])
   (.ret))
   (.skip)))
   (.seq (.seq (.reg 0 [⟨0, some 3, none, .p .mov, [.c (.int .i64 1)]⟩])
   (.block 0 (.loop g430_1)))
   (.seq (.reg 0 [⟨0, some 60, none, .p .mov, [.t 0]⟩,
    ⟨1, some 2, none, .p .mov, [.t 60]⟩])
   (.ret)))),
  [.tmp 2]⟩
/- slices.Clone[[]int,int] -/
def g389 : GL.Fn := ⟨.seq (.reg 0 [⟨0, some 2, none, .p .mov, [.c (.nils)]⟩])
   (.seq (.seq (.reg 0 [⟨0, some 3, none, .p .mov, [.t 0]⟩,
    ⟨1, some 4, none, .p (.isNil false), [.t 3]⟩])
   (.cond (.t 4) (.seq (.reg 0 [⟨0, some 2, none, .p .mov, [.c (.nils)]⟩])
   (.ret))
   (.skip)))
   (.seq (.reg 0 [⟨0, some 5, none, .e (.new (.lit 1)) [] [], []⟩,
    ⟨1, some 6, none, .p .mov, [.t 0]⟩,
    ⟨2, some 7, none, .e (.append 1 8) [] [], [.t 5, .t 6]⟩,
    ⟨3, some 2, none, .p .mov, [.t 7]⟩])
   (.ret))),
  [.tmp 2]⟩
/- loop.example/g00641/spec.l1In -/
def g98 : GL.Fn := ⟨.seq (.reg 0 [⟨0, some 6, none, .p .mov, [.c (.bool false)]⟩])
   (.seq (.reg 0 [⟨0, some 7, none, .p .mov, [.t 0]⟩,
    ⟨1, some 8, none, .p .mov, [.t 1]⟩,
    ⟨2, some 9, none, .p (.bin .geq), [.t 7, .t 8]⟩,
    ⟨3, some 10, none, .p .mov, [.t 9]⟩,
    ⟨4, some 11, some (10, true), .p .mov, [.t 0]⟩,
    ⟨5, some 12, some (10, true), .p .mov, [.t 2]⟩,
    ⟨6, some 13, some (10, true), .p (.bin .leq), [.t 11, .t 12]⟩,
    ⟨7, some 14, none, .p .pick, [.t 10, .t 13, .c (.bool false)]⟩,
    ⟨8, some 6, none, .p .mov, [.t 14]⟩])
   (.ret)),
  [.tmp 6]⟩
/- loop.example/g00641/spec.l1Put -/
def g410_0 : GL.Code := .seq (.seq (.reg 0 [⟨0, some 7, none, .p .mov, [.t 5]⟩,
    ⟨1, some 8, none, .p .mov, [.t 0]⟩,
    ⟨2, some 9, none, .p .len, [.t 8]⟩,
    ⟨3, some 10, none, .p (.bin .lss), [.t 7, .t 9]⟩,
    ⟨4, some 11, none, .p .mov, [.t 10]⟩,
    ⟨5, some 12, some (11, true), .p .mov, [.t 0]⟩,
    ⟨6, some 13, some (11, true), .p .mov, [.t 5]⟩,
    ⟨7, some 14, some (11, true), .p (.idx 1), [.t 12, .t 13]⟩,
    ⟨8, some 15, some (11, true), .r (.load false 1) false, [.t 14]⟩,
    ⟨9, some 16, some (11, true), .p .mov, [.t 1]⟩,
    ⟨10, some 17, some (11, true), .p (.bin .lss), [.t 15, .t 16]⟩,
    ⟨11, some 18, none, .p .pick, [.t 11, .t 17, .c (.bool false)]⟩])
   (.cond (.t 18) (.skip)
   (.exit 0)))
   (.block 1 (.reg 0 [⟨0, some 19, none, .p .mov, [.t 5]⟩,
    ⟨1, some 20, none, .p (.bin .add), [.t 19, .c (.int .i64 1)]⟩,
    ⟨2, some 5, none, .p .mov, [.t 20]⟩]))
def g410 : GL.Fn := ⟨.seq (.reg 0 [⟨0, some 4, none, .p .mov, [.c (.nils)]⟩])
   (.seq (.reg 0 [⟨0, some 5, none, .p .mov, [.c (.int .i64 0)]⟩])
   (.seq (.block 0 (.loop g410_0))
   (.seq (.seq (.reg 0 [⟨0, some 21, none, .p .mov, [.t 5]⟩,
    ⟨1, some 22, none, .p .mov, [.t 0]⟩,
    ⟨2, some 23, none, .p .len, [.t 22]⟩,
    ⟨3, some 24, none, .p (.bin .lss), [.t 21, .t 23]⟩,
    ⟨4, some 25, none, .p .mov, [.t 24]⟩,
    ⟨5, some 26, some (25, true), .p .mov, [.t 0]⟩,
    ⟨6, some 27, some (25, true), .p .mov, [.t 5]⟩,
    ⟨7, some 28, some (25, true), .p (.idx 1), [.t 26, .t 27]⟩,
    ⟨8, some 29, some (25, true), .r (.load false 1) false, [.t 28]⟩,
    ⟨9, some 30, some (25, true), .p .mov, [.t 1]⟩,
    ⟨10, some 31, some (25, true), .p (.bin .eql), [.t 29, .t 30]⟩,
    ⟨11, some 32, none, .p .pick, [.t 25, .t 31, .c (.bool false)]⟩])
   (.cond (.t 32) (.seq (.reg 0 [⟨0, some 33, none, .p .mov, [.t 0]⟩,
    ⟨1, some 4, none, .p .mov, [.t 33]⟩])
   (.ret))
   (.skip)))
   (.seq (.reg 0 [⟨0, some 34, none, .e (.new (.lit 1)) [] [], []⟩,
    ⟨1, some 35, none, .p .mov, [.t 0]⟩,
    ⟨2, some 36, none, .p .mov, [.t 5]⟩,
    ⟨3, some 37, none, .p (.slice 1 false true false), [.t 35, .t 36]⟩,
    ⟨4, some 38, none, .e (.append 1 8) [] [], [.t 34, .t 37]⟩,
    ⟨5, some 6, none, .p .mov, [.t 38]⟩])
   (.seq (.reg 0 [⟨0, some 39, none, .p .mov, [.t 6]⟩,
    ⟨1, some 40, none, .p .mov, [.t 1]⟩,
    ⟨2, some 41, none, .e (.new (.lit 1)) [] [], [.t 40]⟩,
    ⟨3, some 42, none, .e (.append 1 8) [] [], [.t 39, .t 41]⟩,
    ⟨4, some 6, none, .p .mov, [.t 42]⟩])
   (.seq (.reg 0 [⟨0, some 43, none, .p .mov, [.t 6]⟩,
    ⟨1, some 44, none, .p .mov, [.t 0]⟩,
    ⟨2, some 45, none, .p .mov, [.t 5]⟩,
    ⟨3, some 46, none, .p (.slice 1 true false false), [.t 44, .t 45]⟩,
    ⟨4, some 47, none, .e (.append 1 8) [] [], [.t 43, .t 46]⟩,
    ⟨5, some 4, none, .p .mov, [.t 47]⟩])
   (.ret))))))),
  [.tmp 4]⟩
/- loop.example/g00641/impl.isRising -/
def g385_0 : GL.Code := .seq (.reg 0 [⟨0, some 12, none, .p (.bin .lss), [.t 11, .t 10]⟩])
   (.seq (.cond (.t 12) (.skip)
   (.exit 0))
   (.seq (.block 1 (.seq (.reg 0 [⟨0, some 13, none, .p .mov, [.t 11]⟩,
    ⟨1, some 14, none, .p (.idx 1), [.t 9, .t 11]⟩,
    ⟨2, some 15, none, .r (.load false 1) false, [.t 14]⟩,
    ⟨3, some 7, none, .p .mov, [.t 13]⟩,
    ⟨4, some 8, none, .p .mov, [.t 15]⟩])
   (.seq (.reg 0 [⟨0, some 16, none, .p .mov, [.t 8]⟩,
    ⟨1, some 17, none, .p .mov, [.t 1]⟩,
    ⟨2, some 18, none, .p .mov, [.t 2]⟩,
    ⟨3, some 19, none, .e .call [] [], [.f 107, .t 16, .t 17, .t 18]⟩,
    ⟨4, some 20, none, .p (.un .not), [.t 19]⟩,
    ⟨5, some 21, none, .p .mov, [.t 20]⟩,
    ⟨6, some 22, some (21, false), .p .mov, [.t 7]⟩,
    ⟨7, some 23, some (21, false), .p (.bin .gtr), [.t 22, .c (.int .i64 0)]⟩,
    ⟨8, some 24, some (21, false), .p .mov, [.t 23]⟩,
    ⟨9, some 25, some (24, true), .p .mov, [.t 0]⟩,
    ⟨10, some 26, some (24, true), .p .mov, [.t 7]⟩,
    ⟨11, some 27, some (24, true), .p (.bin .sub), [.t 26, .c (.int .i64 1)]⟩,
    ⟨12, some 28, some (24, true), .p (.idx 1), [.t 25, .t 27]⟩,
    ⟨13, some 29, some (24, true), .r (.load false 1) false, [.t 28]⟩,
    ⟨14, some 30, some (24, true), .p .mov, [.t 8]⟩,
    ⟨15, some 31, some (24, true), .p (.bin .geq), [.t 29, .t 30]⟩,
    ⟨16, some 32, some (21, false), .p .pick, [.t 24, .t 31, .c (.bool false)]⟩,
    ⟨17, some 33, none, .p .pick, [.t 21, .c (.bool true), .t 32]⟩])
   (.cond (.t 33) (.seq (.reg 0 [⟨0, some 6, none, .p .mov, [.c (.bool false)]⟩])
   (.ret))
   (.skip)))))
   (.reg 0 [⟨0, some 34, none, .p (.bin .add), [.t 11, .c (.int .i64 1)]⟩,
    ⟨1, some 11, none, .p .mov, [.t 34]⟩])))
def g385 : GL.Fn := ⟨.seq (.reg 0 [⟨0, some 6, none, .p .mov, [.c (.bool false)]⟩])
   (.seq (.seq (.reg 0 [⟨0, some 9, none, .p .mov, [.t 0]⟩,
    ⟨1, some 10, none, .p .len, [.t 9]⟩,
    ⟨2, some 11, none, .p .mov, [.c (.int .i64 0)]⟩])
   (.block 0 (.loop g385_0)))
   (.seq (.reg 0 [⟨0, some 6, none, .p .mov, [.c (.bool true)]⟩])
   (.ret))),
  [.tmp 6]⟩
/- loop.example/g00641/impl.hasAll -/
def g552 : GL.Fn := ⟨.seq (.reg 0 [⟨0, some 2, none, .e (.new (.box 1)) [] [], [.t 0]⟩,
    ⟨1, some 4, none, .p .mov, [.c (.bool false)]⟩])
   (.seq (.reg 0 [⟨0, some 5, none, .p .mov, [.t 1]⟩,
    ⟨1, some 6, none, .p (.mkFn 572), [.t 2]⟩,
    ⟨2, some 7, none, .e .call [] [], [.f 304, .t 5, .t 6]⟩,
    ⟨3, some 8, none, .p (.un .not), [.t 7]⟩,
    ⟨4, some 4, none, .p .mov, [.t 8]⟩])
   (.ret)),
  [.tmp 4]⟩
/- (*loop.example/g00641/spec.l1Cur).among -/
def g93 : GL.Fn := ⟨.seq (.reg 0 [⟨0, some 4, none, .p .mov, [.c (.int .i64 0)]⟩])
   (.seq (.reg 0 [⟨0, some 5, none, .p .mov, [.t 1]⟩,
    ⟨1, some 6, none, .p .mov, [.t 0]⟩,
    ⟨2, some 7, none, .p .mov, [.t 1]⟩,
    ⟨3, some 8, none, .p .len, [.t 7]⟩,
    ⟨4, some 9, none, .e .call [] [], [.f 91, .t 6, .t 8]⟩,
    ⟨5, some 10, none, .p (.idx 1), [.t 5, .t 9]⟩,
    ⟨6, some 11, none, .r (.load false 1) false, [.t 10]⟩,
    ⟨7, some 4, none, .p .mov, [.t 11]⟩])
   (.ret)),
  [.tmp 4]⟩
/- (*loop.example/g00641/spec.l1Cur).pick -/
def g91 : GL.Fn := ⟨.seq (.reg 0 [⟨0, some 4, none, .p .mov, [.c (.int .i64 0)]⟩])
   (.seq (.seq (.reg 0 [⟨0, some 6, none, .p .mov, [.t 1]⟩,
    ⟨1, some 7, none, .p (.bin .leq), [.t 6, .c (.int .i64 1)]⟩])
   (.cond (.t 7) (.seq (.reg 0 [⟨0, some 4, none, .p .mov, [.c (.int .i64 0)]⟩])
   (.ret))
   (.skip)))
   (.seq (.reg 0 [⟨0, some 8, none, .p .mov, [.t 0]⟩,
    ⟨1, some 9, none, .e .call [] [], [.f 140, .t 8]⟩,
    ⟨2, some 5, none, .p .mov, [.t 9]⟩])
   (.seq (.seq (.reg 0 [⟨0, some 10, none, .p .mov, [.t 1]⟩,
    ⟨1, some 11, none, .p (.bin .gtr), [.t 10, .c (.int .i64 200)]⟩])
   (.cond (.t 11) (.reg 0 [⟨0, some 12, none, .p .mov, [.t 5]⟩,
    ⟨1, some 13, none, .p (.bin .mul), [.t 12, .c (.int .i64 256)]⟩,
    ⟨2, some 14, none, .p .mov, [.t 0]⟩,
    ⟨3, some 15, none, .e .call [] [], [.f 140, .t 14]⟩,
    ⟨4, some 16, none, .p (.bin .add), [.t 13, .t 15]⟩,
    ⟨5, some 5, none, .p .mov, [.t 16]⟩])
   (.skip)))
   (.seq (.reg 0 [⟨0, some 17, none, .p .mov, [.t 5]⟩,
    ⟨1, some 18, none, .p .mov, [.t 1]⟩,
    ⟨2, some 19, none, .p (.bin .rem), [.t 17, .t 18]⟩,
    ⟨3, some 4, none, .p .mov, [.t 19]⟩])
   (.ret))))),
  [.tmp 4]⟩
/- slices.Index[[]int,int] -/
def g390_0 : GL.Code := .seq (.reg 0 [⟨0, some 9, none, .p (.bin .lss), [.t 8, .t 7]⟩])
   (.seq (.cond (.t 9) (.skip)
   (.exit 0))
   (.seq (.block 1 (.seq (.reg 0 [⟨0, some 10, none, .p .mov, [.t 8]⟩,
    ⟨1, some 5, none, .p .mov, [.t 10]⟩])
   (.seq (.reg 0 [⟨0, some 11, none, .p .mov, [.t 1]⟩,
    ⟨1, some 12, none, .p .mov, [.t 0]⟩,
    ⟨2, some 13, none, .p .mov, [.t 5]⟩,
    ⟨3, some 14, none, .p (.idx 1), [.t 12, .t 13]⟩,
    ⟨4, some 15, none, .r (.load false 1) false, [.t 14]⟩,
    ⟨5, some 16, none, .p (.bin .eql), [.t 11, .t 15]⟩])
   (.cond (.t 16) (.seq (.reg 0 [⟨0, some 17, none, .p .mov, [.t 5]⟩,
    ⟨1, some 4, none, .p .mov, [.t 17]⟩])
   (.ret))
   (.skip)))))
   (.reg 0 [⟨0, some 18, none, .p (.bin .add), [.t 8, .c (.int .i64 1)]⟩,
    ⟨1, some 8, none, .p .mov, [.t 18]⟩])))
def g390 : GL.Fn := ⟨.seq (.reg 0 [⟨0, some 4, none, .p .mov, [.c (.int .i64 0)]⟩])
   (.seq (.seq (.reg 0 [⟨0, some 6, none, .p .mov, [.t 0]⟩,
    ⟨1, some 7, none, .p .len, [.t 6]⟩,
    ⟨2, some 8, none, .p .mov, [.c (.int .i64 0)]⟩])
   (.block 0 (.loop g390_0)))
   (.seq (.reg 0 [⟨0, some 4, none, .p .mov, [.c (.int .i64 (-1))]⟩])
   (.ret))),
  [.tmp 4]⟩
/- slices.Compare[[]int,int] -/
def g677_0 : GL.Code := .seq (.reg 0 [⟨0, some 12, none, .p (.bin .lss), [.t 11, .t 10]⟩])
   (.seq (.cond (.t 12) (.skip)
   (.exit 0))
   (.seq (.block 1 (.seq (.reg 0 [⟨0, some 13, none, .p .mov, [.t 11]⟩,
    ⟨1, some 14, none, .p (.idx 1), [.t 9, .t 11]⟩,
    ⟨2, some 15, none, .r (.load false 1) false, [.t 14]⟩,
    ⟨3, some 5, none, .p .mov, [.t 13]⟩,
    ⟨4, some 6, none, .p .mov, [.t 15]⟩])
   (.seq (.seq (.reg 0 [⟨0, some 16, none, .p .mov, [.t 5]⟩,
    ⟨1, some 17, none, .p .mov, [.t 1]⟩,
    ⟨2, some 18, none, .p .len, [.t 17]⟩,
    ⟨3, some 19, none, .p (.bin .geq), [.t 16, .t 18]⟩])
   (.cond (.t 19) (.seq (.reg 0 [⟨0, some 4, none, .p .mov, [.c (.int .i64 1)]⟩])
   (.ret))
   (.skip)))
   (.seq (.reg 0 [⟨0, some 20, none, .p .mov, [.t 1]⟩,
    ⟨1, some 21, none, .p .mov, [.t 5]⟩,
    ⟨2, some 22, none, .p (.idx 1), [.t 20, .t 21]⟩,
    ⟨3, some 23, none, .r (.load false 1) false, [.t 22]⟩,
    ⟨4, some 7, none, .p .mov, [.t 23]⟩])
   (.seq (.reg 0 [⟨0, some 24, none, .p .mov, [.t 6]⟩,
    ⟨1, some 25, none, .p .mov, [.t 7]⟩,
    ⟨2, some 26, none, .e .call [] [], [.f 159, .t 24, .t 25]⟩,
    ⟨3, some 8, none, .p .mov, [.t 26]⟩])
   (.seq (.reg 0 [⟨0, some 27, none, .p .mov, [.t 8]⟩,
    ⟨1, some 28, none, .p (.bin .neq), [.t 27, .c (.int .i64 0)]⟩])
   (.cond (.t 28) (.seq (.reg 0 [⟨0, some 29, none, .p .mov, [.t 8]⟩,
    ⟨1, some 4, none, .p .mov, [.t 29]⟩])
   (.ret))
   (.skip))))))))
   (.reg 0 [⟨0, some 30, none, .p (.bin .add), [.t 11, .c (.int .i64 1)]⟩,
    ⟨1, some 11, none, .p .mov, [.t 30]⟩])))
def g677 : GL.Fn := ⟨.seq (.reg 0 [⟨0, some 4, none, .p .mov, [.c (.int .i64 0)]⟩])
   (.seq (.seq (.reg 0 [⟨0, some 9, none, .p .mov, [.t 0]⟩,
    ⟨1, some 10, none, .p .len, [.t 9]⟩,
    ⟨2, some 11, none, .p .mov, [.c (.int .i64 0)]⟩])
   (.block 0 (.loop g677_0)))
   (.seq (.seq (.reg 0 [⟨0, some 31, none, .p .mov, [.t 0]⟩,
    ⟨1, some 32, none, .p .len, [.t 31]⟩,
    ⟨2, some 33, none, .p .mov, [.t 1]⟩,
    ⟨3, some 34, none, .p .len, [.t 33]⟩,
    ⟨4, some 35, none, .p (.bin .lss), [.t 32, .t 34]⟩])
   (.cond (.t 35) (.seq (.reg 0 [⟨0, some 4, none, .p .mov, [.c (.int .i64 (-1))]⟩])
   (.ret))
   (.skip)))
   (.seq (.reg 0 [⟨0, some 4, none, .p .mov, [.c (.int .i64 0)]⟩])
   (.ret)))),
  [.tmp 4]⟩
/- slices.CompactFunc[[][]int,[]int] -/
def g686_0 : GL.Code := .seq (.seq (.reg 0 [⟨0, some 32, none, .p .mov, [.t 7]⟩,
    ⟨1, some 33, none, .p .mov, [.t 6]⟩,
    ⟨2, some 34, none, .p .len, [.t 33]⟩,
    ⟨3, some 35, none, .p (.bin .lss), [.t 32, .t 34]⟩])
   (.cond (.t 35) (.skip)
   (.exit 2)))
   (.seq (.block 3 (.seq (.reg 0 [⟨0, some 38, none, .p .mov, [.t 1]⟩,
    ⟨1, some 39, none, .p .mov, [.t 6]⟩,
    ⟨2, some 40, none, .p .mov, [.t 7]⟩,
    ⟨3, some 41, none, .p (.idx 1), [.t 39, .t 40]⟩,
    ⟨4, some 42, none, .r (.load false 1) false, [.t 41]⟩,
    ⟨5, some 43, none, .p .mov, [.t 6]⟩,
    ⟨6, some 44, none, .p .mov, [.t 7]⟩,
    ⟨7, some 45, none, .p (.bin .sub), [.t 44, .c (.int .i64 1)]⟩,
    ⟨8, some 46, none, .p (.idx 1), [.t 43, .t 45]⟩,
    ⟨9, some 47, none, .r (.load false 1) false, [.t 46]⟩,
    ⟨10, some 48, none, .e .call [] [], [.t 38, .t 42, .t 47]⟩,
    ⟨11, some 49, none, .p (.un .not), [.t 48]⟩])
   (.cond (.t 49) (.seq (.reg 0 [⟨0, some 50, none, .p .mov, [.t 0]⟩,
    ⟨1, some 51, none, .p .mov, [.t 5]⟩,
    ⟨2, some 52, none, .p .mov, [.t 6]⟩,
    ⟨3, some 53, none, .p .mov, [.t 7]⟩,
    ⟨4, some 54, none, .p (.idx 1), [.t 52, .t 53]⟩,
    ⟨5, some 55, none, .r (.load false 1) false, [.t 54]⟩,
    ⟨6, some 56, none, .p (.idx 1), [.t 50, .t 51]⟩,
    ⟨7, none, none, .e (.store 1) [] [], [.t 56, .t 55]⟩])
   (.reg 0 [⟨0, some 57, none, .p .mov, [.t 5]⟩,
    ⟨1, some 58, none, .p (.bin .add), [.t 57, .c (.int .i64 1)]⟩,
    ⟨2, some 5, none, .p .mov, [.t 58]⟩]))
   (.skip))))
   (.reg 0 [⟨0, some 36, none, .p .mov, [.t 7]⟩,
    ⟨1, some 37, none, .p (.bin .add), [.t 36, .c (.int .i64 1)]⟩,
    ⟨2, some 7, none, .p .mov, [.t 37]⟩]))
def g686_1 : GL.Code := .seq (.seq (.reg 0 [⟨0, some 12, none, .p .mov, [.t 5]⟩,
    ⟨1, some 13, none, .p .mov, [.t 0]⟩,
    ⟨2, some 14, none, .p .len, [.t 13]⟩,
    ⟨3, some 15, none, .p (.bin .lss), [.t 12, .t 14]⟩])
   (.cond (.t 15) (.skip)
   (.exit 0)))
   (.seq (.block 1 (.seq (.reg 0 [⟨0, some 18, none, .p .mov, [.t 1]⟩,
    ⟨1, some 19, none, .p .mov, [.t 0]⟩,
    ⟨2, some 20, none, .p .mov, [.t 5]⟩,
    ⟨3, some 21, none, .p (.idx 1), [.t 19, .t 20]⟩,
    ⟨4, some 22, none, .r (.load false 1) false, [.t 21]⟩,
    ⟨5, some 23, none, .p .mov, [.t 0]⟩,
    ⟨6, some 24, none, .p .mov, [.t 5]⟩,
    ⟨7, some 25, none, .p (.bin .sub), [.t 24, .c (.int .i64 1)]⟩,
    ⟨8, some 26, none, .p (.idx 1), [.t 23, .t 25]⟩,
    ⟨9, some 27, none, .r (.load false 1) false, [.t 26]⟩,
    ⟨10, some 28, none, .e .call [] [], [.t 18, .t 22, .t 27]⟩])
   (.cond (.t 28) (.seq (.reg 0 [⟨0, some 29, none, .p .mov, [.t 0]⟩,
    ⟨1, some 30, none, .p .mov, [.t 5]⟩,
    ⟨2, some 31, none, .p (.slice 1 true false false), [.t 29, .t 30]⟩,
    ⟨3, some 6, none, .p .mov, [.t 31]⟩])
   (.seq (.seq (.reg 0 [⟨0, some 7, none, .p .mov, [.c (.int .i64 1)]⟩])
   (.block 2 (.loop g686_0)))
   (.seq (.reg 0 [⟨0, some 59, none, .p .mov, [.t 0]⟩,
    ⟨1, some 60, none, .p .mov, [.t 5]⟩,
    ⟨2, some 61, none, .p (.slice 1 true false false), [.t 59, .t 60]⟩,
    ⟨3, none, none, .e (.clear 1 [.nils]) [] [], [.t 61]⟩])
   (.seq (.reg 0 [⟨0, some 62, none, .p .mov, [.t 0]⟩,
    ⟨1, some 63, none, .p .mov, [.t 5]⟩,
    ⟨2, some 64, none, .p (.slice 1 false true false), [.t 62, .t 63]⟩,
    ⟨3, some 4, none, .p .mov, [.t 64]⟩])
   (.ret)))))
   (.skip))))
   (.reg 0 [⟨0, some 16, none, .p .mov, [.t 5]⟩,
    ⟨1, some 17, none, .p (.bin .add), [.t 16, .c (.int .i64 1)]⟩,
    ⟨2, some 5, none, .p .mov, [.t 17]⟩]))
def g686 : GL.Fn := ⟨.seq (.reg 0 [⟨0, some 4, none, .p .mov, [.c (.nils)]⟩])
   (.seq (.seq (.reg 0 [⟨0, some 8, none, .p .mov, [.t 0]⟩,
    ⟨1, some 9, none, .p .len, [.t 8]⟩,
    ⟨2, some 10, none, .p (.bin .lss), [.t 9, .c (.int .i64 2)]⟩])
   (.cond (.t 10) (.seq (.reg 0 [⟨0, some 11, none, .p .mov, [.t 0]⟩,
    ⟨1, some 4, none, .p .mov, [.t 11]⟩])
   (.ret))
   (.skip)))
   (.seq (.seq (.reg 0 [⟨0, some 5, none, .p .mov, [.c (.int .i64 1)]⟩])
   (.block 0 (.loop g686_1)))
   (.seq (.reg 0 [⟨0, some 65, none, .p .mov, [.t 0]⟩,
    ⟨1, some 4, none, .p .mov, [.t 65]⟩])
   (.ret)))),
  [.tmp 4]⟩
/- loop.example/g00641/spec.l3Add -/
def g687_0 : GL.Code := .seq (.seq (.reg 0 [⟨0, some 7, none, .p .mov, [.t 5]⟩,
    ⟨1, some 8, none, .p .mov, [.t 0]⟩,
    ⟨2, some 9, none, .p .len, [.t 8]⟩,
    ⟨3, some 10, none, .p (.bin .lss), [.t 7, .t 9]⟩,
    ⟨4, some 11, none, .p .mov, [.t 10]⟩,
    ⟨5, some 12, some (11, true), .p .mov, [.t 0]⟩,
    ⟨6, some 13, some (11, true), .p .mov, [.t 5]⟩,
    ⟨7, some 14, some (11, true), .p (.idx 1), [.t 12, .t 13]⟩,
    ⟨8, some 15, some (11, true), .r (.load false 1) false, [.t 14]⟩,
    ⟨9, some 16, some (11, true), .p .mov, [.t 1]⟩,
    ⟨10, some 17, some (11, true), .e .call [] [], [.f 678, .t 15, .t 16]⟩,
    ⟨11, some 18, none, .p .pick, [.t 11, .t 17, .c (.bool false)]⟩])
   (.cond (.t 18) (.skip)
   (.exit 0)))
   (.block 1 (.reg 0 [⟨0, some 19, none, .p .mov, [.t 5]⟩,
    ⟨1, some 20, none, .p (.bin .add), [.t 19, .c (.int .i64 1)]⟩,
    ⟨2, some 5, none, .p .mov, [.t 20]⟩]))
def g687 : GL.Fn := ⟨.seq (.reg 0 [⟨0, some 4, none, .p .mov, [.c (.nils)]⟩])
   (.seq (.reg 0 [⟨0, some 5, none, .p .mov, [.c (.int .i64 0)]⟩])
   (.seq (.block 0 (.loop g687_0))
   (.seq (.seq (.reg 0 [⟨0, some 21, none, .p .mov, [.t 5]⟩,
    ⟨1, some 22, none, .p .mov, [.t 0]⟩,
    ⟨2, some 23, none, .p .len, [.t 22]⟩,
    ⟨3, some 24, none, .p (.bin .lss), [.t 21, .t 23]⟩,
    ⟨4, some 25, none, .p .mov, [.t 24]⟩,
    ⟨5, some 26, some (25, true), .p .mov, [.t 0]⟩,
    ⟨6, some 27, some (25, true), .p .mov, [.t 5]⟩,
    ⟨7, some 28, some (25, true), .p (.idx 1), [.t 26, .t 27]⟩,
    ⟨8, some 29, some (25, true), .r (.load false 1) false, [.t 28]⟩,
    ⟨9, some 30, some (25, true), .p .mov, [.t 1]⟩,
    ⟨10, some 31, some (25, true), .e .call [] [], [.f 356, .t 29, .t 30]⟩,
    ⟨11, some 32, none, .p .pick, [.t 25, .t 31, .c (.bool false)]⟩])
   (.cond (.t 32) (.seq (.reg 0 [⟨0, some 33, none, .p .mov, [.t 0]⟩,
    ⟨1, some 4, none, .p .mov, [.t 33]⟩])
   (.ret))
   (.skip)))
   (.seq (.reg 0 [⟨0, some 34, none, .e (.new (.lit 1)) [] [], []⟩,
    ⟨1, some 35, none, .p .mov, [.t 0]⟩,
    ⟨2, some 36, none, .p .mov, [.t 5]⟩,
    ⟨3, some 37, none, .p (.slice 1 false true false), [.t 35, .t 36]⟩,
    ⟨4, some 38, none, .e (.append 1 24) [] [], [.t 34, .t 37]⟩,
    ⟨5, some 6, none, .p .mov, [.t 38]⟩])
   (.seq (.reg 0 [⟨0, some 39, none, .p .mov, [.t 6]⟩,
    ⟨1, some 40, none, .e (.new (.lit 1)) [] [], []⟩,
    ⟨2, some 41, none, .p .mov, [.t 1]⟩,
    ⟨3, some 42, none, .e (.append 1 8) [] [], [.t 40, .t 41]⟩,
    ⟨4, some 43, none, .e (.new (.lit 1)) [] [], [.t 42]⟩,
    ⟨5, some 44, none, .e (.append 1 24) [] [], [.t 39, .t 43]⟩,
    ⟨6, some 6, none, .p .mov, [.t 44]⟩])
   (.seq (.reg 0 [⟨0, some 45, none, .p .mov, [.t 6]⟩,
    ⟨1, some 46, none, .p .mov, [.t 0]⟩,
    ⟨2, some 47, none, .p .mov, [.t 5]⟩,
    ⟨3, some 48, none, .p (.slice 1 true false false), [.t 46, .t 47]⟩,
    ⟨4, some 49, none, .e (.append 1 24) [] [], [.t 45, .t 48]⟩,
    ⟨5, some 4, none, .p .mov, [.t 49]⟩])
   (.ret))))))),
  [.tmp 4]⟩
/- loop.example/g00641/spec.GoodRelation -/
def g662_0 : GL.Code := .seq (.reg 0 [⟨0, some 25, none, .p (.bin .lss), [.t 24, .t 23]⟩])
   (.seq (.cond (.t 25) (.skip)
   (.exit 0))
   (.seq (.block 1 (.seq (.reg 0 [⟨0, some 26, none, .p .mov, [.t 24]⟩,
    ⟨1, some 27, none, .p (.idx 1), [.t 22, .t 24]⟩,
    ⟨2, some 28, none, .r (.load false 1) false, [.t 27]⟩,
    ⟨3, some 3, none, .p .mov, [.t 26]⟩,
    ⟨4, some 4, none, .p .mov, [.t 28]⟩])
   (.seq (.reg 0 [⟨0, some 29, none, .p .mov, [.t 4]⟩,
    ⟨1, some 30, none, .p .len, [.t 29]⟩,
    ⟨2, some 31, none, .p (.faddr 0), [.t 1]⟩,
    ⟨3, some 32, none, .l (.load 1 false 1), [.t 31]⟩,
    ⟨4, some 33, none, .p .len, [.t 32]⟩,
    ⟨5, some 34, none, .p (.bin .neq), [.t 30, .t 33]⟩,
    ⟨6, some 35, none, .p .mov, [.t 34]⟩,
    ⟨7, some 36, some (35, false), .p .mov, [.t 4]⟩,
    ⟨8, some 37, some (35, false), .e .call [] [], [.f 94, .t 36, .c (.int .i64 (-1000)), .c (.int .i64 1000)]⟩,
    ⟨9, some 38, some (35, false), .p (.un .not), [.t 37]⟩,
    ⟨10, some 39, none, .p .pick, [.t 35, .c (.bool true), .t 38]⟩,
    ⟨11, some 40, none, .p .mov, [.t 39]⟩,
    ⟨12, some 41, some (40, false), .p .mov, [.t 3]⟩,
    ⟨13, some 42, some (40, false), .p (.bin .gtr), [.t 41, .c (.int .i64 0)]⟩,
    ⟨14, some 43, some (40, false), .p .mov, [.t 42]⟩,
    ⟨15, some 44, some (43, true), .p (.faddr 1), [.t 1]⟩,
    ⟨16, some 45, some (43, true), .l (.load 1 false 1), [.t 44]⟩,
    ⟨17, some 46, some (43, true), .p .mov, [.t 3]⟩,
    ⟨18, some 47, some (43, true), .p (.bin .sub), [.t 46, .c (.int .i64 1)]⟩,
    ⟨19, some 48, some (43, true), .p (.idx 1), [.t 45, .t 47]⟩,
    ⟨20, some 49, some (43, true), .r (.load false 1) false, [.t 48]⟩,
    ⟨21, some 50, some (43, true), .p .mov, [.t 4]⟩,
    ⟨22, some 51, some (43, true), .e .call [] [], [.f 678, .t 49, .t 50]⟩,
    ⟨23, some 52, some (43, true), .p (.un .not), [.t 51]⟩,
    ⟨24, some 53, some (40, false), .p .pick, [.t 43, .t 52, .c (.bool false)]⟩,
    ⟨25, some 54, none, .p .pick, [.t 40, .c (.bool true), .t 53]⟩])
   (.cond (.t 54) (.seq (.reg 0 [⟨0, some 2, none, .p .mov, [.c (.bool false)]⟩])
   (.ret))
   (.skip)))))
   (.reg 0 [⟨0, some 55, none, .p (.bin .add), [.t 24, .c (.int .i64 1)]⟩,
    ⟨1, some 24, none, .p .mov, [.t 55]⟩])))
def g662 : GL.Fn := ⟨.seq (.reg 0 [⟨0, some 1, none, .l (.box 1 2), [.t 0]⟩,
    ⟨1, some 2, none, .p .mov, [.c (.bool false)]⟩])
   (.seq (.seq (.reg 0 [⟨0, some 5, none, .p (.faddr 0), [.t 1]⟩,
    ⟨1, some 6, none, .l (.load 1 false 1), [.t 5]⟩,
    ⟨2, some 7, none, .p .len, [.t 6]⟩,
    ⟨3, some 8, none, .p (.bin .gtr), [.t 7, .c (.int .i64 6)]⟩,
    ⟨4, some 9, none, .p .mov, [.t 8]⟩,
    ⟨5, some 10, some (9, false), .p (.faddr 0), [.t 1]⟩,
    ⟨6, some 11, some (9, false), .l (.load 1 false 1), [.t 10]⟩,
    ⟨7, some 12, some (9, false), .e .call [] [], [.f 337, .t 11, .c (.int .i64 0), .c (.int .i64 20)]⟩,
    ⟨8, some 13, some (9, false), .p (.un .not), [.t 12]⟩,
    ⟨9, some 14, none, .p .pick, [.t 9, .c (.bool true), .t 13]⟩,
    ⟨10, some 15, none, .p .mov, [.t 14]⟩,
    ⟨11, some 16, some (15, false), .p (.faddr 1), [.t 1]⟩,
    ⟨12, some 17, some (15, false), .l (.load 1 false 1), [.t 16]⟩,
    ⟨13, some 18, some (15, false), .p .len, [.t 17]⟩,
    ⟨14, some 19, some (15, false), .p (.bin .gtr), [.t 18, .c (.int .i64 60)]⟩,
    ⟨15, some 20, none, .p .pick, [.t 15, .c (.bool true), .t 19]⟩])
   (.cond (.t 20) (.seq (.reg 0 [⟨0, some 2, none, .p .mov, [.c (.bool false)]⟩])
   (.ret))
   (.skip)))
   (.seq (.seq (.reg 0 [⟨0, some 21, none, .p (.faddr 1), [.t 1]⟩,
    ⟨1, some 22, none, .l (.load 1 false 1), [.t 21]⟩,
    ⟨2, some 23, none, .p .len, [.t 22]⟩,
    ⟨3, some 24, none, .p .mov, [.c (.int .i64 0)]⟩])
   (.block 0 (.loop g662_0)))
   (.seq (.reg 0 [⟨0, some 2, none, .p .mov, [.c (.bool true)]⟩])
   (.ret)))),
  [.tmp 2]⟩
/- slices.ContainsFunc[[]int,int] -/
def g304 : GL.Fn := ⟨.seq (.reg 0 [⟨0, some 4, none, .p .mov, [.c (.bool false)]⟩])
   (.seq (.reg 0 [⟨0, some 5, none, .p .mov, [.t 0]⟩,
    ⟨1, some 6, none, .p .mov, [.t 1]⟩,
    ⟨2, some 7, none, .e .call [] [], [.f 391, .t 5, .t 6]⟩,
    ⟨3, some 8, none, .p (.bin .geq), [.t 7, .c (.int .i64 0)]⟩,
    ⟨4, some 4, none, .p .mov, [.t 8]⟩])
   (.ret)),
  [.tmp 4]⟩
/- loop.example/g00641/impl.GoodRelation$1 -/
def g676 : GL.Fn := ⟨.seq (.reg 0 [⟨0, some 2, none, .p .mov, [.c (.bool false)]⟩])
   (.seq (.reg 0 [⟨0, some 3, none, .p .mov, [.t 0]⟩,
    ⟨1, some 4, none, .e .call [] [], [.f 100, .t 3]⟩,
    ⟨2, some 5, none, .p (.un .not), [.t 4]⟩,
    ⟨3, some 2, none, .p .mov, [.t 5]⟩])
   (.ret)),
  [.tmp 2]⟩
/- loop.example/g00641/impl.isSmall -/
def g100 : GL.Fn := ⟨.seq (.reg 0 [⟨0, some 2, none, .p .mov, [.c (.bool false)]⟩])
   (.seq (.reg 0 [⟨0, some 3, none, .p .mov, [.t 0]⟩,
    ⟨1, some 4, none, .e .call [] [], [.f 107, .t 3, .c (.int .i64 (-1000)), .c (.int .i64 1000)]⟩,
    ⟨2, some 2, none, .p .mov, [.t 4]⟩])
   (.ret)),
  [.tmp 2]⟩
/- slices.IndexFunc[[]loop.example/g00641/impl.Dep,loop.example/g00641/impl.Dep] -/
def g675_0 : GL.Code := .seq (.reg 0 [⟨0, some 9, none, .p (.bin .lss), [.t 8, .t 7]⟩])
   (.seq (.cond (.t 9) (.skip)
   (.exit 0))
   (.seq (.block 1 (.seq (.reg 0 [⟨0, some 10, none, .p .mov, [.t 8]⟩,
    ⟨1, some 5, none, .p .mov, [.t 10]⟩])
   (.seq (.reg 0 [⟨0, some 11, none, .p .mov, [.t 1]⟩,
    ⟨1, some 12, none, .p .mov, [.t 0]⟩,
    ⟨2, some 13, none, .p .mov, [.t 5]⟩,
    ⟨3, some 14, none, .p (.idx 2), [.t 12, .t 13]⟩,
    ⟨4, some 15, none, .r (.load true 2) false, [.t 14]⟩,
    ⟨5, some 16, none, .e .call [] [], [.t 11, .t 15]⟩])
   (.cond (.t 16) (.seq (.reg 0 [⟨0, some 17, none, .p .mov, [.t 5]⟩,
    ⟨1, some 4, none, .p .mov, [.t 17]⟩])
   (.ret))
   (.skip)))))
   (.reg 0 [⟨0, some 18, none, .p (.bin .add), [.t 8, .c (.int .i64 1)]⟩,
    ⟨1, some 8, none, .p .mov, [.t 18]⟩])))
def g675 : GL.Fn := ⟨.seq (.reg 0 [⟨0, some 4, none, .p .mov, [.c (.int .i64 0)]⟩])
   (.seq (.seq (.reg 0 [⟨0, some 6, none, .p .mov, [.t 0]⟩,
    ⟨1, some 7, none, .p .len, [.t 6]⟩,
    ⟨2, some 8, none, .p .mov, [.c (.int .i64 0)]⟩])
   (.block 0 (.loop g675_0)))
   (.seq (.reg 0 [⟨0, some 4, none, .p .mov, [.c (.int .i64 (-1))]⟩])
   (.ret))),
  [.tmp 4]⟩
/- slices.Grow[[]int,int] -/
def g436 : GL.Fn := ⟨.seq (.reg 0 [⟨0, some 4, none, .p .mov, [.c (.nils)]⟩])
   (.seq (.seq (.reg 0 [⟨0, some 5, none, .p .mov, [.t 1]⟩,
    ⟨1, some 6, none, .p (.bin .lss), [.t 5, .c (.int .i64 0)]⟩])
   (.cond (.t 6) (.reg 0 [⟨0, some 7, none, .p .bad, []⟩,
    ⟨1, none, none, .p .bad, []⟩])
   (.skip)))
   (.seq (.seq (.reg 0 [⟨0, some 8, none, .p .mov, [.t 1]⟩,
    ⟨1, some 9, none, .p .mov, [.t 0]⟩,
    ⟨2, some 10, none, .p .cap, [.t 9]⟩,
    ⟨3, some 11, none, .p .mov, [.t 0]⟩,
    ⟨4, some 12, none, .p .len, [.t 11]⟩,
    ⟨5, some 13, none, .p (.bin .sub), [.t 10, .t 12]⟩,
    ⟨6, some 14, none, .p (.bin .sub), [.t 8, .t 13]⟩,
    ⟨7, some 1, none, .p .mov, [.t 14]⟩])
   (.seq (.reg 0 [⟨0, some 15, none, .p .mov, [.t 1]⟩,
    ⟨1, some 16, none, .p (.bin .gtr), [.t 15, .c (.int .i64 0)]⟩])
   (.cond (.t 16) (.reg 0 [⟨0, some 17, none, .p .mov, [.t 0]⟩,
    ⟨1, some 18, none, .p .mov, [.t 0]⟩,
    ⟨2, some 19, none, .p .cap, [.t 18]⟩,
    ⟨3, some 20, none, .p (.slice 1 false true false), [.t 17, .t 19]⟩,
    ⟨4, some 21, none, .p .mov, [.t 1]⟩,
    ⟨5, some 22, none, .e (.appendZ 1 8 [.int .i64 0]) [] [], [.t 20, .t 21]⟩,
    ⟨6, some 23, none, .p .mov, [.t 0]⟩,
    ⟨7, some 24, none, .p .len, [.t 23]⟩,
    ⟨8, some 25, none, .p (.slice 1 false true false), [.t 22, .t 24]⟩,
    ⟨9, some 0, none, .p .mov, [.t 25]⟩])
   (.skip))))
   (.seq (.reg 0 [⟨0, some 26, none, .p .mov, [.t 0]⟩,
    ⟨1, some 4, none, .p .mov, [.t 26]⟩])
   (.ret)))),
  [.tmp 4]⟩
/- slices.IndexFunc[[]int,int] -/
def g391_0 : GL.Code := .seq (.reg 0 [⟨0, some 9, none, .p (.bin .lss), [.t 8, .t 7]⟩])
   (.seq (.cond (.t 9) (.skip)
   (.exit 0))
   (.seq (.block 1 (.seq (.reg 0 [⟨0, some 10, none, .p .mov, [.t 8]⟩,
    ⟨1, some 5, none, .p .mov, [.t 10]⟩])
   (.seq (.reg 0 [⟨0, some 11, none, .p .mov, [.t 1]⟩,
    ⟨1, some 12, none, .p .mov, [.t 0]⟩,
    ⟨2, some 13, none, .p .mov, [.t 5]⟩,
    ⟨3, some 14, none, .p (.idx 1), [.t 12, .t 13]⟩,
    ⟨4, some 15, none, .r (.load false 1) false, [.t 14]⟩,
    ⟨5, some 16, none, .e .call [] [], [.t 11, .t 15]⟩])
   (.cond (.t 16) (.seq (.reg 0 [⟨0, some 17, none, .p .mov, [.t 5]⟩,
    ⟨1, some 4, none, .p .mov, [.t 17]⟩])
   (.ret))
   (.skip)))))
   (.reg 0 [⟨0, some 18, none, .p (.bin .add), [.t 8, .c (.int .i64 1)]⟩,
    ⟨1, some 8, none, .p .mov, [.t 18]⟩])))
def g391 : GL.Fn := ⟨.seq (.reg 0 [⟨0, some 4, none, .p .mov, [.c (.int .i64 0)]⟩])
   (.seq (.seq (.reg 0 [⟨0, some 6, none, .p .mov, [.t 0]⟩,
    ⟨1, some 7, none, .p .len, [.t 6]⟩,
    ⟨2, some 8, none, .p .mov, [.c (.int .i64 0)]⟩])
   (.block 0 (.loop g391_0)))
   (.seq (.reg 0 [⟨0, some 4, none, .p .mov, [.c (.int .i64 (-1))]⟩])
   (.ret))),
  [.tmp 4]⟩
/- loop.example/g00641/impl.hasAll$1 -/
def g572 : GL.Fn := ⟨.seq (.reg 0 [⟨0, some 3, none, .p .mov, [.c (.bool false)]⟩])
   (.seq (.reg 0 [⟨0, some 4, none, .r (.load false 1) false, [.t 1]⟩,
    ⟨1, some 5, none, .p .mov, [.t 0]⟩,
    ⟨2, some 6, none, .e .call [] [], [.f 301, .t 4, .t 5]⟩,
    ⟨3, some 7, none, .p (.un .not), [.t 6]⟩,
    ⟨4, some 3, none, .p .mov, [.t 7]⟩])
   (.ret)),
  [.tmp 3]⟩
/- (*loop.example/g00641/spec.l1Cur).next -/
def g140 : GL.Fn := ⟨.seq (.reg 0 [⟨0, some 2, none, .p .mov, [.c (.int .i64 0)]⟩])
   (.seq (.reg 0 [⟨0, some 3, none, .p .mov, [.c (.int .i64 0)]⟩])
   (.seq (.seq (.reg 0 [⟨0, some 4, none, .p .mov, [.t 0]⟩,
    ⟨1, some 5, none, .p .nilCheck, [.t 4]⟩,
    ⟨2, some 6, none, .p (.faddr 1), [.t 5]⟩,
    ⟨3, some 7, none, .r (.load false 1) false, [.t 6]⟩,
    ⟨4, some 8, none, .p .mov, [.t 0]⟩,
    ⟨5, some 9, none, .p .nilCheck, [.t 8]⟩,
    ⟨6, some 10, none, .p (.faddr 0), [.t 9]⟩,
    ⟨7, some 11, none, .r (.load false 1) false, [.t 10]⟩,
    ⟨8, some 12, none, .p .len, [.t 11]⟩,
    ⟨9, some 13, none, .p (.bin .lss), [.t 7, .t 12]⟩])
   (.cond (.t 13) (.reg 0 [⟨0, some 14, none, .p .mov, [.t 0]⟩,
    ⟨1, some 15, none, .p .nilCheck, [.t 14]⟩,
    ⟨2, some 16, none, .p (.faddr 0), [.t 15]⟩,
    ⟨3, some 17, none, .r (.load false 1) false, [.t 16]⟩,
    ⟨4, some 18, none, .p .mov, [.t 0]⟩,
    ⟨5, some 19, none, .p .nilCheck, [.t 18]⟩,
    ⟨6, some 20, none, .p (.faddr 1), [.t 19]⟩,
    ⟨7, some 21, none, .r (.load false 1) false, [.t 20]⟩,
    ⟨8, some 22, none, .p (.idx 1), [.t 17, .t 21]⟩,
    ⟨9, some 23, none, .r (.load false 1) false, [.t 22]⟩,
    ⟨10, some 24, none, .p (.conv .i64), [.t 23]⟩,
    ⟨11, some 3, none, .p .mov, [.t 24]⟩])
   (.skip)))
   (.seq (.reg 0 [⟨0, some 25, none, .p .mov, [.t 0]⟩,
    ⟨1, some 26, none, .p .nilCheck, [.t 25]⟩,
    ⟨2, some 27, none, .p (.faddr 1), [.t 26]⟩,
    ⟨3, some 28, none, .r (.load false 1) false, [.t 27]⟩,
    ⟨4, some 29, none, .p (.bin .add), [.t 28, .c (.int .i64 1)]⟩,
    ⟨5, some 30, none, .p .nilCheck, [.t 25]⟩,
    ⟨6, some 31, none, .p (.faddr 1), [.t 30]⟩,
    ⟨7, none, none, .e (.store 1) [] [], [.t 31, .t 29]⟩])
   (.seq (.reg 0 [⟨0, some 32, none, .p .mov, [.t 0]⟩,
    ⟨1, some 33, none, .p .mov, [.t 0]⟩,
    ⟨2, some 34, none, .p .nilCheck, [.t 33]⟩,
    ⟨3, some 35, none, .p (.faddr 2), [.t 34]⟩,
    ⟨4, some 36, none, .r (.load false 1) false, [.t 35]⟩,
    ⟨5, some 37, none, .p (.bin .mul), [.t 36, .c (.int .u64 6364136223846793005)]⟩,
    ⟨6, some 38, none, .p .mov, [.t 3]⟩,
    ⟨7, some 39, none, .p (.conv .u64), [.t 38]⟩,
    ⟨8, some 40, none, .p (.bin .add), [.t 37, .t 39]⟩,
    ⟨9, some 41, none, .p (.bin .add), [.t 40, .c (.int .u64 1442695040888963407)]⟩,
    ⟨10, some 42, none, .p .nilCheck, [.t 32]⟩,
    ⟨11, some 43, none, .p (.faddr 2), [.t 42]⟩,
    ⟨12, none, none, .e (.store 1) [] [], [.t 43, .t 41]⟩])
   (.seq (.seq (.reg 0 [⟨0, some 44, none, .p .mov, [.t 0]⟩,
    ⟨1, some 45, none, .p .nilCheck, [.t 44]⟩,
    ⟨2, some 46, none, .p (.faddr 1), [.t 45]⟩,
    ⟨3, some 47, none, .r (.load false 1) false, [.t 46]⟩,
    ⟨4, some 48, none, .p .mov, [.t 0]⟩,
    ⟨5, some 49, none, .p .nilCheck, [.t 48]⟩,
    ⟨6, some 50, none, .p (.faddr 0), [.t 49]⟩,
    ⟨7, some 51, none, .r (.load false 1) false, [.t 50]⟩,
    ⟨8, some 52, none, .p .len, [.t 51]⟩,
    ⟨9, some 53, none, .p (.bin .leq), [.t 47, .t 52]⟩])
   (.cond (.t 53) (.seq (.reg 0 [⟨0, some 54, none, .p .mov, [.t 3]⟩,
    ⟨1, some 2, none, .p .mov, [.t 54]⟩])
   (.ret))
   (.skip)))
   (.seq (.reg 0 [⟨0, some 55, none, .p .mov, [.t 0]⟩,
    ⟨1, some 56, none, .p .nilCheck, [.t 55]⟩,
    ⟨2, some 57, none, .p (.faddr 2), [.t 56]⟩,
    ⟨3, some 58, none, .r (.load false 1) false, [.t 57]⟩,
    ⟨4, some 59, none, .p (.bin .shr), [.t 58, .c (.int .u64 40)]⟩,
    ⟨5, some 60, none, .p (.bin .and), [.t 59, .c (.int .u64 255)]⟩,
    ⟨6, some 61, none, .p (.conv .i64), [.t 60]⟩,
    ⟨7, some 2, none, .p .mov, [.t 61]⟩])
   (.ret))))))),
  [.tmp 2]⟩
/- cmp.Compare[int] -/
def g159 : GL.Fn := ⟨.seq (.reg 0 [⟨0, some 4, none, .p .mov, [.c (.int .i64 0)]⟩])
   (.seq (.reg 0 [⟨0, some 7, none, .p .mov, [.t 0]⟩,
    ⟨1, some 8, none, .e .call [] [], [.f 160, .t 7]⟩,
    ⟨2, some 5, none, .p .mov, [.t 8]⟩])
   (.seq (.reg 0 [⟨0, some 9, none, .p .mov, [.t 1]⟩,
    ⟨1, some 10, none, .e .call [] [], [.f 160, .t 9]⟩,
    ⟨2, some 6, none, .p .mov, [.t 10]⟩])
   (.seq (.seq (.reg 0 [⟨0, some 11, none, .p .mov, [.t 5]⟩])
   (.cond (.t 11) (.seq (.seq (.reg 0 [⟨0, some 12, none, .p .mov, [.t 6]⟩])
   (.cond (.t 12) (.seq (.reg 0 [⟨0, some 4, none, .p .mov, [.c (.int .i64 0)]⟩])
   (.ret))
   (.skip)))
   (.seq (.reg 0 [⟨0, some 4, none, .p .mov, [.c (.int .i64 (-1))]⟩])
   (.ret)))
   (.skip)))
   (.seq (.seq (.reg 0 [⟨0, some 13, none, .p .mov, [.t 6]⟩])
   (.cond (.t 13) (.seq (.reg 0 [⟨0, some 4, none, .p .mov, [.c (.int .i64 1)]⟩])
   (.ret))
   (.skip)))
   (.seq (.seq (.reg 0 [⟨0, some 14, none, .p .mov, [.t 0]⟩,
    ⟨1, some 15, none, .p .mov, [.t 1]⟩,
    ⟨2, some 16, none, .p (.bin .lss), [.t 14, .t 15]⟩])
   (.cond (.t 16) (.seq (.reg 0 [⟨0, some 4, none, .p .mov, [.c (.int .i64 (-1))]⟩])
   (.ret))
   (.skip)))
   (.seq (.seq (.reg 0 [⟨0, some 17, none, .p .mov, [.t 0]⟩,
    ⟨1, some 18, none, .p .mov, [.t 1]⟩,
    ⟨2, some 19, none, .p (.bin .gtr), [.t 17, .t 18]⟩])
   (.cond (.t 19) (.seq (.reg 0 [⟨0, some 4, none, .p .mov, [.c (.int .i64 1)]⟩])
   (.ret))
   (.skip)))
   (.seq (.reg 0 [⟨0, some 4, none, .p .mov, [.c (.int .i64 0)]⟩])
   (.ret)))))))),
  [.tmp 4]⟩
/- loop.example/g00641/spec.l3Less -/
def g678_0 : GL.Code := .seq (.reg 0 [⟨0, some 9, none, .p (.bin .lss), [.t 8, .t 7]⟩])
   (.seq (.cond (.t 9) (.skip)
   (.exit 0))
   (.seq (.block 1 (.seq (.reg 0 [⟨0, some 10, none, .p .mov, [.t 8]⟩,
    ⟨1, some 5, none, .p .mov, [.t 10]⟩])
   (.seq (.reg 0 [⟨0, some 11, none, .p .mov, [.t 0]⟩,
    ⟨1, some 12, none, .p .mov, [.t 5]⟩,
    ⟨2, some 13, none, .p (.idx 1), [.t 11, .t 12]⟩,
    ⟨3, some 14, none, .r (.load false 1) false, [.t 13]⟩,
    ⟨4, some 15, none, .p .mov, [.t 1]⟩,
    ⟨5, some 16, none, .p .mov, [.t 5]⟩,
    ⟨6, some 17, none, .p (.idx 1), [.t 15, .t 16]⟩,
    ⟨7, some 18, none, .r (.load false 1) false, [.t 17]⟩,
    ⟨8, some 19, none, .p (.bin .neq), [.t 14, .t 18]⟩])
   (.cond (.t 19) (.seq (.reg 0 [⟨0, some 20, none, .p .mov, [.t 0]⟩,
    ⟨1, some 21, none, .p .mov, [.t 5]⟩,
    ⟨2, some 22, none, .p (.idx 1), [.t 20, .t 21]⟩,
    ⟨3, some 23, none, .r (.load false 1) false, [.t 22]⟩,
    ⟨4, some 24, none, .p .mov, [.t 1]⟩,
    ⟨5, some 25, none, .p .mov, [.t 5]⟩,
    ⟨6, some 26, none, .p (.idx 1), [.t 24, .t 25]⟩,
    ⟨7, some 27, none, .r (.load false 1) false, [.t 26]⟩,
    ⟨8, some 28, none, .p (.bin .lss), [.t 23, .t 27]⟩,
    ⟨9, some 4, none, .p .mov, [.t 28]⟩])
   (.ret))
   (.skip)))))
   (.reg 0 [⟨0, some 29, none, .p (.bin .add), [.t 8, .c (.int .i64 1)]⟩,
    ⟨1, some 8, none, .p .mov, [.t 29]⟩])))
def g678 : GL.Fn := ⟨.seq (.reg 0 [⟨0, some 4, none, .p .mov, [.c (.bool false)]⟩])
   (.seq (.seq (.reg 0 [⟨0, some 6, none, .p .mov, [.t 0]⟩,
    ⟨1, some 7, none, .p .len, [.t 6]⟩,
    ⟨2, some 8, none, .p .mov, [.c (.int .i64 0)]⟩])
   (.block 0 (.loop g678_0)))
   (.seq (.reg 0 [⟨0, some 4, none, .p .mov, [.c (.bool false)]⟩])
   (.ret))),
  [.tmp 4]⟩
/- loop.example/g00641/spec.l1Same -/
def g356_0 : GL.Code := .seq (.reg 0 [⟨0, some 14, none, .p (.bin .lss), [.t 13, .t 12]⟩])
   (.seq (.cond (.t 14) (.skip)
   (.exit 0))
   (.seq (.block 1 (.seq (.reg 0 [⟨0, some 15, none, .p .mov, [.t 13]⟩,
    ⟨1, some 5, none, .p .mov, [.t 15]⟩])
   (.seq (.reg 0 [⟨0, some 16, none, .p .mov, [.t 0]⟩,
    ⟨1, some 17, none, .p .mov, [.t 5]⟩,
    ⟨2, some 18, none, .p (.idx 1), [.t 16, .t 17]⟩,
    ⟨3, some 19, none, .r (.load false 1) false, [.t 18]⟩,
    ⟨4, some 20, none, .p .mov, [.t 1]⟩,
    ⟨5, some 21, none, .p .mov, [.t 5]⟩,
    ⟨6, some 22, none, .p (.idx 1), [.t 20, .t 21]⟩,
    ⟨7, some 23, none, .r (.load false 1) false, [.t 22]⟩,
    ⟨8, some 24, none, .p (.bin .neq), [.t 19, .t 23]⟩])
   (.cond (.t 24) (.seq (.reg 0 [⟨0, some 4, none, .p .mov, [.c (.bool false)]⟩])
   (.ret))
   (.skip)))))
   (.reg 0 [⟨0, some 25, none, .p (.bin .add), [.t 13, .c (.int .i64 1)]⟩,
    ⟨1, some 13, none, .p .mov, [.t 25]⟩])))
def g356 : GL.Fn := ⟨.seq (.reg 0 [⟨0, some 4, none, .p .mov, [.c (.bool false)]⟩])
   (.seq (.seq (.reg 0 [⟨0, some 6, none, .p .mov, [.t 0]⟩,
    ⟨1, some 7, none, .p .len, [.t 6]⟩,
    ⟨2, some 8, none, .p .mov, [.t 1]⟩,
    ⟨3, some 9, none, .p .len, [.t 8]⟩,
    ⟨4, some 10, none, .p (.bin .neq), [.t 7, .t 9]⟩])
   (.cond (.t 10) (.seq (.reg 0 [⟨0, some 4, none, .p .mov, [.c (.bool false)]⟩])
   (.ret))
   (.skip)))
   (.seq (.seq (.reg 0 [⟨0, some 11, none, .p .mov, [.t 0]⟩,
    ⟨1, some 12, none, .p .len, [.t 11]⟩,
    ⟨2, some 13, none, .p .mov, [.c (.int .i64 0)]⟩])
   (.block 0 (.loop g356_0)))
   (.seq (.reg 0 [⟨0, some 4, none, .p .mov, [.c (.bool true)]⟩])
   (.ret)))),
  [.tmp 4]⟩
/- loop.example/g00641/spec.l1All -/
def g94_0 : GL.Code := .seq (.reg 0 [⟨0, some 12, none, .p (.bin .lss), [.t 11, .t 10]⟩])
   (.seq (.cond (.t 12) (.skip)
   (.exit 0))
   (.seq (.block 1 (.seq (.reg 0 [⟨0, some 13, none, .p (.idx 1), [.t 9, .t 11]⟩,
    ⟨1, some 14, none, .r (.load false 1) false, [.t 13]⟩,
    ⟨2, some 8, none, .p .mov, [.t 14]⟩])
   (.seq (.reg 0 [⟨0, some 15, none, .p .mov, [.t 8]⟩,
    ⟨1, some 16, none, .p .mov, [.t 1]⟩,
    ⟨2, some 17, none, .p .mov, [.t 2]⟩,
    ⟨3, some 18, none, .e .call [] [], [.f 98, .t 15, .t 16, .t 17]⟩,
    ⟨4, some 19, none, .p (.un .not), [.t 18]⟩])
   (.cond (.t 19) (.seq (.reg 0 [⟨0, some 6, none, .p .mov, [.c (.bool false)]⟩])
   (.ret))
   (.skip)))))
   (.reg 0 [⟨0, some 20, none, .p (.bin .add), [.t 11, .c (.int .i64 1)]⟩,
    ⟨1, some 11, none, .p .mov, [.t 20]⟩])))
def g94 : GL.Fn := ⟨.seq (.reg 0 [⟨0, some 6, none, .p .mov, [.c (.bool false)]⟩])
   (.seq (.seq (.reg 0 [⟨0, some 9, none, .p .mov, [.t 0]⟩,
    ⟨1, some 10, none, .p .len, [.t 9]⟩,
    ⟨2, some 11, none, .p .mov, [.c (.int .i64 0)]⟩])
   (.block 0 (.loop g94_0)))
   (.seq (.reg 0 [⟨0, some 6, none, .p .mov, [.c (.bool true)]⟩])
   (.ret))),
  [.tmp 6]⟩
/- cmp.isNaN[int] -/
def g160 : GL.Fn := ⟨.seq (.reg 0 [⟨0, some 2, none, .p .mov, [.c (.bool false)]⟩])
   (.seq (.reg 0 [⟨0, some 3, none, .p .mov, [.t 0]⟩,
    ⟨1, some 4, none, .p .mov, [.t 0]⟩,
    ⟨2, some 5, none, .p (.bin .neq), [.t 3, .t 4]⟩,
    ⟨3, some 2, none, .p .mov, [.t 5]⟩])
   (.ret)),
  [.tmp 2]⟩
end GL
