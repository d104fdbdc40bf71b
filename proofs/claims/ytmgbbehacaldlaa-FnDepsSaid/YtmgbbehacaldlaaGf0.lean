import Derived.Test.YtmgbbehacaldlaaGlA
/- GL code of functions. -/
set_option linter.unusedSimpArgs false
set_option linter.unusedVariables false
set_option linter.unnecessarySimpa false
namespace GL
open Go
/- loop.example/g00641/laws.FnDeps -/
def g460_0 : GL.Code := .seq (.reg 0 [⟨0, some 87, none, .p (.bin .lss), [.t 86, .t 85]⟩])
   (.seq (.cond (.t 87) (.skip)
   (.exit 0))
   (.seq (.block 1 (.seq (.reg 0 [⟨0, some 88, none, .p .mov, [.t 86]⟩,
    ⟨1, some 89, none, .p (.idx 1), [.t 84, .t 86]⟩,
    ⟨2, some 90, none, .r (.load false 1) false, [.t 89]⟩,
    ⟨3, some 13, none, .p .mov, [.t 88]⟩,
    ⟨4, some 14, none, .p .mov, [.t 90]⟩])
   (.seq (.reg 0 [⟨0, some 92, none, .l (.load 5 true 3), [.t 5]⟩,
    ⟨1, some 93, none, .p .mov, [.t 13]⟩,
    ⟨2, some 94, none, .p .mov, [.t 6]⟩,
    ⟨3, some 95, none, .p .mov, [.t 13]⟩,
    ⟨4, some 96, none, .p (.idx 1), [.t 94, .t 95]⟩,
    ⟨5, some 97, none, .r (.load false 1) false, [.t 96]⟩,
    ⟨6, some 98, none, .e .call [] [], [.f 450, .t 92, .t 93, .t 97]⟩,
    ⟨7, some 91, none, .p .mov, [.t 98]⟩,
    ⟨8, some 99, none, .p (.extract 0), [.t 91]⟩,
    ⟨9, some 100, none, .p (.extract 1), [.t 91]⟩,
    ⟨10, some 15, none, .p .mov, [.t 99]⟩,
    ⟨11, some 16, none, .p .mov, [.t 100]⟩])
   (.seq (.reg 0 [⟨0, some 101, none, .p .mov, [.t 16]⟩,
    ⟨1, some 102, none, .p (.un .not), [.t 101]⟩,
    ⟨2, some 103, none, .p .mov, [.t 102]⟩,
    ⟨3, some 104, some (103, false), .p .mov, [.t 15]⟩,
    ⟨4, some 105, some (103, false), .p .mov, [.t 14]⟩,
    ⟨5, some 106, some (103, false), .e .call [] [], [.f 24, .t 104, .t 105]⟩,
    ⟨6, some 107, some (103, false), .p (.un .not), [.t 106]⟩,
    ⟨7, some 108, none, .p .pick, [.t 103, .c (.bool true), .t 107]⟩,
    ⟨8, some 109, none, .p .mov, [.t 108]⟩,
    ⟨9, some 110, some (109, false), .p .mov, [.t 14]⟩,
    ⟨10, some 111, some (109, false), .p .mov, [.t 13]⟩,
    ⟨11, some 112, some (109, false), .e .call [] [], [.f 204, .t 110, .t 111]⟩,
    ⟨12, some 113, none, .p .pick, [.t 109, .c (.bool true), .t 112]⟩])
   (.cond (.t 113) (.seq (.reg 0 [⟨0, some 4, none, .p .mov, [.c (.bool false)]⟩])
   (.ret))
   (.skip))))))
   (.reg 0 [⟨0, some 114, none, .p (.bin .add), [.t 86, .c (.int .i64 1)]⟩,
    ⟨1, some 86, none, .p .mov, [.t 114]⟩])))
def g460 : GL.Fn := ⟨.seq (.reg 0 [⟨0, some 4, none, .p .mov, [.c (.bool false)]⟩])
   (.seq (.seq (.reg 0 [⟨0, some 31, none, .p .mov, [.t 0]⟩,
    ⟨1, some 32, none, .p .len, [.t 31]⟩,
    ⟨2, some 33, none, .p .mov, [.t 1]⟩,
    ⟨3, some 34, none, .p .len, [.t 33]⟩,
    ⟨4, some 35, none, .p (.bin .add), [.t 32, .t 34]⟩,
    ⟨5, some 36, none, .p (.bin .gtr), [.t 35, .c (.int .i64 1048576)]⟩])
   (.cond (.t 36) (.seq (.reg 0 [⟨0, some 4, none, .p .mov, [.c (.bool true)]⟩])
   (.ret))
   (.skip)))
   (.seq (.reg 0 [⟨0, some 38, none, .p .mov, [.t 0]⟩,
    ⟨1, some 39, none, .e .call [] [], [.f 461, .t 38]⟩,
    ⟨2, some 37, none, .p .mov, [.t 39]⟩,
    ⟨3, some 40, none, .p (.extract 0), [.t 37]⟩,
    ⟨4, some 41, none, .p (.extract 1), [.t 37]⟩,
    ⟨5, some 5, none, .l (.alloc 5 [.int .i64 0, .nils, .nils]), []⟩,
    ⟨6, none, none, .l (.store 5 3), [.t 5, .t 40]⟩,
    ⟨7, some 6, none, .p .mov, [.t 41]⟩])
   (.seq (.reg 0 [⟨0, some 43, none, .l (.load 5 true 3), [.t 5]⟩,
    ⟨1, some 44, none, .p .mov, [.t 6]⟩,
    ⟨2, some 45, none, .e .call [] [], [.f 462, .t 43, .t 44]⟩,
    ⟨3, some 42, none, .p .mov, [.t 45]⟩,
    ⟨4, some 46, none, .p (.extract 0), [.t 42]⟩,
    ⟨5, some 47, none, .p (.extract 1), [.t 42]⟩,
    ⟨6, some 7, none, .p .mov, [.t 46]⟩,
    ⟨7, some 8, none, .p .mov, [.t 47]⟩])
   (.seq (.reg 0 [⟨0, some 49, none, .l (.load 5 true 3), [.t 5]⟩,
    ⟨1, some 50, none, .p .mov, [.t 6]⟩,
    ⟨2, some 51, none, .e .call [] [], [.f 463, .t 49, .t 50]⟩,
    ⟨3, some 48, none, .p .mov, [.t 51]⟩,
    ⟨4, some 52, none, .p (.extract 0), [.t 48]⟩,
    ⟨5, some 53, none, .p (.extract 1), [.t 48]⟩,
    ⟨6, some 9, none, .p .mov, [.t 52]⟩,
    ⟨7, some 10, none, .p .mov, [.t 53]⟩])
   (.seq (.seq (.reg 0 [⟨0, some 54, none, .p .mov, [.t 8]⟩,
    ⟨1, some 55, none, .p .mov, [.t 10]⟩,
    ⟨2, some 56, none, .p (.eqB true), [.t 54, .t 55]⟩,
    ⟨3, some 57, none, .p .mov, [.t 56]⟩,
    ⟨4, some 58, some (57, false), .p .mov, [.t 7]⟩,
    ⟨5, some 59, some (57, false), .p .mov, [.t 9]⟩,
    ⟨6, some 60, some (57, false), .e .call [] [], [.f 383, .t 58, .t 59]⟩,
    ⟨7, some 61, some (57, false), .p (.un .not), [.t 60]⟩,
    ⟨8, some 62, none, .p .pick, [.t 57, .c (.bool true), .t 61]⟩,
    ⟨9, some 63, none, .p .mov, [.t 62]⟩,
    ⟨10, some 64, some (63, false), .l (.load 5 true 3), [.t 5]⟩,
    ⟨11, some 65, some (63, false), .e .call [] [], [.f 464, .t 64]⟩,
    ⟨12, some 66, some (63, false), .l (.load 5 true 3), [.t 5]⟩,
    ⟨13, some 67, some (63, false), .e .call [] [], [.f 465, .t 66]⟩,
    ⟨14, some 68, some (63, false), .p (.eqB true), [.t 65, .t 67]⟩,
    ⟨15, some 69, none, .p .pick, [.t 63, .c (.bool true), .t 68]⟩])
   (.cond (.t 69) (.seq (.reg 0 [⟨0, some 4, none, .p .mov, [.c (.bool false)]⟩])
   (.ret))
   (.skip)))
   (.seq (.seq (.reg 0 [⟨0, some 70, none, .p .mov, [.t 8]⟩])
   (.cond (.t 70) (.seq (.reg 0 [⟨0, some 72, none, .l (.load 5 true 3), [.t 5]⟩,
    ⟨1, some 73, none, .p .mov, [.t 7]⟩,
    ⟨2, some 74, none, .e .call [] [], [.f 466, .t 72, .t 73]⟩,
    ⟨3, some 71, none, .p .mov, [.t 74]⟩,
    ⟨4, some 75, none, .p (.extract 0), [.t 71]⟩,
    ⟨5, some 76, none, .p (.extract 1), [.t 71]⟩,
    ⟨6, some 11, none, .p .mov, [.t 75]⟩,
    ⟨7, some 12, none, .p .mov, [.t 76]⟩])
   (.seq (.seq (.reg 0 [⟨0, some 77, none, .p .mov, [.t 12]⟩,
    ⟨1, some 78, none, .p (.un .not), [.t 77]⟩,
    ⟨2, some 79, none, .p .mov, [.t 78]⟩,
    ⟨3, some 80, some (79, false), .p .mov, [.t 11]⟩,
    ⟨4, some 81, some (79, false), .p .len, [.t 80]⟩,
    ⟨5, some 82, some (79, false), .p (.bin .gtr), [.t 81, .c (.int .i64 0)]⟩,
    ⟨6, some 83, none, .p .pick, [.t 79, .c (.bool true), .t 82]⟩])
   (.cond (.t 83) (.seq (.reg 0 [⟨0, some 4, none, .p .mov, [.c (.bool false)]⟩])
   (.ret))
   (.skip)))
   (.seq (.reg 0 [⟨0, some 84, none, .p .mov, [.t 7]⟩,
    ⟨1, some 85, none, .p .len, [.t 84]⟩,
    ⟨2, some 86, none, .p .mov, [.c (.int .i64 0)]⟩])
   (.block 0 (.loop g460_0)))))
   (.skip)))
   (.seq (.reg 0 [⟨0, some 116, none, .p .mov, [.t 1]⟩,
    ⟨1, some 117, none, .e .call [] [], [.f 467, .t 116]⟩,
    ⟨2, some 115, none, .p .mov, [.t 117]⟩,
    ⟨3, some 118, none, .p (.extract 0), [.t 115]⟩,
    ⟨4, some 119, none, .p (.extract 1), [.t 115]⟩,
    ⟨5, some 17, none, .l (.alloc 17 [.int .i64 0, .nils, .nils]), []⟩,
    ⟨6, none, none, .l (.store 17 3), [.t 17, .t 118]⟩,
    ⟨7, some 18, none, .p .mov, [.t 119]⟩])
   (.seq (.reg 0 [⟨0, some 121, none, .l (.load 17 true 3), [.t 17]⟩,
    ⟨1, some 122, none, .p .mov, [.t 18]⟩,
    ⟨2, some 123, none, .e .call [] [], [.f 466, .t 121, .t 122]⟩,
    ⟨3, some 120, none, .p .mov, [.t 123]⟩,
    ⟨4, some 124, none, .p (.extract 0), [.t 120]⟩,
    ⟨5, some 125, none, .p (.extract 1), [.t 120]⟩,
    ⟨6, some 19, none, .p .mov, [.t 124]⟩,
    ⟨7, some 20, none, .p .mov, [.t 125]⟩])
   (.seq (.reg 0 [⟨0, some 127, none, .l (.load 17 true 3), [.t 17]⟩,
    ⟨1, some 128, none, .p .mov, [.t 18]⟩,
    ⟨2, some 129, none, .e .call [] [], [.f 468, .t 127, .t 128]⟩,
    ⟨3, some 126, none, .p .mov, [.t 129]⟩,
    ⟨4, some 130, none, .p (.extract 0), [.t 126]⟩,
    ⟨5, some 131, none, .p (.extract 1), [.t 126]⟩,
    ⟨6, some 21, none, .p .mov, [.t 130]⟩,
    ⟨7, some 22, none, .p .mov, [.t 131]⟩])
   (.seq (.reg 0 [⟨0, some 133, none, .p .mov, [.t 1]⟩,
    ⟨1, some 134, none, .e .call [] [], [.f 469, .t 133]⟩,
    ⟨2, some 132, none, .p .mov, [.t 134]⟩,
    ⟨3, some 135, none, .p (.extract 0), [.t 132]⟩,
    ⟨4, some 136, none, .p (.extract 1), [.t 132]⟩,
    ⟨5, some 23, none, .l (.alloc 23 [.int .i64 0, .bool false]), []⟩,
    ⟨6, some 24, none, .l (.alloc 24 [.int .i64 0, .bool false]), []⟩,
    ⟨7, none, none, .l (.store 23 2), [.t 23, .t 135]⟩,
    ⟨8, none, none, .l (.store 24 2), [.t 24, .t 136]⟩])
   (.seq (.reg 0 [⟨0, some 138, none, .l (.load 23 true 2), [.t 23]⟩,
    ⟨1, some 139, none, .l (.load 24 true 2), [.t 24]⟩,
    ⟨2, some 140, none, .e .call [] [], [.f 470, .t 138, .t 139]⟩,
    ⟨3, some 137, none, .p .mov, [.t 140]⟩,
    ⟨4, some 141, none, .p (.extract 0), [.t 137]⟩,
    ⟨5, some 142, none, .p (.extract 1), [.t 137]⟩,
    ⟨6, some 25, none, .p .mov, [.t 141]⟩,
    ⟨7, some 26, none, .p .mov, [.t 142]⟩])
   (.seq (.reg 0 [⟨0, some 144, none, .l (.load 23 true 2), [.t 23]⟩,
    ⟨1, some 145, none, .l (.load 24 true 2), [.t 24]⟩,
    ⟨2, some 146, none, .e .call [] [], [.f 471, .t 144, .t 145]⟩,
    ⟨3, some 143, none, .p .mov, [.t 146]⟩,
    ⟨4, some 147, none, .p (.extract 0), [.t 143]⟩,
    ⟨5, some 148, none, .p (.extract 1), [.t 143]⟩,
    ⟨6, some 27, none, .p .mov, [.t 147]⟩,
    ⟨7, some 28, none, .p .mov, [.t 148]⟩])
   (.seq (.reg 0 [⟨0, some 150, none, .l (.load 24 true 2), [.t 24]⟩,
    ⟨1, some 151, none, .l (.load 23 true 2), [.t 23]⟩,
    ⟨2, some 152, none, .e .call [] [], [.f 470, .t 150, .t 151]⟩,
    ⟨3, some 149, none, .p .mov, [.t 152]⟩,
    ⟨4, some 153, none, .p (.extract 0), [.t 149]⟩,
    ⟨5, some 154, none, .p (.extract 1), [.t 149]⟩,
    ⟨6, some 29, none, .p .mov, [.t 153]⟩,
    ⟨7, some 30, none, .p .mov, [.t 154]⟩])
   (.seq (.reg 0 [⟨0, some 155, none, .p .mov, [.t 20]⟩,
    ⟨1, some 156, none, .p .mov, [.t 22]⟩,
    ⟨2, some 157, none, .p (.eqB false), [.t 155, .t 156]⟩,
    ⟨3, some 158, none, .p .mov, [.t 157]⟩,
    ⟨4, some 159, some (158, true), .p .mov, [.t 19]⟩,
    ⟨5, some 160, some (158, true), .p .mov, [.t 21]⟩,
    ⟨6, some 161, some (158, true), .e .call [] [], [.f 24, .t 159, .t 160]⟩,
    ⟨7, some 162, none, .p .pick, [.t 158, .t 161, .c (.bool false)]⟩,
    ⟨8, some 163, none, .p .mov, [.t 162]⟩,
    ⟨9, some 164, some (163, true), .p .mov, [.t 26]⟩,
    ⟨10, some 165, some (163, true), .p .mov, [.t 28]⟩,
    ⟨11, some 166, some (163, true), .p (.eqB false), [.t 164, .t 165]⟩,
    ⟨12, some 167, none, .p .pick, [.t 163, .t 166, .c (.bool false)]⟩,
    ⟨13, some 168, none, .p .mov, [.t 167]⟩,
    ⟨14, some 169, some (168, true), .p .mov, [.t 25]⟩,
    ⟨15, some 170, some (168, true), .p .mov, [.t 27]⟩,
    ⟨16, some 171, some (168, true), .p (.eqB false), [.t 169, .t 170]⟩,
    ⟨17, some 172, none, .p .pick, [.t 168, .t 171, .c (.bool false)]⟩,
    ⟨18, some 173, none, .p .mov, [.t 172]⟩,
    ⟨19, some 174, some (173, true), .p .mov, [.t 30]⟩,
    ⟨20, some 175, some (173, true), .p .mov, [.t 26]⟩,
    ⟨21, some 176, some (173, true), .p (.eqB false), [.t 174, .t 175]⟩,
    ⟨22, some 177, none, .p .pick, [.t 173, .t 176, .c (.bool false)]⟩,
    ⟨23, some 178, none, .p .mov, [.t 177]⟩,
    ⟨24, some 179, some (178, true), .p .mov, [.t 29]⟩,
    ⟨25, some 180, some (178, true), .p .mov, [.t 25]⟩,
    ⟨26, some 181, some (178, true), .p (.eqB false), [.t 179, .t 180]⟩,
    ⟨27, some 182, none, .p .pick, [.t 178, .t 181, .c (.bool false)]⟩,
    ⟨28, some 4, none, .p .mov, [.t 182]⟩])
   (.ret))))))))))))))),
  [.tmp 4]⟩
/- loop.example/g00641/spec.DrawAllDeps -/
def g461_0 : GL.Code := .seq (.reg 0 [⟨0, some 16, none, .p (.bin .lss), [.t 15, .t 14]⟩])
   (.seq (.cond (.t 16) (.skip)
   (.exit 0))
   (.seq (.block 1 (.reg 0 [⟨0, some 17, none, .p .mov, [.t 6]⟩,
    ⟨1, some 18, none, .p .mov, [.t 4]⟩,
    ⟨2, some 19, none, .p (.faddr 0), [.t 5]⟩,
    ⟨3, some 20, none, .l (.load 5 false 1), [.t 19]⟩,
    ⟨4, some 21, none, .e .call [] [], [.f 529, .t 18, .t 20]⟩,
    ⟨5, some 22, none, .e (.new (.lit 1)) [] [], [.t 21]⟩,
    ⟨6, some 23, none, .e (.append 1 24) [] [], [.t 17, .t 22]⟩,
    ⟨7, some 6, none, .p .mov, [.t 23]⟩]))
   (.reg 0 [⟨0, some 24, none, .p (.bin .add), [.t 15, .c (.int .i64 1)]⟩,
    ⟨1, some 15, none, .p .mov, [.t 24]⟩])))
def g461 : GL.Fn := ⟨.seq (.reg 0 [⟨0, some 2, none, .l (.alloc 2 [.int .i64 0, .nils, .nils]), []⟩,
    ⟨1, some 3, none, .p .mov, [.c (.nils)]⟩])
   (.seq (.reg 0 [⟨0, some 7, none, .p .mov, [.t 0]⟩,
    ⟨1, some 8, none, .p (.build [.nils, .int .i64 0, .int .u64 0] [(0, 1)]), [.t 7]⟩,
    ⟨2, some 9, none, .e (.new (.box 3)) [] [], [.t 8]⟩,
    ⟨3, some 4, none, .p .mov, [.t 9]⟩])
   (.seq (.reg 0 [⟨0, some 10, none, .p .mov, [.t 4]⟩,
    ⟨1, some 11, none, .e .call [] [], [.f 528, .t 10]⟩,
    ⟨2, some 5, none, .l (.alloc 5 [.int .i64 0, .nils, .nils]), []⟩,
    ⟨3, none, none, .l (.store 5 3), [.t 5, .t 11]⟩])
   (.seq (.reg 0 [⟨0, some 6, none, .p .mov, [.c (.nils)]⟩])
   (.seq (.seq (.reg 0 [⟨0, some 12, none, .p (.faddr 1), [.t 5]⟩,
    ⟨1, some 13, none, .l (.load 5 false 1), [.t 12]⟩,
    ⟨2, some 14, none, .p .len, [.t 13]⟩,
    ⟨3, some 15, none, .p .mov, [.c (.int .i64 0)]⟩])
   (.block 0 (.loop g461_0)))
   (.seq (.seq (.reg 0 [⟨0, some 25, none, .p .mov, [.t 6]⟩,
    ⟨1, some 26, none, .p .len, [.t 25]⟩,
    ⟨2, some 27, none, .p (.bin .gtr), [.t 26, .c (.int .i64 0)]⟩,
    ⟨3, some 28, none, .p .mov, [.t 27]⟩,
    ⟨4, some 29, some (28, true), .p .mov, [.t 4]⟩,
    ⟨5, some 30, some (28, true), .e .call [] [], [.f 92, .t 29, .c (.int .i64 30)]⟩,
    ⟨6, some 31, none, .p .pick, [.t 28, .t 30, .c (.bool false)]⟩])
   (.cond (.t 31) (.reg 0 [⟨0, some 32, none, .p .mov, [.t 6]⟩,
    ⟨1, some 33, none, .e (.new (.lit 1)) [] [], [.c (.int .i64 0)]⟩,
    ⟨2, some 34, none, .p (.idx 1), [.t 32, .c (.int .i64 0)]⟩,
    ⟨3, none, none, .e (.store 1) [] [], [.t 34, .t 33]⟩])
   (.skip)))
   (.seq (.reg 0 [⟨0, some 35, none, .l (.load 5 true 3), [.t 5]⟩,
    ⟨1, some 36, none, .p .mov, [.t 6]⟩,
    ⟨2, none, none, .l (.store 2 3), [.t 2, .t 35]⟩,
    ⟨3, some 3, none, .p .mov, [.t 36]⟩])
   (.ret))))))),
  [.cellL 2 2 true 3, .tmp 3]⟩
/- loop.example/g00641/impl.AllDeps -/
def g462_0 : GL.Code := .seq (.reg 0 [⟨0, some 24, none, .p (.bin .lss), [.t 23, .t 22]⟩])
   (.seq (.cond (.t 24) (.skip)
   (.exit 0))
   (.seq (.block 1 (.seq (.reg 0 [⟨0, some 25, none, .p .mov, [.t 23]⟩,
    ⟨1, some 26, none, .p (.idx 1), [.t 21, .t 23]⟩,
    ⟨2, some 27, none, .r (.load false 1) false, [.t 26]⟩,
    ⟨3, some 7, none, .p .mov, [.t 25]⟩,
    ⟨4, some 8, none, .p .mov, [.t 27]⟩])
   (.seq (.seq (.reg 0 [⟨0, some 28, none, .l (.load 2 true 3), [.t 2]⟩,
    ⟨1, some 29, none, .p .mov, [.t 8]⟩,
    ⟨2, some 30, none, .e .call [] [], [.f 525, .t 28, .t 29]⟩,
    ⟨3, some 31, none, .p (.un .not), [.t 30]⟩])
   (.cond (.t 31) (.seq (.reg 0 [⟨0, some 4, none, .p .mov, [.c (.nils)]⟩,
    ⟨1, some 5, none, .p .mov, [.c (.bool false)]⟩])
   (.ret))
   (.skip)))
   (.reg 0 [⟨0, some 32, none, .p .mov, [.t 6]⟩,
    ⟨1, some 33, none, .l (.load 2 true 3), [.t 2]⟩,
    ⟨2, some 34, none, .p .mov, [.t 7]⟩,
    ⟨3, some 35, none, .p .mov, [.t 8]⟩,
    ⟨4, some 36, none, .e .call [] [], [.f 526, .t 33, .t 34, .t 35]⟩,
    ⟨5, some 37, none, .e (.new (.lit 1)) [] [], [.t 36]⟩,
    ⟨6, some 38, none, .e (.append 1 24) [] [], [.t 32, .t 37]⟩,
    ⟨7, some 6, none, .p .mov, [.t 38]⟩]))))
   (.reg 0 [⟨0, some 39, none, .p (.bin .add), [.t 23, .c (.int .i64 1)]⟩,
    ⟨1, some 23, none, .p .mov, [.t 39]⟩])))
def g462 : GL.Fn := ⟨.seq (.reg 0 [⟨0, some 2, none, .l (.box 2 3), [.t 0]⟩,
    ⟨1, some 4, none, .p .mov, [.c (.nils)]⟩,
    ⟨2, some 5, none, .p .mov, [.c (.bool false)]⟩])
   (.seq (.seq (.reg 0 [⟨0, some 9, none, .l (.load 2 true 3), [.t 2]⟩,
    ⟨1, some 10, none, .e .call [] [], [.f 464, .t 9]⟩,
    ⟨2, some 11, none, .p (.un .not), [.t 10]⟩,
    ⟨3, some 12, none, .p .mov, [.t 11]⟩,
    ⟨4, some 13, some (12, false), .p .mov, [.t 1]⟩,
    ⟨5, some 14, some (12, false), .p .len, [.t 13]⟩,
    ⟨6, some 15, some (12, false), .p (.faddr 1), [.t 2]⟩,
    ⟨7, some 16, some (12, false), .l (.load 2 false 1), [.t 15]⟩,
    ⟨8, some 17, some (12, false), .p .len, [.t 16]⟩,
    ⟨9, some 18, some (12, false), .p (.bin .neq), [.t 14, .t 17]⟩,
    ⟨10, some 19, none, .p .pick, [.t 12, .c (.bool true), .t 18]⟩])
   (.cond (.t 19) (.seq (.reg 0 [⟨0, some 4, none, .p .mov, [.c (.nils)]⟩,
    ⟨1, some 5, none, .p .mov, [.c (.bool false)]⟩])
   (.ret))
   (.skip)))
   (.seq (.reg 0 [⟨0, some 20, none, .e (.new (.lit 1)) [] [], []⟩,
    ⟨1, some 6, none, .p .mov, [.t 20]⟩])
   (.seq (.seq (.reg 0 [⟨0, some 21, none, .p .mov, [.t 1]⟩,
    ⟨1, some 22, none, .p .len, [.t 21]⟩,
    ⟨2, some 23, none, .p .mov, [.c (.int .i64 0)]⟩])
   (.block 0 (.loop g462_0)))
   (.seq (.reg 0 [⟨0, some 40, none, .p .mov, [.t 6]⟩,
    ⟨1, some 4, none, .p .mov, [.t 40]⟩,
    ⟨2, some 5, none, .p .mov, [.c (.bool true)]⟩])
   (.ret))))),
  [.tmp 4, .tmp 5]⟩
/- loop.example/g00641/spec.AllDeps -/
def g463_0 : GL.Code := .seq (.reg 0 [⟨0, some 23, none, .p (.bin .lss), [.t 22, .t 21]⟩])
   (.seq (.cond (.t 23) (.skip)
   (.exit 0))
   (.seq (.block 1 (.seq (.reg 0 [⟨0, some 24, none, .p .mov, [.t 22]⟩,
    ⟨1, some 25, none, .p (.idx 1), [.t 20, .t 22]⟩,
    ⟨2, some 26, none, .r (.load false 1) false, [.t 25]⟩,
    ⟨3, some 7, none, .p .mov, [.t 24]⟩,
    ⟨4, some 8, none, .p .mov, [.t 26]⟩])
   (.seq (.seq (.reg 0 [⟨0, some 27, none, .l (.load 2 true 3), [.t 2]⟩,
    ⟨1, some 28, none, .p .mov, [.t 8]⟩,
    ⟨2, some 29, none, .e .call [] [], [.f 522, .t 27, .t 28]⟩,
    ⟨3, some 30, none, .p (.un .not), [.t 29]⟩])
   (.cond (.t 30) (.seq (.reg 0 [⟨0, some 4, none, .p .mov, [.c (.nils)]⟩,
    ⟨1, some 5, none, .p .mov, [.c (.bool false)]⟩])
   (.ret))
   (.skip)))
   (.reg 0 [⟨0, some 31, none, .p .mov, [.t 6]⟩,
    ⟨1, some 32, none, .l (.load 2 true 3), [.t 2]⟩,
    ⟨2, some 33, none, .p .mov, [.t 7]⟩,
    ⟨3, some 34, none, .p .mov, [.t 8]⟩,
    ⟨4, some 35, none, .e .call [] [], [.f 527, .t 32, .t 33, .t 34]⟩,
    ⟨5, some 36, none, .e (.new (.lit 1)) [] [], [.t 35]⟩,
    ⟨6, some 37, none, .e (.append 1 24) [] [], [.t 31, .t 36]⟩,
    ⟨7, some 6, none, .p .mov, [.t 37]⟩]))))
   (.reg 0 [⟨0, some 38, none, .p (.bin .add), [.t 22, .c (.int .i64 1)]⟩,
    ⟨1, some 22, none, .p .mov, [.t 38]⟩])))
def g463 : GL.Fn := ⟨.seq (.reg 0 [⟨0, some 2, none, .l (.box 2 3), [.t 0]⟩,
    ⟨1, some 4, none, .p .mov, [.c (.nils)]⟩,
    ⟨2, some 5, none, .p .mov, [.c (.bool false)]⟩])
   (.seq (.seq (.reg 0 [⟨0, some 9, none, .l (.load 2 true 3), [.t 2]⟩,
    ⟨1, some 10, none, .e .call [] [], [.f 465, .t 9]⟩,
    ⟨2, some 11, none, .p (.un .not), [.t 10]⟩,
    ⟨3, some 12, none, .p .mov, [.t 11]⟩,
    ⟨4, some 13, some (12, false), .p .mov, [.t 1]⟩,
    ⟨5, some 14, some (12, false), .p .len, [.t 13]⟩,
    ⟨6, some 15, some (12, false), .p (.faddr 1), [.t 2]⟩,
    ⟨7, some 16, some (12, false), .l (.load 2 false 1), [.t 15]⟩,
    ⟨8, some 17, some (12, false), .p .len, [.t 16]⟩,
    ⟨9, some 18, some (12, false), .p (.bin .neq), [.t 14, .t 17]⟩,
    ⟨10, some 19, none, .p .pick, [.t 12, .c (.bool true), .t 18]⟩])
   (.cond (.t 19) (.seq (.reg 0 [⟨0, some 4, none, .p .mov, [.c (.nils)]⟩,
    ⟨1, some 5, none, .p .mov, [.c (.bool false)]⟩])
   (.ret))
   (.skip)))
   (.seq (.reg 0 [⟨0, some 6, none, .p .mov, [.c (.nils)]⟩])
   (.seq (.seq (.reg 0 [⟨0, some 20, none, .p .mov, [.t 1]⟩,
    ⟨1, some 21, none, .p .len, [.t 20]⟩,
    ⟨2, some 22, none, .p .mov, [.c (.int .i64 0)]⟩])
   (.block 0 (.loop g463_0)))
   (.seq (.reg 0 [⟨0, some 39, none, .p .mov, [.t 6]⟩,
    ⟨1, some 4, none, .p .mov, [.t 39]⟩,
    ⟨2, some 5, none, .p .mov, [.c (.bool true)]⟩])
   (.ret))))),
  [.tmp 4, .tmp 5]⟩
/- loop.example/g00641/laws.sameRows -/
def g383_0 : GL.Code := .seq (.reg 0 [⟨0, some 14, none, .p (.bin .lss), [.t 13, .t 12]⟩])
   (.seq (.cond (.t 14) (.skip)
   (.exit 0))
   (.seq (.block 1 (.seq (.reg 0 [⟨0, some 15, none, .p .mov, [.t 13]⟩,
    ⟨1, some 5, none, .p .mov, [.t 15]⟩])
   (.seq (.reg 0 [⟨0, some 16, none, .p .mov, [.t 0]⟩,
    ⟨1, some 17, none, .p .mov, [.t 5]⟩,
    ⟨2, some 18, none, .p (.idx 1), [.t 16, .t 17]⟩,
    ⟨3, some 19, none, .r (.load false 1) false, [.t 18]⟩,
    ⟨4, some 20, none, .p .mov, [.t 1]⟩,
    ⟨5, some 21, none, .p .mov, [.t 5]⟩,
    ⟨6, some 22, none, .p (.idx 1), [.t 20, .t 21]⟩,
    ⟨7, some 23, none, .r (.load false 1) false, [.t 22]⟩,
    ⟨8, some 24, none, .e .call [] [], [.f 24, .t 19, .t 23]⟩,
    ⟨9, some 25, none, .p (.un .not), [.t 24]⟩])
   (.cond (.t 25) (.seq (.reg 0 [⟨0, some 4, none, .p .mov, [.c (.bool false)]⟩])
   (.ret))
   (.skip)))))
   (.reg 0 [⟨0, some 26, none, .p (.bin .add), [.t 13, .c (.int .i64 1)]⟩,
    ⟨1, some 13, none, .p .mov, [.t 26]⟩])))
def g383 : GL.Fn := ⟨.seq (.reg 0 [⟨0, some 4, none, .p .mov, [.c (.bool false)]⟩])
   (.seq (.seq (.reg 0 [⟨0, some 6, none, .p .mov, [.t 0]⟩,
    ⟨1, some 7, none, .p .len, [.t 6]⟩,
    ⟨2, some 8, none, .p .mov, [.t 1]⟩,
    ⟨3, some 9, none, .p .len, [.t 8]⟩,
    ⟨4, some 10, none, .p (.bin .neq), [.t 7, .t 9]⟩])
   (.cond (.t 10) (.seq (.reg 0 [⟨0, some 4, none, .p .mov, [.c (.bool false)]⟩])
   (.ret))
   (.skip)))
   (.seq (.seq (.reg 0 [⟨0, some 11, none, .p .mov, [.t 0]⟩,
    ⟨1, some 12, none, .p .len, [.t 11]⟩,
    ⟨2, some 13, none, .p .mov, [.c (.int .i64 0)]⟩])
   (.block 0 (.loop g383_0)))
   (.seq (.reg 0 [⟨0, some 4, none, .p .mov, [.c (.bool true)]⟩])
   (.ret)))),
  [.tmp 4]⟩
/- loop.example/g00641/impl.GoodHeard -/
def g464 : GL.Fn := ⟨.seq (.reg 0 [⟨0, some 1, none, .l (.box 1 3), [.t 0]⟩,
    ⟨1, some 2, none, .p .mov, [.c (.bool false)]⟩])
   (.seq (.reg 0 [⟨0, some 4, none, .p (.faddr 1), [.t 1]⟩,
    ⟨1, some 5, none, .l (.load 1 false 1), [.t 4]⟩,
    ⟨2, some 6, none, .p .len, [.t 5]⟩,
    ⟨3, some 3, none, .e (.new (.alloc [.int .i64 0])) [] [], []⟩,
    ⟨4, none, none, .e (.store 1) [] [], [.t 3, .t 6]⟩])
   (.seq (.reg 0 [⟨0, some 7, none, .p (.faddr 0), [.t 1]⟩,
    ⟨1, some 8, none, .l (.load 1 false 1), [.t 7]⟩,
    ⟨2, some 9, none, .e .call [] [], [.f 318, .t 8]⟩,
    ⟨3, some 10, none, .p .mov, [.t 9]⟩,
    ⟨4, some 11, some (10, true), .r (.load false 1) false, [.t 3]⟩,
    ⟨5, some 12, some (10, true), .p (.bin .leq), [.t 11, .c (.int .i64 8)]⟩,
    ⟨6, some 13, none, .p .pick, [.t 10, .t 12, .c (.bool false)]⟩,
    ⟨7, some 14, none, .p .mov, [.t 13]⟩,
    ⟨8, some 15, some (14, true), .p (.faddr 2), [.t 1]⟩,
    ⟨9, some 16, some (14, true), .l (.load 1 false 1), [.t 15]⟩,
    ⟨10, some 17, some (14, true), .p .len, [.t 16]⟩,
    ⟨11, some 18, some (14, true), .p (.faddr 0), [.t 1]⟩,
    ⟨12, some 19, some (14, true), .l (.load 1 false 1), [.t 18]⟩,
    ⟨13, some 20, some (14, true), .p (.bin .eql), [.t 17, .t 19]⟩,
    ⟨14, some 21, none, .p .pick, [.t 14, .t 20, .c (.bool false)]⟩,
    ⟨15, some 22, none, .p .mov, [.t 21]⟩,
    ⟨16, some 23, some (22, true), .p (.faddr 1), [.t 1]⟩,
    ⟨17, some 24, some (22, true), .l (.load 1 false 1), [.t 23]⟩,
    ⟨18, some 25, some (22, true), .e .call [] [], [.f 530, .t 24, .f 531]⟩,
    ⟨19, some 26, some (22, true), .p (.un .not), [.t 25]⟩,
    ⟨20, some 27, none, .p .pick, [.t 22, .t 26, .c (.bool false)]⟩,
    ⟨21, some 28, none, .p .mov, [.t 27]⟩,
    ⟨22, some 29, some (28, true), .p (.faddr 2), [.t 1]⟩,
    ⟨23, some 30, some (28, true), .l (.load 1 false 1), [.t 29]⟩,
    ⟨24, some 31, some (28, true), .p (.mkFn 532), [.t 3]⟩,
    ⟨25, some 32, some (28, true), .e .call [] [], [.f 335, .t 30, .t 31]⟩,
    ⟨26, some 33, some (28, true), .p (.un .not), [.t 32]⟩,
    ⟨27, some 34, none, .p .pick, [.t 28, .t 33, .c (.bool false)]⟩,
    ⟨28, some 2, none, .p .mov, [.t 34]⟩])
   (.ret))),
  [.tmp 2]⟩
/- loop.example/g00641/spec.GoodHeard -/
def g465_0 : GL.Code := .seq (.reg 0 [⟨0, some 32, none, .p (.bin .lss), [.t 31, .t 30]⟩])
   (.seq (.cond (.t 32) (.skip)
   (.exit 0))
   (.seq (.block 1 (.seq (.reg 0 [⟨0, some 33, none, .p (.idx 2), [.t 29, .t 31]⟩,
    ⟨1, some 34, none, .r (.load true 2) false, [.t 33]⟩,
    ⟨2, some 5, none, .l (.alloc 5 [.int .i64 0, .bool false]), []⟩,
    ⟨3, none, none, .l (.store 5 2), [.t 5, .t 34]⟩])
   (.seq (.reg 0 [⟨0, some 35, none, .l (.load 5 true 2), [.t 5]⟩,
    ⟨1, some 36, none, .e .call [] [], [.f 533, .t 35]⟩,
    ⟨2, some 37, none, .p (.un .not), [.t 36]⟩])
   (.cond (.t 37) (.seq (.reg 0 [⟨0, some 2, none, .p .mov, [.c (.bool false)]⟩])
   (.ret))
   (.skip)))))
   (.reg 0 [⟨0, some 38, none, .p (.bin .add), [.t 31, .c (.int .i64 1)]⟩,
    ⟨1, some 31, none, .p .mov, [.t 38]⟩])))
def g465_1 : GL.Code := .seq (.seq (.reg 0 [⟨0, some 57, none, .p .mov, [.t 8]⟩,
    ⟨1, some 58, none, .p .mov, [.t 3]⟩,
    ⟨2, some 59, none, .p (.bin .lss), [.t 57, .t 58]⟩])
   (.cond (.t 59) (.skip)
   (.exit 4)))
   (.seq (.block 5 (.seq (.reg 0 [⟨0, some 62, none, .p .mov, [.t 7]⟩,
    ⟨1, some 63, none, .p .mov, [.t 8]⟩,
    ⟨2, some 64, none, .e .call [] [], [.f 302, .t 62, .t 63]⟩,
    ⟨3, some 65, none, .p (.un .not), [.t 64]⟩])
   (.cond (.t 65) (.seq (.reg 0 [⟨0, some 2, none, .p .mov, [.c (.bool false)]⟩])
   (.ret))
   (.skip))))
   (.reg 0 [⟨0, some 60, none, .p .mov, [.t 8]⟩,
    ⟨1, some 61, none, .p (.bin .add), [.t 60, .c (.int .i64 1)]⟩,
    ⟨2, some 8, none, .p .mov, [.t 61]⟩]))
def g465_2 : GL.Code := .seq (.reg 0 [⟨0, some 43, none, .p (.bin .lss), [.t 42, .t 41]⟩])
   (.seq (.cond (.t 43) (.skip)
   (.exit 2))
   (.seq (.block 3 (.seq (.reg 0 [⟨0, some 44, none, .p (.idx 1), [.t 40, .t 42]⟩,
    ⟨1, some 45, none, .r (.load false 1) false, [.t 44]⟩,
    ⟨2, some 7, none, .p .mov, [.t 45]⟩])
   (.seq (.seq (.reg 0 [⟨0, some 46, none, .p .mov, [.t 7]⟩,
    ⟨1, some 47, none, .p .len, [.t 46]⟩,
    ⟨2, some 48, none, .p .mov, [.t 3]⟩,
    ⟨3, some 49, none, .p (.bin .neq), [.t 47, .t 48]⟩,
    ⟨4, some 50, none, .p .mov, [.t 49]⟩,
    ⟨5, some 51, some (50, false), .p .mov, [.t 7]⟩,
    ⟨6, some 52, some (50, false), .p .mov, [.t 3]⟩,
    ⟨7, some 53, some (50, false), .p (.bin .sub), [.t 52, .c (.int .i64 1)]⟩,
    ⟨8, some 54, some (50, false), .e .call [] [], [.f 94, .t 51, .c (.int .i64 0), .t 53]⟩,
    ⟨9, some 55, some (50, false), .p (.un .not), [.t 54]⟩,
    ⟨10, some 56, none, .p .pick, [.t 50, .c (.bool true), .t 55]⟩])
   (.cond (.t 56) (.seq (.reg 0 [⟨0, some 2, none, .p .mov, [.c (.bool false)]⟩])
   (.ret))
   (.skip)))
   (.seq (.reg 0 [⟨0, some 8, none, .p .mov, [.c (.int .i64 0)]⟩])
   (.block 4 (.loop g465_1))))))
   (.reg 0 [⟨0, some 66, none, .p (.bin .add), [.t 42, .c (.int .i64 1)]⟩,
    ⟨1, some 42, none, .p .mov, [.t 66]⟩])))
def g465 : GL.Fn := ⟨.seq (.reg 0 [⟨0, some 1, none, .l (.box 1 3), [.t 0]⟩,
    ⟨1, some 2, none, .p .mov, [.c (.bool false)]⟩])
   (.seq (.reg 0 [⟨0, some 9, none, .p (.faddr 1), [.t 1]⟩,
    ⟨1, some 10, none, .l (.load 1 false 1), [.t 9]⟩,
    ⟨2, some 11, none, .p .len, [.t 10]⟩,
    ⟨3, some 3, none, .p .mov, [.t 11]⟩])
   (.seq (.seq (.reg 0 [⟨0, some 12, none, .p (.faddr 0), [.t 1]⟩,
    ⟨1, some 13, none, .l (.load 1 false 1), [.t 12]⟩,
    ⟨2, some 14, none, .e .call [] [], [.f 321, .t 13]⟩,
    ⟨3, some 15, none, .p (.un .not), [.t 14]⟩,
    ⟨4, some 16, none, .p .mov, [.t 15]⟩,
    ⟨5, some 17, some (16, false), .p .mov, [.t 3]⟩,
    ⟨6, some 18, some (16, false), .p (.bin .gtr), [.t 17, .c (.int .i64 8)]⟩,
    ⟨7, some 19, none, .p .pick, [.t 16, .c (.bool true), .t 18]⟩,
    ⟨8, some 20, none, .p .mov, [.t 19]⟩,
    ⟨9, some 21, some (20, false), .p (.faddr 2), [.t 1]⟩,
    ⟨10, some 22, some (20, false), .l (.load 1 false 1), [.t 21]⟩,
    ⟨11, some 23, some (20, false), .p .len, [.t 22]⟩,
    ⟨12, some 24, some (20, false), .p (.faddr 0), [.t 1]⟩,
    ⟨13, some 25, some (20, false), .l (.load 1 false 1), [.t 24]⟩,
    ⟨14, some 26, some (20, false), .p (.bin .neq), [.t 23, .t 25]⟩,
    ⟨15, some 27, none, .p .pick, [.t 20, .c (.bool true), .t 26]⟩])
   (.cond (.t 27) (.seq (.reg 0 [⟨0, some 2, none, .p .mov, [.c (.bool false)]⟩])
   (.ret))
   (.skip)))
   (.seq (.seq (.reg 0 [⟨0, some 28, none, .p (.faddr 1), [.t 1]⟩,
    ⟨1, some 29, none, .l (.load 1 false 1), [.t 28]⟩,
    ⟨2, some 30, none, .p .len, [.t 29]⟩,
    ⟨3, some 31, none, .p .mov, [.c (.int .i64 0)]⟩])
   (.block 0 (.loop g465_0)))
   (.seq (.seq (.reg 0 [⟨0, some 39, none, .p (.faddr 2), [.t 1]⟩,
    ⟨1, some 40, none, .l (.load 1 false 1), [.t 39]⟩,
    ⟨2, some 41, none, .p .len, [.t 40]⟩,
    ⟨3, some 42, none, .p .mov, [.c (.int .i64 0)]⟩])
   (.block 2 (.loop g465_2)))
   (.seq (.reg 0 [⟨0, some 2, none, .p .mov, [.c (.bool true)]⟩])
   (.ret)))))),
  [.tmp 2]⟩
/- loop.example/g00641/impl.MissedBy -/
def g466_0 : GL.Code := .seq (.seq (.reg 0 [⟨0, some 34, none, .p .mov, [.t 9]⟩,
    ⟨1, some 35, none, .r (.load false 1) false, [.t 6]⟩,
    ⟨2, some 36, none, .p (.bin .lss), [.t 34, .t 35]⟩])
   (.cond (.t 36) (.skip)
   (.exit 2)))
   (.seq (.block 3 (.seq (.reg 0 [⟨0, some 39, none, .p (.faddr 1), [.t 2]⟩,
    ⟨1, some 40, none, .l (.load 2 false 1), [.t 39]⟩,
    ⟨2, some 41, none, .p .mov, [.t 8]⟩,
    ⟨3, some 42, none, .p (.idx 2), [.t 40, .t 41]⟩,
    ⟨4, some 43, none, .r (.load true 2) false, [.t 42]⟩,
    ⟨5, some 44, none, .p (.faddr 1), [.t 2]⟩,
    ⟨6, some 45, none, .l (.load 2 false 1), [.t 44]⟩,
    ⟨7, some 46, none, .p .mov, [.t 9]⟩,
    ⟨8, some 47, none, .p (.idx 2), [.t 45, .t 46]⟩,
    ⟨9, some 48, none, .r (.load true 2) false, [.t 47]⟩,
    ⟨10, some 49, none, .e .call [] [], [.f 535, .t 43, .t 48]⟩,
    ⟨11, some 50, none, .p .mov, [.t 49]⟩,
    ⟨12, some 51, some (50, true), .p .mov, [.t 1]⟩,
    ⟨13, some 52, some (50, true), .p .mov, [.t 8]⟩,
    ⟨14, some 53, some (50, true), .p (.idx 1), [.t 51, .t 52]⟩,
    ⟨15, some 54, some (50, true), .r (.load false 1) false, [.t 53]⟩,
    ⟨16, some 55, some (50, true), .p .mov, [.t 9]⟩,
    ⟨17, some 56, some (50, true), .e .call [] [], [.f 301, .t 54, .t 55]⟩,
    ⟨18, some 57, some (50, true), .p (.un .not), [.t 56]⟩,
    ⟨19, some 58, none, .p .pick, [.t 50, .t 57, .c (.bool false)]⟩,
    ⟨20, some 59, none, .p .mov, [.t 58]⟩,
    ⟨21, some 60, some (59, true), .p .mov, [.t 1]⟩,
    ⟨22, some 61, some (59, true), .p .mov, [.t 9]⟩,
    ⟨23, some 62, some (59, true), .p (.idx 1), [.t 60, .t 61]⟩,
    ⟨24, some 63, some (59, true), .r (.load false 1) false, [.t 62]⟩,
    ⟨25, some 64, some (59, true), .p .mov, [.t 8]⟩,
    ⟨26, some 65, some (59, true), .e .call [] [], [.f 301, .t 63, .t 64]⟩,
    ⟨27, some 66, some (59, true), .p (.un .not), [.t 65]⟩,
    ⟨28, some 67, none, .p .pick, [.t 59, .t 66, .c (.bool false)]⟩])
   (.cond (.t 67) (.reg 0 [⟨0, some 68, none, .p .mov, [.t 7]⟩,
    ⟨1, some 69, none, .p .mov, [.t 8]⟩,
    ⟨2, some 70, none, .p (.bin .mul), [.c (.int .i64 8), .t 69]⟩,
    ⟨3, some 71, none, .p .mov, [.t 9]⟩,
    ⟨4, some 72, none, .p (.bin .add), [.t 70, .t 71]⟩,
    ⟨5, some 73, none, .e (.new (.lit 1)) [] [], [.t 72]⟩,
    ⟨6, some 74, none, .e (.append 1 8) [] [], [.t 68, .t 73]⟩,
    ⟨7, some 7, none, .p .mov, [.t 74]⟩])
   (.skip))))
   (.reg 0 [⟨0, some 37, none, .p .mov, [.t 9]⟩,
    ⟨1, some 38, none, .p (.bin .add), [.t 37, .c (.int .i64 1)]⟩,
    ⟨2, some 9, none, .p .mov, [.t 38]⟩]))
def g466_1 : GL.Code := .seq (.reg 0 [⟨0, some 30, none, .p (.bin .lss), [.t 29, .t 28]⟩])
   (.seq (.cond (.t 30) (.skip)
   (.exit 0))
   (.seq (.block 1 (.seq (.reg 0 [⟨0, some 31, none, .p .mov, [.t 29]⟩,
    ⟨1, some 8, none, .p .mov, [.t 31]⟩])
   (.seq (.reg 0 [⟨0, some 32, none, .p .mov, [.t 8]⟩,
    ⟨1, some 33, none, .p (.bin .add), [.t 32, .c (.int .i64 1)]⟩,
    ⟨2, some 9, none, .p .mov, [.t 33]⟩])
   (.block 2 (.loop g466_0)))))
   (.reg 0 [⟨0, some 75, none, .p (.bin .add), [.t 29, .c (.int .i64 1)]⟩,
    ⟨1, some 29, none, .p .mov, [.t 75]⟩])))
def g466 : GL.Fn := ⟨.seq (.reg 0 [⟨0, some 2, none, .l (.box 2 3), [.t 0]⟩,
    ⟨1, some 4, none, .p .mov, [.c (.nils)]⟩,
    ⟨2, some 5, none, .p .mov, [.c (.bool false)]⟩])
   (.seq (.reg 0 [⟨0, some 10, none, .p (.faddr 1), [.t 2]⟩,
    ⟨1, some 11, none, .l (.load 2 false 1), [.t 10]⟩,
    ⟨2, some 12, none, .p .len, [.t 11]⟩,
    ⟨3, some 6, none, .e (.new (.alloc [.int .i64 0])) [] [], []⟩,
    ⟨4, none, none, .e (.store 1) [] [], [.t 6, .t 12]⟩])
   (.seq (.seq (.reg 0 [⟨0, some 13, none, .l (.load 2 true 3), [.t 2]⟩,
    ⟨1, some 14, none, .e .call [] [], [.f 464, .t 13]⟩,
    ⟨2, some 15, none, .p (.un .not), [.t 14]⟩,
    ⟨3, some 16, none, .p .mov, [.t 15]⟩,
    ⟨4, some 17, some (16, false), .p .mov, [.t 1]⟩,
    ⟨5, some 18, some (16, false), .p .len, [.t 17]⟩,
    ⟨6, some 19, some (16, false), .r (.load false 1) false, [.t 6]⟩,
    ⟨7, some 20, some (16, false), .p (.bin .neq), [.t 18, .t 19]⟩,
    ⟨8, some 21, none, .p .pick, [.t 16, .c (.bool true), .t 20]⟩,
    ⟨9, some 22, none, .p .mov, [.t 21]⟩,
    ⟨10, some 23, some (22, false), .p .mov, [.t 1]⟩,
    ⟨11, some 24, some (22, false), .p (.mkFn 534), [.t 6]⟩,
    ⟨12, some 25, some (22, false), .e .call [] [], [.f 335, .t 23, .t 24]⟩,
    ⟨13, some 26, none, .p .pick, [.t 22, .c (.bool true), .t 25]⟩])
   (.cond (.t 26) (.seq (.reg 0 [⟨0, some 4, none, .p .mov, [.c (.nils)]⟩,
    ⟨1, some 5, none, .p .mov, [.c (.bool false)]⟩])
   (.ret))
   (.skip)))
   (.seq (.reg 0 [⟨0, some 27, none, .e (.new (.lit 1)) [] [], []⟩,
    ⟨1, some 7, none, .p .mov, [.t 27]⟩])
   (.seq (.seq (.reg 0 [⟨0, some 28, none, .r (.load false 1) false, [.t 6]⟩,
    ⟨1, some 29, none, .p .mov, [.c (.int .i64 0)]⟩])
   (.block 0 (.loop g466_1)))
   (.seq (.reg 0 [⟨0, some 76, none, .p .mov, [.t 7]⟩,
    ⟨1, some 4, none, .p .mov, [.t 76]⟩,
    ⟨2, some 5, none, .p .mov, [.c (.bool true)]⟩])
   (.ret)))))),
  [.tmp 4, .tmp 5]⟩
/- loop.example/g00641/impl.DepsOf -/
def g450 : GL.Fn := ⟨.seq (.reg 0 [⟨0, some 3, none, .l (.box 3 3), [.t 0]⟩,
    ⟨1, some 6, none, .p .mov, [.c (.nils)]⟩,
    ⟨2, some 7, none, .p .mov, [.c (.bool false)]⟩])
   (.seq (.seq (.reg 0 [⟨0, some 8, none, .l (.load 3 true 3), [.t 3]⟩,
    ⟨1, some 9, none, .e .call [] [], [.f 464, .t 8]⟩,
    ⟨2, some 10, none, .p (.un .not), [.t 9]⟩,
    ⟨3, some 11, none, .p .mov, [.t 10]⟩,
    ⟨4, some 12, some (11, false), .l (.load 3 true 3), [.t 3]⟩,
    ⟨5, some 13, some (11, false), .p .mov, [.t 1]⟩,
    ⟨6, some 14, some (11, false), .e .call [] [], [.f 518, .t 12, .t 13]⟩,
    ⟨7, some 15, some (11, false), .p (.un .not), [.t 14]⟩,
    ⟨8, some 16, none, .p .pick, [.t 11, .c (.bool true), .t 15]⟩,
    ⟨9, some 17, none, .p .mov, [.t 16]⟩,
    ⟨10, some 18, some (17, false), .l (.load 3 true 3), [.t 3]⟩,
    ⟨11, some 19, some (17, false), .p .mov, [.t 2]⟩,
    ⟨12, some 20, some (17, false), .e .call [] [], [.f 525, .t 18, .t 19]⟩,
    ⟨13, some 21, some (17, false), .p (.un .not), [.t 20]⟩,
    ⟨14, some 22, none, .p .pick, [.t 17, .c (.bool true), .t 21]⟩])
   (.cond (.t 22) (.seq (.reg 0 [⟨0, some 6, none, .p .mov, [.c (.nils)]⟩,
    ⟨1, some 7, none, .p .mov, [.c (.bool false)]⟩])
   (.ret))
   (.skip)))
   (.seq (.reg 0 [⟨0, some 23, none, .l (.load 3 true 3), [.t 3]⟩,
    ⟨1, some 24, none, .p .mov, [.t 1]⟩,
    ⟨2, some 25, none, .p .mov, [.t 2]⟩,
    ⟨3, some 26, none, .e .call [] [], [.f 526, .t 23, .t 24, .t 25]⟩,
    ⟨4, some 6, none, .p .mov, [.t 26]⟩,
    ⟨5, some 7, none, .p .mov, [.c (.bool true)]⟩])
   (.ret))),
  [.tmp 6, .tmp 7]⟩
/- loop.example/g00641/laws.sameInts -/
def g24_0 : GL.Code := .seq (.reg 0 [⟨0, some 14, none, .p (.bin .lss), [.t 13, .t 12]⟩])
   (.seq (.cond (.t 14) (.skip)
   (.exit 0))
   (.seq (.block 1 (.seq (.reg 0 [⟨0, some 15, none, .p .mov, [.t 13]⟩,
    ⟨1, some 5, none, .p .mov, [.t 15]⟩])
   (.seq (.reg 0 [⟨0, some 16, none, .p .mov, [.t 0]⟩,
    ⟨1, some 17, none, .p .mov, [.t 5]⟩,
    ⟨2, some 18, none, .p (.idx 1), [.t 16, .t 17]⟩,
    ⟨3, some 19, none, .r (.load false 1) false, [.t 18]⟩,
    ⟨4, some 20, none, .p .mov, [.t 1]⟩,
    ⟨5, some 21, none, .p .mov, [.t 5]⟩,
    ⟨6, some 22, none, .p (.idx 1), [.t 20, .t 21]⟩,
    ⟨7, some 23, none, .r (.load false 1) false, [.t 22]⟩,
    ⟨8, some 24, none, .p (.bin .neq), [.t 19, .t 23]⟩])
   (.cond (.t 24) (.seq (.reg 0 [⟨0, some 4, none, .p .mov, [.c (.bool false)]⟩])
   (.ret))
   (.skip)))))
   (.reg 0 [⟨0, some 25, none, .p (.bin .add), [.t 13, .c (.int .i64 1)]⟩,
    ⟨1, some 13, none, .p .mov, [.t 25]⟩])))
def g24 : GL.Fn := ⟨.seq (.reg 0 [⟨0, some 4, none, .p .mov, [.c (.bool false)]⟩])
   (.seq (.seq (.reg 0 [⟨0, some 6, none, .p .mov, [.t 0]⟩,
    ⟨1, some 7, none, .p .len, [.t 6]⟩,
    ⟨2, some 8, none, .p .mov, [.t 1]⟩,
    ⟨3, some 9, none, .p .len, [.t 8]⟩,
    ⟨4, some 10, none, .p (.bin .neq), [.t 7, .t 9]⟩])
   (.cond (.t 10) (.seq (.reg 0 [⟨0, some 4, none, .p .mov, [.c (.bool false)]⟩])
   (.ret))
   (.skip)))
   (.seq (.seq (.reg 0 [⟨0, some 11, none, .p .mov, [.t 0]⟩,
    ⟨1, some 12, none, .p .len, [.t 11]⟩,
    ⟨2, some 13, none, .p .mov, [.c (.int .i64 0)]⟩])
   (.block 0 (.loop g24_0)))
   (.seq (.reg 0 [⟨0, some 4, none, .p .mov, [.c (.bool true)]⟩])
   (.ret)))),
  [.tmp 4]⟩
/- loop.example/g00641/laws.has -/
def g204_0 : GL.Code := .seq (.reg 0 [⟨0, some 10, none, .p (.bin .lss), [.t 9, .t 8]⟩])
   (.seq (.cond (.t 10) (.skip)
   (.exit 0))
   (.seq (.block 1 (.seq (.reg 0 [⟨0, some 11, none, .p (.idx 1), [.t 7, .t 9]⟩,
    ⟨1, some 12, none, .r (.load false 1) false, [.t 11]⟩,
    ⟨2, some 6, none, .p .mov, [.t 12]⟩])
   (.seq (.reg 0 [⟨0, some 13, none, .p .mov, [.t 6]⟩,
    ⟨1, some 14, none, .p .mov, [.t 1]⟩,
    ⟨2, some 15, none, .p (.bin .eql), [.t 13, .t 14]⟩])
   (.cond (.t 15) (.seq (.reg 0 [⟨0, some 4, none, .p .mov, [.c (.bool true)]⟩])
   (.ret))
   (.skip)))))
   (.reg 0 [⟨0, some 16, none, .p (.bin .add), [.t 9, .c (.int .i64 1)]⟩,
    ⟨1, some 9, none, .p .mov, [.t 16]⟩])))
def g204 : GL.Fn := ⟨.seq (.reg 0 [⟨0, some 4, none, .p .mov, [.c (.bool false)]⟩])
   (.seq (.seq (.reg 0 [⟨0, some 7, none, .p .mov, [.t 0]⟩,
    ⟨1, some 8, none, .p .len, [.t 7]⟩,
    ⟨2, some 9, none, .p .mov, [.c (.int .i64 0)]⟩])
   (.block 0 (.loop g204_0)))
   (.seq (.reg 0 [⟨0, some 4, none, .p .mov, [.c (.bool false)]⟩])
   (.ret))),
  [.tmp 4]⟩
/- loop.example/g00641/spec.DrawMissedBy -/
def g467 : GL.Fn := ⟨.seq (.reg 0 [⟨0, some 2, none, .l (.alloc 2 [.int .i64 0, .nils, .nils]), []⟩,
    ⟨1, some 3, none, .p .mov, [.c (.nils)]⟩])
   (.seq (.reg 0 [⟨0, some 10, none, .p .mov, [.t 0]⟩,
    ⟨1, some 11, none, .e .call [] [], [.f 461, .t 10]⟩,
    ⟨2, some 9, none, .p .mov, [.t 11]⟩,
    ⟨3, some 12, none, .p (.extract 0), [.t 9]⟩,
    ⟨4, some 13, none, .p (.extract 1), [.t 9]⟩,
    ⟨5, some 4, none, .l (.alloc 4 [.int .i64 0, .nils, .nils]), []⟩,
    ⟨6, none, none, .l (.store 4 3), [.t 4, .t 12]⟩,
    ⟨7, some 5, none, .p .mov, [.t 13]⟩])
   (.seq (.reg 0 [⟨0, some 14, none, .p .mov, [.t 0]⟩,
    ⟨1, some 15, none, .p (.build [.nils, .int .i64 0, .int .u64 0] [(0, 1)]), [.t 14]⟩,
    ⟨2, some 16, none, .e (.new (.box 3)) [] [], [.t 15]⟩,
    ⟨3, some 6, none, .p .mov, [.t 16]⟩])
   (.seq (.reg 0 [⟨0, some 18, none, .l (.load 4 true 3), [.t 4]⟩,
    ⟨1, some 19, none, .p .mov, [.t 5]⟩,
    ⟨2, some 20, none, .e .call [] [], [.f 463, .t 18, .t 19]⟩,
    ⟨3, some 17, none, .p .mov, [.t 20]⟩,
    ⟨4, some 21, none, .p (.extract 0), [.t 17]⟩,
    ⟨5, some 22, none, .p (.extract 1), [.t 17]⟩,
    ⟨6, some 7, none, .p .mov, [.t 21]⟩,
    ⟨7, some 8, none, .p .mov, [.t 22]⟩])
   (.seq (.seq (.reg 0 [⟨0, some 23, none, .p .mov, [.t 8]⟩,
    ⟨1, some 24, none, .p .mov, [.t 23]⟩,
    ⟨2, some 25, some (24, true), .p .mov, [.t 7]⟩,
    ⟨3, some 26, some (24, true), .p .len, [.t 25]⟩,
    ⟨4, some 27, some (24, true), .p (.bin .gtr), [.t 26, .c (.int .i64 0)]⟩,
    ⟨5, some 28, none, .p .pick, [.t 24, .t 27, .c (.bool false)]⟩,
    ⟨6, some 29, none, .p .mov, [.t 28]⟩,
    ⟨7, some 30, some (29, true), .p .mov, [.t 6]⟩,
    ⟨8, some 31, some (29, true), .e .call [] [], [.f 92, .t 30, .c (.int .i64 2)]⟩,
    ⟨9, some 32, none, .p .pick, [.t 29, .t 31, .c (.bool false)]⟩])
   (.cond (.t 32) (.reg 0 [⟨0, some 33, none, .p .mov, [.t 7]⟩,
    ⟨1, some 34, none, .p .mov, [.t 6]⟩,
    ⟨2, some 35, none, .p .mov, [.t 7]⟩,
    ⟨3, some 36, none, .p .len, [.t 35]⟩,
    ⟨4, some 37, none, .e .call [] [], [.f 91, .t 34, .t 36]⟩,
    ⟨5, some 38, none, .p (.idx 1), [.t 33, .t 37]⟩,
    ⟨6, none, none, .e (.store 1) [] [], [.t 38, .c (.nils)]⟩])
   (.skip)))
   (.seq (.reg 0 [⟨0, some 39, none, .l (.load 4 true 3), [.t 4]⟩,
    ⟨1, some 40, none, .p .mov, [.t 7]⟩,
    ⟨2, none, none, .l (.store 2 3), [.t 2, .t 39]⟩,
    ⟨3, some 3, none, .p .mov, [.t 40]⟩])
   (.ret)))))),
  [.cellL 2 2 true 3, .tmp 3]⟩
/- loop.example/g00641/spec.MissedBy -/
def g468_0 : GL.Code := .seq (.seq (.reg 0 [⟨0, some 25, none, .p .mov, [.t 8]⟩,
    ⟨1, some 26, none, .p .mov, [.t 1]⟩,
    ⟨2, some 27, none, .p .len, [.t 26]⟩,
    ⟨3, some 28, none, .p (.bin .lss), [.t 25, .t 27]⟩])
   (.cond (.t 28) (.skip)
   (.exit 2)))
   (.seq (.block 3 (.seq (.reg 0 [⟨0, some 31, none, .p (.faddr 1), [.t 2]⟩,
    ⟨1, some 32, none, .l (.load 2 false 1), [.t 31]⟩,
    ⟨2, some 33, none, .p .mov, [.t 7]⟩,
    ⟨3, some 34, none, .p (.idx 2), [.t 32, .t 33]⟩,
    ⟨4, some 35, none, .r (.load true 2) false, [.t 34]⟩,
    ⟨5, some 36, none, .p (.faddr 1), [.t 2]⟩,
    ⟨6, some 37, none, .l (.load 2 false 1), [.t 36]⟩,
    ⟨7, some 38, none, .p .mov, [.t 8]⟩,
    ⟨8, some 39, none, .p (.idx 2), [.t 37, .t 38]⟩,
    ⟨9, some 40, none, .r (.load true 2) false, [.t 39]⟩,
    ⟨10, some 41, none, .e .call [] [], [.f 537, .t 35, .t 40]⟩,
    ⟨11, some 42, none, .p .mov, [.t 41]⟩,
    ⟨12, some 43, some (42, true), .p .mov, [.t 1]⟩,
    ⟨13, some 44, some (42, true), .p .mov, [.t 7]⟩,
    ⟨14, some 45, some (42, true), .p (.idx 1), [.t 43, .t 44]⟩,
    ⟨15, some 46, some (42, true), .r (.load false 1) false, [.t 45]⟩,
    ⟨16, some 47, some (42, true), .p .mov, [.t 8]⟩,
    ⟨17, some 48, some (42, true), .e .call [] [], [.f 302, .t 46, .t 47]⟩,
    ⟨18, some 49, some (42, true), .p (.un .not), [.t 48]⟩,
    ⟨19, some 50, none, .p .pick, [.t 42, .t 49, .c (.bool false)]⟩,
    ⟨20, some 51, none, .p .mov, [.t 50]⟩,
    ⟨21, some 52, some (51, true), .p .mov, [.t 1]⟩,
    ⟨22, some 53, some (51, true), .p .mov, [.t 8]⟩,
    ⟨23, some 54, some (51, true), .p (.idx 1), [.t 52, .t 53]⟩,
    ⟨24, some 55, some (51, true), .r (.load false 1) false, [.t 54]⟩,
    ⟨25, some 56, some (51, true), .p .mov, [.t 7]⟩,
    ⟨26, some 57, some (51, true), .e .call [] [], [.f 302, .t 55, .t 56]⟩,
    ⟨27, some 58, some (51, true), .p (.un .not), [.t 57]⟩,
    ⟨28, some 59, none, .p .pick, [.t 51, .t 58, .c (.bool false)]⟩])
   (.cond (.t 59) (.reg 0 [⟨0, some 60, none, .p .mov, [.t 6]⟩,
    ⟨1, some 61, none, .p .mov, [.t 7]⟩,
    ⟨2, some 62, none, .p (.bin .mul), [.c (.int .i64 8), .t 61]⟩,
    ⟨3, some 63, none, .p .mov, [.t 8]⟩,
    ⟨4, some 64, none, .p (.bin .add), [.t 62, .t 63]⟩,
    ⟨5, some 65, none, .e (.new (.lit 1)) [] [], [.t 64]⟩,
    ⟨6, some 66, none, .e (.append 1 8) [] [], [.t 60, .t 65]⟩,
    ⟨7, some 6, none, .p .mov, [.t 66]⟩])
   (.skip))))
   (.reg 0 [⟨0, some 29, none, .p .mov, [.t 8]⟩,
    ⟨1, some 30, none, .p (.bin .add), [.t 29, .c (.int .i64 1)]⟩,
    ⟨2, some 8, none, .p .mov, [.t 30]⟩]))
def g468_1 : GL.Code := .seq (.reg 0 [⟨0, some 21, none, .p (.bin .lss), [.t 20, .t 19]⟩])
   (.seq (.cond (.t 21) (.skip)
   (.exit 0))
   (.seq (.block 1 (.seq (.reg 0 [⟨0, some 22, none, .p .mov, [.t 20]⟩,
    ⟨1, some 7, none, .p .mov, [.t 22]⟩])
   (.seq (.reg 0 [⟨0, some 23, none, .p .mov, [.t 7]⟩,
    ⟨1, some 24, none, .p (.bin .add), [.t 23, .c (.int .i64 1)]⟩,
    ⟨2, some 8, none, .p .mov, [.t 24]⟩])
   (.block 2 (.loop g468_0)))))
   (.reg 0 [⟨0, some 67, none, .p (.bin .add), [.t 20, .c (.int .i64 1)]⟩,
    ⟨1, some 20, none, .p .mov, [.t 67]⟩])))
def g468 : GL.Fn := ⟨.seq (.reg 0 [⟨0, some 2, none, .l (.box 2 3), [.t 0]⟩,
    ⟨1, some 4, none, .p .mov, [.c (.nils)]⟩,
    ⟨2, some 5, none, .p .mov, [.c (.bool false)]⟩])
   (.seq (.seq (.reg 0 [⟨0, some 9, none, .l (.load 2 true 3), [.t 2]⟩,
    ⟨1, some 10, none, .e .call [] [], [.f 465, .t 9]⟩,
    ⟨2, some 11, none, .p (.un .not), [.t 10]⟩,
    ⟨3, some 12, none, .p .mov, [.t 11]⟩,
    ⟨4, some 13, some (12, false), .l (.load 2 true 3), [.t 2]⟩,
    ⟨5, some 14, some (12, false), .p .mov, [.t 1]⟩,
    ⟨6, some 15, some (12, false), .e .call [] [], [.f 536, .t 13, .t 14]⟩,
    ⟨7, some 16, some (12, false), .p (.un .not), [.t 15]⟩,
    ⟨8, some 17, none, .p .pick, [.t 12, .c (.bool true), .t 16]⟩])
   (.cond (.t 17) (.seq (.reg 0 [⟨0, some 4, none, .p .mov, [.c (.nils)]⟩,
    ⟨1, some 5, none, .p .mov, [.c (.bool false)]⟩])
   (.ret))
   (.skip)))
   (.seq (.reg 0 [⟨0, some 6, none, .p .mov, [.c (.nils)]⟩])
   (.seq (.seq (.reg 0 [⟨0, some 18, none, .p .mov, [.t 1]⟩,
    ⟨1, some 19, none, .p .len, [.t 18]⟩,
    ⟨2, some 20, none, .p .mov, [.c (.int .i64 0)]⟩])
   (.block 0 (.loop g468_1)))
   (.seq (.reg 0 [⟨0, some 68, none, .p .mov, [.t 6]⟩,
    ⟨1, some 4, none, .p .mov, [.t 68]⟩,
    ⟨2, some 5, none, .p .mov, [.c (.bool true)]⟩])
   (.ret))))),
  [.tmp 4, .tmp 5]⟩
/- loop.example/g00641/spec.DrawClashOf -/
def g469 : GL.Fn := ⟨.seq (.reg 0 [⟨0, some 2, none, .l (.alloc 2 [.int .i64 0, .bool false]), []⟩,
    ⟨1, some 3, none, .l (.alloc 3 [.int .i64 0, .bool false]), []⟩])
   (.seq (.reg 0 [⟨0, some 5, none, .p .mov, [.t 0]⟩,
    ⟨1, some 6, none, .p (.build [.nils, .int .i64 0, .int .u64 0] [(0, 1)]), [.t 5]⟩,
    ⟨2, some 7, none, .e (.new (.box 3)) [] [], [.t 6]⟩,
    ⟨3, some 4, none, .p .mov, [.t 7]⟩])
   (.seq (.reg 0 [⟨0, some 8, none, .p .mov, [.t 4]⟩,
    ⟨1, some 9, none, .e .call [] [], [.f 91, .t 8, .c (.int .i64 3)]⟩,
    ⟨2, some 10, none, .p .mov, [.t 4]⟩,
    ⟨3, some 11, none, .e .call [] [], [.f 92, .t 10, .c (.int .i64 2)]⟩,
    ⟨4, some 12, none, .p (.build [.int .i64 0, .bool false] [(0, 1), (1, 1)]), [.t 9, .t 11]⟩,
    ⟨5, some 13, none, .p .mov, [.t 4]⟩,
    ⟨6, some 14, none, .e .call [] [], [.f 91, .t 13, .c (.int .i64 12)]⟩,
    ⟨7, some 15, none, .p (.bin .sub), [.t 14, .c (.int .i64 1)]⟩,
    ⟨8, some 16, none, .p .mov, [.t 4]⟩,
    ⟨9, some 17, none, .e .call [] [], [.f 92, .t 16, .c (.int .i64 2)]⟩,
    ⟨10, some 18, none, .p (.build [.int .i64 0, .bool false] [(0, 1), (1, 1)]), [.t 15, .t 17]⟩,
    ⟨11, none, none, .l (.store 2 2), [.t 2, .t 12]⟩,
    ⟨12, none, none, .l (.store 3 2), [.t 3, .t 18]⟩])
   (.ret))),
  [.cellL 2 2 true 2, .cellL 3 3 true 2]⟩
/- loop.example/g00641/impl.ClashOf -/
def g470 : GL.Fn := ⟨.seq (.reg 0 [⟨0, some 2, none, .l (.box 2 2), [.t 0]⟩,
    ⟨1, some 3, none, .l (.box 3 2), [.t 1]⟩,
    ⟨2, some 4, none, .p .mov, [.c (.bool false)]⟩,
    ⟨3, some 5, none, .p .mov, [.c (.bool false)]⟩])
   (.seq (.seq (.reg 0 [⟨0, some 6, none, .l (.load 2 true 2), [.t 2]⟩,
    ⟨1, some 7, none, .e .call [] [], [.f 538, .t 6]⟩,
    ⟨2, some 8, none, .p (.un .not), [.t 7]⟩,
    ⟨3, some 9, none, .p .mov, [.t 8]⟩,
    ⟨4, some 10, some (9, false), .l (.load 3 true 2), [.t 3]⟩,
    ⟨5, some 11, some (9, false), .e .call [] [], [.f 538, .t 10]⟩,
    ⟨6, some 12, some (9, false), .p (.un .not), [.t 11]⟩,
    ⟨7, some 13, none, .p .pick, [.t 9, .c (.bool true), .t 12]⟩])
   (.cond (.t 13) (.seq (.reg 0 [⟨0, some 4, none, .p .mov, [.c (.bool false)]⟩,
    ⟨1, some 5, none, .p .mov, [.c (.bool false)]⟩])
   (.ret))
   (.skip)))
   (.seq (.reg 0 [⟨0, some 14, none, .l (.load 2 true 2), [.t 2]⟩,
    ⟨1, some 15, none, .l (.load 3 true 2), [.t 3]⟩,
    ⟨2, some 16, none, .e .call [] [], [.f 535, .t 14, .t 15]⟩,
    ⟨3, some 4, none, .p .mov, [.t 16]⟩,
    ⟨4, some 5, none, .p .mov, [.c (.bool true)]⟩])
   (.ret))),
  [.tmp 4, .tmp 5]⟩
/- loop.example/g00641/spec.ClashOf -/
def g471 : GL.Fn := ⟨.seq (.reg 0 [⟨0, some 2, none, .l (.box 2 2), [.t 0]⟩,
    ⟨1, some 3, none, .l (.box 3 2), [.t 1]⟩,
    ⟨2, some 4, none, .p .mov, [.c (.bool false)]⟩,
    ⟨3, some 5, none, .p .mov, [.c (.bool false)]⟩])
   (.seq (.seq (.reg 0 [⟨0, some 6, none, .l (.load 2 true 2), [.t 2]⟩,
    ⟨1, some 7, none, .e .call [] [], [.f 533, .t 6]⟩,
    ⟨2, some 8, none, .p (.un .not), [.t 7]⟩,
    ⟨3, some 9, none, .p .mov, [.t 8]⟩,
    ⟨4, some 10, some (9, false), .l (.load 3 true 2), [.t 3]⟩,
    ⟨5, some 11, some (9, false), .e .call [] [], [.f 533, .t 10]⟩,
    ⟨6, some 12, some (9, false), .p (.un .not), [.t 11]⟩,
    ⟨7, some 13, none, .p .pick, [.t 9, .c (.bool true), .t 12]⟩])
   (.cond (.t 13) (.seq (.reg 0 [⟨0, some 4, none, .p .mov, [.c (.bool false)]⟩,
    ⟨1, some 5, none, .p .mov, [.c (.bool false)]⟩])
   (.ret))
   (.skip)))
   (.seq (.reg 0 [⟨0, some 14, none, .l (.load 2 true 2), [.t 2]⟩,
    ⟨1, some 15, none, .l (.load 3 true 2), [.t 3]⟩,
    ⟨2, some 16, none, .e .call [] [], [.f 537, .t 14, .t 15]⟩,
    ⟨3, some 4, none, .p .mov, [.t 16]⟩,
    ⟨4, some 5, none, .p .mov, [.c (.bool true)]⟩])
   (.ret))),
  [.tmp 4, .tmp 5]⟩
/- (*loop.example/g00641/spec.l1Cur).heard -/
def g528_0 : GL.Code := .seq (.seq (.reg 0 [⟨0, some 20, none, .p .mov, [.t 5]⟩,
    ⟨1, some 21, none, .p .mov, [.t 4]⟩,
    ⟨2, some 22, none, .p (.bin .lss), [.t 20, .t 21]⟩])
   (.cond (.t 22) (.skip)
   (.exit 0)))
   (.seq (.block 1 (.reg 0 [⟨0, some 25, none, .p (.faddr 1), [.t 3]⟩,
    ⟨1, some 26, none, .l (.load 3 false 1), [.t 25]⟩,
    ⟨2, some 27, none, .p .mov, [.t 0]⟩,
    ⟨3, some 28, none, .e .call [] [], [.f 91, .t 27, .c (.int .i64 3)]⟩,
    ⟨4, some 29, none, .p .mov, [.t 0]⟩,
    ⟨5, some 30, none, .e .call [] [], [.f 92, .t 29, .c (.int .i64 2)]⟩,
    ⟨6, some 31, none, .p (.build [.int .i64 0, .bool false] [(0, 1), (1, 1)]), [.t 28, .t 30]⟩,
    ⟨7, some 32, none, .e (.new (.lit 2)) [] [], [.t 31]⟩,
    ⟨8, some 33, none, .e (.append 2 16) [] [], [.t 26, .t 32]⟩,
    ⟨9, some 34, none, .p (.faddr 1), [.t 3]⟩,
    ⟨10, none, none, .l (.store 3 1), [.t 34, .t 33]⟩]))
   (.reg 0 [⟨0, some 23, none, .p .mov, [.t 5]⟩,
    ⟨1, some 24, none, .p (.bin .add), [.t 23, .c (.int .i64 1)]⟩,
    ⟨2, some 5, none, .p .mov, [.t 24]⟩]))
def g528_1 : GL.Code := .seq (.seq (.reg 0 [⟨0, some 38, none, .p .mov, [.t 7]⟩,
    ⟨1, some 39, none, .p (.faddr 0), [.t 3]⟩,
    ⟨2, some 40, none, .l (.load 3 false 1), [.t 39]⟩,
    ⟨3, some 41, none, .p (.bin .lss), [.t 38, .t 40]⟩])
   (.cond (.t 41) (.skip)
   (.exit 2)))
   (.seq (.block 3 (.seq (.reg 0 [⟨0, some 44, none, .e (.new (.lit 1)) [] [], []⟩,
    ⟨1, some 45, none, .p .mov, [.t 6]⟩,
    ⟨2, some 46, none, .e (.append 1 8) [] [], [.t 44, .t 45]⟩,
    ⟨3, some 8, none, .p .mov, [.t 46]⟩])
   (.seq (.seq (.reg 0 [⟨0, some 47, none, .p .mov, [.t 0]⟩,
    ⟨1, some 48, none, .e .call [] [], [.f 92, .t 47, .c (.int .i64 3)]⟩,
    ⟨2, some 49, none, .p (.un .not), [.t 48]⟩])
   (.cond (.t 49) (.reg 0 [⟨0, some 50, none, .p .mov, [.t 0]⟩,
    ⟨1, some 51, none, .p .mov, [.t 4]⟩,
    ⟨2, some 52, none, .e .call [] [], [.f 567, .t 50, .t 51]⟩,
    ⟨3, some 8, none, .p .mov, [.t 52]⟩])
   (.skip)))
   (.reg 0 [⟨0, some 53, none, .p (.faddr 2), [.t 3]⟩,
    ⟨1, some 54, none, .l (.load 3 false 1), [.t 53]⟩,
    ⟨2, some 55, none, .p .mov, [.t 8]⟩,
    ⟨3, some 56, none, .e (.new (.lit 1)) [] [], [.t 55]⟩,
    ⟨4, some 57, none, .e (.append 1 24) [] [], [.t 54, .t 56]⟩,
    ⟨5, some 58, none, .p (.faddr 2), [.t 3]⟩,
    ⟨6, none, none, .l (.store 3 1), [.t 58, .t 57]⟩]))))
   (.reg 0 [⟨0, some 42, none, .p .mov, [.t 7]⟩,
    ⟨1, some 43, none, .p (.bin .add), [.t 42, .c (.int .i64 1)]⟩,
    ⟨2, some 7, none, .p .mov, [.t 43]⟩]))
def g528 : GL.Fn := ⟨.seq (.reg 0 [⟨0, some 2, none, .l (.alloc 2 [.int .i64 0, .nils, .nils]), []⟩])
   (.seq (.reg 0 [⟨0, some 9, none, .p .mov, [.t 0]⟩,
    ⟨1, some 10, none, .e (.new (.lit 1)) [] [], [.c (.int .i64 3), .c (.int .i64 3), .c (.int .i64 5)]⟩,
    ⟨2, some 11, none, .e .call [] [], [.f 93, .t 9, .t 10]⟩,
    ⟨3, some 12, none, .p (.build [.int .i64 0, .nils, .nils] [(0, 1)]), [.t 11]⟩,
    ⟨4, some 3, none, .l (.alloc 3 [.int .i64 0, .nils, .nils]), []⟩,
    ⟨5, none, none, .l (.store 3 3), [.t 3, .t 12]⟩])
   (.seq (.reg 0 [⟨0, some 13, none, .p .mov, [.t 0]⟩,
    ⟨1, some 14, none, .e .call [] [], [.f 91, .t 13, .c (.int .i64 7)]⟩,
    ⟨2, some 4, none, .p .mov, [.t 14]⟩])
   (.seq (.seq (.reg 0 [⟨0, some 15, none, .p .mov, [.t 0]⟩,
    ⟨1, some 16, none, .e .call [] [], [.f 92, .t 15, .c (.int .i64 20)]⟩])
   (.cond (.t 16) (.reg 0 [⟨0, some 17, none, .p .mov, [.t 0]⟩,
    ⟨1, some 18, none, .e .call [] [], [.f 91, .t 17, .c (.int .i64 2)]⟩,
    ⟨2, some 19, none, .p (.bin .add), [.c (.int .i64 8), .t 18]⟩,
    ⟨3, some 4, none, .p .mov, [.t 19]⟩])
   (.skip)))
   (.seq (.seq (.reg 0 [⟨0, some 5, none, .p .mov, [.c (.int .i64 0)]⟩])
   (.block 0 (.loop g528_0)))
   (.seq (.reg 0 [⟨0, some 35, none, .p .mov, [.t 0]⟩,
    ⟨1, some 36, none, .p .mov, [.t 4]⟩,
    ⟨2, some 37, none, .e .call [] [], [.f 567, .t 35, .t 36]⟩,
    ⟨3, some 6, none, .p .mov, [.t 37]⟩])
   (.seq (.seq (.reg 0 [⟨0, some 7, none, .p .mov, [.c (.int .i64 0)]⟩])
   (.block 2 (.loop g528_1)))
   (.seq (.seq (.reg 0 [⟨0, some 59, none, .p .mov, [.t 4]⟩,
    ⟨1, some 60, none, .p (.bin .gtr), [.t 59, .c (.int .i64 0)]⟩,
    ⟨2, some 61, none, .p .mov, [.t 60]⟩,
    ⟨3, some 62, some (61, true), .p .mov, [.t 0]⟩,
    ⟨4, some 63, some (61, true), .e .call [] [], [.f 92, .t 62, .c (.int .i64 30)]⟩,
    ⟨5, some 64, none, .p .pick, [.t 61, .t 63, .c (.bool false)]⟩])
   (.cond (.t 64) (.reg 0 [⟨0, some 65, none, .p (.faddr 2), [.t 3]⟩,
    ⟨1, some 66, none, .l (.load 3 false 1), [.t 65]⟩,
    ⟨2, some 67, none, .p (.idx 1), [.t 66, .c (.int .i64 0)]⟩,
    ⟨3, some 68, none, .r (.load false 1) true, [.t 67]⟩,
    ⟨4, some 69, none, .p .mov, [.t 0]⟩,
    ⟨5, some 70, none, .p .mov, [.t 4]⟩,
    ⟨6, some 71, none, .p (.bin .add), [.t 70, .c (.int .i64 2)]⟩,
    ⟨7, some 72, none, .e .call [3] [], [.f 91, .t 69, .t 71]⟩,
    ⟨8, some 73, none, .p (.bin .sub), [.t 72, .c (.int .i64 1)]⟩,
    ⟨9, some 74, none, .p (.idx 1), [.t 68, .c (.int .i64 0)]⟩,
    ⟨10, none, none, .e (.store 1) [] [], [.t 74, .t 73]⟩])
   (.skip)))
   (.seq (.reg 0 [⟨0, some 75, none, .l (.load 3 true 3), [.t 3]⟩,
    ⟨1, none, none, .l (.store 2 3), [.t 2, .t 75]⟩])
   (.ret))))))))),
  [.cellL 2 2 true 3]⟩
/- (*loop.example/g00641/spec.l1Cur).group -/
def g529 : GL.Fn := ⟨.seq (.reg 0 [⟨0, some 4, none, .p .mov, [.c (.nils)]⟩])
   (.seq (.reg 0 [⟨0, some 8, none, .p .mov, [.t 1]⟩,
    ⟨1, some 9, none, .p .mov, [.t 1]⟩,
    ⟨2, some 10, none, .p (.bin .quo), [.t 9, .c (.int .i64 2)]⟩,
    ⟨3, some 11, none, .p (.bin .add), [.t 10, .c (.int .i64 1)]⟩,
    ⟨4, some 12, none, .p .mov, [.t 0]⟩,
    ⟨5, some 13, none, .p .mov, [.t 1]⟩,
    ⟨6, some 14, none, .p (.bin .quo), [.t 13, .c (.int .i64 2)]⟩,
    ⟨7, some 15, none, .p (.bin .add), [.t 14, .c (.int .i64 1)]⟩,
    ⟨8, some 16, none, .e .call [] [], [.f 91, .t 12, .t 15]⟩,
    ⟨9, some 17, none, .p (.bin .add), [.t 11, .t 16]⟩,
    ⟨10, some 18, none, .p .mov, [.t 0]⟩,
    ⟨11, some 19, none, .p .mov, [.t 1]⟩,
    ⟨12, some 20, none, .e .call [] [], [.f 91, .t 18, .t 19]⟩,
    ⟨13, some 21, none, .e .call [] [], [.f 568, .t 8, .t 17, .t 20]⟩,
    ⟨14, some 7, none, .p .mov, [.t 21]⟩,
    ⟨15, some 22, none, .p (.extract 0), [.t 7]⟩,
    ⟨16, some 23, none, .p (.extract 1), [.t 7]⟩,
    ⟨17, some 5, none, .p .mov, [.t 22]⟩,
    ⟨18, some 6, none, .p .mov, [.t 23]⟩])
   (.seq (.reg 0 [⟨0, some 24, none, .p .mov, [.t 5]⟩,
    ⟨1, some 4, none, .p .mov, [.t 24]⟩])
   (.ret))),
  [.tmp 4]⟩
/- (*loop.example/g00641/spec.l1Cur).one -/
def g92 : GL.Fn := ⟨.seq (.reg 0 [⟨0, some 4, none, .p .mov, [.c (.bool false)]⟩])
   (.seq (.reg 0 [⟨0, some 5, none, .p .mov, [.t 0]⟩,
    ⟨1, some 6, none, .p .mov, [.t 1]⟩,
    ⟨2, some 7, none, .e .call [] [], [.f 91, .t 5, .t 6]⟩,
    ⟨3, some 8, none, .p (.bin .eql), [.t 7, .c (.int .i64 0)]⟩,
    ⟨4, some 4, none, .p .mov, [.t 8]⟩])
   (.ret)),
  [.tmp 4]⟩
/- (loop.example/g00641/impl.Heard).isGroup -/
def g525 : GL.Fn := ⟨.seq (.reg 0 [⟨0, some 2, none, .l (.box 2 3), [.t 0]⟩,
    ⟨1, some 4, none, .p .mov, [.c (.bool false)]⟩])
   (.seq (.reg 0 [⟨0, some 5, none, .p (.faddr 0), [.t 2]⟩,
    ⟨1, some 6, none, .l (.load 2 false 1), [.t 5]⟩,
    ⟨2, some 7, none, .p .mov, [.t 1]⟩,
    ⟨3, some 8, none, .e .call [] [], [.f 314, .t 6, .t 7]⟩,
    ⟨4, some 9, none, .p .mov, [.t 8]⟩,
    ⟨5, some 10, some (9, true), .p .mov, [.t 1]⟩,
    ⟨6, some 11, some (9, true), .p .len, [.t 10]⟩,
    ⟨7, some 12, some (9, true), .p (.faddr 0), [.t 2]⟩,
    ⟨8, some 13, some (9, true), .l (.load 2 false 1), [.t 12]⟩,
    ⟨9, some 14, some (9, true), .e .call [] [], [.f 322, .t 13]⟩,
    ⟨10, some 15, some (9, true), .p (.bin .geq), [.t 11, .t 14]⟩,
    ⟨11, some 16, none, .p .pick, [.t 9, .t 15, .c (.bool false)]⟩,
    ⟨12, some 4, none, .p .mov, [.t 16]⟩])
   (.ret)),
  [.tmp 4]⟩
/- (loop.example/g00641/impl.Heard).allOf -/
def g526_0 : GL.Code := .seq (.reg 0 [⟨0, some 14, none, .p (.bin .lss), [.t 13, .t 12]⟩])
   (.seq (.cond (.t 14) (.skip)
   (.exit 0))
   (.seq (.block 1 (.seq (.reg 0 [⟨0, some 15, none, .p (.idx 1), [.t 11, .t 13]⟩,
    ⟨1, some 16, none, .r (.load false 1) false, [.t 15]⟩,
    ⟨2, some 9, none, .p .mov, [.t 16]⟩])
   (.reg 0 [⟨0, some 17, none, .p .mov, [.t 7]⟩,
    ⟨1, some 18, none, .l (.load 3 true 3), [.t 3]⟩,
    ⟨2, some 19, none, .p .mov, [.t 9]⟩,
    ⟨3, some 20, none, .p .mov, [.t 1]⟩,
    ⟨4, some 21, none, .e .call [] [], [.f 519, .t 18, .t 19, .t 20]⟩,
    ⟨5, some 22, none, .e .call [] [], [.f 412, .t 17, .t 21]⟩,
    ⟨6, some 7, none, .p .mov, [.t 22]⟩])))
   (.reg 0 [⟨0, some 23, none, .p (.bin .add), [.t 13, .c (.int .i64 1)]⟩,
    ⟨1, some 13, none, .p .mov, [.t 23]⟩])))
def g526 : GL.Fn := ⟨.seq (.reg 0 [⟨0, some 3, none, .l (.box 3 3), [.t 0]⟩,
    ⟨1, some 6, none, .p .mov, [.c (.nils)]⟩])
   (.seq (.reg 0 [⟨0, some 10, none, .e (.new (.lit 1)) [] [], []⟩,
    ⟨1, some 7, none, .p .mov, [.t 10]⟩])
   (.seq (.seq (.reg 0 [⟨0, some 11, none, .p .mov, [.t 2]⟩,
    ⟨1, some 12, none, .p .len, [.t 11]⟩,
    ⟨2, some 13, none, .p .mov, [.c (.int .i64 0)]⟩])
   (.block 0 (.loop g526_0)))
   (.seq (.reg 0 [⟨0, some 24, none, .p .mov, [.t 7]⟩,
    ⟨1, some 6, none, .p .mov, [.t 24]⟩])
   (.ret)))),
  [.tmp 6]⟩
/- loop.example/g00641/spec.l13Group -/
def g522 : GL.Fn := ⟨.seq (.reg 0 [⟨0, some 2, none, .l (.box 2 3), [.t 0]⟩,
    ⟨1, some 4, none, .p .mov, [.c (.bool false)]⟩])
   (.seq (.reg 0 [⟨0, some 5, none, .p .mov, [.t 1]⟩,
    ⟨1, some 6, none, .p (.faddr 0), [.t 2]⟩,
    ⟨2, some 7, none, .l (.load 2 false 1), [.t 6]⟩,
    ⟨3, some 8, none, .p (.bin .sub), [.t 7, .c (.int .i64 1)]⟩,
    ⟨4, some 9, none, .e .call [] [], [.f 337, .t 5, .c (.int .i64 0), .t 8]⟩,
    ⟨5, some 10, none, .p .mov, [.t 9]⟩,
    ⟨6, some 11, some (10, true), .p .mov, [.t 1]⟩,
    ⟨7, some 12, some (10, true), .p .len, [.t 11]⟩,
    ⟨8, some 13, some (10, true), .p (.faddr 0), [.t 2]⟩,
    ⟨9, some 14, some (10, true), .l (.load 2 false 1), [.t 13]⟩,
    ⟨10, some 15, some (10, true), .e .call [] [], [.f 333, .t 14]⟩,
    ⟨11, some 16, some (10, true), .p (.bin .geq), [.t 12, .t 15]⟩,
    ⟨12, some 17, none, .p .pick, [.t 10, .t 16, .c (.bool false)]⟩,
    ⟨13, some 4, none, .p .mov, [.t 17]⟩])
   (.ret)),
  [.tmp 4]⟩
/- loop.example/g00641/spec.l13Of -/
def g527_0 : GL.Code := .seq (.reg 0 [⟨0, some 24, none, .p (.bin .lss), [.t 23, .t 22]⟩])
   (.seq (.cond (.t 24) (.skip)
   (.exit 2))
   (.seq (.block 3 (.seq (.reg 0 [⟨0, some 25, none, .p (.idx 1), [.t 21, .t 23]⟩,
    ⟨1, some 26, none, .r (.load false 1) false, [.t 25]⟩,
    ⟨2, some 11, none, .p .mov, [.t 26]⟩])
   (.reg 0 [⟨0, some 27, none, .p .mov, [.t 7]⟩,
    ⟨1, some 28, none, .p .mov, [.t 11]⟩,
    ⟨2, some 29, none, .e .call [] [], [.f 410, .t 27, .t 28]⟩,
    ⟨3, some 7, none, .p .mov, [.t 29]⟩])))
   (.reg 0 [⟨0, some 30, none, .p (.bin .add), [.t 23, .c (.int .i64 1)]⟩,
    ⟨1, some 23, none, .p .mov, [.t 30]⟩])))
def g527_1 : GL.Code := .seq (.reg 0 [⟨0, some 15, none, .p (.bin .lss), [.t 14, .t 13]⟩])
   (.seq (.cond (.t 15) (.skip)
   (.exit 0))
   (.seq (.block 1 (.seq (.reg 0 [⟨0, some 16, none, .p (.idx 1), [.t 12, .t 14]⟩,
    ⟨1, some 17, none, .r (.load false 1) false, [.t 16]⟩,
    ⟨2, some 9, none, .p .mov, [.t 17]⟩])
   (.seq (.reg 0 [⟨0, some 18, none, .l (.load 3 true 3), [.t 3]⟩,
    ⟨1, some 19, none, .p .mov, [.t 9]⟩,
    ⟨2, some 20, none, .p .mov, [.t 1]⟩,
    ⟨3, some 21, none, .e .call [] [], [.f 516, .t 18, .t 19, .t 20]⟩,
    ⟨4, some 22, none, .p .len, [.t 21]⟩,
    ⟨5, some 23, none, .p .mov, [.c (.int .i64 0)]⟩])
   (.block 2 (.loop g527_0)))))
   (.reg 0 [⟨0, some 31, none, .p (.bin .add), [.t 14, .c (.int .i64 1)]⟩,
    ⟨1, some 14, none, .p .mov, [.t 31]⟩])))
def g527 : GL.Fn := ⟨.seq (.reg 0 [⟨0, some 3, none, .l (.box 3 3), [.t 0]⟩,
    ⟨1, some 6, none, .p .mov, [.c (.nils)]⟩])
   (.seq (.reg 0 [⟨0, some 7, none, .p .mov, [.c (.nils)]⟩])
   (.seq (.seq (.reg 0 [⟨0, some 12, none, .p .mov, [.t 2]⟩,
    ⟨1, some 13, none, .p .len, [.t 12]⟩,
    ⟨2, some 14, none, .p .mov, [.c (.int .i64 0)]⟩])
   (.block 0 (.loop g527_1)))
   (.seq (.reg 0 [⟨0, some 32, none, .p .mov, [.t 7]⟩,
    ⟨1, some 6, none, .p .mov, [.t 32]⟩])
   (.ret)))),
  [.tmp 6]⟩
/- loop.example/g00641/impl.isMany -/
def g318 : GL.Fn := ⟨.seq (.reg 0 [⟨0, some 2, none, .p .mov, [.c (.bool false)]⟩])
   (.seq (.reg 0 [⟨0, some 3, none, .p .mov, [.t 0]⟩,
    ⟨1, some 4, none, .e .call [] [], [.f 107, .t 3, .c (.int .i64 3), .c (.int .i64 9)]⟩,
    ⟨2, some 5, none, .p .mov, [.t 4]⟩,
    ⟨3, some 6, some (5, true), .p .mov, [.t 0]⟩,
    ⟨4, some 7, some (5, true), .p (.bin .rem), [.t 6, .c (.int .i64 2)]⟩,
    ⟨5, some 8, some (5, true), .p (.bin .eql), [.t 7, .c (.int .i64 1)]⟩,
    ⟨6, some 9, none, .p .pick, [.t 5, .t 8, .c (.bool false)]⟩,
    ⟨7, some 2, none, .p .mov, [.t 9]⟩])
   (.ret)),
  [.tmp 2]⟩
/- slices.ContainsFunc[[]loop.example/g00641/impl.Deed,loop.example/g00641/impl.Deed] -/
def g530 : GL.Fn := ⟨.seq (.reg 0 [⟨0, some 4, none, .p .mov, [.c (.bool false)]⟩])
   (.seq (.reg 0 [⟨0, some 5, none, .p .mov, [.t 0]⟩,
    ⟨1, some 6, none, .p .mov, [.t 1]⟩,
    ⟨2, some 7, none, .e .call [] [], [.f 569, .t 5, .t 6]⟩,
    ⟨3, some 8, none, .p (.bin .geq), [.t 7, .c (.int .i64 0)]⟩,
    ⟨4, some 4, none, .p .mov, [.t 8]⟩])
   (.ret)),
  [.tmp 4]⟩
/- loop.example/g00641/impl.GoodHeard$1 -/
def g531 : GL.Fn := ⟨.seq (.reg 0 [⟨0, some 1, none, .l (.box 1 2), [.t 0]⟩,
    ⟨1, some 2, none, .p .mov, [.c (.bool false)]⟩])
   (.seq (.reg 0 [⟨0, some 3, none, .l (.load 1 true 2), [.t 1]⟩,
    ⟨1, some 4, none, .e .call [] [], [.f 538, .t 3]⟩,
    ⟨2, some 5, none, .p (.un .not), [.t 4]⟩,
    ⟨3, some 2, none, .p .mov, [.t 5]⟩])
   (.ret)),
  [.tmp 2]⟩
/- loop.example/g00641/impl.isDeed -/
def g538 : GL.Fn := ⟨.seq (.reg 0 [⟨0, some 1, none, .l (.box 1 2), [.t 0]⟩,
    ⟨1, some 2, none, .p .mov, [.c (.bool false)]⟩])
   (.seq (.reg 0 [⟨0, some 3, none, .p (.faddr 0), [.t 1]⟩,
    ⟨1, some 4, none, .l (.load 1 false 1), [.t 3]⟩,
    ⟨2, some 5, none, .e .call [] [], [.f 107, .t 4, .c (.int .i64 0), .c (.int .i64 9)]⟩,
    ⟨3, some 2, none, .p .mov, [.t 5]⟩])
   (.ret)),
  [.tmp 2]⟩
/- slices.ContainsFunc[[][]int,[]int] -/
def g335 : GL.Fn := ⟨.seq (.reg 0 [⟨0, some 4, none, .p .mov, [.c (.bool false)]⟩])
   (.seq (.reg 0 [⟨0, some 5, none, .p .mov, [.t 0]⟩,
    ⟨1, some 6, none, .p .mov, [.t 1]⟩,
    ⟨2, some 7, none, .e .call [] [], [.f 395, .t 5, .t 6]⟩,
    ⟨3, some 8, none, .p (.bin .geq), [.t 7, .c (.int .i64 0)]⟩,
    ⟨4, some 4, none, .p .mov, [.t 8]⟩])
   (.ret)),
  [.tmp 4]⟩
/- loop.example/g00641/impl.GoodHeard$2 -/
def g532 : GL.Fn := ⟨.seq (.reg 0 [⟨0, some 3, none, .p .mov, [.c (.bool false)]⟩])
   (.seq (.reg 0 [⟨0, some 4, none, .p .mov, [.t 0]⟩,
    ⟨1, some 5, none, .p .len, [.t 4]⟩,
    ⟨2, some 6, none, .r (.load false 1) false, [.t 1]⟩,
    ⟨3, some 7, none, .p (.bin .neq), [.t 5, .t 6]⟩,
    ⟨4, some 8, none, .p .mov, [.t 7]⟩,
    ⟨5, some 9, some (8, false), .p .mov, [.t 0]⟩,
    ⟨6, some 10, some (8, false), .r (.load false 1) false, [.t 1]⟩,
    ⟨7, some 11, some (8, false), .e .call [] [], [.f 541, .t 9, .t 10]⟩,
    ⟨8, some 12, some (8, false), .p (.un .not), [.t 11]⟩,
    ⟨9, some 13, none, .p .pick, [.t 8, .c (.bool true), .t 12]⟩,
    ⟨10, some 3, none, .p .mov, [.t 13]⟩])
   (.ret)),
  [.tmp 3]⟩
/- loop.example/g00641/impl.areOnce -/
def g541 : GL.Fn := ⟨.seq (.reg 0 [⟨0, some 4, none, .p .mov, [.c (.bool false)]⟩])
   (.seq (.reg 0 [⟨0, some 5, none, .p .mov, [.t 0]⟩,
    ⟨1, some 6, none, .e .call [] [], [.f 406, .t 5]⟩,
    ⟨2, some 7, none, .e .call [] [], [.f 407, .t 6]⟩,
    ⟨3, some 8, none, .p .mov, [.t 1]⟩,
    ⟨4, some 9, none, .p (.bin .sub), [.t 8, .c (.int .i64 1)]⟩,
    ⟨5, some 10, none, .e .call [] [], [.f 385, .t 7, .c (.int .i64 0), .t 9]⟩,
    ⟨6, some 4, none, .p .mov, [.t 10]⟩])
   (.ret)),
  [.tmp 4]⟩
/- loop.example/g00641/spec.l11Places -/
def g321 : GL.Fn := ⟨.seq (.reg 0 [⟨0, some 2, none, .p .mov, [.c (.bool false)]⟩])
   (.seq (.reg 0 [⟨0, some 3, none, .p .mov, [.t 0]⟩,
    ⟨1, some 4, none, .e .call [] [], [.f 98, .t 3, .c (.int .i64 3), .c (.int .i64 9)]⟩,
    ⟨2, some 5, none, .p .mov, [.t 4]⟩,
    ⟨3, some 6, some (5, true), .p .mov, [.t 0]⟩,
    ⟨4, some 7, some (5, true), .p (.bin .rem), [.t 6, .c (.int .i64 2)]⟩,
    ⟨5, some 8, some (5, true), .p (.bin .eql), [.t 7, .c (.int .i64 1)]⟩,
    ⟨6, some 9, none, .p .pick, [.t 5, .t 8, .c (.bool false)]⟩,
    ⟨7, some 2, none, .p .mov, [.t 9]⟩])
   (.ret)),
  [.tmp 2]⟩
/- loop.example/g00641/spec.l13Deed -/
def g533 : GL.Fn := ⟨.seq (.reg 0 [⟨0, some 1, none, .l (.box 1 2), [.t 0]⟩,
    ⟨1, some 2, none, .p .mov, [.c (.bool false)]⟩])
   (.seq (.reg 0 [⟨0, some 3, none, .p (.faddr 0), [.t 1]⟩,
    ⟨1, some 4, none, .l (.load 1 false 1), [.t 3]⟩,
    ⟨2, some 5, none, .e .call [] [], [.f 98, .t 4, .c (.int .i64 0), .c (.int .i64 9)]⟩,
    ⟨3, some 2, none, .p .mov, [.t 5]⟩])
   (.ret)),
  [.tmp 2]⟩
/- loop.example/g00641/spec.l1All -/
def g94_0 : GL.Code := .seq (.reg 0 [⟨0, some 12, none, .p (.bin .lss), [.t 11, .t 10]⟩])
   (.seq (.cond (.t 12) (.skip)
   (.exit 0))
   (.seq (.block 1 (.seq (.reg 0 [⟨0, some 13, none, .p (.idx 1), [.t 9, .t 11]⟩,
    ⟨1, some 14, none, .r (.load false 1) false, [.t 13]⟩,
    ⟨2, some 8, none, .p .mov, [.t 14]⟩])
   (.seq (.reg 0 [⟨0, some 15, none, .p .mov, [.t 8]⟩,
    ⟨1, some 16, none, .p .mov, [.t 1]⟩,
    ⟨2, some 17, none, .p .mov, [.t 2]⟩,
    ⟨3, some 18, none, .e .call [] [], [.f 98, .t 15, .t 16, .t 17]⟩,
    ⟨4, some 19, none, .p (.un .not), [.t 18]⟩])
   (.cond (.t 19) (.seq (.reg 0 [⟨0, some 6, none, .p .mov, [.c (.bool false)]⟩])
   (.ret))
   (.skip)))))
   (.reg 0 [⟨0, some 20, none, .p (.bin .add), [.t 11, .c (.int .i64 1)]⟩,
    ⟨1, some 11, none, .p .mov, [.t 20]⟩])))
def g94 : GL.Fn := ⟨.seq (.reg 0 [⟨0, some 6, none, .p .mov, [.c (.bool false)]⟩])
   (.seq (.seq (.reg 0 [⟨0, some 9, none, .p .mov, [.t 0]⟩,
    ⟨1, some 10, none, .p .len, [.t 9]⟩,
    ⟨2, some 11, none, .p .mov, [.c (.int .i64 0)]⟩])
   (.block 0 (.loop g94_0)))
   (.seq (.reg 0 [⟨0, some 6, none, .p .mov, [.c (.bool true)]⟩])
   (.ret))),
  [.tmp 6]⟩
/- loop.example/g00641/spec.l1Has -/
def g302_0 : GL.Code := .seq (.reg 0 [⟨0, some 10, none, .p (.bin .lss), [.t 9, .t 8]⟩])
   (.seq (.cond (.t 10) (.skip)
   (.exit 0))
   (.seq (.block 1 (.seq (.reg 0 [⟨0, some 11, none, .p (.idx 1), [.t 7, .t 9]⟩,
    ⟨1, some 12, none, .r (.load false 1) false, [.t 11]⟩,
    ⟨2, some 6, none, .p .mov, [.t 12]⟩])
   (.seq (.reg 0 [⟨0, some 13, none, .p .mov, [.t 6]⟩,
    ⟨1, some 14, none, .p .mov, [.t 1]⟩,
    ⟨2, some 15, none, .p (.bin .eql), [.t 13, .t 14]⟩])
   (.cond (.t 15) (.seq (.reg 0 [⟨0, some 4, none, .p .mov, [.c (.bool true)]⟩])
   (.ret))
   (.skip)))))
   (.reg 0 [⟨0, some 16, none, .p (.bin .add), [.t 9, .c (.int .i64 1)]⟩,
    ⟨1, some 9, none, .p .mov, [.t 16]⟩])))
def g302 : GL.Fn := ⟨.seq (.reg 0 [⟨0, some 4, none, .p .mov, [.c (.bool false)]⟩])
   (.seq (.seq (.reg 0 [⟨0, some 7, none, .p .mov, [.t 0]⟩,
    ⟨1, some 8, none, .p .len, [.t 7]⟩,
    ⟨2, some 9, none, .p .mov, [.c (.int .i64 0)]⟩])
   (.block 0 (.loop g302_0)))
   (.seq (.reg 0 [⟨0, some 4, none, .p .mov, [.c (.bool false)]⟩])
   (.ret))),
  [.tmp 4]⟩
/- loop.example/g00641/impl.MissedBy$1 -/
def g534 : GL.Fn := ⟨.seq (.reg 0 [⟨0, some 3, none, .p .mov, [.c (.bool false)]⟩])
   (.seq (.reg 0 [⟨0, some 4, none, .p .mov, [.t 0]⟩,
    ⟨1, some 5, none, .r (.load false 1) false, [.t 1]⟩,
    ⟨2, some 6, none, .p (.bin .sub), [.t 5, .c (.int .i64 1)]⟩,
    ⟨3, some 7, none, .e .call [] [], [.f 385, .t 4, .c (.int .i64 0), .t 6]⟩,
    ⟨4, some 8, none, .p (.un .not), [.t 7]⟩,
    ⟨5, some 3, none, .p .mov, [.t 8]⟩])
   (.ret)),
  [.tmp 3]⟩
/- loop.example/g00641/impl.isRising -/
def g385_0 : GL.Code := .seq (.reg 0 [⟨0, some 12, none, .p (.bin .lss), [.t 11, .t 10]⟩])
   (.seq (.cond (.t 12) (.skip)
   (.exit 0))
   (.seq (.block 1 (.seq (.reg 0 [⟨0, some 13, none, .p .mov, [.t 11]⟩,
    ⟨1, some 14, none, .p (.idx 1), [.t 9, .t 11]⟩,
    ⟨2, some 15, none, .r (.load false 1) false, [.t 14]⟩,
    ⟨3, some 7, none, .p .mov, [.t 13]⟩,
    ⟨4, some 8, none, .p .mov, [.t 15]⟩])
   (.seq (.reg 0 [⟨0, some 16, none, .p .mov, [.t 8]⟩,
    ⟨1, some 17, none, .p .mov, [.t 1]⟩,
    ⟨2, some 18, none, .p .mov, [.t 2]⟩,
    ⟨3, some 19, none, .e .call [] [], [.f 107, .t 16, .t 17, .t 18]⟩,
    ⟨4, some 20, none, .p (.un .not), [.t 19]⟩,
    ⟨5, some 21, none, .p .mov, [.t 20]⟩,
    ⟨6, some 22, some (21, false), .p .mov, [.t 7]⟩,
    ⟨7, some 23, some (21, false), .p (.bin .gtr), [.t 22, .c (.int .i64 0)]⟩,
    ⟨8, some 24, some (21, false), .p .mov, [.t 23]⟩,
    ⟨9, some 25, some (24, true), .p .mov, [.t 0]⟩,
    ⟨10, some 26, some (24, true), .p .mov, [.t 7]⟩,
    ⟨11, some 27, some (24, true), .p (.bin .sub), [.t 26, .c (.int .i64 1)]⟩,
    ⟨12, some 28, some (24, true), .p (.idx 1), [.t 25, .t 27]⟩,
    ⟨13, some 29, some (24, true), .r (.load false 1) false, [.t 28]⟩,
    ⟨14, some 30, some (24, true), .p .mov, [.t 8]⟩,
    ⟨15, some 31, some (24, true), .p (.bin .geq), [.t 29, .t 30]⟩,
    ⟨16, some 32, some (21, false), .p .pick, [.t 24, .t 31, .c (.bool false)]⟩,
    ⟨17, some 33, none, .p .pick, [.t 21, .c (.bool true), .t 32]⟩])
   (.cond (.t 33) (.seq (.reg 0 [⟨0, some 6, none, .p .mov, [.c (.bool false)]⟩])
   (.ret))
   (.skip)))))
   (.reg 0 [⟨0, some 34, none, .p (.bin .add), [.t 11, .c (.int .i64 1)]⟩,
    ⟨1, some 11, none, .p .mov, [.t 34]⟩])))
def g385 : GL.Fn := ⟨.seq (.reg 0 [⟨0, some 6, none, .p .mov, [.c (.bool false)]⟩])
   (.seq (.seq (.reg 0 [⟨0, some 9, none, .p .mov, [.t 0]⟩,
    ⟨1, some 10, none, .p .len, [.t 9]⟩,
    ⟨2, some 11, none, .p .mov, [.c (.int .i64 0)]⟩])
   (.block 0 (.loop g385_0)))
   (.seq (.reg 0 [⟨0, some 6, none, .p .mov, [.c (.bool true)]⟩])
   (.ret))),
  [.tmp 6]⟩
/- loop.example/g00641/impl.clashing -/
def g535 : GL.Fn := ⟨.seq (.reg 0 [⟨0, some 2, none, .l (.box 2 2), [.t 0]⟩,
    ⟨1, some 3, none, .l (.box 3 2), [.t 1]⟩,
    ⟨2, some 4, none, .p .mov, [.c (.bool false)]⟩])
   (.seq (.reg 0 [⟨0, some 5, none, .p (.faddr 0), [.t 2]⟩,
    ⟨1, some 6, none, .l (.load 2 false 1), [.t 5]⟩,
    ⟨2, some 7, none, .p (.faddr 0), [.t 3]⟩,
    ⟨3, some 8, none, .l (.load 3 false 1), [.t 7]⟩,
    ⟨4, some 9, none, .p (.bin .eql), [.t 6, .t 8]⟩,
    ⟨5, some 10, none, .p .mov, [.t 9]⟩,
    ⟨6, some 11, some (10, true), .p (.faddr 1), [.t 2]⟩,
    ⟨7, some 12, some (10, true), .l (.load 2 false 1), [.t 11]⟩,
    ⟨8, some 13, some (10, true), .p .mov, [.t 12]⟩,
    ⟨9, some 14, some (13, false), .p (.faddr 1), [.t 3]⟩,
    ⟨10, some 15, some (13, false), .l (.load 3 false 1), [.t 14]⟩,
    ⟨11, some 16, some (10, true), .p .pick, [.t 13, .c (.bool true), .t 15]⟩,
    ⟨12, some 17, none, .p .pick, [.t 10, .t 16, .c (.bool false)]⟩,
    ⟨13, some 4, none, .p .mov, [.t 17]⟩])
   (.ret)),
  [.tmp 4]⟩
/- slices.Contains[[]int,int] -/
def g301 : GL.Fn := ⟨.seq (.reg 0 [⟨0, some 4, none, .p .mov, [.c (.bool false)]⟩])
   (.seq (.reg 0 [⟨0, some 5, none, .p .mov, [.t 0]⟩,
    ⟨1, some 6, none, .p .mov, [.t 1]⟩,
    ⟨2, some 7, none, .e .call [] [], [.f 390, .t 5, .t 6]⟩,
    ⟨3, some 8, none, .p (.bin .geq), [.t 7, .c (.int .i64 0)]⟩,
    ⟨4, some 4, none, .p .mov, [.t 8]⟩])
   (.ret)),
  [.tmp 4]⟩
/- (loop.example/g00641/impl.Heard).isOne -/
def g518 : GL.Fn := ⟨.seq (.reg 0 [⟨0, some 2, none, .l (.box 2 3), [.t 0]⟩,
    ⟨1, some 4, none, .p .mov, [.c (.bool false)]⟩])
   (.seq (.reg 0 [⟨0, some 5, none, .p .mov, [.t 1]⟩,
    ⟨1, some 6, none, .p (.faddr 1), [.t 2]⟩,
    ⟨2, some 7, none, .l (.load 2 false 1), [.t 6]⟩,
    ⟨3, some 8, none, .p .len, [.t 7]⟩,
    ⟨4, some 9, none, .p (.bin .sub), [.t 8, .c (.int .i64 1)]⟩,
    ⟨5, some 10, none, .e .call [] [], [.f 107, .t 5, .c (.int .i64 0), .t 9]⟩,
    ⟨6, some 4, none, .p .mov, [.t 10]⟩])
   (.ret)),
  [.tmp 4]⟩
/- (*loop.example/g00641/spec.l1Cur).pick -/
def g91 : GL.Fn := ⟨.seq (.reg 0 [⟨0, some 4, none, .p .mov, [.c (.int .i64 0)]⟩])
   (.seq (.seq (.reg 0 [⟨0, some 6, none, .p .mov, [.t 1]⟩,
    ⟨1, some 7, none, .p (.bin .leq), [.t 6, .c (.int .i64 1)]⟩])
   (.cond (.t 7) (.seq (.reg 0 [⟨0, some 4, none, .p .mov, [.c (.int .i64 0)]⟩])
   (.ret))
   (.skip)))
   (.seq (.reg 0 [⟨0, some 8, none, .p .mov, [.t 0]⟩,
    ⟨1, some 9, none, .e .call [] [], [.f 140, .t 8]⟩,
    ⟨2, some 5, none, .p .mov, [.t 9]⟩])
   (.seq (.seq (.reg 0 [⟨0, some 10, none, .p .mov, [.t 1]⟩,
    ⟨1, some 11, none, .p (.bin .gtr), [.t 10, .c (.int .i64 200)]⟩])
   (.cond (.t 11) (.reg 0 [⟨0, some 12, none, .p .mov, [.t 5]⟩,
    ⟨1, some 13, none, .p (.bin .mul), [.t 12, .c (.int .i64 256)]⟩,
    ⟨2, some 14, none, .p .mov, [.t 0]⟩,
    ⟨3, some 15, none, .e .call [] [], [.f 140, .t 14]⟩,
    ⟨4, some 16, none, .p (.bin .add), [.t 13, .t 15]⟩,
    ⟨5, some 5, none, .p .mov, [.t 16]⟩])
   (.skip)))
   (.seq (.reg 0 [⟨0, some 17, none, .p .mov, [.t 5]⟩,
    ⟨1, some 18, none, .p .mov, [.t 1]⟩,
    ⟨2, some 19, none, .p (.bin .rem), [.t 17, .t 18]⟩,
    ⟨3, some 4, none, .p .mov, [.t 19]⟩])
   (.ret))))),
  [.tmp 4]⟩
/- loop.example/g00641/spec.l13Rows -/
def g536_0 : GL.Code := .seq (.reg 0 [⟨0, some 10, none, .p (.bin .lss), [.t 9, .t 8]⟩])
   (.seq (.cond (.t 10) (.skip)
   (.exit 0))
   (.seq (.block 1 (.seq (.reg 0 [⟨0, some 11, none, .p (.idx 1), [.t 7, .t 9]⟩,
    ⟨1, some 12, none, .r (.load false 1) false, [.t 11]⟩,
    ⟨2, some 6, none, .p .mov, [.t 12]⟩])
   (.seq (.reg 0 [⟨0, some 13, none, .p .mov, [.t 6]⟩,
    ⟨1, some 14, none, .p (.faddr 1), [.t 2]⟩,
    ⟨2, some 15, none, .l (.load 2 false 1), [.t 14]⟩,
    ⟨3, some 16, none, .p .len, [.t 15]⟩,
    ⟨4, some 17, none, .p (.bin .sub), [.t 16, .c (.int .i64 1)]⟩,
    ⟨5, some 18, none, .e .call [] [], [.f 337, .t 13, .c (.int .i64 0), .t 17]⟩,
    ⟨6, some 19, none, .p (.un .not), [.t 18]⟩])
   (.cond (.t 19) (.seq (.reg 0 [⟨0, some 4, none, .p .mov, [.c (.bool false)]⟩])
   (.ret))
   (.skip)))))
   (.reg 0 [⟨0, some 20, none, .p (.bin .add), [.t 9, .c (.int .i64 1)]⟩,
    ⟨1, some 9, none, .p .mov, [.t 20]⟩])))
def g536 : GL.Fn := ⟨.seq (.reg 0 [⟨0, some 2, none, .l (.box 2 3), [.t 0]⟩,
    ⟨1, some 4, none, .p .mov, [.c (.bool false)]⟩])
   (.seq (.seq (.reg 0 [⟨0, some 7, none, .p .mov, [.t 1]⟩,
    ⟨1, some 8, none, .p .len, [.t 7]⟩,
    ⟨2, some 9, none, .p .mov, [.c (.int .i64 0)]⟩])
   (.block 0 (.loop g536_0)))
   (.seq (.reg 0 [⟨0, some 21, none, .p .mov, [.t 1]⟩,
    ⟨1, some 22, none, .p .len, [.t 21]⟩,
    ⟨2, some 23, none, .p (.faddr 1), [.t 2]⟩,
    ⟨3, some 24, none, .l (.load 2 false 1), [.t 23]⟩,
    ⟨4, some 25, none, .p .len, [.t 24]⟩,
    ⟨5, some 26, none, .p (.bin .eql), [.t 22, .t 25]⟩,
    ⟨6, some 4, none, .p .mov, [.t 26]⟩])
   (.ret))),
  [.tmp 4]⟩
/- loop.example/g00641/spec.l13Clash -/
def g537 : GL.Fn := ⟨.seq (.reg 0 [⟨0, some 2, none, .l (.box 2 2), [.t 0]⟩,
    ⟨1, some 3, none, .l (.box 3 2), [.t 1]⟩,
    ⟨2, some 4, none, .p .mov, [.c (.bool false)]⟩])
   (.seq (.reg 0 [⟨0, some 5, none, .p (.faddr 0), [.t 2]⟩,
    ⟨1, some 6, none, .l (.load 2 false 1), [.t 5]⟩,
    ⟨2, some 7, none, .p (.faddr 0), [.t 3]⟩,
    ⟨3, some 8, none, .l (.load 3 false 1), [.t 7]⟩,
    ⟨4, some 9, none, .p (.bin .eql), [.t 6, .t 8]⟩,
    ⟨5, some 10, none, .p .mov, [.t 9]⟩,
    ⟨6, some 11, some (10, true), .p (.faddr 1), [.t 2]⟩,
    ⟨7, some 12, some (10, true), .l (.load 2 false 1), [.t 11]⟩,
    ⟨8, some 13, some (10, true), .p .mov, [.t 12]⟩,
    ⟨9, some 14, some (13, false), .p (.faddr 1), [.t 3]⟩,
    ⟨10, some 15, some (13, false), .l (.load 3 false 1), [.t 14]⟩,
    ⟨11, some 16, some (10, true), .p .pick, [.t 13, .c (.bool true), .t 15]⟩,
    ⟨12, some 17, none, .p .pick, [.t 10, .t 16, .c (.bool false)]⟩,
    ⟨13, some 4, none, .p .mov, [.t 17]⟩])
   (.ret)),
  [.tmp 4]⟩
/- (*loop.example/g00641/spec.l1Cur).shuffled -/
def g567_0 : GL.Code := .seq (.seq (.reg 0 [⟨0, some 9, none, .p .mov, [.t 6]⟩,
    ⟨1, some 10, none, .p .mov, [.t 1]⟩,
    ⟨2, some 11, none, .p (.bin .lss), [.t 9, .t 10]⟩])
   (.cond (.t 11) (.skip)
   (.exit 0)))
   (.seq (.block 1 (.seq (.reg 0 [⟨0, some 14, none, .p .mov, [.t 0]⟩,
    ⟨1, some 15, none, .p .mov, [.t 5]⟩,
    ⟨2, some 16, none, .p .len, [.t 15]⟩,
    ⟨3, some 17, none, .p (.bin .add), [.t 16, .c (.int .i64 1)]⟩,
    ⟨4, some 18, none, .e .call [] [], [.f 91, .t 14, .t 17]⟩,
    ⟨5, some 7, none, .p .mov, [.t 18]⟩])
   (.seq (.reg 0 [⟨0, some 19, none, .e (.new (.lit 1)) [] [], []⟩,
    ⟨1, some 20, none, .p .mov, [.t 5]⟩,
    ⟨2, some 21, none, .p .mov, [.t 7]⟩,
    ⟨3, some 22, none, .p (.slice 1 false true false), [.t 20, .t 21]⟩,
    ⟨4, some 23, none, .e (.append 1 8) [] [], [.t 19, .t 22]⟩,
    ⟨5, some 8, none, .p .mov, [.t 23]⟩])
   (.seq (.reg 0 [⟨0, some 24, none, .p .mov, [.t 8]⟩,
    ⟨1, some 25, none, .p .mov, [.t 6]⟩,
    ⟨2, some 26, none, .e (.new (.lit 1)) [] [], [.t 25]⟩,
    ⟨3, some 27, none, .e (.append 1 8) [] [], [.t 24, .t 26]⟩,
    ⟨4, some 8, none, .p .mov, [.t 27]⟩])
   (.reg 0 [⟨0, some 28, none, .p .mov, [.t 8]⟩,
    ⟨1, some 29, none, .p .mov, [.t 5]⟩,
    ⟨2, some 30, none, .p .mov, [.t 7]⟩,
    ⟨3, some 31, none, .p (.slice 1 true false false), [.t 29, .t 30]⟩,
    ⟨4, some 32, none, .e (.append 1 8) [] [], [.t 28, .t 31]⟩,
    ⟨5, some 5, none, .p .mov, [.t 32]⟩])))))
   (.reg 0 [⟨0, some 12, none, .p .mov, [.t 6]⟩,
    ⟨1, some 13, none, .p (.bin .add), [.t 12, .c (.int .i64 1)]⟩,
    ⟨2, some 6, none, .p .mov, [.t 13]⟩]))
def g567 : GL.Fn := ⟨.seq (.reg 0 [⟨0, some 4, none, .p .mov, [.c (.nils)]⟩])
   (.seq (.reg 0 [⟨0, some 5, none, .p .mov, [.c (.nils)]⟩])
   (.seq (.seq (.reg 0 [⟨0, some 6, none, .p .mov, [.c (.int .i64 0)]⟩])
   (.block 0 (.loop g567_0)))
   (.seq (.reg 0 [⟨0, some 33, none, .p .mov, [.t 5]⟩,
    ⟨1, some 4, none, .p .mov, [.t 33]⟩])
   (.ret)))),
  [.tmp 4]⟩
/- loop.example/g00641/spec.l1Put -/
def g410_0 : GL.Code := .seq (.seq (.reg 0 [⟨0, some 7, none, .p .mov, [.t 5]⟩,
    ⟨1, some 8, none, .p .mov, [.t 0]⟩,
    ⟨2, some 9, none, .p .len, [.t 8]⟩,
    ⟨3, some 10, none, .p (.bin .lss), [.t 7, .t 9]⟩,
    ⟨4, some 11, none, .p .mov, [.t 10]⟩,
    ⟨5, some 12, some (11, true), .p .mov, [.t 0]⟩,
    ⟨6, some 13, some (11, true), .p .mov, [.t 5]⟩,
    ⟨7, some 14, some (11, true), .p (.idx 1), [.t 12, .t 13]⟩,
    ⟨8, some 15, some (11, true), .r (.load false 1) false, [.t 14]⟩,
    ⟨9, some 16, some (11, true), .p .mov, [.t 1]⟩,
    ⟨10, some 17, some (11, true), .p (.bin .lss), [.t 15, .t 16]⟩,
    ⟨11, some 18, none, .p .pick, [.t 11, .t 17, .c (.bool false)]⟩])
   (.cond (.t 18) (.skip)
   (.exit 0)))
   (.block 1 (.reg 0 [⟨0, some 19, none, .p .mov, [.t 5]⟩,
    ⟨1, some 20, none, .p (.bin .add), [.t 19, .c (.int .i64 1)]⟩,
    ⟨2, some 5, none, .p .mov, [.t 20]⟩]))
def g410 : GL.Fn := ⟨.seq (.reg 0 [⟨0, some 4, none, .p .mov, [.c (.nils)]⟩])
   (.seq (.reg 0 [⟨0, some 5, none, .p .mov, [.c (.int .i64 0)]⟩])
   (.seq (.block 0 (.loop g410_0))
   (.seq (.seq (.reg 0 [⟨0, some 21, none, .p .mov, [.t 5]⟩,
    ⟨1, some 22, none, .p .mov, [.t 0]⟩,
    ⟨2, some 23, none, .p .len, [.t 22]⟩,
    ⟨3, some 24, none, .p (.bin .lss), [.t 21, .t 23]⟩,
    ⟨4, some 25, none, .p .mov, [.t 24]⟩,
    ⟨5, some 26, some (25, true), .p .mov, [.t 0]⟩,
    ⟨6, some 27, some (25, true), .p .mov, [.t 5]⟩,
    ⟨7, some 28, some (25, true), .p (.idx 1), [.t 26, .t 27]⟩,
    ⟨8, some 29, some (25, true), .r (.load false 1) false, [.t 28]⟩,
    ⟨9, some 30, some (25, true), .p .mov, [.t 1]⟩,
    ⟨10, some 31, some (25, true), .p (.bin .eql), [.t 29, .t 30]⟩,
    ⟨11, some 32, none, .p .pick, [.t 25, .t 31, .c (.bool false)]⟩])
   (.cond (.t 32) (.seq (.reg 0 [⟨0, some 33, none, .p .mov, [.t 0]⟩,
    ⟨1, some 4, none, .p .mov, [.t 33]⟩])
   (.ret))
   (.skip)))
   (.seq (.reg 0 [⟨0, some 34, none, .e (.new (.lit 1)) [] [], []⟩,
    ⟨1, some 35, none, .p .mov, [.t 0]⟩,
    ⟨2, some 36, none, .p .mov, [.t 5]⟩,
    ⟨3, some 37, none, .p (.slice 1 false true false), [.t 35, .t 36]⟩,
    ⟨4, some 38, none, .e (.append 1 8) [] [], [.t 34, .t 37]⟩,
    ⟨5, some 6, none, .p .mov, [.t 38]⟩])
   (.seq (.reg 0 [⟨0, some 39, none, .p .mov, [.t 6]⟩,
    ⟨1, some 40, none, .p .mov, [.t 1]⟩,
    ⟨2, some 41, none, .e (.new (.lit 1)) [] [], [.t 40]⟩,
    ⟨3, some 42, none, .e (.append 1 8) [] [], [.t 39, .t 41]⟩,
    ⟨4, some 6, none, .p .mov, [.t 42]⟩])
   (.seq (.reg 0 [⟨0, some 43, none, .p .mov, [.t 6]⟩,
    ⟨1, some 44, none, .p .mov, [.t 0]⟩,
    ⟨2, some 45, none, .p .mov, [.t 5]⟩,
    ⟨3, some 46, none, .p (.slice 1 true false false), [.t 44, .t 45]⟩,
    ⟨4, some 47, none, .e (.append 1 8) [] [], [.t 43, .t 46]⟩,
    ⟨5, some 4, none, .p .mov, [.t 47]⟩])
   (.ret))))))),
  [.tmp 4]⟩
/- loop.example/g00641/impl.within -/
def g107 : GL.Fn := ⟨.seq (.reg 0 [⟨0, some 6, none, .p .mov, [.c (.bool false)]⟩])
   (.seq (.reg 0 [⟨0, some 7, none, .p .mov, [.t 0]⟩,
    ⟨1, some 8, none, .p .mov, [.t 1]⟩,
    ⟨2, some 9, none, .p (.bin .geq), [.t 7, .t 8]⟩,
    ⟨3, some 10, none, .p .mov, [.t 9]⟩,
    ⟨4, some 11, some (10, true), .p .mov, [.t 0]⟩,
    ⟨5, some 12, some (10, true), .p .mov, [.t 2]⟩,
    ⟨6, some 13, some (10, true), .p (.bin .leq), [.t 11, .t 12]⟩,
    ⟨7, some 14, none, .p .pick, [.t 10, .t 13, .c (.bool false)]⟩,
    ⟨8, some 6, none, .p .mov, [.t 14]⟩])
   (.ret)),
  [.tmp 6]⟩
/- slices.Index[[]int,int] -/
def g390_0 : GL.Code := .seq (.reg 0 [⟨0, some 9, none, .p (.bin .lss), [.t 8, .t 7]⟩])
   (.seq (.cond (.t 9) (.skip)
   (.exit 0))
   (.seq (.block 1 (.seq (.reg 0 [⟨0, some 10, none, .p .mov, [.t 8]⟩,
    ⟨1, some 5, none, .p .mov, [.t 10]⟩])
   (.seq (.reg 0 [⟨0, some 11, none, .p .mov, [.t 1]⟩,
    ⟨1, some 12, none, .p .mov, [.t 0]⟩,
    ⟨2, some 13, none, .p .mov, [.t 5]⟩,
    ⟨3, some 14, none, .p (.idx 1), [.t 12, .t 13]⟩,
    ⟨4, some 15, none, .r (.load false 1) false, [.t 14]⟩,
    ⟨5, some 16, none, .p (.bin .eql), [.t 11, .t 15]⟩])
   (.cond (.t 16) (.seq (.reg 0 [⟨0, some 17, none, .p .mov, [.t 5]⟩,
    ⟨1, some 4, none, .p .mov, [.t 17]⟩])
   (.ret))
   (.skip)))))
   (.reg 0 [⟨0, some 18, none, .p (.bin .add), [.t 8, .c (.int .i64 1)]⟩,
    ⟨1, some 8, none, .p .mov, [.t 18]⟩])))
def g390 : GL.Fn := ⟨.seq (.reg 0 [⟨0, some 4, none, .p .mov, [.c (.int .i64 0)]⟩])
   (.seq (.seq (.reg 0 [⟨0, some 6, none, .p .mov, [.t 0]⟩,
    ⟨1, some 7, none, .p .len, [.t 6]⟩,
    ⟨2, some 8, none, .p .mov, [.c (.int .i64 0)]⟩])
   (.block 0 (.loop g390_0)))
   (.seq (.reg 0 [⟨0, some 4, none, .p .mov, [.c (.int .i64 (-1))]⟩])
   (.ret))),
  [.tmp 4]⟩
/- loop.example/g00641/impl.together -/
def g412 : GL.Fn := ⟨.seq (.reg 0 [⟨0, some 4, none, .p .mov, [.c (.nils)]⟩])
   (.seq (.reg 0 [⟨0, some 6, none, .p .mov, [.t 0]⟩,
    ⟨1, some 7, none, .p .mov, [.t 1]⟩,
    ⟨2, some 8, none, .e (.new (.lit 1)) [] [], [.t 6, .t 7]⟩,
    ⟨3, some 9, none, .e .call [] [], [.f 429, .t 8]⟩,
    ⟨4, some 5, none, .p .mov, [.t 9]⟩])
   (.seq (.reg 0 [⟨0, some 10, none, .p .mov, [.t 5]⟩,
    ⟨1, some 11, none, .e .call [] [], [.f 340, .t 10]⟩])
   (.seq (.reg 0 [⟨0, some 12, none, .p .mov, [.t 5]⟩,
    ⟨1, some 13, none, .e .call [] [], [.f 430, .t 12]⟩,
    ⟨2, some 4, none, .p .mov, [.t 13]⟩])
   (.ret)))),
  [.tmp 4]⟩
/- loop.example/g00641/spec.l1In -/
def g98 : GL.Fn := ⟨.seq (.reg 0 [⟨0, some 6, none, .p .mov, [.c (.bool false)]⟩])
   (.seq (.reg 0 [⟨0, some 7, none, .p .mov, [.t 0]⟩,
    ⟨1, some 8, none, .p .mov, [.t 1]⟩,
    ⟨2, some 9, none, .p (.bin .geq), [.t 7, .t 8]⟩,
    ⟨3, some 10, none, .p .mov, [.t 9]⟩,
    ⟨4, some 11, some (10, true), .p .mov, [.t 0]⟩,
    ⟨5, some 12, some (10, true), .p .mov, [.t 2]⟩,
    ⟨6, some 13, some (10, true), .p (.bin .leq), [.t 11, .t 12]⟩,
    ⟨7, some 14, none, .p .pick, [.t 10, .t 13, .c (.bool false)]⟩,
    ⟨8, some 6, none, .p .mov, [.t 14]⟩])
   (.ret)),
  [.tmp 6]⟩
/- (*loop.example/g00641/spec.l1Cur).among -/
def g93 : GL.Fn := ⟨.seq (.reg 0 [⟨0, some 4, none, .p .mov, [.c (.int .i64 0)]⟩])
   (.seq (.reg 0 [⟨0, some 5, none, .p .mov, [.t 1]⟩,
    ⟨1, some 6, none, .p .mov, [.t 0]⟩,
    ⟨2, some 7, none, .p .mov, [.t 1]⟩,
    ⟨3, some 8, none, .p .len, [.t 7]⟩,
    ⟨4, some 9, none, .e .call [] [], [.f 91, .t 6, .t 8]⟩,
    ⟨5, some 10, none, .p (.idx 1), [.t 5, .t 9]⟩,
    ⟨6, some 11, none, .r (.load false 1) false, [.t 10]⟩,
    ⟨7, some 4, none, .p .mov, [.t 11]⟩])
   (.ret)),
  [.tmp 4]⟩
/- loop.example/g00641/spec.GroupBy -/
def g568_0 : GL.Code := .seq (.seq (.reg 0 [⟨0, some 26, none, .p .mov, [.t 9]⟩,
    ⟨1, some 27, none, .p .mov, [.t 1]⟩,
    ⟨2, some 28, none, .p (.bin .lss), [.t 26, .t 27]⟩])
   (.cond (.t 28) (.skip)
   (.exit 0)))
   (.seq (.block 1 (.reg 0 [⟨0, some 31, none, .p .mov, [.t 8]⟩,
    ⟨1, some 32, none, .p .mov, [.t 2]⟩,
    ⟨2, some 33, none, .p .mov, [.t 9]⟩,
    ⟨3, some 34, none, .p (.bin .add), [.t 32, .t 33]⟩,
    ⟨4, some 35, none, .p .mov, [.t 0]⟩,
    ⟨5, some 36, none, .p (.bin .rem), [.t 34, .t 35]⟩,
    ⟨6, some 37, none, .e .call [] [], [.f 410, .t 31, .t 36]⟩,
    ⟨7, some 8, none, .p .mov, [.t 37]⟩]))
   (.reg 0 [⟨0, some 29, none, .p .mov, [.t 9]⟩,
    ⟨1, some 30, none, .p (.bin .add), [.t 29, .c (.int .i64 1)]⟩,
    ⟨2, some 9, none, .p .mov, [.t 30]⟩]))
def g568 : GL.Fn := ⟨.seq (.reg 0 [⟨0, some 6, none, .p .mov, [.c (.nils)]⟩,
    ⟨1, some 7, none, .p .mov, [.c (.bool false)]⟩])
   (.seq (.seq (.reg 0 [⟨0, some 10, none, .p .mov, [.t 0]⟩,
    ⟨1, some 11, none, .e .call [] [], [.f 321, .t 10]⟩,
    ⟨2, some 12, none, .p (.un .not), [.t 11]⟩,
    ⟨3, some 13, none, .p .mov, [.t 12]⟩,
    ⟨4, some 14, some (13, false), .p .mov, [.t 1]⟩,
    ⟨5, some 15, some (13, false), .p .mov, [.t 0]⟩,
    ⟨6, some 16, some (13, false), .e .call [] [], [.f 98, .t 14, .c (.int .i64 1), .t 15]⟩,
    ⟨7, some 17, some (13, false), .p (.un .not), [.t 16]⟩,
    ⟨8, some 18, none, .p .pick, [.t 13, .c (.bool true), .t 17]⟩,
    ⟨9, some 19, none, .p .mov, [.t 18]⟩,
    ⟨10, some 20, some (19, false), .p .mov, [.t 2]⟩,
    ⟨11, some 21, some (19, false), .p .mov, [.t 0]⟩,
    ⟨12, some 22, some (19, false), .p (.bin .sub), [.t 21, .c (.int .i64 1)]⟩,
    ⟨13, some 23, some (19, false), .e .call [] [], [.f 98, .t 20, .c (.int .i64 0), .t 22]⟩,
    ⟨14, some 24, some (19, false), .p (.un .not), [.t 23]⟩,
    ⟨15, some 25, none, .p .pick, [.t 19, .c (.bool true), .t 24]⟩])
   (.cond (.t 25) (.seq (.reg 0 [⟨0, some 6, none, .p .mov, [.c (.nils)]⟩,
    ⟨1, some 7, none, .p .mov, [.c (.bool false)]⟩])
   (.ret))
   (.skip)))
   (.seq (.reg 0 [⟨0, some 8, none, .p .mov, [.c (.nils)]⟩])
   (.seq (.seq (.reg 0 [⟨0, some 9, none, .p .mov, [.c (.int .i64 0)]⟩])
   (.block 0 (.loop g568_0)))
   (.seq (.reg 0 [⟨0, some 38, none, .p .mov, [.t 8]⟩,
    ⟨1, some 6, none, .p .mov, [.t 38]⟩,
    ⟨2, some 7, none, .p .mov, [.c (.bool true)]⟩])
   (.ret))))),
  [.tmp 6, .tmp 7]⟩
/- loop.example/g00641/impl.arePlaces -/
def g314 : GL.Fn := ⟨.seq (.reg 0 [⟨0, some 4, none, .p .mov, [.c (.bool false)]⟩])
   (.seq (.reg 0 [⟨0, some 5, none, .p .mov, [.t 0]⟩,
    ⟨1, some 6, none, .e .call [] [], [.f 318, .t 5]⟩,
    ⟨2, some 7, none, .p .mov, [.t 6]⟩,
    ⟨3, some 8, some (7, true), .p .mov, [.t 1]⟩,
    ⟨4, some 9, some (7, true), .p .mov, [.t 0]⟩,
    ⟨5, some 10, some (7, true), .p (.bin .sub), [.t 9, .c (.int .i64 1)]⟩,
    ⟨6, some 11, some (7, true), .e .call [] [], [.f 385, .t 8, .c (.int .i64 0), .t 10]⟩,
    ⟨7, some 12, none, .p .pick, [.t 7, .t 11, .c (.bool false)]⟩,
    ⟨8, some 4, none, .p .mov, [.t 12]⟩])
   (.ret)),
  [.tmp 4]⟩
/- loop.example/g00641/impl.slow -/
def g322 : GL.Fn := ⟨.seq (.reg 0 [⟨0, some 2, none, .p .mov, [.c (.int .i64 0)]⟩])
   (.seq (.reg 0 [⟨0, some 3, none, .p .mov, [.t 0]⟩,
    ⟨1, some 4, none, .p (.bin .quo), [.t 3, .c (.int .i64 2)]⟩,
    ⟨2, some 5, none, .p (.bin .add), [.t 4, .c (.int .i64 1)]⟩,
    ⟨3, some 2, none, .p .mov, [.t 5]⟩])
   (.ret)),
  [.tmp 2]⟩
/- (loop.example/g00641/impl.Heard).deps -/
def g519_0 : GL.Code := .seq (.reg 0 [⟨0, some 18, none, .p (.bin .lss), [.t 17, .t 16]⟩])
   (.seq (.cond (.t 18) (.skip)
   (.exit 0))
   (.seq (.block 1 (.seq (.reg 0 [⟨0, some 19, none, .p (.idx 1), [.t 15, .t 17]⟩,
    ⟨1, some 20, none, .r (.load false 1) false, [.t 19]⟩,
    ⟨2, some 9, none, .p .mov, [.t 20]⟩])
   (.seq (.seq (.reg 0 [⟨0, some 21, none, .p .mov, [.t 9]⟩,
    ⟨1, some 22, none, .p .mov, [.t 2]⟩,
    ⟨2, some 23, none, .p (.bin .eql), [.t 21, .t 22]⟩])
   (.cond (.t 23) (.exit 0)
   (.skip)))
   (.seq (.reg 0 [⟨0, some 24, none, .p (.faddr 1), [.t 3]⟩,
    ⟨1, some 25, none, .l (.load 3 false 1), [.t 24]⟩,
    ⟨2, some 26, none, .p .mov, [.t 9]⟩,
    ⟨3, some 27, none, .p (.idx 2), [.t 25, .t 26]⟩,
    ⟨4, some 28, none, .r (.load true 2) false, [.t 27]⟩,
    ⟨5, some 29, none, .p (.faddr 1), [.t 3]⟩,
    ⟨6, some 30, none, .l (.load 3 false 1), [.t 29]⟩,
    ⟨7, some 31, none, .p .mov, [.t 2]⟩,
    ⟨8, some 32, none, .p (.idx 2), [.t 30, .t 31]⟩,
    ⟨9, some 33, none, .r (.load true 2) false, [.t 32]⟩,
    ⟨10, some 34, none, .e .call [] [], [.f 535, .t 28, .t 33]⟩])
   (.cond (.t 34) (.reg 0 [⟨0, some 35, none, .p .mov, [.t 7]⟩,
    ⟨1, some 36, none, .p .mov, [.t 9]⟩,
    ⟨2, some 37, none, .e (.new (.lit 1)) [] [], [.t 36]⟩,
    ⟨3, some 38, none, .e (.append 1 8) [] [], [.t 35, .t 37]⟩,
    ⟨4, some 7, none, .p .mov, [.t 38]⟩])
   (.skip))))))
   (.reg 0 [⟨0, some 39, none, .p (.bin .add), [.t 17, .c (.int .i64 1)]⟩,
    ⟨1, some 17, none, .p .mov, [.t 39]⟩])))
def g519 : GL.Fn := ⟨.seq (.reg 0 [⟨0, some 3, none, .l (.box 3 3), [.t 0]⟩,
    ⟨1, some 6, none, .p .mov, [.c (.nils)]⟩])
   (.seq (.reg 0 [⟨0, some 10, none, .e (.new (.lit 1)) [] [], []⟩,
    ⟨1, some 7, none, .p .mov, [.t 10]⟩])
   (.seq (.seq (.reg 0 [⟨0, some 11, none, .p (.faddr 2), [.t 3]⟩,
    ⟨1, some 12, none, .l (.load 3 false 1), [.t 11]⟩,
    ⟨2, some 13, none, .p .mov, [.t 1]⟩,
    ⟨3, some 14, none, .p (.idx 1), [.t 12, .t 13]⟩,
    ⟨4, some 15, none, .r (.load false 1) false, [.t 14]⟩,
    ⟨5, some 16, none, .p .len, [.t 15]⟩,
    ⟨6, some 17, none, .p .mov, [.c (.int .i64 0)]⟩])
   (.block 0 (.loop g519_0)))
   (.seq (.reg 0 [⟨0, some 40, none, .p .mov, [.t 7]⟩,
    ⟨1, some 41, none, .e .call [] [], [.f 340, .t 40]⟩])
   (.seq (.reg 0 [⟨0, some 42, none, .p .mov, [.t 7]⟩,
    ⟨1, some 6, none, .p .mov, [.t 42]⟩])
   (.ret))))),
  [.tmp 6]⟩
/- loop.example/g00641/spec.l1Rising -/
def g337_0 : GL.Code := .seq (.reg 0 [⟨0, some 12, none, .p (.bin .lss), [.t 11, .t 10]⟩])
   (.seq (.cond (.t 12) (.skip)
   (.exit 0))
   (.seq (.block 1 (.seq (.reg 0 [⟨0, some 13, none, .p .mov, [.t 11]⟩,
    ⟨1, some 14, none, .p (.idx 1), [.t 9, .t 11]⟩,
    ⟨2, some 15, none, .r (.load false 1) false, [.t 14]⟩,
    ⟨3, some 7, none, .p .mov, [.t 13]⟩,
    ⟨4, some 8, none, .p .mov, [.t 15]⟩])
   (.seq (.reg 0 [⟨0, some 16, none, .p .mov, [.t 8]⟩,
    ⟨1, some 17, none, .p .mov, [.t 1]⟩,
    ⟨2, some 18, none, .p .mov, [.t 2]⟩,
    ⟨3, some 19, none, .e .call [] [], [.f 98, .t 16, .t 17, .t 18]⟩,
    ⟨4, some 20, none, .p (.un .not), [.t 19]⟩,
    ⟨5, some 21, none, .p .mov, [.t 20]⟩,
    ⟨6, some 22, some (21, false), .p .mov, [.t 7]⟩,
    ⟨7, some 23, some (21, false), .p (.bin .gtr), [.t 22, .c (.int .i64 0)]⟩,
    ⟨8, some 24, some (21, false), .p .mov, [.t 23]⟩,
    ⟨9, some 25, some (24, true), .p .mov, [.t 0]⟩,
    ⟨10, some 26, some (24, true), .p .mov, [.t 7]⟩,
    ⟨11, some 27, some (24, true), .p (.bin .sub), [.t 26, .c (.int .i64 1)]⟩,
    ⟨12, some 28, some (24, true), .p (.idx 1), [.t 25, .t 27]⟩,
    ⟨13, some 29, some (24, true), .r (.load false 1) false, [.t 28]⟩,
    ⟨14, some 30, some (24, true), .p .mov, [.t 8]⟩,
    ⟨15, some 31, some (24, true), .p (.bin .geq), [.t 29, .t 30]⟩,
    ⟨16, some 32, some (21, false), .p .pick, [.t 24, .t 31, .c (.bool false)]⟩,
    ⟨17, some 33, none, .p .pick, [.t 21, .c (.bool true), .t 32]⟩])
   (.cond (.t 33) (.seq (.reg 0 [⟨0, some 6, none, .p .mov, [.c (.bool false)]⟩])
   (.ret))
   (.skip)))))
   (.reg 0 [⟨0, some 34, none, .p (.bin .add), [.t 11, .c (.int .i64 1)]⟩,
    ⟨1, some 11, none, .p .mov, [.t 34]⟩])))
def g337 : GL.Fn := ⟨.seq (.reg 0 [⟨0, some 6, none, .p .mov, [.c (.bool false)]⟩])
   (.seq (.seq (.reg 0 [⟨0, some 9, none, .p .mov, [.t 0]⟩,
    ⟨1, some 10, none, .p .len, [.t 9]⟩,
    ⟨2, some 11, none, .p .mov, [.c (.int .i64 0)]⟩])
   (.block 0 (.loop g337_0)))
   (.seq (.reg 0 [⟨0, some 6, none, .p .mov, [.c (.bool true)]⟩])
   (.ret))),
  [.tmp 6]⟩
/- loop.example/g00641/spec.l11Slow -/
def g333 : GL.Fn := ⟨.seq (.reg 0 [⟨0, some 2, none, .p .mov, [.c (.int .i64 0)]⟩])
   (.seq (.reg 0 [⟨0, some 3, none, .p .mov, [.t 0]⟩,
    ⟨1, some 4, none, .p (.bin .quo), [.t 3, .c (.int .i64 2)]⟩,
    ⟨2, some 5, none, .p (.bin .add), [.t 4, .c (.int .i64 1)]⟩,
    ⟨3, some 2, none, .p .mov, [.t 5]⟩])
   (.ret)),
  [.tmp 2]⟩
/- loop.example/g00641/spec.l13At -/
def g516_0 : GL.Code := .seq (.reg 0 [⟨0, some 17, none, .p (.bin .lss), [.t 16, .t 15]⟩])
   (.seq (.cond (.t 17) (.skip)
   (.exit 0))
   (.seq (.block 1 (.seq (.reg 0 [⟨0, some 18, none, .p (.idx 1), [.t 14, .t 16]⟩,
    ⟨1, some 19, none, .r (.load false 1) false, [.t 18]⟩,
    ⟨2, some 9, none, .p .mov, [.t 19]⟩])
   (.seq (.seq (.reg 0 [⟨0, some 20, none, .p .mov, [.t 9]⟩,
    ⟨1, some 21, none, .p .mov, [.t 2]⟩,
    ⟨2, some 22, none, .p (.bin .eql), [.t 20, .t 21]⟩])
   (.cond (.t 22) (.exit 0)
   (.skip)))
   (.seq (.reg 0 [⟨0, some 23, none, .p (.faddr 1), [.t 3]⟩,
    ⟨1, some 24, none, .l (.load 3 false 1), [.t 23]⟩,
    ⟨2, some 25, none, .p .mov, [.t 9]⟩,
    ⟨3, some 26, none, .p (.idx 2), [.t 24, .t 25]⟩,
    ⟨4, some 27, none, .r (.load true 2) false, [.t 26]⟩,
    ⟨5, some 28, none, .p (.faddr 1), [.t 3]⟩,
    ⟨6, some 29, none, .l (.load 3 false 1), [.t 28]⟩,
    ⟨7, some 30, none, .p .mov, [.t 2]⟩,
    ⟨8, some 31, none, .p (.idx 2), [.t 29, .t 30]⟩,
    ⟨9, some 32, none, .r (.load true 2) false, [.t 31]⟩,
    ⟨10, some 33, none, .e .call [] [], [.f 537, .t 27, .t 32]⟩])
   (.cond (.t 33) (.reg 0 [⟨0, some 34, none, .p .mov, [.t 7]⟩,
    ⟨1, some 35, none, .p .mov, [.t 9]⟩,
    ⟨2, some 36, none, .e .call [] [], [.f 410, .t 34, .t 35]⟩,
    ⟨3, some 7, none, .p .mov, [.t 36]⟩])
   (.skip))))))
   (.reg 0 [⟨0, some 37, none, .p (.bin .add), [.t 16, .c (.int .i64 1)]⟩,
    ⟨1, some 16, none, .p .mov, [.t 37]⟩])))
def g516 : GL.Fn := ⟨.seq (.reg 0 [⟨0, some 3, none, .l (.box 3 3), [.t 0]⟩,
    ⟨1, some 6, none, .p .mov, [.c (.nils)]⟩])
   (.seq (.reg 0 [⟨0, some 7, none, .p .mov, [.c (.nils)]⟩])
   (.seq (.seq (.reg 0 [⟨0, some 10, none, .p (.faddr 2), [.t 3]⟩,
    ⟨1, some 11, none, .l (.load 3 false 1), [.t 10]⟩,
    ⟨2, some 12, none, .p .mov, [.t 1]⟩,
    ⟨3, some 13, none, .p (.idx 1), [.t 11, .t 12]⟩,
    ⟨4, some 14, none, .r (.load false 1) false, [.t 13]⟩,
    ⟨5, some 15, none, .p .len, [.t 14]⟩,
    ⟨6, some 16, none, .p .mov, [.c (.int .i64 0)]⟩])
   (.block 0 (.loop g516_0)))
   (.seq (.reg 0 [⟨0, some 38, none, .p .mov, [.t 7]⟩,
    ⟨1, some 6, none, .p .mov, [.t 38]⟩])
   (.ret)))),
  [.tmp 6]⟩
/- slices.IndexFunc[[]loop.example/g00641/impl.Deed,loop.example/g00641/impl.Deed] -/
def g569_0 : GL.Code := .seq (.reg 0 [⟨0, some 9, none, .p (.bin .lss), [.t 8, .t 7]⟩])
   (.seq (.cond (.t 9) (.skip)
   (.exit 0))
   (.seq (.block 1 (.seq (.reg 0 [⟨0, some 10, none, .p .mov, [.t 8]⟩,
    ⟨1, some 5, none, .p .mov, [.t 10]⟩])
   (.seq (.reg 0 [⟨0, some 11, none, .p .mov, [.t 1]⟩,
    ⟨1, some 12, none, .p .mov, [.t 0]⟩,
    ⟨2, some 13, none, .p .mov, [.t 5]⟩,
    ⟨3, some 14, none, .p (.idx 2), [.t 12, .t 13]⟩,
    ⟨4, some 15, none, .r (.load true 2) false, [.t 14]⟩,
    ⟨5, some 16, none, .e .call [] [], [.t 11, .t 15]⟩])
   (.cond (.t 16) (.seq (.reg 0 [⟨0, some 17, none, .p .mov, [.t 5]⟩,
    ⟨1, some 4, none, .p .mov, [.t 17]⟩])
   (.ret))
   (.skip)))))
   (.reg 0 [⟨0, some 18, none, .p (.bin .add), [.t 8, .c (.int .i64 1)]⟩,
    ⟨1, some 8, none, .p .mov, [.t 18]⟩])))
def g569 : GL.Fn := ⟨.seq (.reg 0 [⟨0, some 4, none, .p .mov, [.c (.int .i64 0)]⟩])
   (.seq (.seq (.reg 0 [⟨0, some 6, none, .p .mov, [.t 0]⟩,
    ⟨1, some 7, none, .p .len, [.t 6]⟩,
    ⟨2, some 8, none, .p .mov, [.c (.int .i64 0)]⟩])
   (.block 0 (.loop g569_0)))
   (.seq (.reg 0 [⟨0, some 4, none, .p .mov, [.c (.int .i64 (-1))]⟩])
   (.ret))),
  [.tmp 4]⟩
/- slices.IndexFunc[[][]int,[]int] -/
def g395_0 : GL.Code := .seq (.reg 0 [⟨0, some 9, none, .p (.bin .lss), [.t 8, .t 7]⟩])
   (.seq (.cond (.t 9) (.skip)
   (.exit 0))
   (.seq (.block 1 (.seq (.reg 0 [⟨0, some 10, none, .p .mov, [.t 8]⟩,
    ⟨1, some 5, none, .p .mov, [.t 10]⟩])
   (.seq (.reg 0 [⟨0, some 11, none, .p .mov, [.t 1]⟩,
    ⟨1, some 12, none, .p .mov, [.t 0]⟩,
    ⟨2, some 13, none, .p .mov, [.t 5]⟩,
    ⟨3, some 14, none, .p (.idx 1), [.t 12, .t 13]⟩,
    ⟨4, some 15, none, .r (.load false 1) false, [.t 14]⟩,
    ⟨5, some 16, none, .e .call [] [], [.t 11, .t 15]⟩])
   (.cond (.t 16) (.seq (.reg 0 [⟨0, some 17, none, .p .mov, [.t 5]⟩,
    ⟨1, some 4, none, .p .mov, [.t 17]⟩])
   (.ret))
   (.skip)))))
   (.reg 0 [⟨0, some 18, none, .p (.bin .add), [.t 8, .c (.int .i64 1)]⟩,
    ⟨1, some 8, none, .p .mov, [.t 18]⟩])))
def g395 : GL.Fn := ⟨.seq (.reg 0 [⟨0, some 4, none, .p .mov, [.c (.int .i64 0)]⟩])
   (.seq (.seq (.reg 0 [⟨0, some 6, none, .p .mov, [.t 0]⟩,
    ⟨1, some 7, none, .p .len, [.t 6]⟩,
    ⟨2, some 8, none, .p .mov, [.c (.int .i64 0)]⟩])
   (.block 0 (.loop g395_0)))
   (.seq (.reg 0 [⟨0, some 4, none, .p .mov, [.c (.int .i64 (-1))]⟩])
   (.ret))),
  [.tmp 4]⟩
/- (*loop.example/g00641/spec.l1Cur).next -/
def g140 : GL.Fn := ⟨.seq (.reg 0 [⟨0, some 2, none, .p .mov, [.c (.int .i64 0)]⟩])
   (.seq (.reg 0 [⟨0, some 3, none, .p .mov, [.c (.int .i64 0)]⟩])
   (.seq (.seq (.reg 0 [⟨0, some 4, none, .p .mov, [.t 0]⟩,
    ⟨1, some 5, none, .p .nilCheck, [.t 4]⟩,
    ⟨2, some 6, none, .p (.faddr 1), [.t 5]⟩,
    ⟨3, some 7, none, .r (.load false 1) false, [.t 6]⟩,
    ⟨4, some 8, none, .p .mov, [.t 0]⟩,
    ⟨5, some 9, none, .p .nilCheck, [.t 8]⟩,
    ⟨6, some 10, none, .p (.faddr 0), [.t 9]⟩,
    ⟨7, some 11, none, .r (.load false 1) false, [.t 10]⟩,
    ⟨8, some 12, none, .p .len, [.t 11]⟩,
    ⟨9, some 13, none, .p (.bin .lss), [.t 7, .t 12]⟩])
   (.cond (.t 13) (.reg 0 [⟨0, some 14, none, .p .mov, [.t 0]⟩,
    ⟨1, some 15, none, .p .nilCheck, [.t 14]⟩,
    ⟨2, some 16, none, .p (.faddr 0), [.t 15]⟩,
    ⟨3, some 17, none, .r (.load false 1) false, [.t 16]⟩,
    ⟨4, some 18, none, .p .mov, [.t 0]⟩,
    ⟨5, some 19, none, .p .nilCheck, [.t 18]⟩,
    ⟨6, some 20, none, .p (.faddr 1), [.t 19]⟩,
    ⟨7, some 21, none, .r (.load false 1) false, [.t 20]⟩,
    ⟨8, some 22, none, .p (.idx 1), [.t 17, .t 21]⟩,
    ⟨9, some 23, none, .r (.load false 1) false, [.t 22]⟩,
    ⟨10, some 24, none, .p (.conv .i64), [.t 23]⟩,
    ⟨11, some 3, none, .p .mov, [.t 24]⟩])
   (.skip)))
   (.seq (.reg 0 [⟨0, some 25, none, .p .mov, [.t 0]⟩,
    ⟨1, some 26, none, .p .nilCheck, [.t 25]⟩,
    ⟨2, some 27, none, .p (.faddr 1), [.t 26]⟩,
    ⟨3, some 28, none, .r (.load false 1) false, [.t 27]⟩,
    ⟨4, some 29, none, .p (.bin .add), [.t 28, .c (.int .i64 1)]⟩,
    ⟨5, some 30, none, .p .nilCheck, [.t 25]⟩,
    ⟨6, some 31, none, .p (.faddr 1), [.t 30]⟩,
    ⟨7, none, none, .e (.store 1) [] [], [.t 31, .t 29]⟩])
   (.seq (.reg 0 [⟨0, some 32, none, .p .mov, [.t 0]⟩,
    ⟨1, some 33, none, .p .mov, [.t 0]⟩,
    ⟨2, some 34, none, .p .nilCheck, [.t 33]⟩,
    ⟨3, some 35, none, .p (.faddr 2), [.t 34]⟩,
    ⟨4, some 36, none, .r (.load false 1) false, [.t 35]⟩,
    ⟨5, some 37, none, .p (.bin .mul), [.t 36, .c (.int .u64 6364136223846793005)]⟩,
    ⟨6, some 38, none, .p .mov, [.t 3]⟩,
    ⟨7, some 39, none, .p (.conv .u64), [.t 38]⟩,
    ⟨8, some 40, none, .p (.bin .add), [.t 37, .t 39]⟩,
    ⟨9, some 41, none, .p (.bin .add), [.t 40, .c (.int .u64 1442695040888963407)]⟩,
    ⟨10, some 42, none, .p .nilCheck, [.t 32]⟩,
    ⟨11, some 43, none, .p (.faddr 2), [.t 42]⟩,
    ⟨12, none, none, .e (.store 1) [] [], [.t 43, .t 41]⟩])
   (.seq (.seq (.reg 0 [⟨0, some 44, none, .p .mov, [.t 0]⟩,
    ⟨1, some 45, none, .p .nilCheck, [.t 44]⟩,
    ⟨2, some 46, none, .p (.faddr 1), [.t 45]⟩,
    ⟨3, some 47, none, .r (.load false 1) false, [.t 46]⟩,
    ⟨4, some 48, none, .p .mov, [.t 0]⟩,
    ⟨5, some 49, none, .p .nilCheck, [.t 48]⟩,
    ⟨6, some 50, none, .p (.faddr 0), [.t 49]⟩,
    ⟨7, some 51, none, .r (.load false 1) false, [.t 50]⟩,
    ⟨8, some 52, none, .p .len, [.t 51]⟩,
    ⟨9, some 53, none, .p (.bin .leq), [.t 47, .t 52]⟩])
   (.cond (.t 53) (.seq (.reg 0 [⟨0, some 54, none, .p .mov, [.t 3]⟩,
    ⟨1, some 2, none, .p .mov, [.t 54]⟩])
   (.ret))
   (.skip)))
   (.seq (.reg 0 [⟨0, some 55, none, .p .mov, [.t 0]⟩,
    ⟨1, some 56, none, .p .nilCheck, [.t 55]⟩,
    ⟨2, some 57, none, .p (.faddr 2), [.t 56]⟩,
    ⟨3, some 58, none, .r (.load false 1) false, [.t 57]⟩,
    ⟨4, some 59, none, .p (.bin .shr), [.t 58, .c (.int .u64 40)]⟩,
    ⟨5, some 60, none, .p (.bin .and), [.t 59, .c (.int .u64 255)]⟩,
    ⟨6, some 61, none, .p (.conv .i64), [.t 60]⟩,
    ⟨7, some 2, none, .p .mov, [.t 61]⟩])
   (.ret))))))),
  [.tmp 2]⟩
/- slices.Concat[[]int,int] -/
def g429_0 : GL.Code := .seq (.reg 0 [⟨0, some 12, none, .p (.bin .lss), [.t 11, .t 10]⟩])
   (.seq (.cond (.t 12) (.skip)
   (.exit 0))
   (.seq (.block 1 (.seq (.reg 0 [⟨0, some 13, none, .p (.idx 1), [.t 9, .t 11]⟩,
    ⟨1, some 14, none, .r (.load false 1) false, [.t 13]⟩,
    ⟨2, some 5, none, .p .mov, [.t 14]⟩])
   (.seq (.reg 0 [⟨0, some 15, none, .p .mov, [.t 3]⟩,
    ⟨1, some 16, none, .p .mov, [.t 5]⟩,
    ⟨2, some 17, none, .p .len, [.t 16]⟩,
    ⟨3, some 18, none, .p (.bin .add), [.t 15, .t 17]⟩,
    ⟨4, some 3, none, .p .mov, [.t 18]⟩])
   (.seq (.reg 0 [⟨0, some 19, none, .p .mov, [.t 3]⟩,
    ⟨1, some 20, none, .p (.bin .lss), [.t 19, .c (.int .i64 0)]⟩])
   (.cond (.t 20) (.reg 0 [⟨0, some 21, none, .p .bad, []⟩,
    ⟨1, none, none, .p .bad, []⟩])
   (.skip))))))
   (.reg 0 [⟨0, some 22, none, .p (.bin .add), [.t 11, .c (.int .i64 1)]⟩,
    ⟨1, some 11, none, .p .mov, [.t 22]⟩])))
def g429_1 : GL.Code := .seq (.reg 0 [⟨0, some 28, none, .p (.bin .lss), [.t 27, .t 26]⟩])
   (.seq (.cond (.t 28) (.skip)
   (.exit 2))
   (.seq (.block 3 (.seq (.reg 0 [⟨0, some 29, none, .p (.idx 1), [.t 25, .t 27]⟩,
    ⟨1, some 30, none, .r (.load false 1) false, [.t 29]⟩,
    ⟨2, some 8, none, .p .mov, [.t 30]⟩])
   (.reg 0 [⟨0, some 31, none, .p .mov, [.t 6]⟩,
    ⟨1, some 32, none, .p .mov, [.t 8]⟩,
    ⟨2, some 33, none, .e (.append 1 8) [] [], [.t 31, .t 32]⟩,
    ⟨3, some 6, none, .p .mov, [.t 33]⟩])))
   (.reg 0 [⟨0, some 34, none, .p (.bin .add), [.t 27, .c (.int .i64 1)]⟩,
    ⟨1, some 27, none, .p .mov, [.t 34]⟩])))
def g429 : GL.Fn := ⟨.seq (.reg 0 [⟨0, some 2, none, .p .mov, [.c (.nils)]⟩])
   (.seq (.reg 0 [⟨0, some 3, none, .p .mov, [.c (.int .i64 0)]⟩])
   (.seq (.seq (.reg 0 [⟨0, some 9, none, .p .mov, [.t 0]⟩,
    ⟨1, some 10, none, .p .len, [.t 9]⟩,
    ⟨2, some 11, none, .p .mov, [.c (.int .i64 0)]⟩])
   (.block 0 (.loop g429_0)))
   (.seq (.reg 0 [⟨0, some 23, none, .p .mov, [.t 3]⟩,
    ⟨1, some 24, none, .e .call [] [], [.f 436, .c (.nils), .t 23]⟩,
    ⟨2, some 6, none, .p .mov, [.t 24]⟩])
   (.seq (.seq (.reg 0 [⟨0, some 25, none, .p .mov, [.t 0]⟩,
    ⟨1, some 26, none, .p .len, [.t 25]⟩,
    ⟨2, some 27, none, .p .mov, [.c (.int .i64 0)]⟩])
   (.block 2 (.loop g429_1)))
   (.seq (.reg 0 [⟨0, some 35, none, .p .mov, [.t 6]⟩,
    ⟨1, some 2, none, .p .mov, [.t 35]⟩])
   (.ret)))))),
  [.tmp 2]⟩
/- slices.Compact[[]int,int] -/
def g430_0 : GL.Code := .seq (.seq (.reg 0 [⟨0, some 29, none, .p .mov, [.t 5]⟩,
    ⟨1, some 30, none, .p .mov, [.t 4]⟩,
    ⟨2, some 31, none, .p .len, [.t 30]⟩,
    ⟨3, some 32, none, .p (.bin .lss), [.t 29, .t 31]⟩])
   (.cond (.t 32) (.skip)
   (.exit 2)))
   (.seq (.block 3 (.seq (.reg 0 [⟨0, some 35, none, .p .mov, [.t 4]⟩,
    ⟨1, some 36, none, .p .mov, [.t 5]⟩,
    ⟨2, some 37, none, .p (.idx 1), [.t 35, .t 36]⟩,
    ⟨3, some 38, none, .r (.load false 1) false, [.t 37]⟩,
    ⟨4, some 39, none, .p .mov, [.t 4]⟩,
    ⟨5, some 40, none, .p .mov, [.t 5]⟩,
    ⟨6, some 41, none, .p (.bin .sub), [.t 40, .c (.int .i64 1)]⟩,
    ⟨7, some 42, none, .p (.idx 1), [.t 39, .t 41]⟩,
    ⟨8, some 43, none, .r (.load false 1) false, [.t 42]⟩,
    ⟨9, some 44, none, .p (.bin .neq), [.t 38, .t 43]⟩])
   (.cond (.t 44) (.seq (.reg 0 [⟨0, some 45, none, .p .mov, [.t 0]⟩,
    ⟨1, some 46, none, .p .mov, [.t 3]⟩,
    ⟨2, some 47, none, .p .mov, [.t 4]⟩,
    ⟨3, some 48, none, .p .mov, [.t 5]⟩,
    ⟨4, some 49, none, .p (.idx 1), [.t 47, .t 48]⟩,
    ⟨5, some 50, none, .r (.load false 1) false, [.t 49]⟩,
    ⟨6, some 51, none, .p (.idx 1), [.t 45, .t 46]⟩,
    ⟨7, none, none, .e (.store 1) [] [], [.t 51, .t 50]⟩])
   (.reg 0 [⟨0, some 52, none, .p .mov, [.t 3]⟩,
    ⟨1, some 53, none, .p (.bin .add), [.t 52, .c (.int .i64 1)]⟩,
    ⟨2, some 3, none, .p .mov, [.t 53]⟩]))
   (.skip))))
   (.reg 0 [⟨0, some 33, none, .p .mov, [.t 5]⟩,
    ⟨1, some 34, none, .p (.bin .add), [.t 33, .c (.int .i64 1)]⟩,
    ⟨2, some 5, none, .p .mov, [.t 34]⟩]))
def g430_1 : GL.Code := .seq (.seq (.reg 0 [⟨0, some 10, none, .p .mov, [.t 3]⟩,
    ⟨1, some 11, none, .p .mov, [.t 0]⟩,
    ⟨2, some 12, none, .p .len, [.t 11]⟩,
    ⟨3, some 13, none, .p (.bin .lss), [.t 10, .t 12]⟩])
   (.cond (.t 13) (.skip)
   (.exit 0)))
   (.seq (.block 1 (.seq (.reg 0 [⟨0, some 16, none, .p .mov, [.t 0]⟩,
    ⟨1, some 17, none, .p .mov, [.t 3]⟩,
    ⟨2, some 18, none, .p (.idx 1), [.t 16, .t 17]⟩,
    ⟨3, some 19, none, .r (.load false 1) false, [.t 18]⟩,
    ⟨4, some 20, none, .p .mov, [.t 0]⟩,
    ⟨5, some 21, none, .p .mov, [.t 3]⟩,
    ⟨6, some 22, none, .p (.bin .sub), [.t 21, .c (.int .i64 1)]⟩,
    ⟨7, some 23, none, .p (.idx 1), [.t 20, .t 22]⟩,
    ⟨8, some 24, none, .r (.load false 1) false, [.t 23]⟩,
    ⟨9, some 25, none, .p (.bin .eql), [.t 19, .t 24]⟩])
   (.cond (.t 25) (.seq (.reg 0 [⟨0, some 26, none, .p .mov, [.t 0]⟩,
    ⟨1, some 27, none, .p .mov, [.t 3]⟩,
    ⟨2, some 28, none, .p (.slice 1 true false false), [.t 26, .t 27]⟩,
    ⟨3, some 4, none, .p .mov, [.t 28]⟩])
   (.seq (.seq (.reg 0 [⟨0, some 5, none, .p .mov, [.c (.int .i64 1)]⟩])
   (.block 2 (.loop g430_0)))
   (.seq (.reg 0 [⟨0, some 54, none, .p .mov, [.t 0]⟩,
    ⟨1, some 55, none, .p .mov, [.t 3]⟩,
    ⟨2, some 56, none, .p (.slice 1 true false false), [.t 54, .t 55]⟩,
    ⟨3, none, none, .e (.clear 1 [.int .i64 0]) [] [], [.t 56]⟩])
   (.seq (.reg 0 [⟨0, some 57, none, .p .mov, [.t 0]⟩,
    ⟨1, some 58, none, .p .mov, [.t 3]⟩,
    ⟨2, some 59, none, .p (.slice 1 false true false), [.t 57, .t 58]⟩,
    ⟨3, some 2, none, .p .mov, [.t 59]⟩])
   (.ret)))))
   (.skip))))
   (.reg 0 [⟨0, some 14, none, .p .mov, [.t 3]⟩,
    ⟨1, some 15, none, .p (.bin .add), [.t 14, .c (.int .i64 1)]⟩,
    ⟨2, some 3, none, .p .mov, [.t 15]⟩]))
def g430 : GL.Fn := ⟨.seq (.reg 0 [⟨0, some 2, none, .p .mov, [.c (.nils)]⟩])
   (.seq (.seq (.reg 0 [⟨0, some 6, none, .p .mov, [.t 0]⟩,
    ⟨1, some 7, none, .p .len, [.t 6]⟩,
    ⟨2, some 8, none, .p (.bin .lss), [.t 7, .c (.int .i64 2)]⟩])
   (.cond (.t 8) (.seq (.reg 0 [⟨0, some 9, none, .p .mov, [.t 0]⟩,
    ⟨1, some 2, none, .p .mov, [.t 9]⟩])
   (.ret))
   (.skip)))
   (.seq (.seq (.reg 0 [⟨0, some 3, none, .p .mov, [.c (.int .i64 1)]⟩])
   (.block 0 (.loop g430_1)))
   (.seq (.reg 0 [⟨0, some 60, none, .p .mov, [.t 0]⟩,
    ⟨1, some 2, none, .p .mov, [.t 60]⟩])
   (.ret)))),
  [.tmp 2]⟩
/- slices.Grow[[]int,int] -/
def g436 : GL.Fn := ⟨.seq (.reg 0 [⟨0, some 4, none, .p .mov, [.c (.nils)]⟩])
   (.seq (.seq (.reg 0 [⟨0, some 5, none, .p .mov, [.t 1]⟩,
    ⟨1, some 6, none, .p (.bin .lss), [.t 5, .c (.int .i64 0)]⟩])
   (.cond (.t 6) (.reg 0 [⟨0, some 7, none, .p .bad, []⟩,
    ⟨1, none, none, .p .bad, []⟩])
   (.skip)))
   (.seq (.seq (.reg 0 [⟨0, some 8, none, .p .mov, [.t 1]⟩,
    ⟨1, some 9, none, .p .mov, [.t 0]⟩,
    ⟨2, some 10, none, .p .cap, [.t 9]⟩,
    ⟨3, some 11, none, .p .mov, [.t 0]⟩,
    ⟨4, some 12, none, .p .len, [.t 11]⟩,
    ⟨5, some 13, none, .p (.bin .sub), [.t 10, .t 12]⟩,
    ⟨6, some 14, none, .p (.bin .sub), [.t 8, .t 13]⟩,
    ⟨7, some 1, none, .p .mov, [.t 14]⟩])
   (.seq (.reg 0 [⟨0, some 15, none, .p .mov, [.t 1]⟩,
    ⟨1, some 16, none, .p (.bin .gtr), [.t 15, .c (.int .i64 0)]⟩])
   (.cond (.t 16) (.reg 0 [⟨0, some 17, none, .p .mov, [.t 0]⟩,
    ⟨1, some 18, none, .p .mov, [.t 0]⟩,
    ⟨2, some 19, none, .p .cap, [.t 18]⟩,
    ⟨3, some 20, none, .p (.slice 1 false true false), [.t 17, .t 19]⟩,
    ⟨4, some 21, none, .p .mov, [.t 1]⟩,
    ⟨5, some 22, none, .e (.appendZ 1 8 [.int .i64 0]) [] [], [.t 20, .t 21]⟩,
    ⟨6, some 23, none, .p .mov, [.t 0]⟩,
    ⟨7, some 24, none, .p .len, [.t 23]⟩,
    ⟨8, some 25, none, .p (.slice 1 false true false), [.t 22, .t 24]⟩,
    ⟨9, some 0, none, .p .mov, [.t 25]⟩])
   (.skip))))
   (.seq (.reg 0 [⟨0, some 26, none, .p .mov, [.t 0]⟩,
    ⟨1, some 4, none, .p .mov, [.t 26]⟩])
   (.ret)))),
  [.tmp 4]⟩
end GL
