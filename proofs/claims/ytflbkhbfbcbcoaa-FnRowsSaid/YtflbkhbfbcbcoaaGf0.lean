import Derived.Test.YtflbkhbfbcbcoaaGlA
/- GL code of functions. -/
set_option linter.unusedSimpArgs false
set_option linter.unusedVariables false
set_option linter.unnecessarySimpa false
namespace GL
open Go
/- loop.example/g00641/laws.FnRows -/
def g59_0 : GL.Code := .seq (.reg 0 [⟨0, some 115, none, .p (.bin .lss), [.t 114, .t 113]⟩])
   (.seq (.cond (.t 115) (.skip)
   (.exit 0))
   (.seq (.block 1 (.seq (.reg 0 [⟨0, some 116, none, .p (.idx 2), [.t 112, .t 114]⟩,
    ⟨1, some 117, none, .r (.load true 2) false, [.t 116]⟩,
    ⟨2, some 18, none, .l (.alloc 18 [.int .i64 0, .nils]), []⟩,
    ⟨3, none, none, .l (.store 18 2), [.t 18, .t 117]⟩])
   (.seq (.reg 0 [⟨0, some 119, none, .p .mov, [.t 7]⟩,
    ⟨1, some 120, none, .p (.faddr 0), [.t 18]⟩,
    ⟨2, some 121, none, .l (.load 18 false 1), [.t 120]⟩,
    ⟨3, some 122, none, .e .call [] [], [.f 64, .t 119, .t 121]⟩,
    ⟨4, some 118, none, .p .mov, [.t 122]⟩,
    ⟨5, some 123, none, .p (.extract 0), [.t 118]⟩,
    ⟨6, some 124, none, .p (.extract 1), [.t 118]⟩,
    ⟨7, some 19, none, .l (.alloc 19 [.int .i64 0, .nils]), []⟩,
    ⟨8, none, none, .l (.store 19 2), [.t 19, .t 123]⟩,
    ⟨9, some 20, none, .p .mov, [.t 124]⟩])
   (.seq (.reg 0 [⟨0, some 125, none, .p .mov, [.t 20]⟩,
    ⟨1, some 126, none, .p (.un .not), [.t 125]⟩,
    ⟨2, some 127, none, .p .mov, [.t 126]⟩,
    ⟨3, some 128, some (127, false), .p (.faddr 0), [.t 18]⟩,
    ⟨4, some 129, some (127, false), .l (.load 18 false 1), [.t 128]⟩,
    ⟨5, some 130, some (127, false), .p (.faddr 0), [.t 6]⟩,
    ⟨6, some 131, some (127, false), .l (.load 6 false 1), [.t 130]⟩,
    ⟨7, some 132, some (127, false), .p (.bin .neq), [.t 129, .t 131]⟩,
    ⟨8, some 133, some (127, false), .p .mov, [.t 132]⟩,
    ⟨9, some 134, some (133, true), .l (.load 18 true 2), [.t 18]⟩,
    ⟨10, some 135, some (133, true), .l (.load 19 true 2), [.t 19]⟩,
    ⟨11, some 136, some (133, true), .e .call [] [], [.f 65, .t 134, .t 135]⟩,
    ⟨12, some 137, some (133, true), .p (.un .not), [.t 136]⟩,
    ⟨13, some 138, some (127, false), .p .pick, [.t 133, .t 137, .c (.bool false)]⟩,
    ⟨14, some 139, none, .p .pick, [.t 127, .c (.bool true), .t 138]⟩])
   (.cond (.t 139) (.seq (.reg 0 [⟨0, some 4, none, .p .mov, [.c (.bool false)]⟩])
   (.ret))
   (.skip))))))
   (.reg 0 [⟨0, some 140, none, .p (.bin .add), [.t 114, .c (.int .i64 1)]⟩,
    ⟨1, some 114, none, .p .mov, [.t 140]⟩])))
def g59 : GL.Fn := ⟨.seq (.reg 0 [⟨0, some 4, none, .p .mov, [.c (.bool false)]⟩])
   (.seq (.seq (.reg 0 [⟨0, some 31, none, .p .mov, [.t 0]⟩,
    ⟨1, some 32, none, .p .len, [.t 31]⟩,
    ⟨2, some 33, none, .p .mov, [.t 1]⟩,
    ⟨3, some 34, none, .p .len, [.t 33]⟩,
    ⟨4, some 35, none, .p (.bin .add), [.t 32, .t 34]⟩,
    ⟨5, some 36, none, .p (.bin .gtr), [.t 35, .c (.int .i64 1048576)]⟩])
   (.cond (.t 36) (.seq (.reg 0 [⟨0, some 4, none, .p .mov, [.c (.bool true)]⟩])
   (.ret))
   (.skip)))
   (.seq (.reg 0 [⟨0, some 38, none, .p .mov, [.t 0]⟩,
    ⟨1, some 39, none, .e .call [] [], [.f 60, .t 38]⟩,
    ⟨2, some 37, none, .p .mov, [.t 39]⟩,
    ⟨3, some 40, none, .p (.extract 0), [.t 37]⟩,
    ⟨4, some 41, none, .p (.extract 1), [.t 37]⟩,
    ⟨5, some 6, none, .l (.alloc 6 [.int .i64 0, .nils]), []⟩,
    ⟨6, some 5, none, .p .mov, [.t 40]⟩,
    ⟨7, none, none, .l (.store 6 2), [.t 6, .t 41]⟩])
   (.seq (.reg 0 [⟨0, some 43, none, .p .mov, [.t 5]⟩,
    ⟨1, some 44, none, .l (.load 6 true 2), [.t 6]⟩,
    ⟨2, some 45, none, .e .call [] [], [.f 56, .t 43, .t 44]⟩,
    ⟨3, some 42, none, .p .mov, [.t 45]⟩,
    ⟨4, some 46, none, .p (.extract 0), [.t 42]⟩,
    ⟨5, some 47, none, .p (.extract 1), [.t 42]⟩,
    ⟨6, some 7, none, .p .mov, [.t 46]⟩,
    ⟨7, some 8, none, .p .mov, [.t 47]⟩])
   (.seq (.reg 0 [⟨0, some 49, none, .p .mov, [.t 5]⟩,
    ⟨1, some 50, none, .l (.load 6 true 2), [.t 6]⟩,
    ⟨2, some 51, none, .e .call [] [], [.f 55, .t 49, .t 50]⟩,
    ⟨3, some 48, none, .p .mov, [.t 51]⟩,
    ⟨4, some 52, none, .p (.extract 0), [.t 48]⟩,
    ⟨5, some 53, none, .p (.extract 1), [.t 48]⟩,
    ⟨6, some 9, none, .p .mov, [.t 52]⟩,
    ⟨7, some 10, none, .p .mov, [.t 53]⟩])
   (.seq (.seq (.reg 0 [⟨0, some 54, none, .p .mov, [.t 8]⟩,
    ⟨1, some 55, none, .p .mov, [.t 10]⟩,
    ⟨2, some 56, none, .p (.eqB true), [.t 54, .t 55]⟩,
    ⟨3, some 57, none, .p .mov, [.t 56]⟩,
    ⟨4, some 58, some (57, false), .p .mov, [.t 7]⟩,
    ⟨5, some 59, some (57, false), .p .mov, [.t 9]⟩,
    ⟨6, some 60, some (57, false), .e .call [] [], [.f 61, .t 58, .t 59]⟩,
    ⟨7, some 61, some (57, false), .p (.un .not), [.t 60]⟩,
    ⟨8, some 62, none, .p .pick, [.t 57, .c (.bool true), .t 61]⟩,
    ⟨9, some 63, none, .p .mov, [.t 62]⟩,
    ⟨10, some 64, some (63, false), .p .mov, [.t 5]⟩,
    ⟨11, some 65, some (63, false), .e .call [] [], [.f 62, .t 64]⟩,
    ⟨12, some 66, some (63, false), .p .mov, [.t 5]⟩,
    ⟨13, some 67, some (63, false), .e .call [] [], [.f 63, .t 66]⟩,
    ⟨14, some 68, some (63, false), .p (.eqB true), [.t 65, .t 67]⟩,
    ⟨15, some 69, none, .p .pick, [.t 63, .c (.bool true), .t 68]⟩])
   (.cond (.t 69) (.seq (.reg 0 [⟨0, some 4, none, .p .mov, [.c (.bool false)]⟩])
   (.ret))
   (.skip)))
   (.seq (.seq (.reg 0 [⟨0, some 70, none, .p .mov, [.t 8]⟩])
   (.cond (.t 70) (.seq (.reg 0 [⟨0, some 72, none, .p .mov, [.t 7]⟩,
    ⟨1, some 73, none, .p (.faddr 0), [.t 6]⟩,
    ⟨2, some 74, none, .l (.load 6 false 1), [.t 73]⟩,
    ⟨3, some 75, none, .e .call [] [], [.f 64, .t 72, .t 74]⟩,
    ⟨4, some 71, none, .p .mov, [.t 75]⟩,
    ⟨5, some 76, none, .p (.extract 0), [.t 71]⟩,
    ⟨6, some 77, none, .p (.extract 1), [.t 71]⟩,
    ⟨7, some 11, none, .l (.alloc 11 [.int .i64 0, .nils]), []⟩,
    ⟨8, none, none, .l (.store 11 2), [.t 11, .t 76]⟩,
    ⟨9, some 12, none, .p .mov, [.t 77]⟩])
   (.seq (.reg 0 [⟨0, some 79, none, .p .mov, [.t 7]⟩,
    ⟨1, some 80, none, .p (.faddr 0), [.t 6]⟩,
    ⟨2, some 81, none, .l (.load 6 false 1), [.t 80]⟩,
    ⟨3, some 82, none, .e .call [] [], [.f 44, .t 79, .t 81]⟩,
    ⟨4, some 78, none, .p .mov, [.t 82]⟩,
    ⟨5, some 83, none, .p (.extract 0), [.t 78]⟩,
    ⟨6, some 84, none, .p (.extract 1), [.t 78]⟩,
    ⟨7, some 13, none, .p .mov, [.t 83]⟩,
    ⟨8, some 14, none, .p .mov, [.t 84]⟩])
   (.seq (.reg 0 [⟨0, some 86, none, .p .mov, [.t 13]⟩,
    ⟨1, some 87, none, .p (.faddr 0), [.t 6]⟩,
    ⟨2, some 88, none, .l (.load 6 false 1), [.t 87]⟩,
    ⟨3, some 89, none, .e .call [] [], [.f 64, .t 86, .t 88]⟩,
    ⟨4, some 85, none, .p .mov, [.t 89]⟩,
    ⟨5, some 90, none, .p (.extract 0), [.t 85]⟩,
    ⟨6, some 91, none, .p (.extract 1), [.t 85]⟩,
    ⟨7, some 15, none, .l (.alloc 15 [.int .i64 0, .nils]), []⟩,
    ⟨8, none, none, .l (.store 15 2), [.t 15, .t 90]⟩,
    ⟨9, some 16, none, .p .mov, [.t 91]⟩])
   (.seq (.seq (.reg 0 [⟨0, some 92, none, .p .mov, [.t 7]⟩,
    ⟨1, some 93, none, .e .call [] [], [.f 62, .t 92]⟩,
    ⟨2, some 94, none, .p (.un .not), [.t 93]⟩,
    ⟨3, some 95, none, .p .mov, [.t 94]⟩,
    ⟨4, some 96, some (95, false), .p .mov, [.t 12]⟩,
    ⟨5, some 97, some (95, false), .p (.un .not), [.t 96]⟩,
    ⟨6, some 98, none, .p .pick, [.t 95, .c (.bool true), .t 97]⟩,
    ⟨7, some 99, none, .p .mov, [.t 98]⟩,
    ⟨8, some 100, some (99, false), .l (.load 11 true 2), [.t 11]⟩,
    ⟨9, some 101, some (99, false), .l (.load 6 true 2), [.t 6]⟩,
    ⟨10, some 102, some (99, false), .e .call [] [], [.f 65, .t 100, .t 101]⟩,
    ⟨11, some 103, some (99, false), .p (.un .not), [.t 102]⟩,
    ⟨12, some 104, none, .p .pick, [.t 99, .c (.bool true), .t 103]⟩,
    ⟨13, some 105, none, .p .mov, [.t 104]⟩,
    ⟨14, some 106, some (105, false), .p .mov, [.t 14]⟩,
    ⟨15, some 107, some (105, false), .p (.un .not), [.t 106]⟩,
    ⟨16, some 108, none, .p .pick, [.t 105, .c (.bool true), .t 107]⟩,
    ⟨17, some 109, none, .p .mov, [.t 108]⟩,
    ⟨18, some 110, some (109, false), .p .mov, [.t 16]⟩,
    ⟨19, some 111, none, .p .pick, [.t 109, .c (.bool true), .t 110]⟩])
   (.cond (.t 111) (.seq (.reg 0 [⟨0, some 4, none, .p .mov, [.c (.bool false)]⟩])
   (.ret))
   (.skip)))
   (.seq (.reg 0 [⟨0, some 112, none, .p .mov, [.t 5]⟩,
    ⟨1, some 113, none, .p .len, [.t 112]⟩,
    ⟨2, some 114, none, .p .mov, [.c (.int .i64 0)]⟩])
   (.block 0 (.loop g59_0)))))))
   (.skip)))
   (.seq (.reg 0 [⟨0, some 142, none, .p .mov, [.t 1]⟩,
    ⟨1, some 143, none, .e .call [] [], [.f 66, .t 142]⟩,
    ⟨2, some 141, none, .p .mov, [.t 143]⟩,
    ⟨3, some 144, none, .p (.extract 0), [.t 141]⟩,
    ⟨4, some 145, none, .p (.extract 1), [.t 141]⟩,
    ⟨5, some 21, none, .p .mov, [.t 144]⟩,
    ⟨6, some 22, none, .p .mov, [.t 145]⟩])
   (.seq (.reg 0 [⟨0, some 147, none, .p .mov, [.t 21]⟩,
    ⟨1, some 148, none, .p .mov, [.t 22]⟩,
    ⟨2, some 149, none, .e .call [] [], [.f 44, .t 147, .t 148]⟩,
    ⟨3, some 146, none, .p .mov, [.t 149]⟩,
    ⟨4, some 150, none, .p (.extract 0), [.t 146]⟩,
    ⟨5, some 151, none, .p (.extract 1), [.t 146]⟩,
    ⟨6, some 23, none, .p .mov, [.t 150]⟩,
    ⟨7, some 24, none, .p .mov, [.t 151]⟩])
   (.seq (.reg 0 [⟨0, some 153, none, .p .mov, [.t 21]⟩,
    ⟨1, some 154, none, .p .mov, [.t 22]⟩,
    ⟨2, some 155, none, .e .call [] [], [.f 43, .t 153, .t 154]⟩,
    ⟨3, some 152, none, .p .mov, [.t 155]⟩,
    ⟨4, some 156, none, .p (.extract 0), [.t 152]⟩,
    ⟨5, some 157, none, .p (.extract 1), [.t 152]⟩,
    ⟨6, some 25, none, .p .mov, [.t 156]⟩,
    ⟨7, some 26, none, .p .mov, [.t 157]⟩])
   (.seq (.reg 0 [⟨0, some 159, none, .p .mov, [.t 21]⟩,
    ⟨1, some 160, none, .p .mov, [.t 22]⟩,
    ⟨2, some 161, none, .e .call [] [], [.f 64, .t 159, .t 160]⟩,
    ⟨3, some 158, none, .p .mov, [.t 161]⟩,
    ⟨4, some 162, none, .p (.extract 0), [.t 158]⟩,
    ⟨5, some 163, none, .p (.extract 1), [.t 158]⟩,
    ⟨6, some 27, none, .l (.alloc 27 [.int .i64 0, .nils]), []⟩,
    ⟨7, none, none, .l (.store 27 2), [.t 27, .t 162]⟩,
    ⟨8, some 28, none, .p .mov, [.t 163]⟩])
   (.seq (.reg 0 [⟨0, some 165, none, .p .mov, [.t 21]⟩,
    ⟨1, some 166, none, .p .mov, [.t 22]⟩,
    ⟨2, some 167, none, .e .call [] [], [.f 67, .t 165, .t 166]⟩,
    ⟨3, some 164, none, .p .mov, [.t 167]⟩,
    ⟨4, some 168, none, .p (.extract 0), [.t 164]⟩,
    ⟨5, some 169, none, .p (.extract 1), [.t 164]⟩,
    ⟨6, some 29, none, .l (.alloc 29 [.int .i64 0, .nils]), []⟩,
    ⟨7, none, none, .l (.store 29 2), [.t 29, .t 168]⟩,
    ⟨8, some 30, none, .p .mov, [.t 169]⟩])
   (.seq (.reg 0 [⟨0, some 170, none, .p .mov, [.t 24]⟩,
    ⟨1, some 171, none, .p .mov, [.t 26]⟩,
    ⟨2, some 172, none, .p (.eqB false), [.t 170, .t 171]⟩,
    ⟨3, some 173, none, .p .mov, [.t 172]⟩,
    ⟨4, some 174, some (173, true), .p .mov, [.t 23]⟩,
    ⟨5, some 175, some (173, true), .p .mov, [.t 25]⟩,
    ⟨6, some 176, some (173, true), .e .call [] [], [.f 61, .t 174, .t 175]⟩,
    ⟨7, some 177, none, .p .pick, [.t 173, .t 176, .c (.bool false)]⟩,
    ⟨8, some 178, none, .p .mov, [.t 177]⟩,
    ⟨9, some 179, some (178, true), .p .mov, [.t 28]⟩,
    ⟨10, some 180, some (178, true), .p .mov, [.t 30]⟩,
    ⟨11, some 181, some (178, true), .p (.eqB false), [.t 179, .t 180]⟩,
    ⟨12, some 182, none, .p .pick, [.t 178, .t 181, .c (.bool false)]⟩,
    ⟨13, some 183, none, .p .mov, [.t 182]⟩,
    ⟨14, some 184, some (183, true), .l (.load 27 true 2), [.t 27]⟩,
    ⟨15, some 185, some (183, true), .l (.load 29 true 2), [.t 29]⟩,
    ⟨16, some 186, some (183, true), .e .call [] [], [.f 65, .t 184, .t 185]⟩,
    ⟨17, some 187, none, .p .pick, [.t 183, .t 186, .c (.bool false)]⟩,
    ⟨18, some 188, none, .p .mov, [.t 187]⟩,
    ⟨19, some 189, some (188, true), .p .mov, [.t 24]⟩,
    ⟨20, some 190, some (188, true), .p .mov, [.t 28]⟩,
    ⟨21, some 191, some (188, true), .p (.eqB false), [.t 189, .t 190]⟩,
    ⟨22, some 192, none, .p .pick, [.t 188, .t 191, .c (.bool false)]⟩,
    ⟨23, some 4, none, .p .mov, [.t 192]⟩])
   (.ret))))))))))))),
  [.tmp 4]⟩
/- loop.example/g00641/laws.sameTable -/
def g61_0 : GL.Code := .seq (.reg 0 [⟨0, some 14, none, .p (.bin .lss), [.t 13, .t 12]⟩])
   (.seq (.cond (.t 14) (.skip)
   (.exit 0))
   (.seq (.block 1 (.seq (.reg 0 [⟨0, some 15, none, .p .mov, [.t 13]⟩,
    ⟨1, some 5, none, .p .mov, [.t 15]⟩])
   (.seq (.reg 0 [⟨0, some 16, none, .p .mov, [.t 0]⟩,
    ⟨1, some 17, none, .p .mov, [.t 5]⟩,
    ⟨2, some 18, none, .p (.idx 2), [.t 16, .t 17]⟩,
    ⟨3, some 19, none, .r (.load true 2) false, [.t 18]⟩,
    ⟨4, some 20, none, .p .mov, [.t 1]⟩,
    ⟨5, some 21, none, .p .mov, [.t 5]⟩,
    ⟨6, some 22, none, .p (.idx 2), [.t 20, .t 21]⟩,
    ⟨7, some 23, none, .r (.load true 2) false, [.t 22]⟩,
    ⟨8, some 24, none, .e .call [] [], [.f 65, .t 19, .t 23]⟩,
    ⟨9, some 25, none, .p (.un .not), [.t 24]⟩])
   (.cond (.t 25) (.seq (.reg 0 [⟨0, some 4, none, .p .mov, [.c (.bool false)]⟩])
   (.ret))
   (.skip)))))
   (.reg 0 [⟨0, some 26, none, .p (.bin .add), [.t 13, .c (.int .i64 1)]⟩,
    ⟨1, some 13, none, .p .mov, [.t 26]⟩])))
def g61 : GL.Fn := ⟨.seq (.reg 0 [⟨0, some 4, none, .p .mov, [.c (.bool false)]⟩])
   (.seq (.seq (.reg 0 [⟨0, some 6, none, .p .mov, [.t 0]⟩,
    ⟨1, some 7, none, .p .len, [.t 6]⟩,
    ⟨2, some 8, none, .p .mov, [.t 1]⟩,
    ⟨3, some 9, none, .p .len, [.t 8]⟩,
    ⟨4, some 10, none, .p (.bin .neq), [.t 7, .t 9]⟩])
   (.cond (.t 10) (.seq (.reg 0 [⟨0, some 4, none, .p .mov, [.c (.bool false)]⟩])
   (.ret))
   (.skip)))
   (.seq (.seq (.reg 0 [⟨0, some 11, none, .p .mov, [.t 0]⟩,
    ⟨1, some 12, none, .p .len, [.t 11]⟩,
    ⟨2, some 13, none, .p .mov, [.c (.int .i64 0)]⟩])
   (.block 0 (.loop g61_0)))
   (.seq (.reg 0 [⟨0, some 4, none, .p .mov, [.c (.bool true)]⟩])
   (.ret)))),
  [.tmp 4]⟩
/- loop.example/g00641/impl.GoodTable -/
def g62_0 : GL.Code := .seq (.reg 0 [⟨0, some 8, none, .p (.bin .lss), [.t 7, .t 6]⟩])
   (.seq (.cond (.t 8) (.skip)
   (.exit 0))
   (.seq (.block 1 (.seq (.reg 0 [⟨0, some 9, none, .p .mov, [.t 7]⟩,
    ⟨1, some 10, none, .p (.idx 2), [.t 5, .t 7]⟩,
    ⟨2, some 11, none, .r (.load true 2) false, [.t 10]⟩,
    ⟨3, some 4, none, .l (.alloc 4 [.int .i64 0, .nils]), []⟩,
    ⟨4, some 3, none, .p .mov, [.t 9]⟩,
    ⟨5, none, none, .l (.store 4 2), [.t 4, .t 11]⟩])
   (.seq (.reg 0 [⟨0, some 12, none, .l (.load 4 true 2), [.t 4]⟩,
    ⟨1, some 13, none, .e .call [] [], [.f 122, .t 12]⟩,
    ⟨2, some 14, none, .p (.un .not), [.t 13]⟩,
    ⟨3, some 15, none, .p .mov, [.t 14]⟩,
    ⟨4, some 16, some (15, false), .p .mov, [.t 3]⟩,
    ⟨5, some 17, some (15, false), .p (.bin .gtr), [.t 16, .c (.int .i64 0)]⟩,
    ⟨6, some 18, some (15, false), .p .mov, [.t 17]⟩,
    ⟨7, some 19, some (18, true), .p .mov, [.t 0]⟩,
    ⟨8, some 20, some (18, true), .p .mov, [.t 3]⟩,
    ⟨9, some 21, some (18, true), .p (.bin .sub), [.t 20, .c (.int .i64 1)]⟩,
    ⟨10, some 22, some (18, true), .p (.idx 2), [.t 19, .t 21]⟩,
    ⟨11, some 23, some (18, true), .p (.faddr 0), [.t 22]⟩,
    ⟨12, some 24, some (18, true), .r (.load false 1) false, [.t 23]⟩,
    ⟨13, some 25, some (18, true), .p (.faddr 0), [.t 4]⟩,
    ⟨14, some 26, some (18, true), .l (.load 4 false 1), [.t 25]⟩,
    ⟨15, some 27, some (18, true), .p (.bin .geq), [.t 24, .t 26]⟩,
    ⟨16, some 28, some (15, false), .p .pick, [.t 18, .t 27, .c (.bool false)]⟩,
    ⟨17, some 29, none, .p .pick, [.t 15, .c (.bool true), .t 28]⟩])
   (.cond (.t 29) (.seq (.reg 0 [⟨0, some 2, none, .p .mov, [.c (.bool false)]⟩])
   (.ret))
   (.skip)))))
   (.reg 0 [⟨0, some 30, none, .p (.bin .add), [.t 7, .c (.int .i64 1)]⟩,
    ⟨1, some 7, none, .p .mov, [.t 30]⟩])))
def g62 : GL.Fn := ⟨.seq (.reg 0 [⟨0, some 2, none, .p .mov, [.c (.bool false)]⟩])
   (.seq (.seq (.reg 0 [⟨0, some 5, none, .p .mov, [.t 0]⟩,
    ⟨1, some 6, none, .p .len, [.t 5]⟩,
    ⟨2, some 7, none, .p .mov, [.c (.int .i64 0)]⟩])
   (.block 0 (.loop g62_0)))
   (.seq (.reg 0 [⟨0, some 31, none, .p .mov, [.t 0]⟩,
    ⟨1, some 32, none, .p .len, [.t 31]⟩,
    ⟨2, some 33, none, .p (.bin .leq), [.t 32, .c (.int .i64 20)]⟩,
    ⟨3, some 2, none, .p .mov, [.t 33]⟩])
   (.ret))),
  [.tmp 2]⟩
/- loop.example/g00641/spec.PutRow -/
def g55 : GL.Fn := ⟨.seq (.reg 0 [⟨0, some 3, none, .l (.box 3 2), [.t 1]⟩,
    ⟨1, some 4, none, .p .mov, [.c (.nils)]⟩,
    ⟨2, some 5, none, .p .mov, [.c (.bool false)]⟩])
   (.seq (.seq (.reg 0 [⟨0, some 6, none, .p .mov, [.t 0]⟩,
    ⟨1, some 7, none, .e .call [] [], [.f 63, .t 6]⟩,
    ⟨2, some 8, none, .p (.un .not), [.t 7]⟩,
    ⟨3, some 9, none, .p .mov, [.t 8]⟩,
    ⟨4, some 10, some (9, false), .l (.load 3 true 2), [.t 3]⟩,
    ⟨5, some 11, some (9, false), .e .call [] [], [.f 119, .t 10]⟩,
    ⟨6, some 12, some (9, false), .p (.un .not), [.t 11]⟩,
    ⟨7, some 13, none, .p .pick, [.t 9, .c (.bool true), .t 12]⟩])
   (.cond (.t 13) (.seq (.reg 0 [⟨0, some 4, none, .p .mov, [.c (.nils)]⟩,
    ⟨1, some 5, none, .p .mov, [.c (.bool false)]⟩])
   (.ret))
   (.skip)))
   (.seq (.reg 0 [⟨0, some 14, none, .p .mov, [.t 0]⟩,
    ⟨1, some 15, none, .l (.load 3 true 2), [.t 3]⟩,
    ⟨2, some 16, none, .e .call [] [], [.f 120, .t 14, .t 15]⟩,
    ⟨3, some 17, none, .e .call [] [], [.f 112, .t 16]⟩,
    ⟨4, some 18, none, .p (.extract 0), [.t 17]⟩,
    ⟨5, some 19, none, .p (.extract 1), [.t 17]⟩,
    ⟨6, some 4, none, .p .mov, [.t 18]⟩,
    ⟨7, some 5, none, .p .mov, [.t 19]⟩])
   (.ret))),
  [.tmp 4, .tmp 5]⟩
/- loop.example/g00641/impl.PutRow -/
def g56 : GL.Fn := ⟨.seq (.reg 0 [⟨0, some 3, none, .l (.box 3 2), [.t 1]⟩,
    ⟨1, some 4, none, .p .mov, [.c (.nils)]⟩,
    ⟨2, some 5, none, .p .mov, [.c (.bool false)]⟩])
   (.seq (.seq (.reg 0 [⟨0, some 6, none, .p .mov, [.t 0]⟩,
    ⟨1, some 7, none, .e .call [] [], [.f 62, .t 6]⟩,
    ⟨2, some 8, none, .p (.un .not), [.t 7]⟩,
    ⟨3, some 9, none, .p .mov, [.t 8]⟩,
    ⟨4, some 10, some (9, false), .l (.load 3 true 2), [.t 3]⟩,
    ⟨5, some 11, some (9, false), .e .call [] [], [.f 122, .t 10]⟩,
    ⟨6, some 12, some (9, false), .p (.un .not), [.t 11]⟩,
    ⟨7, some 13, none, .p .pick, [.t 9, .c (.bool true), .t 12]⟩])
   (.cond (.t 13) (.seq (.reg 0 [⟨0, some 4, none, .p .mov, [.c (.nils)]⟩,
    ⟨1, some 5, none, .p .mov, [.c (.bool false)]⟩])
   (.ret))
   (.skip)))
   (.seq (.reg 0 [⟨0, some 14, none, .p .mov, [.t 0]⟩,
    ⟨1, some 15, none, .l (.load 3 true 2), [.t 3]⟩,
    ⟨2, some 16, none, .e .call [] [], [.f 117, .t 14, .t 15]⟩,
    ⟨3, some 17, none, .p (.extract 0), [.t 16]⟩,
    ⟨4, some 18, none, .p (.extract 1), [.t 16]⟩,
    ⟨5, some 4, none, .p .mov, [.t 17]⟩,
    ⟨6, some 5, none, .p .mov, [.t 18]⟩])
   (.ret))),
  [.tmp 4, .tmp 5]⟩
/- loop.example/g00641/spec.DrawPutRow -/
def g60 : GL.Fn := ⟨.seq (.reg 0 [⟨0, some 2, none, .p .mov, [.c (.nils)]⟩,
    ⟨1, some 3, none, .l (.alloc 3 [.int .i64 0, .nils]), []⟩])
   (.seq (.reg 0 [⟨0, some 7, none, .p .mov, [.t 0]⟩,
    ⟨1, some 8, none, .p (.build [.nils, .int .i64 0, .int .u64 0] [(0, 1)]), [.t 7]⟩,
    ⟨2, some 9, none, .e (.new (.box 3)) [] [], [.t 8]⟩,
    ⟨3, some 4, none, .p .mov, [.t 9]⟩])
   (.seq (.reg 0 [⟨0, some 10, none, .p .mov, [.t 4]⟩,
    ⟨1, some 11, none, .e .call [] [], [.f 124, .t 10]⟩,
    ⟨2, some 5, none, .p .mov, [.t 11]⟩])
   (.seq (.reg 0 [⟨0, some 12, none, .p .mov, [.t 4]⟩,
    ⟨1, some 13, none, .e .call [] [], [.f 125, .t 12]⟩,
    ⟨2, some 6, none, .l (.alloc 6 [.int .i64 0, .nils]), []⟩,
    ⟨3, none, none, .l (.store 6 2), [.t 6, .t 13]⟩])
   (.seq (.seq (.reg 0 [⟨0, some 14, none, .p .mov, [.t 4]⟩,
    ⟨1, some 15, none, .e .call [] [], [.f 92, .t 14, .c (.int .i64 8)]⟩])
   (.cond (.t 15) (.reg 0 [⟨0, some 16, none, .p (.faddr 0), [.t 6]⟩,
    ⟨1, none, none, .l (.store 6 1), [.t 16, .c (.int .i64 30)]⟩])
   (.skip)))
   (.seq (.reg 0 [⟨0, some 17, none, .p .mov, [.t 5]⟩,
    ⟨1, some 18, none, .l (.load 6 true 2), [.t 6]⟩,
    ⟨2, some 2, none, .p .mov, [.t 17]⟩,
    ⟨3, none, none, .l (.store 3 2), [.t 3, .t 18]⟩])
   (.ret)))))),
  [.tmp 2, .cellL 3 3 true 2]⟩
/- loop.example/g00641/spec.GoodTable -/
def g63_0 : GL.Code := .seq (.reg 0 [⟨0, some 8, none, .p (.bin .lss), [.t 7, .t 6]⟩])
   (.seq (.cond (.t 8) (.skip)
   (.exit 0))
   (.seq (.block 1 (.seq (.reg 0 [⟨0, some 9, none, .p .mov, [.t 7]⟩,
    ⟨1, some 10, none, .p (.idx 2), [.t 5, .t 7]⟩,
    ⟨2, some 11, none, .r (.load true 2) false, [.t 10]⟩,
    ⟨3, some 4, none, .l (.alloc 4 [.int .i64 0, .nils]), []⟩,
    ⟨4, some 3, none, .p .mov, [.t 9]⟩,
    ⟨5, none, none, .l (.store 4 2), [.t 4, .t 11]⟩])
   (.seq (.reg 0 [⟨0, some 12, none, .l (.load 4 true 2), [.t 4]⟩,
    ⟨1, some 13, none, .e .call [] [], [.f 119, .t 12]⟩,
    ⟨2, some 14, none, .p (.un .not), [.t 13]⟩,
    ⟨3, some 15, none, .p .mov, [.t 14]⟩,
    ⟨4, some 16, some (15, false), .p .mov, [.t 3]⟩,
    ⟨5, some 17, some (15, false), .p (.bin .gtr), [.t 16, .c (.int .i64 0)]⟩,
    ⟨6, some 18, some (15, false), .p .mov, [.t 17]⟩,
    ⟨7, some 19, some (18, true), .p .mov, [.t 0]⟩,
    ⟨8, some 20, some (18, true), .p .mov, [.t 3]⟩,
    ⟨9, some 21, some (18, true), .p (.bin .sub), [.t 20, .c (.int .i64 1)]⟩,
    ⟨10, some 22, some (18, true), .p (.idx 2), [.t 19, .t 21]⟩,
    ⟨11, some 23, some (18, true), .p (.faddr 0), [.t 22]⟩,
    ⟨12, some 24, some (18, true), .r (.load false 1) false, [.t 23]⟩,
    ⟨13, some 25, some (18, true), .p (.faddr 0), [.t 4]⟩,
    ⟨14, some 26, some (18, true), .l (.load 4 false 1), [.t 25]⟩,
    ⟨15, some 27, some (18, true), .p (.bin .geq), [.t 24, .t 26]⟩,
    ⟨16, some 28, some (15, false), .p .pick, [.t 18, .t 27, .c (.bool false)]⟩,
    ⟨17, some 29, none, .p .pick, [.t 15, .c (.bool true), .t 28]⟩])
   (.cond (.t 29) (.seq (.reg 0 [⟨0, some 2, none, .p .mov, [.c (.bool false)]⟩])
   (.ret))
   (.skip)))))
   (.reg 0 [⟨0, some 30, none, .p (.bin .add), [.t 7, .c (.int .i64 1)]⟩,
    ⟨1, some 7, none, .p .mov, [.t 30]⟩])))
def g63 : GL.Fn := ⟨.seq (.reg 0 [⟨0, some 2, none, .p .mov, [.c (.bool false)]⟩])
   (.seq (.seq (.reg 0 [⟨0, some 5, none, .p .mov, [.t 0]⟩,
    ⟨1, some 6, none, .p .len, [.t 5]⟩,
    ⟨2, some 7, none, .p .mov, [.c (.int .i64 0)]⟩])
   (.block 0 (.loop g63_0)))
   (.seq (.reg 0 [⟨0, some 31, none, .p .mov, [.t 0]⟩,
    ⟨1, some 32, none, .p .len, [.t 31]⟩,
    ⟨2, some 33, none, .p (.bin .leq), [.t 32, .c (.int .i64 20)]⟩,
    ⟨3, some 2, none, .p .mov, [.t 33]⟩])
   (.ret))),
  [.tmp 2]⟩
/- loop.example/g00641/impl.FindRow -/
def g64 : GL.Fn := ⟨.seq (.reg 0 [⟨0, some 4, none, .l (.alloc 4 [.int .i64 0, .nils]), []⟩,
    ⟨1, some 5, none, .p .mov, [.c (.bool false)]⟩])
   (.seq (.seq (.reg 0 [⟨0, some 8, none, .p .mov, [.t 0]⟩,
    ⟨1, some 9, none, .e .call [] [], [.f 62, .t 8]⟩,
    ⟨2, some 10, none, .p (.un .not), [.t 9]⟩,
    ⟨3, some 11, none, .p .mov, [.t 10]⟩,
    ⟨4, some 12, some (11, false), .p .mov, [.t 1]⟩,
    ⟨5, some 13, some (11, false), .e .call [] [], [.f 126, .t 12]⟩,
    ⟨6, some 14, some (11, false), .p (.un .not), [.t 13]⟩,
    ⟨7, some 15, none, .p .pick, [.t 11, .c (.bool true), .t 14]⟩])
   (.cond (.t 15) (.seq (.reg 0 [⟨0, some 16, none, .p (.build [.int .i64 0, .nils] []), []⟩,
    ⟨1, none, none, .l (.store 4 2), [.t 4, .t 16]⟩,
    ⟨2, some 5, none, .p .mov, [.c (.bool false)]⟩])
   (.ret))
   (.skip)))
   (.seq (.reg 0 [⟨0, some 18, none, .p .mov, [.t 0]⟩,
    ⟨1, some 19, none, .p .mov, [.t 1]⟩,
    ⟨2, some 20, none, .e .call [] [], [.f 127, .t 18, .t 19]⟩,
    ⟨3, some 17, none, .p .mov, [.t 20]⟩,
    ⟨4, some 21, none, .p (.extract 0), [.t 17]⟩,
    ⟨5, some 22, none, .p (.extract 1), [.t 17]⟩,
    ⟨6, some 6, none, .p .mov, [.t 21]⟩,
    ⟨7, some 7, none, .p .mov, [.t 22]⟩])
   (.seq (.seq (.reg 0 [⟨0, some 23, none, .p .mov, [.t 7]⟩,
    ⟨1, some 24, none, .p (.un .not), [.t 23]⟩])
   (.cond (.t 24) (.seq (.reg 0 [⟨0, some 25, none, .p (.build [.int .i64 0, .nils] []), []⟩,
    ⟨1, none, none, .l (.store 4 2), [.t 4, .t 25]⟩,
    ⟨2, some 5, none, .p .mov, [.c (.bool false)]⟩])
   (.ret))
   (.skip)))
   (.seq (.reg 0 [⟨0, some 26, none, .p .mov, [.t 0]⟩,
    ⟨1, some 27, none, .p .mov, [.t 6]⟩,
    ⟨2, some 28, none, .p (.idx 2), [.t 26, .t 27]⟩,
    ⟨3, some 29, none, .r (.load true 2) false, [.t 28]⟩,
    ⟨4, some 30, none, .e .call [] [], [.f 128, .t 29]⟩,
    ⟨5, none, none, .l (.store 4 2), [.t 4, .t 30]⟩,
    ⟨6, some 5, none, .p .mov, [.c (.bool true)]⟩])
   (.ret))))),
  [.cellL 4 4 true 2, .tmp 5]⟩
/- loop.example/g00641/impl.DropRow -/
def g44 : GL.Fn := ⟨.seq (.reg 0 [⟨0, some 4, none, .p .mov, [.c (.nils)]⟩,
    ⟨1, some 5, none, .p .mov, [.c (.bool false)]⟩])
   (.seq (.seq (.reg 0 [⟨0, some 9, none, .p .mov, [.t 0]⟩,
    ⟨1, some 10, none, .p .mov, [.t 1]⟩,
    ⟨2, some 11, none, .e .call [] [], [.f 64, .t 9, .t 10]⟩,
    ⟨3, some 8, none, .p .mov, [.t 11]⟩,
    ⟨4, some 12, none, .p (.extract 0), [.t 8]⟩,
    ⟨5, some 13, none, .p (.extract 1), [.t 8]⟩,
    ⟨6, some 6, none, .l (.alloc 6 [.int .i64 0, .nils]), []⟩,
    ⟨7, none, none, .l (.store 6 2), [.t 6, .t 12]⟩,
    ⟨8, some 7, none, .p .mov, [.t 13]⟩])
   (.seq (.reg 0 [⟨0, some 14, none, .p .mov, [.t 7]⟩,
    ⟨1, some 15, none, .p (.un .not), [.t 14]⟩])
   (.cond (.t 15) (.seq (.reg 0 [⟨0, some 4, none, .p .mov, [.c (.nils)]⟩,
    ⟨1, some 5, none, .p .mov, [.c (.bool false)]⟩])
   (.ret))
   (.skip))))
   (.seq (.reg 0 [⟨0, some 16, none, .p .mov, [.t 0]⟩,
    ⟨1, some 17, none, .p .mov, [.t 1]⟩,
    ⟨2, some 18, none, .e .call [] [], [.f 113, .t 16, .t 17]⟩,
    ⟨3, some 4, none, .p .mov, [.t 18]⟩,
    ⟨4, some 5, none, .p .mov, [.c (.bool true)]⟩])
   (.ret))),
  [.tmp 4, .tmp 5]⟩
/- loop.example/g00641/laws.sameRow -/
def g65_0 : GL.Code := .seq (.reg 0 [⟨0, some 24, none, .p (.bin .lss), [.t 23, .t 22]⟩])
   (.seq (.cond (.t 24) (.skip)
   (.exit 0))
   (.seq (.block 1 (.seq (.reg 0 [⟨0, some 25, none, .p .mov, [.t 23]⟩,
    ⟨1, some 5, none, .p .mov, [.t 25]⟩])
   (.seq (.reg 0 [⟨0, some 26, none, .p (.faddr 1), [.t 2]⟩,
    ⟨1, some 27, none, .l (.load 2 false 1), [.t 26]⟩,
    ⟨2, some 28, none, .p .mov, [.t 5]⟩,
    ⟨3, some 29, none, .p (.idx 2), [.t 27, .t 28]⟩,
    ⟨4, some 30, none, .r (.load true 2) false, [.t 29]⟩,
    ⟨5, some 31, none, .p (.faddr 1), [.t 3]⟩,
    ⟨6, some 32, none, .l (.load 3 false 1), [.t 31]⟩,
    ⟨7, some 33, none, .p .mov, [.t 5]⟩,
    ⟨8, some 34, none, .p (.idx 2), [.t 32, .t 33]⟩,
    ⟨9, some 35, none, .r (.load true 2) false, [.t 34]⟩,
    ⟨10, some 36, none, .p (.eqAgg true [none, some .i64]), [.t 30, .t 35]⟩])
   (.cond (.t 36) (.seq (.reg 0 [⟨0, some 4, none, .p .mov, [.c (.bool false)]⟩])
   (.ret))
   (.skip)))))
   (.reg 0 [⟨0, some 37, none, .p (.bin .add), [.t 23, .c (.int .i64 1)]⟩,
    ⟨1, some 23, none, .p .mov, [.t 37]⟩])))
def g65 : GL.Fn := ⟨.seq (.reg 0 [⟨0, some 2, none, .l (.box 2 2), [.t 0]⟩,
    ⟨1, some 3, none, .l (.box 3 2), [.t 1]⟩,
    ⟨2, some 4, none, .p .mov, [.c (.bool false)]⟩])
   (.seq (.seq (.reg 0 [⟨0, some 6, none, .p (.faddr 0), [.t 2]⟩,
    ⟨1, some 7, none, .l (.load 2 false 1), [.t 6]⟩,
    ⟨2, some 8, none, .p (.faddr 0), [.t 3]⟩,
    ⟨3, some 9, none, .l (.load 3 false 1), [.t 8]⟩,
    ⟨4, some 10, none, .p (.bin .neq), [.t 7, .t 9]⟩,
    ⟨5, some 11, none, .p .mov, [.t 10]⟩,
    ⟨6, some 12, some (11, false), .p (.faddr 1), [.t 2]⟩,
    ⟨7, some 13, some (11, false), .l (.load 2 false 1), [.t 12]⟩,
    ⟨8, some 14, some (11, false), .p .len, [.t 13]⟩,
    ⟨9, some 15, some (11, false), .p (.faddr 1), [.t 3]⟩,
    ⟨10, some 16, some (11, false), .l (.load 3 false 1), [.t 15]⟩,
    ⟨11, some 17, some (11, false), .p .len, [.t 16]⟩,
    ⟨12, some 18, some (11, false), .p (.bin .neq), [.t 14, .t 17]⟩,
    ⟨13, some 19, none, .p .pick, [.t 11, .c (.bool true), .t 18]⟩])
   (.cond (.t 19) (.seq (.reg 0 [⟨0, some 4, none, .p .mov, [.c (.bool false)]⟩])
   (.ret))
   (.skip)))
   (.seq (.seq (.reg 0 [⟨0, some 20, none, .p (.faddr 1), [.t 2]⟩,
    ⟨1, some 21, none, .l (.load 2 false 1), [.t 20]⟩,
    ⟨2, some 22, none, .p .len, [.t 21]⟩,
    ⟨3, some 23, none, .p .mov, [.c (.int .i64 0)]⟩])
   (.block 0 (.loop g65_0)))
   (.seq (.reg 0 [⟨0, some 4, none, .p .mov, [.c (.bool true)]⟩])
   (.ret)))),
  [.tmp 4]⟩
/- loop.example/g00641/spec.DrawDropRow -/
def g66 : GL.Fn := ⟨.seq (.reg 0 [⟨0, some 2, none, .p .mov, [.c (.nils)]⟩,
    ⟨1, some 3, none, .p .mov, [.c (.int .i64 0)]⟩])
   (.seq (.reg 0 [⟨0, some 4, none, .p .mov, [.t 0]⟩,
    ⟨1, some 5, none, .e .call [] [], [.f 129, .t 4]⟩,
    ⟨2, some 6, none, .p (.extract 0), [.t 5]⟩,
    ⟨3, some 7, none, .p (.extract 1), [.t 5]⟩,
    ⟨4, some 2, none, .p .mov, [.t 6]⟩,
    ⟨5, some 3, none, .p .mov, [.t 7]⟩])
   (.ret)),
  [.tmp 2, .tmp 3]⟩
/- loop.example/g00641/spec.DropRow -/
def g43 : GL.Fn := ⟨.seq (.reg 0 [⟨0, some 4, none, .p .mov, [.c (.nils)]⟩,
    ⟨1, some 5, none, .p .mov, [.c (.bool false)]⟩])
   (.seq (.seq (.reg 0 [⟨0, some 6, none, .p .mov, [.t 0]⟩,
    ⟨1, some 7, none, .e .call [] [], [.f 63, .t 6]⟩,
    ⟨2, some 8, none, .p (.un .not), [.t 7]⟩,
    ⟨3, some 9, none, .p .mov, [.t 8]⟩,
    ⟨4, some 10, some (9, false), .p .mov, [.t 0]⟩,
    ⟨5, some 11, some (9, false), .p .mov, [.t 1]⟩,
    ⟨6, some 12, some (9, false), .e .call [] [], [.f 110, .t 10, .t 11]⟩,
    ⟨7, some 13, some (9, false), .p (.bin .lss), [.t 12, .c (.int .i64 0)]⟩,
    ⟨8, some 14, none, .p .pick, [.t 9, .c (.bool true), .t 13]⟩])
   (.cond (.t 14) (.seq (.reg 0 [⟨0, some 4, none, .p .mov, [.c (.nils)]⟩,
    ⟨1, some 5, none, .p .mov, [.c (.bool false)]⟩])
   (.ret))
   (.skip)))
   (.seq (.reg 0 [⟨0, some 15, none, .p .mov, [.t 0]⟩,
    ⟨1, some 16, none, .p .mov, [.t 1]⟩,
    ⟨2, some 17, none, .e .call [] [], [.f 111, .t 15, .t 16]⟩,
    ⟨3, some 18, none, .e .call [] [], [.f 112, .t 17]⟩,
    ⟨4, some 19, none, .p (.extract 0), [.t 18]⟩,
    ⟨5, some 20, none, .p (.extract 1), [.t 18]⟩,
    ⟨6, some 4, none, .p .mov, [.t 19]⟩,
    ⟨7, some 5, none, .p .mov, [.t 20]⟩])
   (.ret))),
  [.tmp 4, .tmp 5]⟩
/- loop.example/g00641/spec.FindRow -/
def g67 : GL.Fn := ⟨.seq (.reg 0 [⟨0, some 4, none, .l (.alloc 4 [.int .i64 0, .nils]), []⟩,
    ⟨1, some 5, none, .p .mov, [.c (.bool false)]⟩])
   (.seq (.reg 0 [⟨0, some 7, none, .p .mov, [.t 0]⟩,
    ⟨1, some 8, none, .p .mov, [.t 1]⟩,
    ⟨2, some 9, none, .e .call [] [], [.f 110, .t 7, .t 8]⟩,
    ⟨3, some 6, none, .p .mov, [.t 9]⟩])
   (.seq (.seq (.reg 0 [⟨0, some 10, none, .p .mov, [.t 0]⟩,
    ⟨1, some 11, none, .e .call [] [], [.f 63, .t 10]⟩,
    ⟨2, some 12, none, .p (.un .not), [.t 11]⟩,
    ⟨3, some 13, none, .p .mov, [.t 12]⟩,
    ⟨4, some 14, some (13, false), .p .mov, [.t 6]⟩,
    ⟨5, some 15, some (13, false), .p (.bin .lss), [.t 14, .c (.int .i64 0)]⟩,
    ⟨6, some 16, none, .p .pick, [.t 13, .c (.bool true), .t 15]⟩])
   (.cond (.t 16) (.seq (.reg 0 [⟨0, some 17, none, .p (.build [.int .i64 0, .nils] []), []⟩,
    ⟨1, none, none, .l (.store 4 2), [.t 4, .t 17]⟩,
    ⟨2, some 5, none, .p .mov, [.c (.bool false)]⟩])
   (.ret))
   (.skip)))
   (.seq (.reg 0 [⟨0, some 18, none, .p .mov, [.t 0]⟩,
    ⟨1, some 19, none, .p .mov, [.t 6]⟩,
    ⟨2, some 20, none, .p (.idx 2), [.t 18, .t 19]⟩,
    ⟨3, some 21, none, .r (.load true 2) false, [.t 20]⟩,
    ⟨4, some 22, none, .e .call [] [], [.f 130, .t 21]⟩,
    ⟨5, none, none, .l (.store 4 2), [.t 4, .t 22]⟩,
    ⟨6, some 5, none, .p .mov, [.c (.bool true)]⟩])
   (.ret)))),
  [.cellL 4 4 true 2, .tmp 5]⟩
/- (*loop.example/g00641/spec.l1Cur).table -/
def g124_0 : GL.Code := .seq (.seq (.reg 0 [⟨0, some 13, none, .p .mov, [.t 5]⟩,
    ⟨1, some 14, none, .p .mov, [.t 4]⟩,
    ⟨2, some 15, none, .p (.bin .lss), [.t 13, .t 14]⟩])
   (.cond (.t 15) (.skip)
   (.exit 0)))
   (.seq (.block 1 (.seq (.reg 0 [⟨0, some 18, none, .p .mov, [.t 0]⟩,
    ⟨1, some 19, none, .e .call [] [], [.f 125, .t 18]⟩,
    ⟨2, some 6, none, .l (.alloc 6 [.int .i64 0, .nils]), []⟩,
    ⟨3, none, none, .l (.store 6 2), [.t 6, .t 19]⟩])
   (.seq (.seq (.reg 0 [⟨0, some 20, none, .p .mov, [.t 4]⟩,
    ⟨1, some 21, none, .p (.bin .eql), [.t 20, .c (.int .i64 20)]⟩])
   (.cond (.t 21) (.reg 0 [⟨0, some 22, none, .p .mov, [.t 5]⟩,
    ⟨1, some 23, none, .p (.faddr 0), [.t 6]⟩,
    ⟨2, none, none, .l (.store 6 1), [.t 23, .t 22]⟩])
   (.skip)))
   (.seq (.reg 0 [⟨0, some 25, none, .p .mov, [.t 3]⟩,
    ⟨1, some 26, none, .l (.load 6 true 2), [.t 6]⟩,
    ⟨2, some 27, none, .e .call [] [], [.f 55, .t 25, .t 26]⟩,
    ⟨3, some 24, none, .p .mov, [.t 27]⟩,
    ⟨4, some 28, none, .p (.extract 0), [.t 24]⟩,
    ⟨5, some 29, none, .p (.extract 1), [.t 24]⟩,
    ⟨6, some 7, none, .p .mov, [.t 28]⟩,
    ⟨7, some 8, none, .p .mov, [.t 29]⟩])
   (.seq (.reg 0 [⟨0, some 30, none, .p .mov, [.t 8]⟩])
   (.cond (.t 30) (.reg 0 [⟨0, some 31, none, .p .mov, [.t 7]⟩,
    ⟨1, some 3, none, .p .mov, [.t 31]⟩])
   (.skip)))))))
   (.reg 0 [⟨0, some 16, none, .p .mov, [.t 5]⟩,
    ⟨1, some 17, none, .p (.bin .add), [.t 16, .c (.int .i64 1)]⟩,
    ⟨2, some 5, none, .p .mov, [.t 17]⟩]))
def g124 : GL.Fn := ⟨.seq (.reg 0 [⟨0, some 2, none, .p .mov, [.c (.nils)]⟩])
   (.seq (.reg 0 [⟨0, some 3, none, .p .mov, [.c (.nils)]⟩])
   (.seq (.reg 0 [⟨0, some 9, none, .p .mov, [.t 0]⟩,
    ⟨1, some 10, none, .e .call [] [], [.f 91, .t 9, .c (.int .i64 7)]⟩,
    ⟨2, some 4, none, .p .mov, [.t 10]⟩])
   (.seq (.seq (.reg 0 [⟨0, some 11, none, .p .mov, [.t 0]⟩,
    ⟨1, some 12, none, .e .call [] [], [.f 92, .t 11, .c (.int .i64 20)]⟩])
   (.cond (.t 12) (.reg 0 [⟨0, some 4, none, .p .mov, [.c (.int .i64 20)]⟩])
   (.skip)))
   (.seq (.seq (.reg 0 [⟨0, some 5, none, .p .mov, [.c (.int .i64 0)]⟩])
   (.block 0 (.loop g124_0)))
   (.seq (.seq (.reg 0 [⟨0, some 32, none, .p .mov, [.t 3]⟩,
    ⟨1, some 33, none, .p .len, [.t 32]⟩,
    ⟨2, some 34, none, .p (.bin .gtr), [.t 33, .c (.int .i64 0)]⟩,
    ⟨3, some 35, none, .p .mov, [.t 34]⟩,
    ⟨4, some 36, some (35, true), .p .mov, [.t 0]⟩,
    ⟨5, some 37, some (35, true), .e .call [] [], [.f 92, .t 36, .c (.int .i64 30)]⟩,
    ⟨6, some 38, none, .p .pick, [.t 35, .t 37, .c (.bool false)]⟩])
   (.cond (.t 38) (.reg 0 [⟨0, some 39, none, .p .mov, [.t 3]⟩,
    ⟨1, some 40, none, .p .mov, [.t 3]⟩,
    ⟨2, some 41, none, .p .len, [.t 40]⟩,
    ⟨3, some 42, none, .p (.bin .sub), [.t 41, .c (.int .i64 1)]⟩,
    ⟨4, some 43, none, .p .mov, [.t 0]⟩,
    ⟨5, some 44, none, .e (.new (.lit 1)) [] [], [.c (.int .i64 0), .c (.int .i64 999), .c (.int .i64 1000)]⟩,
    ⟨6, some 45, none, .e .call [] [], [.f 93, .t 43, .t 44]⟩,
    ⟨7, some 46, none, .p (.idx 2), [.t 39, .t 42]⟩,
    ⟨8, some 47, none, .p (.faddr 0), [.t 46]⟩,
    ⟨9, none, none, .e (.store 1) [] [], [.t 47, .t 45]⟩])
   (.skip)))
   (.seq (.reg 0 [⟨0, some 48, none, .p .mov, [.t 3]⟩,
    ⟨1, some 2, none, .p .mov, [.t 48]⟩])
   (.ret))))))),
  [.tmp 2]⟩
/- (*loop.example/g00641/spec.l1Cur).pick -/
def g91 : GL.Fn := ⟨.seq (.reg 0 [⟨0, some 4, none, .p .mov, [.c (.int .i64 0)]⟩])
   (.seq (.seq (.reg 0 [⟨0, some 6, none, .p .mov, [.t 1]⟩,
    ⟨1, some 7, none, .p (.bin .leq), [.t 6, .c (.int .i64 1)]⟩])
   (.cond (.t 7) (.seq (.reg 0 [⟨0, some 4, none, .p .mov, [.c (.int .i64 0)]⟩])
   (.ret))
   (.skip)))
   (.seq (.reg 0 [⟨0, some 8, none, .p .mov, [.t 0]⟩,
    ⟨1, some 9, none, .e .call [] [], [.f 140, .t 8]⟩,
    ⟨2, some 5, none, .p .mov, [.t 9]⟩])
   (.seq (.seq (.reg 0 [⟨0, some 10, none, .p .mov, [.t 1]⟩,
    ⟨1, some 11, none, .p (.bin .gtr), [.t 10, .c (.int .i64 200)]⟩])
   (.cond (.t 11) (.reg 0 [⟨0, some 12, none, .p .mov, [.t 5]⟩,
    ⟨1, some 13, none, .p (.bin .mul), [.t 12, .c (.int .i64 256)]⟩,
    ⟨2, some 14, none, .p .mov, [.t 0]⟩,
    ⟨3, some 15, none, .e .call [] [], [.f 140, .t 14]⟩,
    ⟨4, some 16, none, .p (.bin .add), [.t 13, .t 15]⟩,
    ⟨5, some 5, none, .p .mov, [.t 16]⟩])
   (.skip)))
   (.seq (.reg 0 [⟨0, some 17, none, .p .mov, [.t 5]⟩,
    ⟨1, some 18, none, .p .mov, [.t 1]⟩,
    ⟨2, some 19, none, .p (.bin .rem), [.t 17, .t 18]⟩,
    ⟨3, some 4, none, .p .mov, [.t 19]⟩])
   (.ret))))),
  [.tmp 4]⟩
/- loop.example/g00641/impl.within -/
def g107 : GL.Fn := ⟨.seq (.reg 0 [⟨0, some 6, none, .p .mov, [.c (.bool false)]⟩])
   (.seq (.reg 0 [⟨0, some 7, none, .p .mov, [.t 0]⟩,
    ⟨1, some 8, none, .p .mov, [.t 1]⟩,
    ⟨2, some 9, none, .p (.bin .geq), [.t 7, .t 8]⟩,
    ⟨3, some 10, none, .p .mov, [.t 9]⟩,
    ⟨4, some 11, some (10, true), .p .mov, [.t 0]⟩,
    ⟨5, some 12, some (10, true), .p .mov, [.t 2]⟩,
    ⟨6, some 13, some (10, true), .p (.bin .leq), [.t 11, .t 12]⟩,
    ⟨7, some 14, none, .p .pick, [.t 10, .t 13, .c (.bool false)]⟩,
    ⟨8, some 6, none, .p .mov, [.t 14]⟩])
   (.ret)),
  [.tmp 6]⟩
/- slices.DeleteFunc[[]loop.example/g00641/impl.Row,loop.example/g00641/impl.Row] -/
def g133_0 : GL.Code := .seq (.seq (.reg 0 [⟨0, some 16, none, .p .mov, [.t 6]⟩,
    ⟨1, some 17, none, .p .mov, [.t 0]⟩,
    ⟨2, some 18, none, .p .len, [.t 17]⟩,
    ⟨3, some 19, none, .p (.bin .lss), [.t 16, .t 18]⟩])
   (.cond (.t 19) (.skip)
   (.exit 0)))
   (.seq (.block 1 (.seq (.reg 0 [⟨0, some 22, none, .p .mov, [.t 0]⟩,
    ⟨1, some 23, none, .p .mov, [.t 6]⟩,
    ⟨2, some 24, none, .p (.idx 2), [.t 22, .t 23]⟩,
    ⟨3, some 25, none, .r (.load true 2) false, [.t 24]⟩,
    ⟨4, some 7, none, .l (.alloc 7 [.int .i64 0, .nils]), []⟩,
    ⟨5, none, none, .l (.store 7 2), [.t 7, .t 25]⟩])
   (.seq (.reg 0 [⟨0, some 26, none, .p .mov, [.t 1]⟩,
    ⟨1, some 27, none, .l (.load 7 true 2), [.t 7]⟩,
    ⟨2, some 28, none, .e .call [] [], [.t 26, .t 27]⟩,
    ⟨3, some 29, none, .p (.un .not), [.t 28]⟩])
   (.cond (.t 29) (.seq (.reg 0 [⟨0, some 30, none, .p .mov, [.t 0]⟩,
    ⟨1, some 31, none, .p .mov, [.t 5]⟩,
    ⟨2, some 32, none, .l (.load 7 true 2), [.t 7]⟩,
    ⟨3, some 33, none, .p (.idx 2), [.t 30, .t 31]⟩,
    ⟨4, none, none, .e (.store 2) [] [], [.t 33, .t 32]⟩])
   (.reg 0 [⟨0, some 34, none, .p .mov, [.t 5]⟩,
    ⟨1, some 35, none, .p (.bin .add), [.t 34, .c (.int .i64 1)]⟩,
    ⟨2, some 5, none, .p .mov, [.t 35]⟩]))
   (.skip)))))
   (.reg 0 [⟨0, some 20, none, .p .mov, [.t 6]⟩,
    ⟨1, some 21, none, .p (.bin .add), [.t 20, .c (.int .i64 1)]⟩,
    ⟨2, some 6, none, .p .mov, [.t 21]⟩]))
def g133 : GL.Fn := ⟨.seq (.reg 0 [⟨0, some 4, none, .p .mov, [.c (.nils)]⟩])
   (.seq (.reg 0 [⟨0, some 8, none, .p .mov, [.t 0]⟩,
    ⟨1, some 9, none, .p .mov, [.t 1]⟩,
    ⟨2, some 10, none, .e .call [] [], [.f 150, .t 8, .t 9]⟩,
    ⟨3, some 5, none, .p .mov, [.t 10]⟩])
   (.seq (.seq (.reg 0 [⟨0, some 11, none, .p .mov, [.t 5]⟩,
    ⟨1, some 12, none, .p (.bin .eql), [.t 11, .c (.int .i64 (-1))]⟩])
   (.cond (.t 12) (.seq (.reg 0 [⟨0, some 13, none, .p .mov, [.t 0]⟩,
    ⟨1, some 4, none, .p .mov, [.t 13]⟩])
   (.ret))
   (.skip)))
   (.seq (.seq (.reg 0 [⟨0, some 14, none, .p .mov, [.t 5]⟩,
    ⟨1, some 15, none, .p (.bin .add), [.t 14, .c (.int .i64 1)]⟩,
    ⟨2, some 6, none, .p .mov, [.t 15]⟩])
   (.block 0 (.loop g133_0)))
   (.seq (.reg 0 [⟨0, some 36, none, .p .mov, [.t 0]⟩,
    ⟨1, some 37, none, .p .mov, [.t 5]⟩,
    ⟨2, some 38, none, .p (.slice 2 true false false), [.t 36, .t 37]⟩,
    ⟨3, none, none, .e (.clear 2 [.int .i64 0, .nils]) [] [], [.t 38]⟩])
   (.seq (.reg 0 [⟨0, some 39, none, .p .mov, [.t 0]⟩,
    ⟨1, some 40, none, .p .mov, [.t 5]⟩,
    ⟨2, some 41, none, .p (.slice 2 false true false), [.t 39, .t 40]⟩,
    ⟨3, some 4, none, .p .mov, [.t 41]⟩])
   (.ret)))))),
  [.tmp 4]⟩
/- loop.example/g00641/impl.isSmall -/
def g100 : GL.Fn := ⟨.seq (.reg 0 [⟨0, some 2, none, .p .mov, [.c (.bool false)]⟩])
   (.seq (.reg 0 [⟨0, some 3, none, .p .mov, [.t 0]⟩,
    ⟨1, some 4, none, .e .call [] [], [.f 107, .t 3, .c (.int .i64 (-1000)), .c (.int .i64 1000)]⟩,
    ⟨2, some 2, none, .p .mov, [.t 4]⟩])
   (.ret)),
  [.tmp 2]⟩
/- loop.example/g00641/spec.l1In -/
def g98 : GL.Fn := ⟨.seq (.reg 0 [⟨0, some 6, none, .p .mov, [.c (.bool false)]⟩])
   (.seq (.reg 0 [⟨0, some 7, none, .p .mov, [.t 0]⟩,
    ⟨1, some 8, none, .p .mov, [.t 1]⟩,
    ⟨2, some 9, none, .p (.bin .geq), [.t 7, .t 8]⟩,
    ⟨3, some 10, none, .p .mov, [.t 9]⟩,
    ⟨4, some 11, some (10, true), .p .mov, [.t 0]⟩,
    ⟨5, some 12, some (10, true), .p .mov, [.t 2]⟩,
    ⟨6, some 13, some (10, true), .p (.bin .leq), [.t 11, .t 12]⟩,
    ⟨7, some 14, none, .p .pick, [.t 10, .t 13, .c (.bool false)]⟩,
    ⟨8, some 6, none, .p .mov, [.t 14]⟩])
   (.ret)),
  [.tmp 6]⟩
/- loop.example/g00641/spec.GoodValue -/
def g26 : GL.Fn := ⟨.seq (.reg 0 [⟨0, some 1, none, .l (.box 1 2), [.t 0]⟩,
    ⟨1, some 2, none, .p .mov, [.c (.bool false)]⟩])
   (.seq (.reg 0 [⟨0, some 3, none, .p (.faddr 1), [.t 1]⟩,
    ⟨1, some 4, none, .l (.load 1 false 1), [.t 3]⟩,
    ⟨2, some 5, none, .e .call [] [], [.f 98, .t 4, .c (.int .i64 (-1000)), .c (.int .i64 1000)]⟩,
    ⟨3, some 6, none, .p .mov, [.t 5]⟩,
    ⟨4, some 7, some (6, true), .p (.faddr 0), [.t 1]⟩,
    ⟨5, some 8, some (6, true), .l (.load 1 false 1), [.t 7]⟩,
    ⟨6, some 9, some (6, true), .p (.un .not), [.t 8]⟩,
    ⟨7, some 10, some (6, true), .p .mov, [.t 9]⟩,
    ⟨8, some 11, some (10, false), .p (.faddr 1), [.t 1]⟩,
    ⟨9, some 12, some (10, false), .l (.load 1 false 1), [.t 11]⟩,
    ⟨10, some 13, some (10, false), .p (.bin .eql), [.t 12, .c (.int .i64 0)]⟩,
    ⟨11, some 14, some (6, true), .p .pick, [.t 10, .c (.bool true), .t 13]⟩,
    ⟨12, some 15, none, .p .pick, [.t 6, .t 14, .c (.bool false)]⟩,
    ⟨13, some 2, none, .p .mov, [.t 15]⟩])
   (.ret)),
  [.tmp 2]⟩
/- loop.example/g00641/impl.areValues -/
def g102_0 : GL.Code := .seq (.reg 0 [⟨0, some 8, none, .p (.bin .lss), [.t 7, .t 6]⟩])
   (.seq (.cond (.t 8) (.skip)
   (.exit 0))
   (.seq (.block 1 (.seq (.reg 0 [⟨0, some 9, none, .p (.idx 2), [.t 5, .t 7]⟩,
    ⟨1, some 10, none, .r (.load true 2) false, [.t 9]⟩,
    ⟨2, some 4, none, .l (.alloc 4 [.bool false, .int .i64 0]), []⟩,
    ⟨3, none, none, .l (.store 4 2), [.t 4, .t 10]⟩])
   (.seq (.reg 0 [⟨0, some 11, none, .l (.load 4 true 2), [.t 4]⟩,
    ⟨1, some 12, none, .e .call [] [], [.f 25, .t 11]⟩,
    ⟨2, some 13, none, .p (.un .not), [.t 12]⟩])
   (.cond (.t 13) (.seq (.reg 0 [⟨0, some 2, none, .p .mov, [.c (.bool false)]⟩])
   (.ret))
   (.skip)))))
   (.reg 0 [⟨0, some 14, none, .p (.bin .add), [.t 7, .c (.int .i64 1)]⟩,
    ⟨1, some 7, none, .p .mov, [.t 14]⟩])))
def g102 : GL.Fn := ⟨.seq (.reg 0 [⟨0, some 2, none, .p .mov, [.c (.bool false)]⟩])
   (.seq (.seq (.reg 0 [⟨0, some 5, none, .p .mov, [.t 0]⟩,
    ⟨1, some 6, none, .p .len, [.t 5]⟩,
    ⟨2, some 7, none, .p .mov, [.c (.int .i64 0)]⟩])
   (.block 0 (.loop g102_0)))
   (.seq (.reg 0 [⟨0, some 2, none, .p .mov, [.c (.bool true)]⟩])
   (.ret))),
  [.tmp 2]⟩
/- loop.example/g00641/impl.isRow -/
def g122 : GL.Fn := ⟨.seq (.reg 0 [⟨0, some 1, none, .l (.box 1 2), [.t 0]⟩,
    ⟨1, some 2, none, .p .mov, [.c (.bool false)]⟩])
   (.seq (.reg 0 [⟨0, some 3, none, .p (.faddr 0), [.t 1]⟩,
    ⟨1, some 4, none, .l (.load 1 false 1), [.t 3]⟩,
    ⟨2, some 5, none, .e .call [] [], [.f 126, .t 4]⟩,
    ⟨3, some 6, none, .p .mov, [.t 5]⟩,
    ⟨4, some 7, some (6, true), .p (.faddr 1), [.t 1]⟩,
    ⟨5, some 8, some (6, true), .l (.load 1 false 1), [.t 7]⟩,
    ⟨6, some 9, some (6, true), .p .len, [.t 8]⟩,
    ⟨7, some 10, some (6, true), .p (.bin .eql), [.t 9, .c (.int .i64 3)]⟩,
    ⟨8, some 11, none, .p .pick, [.t 6, .t 10, .c (.bool false)]⟩,
    ⟨9, some 12, none, .p .mov, [.t 11]⟩,
    ⟨10, some 13, some (12, true), .p (.faddr 1), [.t 1]⟩,
    ⟨11, some 14, some (12, true), .l (.load 1 false 1), [.t 13]⟩,
    ⟨12, some 15, some (12, true), .e .call [] [], [.f 102, .t 14]⟩,
    ⟨13, some 16, none, .p .pick, [.t 12, .t 15, .c (.bool false)]⟩,
    ⟨14, some 2, none, .p .mov, [.t 16]⟩])
   (.ret)),
  [.tmp 2]⟩
/- (*loop.example/g00641/spec.l1Cur).value -/
def g95 : GL.Fn := ⟨.seq (.reg 0 [⟨0, some 2, none, .l (.alloc 2 [.bool false, .int .i64 0]), []⟩])
   (.seq (.seq (.reg 0 [⟨0, some 3, none, .p .mov, [.t 0]⟩,
    ⟨1, some 4, none, .e .call [] [], [.f 92, .t 3, .c (.int .i64 4)]⟩])
   (.cond (.t 4) (.seq (.reg 0 [⟨0, some 5, none, .p (.build [.bool false, .int .i64 0] [(0, 1)]), [.c (.bool true)]⟩,
    ⟨1, none, none, .l (.store 2 2), [.t 2, .t 5]⟩])
   (.ret))
   (.skip)))
   (.seq (.seq (.reg 0 [⟨0, some 6, none, .p .mov, [.t 0]⟩,
    ⟨1, some 7, none, .e .call [] [], [.f 92, .t 6, .c (.int .i64 30)]⟩])
   (.cond (.t 7) (.seq (.reg 0 [⟨0, some 8, none, .p .mov, [.t 0]⟩,
    ⟨1, some 9, none, .e .call [] [], [.f 92, .t 8, .c (.int .i64 2)]⟩,
    ⟨2, some 10, none, .p .mov, [.t 0]⟩,
    ⟨3, some 11, none, .e (.new (.lit 1)) [] [], [.c (.int .i64 (-1001)), .c (.int .i64 (-1000)), .c (.int .i64 1000), .c (.int .i64 1001)]⟩,
    ⟨4, some 12, none, .e .call [] [], [.f 93, .t 10, .t 11]⟩,
    ⟨5, some 13, none, .p (.build [.bool false, .int .i64 0] [(0, 1), (1, 1)]), [.t 9, .t 12]⟩,
    ⟨6, none, none, .l (.store 2 2), [.t 2, .t 13]⟩])
   (.ret))
   (.skip)))
   (.seq (.reg 0 [⟨0, some 14, none, .p .mov, [.t 0]⟩,
    ⟨1, some 15, none, .e .call [] [], [.f 91, .t 14, .c (.int .i64 6)]⟩,
    ⟨2, some 16, none, .p (.bin .sub), [.t 15, .c (.int .i64 1)]⟩,
    ⟨3, some 17, none, .p (.build [.bool false, .int .i64 0] [(1, 1)]), [.t 16]⟩,
    ⟨4, none, none, .l (.store 2 2), [.t 2, .t 17]⟩])
   (.ret)))),
  [.cellL 2 2 true 2]⟩
/- loop.example/g00641/impl.GoodValue -/
def g25 : GL.Fn := ⟨.seq (.reg 0 [⟨0, some 1, none, .l (.box 1 2), [.t 0]⟩,
    ⟨1, some 2, none, .p .mov, [.c (.bool false)]⟩])
   (.seq (.reg 0 [⟨0, some 3, none, .p (.faddr 0), [.t 1]⟩,
    ⟨1, some 4, none, .l (.load 1 false 1), [.t 3]⟩,
    ⟨2, some 5, none, .p .mov, [.t 4]⟩,
    ⟨3, some 6, some (5, true), .p (.faddr 1), [.t 1]⟩,
    ⟨4, some 7, some (5, true), .l (.load 1 false 1), [.t 6]⟩,
    ⟨5, some 8, some (5, true), .p (.bin .eql), [.t 7, .c (.int .i64 0)]⟩,
    ⟨6, some 9, none, .p .pick, [.t 5, .t 8, .c (.bool false)]⟩,
    ⟨7, some 10, none, .p .mov, [.t 9]⟩,
    ⟨8, some 11, some (10, false), .p (.faddr 0), [.t 1]⟩,
    ⟨9, some 12, some (10, false), .l (.load 1 false 1), [.t 11]⟩,
    ⟨10, some 13, some (10, false), .p (.un .not), [.t 12]⟩,
    ⟨11, some 14, some (10, false), .p .mov, [.t 13]⟩,
    ⟨12, some 15, some (14, true), .p (.faddr 1), [.t 1]⟩,
    ⟨13, some 16, some (14, true), .l (.load 1 false 1), [.t 15]⟩,
    ⟨14, some 17, some (14, true), .e .call [] [], [.f 100, .t 16]⟩,
    ⟨15, some 18, some (10, false), .p .pick, [.t 14, .t 17, .c (.bool false)]⟩,
    ⟨16, some 19, none, .p .pick, [.t 10, .c (.bool true), .t 18]⟩,
    ⟨17, some 2, none, .p .mov, [.t 19]⟩])
   (.ret)),
  [.tmp 2]⟩
/- loop.example/g00641/spec.l2Row -/
def g119_0 : GL.Code := .seq (.reg 0 [⟨0, some 9, none, .p (.bin .lss), [.t 8, .t 7]⟩])
   (.seq (.cond (.t 9) (.skip)
   (.exit 0))
   (.seq (.block 1 (.seq (.reg 0 [⟨0, some 10, none, .p (.idx 2), [.t 6, .t 8]⟩,
    ⟨1, some 11, none, .r (.load true 2) false, [.t 10]⟩,
    ⟨2, some 4, none, .l (.alloc 4 [.bool false, .int .i64 0]), []⟩,
    ⟨3, none, none, .l (.store 4 2), [.t 4, .t 11]⟩])
   (.seq (.reg 0 [⟨0, some 12, none, .l (.load 4 true 2), [.t 4]⟩,
    ⟨1, some 13, none, .e .call [] [], [.f 26, .t 12]⟩,
    ⟨2, some 14, none, .p (.un .not), [.t 13]⟩])
   (.cond (.t 14) (.seq (.reg 0 [⟨0, some 2, none, .p .mov, [.c (.bool false)]⟩])
   (.ret))
   (.skip)))))
   (.reg 0 [⟨0, some 15, none, .p (.bin .add), [.t 8, .c (.int .i64 1)]⟩,
    ⟨1, some 8, none, .p .mov, [.t 15]⟩])))
def g119 : GL.Fn := ⟨.seq (.reg 0 [⟨0, some 1, none, .l (.box 1 2), [.t 0]⟩,
    ⟨1, some 2, none, .p .mov, [.c (.bool false)]⟩])
   (.seq (.seq (.reg 0 [⟨0, some 5, none, .p (.faddr 1), [.t 1]⟩,
    ⟨1, some 6, none, .l (.load 1 false 1), [.t 5]⟩,
    ⟨2, some 7, none, .p .len, [.t 6]⟩,
    ⟨3, some 8, none, .p .mov, [.c (.int .i64 0)]⟩])
   (.block 0 (.loop g119_0)))
   (.seq (.reg 0 [⟨0, some 16, none, .p (.faddr 0), [.t 1]⟩,
    ⟨1, some 17, none, .l (.load 1 false 1), [.t 16]⟩,
    ⟨2, some 18, none, .e .call [] [], [.f 98, .t 17, .c (.int .i64 0), .c (.int .i64 999)]⟩,
    ⟨3, some 19, none, .p .mov, [.t 18]⟩,
    ⟨4, some 20, some (19, true), .p (.faddr 1), [.t 1]⟩,
    ⟨5, some 21, some (19, true), .l (.load 1 false 1), [.t 20]⟩,
    ⟨6, some 22, some (19, true), .p .len, [.t 21]⟩,
    ⟨7, some 23, some (19, true), .p (.bin .eql), [.t 22, .c (.int .i64 3)]⟩,
    ⟨8, some 24, none, .p .pick, [.t 19, .t 23, .c (.bool false)]⟩,
    ⟨9, some 2, none, .p .mov, [.t 24]⟩])
   (.ret))),
  [.tmp 2]⟩
/- loop.example/g00641/spec.l2Tell -/
def g112 : GL.Fn := ⟨.seq (.reg 0 [⟨0, some 2, none, .p .mov, [.c (.nils)]⟩,
    ⟨1, some 3, none, .p .mov, [.c (.bool false)]⟩])
   (.seq (.seq (.reg 0 [⟨0, some 4, none, .p .mov, [.t 0]⟩,
    ⟨1, some 5, none, .e .call [] [], [.f 63, .t 4]⟩,
    ⟨2, some 6, none, .p (.un .not), [.t 5]⟩])
   (.cond (.t 6) (.seq (.reg 0 [⟨0, some 2, none, .p .mov, [.c (.nils)]⟩,
    ⟨1, some 3, none, .p .mov, [.c (.bool false)]⟩])
   (.ret))
   (.skip)))
   (.seq (.reg 0 [⟨0, some 7, none, .p .mov, [.t 0]⟩,
    ⟨1, some 8, none, .e .call [] [], [.f 116, .t 7]⟩,
    ⟨2, some 2, none, .p .mov, [.t 8]⟩,
    ⟨3, some 3, none, .p .mov, [.c (.bool true)]⟩])
   (.ret))),
  [.tmp 2, .tmp 3]⟩
/- loop.example/g00641/spec.l2Put -/
def g120_0 : GL.Code := .seq (.seq (.reg 0 [⟨0, some 11, none, .p .mov, [.t 5]⟩,
    ⟨1, some 12, none, .p .mov, [.t 0]⟩,
    ⟨2, some 13, none, .p .len, [.t 12]⟩,
    ⟨3, some 14, none, .p (.bin .lss), [.t 11, .t 13]⟩,
    ⟨4, some 15, none, .p .mov, [.t 14]⟩,
    ⟨5, some 16, some (15, true), .p .mov, [.t 0]⟩,
    ⟨6, some 17, some (15, true), .p .mov, [.t 5]⟩,
    ⟨7, some 18, some (15, true), .p (.idx 2), [.t 16, .t 17]⟩,
    ⟨8, some 19, some (15, true), .p (.faddr 0), [.t 18]⟩,
    ⟨9, some 20, some (15, true), .r (.load false 1) false, [.t 19]⟩,
    ⟨10, some 21, some (15, true), .p (.faddr 0), [.t 3]⟩,
    ⟨11, some 22, some (15, true), .l (.load 3 false 1), [.t 21]⟩,
    ⟨12, some 23, some (15, true), .p (.bin .lss), [.t 20, .t 22]⟩,
    ⟨13, some 24, none, .p .pick, [.t 15, .t 23, .c (.bool false)]⟩])
   (.cond (.t 24) (.skip)
   (.exit 0)))
   (.block 1 (.reg 0 [⟨0, some 25, none, .p .mov, [.t 5]⟩,
    ⟨1, some 26, none, .p (.bin .add), [.t 25, .c (.int .i64 1)]⟩,
    ⟨2, some 5, none, .p .mov, [.t 26]⟩]))
def g120 : GL.Fn := ⟨.seq (.reg 0 [⟨0, some 3, none, .l (.box 3 2), [.t 1]⟩,
    ⟨1, some 4, none, .p .mov, [.c (.nils)]⟩])
   (.seq (.reg 0 [⟨0, some 7, none, .p .mov, [.t 0]⟩,
    ⟨1, some 8, none, .p (.faddr 0), [.t 3]⟩,
    ⟨2, some 9, none, .l (.load 3 false 1), [.t 8]⟩,
    ⟨3, some 10, none, .e .call [] [], [.f 111, .t 7, .t 9]⟩,
    ⟨4, some 0, none, .p .mov, [.t 10]⟩])
   (.seq (.reg 0 [⟨0, some 5, none, .p .mov, [.c (.int .i64 0)]⟩])
   (.seq (.block 0 (.loop g120_0))
   (.seq (.reg 0 [⟨0, some 27, none, .e (.new (.lit 2)) [] [], []⟩,
    ⟨1, some 28, none, .p .mov, [.t 0]⟩,
    ⟨2, some 29, none, .p .mov, [.t 5]⟩,
    ⟨3, some 30, none, .p (.slice 2 false true false), [.t 28, .t 29]⟩,
    ⟨4, some 31, none, .e (.append 2 32) [] [], [.t 27, .t 30]⟩,
    ⟨5, some 6, none, .p .mov, [.t 31]⟩])
   (.seq (.reg 0 [⟨0, some 32, none, .p .mov, [.t 6]⟩,
    ⟨1, some 33, none, .l (.load 3 true 2), [.t 3]⟩,
    ⟨2, some 34, none, .e (.new (.lit 2)) [] [], [.t 33]⟩,
    ⟨3, some 35, none, .e (.append 2 32) [] [], [.t 32, .t 34]⟩,
    ⟨4, some 6, none, .p .mov, [.t 35]⟩])
   (.seq (.reg 0 [⟨0, some 36, none, .p .mov, [.t 6]⟩,
    ⟨1, some 37, none, .p .mov, [.t 0]⟩,
    ⟨2, some 38, none, .p .mov, [.t 5]⟩,
    ⟨3, some 39, none, .p (.slice 2 true false false), [.t 37, .t 38]⟩,
    ⟨4, some 40, none, .e (.append 2 32) [] [], [.t 36, .t 39]⟩,
    ⟨5, some 4, none, .p .mov, [.t 40]⟩])
   (.ret))))))),
  [.tmp 4]⟩
/- loop.example/g00641/impl.put -/
def g117 : GL.Fn := ⟨.seq (.reg 0 [⟨0, some 3, none, .l (.box 3 2), [.t 1]⟩,
    ⟨1, some 4, none, .p .mov, [.c (.nils)]⟩,
    ⟨2, some 5, none, .p .mov, [.c (.bool false)]⟩])
   (.seq (.reg 0 [⟨0, some 9, none, .p .mov, [.t 0]⟩,
    ⟨1, some 10, none, .e .call [] [], [.f 131, .t 9]⟩,
    ⟨2, some 6, none, .p .mov, [.t 10]⟩])
   (.seq (.reg 0 [⟨0, some 12, none, .p .mov, [.t 6]⟩,
    ⟨1, some 13, none, .p (.faddr 0), [.t 3]⟩,
    ⟨2, some 14, none, .l (.load 3 false 1), [.t 13]⟩,
    ⟨3, some 15, none, .e .call [] [], [.f 127, .t 12, .t 14]⟩,
    ⟨4, some 11, none, .p .mov, [.t 15]⟩,
    ⟨5, some 16, none, .p (.extract 0), [.t 11]⟩,
    ⟨6, some 17, none, .p (.extract 1), [.t 11]⟩,
    ⟨7, some 7, none, .p .mov, [.t 16]⟩,
    ⟨8, some 8, none, .p .mov, [.t 17]⟩])
   (.seq (.seq (.reg 0 [⟨0, some 18, none, .p .mov, [.t 8]⟩])
   (.cond (.t 18) (.reg 0 [⟨0, some 19, none, .p .mov, [.t 6]⟩,
    ⟨1, some 20, none, .p .mov, [.t 7]⟩,
    ⟨2, some 21, none, .l (.load 3 true 2), [.t 3]⟩,
    ⟨3, some 22, none, .e .call [] [], [.f 128, .t 21]⟩,
    ⟨4, some 23, none, .p (.idx 2), [.t 19, .t 20]⟩,
    ⟨5, none, none, .e (.store 2) [] [], [.t 23, .t 22]⟩])
   (.reg 0 [⟨0, some 24, none, .p .mov, [.t 6]⟩,
    ⟨1, some 25, none, .p .mov, [.t 7]⟩,
    ⟨2, some 26, none, .l (.load 3 true 2), [.t 3]⟩,
    ⟨3, some 27, none, .e .call [] [], [.f 128, .t 26]⟩,
    ⟨4, some 28, none, .e (.new (.lit 2)) [] [], [.t 27]⟩,
    ⟨5, some 29, none, .e .call [] [], [.f 145, .t 24, .t 25, .t 28]⟩,
    ⟨6, some 6, none, .p .mov, [.t 29]⟩])))
   (.seq (.seq (.reg 0 [⟨0, some 30, none, .p .mov, [.t 6]⟩,
    ⟨1, some 31, none, .p .len, [.t 30]⟩,
    ⟨2, some 32, none, .p (.bin .gtr), [.t 31, .c (.int .i64 20)]⟩])
   (.cond (.t 32) (.seq (.reg 0 [⟨0, some 4, none, .p .mov, [.c (.nils)]⟩,
    ⟨1, some 5, none, .p .mov, [.c (.bool false)]⟩])
   (.ret))
   (.skip)))
   (.seq (.reg 0 [⟨0, some 33, none, .p .mov, [.t 6]⟩,
    ⟨1, some 4, none, .p .mov, [.t 33]⟩,
    ⟨2, some 5, none, .p .mov, [.c (.bool true)]⟩])
   (.ret)))))),
  [.tmp 4, .tmp 5]⟩
/- (*loop.example/g00641/spec.l1Cur).row -/
def g125 : GL.Fn := ⟨.seq (.reg 0 [⟨0, some 2, none, .l (.alloc 2 [.int .i64 0, .nils]), []⟩])
   (.seq (.reg 0 [⟨0, some 4, none, .p .mov, [.t 0]⟩,
    ⟨1, some 5, none, .e .call [] [], [.f 91, .t 4, .c (.int .i64 8)]⟩,
    ⟨2, some 6, none, .p .mov, [.t 0]⟩,
    ⟨3, some 7, none, .e .call [] [], [.f 143, .t 6]⟩,
    ⟨4, some 8, none, .p .mov, [.t 0]⟩,
    ⟨5, some 9, none, .e .call [] [], [.f 143, .t 8]⟩,
    ⟨6, some 10, none, .p .mov, [.t 0]⟩,
    ⟨7, some 11, none, .e .call [] [], [.f 143, .t 10]⟩,
    ⟨8, some 12, none, .e (.new (.lit 2)) [] [], [.t 7, .t 9, .t 11]⟩,
    ⟨9, some 13, none, .p (.build [.int .i64 0, .nils] [(0, 1), (1, 1)]), [.t 5, .t 12]⟩,
    ⟨10, some 3, none, .l (.alloc 3 [.int .i64 0, .nils]), []⟩,
    ⟨11, none, none, .l (.store 3 2), [.t 3, .t 13]⟩])
   (.seq (.seq (.reg 0 [⟨0, some 14, none, .p .mov, [.t 0]⟩,
    ⟨1, some 15, none, .e .call [] [], [.f 91, .t 14, .c (.int .i64 40)]⟩])
   (.block 0 (.seq (.reg 0 [⟨0, some 17, none, .p (.bin .eql), [.t 15, .c (.int .i64 0)]⟩,
    ⟨1, some 16, none, .p .mov, [.t 17]⟩])
   (.cond (.t 16) (.reg 0 [⟨0, some 18, none, .p .mov, [.t 0]⟩,
    ⟨1, some 19, none, .e (.new (.lit 1)) [] [], [.c (.int .i64 (-1)), .c (.int .i64 999), .c (.int .i64 1000)]⟩,
    ⟨2, some 20, none, .e .call [] [], [.f 93, .t 18, .t 19]⟩,
    ⟨3, some 21, none, .p (.faddr 0), [.t 3]⟩,
    ⟨4, none, none, .l (.store 3 1), [.t 21, .t 20]⟩])
   (.seq (.reg 0 [⟨0, some 23, none, .p (.bin .eql), [.t 15, .c (.int .i64 1)]⟩,
    ⟨1, some 22, none, .p .mov, [.t 23]⟩])
   (.cond (.t 22) (.reg 0 [⟨0, some 24, none, .p (.faddr 1), [.t 3]⟩,
    ⟨1, some 25, none, .l (.load 3 false 1), [.t 24]⟩,
    ⟨2, some 26, none, .p .mov, [.t 0]⟩,
    ⟨3, some 27, none, .e .call [] [], [.f 95, .t 26]⟩,
    ⟨4, some 28, none, .p (.idx 2), [.t 25, .c (.int .i64 0)]⟩,
    ⟨5, none, none, .e (.store 2) [] [], [.t 28, .t 27]⟩])
   (.seq (.reg 0 [⟨0, some 30, none, .p (.bin .eql), [.t 15, .c (.int .i64 2)]⟩,
    ⟨1, some 29, none, .p .mov, [.t 30]⟩])
   (.cond (.t 29) (.reg 0 [⟨0, some 31, none, .p (.faddr 1), [.t 3]⟩,
    ⟨1, some 32, none, .l (.load 3 false 1), [.t 31]⟩,
    ⟨2, some 33, none, .p (.slice 2 true false false), [.t 32, .c (.int .i64 1)]⟩,
    ⟨3, some 34, none, .p (.faddr 1), [.t 3]⟩,
    ⟨4, none, none, .l (.store 3 1), [.t 34, .t 33]⟩])
   (.skip)))))))))
   (.seq (.reg 0 [⟨0, some 35, none, .l (.load 3 true 2), [.t 3]⟩,
    ⟨1, none, none, .l (.store 2 2), [.t 2, .t 35]⟩])
   (.ret)))),
  [.cellL 2 2 true 2]⟩
/- (*loop.example/g00641/spec.l1Cur).one -/
def g92 : GL.Fn := ⟨.seq (.reg 0 [⟨0, some 4, none, .p .mov, [.c (.bool false)]⟩])
   (.seq (.reg 0 [⟨0, some 5, none, .p .mov, [.t 0]⟩,
    ⟨1, some 6, none, .p .mov, [.t 1]⟩,
    ⟨2, some 7, none, .e .call [] [], [.f 91, .t 5, .t 6]⟩,
    ⟨3, some 8, none, .p (.bin .eql), [.t 7, .c (.int .i64 0)]⟩,
    ⟨4, some 4, none, .p .mov, [.t 8]⟩])
   (.ret)),
  [.tmp 4]⟩
/- loop.example/g00641/impl.isKey -/
def g126 : GL.Fn := ⟨.seq (.reg 0 [⟨0, some 2, none, .p .mov, [.c (.bool false)]⟩])
   (.seq (.reg 0 [⟨0, some 3, none, .p .mov, [.t 0]⟩,
    ⟨1, some 4, none, .e .call [] [], [.f 107, .t 3, .c (.int .i64 0), .c (.int .i64 999)]⟩,
    ⟨2, some 2, none, .p .mov, [.t 4]⟩])
   (.ret)),
  [.tmp 2]⟩
/- loop.example/g00641/impl.place -/
def g127 : GL.Fn := ⟨.seq (.reg 0 [⟨0, some 4, none, .p .mov, [.c (.int .i64 0)]⟩,
    ⟨1, some 5, none, .p .mov, [.c (.bool false)]⟩])
   (.seq (.reg 0 [⟨0, some 6, none, .p .mov, [.t 0]⟩,
    ⟨1, some 7, none, .p .mov, [.t 1]⟩,
    ⟨2, some 8, none, .e .call [] [], [.f 147, .t 6, .t 7, .f 148]⟩,
    ⟨3, some 9, none, .p (.extract 0), [.t 8]⟩,
    ⟨4, some 10, none, .p (.extract 1), [.t 8]⟩,
    ⟨5, some 4, none, .p .mov, [.t 9]⟩,
    ⟨6, some 5, none, .p .mov, [.t 10]⟩])
   (.ret)),
  [.tmp 4, .tmp 5]⟩
/- (loop.example/g00641/impl.Row).cloned -/
def g128 : GL.Fn := ⟨.seq (.reg 0 [⟨0, some 1, none, .l (.box 1 2), [.t 0]⟩,
    ⟨1, some 2, none, .l (.alloc 2 [.int .i64 0, .nils]), []⟩])
   (.seq (.reg 0 [⟨0, some 3, none, .p (.faddr 0), [.t 1]⟩,
    ⟨1, some 4, none, .l (.load 1 false 1), [.t 3]⟩,
    ⟨2, some 5, none, .p (.faddr 1), [.t 1]⟩,
    ⟨3, some 6, none, .l (.load 1 false 1), [.t 5]⟩,
    ⟨4, some 7, none, .e .call [] [], [.f 149, .t 6]⟩,
    ⟨5, some 8, none, .p (.build [.int .i64 0, .nils] [(0, 1), (1, 1)]), [.t 4, .t 7]⟩,
    ⟨6, none, none, .l (.store 2 2), [.t 2, .t 8]⟩])
   (.ret)),
  [.cellL 2 2 true 2]⟩
/- loop.example/g00641/impl.drop -/
def g113 : GL.Fn := ⟨.seq (.reg 0 [⟨0, some 3, none, .e (.new (.box 1)) [] [], [.t 1]⟩,
    ⟨1, some 4, none, .p .mov, [.c (.nils)]⟩])
   (.seq (.reg 0 [⟨0, some 5, none, .p .mov, [.t 0]⟩,
    ⟨1, some 6, none, .e .call [] [], [.f 131, .t 5]⟩,
    ⟨2, some 7, none, .p (.mkFn 144), [.t 3]⟩,
    ⟨3, some 8, none, .e .call [] [], [.f 133, .t 6, .t 7]⟩,
    ⟨4, some 4, none, .p .mov, [.t 8]⟩])
   (.ret)),
  [.tmp 4]⟩
/- loop.example/g00641/spec.DrawFindRow -/
def g129 : GL.Fn := ⟨.seq (.reg 0 [⟨0, some 2, none, .p .mov, [.c (.nils)]⟩,
    ⟨1, some 3, none, .p .mov, [.c (.int .i64 0)]⟩])
   (.seq (.reg 0 [⟨0, some 5, none, .p .mov, [.t 0]⟩,
    ⟨1, some 6, none, .p (.build [.nils, .int .i64 0, .int .u64 0] [(0, 1)]), [.t 5]⟩,
    ⟨2, some 7, none, .e (.new (.box 3)) [] [], [.t 6]⟩,
    ⟨3, some 4, none, .p .mov, [.t 7]⟩])
   (.seq (.reg 0 [⟨0, some 8, none, .p .mov, [.t 4]⟩,
    ⟨1, some 9, none, .e .call [] [], [.f 124, .t 8]⟩,
    ⟨2, some 10, none, .p .mov, [.t 4]⟩,
    ⟨3, some 11, none, .e .call [] [], [.f 91, .t 10, .c (.int .i64 9)]⟩,
    ⟨4, some 12, none, .p .mov, [.t 4]⟩,
    ⟨5, some 13, none, .e .call [] [], [.f 91, .t 12, .c (.int .i64 9)]⟩,
    ⟨6, some 14, none, .p (.bin .quo), [.t 13, .c (.int .i64 8)]⟩,
    ⟨7, some 15, none, .p (.bin .sub), [.t 11, .t 14]⟩,
    ⟨8, some 2, none, .p .mov, [.t 9]⟩,
    ⟨9, some 3, none, .p .mov, [.t 15]⟩])
   (.ret))),
  [.tmp 2, .tmp 3]⟩
/- loop.example/g00641/spec.l2Find -/
def g110_0 : GL.Code := .seq (.reg 0 [⟨0, some 10, none, .p (.bin .lss), [.t 9, .t 8]⟩])
   (.seq (.cond (.t 10) (.skip)
   (.exit 0))
   (.seq (.block 1 (.seq (.reg 0 [⟨0, some 11, none, .p .mov, [.t 9]⟩,
    ⟨1, some 12, none, .p (.idx 2), [.t 7, .t 9]⟩,
    ⟨2, some 13, none, .r (.load true 2) false, [.t 12]⟩,
    ⟨3, some 6, none, .l (.alloc 6 [.int .i64 0, .nils]), []⟩,
    ⟨4, some 5, none, .p .mov, [.t 11]⟩,
    ⟨5, none, none, .l (.store 6 2), [.t 6, .t 13]⟩])
   (.seq (.reg 0 [⟨0, some 14, none, .p (.faddr 0), [.t 6]⟩,
    ⟨1, some 15, none, .l (.load 6 false 1), [.t 14]⟩,
    ⟨2, some 16, none, .p .mov, [.t 1]⟩,
    ⟨3, some 17, none, .p (.bin .eql), [.t 15, .t 16]⟩])
   (.cond (.t 17) (.seq (.reg 0 [⟨0, some 18, none, .p .mov, [.t 5]⟩,
    ⟨1, some 4, none, .p .mov, [.t 18]⟩])
   (.ret))
   (.skip)))))
   (.reg 0 [⟨0, some 19, none, .p (.bin .add), [.t 9, .c (.int .i64 1)]⟩,
    ⟨1, some 9, none, .p .mov, [.t 19]⟩])))
def g110 : GL.Fn := ⟨.seq (.reg 0 [⟨0, some 4, none, .p .mov, [.c (.int .i64 0)]⟩])
   (.seq (.seq (.reg 0 [⟨0, some 7, none, .p .mov, [.t 0]⟩,
    ⟨1, some 8, none, .p .len, [.t 7]⟩,
    ⟨2, some 9, none, .p .mov, [.c (.int .i64 0)]⟩])
   (.block 0 (.loop g110_0)))
   (.seq (.reg 0 [⟨0, some 4, none, .p .mov, [.c (.int .i64 (-1))]⟩])
   (.ret))),
  [.tmp 4]⟩
/- loop.example/g00641/spec.l2Drop -/
def g111_0 : GL.Code := .seq (.reg 0 [⟨0, some 11, none, .p (.bin .lss), [.t 10, .t 9]⟩])
   (.seq (.cond (.t 11) (.skip)
   (.exit 0))
   (.seq (.block 1 (.seq (.reg 0 [⟨0, some 12, none, .p (.idx 2), [.t 8, .t 10]⟩,
    ⟨1, some 13, none, .r (.load true 2) false, [.t 12]⟩,
    ⟨2, some 7, none, .l (.alloc 7 [.int .i64 0, .nils]), []⟩,
    ⟨3, none, none, .l (.store 7 2), [.t 7, .t 13]⟩])
   (.seq (.reg 0 [⟨0, some 14, none, .p (.faddr 0), [.t 7]⟩,
    ⟨1, some 15, none, .l (.load 7 false 1), [.t 14]⟩,
    ⟨2, some 16, none, .p .mov, [.t 1]⟩,
    ⟨3, some 17, none, .p (.bin .neq), [.t 15, .t 16]⟩])
   (.cond (.t 17) (.reg 0 [⟨0, some 18, none, .p .mov, [.t 5]⟩,
    ⟨1, some 19, none, .l (.load 7 true 2), [.t 7]⟩,
    ⟨2, some 20, none, .e (.new (.lit 2)) [] [], [.t 19]⟩,
    ⟨3, some 21, none, .e (.append 2 32) [] [], [.t 18, .t 20]⟩,
    ⟨4, some 5, none, .p .mov, [.t 21]⟩])
   (.skip)))))
   (.reg 0 [⟨0, some 22, none, .p (.bin .add), [.t 10, .c (.int .i64 1)]⟩,
    ⟨1, some 10, none, .p .mov, [.t 22]⟩])))
def g111 : GL.Fn := ⟨.seq (.reg 0 [⟨0, some 4, none, .p .mov, [.c (.nils)]⟩])
   (.seq (.reg 0 [⟨0, some 5, none, .p .mov, [.c (.nils)]⟩])
   (.seq (.seq (.reg 0 [⟨0, some 8, none, .p .mov, [.t 0]⟩,
    ⟨1, some 9, none, .p .len, [.t 8]⟩,
    ⟨2, some 10, none, .p .mov, [.c (.int .i64 0)]⟩])
   (.block 0 (.loop g111_0)))
   (.seq (.reg 0 [⟨0, some 23, none, .p .mov, [.t 5]⟩,
    ⟨1, some 4, none, .p .mov, [.t 23]⟩])
   (.ret)))),
  [.tmp 4]⟩
/- loop.example/g00641/spec.l2Copy -/
def g130 : GL.Fn := ⟨.seq (.reg 0 [⟨0, some 1, none, .l (.box 1 2), [.t 0]⟩,
    ⟨1, some 2, none, .l (.alloc 2 [.int .i64 0, .nils]), []⟩])
   (.seq (.reg 0 [⟨0, some 3, none, .p (.faddr 0), [.t 1]⟩,
    ⟨1, some 4, none, .l (.load 1 false 1), [.t 3]⟩,
    ⟨2, some 5, none, .e (.new (.lit 2)) [] [], []⟩,
    ⟨3, some 6, none, .p (.faddr 1), [.t 1]⟩,
    ⟨4, some 7, none, .l (.load 1 false 1), [.t 6]⟩,
    ⟨5, some 8, none, .e (.append 2 16) [] [], [.t 5, .t 7]⟩,
    ⟨6, some 9, none, .p (.build [.int .i64 0, .nils] [(0, 1), (1, 1)]), [.t 4, .t 8]⟩,
    ⟨7, none, none, .l (.store 2 2), [.t 2, .t 9]⟩])
   (.ret)),
  [.cellL 2 2 true 2]⟩
/- (*loop.example/g00641/spec.l1Cur).among -/
def g93 : GL.Fn := ⟨.seq (.reg 0 [⟨0, some 4, none, .p .mov, [.c (.int .i64 0)]⟩])
   (.seq (.reg 0 [⟨0, some 5, none, .p .mov, [.t 1]⟩,
    ⟨1, some 6, none, .p .mov, [.t 0]⟩,
    ⟨2, some 7, none, .p .mov, [.t 1]⟩,
    ⟨3, some 8, none, .p .len, [.t 7]⟩,
    ⟨4, some 9, none, .e .call [] [], [.f 91, .t 6, .t 8]⟩,
    ⟨5, some 10, none, .p (.idx 1), [.t 5, .t 9]⟩,
    ⟨6, some 11, none, .r (.load false 1) false, [.t 10]⟩,
    ⟨7, some 4, none, .p .mov, [.t 11]⟩])
   (.ret)),
  [.tmp 4]⟩
/- (*loop.example/g00641/spec.l1Cur).next -/
def g140 : GL.Fn := ⟨.seq (.reg 0 [⟨0, some 2, none, .p .mov, [.c (.int .i64 0)]⟩])
   (.seq (.reg 0 [⟨0, some 3, none, .p .mov, [.c (.int .i64 0)]⟩])
   (.seq (.seq (.reg 0 [⟨0, some 4, none, .p .mov, [.t 0]⟩,
    ⟨1, some 5, none, .p .nilCheck, [.t 4]⟩,
    ⟨2, some 6, none, .p (.faddr 1), [.t 5]⟩,
    ⟨3, some 7, none, .r (.load false 1) false, [.t 6]⟩,
    ⟨4, some 8, none, .p .mov, [.t 0]⟩,
    ⟨5, some 9, none, .p .nilCheck, [.t 8]⟩,
    ⟨6, some 10, none, .p (.faddr 0), [.t 9]⟩,
    ⟨7, some 11, none, .r (.load false 1) false, [.t 10]⟩,
    ⟨8, some 12, none, .p .len, [.t 11]⟩,
    ⟨9, some 13, none, .p (.bin .lss), [.t 7, .t 12]⟩])
   (.cond (.t 13) (.reg 0 [⟨0, some 14, none, .p .mov, [.t 0]⟩,
    ⟨1, some 15, none, .p .nilCheck, [.t 14]⟩,
    ⟨2, some 16, none, .p (.faddr 0), [.t 15]⟩,
    ⟨3, some 17, none, .r (.load false 1) false, [.t 16]⟩,
    ⟨4, some 18, none, .p .mov, [.t 0]⟩,
    ⟨5, some 19, none, .p .nilCheck, [.t 18]⟩,
    ⟨6, some 20, none, .p (.faddr 1), [.t 19]⟩,
    ⟨7, some 21, none, .r (.load false 1) false, [.t 20]⟩,
    ⟨8, some 22, none, .p (.idx 1), [.t 17, .t 21]⟩,
    ⟨9, some 23, none, .r (.load false 1) false, [.t 22]⟩,
    ⟨10, some 24, none, .p (.conv .i64), [.t 23]⟩,
    ⟨11, some 3, none, .p .mov, [.t 24]⟩])
   (.skip)))
   (.seq (.reg 0 [⟨0, some 25, none, .p .mov, [.t 0]⟩,
    ⟨1, some 26, none, .p .nilCheck, [.t 25]⟩,
    ⟨2, some 27, none, .p (.faddr 1), [.t 26]⟩,
    ⟨3, some 28, none, .r (.load false 1) false, [.t 27]⟩,
    ⟨4, some 29, none, .p (.bin .add), [.t 28, .c (.int .i64 1)]⟩,
    ⟨5, some 30, none, .p .nilCheck, [.t 25]⟩,
    ⟨6, some 31, none, .p (.faddr 1), [.t 30]⟩,
    ⟨7, none, none, .e (.store 1) [] [], [.t 31, .t 29]⟩])
   (.seq (.reg 0 [⟨0, some 32, none, .p .mov, [.t 0]⟩,
    ⟨1, some 33, none, .p .mov, [.t 0]⟩,
    ⟨2, some 34, none, .p .nilCheck, [.t 33]⟩,
    ⟨3, some 35, none, .p (.faddr 2), [.t 34]⟩,
    ⟨4, some 36, none, .r (.load false 1) false, [.t 35]⟩,
    ⟨5, some 37, none, .p (.bin .mul), [.t 36, .c (.int .u64 6364136223846793005)]⟩,
    ⟨6, some 38, none, .p .mov, [.t 3]⟩,
    ⟨7, some 39, none, .p (.conv .u64), [.t 38]⟩,
    ⟨8, some 40, none, .p (.bin .add), [.t 37, .t 39]⟩,
    ⟨9, some 41, none, .p (.bin .add), [.t 40, .c (.int .u64 1442695040888963407)]⟩,
    ⟨10, some 42, none, .p .nilCheck, [.t 32]⟩,
    ⟨11, some 43, none, .p (.faddr 2), [.t 42]⟩,
    ⟨12, none, none, .e (.store 1) [] [], [.t 43, .t 41]⟩])
   (.seq (.seq (.reg 0 [⟨0, some 44, none, .p .mov, [.t 0]⟩,
    ⟨1, some 45, none, .p .nilCheck, [.t 44]⟩,
    ⟨2, some 46, none, .p (.faddr 1), [.t 45]⟩,
    ⟨3, some 47, none, .r (.load false 1) false, [.t 46]⟩,
    ⟨4, some 48, none, .p .mov, [.t 0]⟩,
    ⟨5, some 49, none, .p .nilCheck, [.t 48]⟩,
    ⟨6, some 50, none, .p (.faddr 0), [.t 49]⟩,
    ⟨7, some 51, none, .r (.load false 1) false, [.t 50]⟩,
    ⟨8, some 52, none, .p .len, [.t 51]⟩,
    ⟨9, some 53, none, .p (.bin .leq), [.t 47, .t 52]⟩])
   (.cond (.t 53) (.seq (.reg 0 [⟨0, some 54, none, .p .mov, [.t 3]⟩,
    ⟨1, some 2, none, .p .mov, [.t 54]⟩])
   (.ret))
   (.skip)))
   (.seq (.reg 0 [⟨0, some 55, none, .p .mov, [.t 0]⟩,
    ⟨1, some 56, none, .p .nilCheck, [.t 55]⟩,
    ⟨2, some 57, none, .p (.faddr 2), [.t 56]⟩,
    ⟨3, some 58, none, .r (.load false 1) false, [.t 57]⟩,
    ⟨4, some 59, none, .p (.bin .shr), [.t 58, .c (.int .u64 40)]⟩,
    ⟨5, some 60, none, .p (.bin .and), [.t 59, .c (.int .u64 255)]⟩,
    ⟨6, some 61, none, .p (.conv .i64), [.t 60]⟩,
    ⟨7, some 2, none, .p .mov, [.t 61]⟩])
   (.ret))))))),
  [.tmp 2]⟩
/- slices.Clone[[]loop.example/g00641/impl.Value,loop.example/g00641/impl.Value] -/
def g149 : GL.Fn := ⟨.seq (.reg 0 [⟨0, some 2, none, .p .mov, [.c (.nils)]⟩])
   (.seq (.seq (.reg 0 [⟨0, some 3, none, .p .mov, [.t 0]⟩,
    ⟨1, some 4, none, .p (.isNil false), [.t 3]⟩])
   (.cond (.t 4) (.seq (.reg 0 [⟨0, some 2, none, .p .mov, [.c (.nils)]⟩])
   (.ret))
   (.skip)))
   (.seq (.reg 0 [⟨0, some 5, none, .e (.new (.lit 2)) [] [], []⟩,
    ⟨1, some 6, none, .p .mov, [.t 0]⟩,
    ⟨2, some 7, none, .e (.append 2 16) [] [], [.t 5, .t 6]⟩,
    ⟨3, some 2, none, .p .mov, [.t 7]⟩])
   (.ret))),
  [.tmp 2]⟩
/- slices.IndexFunc[[]loop.example/g00641/impl.Row,loop.example/g00641/impl.Row] -/
def g150_0 : GL.Code := .seq (.reg 0 [⟨0, some 9, none, .p (.bin .lss), [.t 8, .t 7]⟩])
   (.seq (.cond (.t 9) (.skip)
   (.exit 0))
   (.seq (.block 1 (.seq (.reg 0 [⟨0, some 10, none, .p .mov, [.t 8]⟩,
    ⟨1, some 5, none, .p .mov, [.t 10]⟩])
   (.seq (.reg 0 [⟨0, some 11, none, .p .mov, [.t 1]⟩,
    ⟨1, some 12, none, .p .mov, [.t 0]⟩,
    ⟨2, some 13, none, .p .mov, [.t 5]⟩,
    ⟨3, some 14, none, .p (.idx 2), [.t 12, .t 13]⟩,
    ⟨4, some 15, none, .r (.load true 2) false, [.t 14]⟩,
    ⟨5, some 16, none, .e .call [] [], [.t 11, .t 15]⟩])
   (.cond (.t 16) (.seq (.reg 0 [⟨0, some 17, none, .p .mov, [.t 5]⟩,
    ⟨1, some 4, none, .p .mov, [.t 17]⟩])
   (.ret))
   (.skip)))))
   (.reg 0 [⟨0, some 18, none, .p (.bin .add), [.t 8, .c (.int .i64 1)]⟩,
    ⟨1, some 8, none, .p .mov, [.t 18]⟩])))
def g150 : GL.Fn := ⟨.seq (.reg 0 [⟨0, some 4, none, .p .mov, [.c (.int .i64 0)]⟩])
   (.seq (.seq (.reg 0 [⟨0, some 6, none, .p .mov, [.t 0]⟩,
    ⟨1, some 7, none, .p .len, [.t 6]⟩,
    ⟨2, some 8, none, .p .mov, [.c (.int .i64 0)]⟩])
   (.block 0 (.loop g150_0)))
   (.seq (.reg 0 [⟨0, some 4, none, .p .mov, [.c (.int .i64 (-1))]⟩])
   (.ret))),
  [.tmp 4]⟩
/- (*loop.example/g00641/spec.l1Cur).small -/
def g143 : GL.Fn := ⟨.seq (.reg 0 [⟨0, some 2, none, .l (.alloc 2 [.bool false, .int .i64 0]), []⟩])
   (.seq (.seq (.reg 0 [⟨0, some 3, none, .p .mov, [.t 0]⟩,
    ⟨1, some 4, none, .e .call [] [], [.f 92, .t 3, .c (.int .i64 5)]⟩])
   (.cond (.t 4) (.seq (.reg 0 [⟨0, some 5, none, .p (.build [.bool false, .int .i64 0] [(0, 1)]), [.c (.bool true)]⟩,
    ⟨1, none, none, .l (.store 2 2), [.t 2, .t 5]⟩])
   (.ret))
   (.skip)))
   (.seq (.reg 0 [⟨0, some 6, none, .p .mov, [.t 0]⟩,
    ⟨1, some 7, none, .e .call [] [], [.f 91, .t 6, .c (.int .i64 4)]⟩,
    ⟨2, some 8, none, .p (.build [.bool false, .int .i64 0] [(1, 1)]), [.t 7]⟩,
    ⟨3, none, none, .l (.store 2 2), [.t 2, .t 8]⟩])
   (.ret))),
  [.cellL 2 2 true 2]⟩
/- loop.example/g00641/spec.l2Own -/
def g116_0 : GL.Code := .seq (.reg 0 [⟨0, some 9, none, .p (.bin .lss), [.t 8, .t 7]⟩])
   (.seq (.cond (.t 9) (.skip)
   (.exit 0))
   (.seq (.block 1 (.seq (.reg 0 [⟨0, some 10, none, .p (.idx 2), [.t 6, .t 8]⟩,
    ⟨1, some 11, none, .r (.load true 2) false, [.t 10]⟩,
    ⟨2, some 5, none, .l (.alloc 5 [.int .i64 0, .nils]), []⟩,
    ⟨3, none, none, .l (.store 5 2), [.t 5, .t 11]⟩])
   (.reg 0 [⟨0, some 12, none, .p .mov, [.t 3]⟩,
    ⟨1, some 13, none, .l (.load 5 true 2), [.t 5]⟩,
    ⟨2, some 14, none, .e .call [] [], [.f 130, .t 13]⟩,
    ⟨3, some 15, none, .e (.new (.lit 2)) [] [], [.t 14]⟩,
    ⟨4, some 16, none, .e (.append 2 32) [] [], [.t 12, .t 15]⟩,
    ⟨5, some 3, none, .p .mov, [.t 16]⟩])))
   (.reg 0 [⟨0, some 17, none, .p (.bin .add), [.t 8, .c (.int .i64 1)]⟩,
    ⟨1, some 8, none, .p .mov, [.t 17]⟩])))
def g116 : GL.Fn := ⟨.seq (.reg 0 [⟨0, some 2, none, .p .mov, [.c (.nils)]⟩])
   (.seq (.reg 0 [⟨0, some 3, none, .p .mov, [.c (.nils)]⟩])
   (.seq (.seq (.reg 0 [⟨0, some 6, none, .p .mov, [.t 0]⟩,
    ⟨1, some 7, none, .p .len, [.t 6]⟩,
    ⟨2, some 8, none, .p .mov, [.c (.int .i64 0)]⟩])
   (.block 0 (.loop g116_0)))
   (.seq (.reg 0 [⟨0, some 18, none, .p .mov, [.t 3]⟩,
    ⟨1, some 2, none, .p .mov, [.t 18]⟩])
   (.ret)))),
  [.tmp 2]⟩
/- loop.example/g00641/impl.clonedRows -/
def g131_0 : GL.Code := .seq (.reg 0 [⟨0, some 10, none, .p (.bin .lss), [.t 9, .t 8]⟩])
   (.seq (.cond (.t 10) (.skip)
   (.exit 0))
   (.seq (.block 1 (.seq (.reg 0 [⟨0, some 11, none, .p (.idx 2), [.t 7, .t 9]⟩,
    ⟨1, some 12, none, .r (.load true 2) false, [.t 11]⟩,
    ⟨2, some 5, none, .l (.alloc 5 [.int .i64 0, .nils]), []⟩,
    ⟨3, none, none, .l (.store 5 2), [.t 5, .t 12]⟩])
   (.reg 0 [⟨0, some 13, none, .p .mov, [.t 3]⟩,
    ⟨1, some 14, none, .l (.load 5 true 2), [.t 5]⟩,
    ⟨2, some 15, none, .e .call [] [], [.f 128, .t 14]⟩,
    ⟨3, some 16, none, .e (.new (.lit 2)) [] [], [.t 15]⟩,
    ⟨4, some 17, none, .e (.append 2 32) [] [], [.t 13, .t 16]⟩,
    ⟨5, some 3, none, .p .mov, [.t 17]⟩])))
   (.reg 0 [⟨0, some 18, none, .p (.bin .add), [.t 9, .c (.int .i64 1)]⟩,
    ⟨1, some 9, none, .p .mov, [.t 18]⟩])))
def g131 : GL.Fn := ⟨.seq (.reg 0 [⟨0, some 2, none, .p .mov, [.c (.nils)]⟩])
   (.seq (.reg 0 [⟨0, some 6, none, .e (.new (.lit 2)) [] [], []⟩,
    ⟨1, some 3, none, .p .mov, [.t 6]⟩])
   (.seq (.seq (.reg 0 [⟨0, some 7, none, .p .mov, [.t 0]⟩,
    ⟨1, some 8, none, .p .len, [.t 7]⟩,
    ⟨2, some 9, none, .p .mov, [.c (.int .i64 0)]⟩])
   (.block 0 (.loop g131_0)))
   (.seq (.reg 0 [⟨0, some 19, none, .p .mov, [.t 3]⟩,
    ⟨1, some 2, none, .p .mov, [.t 19]⟩])
   (.ret)))),
  [.tmp 2]⟩
/- slices.BinarySearchFunc[[]loop.example/g00641/impl.Row,loop.example/g00641/impl.Row,int] -/
def g147_0 : GL.Code := .seq (.seq (.reg 0 [⟨0, some 15, none, .p .mov, [.t 9]⟩,
    ⟨1, some 16, none, .p .mov, [.t 10]⟩,
    ⟨2, some 17, none, .p (.bin .lss), [.t 15, .t 16]⟩])
   (.cond (.t 17) (.skip)
   (.exit 0)))
   (.block 1 (.seq (.reg 0 [⟨0, some 18, none, .p .mov, [.t 9]⟩,
    ⟨1, some 19, none, .p .mov, [.t 10]⟩,
    ⟨2, some 20, none, .p (.bin .add), [.t 18, .t 19]⟩,
    ⟨3, some 21, none, .p (.conv .u64), [.t 20]⟩,
    ⟨4, some 22, none, .p (.bin .shr), [.t 21, .c (.int .u64 1)]⟩,
    ⟨5, some 23, none, .p (.conv .i64), [.t 22]⟩,
    ⟨6, some 11, none, .p .mov, [.t 23]⟩])
   (.seq (.reg 0 [⟨0, some 24, none, .p .mov, [.t 2]⟩,
    ⟨1, some 25, none, .p .mov, [.t 0]⟩,
    ⟨2, some 26, none, .p .mov, [.t 11]⟩,
    ⟨3, some 27, none, .p (.idx 2), [.t 25, .t 26]⟩,
    ⟨4, some 28, none, .r (.load true 2) false, [.t 27]⟩,
    ⟨5, some 29, none, .p .mov, [.t 1]⟩,
    ⟨6, some 30, none, .e .call [] [], [.t 24, .t 28, .t 29]⟩,
    ⟨7, some 31, none, .p (.bin .lss), [.t 30, .c (.int .i64 0)]⟩])
   (.cond (.t 31) (.reg 0 [⟨0, some 32, none, .p .mov, [.t 11]⟩,
    ⟨1, some 33, none, .p (.bin .add), [.t 32, .c (.int .i64 1)]⟩,
    ⟨2, some 9, none, .p .mov, [.t 33]⟩])
   (.reg 0 [⟨0, some 34, none, .p .mov, [.t 11]⟩,
    ⟨1, some 10, none, .p .mov, [.t 34]⟩])))))
def g147 : GL.Fn := ⟨.seq (.reg 0 [⟨0, some 6, none, .p .mov, [.c (.int .i64 0)]⟩,
    ⟨1, some 7, none, .p .mov, [.c (.bool false)]⟩])
   (.seq (.reg 0 [⟨0, some 12, none, .p .mov, [.t 0]⟩,
    ⟨1, some 13, none, .p .len, [.t 12]⟩,
    ⟨2, some 8, none, .p .mov, [.t 13]⟩])
   (.seq (.reg 0 [⟨0, some 14, none, .p .mov, [.t 8]⟩,
    ⟨1, some 9, none, .p .mov, [.c (.int .i64 0)]⟩,
    ⟨2, some 10, none, .p .mov, [.t 14]⟩])
   (.seq (.block 0 (.loop g147_0))
   (.seq (.reg 0 [⟨0, some 35, none, .p .mov, [.t 9]⟩,
    ⟨1, some 36, none, .p .mov, [.t 9]⟩,
    ⟨2, some 37, none, .p .mov, [.t 8]⟩,
    ⟨3, some 38, none, .p (.bin .lss), [.t 36, .t 37]⟩,
    ⟨4, some 39, none, .p .mov, [.t 38]⟩,
    ⟨5, some 40, some (39, true), .p .mov, [.t 2]⟩,
    ⟨6, some 41, some (39, true), .p .mov, [.t 0]⟩,
    ⟨7, some 42, some (39, true), .p .mov, [.t 9]⟩,
    ⟨8, some 43, some (39, true), .p (.idx 2), [.t 41, .t 42]⟩,
    ⟨9, some 44, some (39, true), .r (.load true 2) false, [.t 43]⟩,
    ⟨10, some 45, some (39, true), .p .mov, [.t 1]⟩,
    ⟨11, some 46, some (39, true), .e .call [] [], [.t 40, .t 44, .t 45]⟩,
    ⟨12, some 47, some (39, true), .p (.bin .eql), [.t 46, .c (.int .i64 0)]⟩,
    ⟨13, some 48, none, .p .pick, [.t 39, .t 47, .c (.bool false)]⟩,
    ⟨14, some 6, none, .p .mov, [.t 35]⟩,
    ⟨15, some 7, none, .p .mov, [.t 48]⟩])
   (.ret))))),
  [.tmp 6, .tmp 7]⟩
/- loop.example/g00641/impl.place$1 -/
def g148 : GL.Fn := ⟨.seq (.reg 0 [⟨0, some 2, none, .l (.box 2 2), [.t 0]⟩,
    ⟨1, some 4, none, .p .mov, [.c (.int .i64 0)]⟩])
   (.seq (.reg 0 [⟨0, some 5, none, .p (.faddr 0), [.t 2]⟩,
    ⟨1, some 6, none, .l (.load 2 false 1), [.t 5]⟩,
    ⟨2, some 7, none, .p .mov, [.t 1]⟩,
    ⟨3, some 8, none, .p (.bin .sub), [.t 6, .t 7]⟩,
    ⟨4, some 4, none, .p .mov, [.t 8]⟩])
   (.ret)),
  [.tmp 4]⟩
/- loop.example/g00641/impl.drop$1 -/
def g144 : GL.Fn := ⟨.seq (.reg 0 [⟨0, some 2, none, .l (.box 2 2), [.t 0]⟩,
    ⟨1, some 3, none, .p .mov, [.c (.bool false)]⟩])
   (.seq (.reg 0 [⟨0, some 4, none, .p (.faddr 0), [.t 2]⟩,
    ⟨1, some 5, none, .l (.load 2 false 1), [.t 4]⟩,
    ⟨2, some 6, none, .r (.load false 1) false, [.t 1]⟩,
    ⟨3, some 7, none, .p (.bin .eql), [.t 5, .t 6]⟩,
    ⟨4, some 3, none, .p .mov, [.t 7]⟩])
   (.ret)),
  [.tmp 3]⟩
end GL
