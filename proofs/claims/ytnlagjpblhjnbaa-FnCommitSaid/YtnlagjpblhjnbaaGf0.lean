import Derived.Test.YtnlagjpblhjnbaaGlA
/- GL code of functions. -/
set_option linter.unusedSimpArgs false
set_option linter.unusedVariables false
namespace GL
open Go
/- loop.example/g00641/laws.FnCommit -/
def g199_0 : GL.Code := .seq (.reg 0 [⟨0, some 80, none, .p (.bin .lss), [.t 79, .t 78]⟩])
   (.seq (.cond (.t 80) (.skip)
   (.exit 0))
   (.seq (.block 1 (.seq (.reg 0 [⟨0, some 81, none, .p .mov, [.t 79]⟩,
    ⟨1, some 82, none, .p (.idx 3), [.t 77, .t 79]⟩,
    ⟨2, some 83, none, .r (.load true 3) false, [.t 82]⟩,
    ⟨3, some 16, none, .l (.alloc 16 [.int .i64 0, .int .i64 0, .int .i64 0]), []⟩,
    ⟨4, some 15, none, .p .mov, [.t 81]⟩,
    ⟨5, none, none, .l (.store 16 3), [.t 16, .t 83]⟩])
   (.seq (.reg 0 [⟨0, some 84, none, .p .mov, [.t 8]⟩,
    ⟨1, some 85, none, .p .mov, [.t 15]⟩,
    ⟨2, some 86, none, .p (.idx 1), [.t 84, .t 85]⟩,
    ⟨3, some 87, none, .r (.load false 1) false, [.t 86]⟩,
    ⟨4, some 88, none, .p .mov, [.t 87]⟩,
    ⟨5, some 89, some (88, true), .p (.faddr 0), [.t 16]⟩,
    ⟨6, some 90, some (88, true), .l (.load 16 false 1), [.t 89]⟩,
    ⟨7, some 91, some (88, true), .p (.bin .eql), [.t 90, .c (.int .i64 1)]⟩,
    ⟨8, some 92, none, .p .pick, [.t 88, .t 91, .c (.bool false)]⟩])
   (.cond (.t 92) (.reg 0 [⟨0, some 93, none, .p .mov, [.t 14]⟩,
    ⟨1, some 94, none, .p (.bin .add), [.t 93, .c (.int .i64 1)]⟩,
    ⟨2, some 14, none, .p .mov, [.t 94]⟩])
   (.skip)))))
   (.reg 0 [⟨0, some 95, none, .p (.bin .add), [.t 79, .c (.int .i64 1)]⟩,
    ⟨1, some 79, none, .p .mov, [.t 95]⟩])))
def g199_1 : GL.Code := .seq (.reg 0 [⟨0, some 155, none, .p (.bin .lss), [.t 154, .t 153]⟩])
   (.seq (.cond (.t 155) (.skip)
   (.exit 2))
   (.seq (.block 3 (.seq (.reg 0 [⟨0, some 156, none, .p .mov, [.t 154]⟩,
    ⟨1, some 157, none, .p (.idx 1), [.t 152, .t 154]⟩,
    ⟨2, some 158, none, .r (.load false 1) false, [.t 157]⟩,
    ⟨3, some 21, none, .p .mov, [.t 156]⟩,
    ⟨4, some 22, none, .p .mov, [.t 158]⟩])
   (.seq (.reg 0 [⟨0, some 159, none, .p .mov, [.t 22]⟩,
    ⟨1, some 160, none, .p (.bin .geq), [.t 159, .c (.int .i64 2)]⟩,
    ⟨2, some 161, none, .p .mov, [.t 160]⟩,
    ⟨3, some 162, some (161, true), .p (.faddr 0), [.t 17]⟩,
    ⟨4, some 163, some (161, true), .l (.load 17 false 1), [.t 162]⟩,
    ⟨5, some 164, some (161, true), .p .mov, [.t 21]⟩,
    ⟨6, some 165, some (161, true), .p (.idx 1), [.t 163, .t 164]⟩,
    ⟨7, some 166, some (161, true), .r (.load false 1) false, [.t 165]⟩,
    ⟨8, some 167, some (161, true), .p .mov, [.t 22]⟩,
    ⟨9, some 168, some (161, true), .p (.bin .neq), [.t 166, .t 167]⟩,
    ⟨10, some 169, none, .p .pick, [.t 161, .t 168, .c (.bool false)]⟩])
   (.cond (.t 169) (.seq (.reg 0 [⟨0, some 4, none, .p .mov, [.c (.bool false)]⟩])
   (.ret))
   (.skip)))))
   (.reg 0 [⟨0, some 170, none, .p (.bin .add), [.t 154, .c (.int .i64 1)]⟩,
    ⟨1, some 154, none, .p .mov, [.t 170]⟩])))
def g199 : GL.Fn := ⟨.seq (.reg 0 [⟨0, some 4, none, .p .mov, [.c (.bool false)]⟩])
   (.seq (.seq (.reg 0 [⟨0, some 33, none, .p .mov, [.t 0]⟩,
    ⟨1, some 34, none, .p .len, [.t 33]⟩,
    ⟨2, some 35, none, .p .mov, [.t 1]⟩,
    ⟨3, some 36, none, .p .len, [.t 35]⟩,
    ⟨4, some 37, none, .p (.bin .add), [.t 34, .t 36]⟩,
    ⟨5, some 38, none, .p (.bin .gtr), [.t 37, .c (.int .i64 1048576)]⟩])
   (.cond (.t 38) (.seq (.reg 0 [⟨0, some 4, none, .p .mov, [.c (.bool true)]⟩])
   (.ret))
   (.skip)))
   (.seq (.reg 0 [⟨0, some 40, none, .p .mov, [.t 0]⟩,
    ⟨1, some 41, none, .e .call [] [], [.f 200, .t 40]⟩,
    ⟨2, some 39, none, .p .mov, [.t 41]⟩,
    ⟨3, some 42, none, .p (.extract 0), [.t 39]⟩,
    ⟨4, some 43, none, .p (.extract 1), [.t 39]⟩,
    ⟨5, some 5, none, .p .mov, [.t 42]⟩,
    ⟨6, some 6, none, .p .mov, [.t 43]⟩])
   (.seq (.reg 0 [⟨0, some 45, none, .p .mov, [.t 5]⟩,
    ⟨1, some 46, none, .p .mov, [.t 6]⟩,
    ⟨2, some 47, none, .e .call [] [], [.f 201, .t 45, .t 46]⟩,
    ⟨3, some 44, none, .p .mov, [.t 47]⟩,
    ⟨4, some 48, none, .p (.extract 0), [.t 44]⟩,
    ⟨5, some 49, none, .p (.extract 1), [.t 44]⟩,
    ⟨6, some 50, none, .p (.extract 2), [.t 44]⟩,
    ⟨7, some 7, none, .l (.alloc 7 [.nils, .nils, .int .i64 0]), []⟩,
    ⟨8, none, none, .l (.store 7 3), [.t 7, .t 48]⟩,
    ⟨9, some 8, none, .p .mov, [.t 49]⟩,
    ⟨10, some 9, none, .p .mov, [.t 50]⟩])
   (.seq (.reg 0 [⟨0, some 52, none, .p .mov, [.t 5]⟩,
    ⟨1, some 53, none, .p .mov, [.t 6]⟩,
    ⟨2, some 54, none, .e .call [] [], [.f 202, .t 52, .t 53]⟩,
    ⟨3, some 51, none, .p .mov, [.t 54]⟩,
    ⟨4, some 55, none, .p (.extract 0), [.t 51]⟩,
    ⟨5, some 56, none, .p (.extract 1), [.t 51]⟩,
    ⟨6, some 57, none, .p (.extract 2), [.t 51]⟩,
    ⟨7, some 10, none, .l (.alloc 10 [.nils, .nils, .int .i64 0]), []⟩,
    ⟨8, none, none, .l (.store 10 3), [.t 10, .t 55]⟩,
    ⟨9, some 11, none, .p .mov, [.t 56]⟩,
    ⟨10, some 12, none, .p .mov, [.t 57]⟩])
   (.seq (.seq (.reg 0 [⟨0, some 58, none, .p .mov, [.t 9]⟩,
    ⟨1, some 59, none, .p .mov, [.t 12]⟩,
    ⟨2, some 60, none, .p (.eqB true), [.t 58, .t 59]⟩,
    ⟨3, some 61, none, .p .mov, [.t 60]⟩,
    ⟨4, some 62, some (61, false), .p .mov, [.t 8]⟩,
    ⟨5, some 63, some (61, false), .p .mov, [.t 11]⟩,
    ⟨6, some 64, some (61, false), .e .call [] [], [.f 203, .t 62, .t 63]⟩,
    ⟨7, some 65, some (61, false), .p (.un .not), [.t 64]⟩,
    ⟨8, some 66, none, .p .pick, [.t 61, .c (.bool true), .t 65]⟩,
    ⟨9, some 67, none, .p .mov, [.t 66]⟩,
    ⟨10, some 68, some (67, false), .l (.load 7 true 3), [.t 7]⟩,
    ⟨11, some 69, some (67, false), .l (.load 10 true 3), [.t 10]⟩,
    ⟨12, some 70, some (67, false), .e .call [] [], [.f 190, .t 68, .t 69]⟩,
    ⟨13, some 71, some (67, false), .p (.un .not), [.t 70]⟩,
    ⟨14, some 72, none, .p .pick, [.t 67, .c (.bool true), .t 71]⟩])
   (.cond (.t 72) (.seq (.reg 0 [⟨0, some 4, none, .p .mov, [.c (.bool false)]⟩])
   (.ret))
   (.skip)))
   (.seq (.seq (.reg 0 [⟨0, some 73, none, .p .mov, [.t 9]⟩])
   (.cond (.t 73) (.seq (.reg 0 [⟨0, some 74, none, .p (.faddr 0), [.t 7]⟩,
    ⟨1, some 75, none, .l (.load 7 false 1), [.t 74]⟩,
    ⟨2, some 76, none, .e .call [] [], [.f 204, .t 75, .c (.int .i64 2)]⟩,
    ⟨3, some 13, none, .p .mov, [.t 76]⟩])
   (.seq (.reg 0 [⟨0, some 14, none, .p .mov, [.c (.int .i64 0)]⟩])
   (.seq (.seq (.reg 0 [⟨0, some 77, none, .p .mov, [.t 6]⟩,
    ⟨1, some 78, none, .p .len, [.t 77]⟩,
    ⟨2, some 79, none, .p .mov, [.c (.int .i64 0)]⟩])
   (.block 0 (.loop g199_0)))
   (.seq (.reg 0 [⟨0, some 97, none, .l (.load 7 true 3), [.t 7]⟩,
    ⟨1, some 98, none, .e .call [] [], [.f 205, .t 97]⟩,
    ⟨2, some 96, none, .p .mov, [.t 98]⟩,
    ⟨3, some 99, none, .p (.extract 0), [.t 96]⟩,
    ⟨4, some 100, none, .p (.extract 1), [.t 96]⟩,
    ⟨5, some 17, none, .l (.alloc 17 [.nils, .nils, .int .i64 0]), []⟩,
    ⟨6, none, none, .l (.store 17 3), [.t 17, .t 99]⟩,
    ⟨7, some 18, none, .p .mov, [.t 100]⟩])
   (.seq (.reg 0 [⟨0, some 102, none, .l (.load 17 true 3), [.t 17]⟩,
    ⟨1, some 103, none, .e .call [] [], [.f 206, .t 102]⟩,
    ⟨2, some 101, none, .p .mov, [.t 103]⟩,
    ⟨3, some 104, none, .p (.extract 0), [.t 101]⟩,
    ⟨4, some 105, none, .p (.extract 1), [.t 101]⟩,
    ⟨5, some 19, none, .p .mov, [.t 104]⟩,
    ⟨6, some 20, none, .p .mov, [.t 105]⟩])
   (.seq (.seq (.reg 0 [⟨0, some 106, none, .l (.load 7 true 3), [.t 7]⟩,
    ⟨1, some 107, none, .e .call [] [], [.f 191, .t 106]⟩,
    ⟨2, some 108, none, .p (.un .not), [.t 107]⟩,
    ⟨3, some 109, none, .p .mov, [.t 108]⟩,
    ⟨4, some 110, some (109, false), .p .mov, [.t 13]⟩,
    ⟨5, some 111, some (109, false), .p .mov, [.t 110]⟩,
    ⟨6, some 112, some (111, true), .p (.faddr 0), [.t 7]⟩,
    ⟨7, some 113, some (111, true), .l (.load 7 false 1), [.t 112]⟩,
    ⟨8, some 114, some (111, true), .e .call [] [], [.f 204, .t 113, .c (.int .i64 3)]⟩,
    ⟨9, some 115, some (109, false), .p .pick, [.t 111, .t 114, .c (.bool false)]⟩,
    ⟨10, some 116, none, .p .pick, [.t 109, .c (.bool true), .t 115]⟩,
    ⟨11, some 117, none, .p .mov, [.t 116]⟩,
    ⟨12, some 118, some (117, false), .p .mov, [.t 13]⟩,
    ⟨13, some 119, some (117, false), .p .mov, [.t 118]⟩,
    ⟨14, some 120, some (119, true), .p .mov, [.t 14]⟩,
    ⟨15, some 121, some (119, true), .p .mov, [.t 5]⟩,
    ⟨16, some 122, some (119, true), .p (.bin .neq), [.t 120, .t 121]⟩,
    ⟨17, some 123, some (117, false), .p .pick, [.t 119, .t 122, .c (.bool false)]⟩,
    ⟨18, some 124, none, .p .pick, [.t 117, .c (.bool true), .t 123]⟩,
    ⟨19, some 125, none, .p .mov, [.t 124]⟩,
    ⟨20, some 126, some (125, false), .p .mov, [.t 18]⟩,
    ⟨21, some 127, some (125, false), .p (.un .not), [.t 126]⟩,
    ⟨22, some 128, none, .p .pick, [.t 125, .c (.bool true), .t 127]⟩,
    ⟨23, some 129, none, .p .mov, [.t 128]⟩,
    ⟨24, some 130, some (129, false), .l (.load 17 true 3), [.t 17]⟩,
    ⟨25, some 131, some (129, false), .e .call [] [], [.f 191, .t 130]⟩,
    ⟨26, some 132, some (129, false), .p (.un .not), [.t 131]⟩,
    ⟨27, some 133, none, .p .pick, [.t 129, .c (.bool true), .t 132]⟩,
    ⟨28, some 134, none, .p .mov, [.t 133]⟩,
    ⟨29, some 135, some (134, false), .p .mov, [.t 20]⟩,
    ⟨30, some 136, some (134, false), .p (.un .not), [.t 135]⟩,
    ⟨31, some 137, none, .p .pick, [.t 134, .c (.bool true), .t 136]⟩,
    ⟨32, some 138, none, .p .mov, [.t 137]⟩,
    ⟨33, some 139, some (138, false), .p .mov, [.t 19]⟩,
    ⟨34, some 140, some (138, false), .p (.un .not), [.t 139]⟩,
    ⟨35, some 141, none, .p .pick, [.t 138, .c (.bool true), .t 140]⟩,
    ⟨36, some 142, none, .p .mov, [.t 141]⟩,
    ⟨37, some 143, some (142, false), .p (.faddr 0), [.t 17]⟩,
    ⟨38, some 144, some (142, false), .l (.load 17 false 1), [.t 143]⟩,
    ⟨39, some 145, some (142, false), .p .len, [.t 144]⟩,
    ⟨40, some 146, some (142, false), .p (.faddr 0), [.t 7]⟩,
    ⟨41, some 147, some (142, false), .l (.load 7 false 1), [.t 146]⟩,
    ⟨42, some 148, some (142, false), .p .len, [.t 147]⟩,
    ⟨43, some 149, some (142, false), .p (.bin .neq), [.t 145, .t 148]⟩,
    ⟨44, some 150, none, .p .pick, [.t 142, .c (.bool true), .t 149]⟩])
   (.cond (.t 150) (.seq (.reg 0 [⟨0, some 4, none, .p .mov, [.c (.bool false)]⟩])
   (.ret))
   (.skip)))
   (.seq (.reg 0 [⟨0, some 151, none, .p (.faddr 0), [.t 7]⟩,
    ⟨1, some 152, none, .l (.load 7 false 1), [.t 151]⟩,
    ⟨2, some 153, none, .p .len, [.t 152]⟩,
    ⟨3, some 154, none, .p .mov, [.c (.int .i64 0)]⟩])
   (.block 2 (.loop g199_1)))))))))
   (.skip)))
   (.seq (.reg 0 [⟨0, some 171, none, .p .mov, [.t 1]⟩,
    ⟨1, some 172, none, .e .call [] [], [.f 207, .t 171]⟩,
    ⟨2, some 23, none, .l (.alloc 23 [.nils, .nils, .int .i64 0]), []⟩,
    ⟨3, none, none, .l (.store 23 3), [.t 23, .t 172]⟩])
   (.seq (.reg 0 [⟨0, some 174, none, .l (.load 23 true 3), [.t 23]⟩,
    ⟨1, some 175, none, .e .call [] [], [.f 205, .t 174]⟩,
    ⟨2, some 173, none, .p .mov, [.t 175]⟩,
    ⟨3, some 176, none, .p (.extract 0), [.t 173]⟩,
    ⟨4, some 177, none, .p (.extract 1), [.t 173]⟩,
    ⟨5, some 24, none, .l (.alloc 24 [.nils, .nils, .int .i64 0]), []⟩,
    ⟨6, none, none, .l (.store 24 3), [.t 24, .t 176]⟩,
    ⟨7, some 25, none, .p .mov, [.t 177]⟩])
   (.seq (.reg 0 [⟨0, some 179, none, .l (.load 23 true 3), [.t 23]⟩,
    ⟨1, some 180, none, .e .call [] [], [.f 208, .t 179]⟩,
    ⟨2, some 178, none, .p .mov, [.t 180]⟩,
    ⟨3, some 181, none, .p (.extract 0), [.t 178]⟩,
    ⟨4, some 182, none, .p (.extract 1), [.t 178]⟩,
    ⟨5, some 26, none, .l (.alloc 26 [.nils, .nils, .int .i64 0]), []⟩,
    ⟨6, none, none, .l (.store 26 3), [.t 26, .t 181]⟩,
    ⟨7, some 27, none, .p .mov, [.t 182]⟩])
   (.seq (.reg 0 [⟨0, some 183, none, .p .mov, [.t 1]⟩,
    ⟨1, some 184, none, .e .call [] [], [.f 209, .t 183]⟩,
    ⟨2, some 28, none, .l (.alloc 28 [.nils, .nils, .int .i64 0]), []⟩,
    ⟨3, none, none, .l (.store 28 3), [.t 28, .t 184]⟩])
   (.seq (.reg 0 [⟨0, some 186, none, .l (.load 28 true 3), [.t 28]⟩,
    ⟨1, some 187, none, .e .call [] [], [.f 206, .t 186]⟩,
    ⟨2, some 185, none, .p .mov, [.t 187]⟩,
    ⟨3, some 188, none, .p (.extract 0), [.t 185]⟩,
    ⟨4, some 189, none, .p (.extract 1), [.t 185]⟩,
    ⟨5, some 29, none, .p .mov, [.t 188]⟩,
    ⟨6, some 30, none, .p .mov, [.t 189]⟩])
   (.seq (.reg 0 [⟨0, some 191, none, .l (.load 28 true 3), [.t 28]⟩,
    ⟨1, some 192, none, .e .call [] [], [.f 210, .t 191]⟩,
    ⟨2, some 190, none, .p .mov, [.t 192]⟩,
    ⟨3, some 193, none, .p (.extract 0), [.t 190]⟩,
    ⟨4, some 194, none, .p (.extract 1), [.t 190]⟩,
    ⟨5, some 31, none, .p .mov, [.t 193]⟩,
    ⟨6, some 32, none, .p .mov, [.t 194]⟩])
   (.seq (.reg 0 [⟨0, some 195, none, .p .mov, [.t 25]⟩,
    ⟨1, some 196, none, .p .mov, [.t 27]⟩,
    ⟨2, some 197, none, .p (.eqB false), [.t 195, .t 196]⟩,
    ⟨3, some 198, none, .p .mov, [.t 197]⟩,
    ⟨4, some 199, some (198, true), .l (.load 24 true 3), [.t 24]⟩,
    ⟨5, some 200, some (198, true), .l (.load 26 true 3), [.t 26]⟩,
    ⟨6, some 201, some (198, true), .e .call [] [], [.f 190, .t 199, .t 200]⟩,
    ⟨7, some 202, none, .p .pick, [.t 198, .t 201, .c (.bool false)]⟩,
    ⟨8, some 203, none, .p .mov, [.t 202]⟩,
    ⟨9, some 204, some (203, true), .p .mov, [.t 30]⟩,
    ⟨10, some 205, some (203, true), .p .mov, [.t 32]⟩,
    ⟨11, some 206, some (203, true), .p (.eqB false), [.t 204, .t 205]⟩,
    ⟨12, some 207, none, .p .pick, [.t 203, .t 206, .c (.bool false)]⟩,
    ⟨13, some 208, none, .p .mov, [.t 207]⟩,
    ⟨14, some 209, some (208, true), .p .mov, [.t 29]⟩,
    ⟨15, some 210, some (208, true), .p .mov, [.t 31]⟩,
    ⟨16, some 211, some (208, true), .p (.eqB false), [.t 209, .t 210]⟩,
    ⟨17, some 212, none, .p .pick, [.t 208, .t 211, .c (.bool false)]⟩,
    ⟨18, some 4, none, .p .mov, [.t 212]⟩])
   (.ret)))))))))))))),
  [.tmp 4]⟩
/- loop.example/g00641/laws.sameCommit -/
def g190 : GL.Fn := ⟨.seq (.reg 0 [⟨0, some 2, none, .l (.box 2 3), [.t 0]⟩,
    ⟨1, some 3, none, .l (.box 3 3), [.t 1]⟩,
    ⟨2, some 4, none, .p .mov, [.c (.bool false)]⟩])
   (.seq (.reg 0 [⟨0, some 5, none, .p (.faddr 0), [.t 2]⟩,
    ⟨1, some 6, none, .l (.load 2 false 1), [.t 5]⟩,
    ⟨2, some 7, none, .p (.faddr 0), [.t 3]⟩,
    ⟨3, some 8, none, .l (.load 3 false 1), [.t 7]⟩,
    ⟨4, some 9, none, .e .call [] [], [.f 24, .t 6, .t 8]⟩,
    ⟨5, some 10, none, .p .mov, [.t 9]⟩,
    ⟨6, some 11, some (10, true), .p (.faddr 1), [.t 2]⟩,
    ⟨7, some 12, some (10, true), .l (.load 2 false 1), [.t 11]⟩,
    ⟨8, some 13, some (10, true), .p (.faddr 1), [.t 3]⟩,
    ⟨9, some 14, some (10, true), .l (.load 3 false 1), [.t 13]⟩,
    ⟨10, some 15, some (10, true), .e .call [] [], [.f 24, .t 12, .t 14]⟩,
    ⟨11, some 16, none, .p .pick, [.t 10, .t 15, .c (.bool false)]⟩,
    ⟨12, some 17, none, .p .mov, [.t 16]⟩,
    ⟨13, some 18, some (17, true), .p (.faddr 2), [.t 2]⟩,
    ⟨14, some 19, some (17, true), .l (.load 2 false 1), [.t 18]⟩,
    ⟨15, some 20, some (17, true), .p (.faddr 2), [.t 3]⟩,
    ⟨16, some 21, some (17, true), .l (.load 3 false 1), [.t 20]⟩,
    ⟨17, some 22, some (17, true), .p (.bin .eql), [.t 19, .t 21]⟩,
    ⟨18, some 23, none, .p .pick, [.t 17, .t 22, .c (.bool false)]⟩,
    ⟨19, some 4, none, .p .mov, [.t 23]⟩])
   (.ret)),
  [.tmp 4]⟩
/- loop.example/g00641/impl.GoodCommit -/
def g191_0 : GL.Code := .seq (.reg 0 [⟨0, some 30, none, .p (.bin .lss), [.t 29, .t 28]⟩])
   (.seq (.cond (.t 30) (.skip)
   (.exit 0))
   (.seq (.block 1 (.seq (.reg 0 [⟨0, some 31, none, .p .mov, [.t 29]⟩,
    ⟨1, some 32, none, .p (.idx 1), [.t 27, .t 29]⟩,
    ⟨2, some 33, none, .r (.load false 1) false, [.t 32]⟩,
    ⟨3, some 3, none, .p .mov, [.t 31]⟩,
    ⟨4, some 4, none, .p .mov, [.t 33]⟩])
   (.seq (.reg 0 [⟨0, some 34, none, .p (.faddr 1), [.t 1]⟩,
    ⟨1, some 35, none, .l (.load 1 false 1), [.t 34]⟩,
    ⟨2, some 36, none, .p .mov, [.t 3]⟩,
    ⟨3, some 37, none, .p (.idx 1), [.t 35, .t 36]⟩,
    ⟨4, some 38, none, .r (.load false 1) false, [.t 37]⟩,
    ⟨5, some 5, none, .p .mov, [.t 38]⟩])
   (.block 2 (.seq (.reg 0 [⟨0, some 40, none, .p .mov, [.t 4]⟩,
    ⟨1, some 41, none, .e .call [] [], [.f 107, .t 40, .c (.int .i64 0), .c (.int .i64 3)]⟩,
    ⟨2, some 42, none, .p (.un .not), [.t 41]⟩,
    ⟨3, some 43, none, .p .mov, [.t 42]⟩,
    ⟨4, some 44, some (43, false), .p .mov, [.t 5]⟩,
    ⟨5, some 45, some (43, false), .e .call [] [], [.f 107, .t 44, .c (.int .i64 0), .c (.int .i64 2)]⟩,
    ⟨6, some 46, some (43, false), .p (.un .not), [.t 45]⟩,
    ⟨7, some 47, none, .p .pick, [.t 43, .c (.bool true), .t 46]⟩,
    ⟨8, some 39, none, .p .mov, [.t 47]⟩])
   (.cond (.t 39) (.seq (.reg 0 [⟨0, some 2, none, .p .mov, [.c (.bool false)]⟩])
   (.ret))
   (.seq (.reg 0 [⟨0, some 49, none, .p .mov, [.t 5]⟩,
    ⟨1, some 50, none, .p (.bin .eql), [.t 49, .c (.int .i64 1)]⟩,
    ⟨2, some 51, none, .p .mov, [.t 50]⟩,
    ⟨3, some 52, some (51, true), .p .mov, [.t 4]⟩,
    ⟨4, some 53, some (51, true), .p (.bin .eql), [.t 52, .c (.int .i64 0)]⟩,
    ⟨5, some 54, none, .p .pick, [.t 51, .t 53, .c (.bool false)]⟩,
    ⟨6, some 55, none, .p .mov, [.t 54]⟩,
    ⟨7, some 56, some (55, false), .p .mov, [.t 5]⟩,
    ⟨8, some 57, some (55, false), .p (.bin .eql), [.t 56, .c (.int .i64 2)]⟩,
    ⟨9, some 58, some (55, false), .p .mov, [.t 57]⟩,
    ⟨10, some 59, some (58, true), .p .mov, [.t 4]⟩,
    ⟨11, some 60, some (58, true), .p (.bin .neq), [.t 59, .c (.int .i64 3)]⟩,
    ⟨12, some 61, some (55, false), .p .pick, [.t 58, .t 60, .c (.bool false)]⟩,
    ⟨13, some 62, none, .p .pick, [.t 55, .c (.bool true), .t 61]⟩,
    ⟨14, some 48, none, .p .mov, [.t 62]⟩])
   (.cond (.t 48) (.seq (.reg 0 [⟨0, some 2, none, .p .mov, [.c (.bool false)]⟩])
   (.ret))
   (.seq (.reg 0 [⟨0, some 64, none, .p .mov, [.t 4]⟩,
    ⟨1, some 65, none, .p (.bin .eql), [.t 64, .c (.int .i64 2)]⟩,
    ⟨2, some 66, none, .p .mov, [.t 65]⟩,
    ⟨3, some 67, some (66, true), .p (.faddr 2), [.t 1]⟩,
    ⟨4, some 68, some (66, true), .l (.load 1 false 1), [.t 67]⟩,
    ⟨5, some 69, some (66, true), .p (.bin .neq), [.t 68, .c (.int .i64 1)]⟩,
    ⟨6, some 70, none, .p .pick, [.t 66, .t 69, .c (.bool false)]⟩,
    ⟨7, some 71, none, .p .mov, [.t 70]⟩,
    ⟨8, some 72, some (71, false), .p (.faddr 2), [.t 1]⟩,
    ⟨9, some 73, some (71, false), .l (.load 1 false 1), [.t 72]⟩,
    ⟨10, some 74, some (71, false), .p (.bin .eql), [.t 73, .c (.int .i64 1)]⟩,
    ⟨11, some 75, some (71, false), .p .mov, [.t 74]⟩,
    ⟨12, some 76, some (75, true), .p .mov, [.t 5]⟩,
    ⟨13, some 77, some (75, true), .p (.bin .neq), [.t 76, .c (.int .i64 1)]⟩,
    ⟨14, some 78, some (71, false), .p .pick, [.t 75, .t 77, .c (.bool false)]⟩,
    ⟨15, some 79, none, .p .pick, [.t 71, .c (.bool true), .t 78]⟩,
    ⟨16, some 63, none, .p .mov, [.t 79]⟩])
   (.cond (.t 63) (.seq (.reg 0 [⟨0, some 2, none, .p .mov, [.c (.bool false)]⟩])
   (.ret))
   (.seq (.reg 0 [⟨0, some 81, none, .p .mov, [.t 4]⟩,
    ⟨1, some 82, none, .p (.bin .eql), [.t 81, .c (.int .i64 3)]⟩,
    ⟨2, some 83, none, .p .mov, [.t 82]⟩,
    ⟨3, some 84, some (83, true), .p (.faddr 2), [.t 1]⟩,
    ⟨4, some 85, some (83, true), .l (.load 1 false 1), [.t 84]⟩,
    ⟨5, some 86, some (83, true), .p (.bin .neq), [.t 85, .c (.int .i64 2)]⟩,
    ⟨6, some 87, none, .p .pick, [.t 83, .t 86, .c (.bool false)]⟩,
    ⟨7, some 88, none, .p .mov, [.t 87]⟩,
    ⟨8, some 89, some (88, true), .p (.faddr 2), [.t 1]⟩,
    ⟨9, some 90, some (88, true), .l (.load 1 false 1), [.t 89]⟩,
    ⟨10, some 91, some (88, true), .p (.bin .eql), [.t 90, .c (.int .i64 0)]⟩,
    ⟨11, some 92, some (88, true), .p .mov, [.t 91]⟩,
    ⟨12, some 93, some (92, true), .p (.faddr 1), [.t 1]⟩,
    ⟨13, some 94, some (92, true), .l (.load 1 false 1), [.t 93]⟩,
    ⟨14, some 95, some (92, true), .e .call [] [], [.f 301, .t 94, .c (.int .i64 2)]⟩,
    ⟨15, some 96, some (88, true), .p .pick, [.t 92, .t 95, .c (.bool false)]⟩,
    ⟨16, some 97, some (88, true), .p (.un .not), [.t 96]⟩,
    ⟨17, some 98, none, .p .pick, [.t 88, .t 97, .c (.bool false)]⟩,
    ⟨18, some 80, none, .p .mov, [.t 98]⟩])
   (.cond (.t 80) (.seq (.reg 0 [⟨0, some 2, none, .p .mov, [.c (.bool false)]⟩])
   (.ret))
   (.skip)))))))))))))
   (.reg 0 [⟨0, some 99, none, .p (.bin .add), [.t 29, .c (.int .i64 1)]⟩,
    ⟨1, some 29, none, .p .mov, [.t 99]⟩])))
def g191 : GL.Fn := ⟨.seq (.reg 0 [⟨0, some 1, none, .l (.box 1 3), [.t 0]⟩,
    ⟨1, some 2, none, .p .mov, [.c (.bool false)]⟩])
   (.seq (.seq (.reg 0 [⟨0, some 6, none, .p (.faddr 0), [.t 1]⟩,
    ⟨1, some 7, none, .l (.load 1 false 1), [.t 6]⟩,
    ⟨2, some 8, none, .p .len, [.t 7]⟩,
    ⟨3, some 9, none, .e .call [] [], [.f 107, .t 8, .c (.int .i64 1), .c (.int .i64 5)]⟩,
    ⟨4, some 10, none, .p (.un .not), [.t 9]⟩,
    ⟨5, some 11, none, .p .mov, [.t 10]⟩,
    ⟨6, some 12, some (11, false), .p (.faddr 1), [.t 1]⟩,
    ⟨7, some 13, some (11, false), .l (.load 1 false 1), [.t 12]⟩,
    ⟨8, some 14, some (11, false), .p .len, [.t 13]⟩,
    ⟨9, some 15, some (11, false), .p (.faddr 0), [.t 1]⟩,
    ⟨10, some 16, some (11, false), .l (.load 1 false 1), [.t 15]⟩,
    ⟨11, some 17, some (11, false), .p .len, [.t 16]⟩,
    ⟨12, some 18, some (11, false), .p (.bin .neq), [.t 14, .t 17]⟩,
    ⟨13, some 19, none, .p .pick, [.t 11, .c (.bool true), .t 18]⟩,
    ⟨14, some 20, none, .p .mov, [.t 19]⟩,
    ⟨15, some 21, some (20, false), .p (.faddr 2), [.t 1]⟩,
    ⟨16, some 22, some (20, false), .l (.load 1 false 1), [.t 21]⟩,
    ⟨17, some 23, some (20, false), .e .call [] [], [.f 107, .t 22, .c (.int .i64 0), .c (.int .i64 2)]⟩,
    ⟨18, some 24, some (20, false), .p (.un .not), [.t 23]⟩,
    ⟨19, some 25, none, .p .pick, [.t 20, .c (.bool true), .t 24]⟩])
   (.cond (.t 25) (.seq (.reg 0 [⟨0, some 2, none, .p .mov, [.c (.bool false)]⟩])
   (.ret))
   (.skip)))
   (.seq (.seq (.reg 0 [⟨0, some 26, none, .p (.faddr 0), [.t 1]⟩,
    ⟨1, some 27, none, .l (.load 1 false 1), [.t 26]⟩,
    ⟨2, some 28, none, .p .len, [.t 27]⟩,
    ⟨3, some 29, none, .p .mov, [.c (.int .i64 0)]⟩])
   (.block 0 (.loop g191_0)))
   (.seq (.reg 0 [⟨0, some 2, none, .p .mov, [.c (.bool true)]⟩])
   (.ret)))),
  [.tmp 2]⟩
/- loop.example/g00641/spec.GoodCommit -/
def g192_0 : GL.Code := .seq (.reg 0 [⟨0, some 31, none, .p (.bin .lss), [.t 30, .t 29]⟩])
   (.seq (.cond (.t 31) (.skip)
   (.exit 0))
   (.seq (.block 1 (.seq (.reg 0 [⟨0, some 32, none, .p .mov, [.t 30]⟩,
    ⟨1, some 33, none, .p (.idx 1), [.t 28, .t 30]⟩,
    ⟨2, some 34, none, .r (.load false 1) false, [.t 33]⟩,
    ⟨3, some 3, none, .p .mov, [.t 32]⟩,
    ⟨4, some 4, none, .p .mov, [.t 34]⟩])
   (.seq (.reg 0 [⟨0, some 35, none, .p (.faddr 1), [.t 1]⟩,
    ⟨1, some 36, none, .l (.load 1 false 1), [.t 35]⟩,
    ⟨2, some 37, none, .p .mov, [.t 3]⟩,
    ⟨3, some 38, none, .p (.idx 1), [.t 36, .t 37]⟩,
    ⟨4, some 39, none, .r (.load false 1) false, [.t 38]⟩,
    ⟨5, some 5, none, .p .mov, [.t 39]⟩])
   (.seq (.reg 0 [⟨0, some 40, none, .p (.faddr 1), [.t 1]⟩,
    ⟨1, some 41, none, .l (.load 1 false 1), [.t 40]⟩,
    ⟨2, some 42, none, .e .call [] [], [.f 302, .t 41, .c (.int .i64 2)]⟩,
    ⟨3, some 6, none, .p .mov, [.t 42]⟩])
   (.seq (.seq (.reg 0 [⟨0, some 43, none, .p .mov, [.t 4]⟩,
    ⟨1, some 44, none, .e .call [] [], [.f 98, .t 43, .c (.int .i64 0), .c (.int .i64 3)]⟩,
    ⟨2, some 45, none, .p (.un .not), [.t 44]⟩,
    ⟨3, some 46, none, .p .mov, [.t 45]⟩,
    ⟨4, some 47, some (46, false), .p .mov, [.t 5]⟩,
    ⟨5, some 48, some (46, false), .e .call [] [], [.f 98, .t 47, .c (.int .i64 0), .c (.int .i64 2)]⟩,
    ⟨6, some 49, some (46, false), .p (.un .not), [.t 48]⟩,
    ⟨7, some 50, none, .p .pick, [.t 46, .c (.bool true), .t 49]⟩,
    ⟨8, some 51, none, .p .mov, [.t 50]⟩,
    ⟨9, some 52, some (51, false), .p .mov, [.t 5]⟩,
    ⟨10, some 53, some (51, false), .p (.bin .eql), [.t 52, .c (.int .i64 1)]⟩,
    ⟨11, some 54, some (51, false), .p .mov, [.t 53]⟩,
    ⟨12, some 55, some (54, true), .p .mov, [.t 4]⟩,
    ⟨13, some 56, some (54, true), .p (.bin .eql), [.t 55, .c (.int .i64 0)]⟩,
    ⟨14, some 57, some (51, false), .p .pick, [.t 54, .t 56, .c (.bool false)]⟩,
    ⟨15, some 58, none, .p .pick, [.t 51, .c (.bool true), .t 57]⟩,
    ⟨16, some 59, none, .p .mov, [.t 58]⟩,
    ⟨17, some 60, some (59, false), .p .mov, [.t 5]⟩,
    ⟨18, some 61, some (59, false), .p (.bin .eql), [.t 60, .c (.int .i64 2)]⟩,
    ⟨19, some 62, some (59, false), .p .mov, [.t 61]⟩,
    ⟨20, some 63, some (62, true), .p .mov, [.t 4]⟩,
    ⟨21, some 64, some (62, true), .p (.bin .neq), [.t 63, .c (.int .i64 3)]⟩,
    ⟨22, some 65, some (59, false), .p .pick, [.t 62, .t 64, .c (.bool false)]⟩,
    ⟨23, some 66, none, .p .pick, [.t 59, .c (.bool true), .t 65]⟩])
   (.cond (.t 66) (.seq (.reg 0 [⟨0, some 2, none, .p .mov, [.c (.bool false)]⟩])
   (.ret))
   (.skip)))
   (.seq (.reg 0 [⟨0, some 67, none, .p .mov, [.t 4]⟩,
    ⟨1, some 68, none, .p (.bin .eql), [.t 67, .c (.int .i64 2)]⟩,
    ⟨2, some 69, none, .p .mov, [.t 68]⟩,
    ⟨3, some 70, some (69, true), .p (.faddr 2), [.t 1]⟩,
    ⟨4, some 71, some (69, true), .l (.load 1 false 1), [.t 70]⟩,
    ⟨5, some 72, some (69, true), .p (.bin .neq), [.t 71, .c (.int .i64 1)]⟩,
    ⟨6, some 73, none, .p .pick, [.t 69, .t 72, .c (.bool false)]⟩,
    ⟨7, some 74, none, .p .mov, [.t 73]⟩,
    ⟨8, some 75, some (74, false), .p .mov, [.t 4]⟩,
    ⟨9, some 76, some (74, false), .p (.bin .eql), [.t 75, .c (.int .i64 3)]⟩,
    ⟨10, some 77, some (74, false), .p .mov, [.t 76]⟩,
    ⟨11, some 78, some (77, true), .p (.faddr 2), [.t 1]⟩,
    ⟨12, some 79, some (77, true), .l (.load 1 false 1), [.t 78]⟩,
    ⟨13, some 80, some (77, true), .p (.bin .eql), [.t 79, .c (.int .i64 1)]⟩,
    ⟨14, some 81, some (77, true), .p .mov, [.t 80]⟩,
    ⟨15, some 82, some (81, false), .p (.faddr 2), [.t 1]⟩,
    ⟨16, some 83, some (81, false), .l (.load 1 false 1), [.t 82]⟩,
    ⟨17, some 84, some (81, false), .p (.bin .eql), [.t 83, .c (.int .i64 0)]⟩,
    ⟨18, some 85, some (81, false), .p .mov, [.t 84]⟩,
    ⟨19, some 86, some (85, true), .p .mov, [.t 6]⟩,
    ⟨20, some 87, some (85, true), .p (.un .not), [.t 86]⟩,
    ⟨21, some 88, some (81, false), .p .pick, [.t 85, .t 87, .c (.bool false)]⟩,
    ⟨22, some 89, some (77, true), .p .pick, [.t 81, .c (.bool true), .t 88]⟩,
    ⟨23, some 90, some (74, false), .p .pick, [.t 77, .t 89, .c (.bool false)]⟩,
    ⟨24, some 91, none, .p .pick, [.t 74, .c (.bool true), .t 90]⟩,
    ⟨25, some 92, none, .p .mov, [.t 91]⟩,
    ⟨26, some 93, some (92, false), .p (.faddr 2), [.t 1]⟩,
    ⟨27, some 94, some (92, false), .l (.load 1 false 1), [.t 93]⟩,
    ⟨28, some 95, some (92, false), .p (.bin .eql), [.t 94, .c (.int .i64 1)]⟩,
    ⟨29, some 96, some (92, false), .p .mov, [.t 95]⟩,
    ⟨30, some 97, some (96, true), .p .mov, [.t 5]⟩,
    ⟨31, some 98, some (96, true), .p (.bin .neq), [.t 97, .c (.int .i64 1)]⟩,
    ⟨32, some 99, some (92, false), .p .pick, [.t 96, .t 98, .c (.bool false)]⟩,
    ⟨33, some 100, none, .p .pick, [.t 92, .c (.bool true), .t 99]⟩])
   (.cond (.t 100) (.seq (.reg 0 [⟨0, some 2, none, .p .mov, [.c (.bool false)]⟩])
   (.ret))
   (.skip))))))))
   (.reg 0 [⟨0, some 101, none, .p (.bin .add), [.t 30, .c (.int .i64 1)]⟩,
    ⟨1, some 30, none, .p .mov, [.t 101]⟩])))
def g192 : GL.Fn := ⟨.seq (.reg 0 [⟨0, some 1, none, .l (.box 1 3), [.t 0]⟩,
    ⟨1, some 2, none, .p .mov, [.c (.bool false)]⟩])
   (.seq (.seq (.reg 0 [⟨0, some 7, none, .p (.faddr 0), [.t 1]⟩,
    ⟨1, some 8, none, .l (.load 1 false 1), [.t 7]⟩,
    ⟨2, some 9, none, .p .len, [.t 8]⟩,
    ⟨3, some 10, none, .e .call [] [], [.f 98, .t 9, .c (.int .i64 1), .c (.int .i64 5)]⟩,
    ⟨4, some 11, none, .p (.un .not), [.t 10]⟩,
    ⟨5, some 12, none, .p .mov, [.t 11]⟩,
    ⟨6, some 13, some (12, false), .p (.faddr 1), [.t 1]⟩,
    ⟨7, some 14, some (12, false), .l (.load 1 false 1), [.t 13]⟩,
    ⟨8, some 15, some (12, false), .p .len, [.t 14]⟩,
    ⟨9, some 16, some (12, false), .p (.faddr 0), [.t 1]⟩,
    ⟨10, some 17, some (12, false), .l (.load 1 false 1), [.t 16]⟩,
    ⟨11, some 18, some (12, false), .p .len, [.t 17]⟩,
    ⟨12, some 19, some (12, false), .p (.bin .neq), [.t 15, .t 18]⟩,
    ⟨13, some 20, none, .p .pick, [.t 12, .c (.bool true), .t 19]⟩,
    ⟨14, some 21, none, .p .mov, [.t 20]⟩,
    ⟨15, some 22, some (21, false), .p (.faddr 2), [.t 1]⟩,
    ⟨16, some 23, some (21, false), .l (.load 1 false 1), [.t 22]⟩,
    ⟨17, some 24, some (21, false), .e .call [] [], [.f 98, .t 23, .c (.int .i64 0), .c (.int .i64 2)]⟩,
    ⟨18, some 25, some (21, false), .p (.un .not), [.t 24]⟩,
    ⟨19, some 26, none, .p .pick, [.t 21, .c (.bool true), .t 25]⟩])
   (.cond (.t 26) (.seq (.reg 0 [⟨0, some 2, none, .p .mov, [.c (.bool false)]⟩])
   (.ret))
   (.skip)))
   (.seq (.seq (.reg 0 [⟨0, some 27, none, .p (.faddr 0), [.t 1]⟩,
    ⟨1, some 28, none, .l (.load 1 false 1), [.t 27]⟩,
    ⟨2, some 29, none, .p .len, [.t 28]⟩,
    ⟨3, some 30, none, .p .mov, [.c (.int .i64 0)]⟩])
   (.block 0 (.loop g192_0)))
   (.seq (.reg 0 [⟨0, some 2, none, .p .mov, [.c (.bool true)]⟩])
   (.ret)))),
  [.tmp 2]⟩
/- loop.example/g00641/impl.NewCommit -/
def g197 : GL.Fn := ⟨.seq (.reg 0 [⟨0, some 2, none, .l (.alloc 2 [.nils, .nils, .int .i64 0]), []⟩,
    ⟨1, some 3, none, .p .mov, [.c (.bool false)]⟩])
   (.seq (.seq (.reg 0 [⟨0, some 4, none, .p .mov, [.t 0]⟩,
    ⟨1, some 5, none, .e .call [] [], [.f 107, .t 4, .c (.int .i64 1), .c (.int .i64 5)]⟩,
    ⟨2, some 6, none, .p (.un .not), [.t 5]⟩])
   (.cond (.t 6) (.seq (.reg 0 [⟨0, some 7, none, .p (.build [.nils, .nils, .int .i64 0] []), []⟩,
    ⟨1, none, none, .l (.store 2 3), [.t 2, .t 7]⟩,
    ⟨2, some 3, none, .p .mov, [.c (.bool false)]⟩])
   (.ret))
   (.skip)))
   (.seq (.reg 2 [⟨0, some 8, none, .p .mov, [.t 0]⟩,
    ⟨1, some 9, none, .m (.make 1 8 [.int .i64 0]) 0, [.t 8, .t 8]⟩,
    ⟨2, some 10, none, .p .mov, [.t 0]⟩,
    ⟨3, some 11, none, .m (.make 1 8 [.int .i64 0]) 1, [.t 10, .t 10]⟩,
    ⟨4, some 12, none, .p (.build [.nils, .nils, .int .i64 0] [(0, 1), (1, 1), (2, 1)]), [.t 9, .t 11, .c (.int .i64 0)]⟩,
    ⟨5, none, none, .l (.store 2 3), [.t 2, .t 12]⟩,
    ⟨6, some 3, none, .p .mov, [.c (.bool true)]⟩])
   (.ret))),
  [.cellL 2 2 true 3, .tmp 3]⟩
/- loop.example/g00641/spec.NewCommit -/
def g198 : GL.Fn := ⟨.seq (.reg 0 [⟨0, some 2, none, .l (.alloc 2 [.nils, .nils, .int .i64 0]), []⟩,
    ⟨1, some 3, none, .p .mov, [.c (.bool false)]⟩])
   (.seq (.seq (.reg 0 [⟨0, some 4, none, .p .mov, [.t 0]⟩,
    ⟨1, some 5, none, .e .call [] [], [.f 98, .t 4, .c (.int .i64 1), .c (.int .i64 5)]⟩,
    ⟨2, some 6, none, .p (.un .not), [.t 5]⟩])
   (.cond (.t 6) (.seq (.reg 0 [⟨0, some 7, none, .p (.build [.nils, .nils, .int .i64 0] []), []⟩,
    ⟨1, none, none, .l (.store 2 3), [.t 2, .t 7]⟩,
    ⟨2, some 3, none, .p .mov, [.c (.bool false)]⟩])
   (.ret))
   (.skip)))
   (.seq (.reg 2 [⟨0, some 8, none, .p .mov, [.t 0]⟩,
    ⟨1, some 9, none, .m (.make 1 8 [.int .i64 0]) 0, [.t 8, .t 8]⟩,
    ⟨2, some 10, none, .p .mov, [.t 0]⟩,
    ⟨3, some 11, none, .m (.make 1 8 [.int .i64 0]) 1, [.t 10, .t 10]⟩,
    ⟨4, some 12, none, .p (.build [.nils, .nils, .int .i64 0] [(0, 1), (1, 1)]), [.t 9, .t 11]⟩,
    ⟨5, none, none, .l (.store 2 3), [.t 2, .t 12]⟩,
    ⟨6, some 3, none, .p .mov, [.c (.bool true)]⟩])
   (.ret))),
  [.cellL 2 2 true 3, .tmp 3]⟩
/- loop.example/g00641/spec.DrawPlayCommit -/
def g200 : GL.Fn := ⟨.seq (.reg 0 [⟨0, some 2, none, .p .mov, [.c (.int .i64 0)]⟩,
    ⟨1, some 3, none, .p .mov, [.c (.nils)]⟩])
   (.seq (.reg 0 [⟨0, some 5, none, .p .mov, [.t 0]⟩,
    ⟨1, some 6, none, .p (.build [.nils, .int .i64 0, .int .u64 0] [(0, 1)]), [.t 5]⟩,
    ⟨2, some 7, none, .e (.new (.box 3)) [] [], [.t 6]⟩,
    ⟨3, some 4, none, .p .mov, [.t 7]⟩])
   (.seq (.reg 0 [⟨0, some 8, none, .p .mov, [.t 4]⟩,
    ⟨1, some 9, none, .e (.new (.lit 1)) [] [], [.c (.int .i64 0), .c (.int .i64 1), .c (.int .i64 3), .c (.int .i64 4), .c (.int .i64 4), .c (.int .i64 5), .c (.int .i64 6)]⟩,
    ⟨2, some 10, none, .e .call [] [], [.f 93, .t 8, .t 9]⟩,
    ⟨3, some 11, none, .p .mov, [.t 4]⟩,
    ⟨4, some 12, none, .e .call [] [], [.f 300, .t 11]⟩,
    ⟨5, some 2, none, .p .mov, [.t 10]⟩,
    ⟨6, some 3, none, .p .mov, [.t 12]⟩])
   (.ret))),
  [.tmp 2, .tmp 3]⟩
/- loop.example/g00641/impl.PlayCommit -/
def g201_0 : GL.Code := .seq (.reg 0 [⟨0, some 29, none, .p (.bin .lss), [.t 28, .t 27]⟩])
   (.seq (.cond (.t 29) (.skip)
   (.exit 0))
   (.seq (.block 1 (.seq (.reg 0 [⟨0, some 30, none, .p (.idx 3), [.t 26, .t 28]⟩,
    ⟨1, some 31, none, .r (.load true 3) false, [.t 30]⟩,
    ⟨2, some 11, none, .l (.alloc 11 [.int .i64 0, .int .i64 0, .int .i64 0]), []⟩,
    ⟨3, none, none, .l (.store 11 3), [.t 11, .t 31]⟩])
   (.reg 0 [⟨0, some 32, none, .p .mov, [.t 9]⟩,
    ⟨1, some 33, none, .l (.load 11 true 3), [.t 11]⟩,
    ⟨2, some 34, none, .e .call [] [], [.f 295, .t 7, .t 33]⟩,
    ⟨3, some 35, none, .e (.new (.lit 1)) [] [], [.t 34]⟩,
    ⟨4, some 36, none, .e (.append 1 1) [] [], [.t 32, .t 35]⟩,
    ⟨5, some 9, none, .p .mov, [.t 36]⟩])))
   (.reg 0 [⟨0, some 37, none, .p (.bin .add), [.t 28, .c (.int .i64 1)]⟩,
    ⟨1, some 28, none, .p .mov, [.t 37]⟩])))
def g201 : GL.Fn := ⟨.seq (.reg 0 [⟨0, some 4, none, .l (.alloc 4 [.nils, .nils, .int .i64 0]), []⟩,
    ⟨1, some 5, none, .p .mov, [.c (.nils)]⟩,
    ⟨2, some 6, none, .p .mov, [.c (.bool false)]⟩])
   (.seq (.reg 0 [⟨0, some 13, none, .p .mov, [.t 0]⟩,
    ⟨1, some 14, none, .e .call [] [], [.f 197, .t 13]⟩,
    ⟨2, some 12, none, .p .mov, [.t 14]⟩,
    ⟨3, some 15, none, .p (.extract 0), [.t 12]⟩,
    ⟨4, some 16, none, .p (.extract 1), [.t 12]⟩,
    ⟨5, some 7, none, .e (.new (.alloc [.nils, .nils, .int .i64 0])) [] [], []⟩,
    ⟨6, none, none, .e (.store 3) [] [], [.t 7, .t 15]⟩,
    ⟨7, some 8, none, .p .mov, [.t 16]⟩])
   (.seq (.seq (.reg 0 [⟨0, some 17, none, .p .mov, [.t 8]⟩,
    ⟨1, some 18, none, .p (.un .not), [.t 17]⟩,
    ⟨2, some 19, none, .p .mov, [.t 18]⟩,
    ⟨3, some 20, some (19, false), .p .mov, [.t 1]⟩,
    ⟨4, some 21, some (19, false), .p .len, [.t 20]⟩,
    ⟨5, some 22, some (19, false), .p (.bin .gtr), [.t 21, .c (.int .i64 40)]⟩,
    ⟨6, some 23, none, .p .pick, [.t 19, .c (.bool true), .t 22]⟩])
   (.cond (.t 23) (.seq (.reg 0 [⟨0, some 24, none, .p (.build [.nils, .nils, .int .i64 0] []), []⟩,
    ⟨1, none, none, .l (.store 4 3), [.t 4, .t 24]⟩,
    ⟨2, some 5, none, .p .mov, [.c (.nils)]⟩,
    ⟨3, some 6, none, .p .mov, [.c (.bool false)]⟩])
   (.ret))
   (.skip)))
   (.seq (.reg 0 [⟨0, some 25, none, .e (.new (.lit 1)) [] [], []⟩,
    ⟨1, some 9, none, .p .mov, [.t 25]⟩])
   (.seq (.seq (.reg 0 [⟨0, some 26, none, .p .mov, [.t 1]⟩,
    ⟨1, some 27, none, .p .len, [.t 26]⟩,
    ⟨2, some 28, none, .p .mov, [.c (.int .i64 0)]⟩])
   (.block 0 (.loop g201_0)))
   (.seq (.reg 0 [⟨0, some 38, none, .r (.load true 3) false, [.t 7]⟩,
    ⟨1, some 39, none, .p .mov, [.t 9]⟩,
    ⟨2, none, none, .l (.store 4 3), [.t 4, .t 38]⟩,
    ⟨3, some 5, none, .p .mov, [.t 39]⟩,
    ⟨4, some 6, none, .p .mov, [.c (.bool true)]⟩])
   (.ret)))))),
  [.cellL 4 4 true 3, .tmp 5, .tmp 6]⟩
/- loop.example/g00641/spec.PlayCommit -/
def g202_0 : GL.Code := .seq (.reg 0 [⟨0, some 30, none, .p (.bin .lss), [.t 29, .t 28]⟩])
   (.seq (.cond (.t 30) (.skip)
   (.exit 0))
   (.seq (.block 1 (.seq (.reg 0 [⟨0, some 31, none, .p (.idx 3), [.t 27, .t 29]⟩,
    ⟨1, some 32, none, .r (.load true 3) false, [.t 31]⟩,
    ⟨2, some 11, none, .l (.alloc 11 [.int .i64 0, .int .i64 0, .int .i64 0]), []⟩,
    ⟨3, none, none, .l (.store 11 3), [.t 11, .t 32]⟩])
   (.seq (.reg 0 [⟨0, some 34, none, .l (.load 7 true 3), [.t 7]⟩,
    ⟨1, some 35, none, .e .call [] [], [.f 291, .t 34]⟩,
    ⟨2, some 36, none, .l (.load 11 true 3), [.t 11]⟩,
    ⟨3, some 37, none, .e .call [] [], [.f 292, .t 35, .t 36]⟩,
    ⟨4, some 33, none, .p .mov, [.t 37]⟩,
    ⟨5, some 38, none, .p (.extract 0), [.t 33]⟩,
    ⟨6, some 39, none, .p (.extract 1), [.t 33]⟩,
    ⟨7, some 12, none, .l (.alloc 12 [.nils, .nils, .int .i64 0]), []⟩,
    ⟨8, none, none, .l (.store 12 3), [.t 12, .t 38]⟩,
    ⟨9, some 13, none, .p .mov, [.t 39]⟩])
   (.seq (.seq (.reg 0 [⟨0, some 40, none, .p .mov, [.t 13]⟩])
   (.cond (.t 40) (.reg 0 [⟨0, some 41, none, .l (.load 12 true 3), [.t 12]⟩,
    ⟨1, none, none, .l (.store 7 3), [.t 7, .t 41]⟩])
   (.skip)))
   (.reg 0 [⟨0, some 42, none, .p .mov, [.t 9]⟩,
    ⟨1, some 43, none, .p .mov, [.t 13]⟩,
    ⟨2, some 44, none, .e (.new (.lit 1)) [] [], [.t 43]⟩,
    ⟨3, some 45, none, .e (.append 1 1) [] [], [.t 42, .t 44]⟩,
    ⟨4, some 9, none, .p .mov, [.t 45]⟩])))))
   (.reg 0 [⟨0, some 46, none, .p (.bin .add), [.t 29, .c (.int .i64 1)]⟩,
    ⟨1, some 29, none, .p .mov, [.t 46]⟩])))
def g202 : GL.Fn := ⟨.seq (.reg 0 [⟨0, some 4, none, .l (.alloc 4 [.nils, .nils, .int .i64 0]), []⟩,
    ⟨1, some 5, none, .p .mov, [.c (.nils)]⟩,
    ⟨2, some 6, none, .p .mov, [.c (.bool false)]⟩])
   (.seq (.reg 0 [⟨0, some 15, none, .p .mov, [.t 0]⟩,
    ⟨1, some 16, none, .e .call [] [], [.f 198, .t 15]⟩,
    ⟨2, some 14, none, .p .mov, [.t 16]⟩,
    ⟨3, some 17, none, .p (.extract 0), [.t 14]⟩,
    ⟨4, some 18, none, .p (.extract 1), [.t 14]⟩,
    ⟨5, some 7, none, .l (.alloc 7 [.nils, .nils, .int .i64 0]), []⟩,
    ⟨6, none, none, .l (.store 7 3), [.t 7, .t 17]⟩,
    ⟨7, some 8, none, .p .mov, [.t 18]⟩])
   (.seq (.seq (.reg 0 [⟨0, some 19, none, .p .mov, [.t 8]⟩,
    ⟨1, some 20, none, .p (.un .not), [.t 19]⟩,
    ⟨2, some 21, none, .p .mov, [.t 20]⟩,
    ⟨3, some 22, some (21, false), .p .mov, [.t 1]⟩,
    ⟨4, some 23, some (21, false), .p .len, [.t 22]⟩,
    ⟨5, some 24, some (21, false), .p (.bin .gtr), [.t 23, .c (.int .i64 40)]⟩,
    ⟨6, some 25, none, .p .pick, [.t 21, .c (.bool true), .t 24]⟩])
   (.cond (.t 25) (.seq (.reg 0 [⟨0, some 26, none, .p (.build [.nils, .nils, .int .i64 0] []), []⟩,
    ⟨1, none, none, .l (.store 4 3), [.t 4, .t 26]⟩,
    ⟨2, some 5, none, .p .mov, [.c (.nils)]⟩,
    ⟨3, some 6, none, .p .mov, [.c (.bool false)]⟩])
   (.ret))
   (.skip)))
   (.seq (.reg 0 [⟨0, some 9, none, .p .mov, [.c (.nils)]⟩])
   (.seq (.seq (.reg 0 [⟨0, some 27, none, .p .mov, [.t 1]⟩,
    ⟨1, some 28, none, .p .len, [.t 27]⟩,
    ⟨2, some 29, none, .p .mov, [.c (.int .i64 0)]⟩])
   (.block 0 (.loop g202_0)))
   (.seq (.reg 0 [⟨0, some 47, none, .l (.load 7 true 3), [.t 7]⟩,
    ⟨1, some 48, none, .e .call [] [], [.f 291, .t 47]⟩,
    ⟨2, some 49, none, .p .mov, [.t 9]⟩,
    ⟨3, none, none, .l (.store 4 3), [.t 4, .t 48]⟩,
    ⟨4, some 5, none, .p .mov, [.t 49]⟩,
    ⟨5, some 6, none, .p .mov, [.c (.bool true)]⟩])
   (.ret)))))),
  [.cellL 4 4 true 3, .tmp 5, .tmp 6]⟩
/- loop.example/g00641/laws.sameBools -/
def g203_0 : GL.Code := .seq (.reg 0 [⟨0, some 14, none, .p (.bin .lss), [.t 13, .t 12]⟩])
   (.seq (.cond (.t 14) (.skip)
   (.exit 0))
   (.seq (.block 1 (.seq (.reg 0 [⟨0, some 15, none, .p .mov, [.t 13]⟩,
    ⟨1, some 5, none, .p .mov, [.t 15]⟩])
   (.seq (.reg 0 [⟨0, some 16, none, .p .mov, [.t 0]⟩,
    ⟨1, some 17, none, .p .mov, [.t 5]⟩,
    ⟨2, some 18, none, .p (.idx 1), [.t 16, .t 17]⟩,
    ⟨3, some 19, none, .r (.load false 1) false, [.t 18]⟩,
    ⟨4, some 20, none, .p .mov, [.t 1]⟩,
    ⟨5, some 21, none, .p .mov, [.t 5]⟩,
    ⟨6, some 22, none, .p (.idx 1), [.t 20, .t 21]⟩,
    ⟨7, some 23, none, .r (.load false 1) false, [.t 22]⟩,
    ⟨8, some 24, none, .p (.eqB true), [.t 19, .t 23]⟩])
   (.cond (.t 24) (.seq (.reg 0 [⟨0, some 4, none, .p .mov, [.c (.bool false)]⟩])
   (.ret))
   (.skip)))))
   (.reg 0 [⟨0, some 25, none, .p (.bin .add), [.t 13, .c (.int .i64 1)]⟩,
    ⟨1, some 13, none, .p .mov, [.t 25]⟩])))
def g203 : GL.Fn := ⟨.seq (.reg 0 [⟨0, some 4, none, .p .mov, [.c (.bool false)]⟩])
   (.seq (.seq (.reg 0 [⟨0, some 6, none, .p .mov, [.t 0]⟩,
    ⟨1, some 7, none, .p .len, [.t 6]⟩,
    ⟨2, some 8, none, .p .mov, [.t 1]⟩,
    ⟨3, some 9, none, .p .len, [.t 8]⟩,
    ⟨4, some 10, none, .p (.bin .neq), [.t 7, .t 9]⟩])
   (.cond (.t 10) (.seq (.reg 0 [⟨0, some 4, none, .p .mov, [.c (.bool false)]⟩])
   (.ret))
   (.skip)))
   (.seq (.seq (.reg 0 [⟨0, some 11, none, .p .mov, [.t 0]⟩,
    ⟨1, some 12, none, .p .len, [.t 11]⟩,
    ⟨2, some 13, none, .p .mov, [.c (.int .i64 0)]⟩])
   (.block 0 (.loop g203_0)))
   (.seq (.reg 0 [⟨0, some 4, none, .p .mov, [.c (.bool true)]⟩])
   (.ret)))),
  [.tmp 4]⟩
/- loop.example/g00641/laws.has -/
def g204_0 : GL.Code := .seq (.reg 0 [⟨0, some 10, none, .p (.bin .lss), [.t 9, .t 8]⟩])
   (.seq (.cond (.t 10) (.skip)
   (.exit 0))
   (.seq (.block 1 (.seq (.reg 0 [⟨0, some 11, none, .p (.idx 1), [.t 7, .t 9]⟩,
    ⟨1, some 12, none, .r (.load false 1) false, [.t 11]⟩,
    ⟨2, some 6, none, .p .mov, [.t 12]⟩])
   (.seq (.reg 0 [⟨0, some 13, none, .p .mov, [.t 6]⟩,
    ⟨1, some 14, none, .p .mov, [.t 1]⟩,
    ⟨2, some 15, none, .p (.bin .eql), [.t 13, .t 14]⟩])
   (.cond (.t 15) (.seq (.reg 0 [⟨0, some 4, none, .p .mov, [.c (.bool true)]⟩])
   (.ret))
   (.skip)))))
   (.reg 0 [⟨0, some 16, none, .p (.bin .add), [.t 9, .c (.int .i64 1)]⟩,
    ⟨1, some 9, none, .p .mov, [.t 16]⟩])))
def g204 : GL.Fn := ⟨.seq (.reg 0 [⟨0, some 4, none, .p .mov, [.c (.bool false)]⟩])
   (.seq (.seq (.reg 0 [⟨0, some 7, none, .p .mov, [.t 0]⟩,
    ⟨1, some 8, none, .p .len, [.t 7]⟩,
    ⟨2, some 9, none, .p .mov, [.c (.int .i64 0)]⟩])
   (.block 0 (.loop g204_0)))
   (.seq (.reg 0 [⟨0, some 4, none, .p .mov, [.c (.bool false)]⟩])
   (.ret))),
  [.tmp 4]⟩
/- loop.example/g00641/impl.FinishCommit -/
def g205_0 : GL.Code := .seq (.reg 0 [⟨0, some 17, none, .p (.bin .lss), [.t 16, .t 15]⟩])
   (.seq (.cond (.t 17) (.skip)
   (.exit 0))
   (.seq (.block 1 (.seq (.reg 0 [⟨0, some 18, none, .p .mov, [.t 16]⟩,
    ⟨1, some 5, none, .p .mov, [.t 18]⟩])
   (.reg 0 [⟨0, some 19, none, .p .mov, [.t 5]⟩,
    ⟨1, some 20, none, .e .call [] [], [.f 308, .t 4, .t 19]⟩])))
   (.reg 0 [⟨0, some 21, none, .p (.bin .add), [.t 16, .c (.int .i64 1)]⟩,
    ⟨1, some 16, none, .p .mov, [.t 21]⟩])))
def g205 : GL.Fn := ⟨.seq (.reg 0 [⟨0, some 1, none, .l (.box 1 3), [.t 0]⟩,
    ⟨1, some 2, none, .l (.alloc 2 [.nils, .nils, .int .i64 0]), []⟩,
    ⟨2, some 3, none, .p .mov, [.c (.bool false)]⟩])
   (.seq (.seq (.reg 0 [⟨0, some 6, none, .l (.load 1 true 3), [.t 1]⟩,
    ⟨1, some 7, none, .e .call [] [], [.f 191, .t 6]⟩,
    ⟨2, some 8, none, .p (.un .not), [.t 7]⟩])
   (.cond (.t 8) (.seq (.reg 0 [⟨0, some 9, none, .p (.build [.nils, .nils, .int .i64 0] []), []⟩,
    ⟨1, none, none, .l (.store 2 3), [.t 2, .t 9]⟩,
    ⟨2, some 3, none, .p .mov, [.c (.bool false)]⟩])
   (.ret))
   (.skip)))
   (.seq (.reg 0 [⟨0, some 10, none, .l (.load 1 true 3), [.t 1]⟩,
    ⟨1, some 11, none, .e .call [] [], [.f 294, .t 10]⟩,
    ⟨2, some 4, none, .e (.new (.alloc [.nils, .nils, .int .i64 0])) [] [], []⟩,
    ⟨3, none, none, .e (.store 3) [] [], [.t 4, .t 11]⟩])
   (.seq (.reg 0 [⟨0, some 12, none, .e .call [] [], [.f 307, .t 4]⟩])
   (.seq (.seq (.reg 0 [⟨0, some 13, none, .p (.faddr 0), [.t 4]⟩,
    ⟨1, some 14, none, .r (.load false 1) false, [.t 13]⟩,
    ⟨2, some 15, none, .p .len, [.t 14]⟩,
    ⟨3, some 16, none, .p .mov, [.c (.int .i64 0)]⟩])
   (.block 0 (.loop g205_0)))
   (.seq (.reg 0 [⟨0, some 22, none, .r (.load true 3) false, [.t 4]⟩,
    ⟨1, none, none, .l (.store 2 3), [.t 2, .t 22]⟩,
    ⟨2, some 3, none, .p .mov, [.c (.bool true)]⟩])
   (.ret)))))),
  [.cellL 2 2 true 3, .tmp 3]⟩
/- loop.example/g00641/impl.SaysAll -/
def g206 : GL.Fn := ⟨.seq (.reg 0 [⟨0, some 1, none, .l (.box 1 3), [.t 0]⟩,
    ⟨1, some 2, none, .p .mov, [.c (.bool false)]⟩,
    ⟨2, some 3, none, .p .mov, [.c (.bool false)]⟩])
   (.seq (.seq (.reg 0 [⟨0, some 5, none, .l (.load 1 true 3), [.t 1]⟩,
    ⟨1, some 6, none, .e .call [] [], [.f 191, .t 5]⟩,
    ⟨2, some 7, none, .p (.un .not), [.t 6]⟩])
   (.cond (.t 7) (.seq (.reg 0 [⟨0, some 2, none, .p .mov, [.c (.bool false)]⟩,
    ⟨1, some 3, none, .p .mov, [.c (.bool false)]⟩])
   (.ret))
   (.skip)))
   (.seq (.reg 0 [⟨0, some 8, none, .p (.faddr 0), [.t 1]⟩,
    ⟨1, some 9, none, .l (.load 1 false 1), [.t 8]⟩,
    ⟨2, some 10, none, .p (.idx 1), [.t 9, .c (.int .i64 0)]⟩,
    ⟨3, some 11, none, .r (.load false 1) false, [.t 10]⟩,
    ⟨4, some 4, none, .e (.new (.alloc [.int .i64 0])) [] [], []⟩,
    ⟨5, none, none, .e (.store 1) [] [], [.t 4, .t 11]⟩])
   (.seq (.reg 0 [⟨0, some 12, none, .r (.load false 1) false, [.t 4]⟩,
    ⟨1, some 13, none, .e .call [] [], [.f 305, .t 12]⟩,
    ⟨2, some 14, none, .p .mov, [.t 13]⟩,
    ⟨3, some 15, some (14, true), .p (.faddr 0), [.t 1]⟩,
    ⟨4, some 16, some (14, true), .l (.load 1 false 1), [.t 15]⟩,
    ⟨5, some 17, some (14, true), .p (.mkFn 309), [.t 4]⟩,
    ⟨6, some 18, some (14, true), .e .call [] [], [.f 304, .t 16, .t 17]⟩,
    ⟨7, some 19, some (14, true), .p (.un .not), [.t 18]⟩,
    ⟨8, some 20, none, .p .pick, [.t 14, .t 19, .c (.bool false)]⟩,
    ⟨9, some 2, none, .p .mov, [.t 20]⟩,
    ⟨10, some 3, none, .p .mov, [.c (.bool true)]⟩])
   (.ret)))),
  [.tmp 2, .tmp 3]⟩
/- loop.example/g00641/spec.DrawFinishCommit -/
def g207 : GL.Fn := ⟨.seq (.reg 0 [⟨0, some 2, none, .l (.alloc 2 [.nils, .nils, .int .i64 0]), []⟩])
   (.seq (.reg 0 [⟨0, some 3, none, .p .mov, [.t 0]⟩,
    ⟨1, some 4, none, .e .call [] [], [.f 310, .t 3]⟩,
    ⟨2, none, none, .l (.store 2 3), [.t 2, .t 4]⟩])
   (.ret)),
  [.cellL 2 2 true 3]⟩
/- loop.example/g00641/spec.FinishCommit -/
def g208_0 : GL.Code := .seq (.reg 0 [⟨0, some 24, none, .p (.bin .lss), [.t 23, .t 22]⟩])
   (.seq (.cond (.t 24) (.skip)
   (.exit 0))
   (.seq (.block 1 (.seq (.reg 0 [⟨0, some 25, none, .p .mov, [.t 23]⟩,
    ⟨1, some 6, none, .p .mov, [.t 25]⟩])
   (.seq (.reg 0 [⟨0, some 27, none, .l (.load 4 true 3), [.t 4]⟩,
    ⟨1, some 28, none, .p .mov, [.t 6]⟩,
    ⟨2, some 29, none, .p (.build [.int .i64 0, .int .i64 0, .int .i64 0] [(0, 1), (1, 1)]), [.c (.int .i64 4), .t 28]⟩,
    ⟨3, some 30, none, .e .call [] [], [.f 292, .t 27, .t 29]⟩,
    ⟨4, some 26, none, .p .mov, [.t 30]⟩,
    ⟨5, some 31, none, .p (.extract 0), [.t 26]⟩,
    ⟨6, some 32, none, .p (.extract 1), [.t 26]⟩,
    ⟨7, some 7, none, .l (.alloc 7 [.nils, .nils, .int .i64 0]), []⟩,
    ⟨8, none, none, .l (.store 7 3), [.t 7, .t 31]⟩,
    ⟨9, some 8, none, .p .mov, [.t 32]⟩])
   (.reg 0 [⟨0, some 33, none, .l (.load 7 true 3), [.t 7]⟩,
    ⟨1, none, none, .l (.store 4 3), [.t 4, .t 33]⟩]))))
   (.reg 0 [⟨0, some 34, none, .p (.bin .add), [.t 23, .c (.int .i64 1)]⟩,
    ⟨1, some 23, none, .p .mov, [.t 34]⟩])))
def g208 : GL.Fn := ⟨.seq (.reg 0 [⟨0, some 1, none, .l (.box 1 3), [.t 0]⟩,
    ⟨1, some 2, none, .l (.alloc 2 [.nils, .nils, .int .i64 0]), []⟩,
    ⟨2, some 3, none, .p .mov, [.c (.bool false)]⟩])
   (.seq (.seq (.reg 0 [⟨0, some 9, none, .l (.load 1 true 3), [.t 1]⟩,
    ⟨1, some 10, none, .e .call [] [], [.f 192, .t 9]⟩,
    ⟨2, some 11, none, .p (.un .not), [.t 10]⟩])
   (.cond (.t 11) (.seq (.reg 0 [⟨0, some 12, none, .p (.build [.nils, .nils, .int .i64 0] []), []⟩,
    ⟨1, none, none, .l (.store 2 3), [.t 2, .t 12]⟩,
    ⟨2, some 3, none, .p .mov, [.c (.bool false)]⟩])
   (.ret))
   (.skip)))
   (.seq (.reg 0 [⟨0, some 14, none, .l (.load 1 true 3), [.t 1]⟩,
    ⟨1, some 15, none, .e .call [] [], [.f 291, .t 14]⟩,
    ⟨2, some 16, none, .p (.build [.int .i64 0, .int .i64 0, .int .i64 0] [(0, 1)]), [.c (.int .i64 3)]⟩,
    ⟨3, some 17, none, .e .call [] [], [.f 292, .t 15, .t 16]⟩,
    ⟨4, some 13, none, .p .mov, [.t 17]⟩,
    ⟨5, some 18, none, .p (.extract 0), [.t 13]⟩,
    ⟨6, some 19, none, .p (.extract 1), [.t 13]⟩,
    ⟨7, some 4, none, .l (.alloc 4 [.nils, .nils, .int .i64 0]), []⟩,
    ⟨8, none, none, .l (.store 4 3), [.t 4, .t 18]⟩,
    ⟨9, some 5, none, .p .mov, [.t 19]⟩])
   (.seq (.seq (.reg 0 [⟨0, some 20, none, .p (.faddr 0), [.t 4]⟩,
    ⟨1, some 21, none, .l (.load 4 false 1), [.t 20]⟩,
    ⟨2, some 22, none, .p .len, [.t 21]⟩,
    ⟨3, some 23, none, .p .mov, [.c (.int .i64 0)]⟩])
   (.block 0 (.loop g208_0)))
   (.seq (.reg 0 [⟨0, some 35, none, .l (.load 4 true 3), [.t 4]⟩,
    ⟨1, some 36, none, .e .call [] [], [.f 291, .t 35]⟩,
    ⟨2, none, none, .l (.store 2 3), [.t 2, .t 36]⟩,
    ⟨3, some 3, none, .p .mov, [.c (.bool true)]⟩])
   (.ret))))),
  [.cellL 2 2 true 3, .tmp 3]⟩
/- loop.example/g00641/spec.DrawSaysAll -/
def g209 : GL.Fn := ⟨.seq (.reg 0 [⟨0, some 2, none, .l (.alloc 2 [.nils, .nils, .int .i64 0]), []⟩])
   (.seq (.reg 0 [⟨0, some 3, none, .p .mov, [.t 0]⟩,
    ⟨1, some 4, none, .e .call [] [], [.f 310, .t 3]⟩,
    ⟨2, none, none, .l (.store 2 3), [.t 2, .t 4]⟩])
   (.ret)),
  [.cellL 2 2 true 3]⟩
/- loop.example/g00641/spec.SaysAll -/
def g210 : GL.Fn := ⟨.seq (.reg 0 [⟨0, some 1, none, .l (.box 1 3), [.t 0]⟩,
    ⟨1, some 2, none, .p .mov, [.c (.bool false)]⟩,
    ⟨2, some 3, none, .p .mov, [.c (.bool false)]⟩])
   (.seq (.seq (.reg 0 [⟨0, some 4, none, .l (.load 1 true 3), [.t 1]⟩,
    ⟨1, some 5, none, .e .call [] [], [.f 192, .t 4]⟩,
    ⟨2, some 6, none, .p (.un .not), [.t 5]⟩])
   (.cond (.t 6) (.seq (.reg 0 [⟨0, some 2, none, .p .mov, [.c (.bool false)]⟩,
    ⟨1, some 3, none, .p .mov, [.c (.bool false)]⟩])
   (.ret))
   (.skip)))
   (.seq (.reg 0 [⟨0, some 7, none, .p (.faddr 0), [.t 1]⟩,
    ⟨1, some 8, none, .l (.load 1 false 1), [.t 7]⟩,
    ⟨2, some 9, none, .e .call [] [], [.f 94, .t 8, .c (.int .i64 2), .c (.int .i64 2)]⟩,
    ⟨3, some 10, none, .p .mov, [.t 9]⟩,
    ⟨4, some 11, some (10, false), .p (.faddr 0), [.t 1]⟩,
    ⟨5, some 12, some (10, false), .l (.load 1 false 1), [.t 11]⟩,
    ⟨6, some 13, some (10, false), .e .call [] [], [.f 94, .t 12, .c (.int .i64 3), .c (.int .i64 3)]⟩,
    ⟨7, some 14, none, .p .pick, [.t 10, .c (.bool true), .t 13]⟩,
    ⟨8, some 2, none, .p .mov, [.t 14]⟩,
    ⟨9, some 3, none, .p .mov, [.c (.bool true)]⟩])
   (.ret))),
  [.tmp 2, .tmp 3]⟩
/- loop.example/g00641/laws.sameInts -/
def g24_0 : GL.Code := .seq (.reg 0 [⟨0, some 14, none, .p (.bin .lss), [.t 13, .t 12]⟩])
   (.seq (.cond (.t 14) (.skip)
   (.exit 0))
   (.seq (.block 1 (.seq (.reg 0 [⟨0, some 15, none, .p .mov, [.t 13]⟩,
    ⟨1, some 5, none, .p .mov, [.t 15]⟩])
   (.seq (.reg 0 [⟨0, some 16, none, .p .mov, [.t 0]⟩,
    ⟨1, some 17, none, .p .mov, [.t 5]⟩,
    ⟨2, some 18, none, .p (.idx 1), [.t 16, .t 17]⟩,
    ⟨3, some 19, none, .r (.load false 1) false, [.t 18]⟩,
    ⟨4, some 20, none, .p .mov, [.t 1]⟩,
    ⟨5, some 21, none, .p .mov, [.t 5]⟩,
    ⟨6, some 22, none, .p (.idx 1), [.t 20, .t 21]⟩,
    ⟨7, some 23, none, .r (.load false 1) false, [.t 22]⟩,
    ⟨8, some 24, none, .p (.bin .neq), [.t 19, .t 23]⟩])
   (.cond (.t 24) (.seq (.reg 0 [⟨0, some 4, none, .p .mov, [.c (.bool false)]⟩])
   (.ret))
   (.skip)))))
   (.reg 0 [⟨0, some 25, none, .p (.bin .add), [.t 13, .c (.int .i64 1)]⟩,
    ⟨1, some 13, none, .p .mov, [.t 25]⟩])))
def g24 : GL.Fn := ⟨.seq (.reg 0 [⟨0, some 4, none, .p .mov, [.c (.bool false)]⟩])
   (.seq (.seq (.reg 0 [⟨0, some 6, none, .p .mov, [.t 0]⟩,
    ⟨1, some 7, none, .p .len, [.t 6]⟩,
    ⟨2, some 8, none, .p .mov, [.t 1]⟩,
    ⟨3, some 9, none, .p .len, [.t 8]⟩,
    ⟨4, some 10, none, .p (.bin .neq), [.t 7, .t 9]⟩])
   (.cond (.t 10) (.seq (.reg 0 [⟨0, some 4, none, .p .mov, [.c (.bool false)]⟩])
   (.ret))
   (.skip)))
   (.seq (.seq (.reg 0 [⟨0, some 11, none, .p .mov, [.t 0]⟩,
    ⟨1, some 12, none, .p .len, [.t 11]⟩,
    ⟨2, some 13, none, .p .mov, [.c (.int .i64 0)]⟩])
   (.block 0 (.loop g24_0)))
   (.seq (.reg 0 [⟨0, some 4, none, .p .mov, [.c (.bool true)]⟩])
   (.ret)))),
  [.tmp 4]⟩
/- (*loop.example/g00641/spec.l1Cur).commit -/
def g299 : GL.Fn := ⟨.seq (.reg 0 [⟨0, some 2, none, .l (.alloc 2 [.nils, .nils, .int .i64 0]), []⟩])
   (.seq (.reg 0 [⟨0, some 7, none, .p .mov, [.t 0]⟩,
    ⟨1, some 8, none, .e .call [] [], [.f 91, .t 7, .c (.int .i64 4)]⟩,
    ⟨2, some 9, none, .p (.bin .add), [.c (.int .i64 1), .t 8]⟩,
    ⟨3, some 10, none, .p .mov, [.t 0]⟩,
    ⟨4, some 11, none, .e .call [] [], [.f 300, .t 10]⟩,
    ⟨5, some 12, none, .e .call [] [], [.f 202, .t 9, .t 11]⟩,
    ⟨6, some 6, none, .p .mov, [.t 12]⟩,
    ⟨7, some 13, none, .p (.extract 0), [.t 6]⟩,
    ⟨8, some 14, none, .p (.extract 1), [.t 6]⟩,
    ⟨9, some 15, none, .p (.extract 2), [.t 6]⟩,
    ⟨10, some 3, none, .l (.alloc 3 [.nils, .nils, .int .i64 0]), []⟩,
    ⟨11, none, none, .l (.store 3 3), [.t 3, .t 13]⟩,
    ⟨12, some 4, none, .p .mov, [.t 14]⟩,
    ⟨13, some 5, none, .p .mov, [.t 15]⟩])
   (.seq (.seq (.reg 0 [⟨0, some 16, none, .p .mov, [.t 5]⟩,
    ⟨1, some 17, none, .p (.un .not), [.t 16]⟩])
   (.cond (.t 17) (.reg 0 [⟨0, some 19, none, .e .call [] [], [.f 198, .c (.int .i64 2)]⟩,
    ⟨1, some 18, none, .p .mov, [.t 19]⟩,
    ⟨2, some 20, none, .p (.extract 0), [.t 18]⟩,
    ⟨3, some 21, none, .p (.extract 1), [.t 18]⟩,
    ⟨4, none, none, .l (.store 3 3), [.t 3, .t 20]⟩])
   (.skip)))
   (.seq (.seq (.reg 0 [⟨0, some 22, none, .p .mov, [.t 0]⟩,
    ⟨1, some 23, none, .e .call [] [], [.f 91, .t 22, .c (.int .i64 20)]⟩])
   (.block 0 (.seq (.reg 0 [⟨0, some 25, none, .p (.bin .eql), [.t 23, .c (.int .i64 0)]⟩,
    ⟨1, some 24, none, .p .mov, [.t 25]⟩])
   (.cond (.t 24) (.reg 0 [⟨0, some 26, none, .p .mov, [.t 0]⟩,
    ⟨1, some 27, none, .e .call [] [], [.f 91, .t 26, .c (.int .i64 5)]⟩,
    ⟨2, some 28, none, .p (.bin .sub), [.t 27, .c (.int .i64 1)]⟩,
    ⟨3, some 29, none, .p (.faddr 2), [.t 3]⟩,
    ⟨4, none, none, .l (.store 3 1), [.t 29, .t 28]⟩])
   (.seq (.reg 0 [⟨0, some 31, none, .p (.bin .eql), [.t 23, .c (.int .i64 1)]⟩,
    ⟨1, some 30, none, .p .mov, [.t 31]⟩])
   (.cond (.t 30) (.reg 0 [⟨0, some 32, none, .p (.faddr 0), [.t 3]⟩,
    ⟨1, some 33, none, .l (.load 3 false 1), [.t 32]⟩,
    ⟨2, some 34, none, .p .mov, [.t 0]⟩,
    ⟨3, some 35, none, .e .call [] [], [.f 91, .t 34, .c (.int .i64 5)]⟩,
    ⟨4, some 36, none, .p (.idx 1), [.t 33, .c (.int .i64 0)]⟩,
    ⟨5, none, none, .e (.store 1) [] [], [.t 36, .t 35]⟩])
   (.skip)))))))
   (.seq (.reg 0 [⟨0, some 37, none, .l (.load 3 true 3), [.t 3]⟩,
    ⟨1, none, none, .l (.store 2 3), [.t 2, .t 37]⟩])
   (.ret))))),
  [.cellL 2 2 true 3]⟩
/- (*loop.example/g00641/spec.l1Cur).talks -/
def g300_0 : GL.Code := .seq (.seq (.reg 0 [⟨0, some 13, none, .p .mov, [.t 4]⟩,
    ⟨1, some 14, none, .p (.bin .gtr), [.t 13, .c (.int .i64 0)]⟩])
   (.cond (.t 14) (.skip)
   (.exit 0)))
   (.seq (.block 1 (.seq (.reg 0 [⟨0, some 17, none, .p .mov, [.t 0]⟩,
    ⟨1, some 18, none, .e (.new (.lit 1)) [] [], [.c (.int .i64 1), .c (.int .i64 1), .c (.int .i64 1), .c (.int .i64 1), .c (.int .i64 2), .c (.int .i64 3), .c (.int .i64 4), .c (.int .i64 4), .c (.int .i64 5)]⟩,
    ⟨2, some 19, none, .e .call [] [], [.f 93, .t 17, .t 18]⟩,
    ⟨3, some 20, none, .p .mov, [.t 0]⟩,
    ⟨4, some 21, none, .e .call [] [], [.f 91, .t 20, .c (.int .i64 4)]⟩,
    ⟨5, some 22, none, .p (.build [.int .i64 0, .int .i64 0, .int .i64 0] [(0, 1), (1, 1)]), [.t 19, .t 21]⟩,
    ⟨6, some 5, none, .l (.alloc 5 [.int .i64 0, .int .i64 0, .int .i64 0]), []⟩,
    ⟨7, none, none, .l (.store 5 3), [.t 5, .t 22]⟩])
   (.seq (.seq (.reg 0 [⟨0, some 23, none, .p (.faddr 0), [.t 5]⟩,
    ⟨1, some 24, none, .l (.load 5 false 1), [.t 23]⟩,
    ⟨2, some 25, none, .p (.bin .eql), [.t 24, .c (.int .i64 3)]⟩])
   (.cond (.t 25) (.reg 0 [⟨0, some 26, none, .p (.faddr 1), [.t 5]⟩,
    ⟨1, none, none, .l (.store 5 1), [.t 26, .c (.int .i64 0)]⟩])
   (.skip)))
   (.seq (.seq (.reg 0 [⟨0, some 27, none, .p (.faddr 0), [.t 5]⟩,
    ⟨1, some 28, none, .l (.load 5 false 1), [.t 27]⟩,
    ⟨2, some 29, none, .p (.bin .eql), [.t 28, .c (.int .i64 5)]⟩])
   (.cond (.t 29) (.reg 0 [⟨0, some 30, none, .p .mov, [.t 0]⟩,
    ⟨1, some 31, none, .e .call [] [], [.f 91, .t 30, .c (.int .i64 4)]⟩,
    ⟨2, some 32, none, .p (.faddr 2), [.t 5]⟩,
    ⟨3, none, none, .l (.store 5 1), [.t 32, .t 31]⟩])
   (.skip)))
   (.seq (.seq (.reg 0 [⟨0, some 33, none, .p .mov, [.t 0]⟩,
    ⟨1, some 34, none, .e .call [] [], [.f 92, .t 33, .c (.int .i64 40)]⟩])
   (.cond (.t 34) (.reg 0 [⟨0, some 35, none, .p .mov, [.t 0]⟩,
    ⟨1, some 36, none, .e .call [] [], [.f 91, .t 35, .c (.int .i64 7)]⟩,
    ⟨2, some 37, none, .p .mov, [.t 0]⟩,
    ⟨3, some 38, none, .e .call [] [], [.f 91, .t 37, .c (.int .i64 7)]⟩,
    ⟨4, some 39, none, .p (.bin .sub), [.t 38, .c (.int .i64 1)]⟩,
    ⟨5, some 40, none, .p .mov, [.t 0]⟩,
    ⟨6, some 41, none, .e .call [] [], [.f 91, .t 40, .c (.int .i64 3)]⟩,
    ⟨7, some 42, none, .p (.build [.int .i64 0, .int .i64 0, .int .i64 0] [(0, 1), (1, 1), (2, 1)]), [.t 36, .t 39, .t 41]⟩,
    ⟨8, none, none, .l (.store 5 3), [.t 5, .t 42]⟩])
   (.skip)))
   (.reg 0 [⟨0, some 43, none, .p .mov, [.t 3]⟩,
    ⟨1, some 44, none, .l (.load 5 true 3), [.t 5]⟩,
    ⟨2, some 45, none, .e (.new (.lit 3)) [] [], [.t 44]⟩,
    ⟨3, some 46, none, .e (.append 3 24) [] [], [.t 43, .t 45]⟩,
    ⟨4, some 3, none, .p .mov, [.t 46]⟩]))))))
   (.reg 0 [⟨0, some 15, none, .p .mov, [.t 4]⟩,
    ⟨1, some 16, none, .p (.bin .sub), [.t 15, .c (.int .i64 1)]⟩,
    ⟨2, some 4, none, .p .mov, [.t 16]⟩]))
def g300 : GL.Fn := ⟨.seq (.reg 0 [⟨0, some 2, none, .p .mov, [.c (.nils)]⟩])
   (.seq (.reg 0 [⟨0, some 3, none, .p .mov, [.c (.nils)]⟩])
   (.seq (.reg 0 [⟨0, some 6, none, .p .mov, [.t 0]⟩,
    ⟨1, some 7, none, .e .call [] [], [.f 91, .t 6, .c (.int .i64 16)]⟩,
    ⟨2, some 4, none, .p .mov, [.t 7]⟩])
   (.seq (.seq (.reg 0 [⟨0, some 8, none, .p .mov, [.t 0]⟩,
    ⟨1, some 9, none, .e .call [] [], [.f 92, .t 8, .c (.int .i64 20)]⟩])
   (.cond (.t 9) (.reg 0 [⟨0, some 10, none, .p .mov, [.t 0]⟩,
    ⟨1, some 11, none, .e .call [] [], [.f 91, .t 10, .c (.int .i64 2)]⟩,
    ⟨2, some 12, none, .p (.bin .add), [.c (.int .i64 40), .t 11]⟩,
    ⟨3, some 4, none, .p .mov, [.t 12]⟩])
   (.skip)))
   (.seq (.block 0 (.loop g300_0))
   (.seq (.reg 0 [⟨0, some 47, none, .p .mov, [.t 3]⟩,
    ⟨1, some 2, none, .p .mov, [.t 47]⟩])
   (.ret)))))),
  [.tmp 2]⟩
/- (loop.example/g00641/impl.Commit).cloned -/
def g294 : GL.Fn := ⟨.seq (.reg 0 [⟨0, some 1, none, .l (.box 1 3), [.t 0]⟩,
    ⟨1, some 2, none, .l (.alloc 2 [.nils, .nils, .int .i64 0]), []⟩])
   (.seq (.reg 0 [⟨0, some 3, none, .p (.faddr 0), [.t 1]⟩,
    ⟨1, some 4, none, .l (.load 1 false 1), [.t 3]⟩,
    ⟨2, some 5, none, .e .call [] [], [.f 389, .t 4]⟩,
    ⟨3, some 6, none, .p (.faddr 1), [.t 1]⟩,
    ⟨4, some 7, none, .l (.load 1 false 1), [.t 6]⟩,
    ⟨5, some 8, none, .e .call [] [], [.f 389, .t 7]⟩,
    ⟨6, some 9, none, .p (.faddr 2), [.t 1]⟩,
    ⟨7, some 10, none, .l (.load 1 false 1), [.t 9]⟩,
    ⟨8, some 11, none, .p (.build [.nils, .nils, .int .i64 0] [(0, 1), (1, 1), (2, 1)]), [.t 5, .t 8, .t 10]⟩,
    ⟨9, none, none, .l (.store 2 3), [.t 2, .t 11]⟩])
   (.ret)),
  [.cellL 2 2 true 3]⟩
/- (*loop.example/g00641/impl.Commit).step -/
def g295 : GL.Fn := ⟨.seq (.reg 0 [⟨0, some 3, none, .l (.box 3 3), [.t 1]⟩,
    ⟨1, some 4, none, .p .mov, [.c (.bool false)]⟩])
   (.seq (.seq (.reg 0 [⟨0, some 6, none, .p .mov, [.t 0]⟩,
    ⟨1, some 7, none, .p .nilCheck, [.t 6]⟩,
    ⟨2, some 8, none, .r (.load true 3) false, [.t 7]⟩,
    ⟨3, some 9, none, .p (.faddr 1), [.t 3]⟩,
    ⟨4, some 10, none, .l (.load 3 false 1), [.t 9]⟩,
    ⟨5, some 11, none, .e .call [] [], [.f 303, .t 8, .t 10]⟩,
    ⟨6, some 12, none, .p (.un .not), [.t 11]⟩,
    ⟨7, some 13, none, .p .mov, [.t 12]⟩,
    ⟨8, some 14, some (13, false), .p (.faddr 0), [.t 3]⟩,
    ⟨9, some 15, some (13, false), .l (.load 3 false 1), [.t 14]⟩,
    ⟨10, some 16, some (13, false), .p (.bin .neq), [.t 15, .c (.int .i64 5)]⟩,
    ⟨11, some 17, some (13, false), .p .mov, [.t 16]⟩,
    ⟨12, some 18, some (17, true), .p (.faddr 2), [.t 3]⟩,
    ⟨13, some 19, some (17, true), .l (.load 3 false 1), [.t 18]⟩,
    ⟨14, some 20, some (17, true), .p (.bin .neq), [.t 19, .c (.int .i64 0)]⟩,
    ⟨15, some 21, some (13, false), .p .pick, [.t 17, .t 20, .c (.bool false)]⟩,
    ⟨16, some 22, none, .p .pick, [.t 13, .c (.bool true), .t 21]⟩])
   (.cond (.t 22) (.seq (.reg 0 [⟨0, some 4, none, .p .mov, [.c (.bool false)]⟩])
   (.ret))
   (.skip)))
   (.seq (.reg 0 [⟨0, some 23, none, .p .mov, [.t 0]⟩,
    ⟨1, some 24, none, .p .nilCheck, [.t 23]⟩,
    ⟨2, some 25, none, .p (.faddr 0), [.t 24]⟩,
    ⟨3, some 26, none, .r (.load false 1) false, [.t 25]⟩,
    ⟨4, some 27, none, .p (.faddr 1), [.t 3]⟩,
    ⟨5, some 28, none, .l (.load 3 false 1), [.t 27]⟩,
    ⟨6, some 29, none, .p (.idx 1), [.t 26, .t 28]⟩,
    ⟨7, some 30, none, .r (.load false 1) false, [.t 29]⟩,
    ⟨8, some 5, none, .p .mov, [.t 30]⟩])
   (.seq (.seq (.reg 0 [⟨0, some 31, none, .p (.faddr 0), [.t 3]⟩,
    ⟨1, some 32, none, .l (.load 3 false 1), [.t 31]⟩])
   (.block 0 (.seq (.reg 0 [⟨0, some 34, none, .p (.bin .eql), [.t 32, .c (.int .i64 1)]⟩,
    ⟨1, some 33, none, .p .mov, [.t 34]⟩])
   (.cond (.t 33) (.seq (.seq (.reg 0 [⟨0, some 35, none, .p .mov, [.t 5]⟩,
    ⟨1, some 36, none, .p (.bin .neq), [.t 35, .c (.int .i64 0)]⟩,
    ⟨2, some 37, none, .p .mov, [.t 36]⟩,
    ⟨3, some 38, some (37, false), .p .mov, [.t 0]⟩,
    ⟨4, some 39, some (37, false), .p .nilCheck, [.t 38]⟩,
    ⟨5, some 40, some (37, false), .p (.faddr 2), [.t 39]⟩,
    ⟨6, some 41, some (37, false), .r (.load false 1) false, [.t 40]⟩,
    ⟨7, some 42, some (37, false), .p (.bin .neq), [.t 41, .c (.int .i64 0)]⟩,
    ⟨8, some 43, none, .p .pick, [.t 37, .c (.bool true), .t 42]⟩])
   (.cond (.t 43) (.seq (.reg 0 [⟨0, some 4, none, .p .mov, [.c (.bool false)]⟩])
   (.ret))
   (.skip)))
   (.seq (.reg 0 [⟨0, some 44, none, .p .mov, [.t 0]⟩,
    ⟨1, some 45, none, .p .nilCheck, [.t 44]⟩,
    ⟨2, some 46, none, .p (.faddr 0), [.t 45]⟩,
    ⟨3, some 47, none, .r (.load false 1) false, [.t 46]⟩,
    ⟨4, some 48, none, .p (.faddr 1), [.t 3]⟩,
    ⟨5, some 49, none, .l (.load 3 false 1), [.t 48]⟩,
    ⟨6, some 50, none, .p .mov, [.t 0]⟩,
    ⟨7, some 51, none, .p .nilCheck, [.t 50]⟩,
    ⟨8, some 52, none, .p (.faddr 1), [.t 51]⟩,
    ⟨9, some 53, none, .r (.load false 1) false, [.t 52]⟩,
    ⟨10, some 54, none, .p (.faddr 1), [.t 3]⟩,
    ⟨11, some 55, none, .l (.load 3 false 1), [.t 54]⟩,
    ⟨12, some 56, none, .p (.idx 1), [.t 47, .t 49]⟩,
    ⟨13, none, none, .e (.store 1) [] [], [.t 56, .c (.int .i64 1)]⟩,
    ⟨14, some 57, none, .p (.idx 1), [.t 53, .t 55]⟩,
    ⟨15, none, none, .e (.store 1) [] [], [.t 57, .c (.int .i64 1)]⟩])
   (.seq (.reg 0 [⟨0, some 4, none, .p .mov, [.c (.bool true)]⟩])
   (.ret))))
   (.seq (.reg 0 [⟨0, some 59, none, .p (.bin .eql), [.t 32, .c (.int .i64 2)]⟩,
    ⟨1, some 58, none, .p .mov, [.t 59]⟩])
   (.cond (.t 58) (.seq (.seq (.reg 0 [⟨0, some 60, none, .p .mov, [.t 5]⟩,
    ⟨1, some 61, none, .p (.bin .neq), [.t 60, .c (.int .i64 0)]⟩,
    ⟨2, some 62, none, .p .mov, [.t 61]⟩,
    ⟨3, some 63, some (62, false), .p .mov, [.t 0]⟩,
    ⟨4, some 64, some (62, false), .p .nilCheck, [.t 63]⟩,
    ⟨5, some 65, some (62, false), .p (.faddr 2), [.t 64]⟩,
    ⟨6, some 66, some (62, false), .r (.load false 1) false, [.t 65]⟩,
    ⟨7, some 67, some (62, false), .p (.bin .eql), [.t 66, .c (.int .i64 1)]⟩,
    ⟨8, some 68, none, .p .pick, [.t 62, .c (.bool true), .t 67]⟩])
   (.cond (.t 68) (.seq (.reg 0 [⟨0, some 4, none, .p .mov, [.c (.bool false)]⟩])
   (.ret))
   (.skip)))
   (.seq (.reg 0 [⟨0, some 69, none, .p .mov, [.t 0]⟩,
    ⟨1, some 70, none, .p .nilCheck, [.t 69]⟩,
    ⟨2, some 71, none, .p (.faddr 0), [.t 70]⟩,
    ⟨3, some 72, none, .r (.load false 1) false, [.t 71]⟩,
    ⟨4, some 73, none, .p (.faddr 1), [.t 3]⟩,
    ⟨5, some 74, none, .l (.load 3 false 1), [.t 73]⟩,
    ⟨6, some 75, none, .p .mov, [.t 0]⟩,
    ⟨7, some 76, none, .p .nilCheck, [.t 75]⟩,
    ⟨8, some 77, none, .p (.faddr 1), [.t 76]⟩,
    ⟨9, some 78, none, .r (.load false 1) false, [.t 77]⟩,
    ⟨10, some 79, none, .p (.faddr 1), [.t 3]⟩,
    ⟨11, some 80, none, .l (.load 3 false 1), [.t 79]⟩,
    ⟨12, some 81, none, .p (.idx 1), [.t 72, .t 74]⟩,
    ⟨13, none, none, .e (.store 1) [] [], [.t 81, .c (.int .i64 3)]⟩,
    ⟨14, some 82, none, .p (.idx 1), [.t 78, .t 80]⟩,
    ⟨15, none, none, .e (.store 1) [] [], [.t 82, .c (.int .i64 2)]⟩])
   (.seq (.reg 0 [⟨0, some 4, none, .p .mov, [.c (.bool true)]⟩])
   (.ret))))
   (.seq (.reg 0 [⟨0, some 84, none, .p (.bin .eql), [.t 32, .c (.int .i64 3)]⟩,
    ⟨1, some 83, none, .p .mov, [.t 84]⟩])
   (.cond (.t 83) (.seq (.reg 0 [⟨0, some 85, none, .p (.faddr 1), [.t 3]⟩,
    ⟨1, some 86, none, .l (.load 3 false 1), [.t 85]⟩,
    ⟨2, some 87, none, .p (.bin .eql), [.t 86, .c (.int .i64 0)]⟩,
    ⟨3, some 88, none, .p .mov, [.t 87]⟩,
    ⟨4, some 89, some (88, true), .p .mov, [.t 0]⟩,
    ⟨5, some 90, some (88, true), .e .call [] [], [.f 307, .t 89]⟩,
    ⟨6, some 91, none, .p .pick, [.t 88, .t 90, .c (.bool false)]⟩,
    ⟨7, some 4, none, .p .mov, [.t 91]⟩])
   (.ret))
   (.seq (.reg 0 [⟨0, some 93, none, .p (.bin .eql), [.t 32, .c (.int .i64 4)]⟩,
    ⟨1, some 92, none, .p .mov, [.t 93]⟩])
   (.cond (.t 92) (.seq (.reg 0 [⟨0, some 94, none, .p .mov, [.t 0]⟩,
    ⟨1, some 95, none, .p (.faddr 1), [.t 3]⟩,
    ⟨2, some 96, none, .l (.load 3 false 1), [.t 95]⟩,
    ⟨3, some 97, none, .e .call [] [], [.f 308, .t 94, .t 96]⟩,
    ⟨4, some 4, none, .p .mov, [.t 97]⟩])
   (.ret))
   (.seq (.reg 0 [⟨0, some 99, none, .p (.bin .eql), [.t 32, .c (.int .i64 5)]⟩,
    ⟨1, some 98, none, .p .mov, [.t 99]⟩])
   (.cond (.t 98) (.seq (.seq (.reg 0 [⟨0, some 100, none, .p .mov, [.t 0]⟩,
    ⟨1, some 101, none, .p .nilCheck, [.t 100]⟩,
    ⟨2, some 102, none, .r (.load true 3) false, [.t 101]⟩,
    ⟨3, some 103, none, .p (.faddr 2), [.t 3]⟩,
    ⟨4, some 104, none, .l (.load 3 false 1), [.t 103]⟩,
    ⟨5, some 105, none, .e .call [] [], [.f 303, .t 102, .t 104]⟩,
    ⟨6, some 106, none, .p (.un .not), [.t 105]⟩,
    ⟨7, some 107, none, .p .mov, [.t 106]⟩,
    ⟨8, some 108, some (107, false), .p (.faddr 2), [.t 3]⟩,
    ⟨9, some 109, some (107, false), .l (.load 3 false 1), [.t 108]⟩,
    ⟨10, some 110, some (107, false), .p (.faddr 1), [.t 3]⟩,
    ⟨11, some 111, some (107, false), .l (.load 3 false 1), [.t 110]⟩,
    ⟨12, some 112, some (107, false), .p (.bin .eql), [.t 109, .t 111]⟩,
    ⟨13, some 113, none, .p .pick, [.t 107, .c (.bool true), .t 112]⟩,
    ⟨14, some 114, none, .p .mov, [.t 113]⟩,
    ⟨15, some 115, some (114, false), .p .mov, [.t 5]⟩,
    ⟨16, some 116, some (114, false), .p (.bin .neq), [.t 115, .c (.int .i64 1)]⟩,
    ⟨17, some 117, none, .p .pick, [.t 114, .c (.bool true), .t 116]⟩,
    ⟨18, some 118, none, .p .mov, [.t 117]⟩,
    ⟨19, some 119, some (118, false), .p .mov, [.t 0]⟩,
    ⟨20, some 120, some (118, false), .p .nilCheck, [.t 119]⟩,
    ⟨21, some 121, some (118, false), .p (.faddr 0), [.t 120]⟩,
    ⟨22, some 122, some (118, false), .r (.load false 1) false, [.t 121]⟩,
    ⟨23, some 123, some (118, false), .p (.faddr 2), [.t 3]⟩,
    ⟨24, some 124, some (118, false), .l (.load 3 false 1), [.t 123]⟩,
    ⟨25, some 125, some (118, false), .p (.idx 1), [.t 122, .t 124]⟩,
    ⟨26, some 126, some (118, false), .r (.load false 1) false, [.t 125]⟩,
    ⟨27, some 127, some (118, false), .e .call [] [], [.f 305, .t 126]⟩,
    ⟨28, some 128, some (118, false), .p (.un .not), [.t 127]⟩,
    ⟨29, some 129, none, .p .pick, [.t 118, .c (.bool true), .t 128]⟩])
   (.cond (.t 129) (.seq (.reg 0 [⟨0, some 4, none, .p .mov, [.c (.bool false)]⟩])
   (.ret))
   (.skip)))
   (.seq (.reg 0 [⟨0, some 130, none, .p .mov, [.t 0]⟩,
    ⟨1, some 131, none, .p .nilCheck, [.t 130]⟩,
    ⟨2, some 132, none, .p (.faddr 0), [.t 131]⟩,
    ⟨3, some 133, none, .r (.load false 1) false, [.t 132]⟩,
    ⟨4, some 134, none, .p (.faddr 1), [.t 3]⟩,
    ⟨5, some 135, none, .l (.load 3 false 1), [.t 134]⟩,
    ⟨6, some 136, none, .p .mov, [.t 0]⟩,
    ⟨7, some 137, none, .p .nilCheck, [.t 136]⟩,
    ⟨8, some 138, none, .p (.faddr 0), [.t 137]⟩,
    ⟨9, some 139, none, .r (.load false 1) false, [.t 138]⟩,
    ⟨10, some 140, none, .p (.faddr 2), [.t 3]⟩,
    ⟨11, some 141, none, .l (.load 3 false 1), [.t 140]⟩,
    ⟨12, some 142, none, .p (.idx 1), [.t 139, .t 141]⟩,
    ⟨13, some 143, none, .r (.load false 1) false, [.t 142]⟩,
    ⟨14, some 144, none, .p (.idx 1), [.t 133, .t 135]⟩,
    ⟨15, none, none, .e (.store 1) [] [], [.t 144, .t 143]⟩])
   (.seq (.reg 0 [⟨0, some 4, none, .p .mov, [.c (.bool true)]⟩])
   (.ret))))
   (.skip)))))))))))))
   (.seq (.reg 0 [⟨0, some 4, none, .p .mov, [.c (.bool false)]⟩])
   (.ret))))),
  [.tmp 4]⟩
/- loop.example/g00641/spec.l16Step -/
def g292 : GL.Fn := ⟨.seq (.reg 0 [⟨0, some 2, none, .l (.box 2 3), [.t 0]⟩,
    ⟨1, some 3, none, .l (.box 3 3), [.t 1]⟩,
    ⟨2, some 4, none, .l (.alloc 4 [.nils, .nils, .int .i64 0]), []⟩,
    ⟨3, some 5, none, .p .mov, [.c (.bool false)]⟩])
   (.seq (.reg 0 [⟨0, some 8, none, .p (.faddr 0), [.t 2]⟩,
    ⟨1, some 9, none, .l (.load 2 false 1), [.t 8]⟩,
    ⟨2, some 10, none, .p .len, [.t 9]⟩,
    ⟨3, some 6, none, .p .mov, [.t 10]⟩])
   (.seq (.seq (.reg 0 [⟨0, some 11, none, .p (.faddr 1), [.t 3]⟩,
    ⟨1, some 12, none, .l (.load 3 false 1), [.t 11]⟩,
    ⟨2, some 13, none, .p .mov, [.t 6]⟩,
    ⟨3, some 14, none, .p (.bin .sub), [.t 13, .c (.int .i64 1)]⟩,
    ⟨4, some 15, none, .e .call [] [], [.f 98, .t 12, .c (.int .i64 0), .t 14]⟩,
    ⟨5, some 16, none, .p (.un .not), [.t 15]⟩,
    ⟨6, some 17, none, .p .mov, [.t 16]⟩,
    ⟨7, some 18, some (17, false), .p (.faddr 2), [.t 3]⟩,
    ⟨8, some 19, some (17, false), .l (.load 3 false 1), [.t 18]⟩,
    ⟨9, some 20, some (17, false), .p .mov, [.t 6]⟩,
    ⟨10, some 21, some (17, false), .p (.bin .sub), [.t 20, .c (.int .i64 1)]⟩,
    ⟨11, some 22, some (17, false), .e .call [] [], [.f 98, .t 19, .c (.int .i64 0), .t 21]⟩,
    ⟨12, some 23, some (17, false), .p (.un .not), [.t 22]⟩,
    ⟨13, some 24, none, .p .pick, [.t 17, .c (.bool true), .t 23]⟩,
    ⟨14, some 25, none, .p .mov, [.t 24]⟩,
    ⟨15, some 26, some (25, false), .p (.faddr 0), [.t 3]⟩,
    ⟨16, some 27, some (25, false), .l (.load 3 false 1), [.t 26]⟩,
    ⟨17, some 28, some (25, false), .p (.bin .neq), [.t 27, .c (.int .i64 5)]⟩,
    ⟨18, some 29, some (25, false), .p .mov, [.t 28]⟩,
    ⟨19, some 30, some (29, true), .p (.faddr 2), [.t 3]⟩,
    ⟨20, some 31, some (29, true), .l (.load 3 false 1), [.t 30]⟩,
    ⟨21, some 32, some (29, true), .p (.bin .neq), [.t 31, .c (.int .i64 0)]⟩,
    ⟨22, some 33, some (25, false), .p .pick, [.t 29, .t 32, .c (.bool false)]⟩,
    ⟨23, some 34, none, .p .pick, [.t 25, .c (.bool true), .t 33]⟩])
   (.cond (.t 34) (.seq (.reg 0 [⟨0, some 35, none, .l (.load 2 true 3), [.t 2]⟩,
    ⟨1, none, none, .l (.store 4 3), [.t 4, .t 35]⟩,
    ⟨2, some 5, none, .p .mov, [.c (.bool false)]⟩])
   (.ret))
   (.skip)))
   (.seq (.reg 0 [⟨0, some 36, none, .p (.faddr 0), [.t 2]⟩,
    ⟨1, some 37, none, .l (.load 2 false 1), [.t 36]⟩,
    ⟨2, some 38, none, .p (.faddr 1), [.t 3]⟩,
    ⟨3, some 39, none, .l (.load 3 false 1), [.t 38]⟩,
    ⟨4, some 40, none, .p (.idx 1), [.t 37, .t 39]⟩,
    ⟨5, some 41, none, .r (.load false 1) false, [.t 40]⟩,
    ⟨6, some 7, none, .p .mov, [.t 41]⟩])
   (.seq (.block 0 (.seq (.reg 0 [⟨0, some 44, none, .p (.faddr 0), [.t 3]⟩,
    ⟨1, some 45, none, .l (.load 3 false 1), [.t 44]⟩,
    ⟨2, some 46, none, .p (.bin .eql), [.t 45, .c (.int .i64 1)]⟩,
    ⟨3, some 47, none, .p .mov, [.t 46]⟩,
    ⟨4, some 48, some (47, true), .p .mov, [.t 7]⟩,
    ⟨5, some 49, some (47, true), .p (.bin .eql), [.t 48, .c (.int .i64 0)]⟩,
    ⟨6, some 50, none, .p .pick, [.t 47, .t 49, .c (.bool false)]⟩,
    ⟨7, some 51, none, .p .mov, [.t 50]⟩,
    ⟨8, some 52, some (51, true), .p (.faddr 2), [.t 2]⟩,
    ⟨9, some 53, some (51, true), .l (.load 2 false 1), [.t 52]⟩,
    ⟨10, some 54, some (51, true), .p (.bin .eql), [.t 53, .c (.int .i64 0)]⟩,
    ⟨11, some 55, none, .p .pick, [.t 51, .t 54, .c (.bool false)]⟩,
    ⟨12, some 43, none, .p .mov, [.t 55]⟩])
   (.cond (.t 43) (.seq (.reg 0 [⟨0, some 56, none, .p (.faddr 0), [.t 2]⟩,
    ⟨1, some 57, none, .l (.load 2 false 1), [.t 56]⟩,
    ⟨2, some 58, none, .p (.faddr 1), [.t 3]⟩,
    ⟨3, some 59, none, .l (.load 3 false 1), [.t 58]⟩,
    ⟨4, some 60, none, .p (.idx 1), [.t 57, .t 59]⟩,
    ⟨5, none, none, .e (.store 1) [] [], [.t 60, .c (.int .i64 1)]⟩])
   (.reg 0 [⟨0, some 61, none, .p (.faddr 1), [.t 2]⟩,
    ⟨1, some 62, none, .l (.load 2 false 1), [.t 61]⟩,
    ⟨2, some 63, none, .p (.faddr 1), [.t 3]⟩,
    ⟨3, some 64, none, .l (.load 3 false 1), [.t 63]⟩,
    ⟨4, some 65, none, .p (.idx 1), [.t 62, .t 64]⟩,
    ⟨5, none, none, .e (.store 1) [] [], [.t 65, .c (.int .i64 1)]⟩]))
   (.seq (.reg 0 [⟨0, some 67, none, .p (.faddr 0), [.t 3]⟩,
    ⟨1, some 68, none, .l (.load 3 false 1), [.t 67]⟩,
    ⟨2, some 69, none, .p (.bin .eql), [.t 68, .c (.int .i64 2)]⟩,
    ⟨3, some 70, none, .p .mov, [.t 69]⟩,
    ⟨4, some 71, some (70, true), .p .mov, [.t 7]⟩,
    ⟨5, some 72, some (70, true), .p (.bin .eql), [.t 71, .c (.int .i64 0)]⟩,
    ⟨6, some 73, none, .p .pick, [.t 70, .t 72, .c (.bool false)]⟩,
    ⟨7, some 74, none, .p .mov, [.t 73]⟩,
    ⟨8, some 75, some (74, true), .p (.faddr 2), [.t 2]⟩,
    ⟨9, some 76, some (74, true), .l (.load 2 false 1), [.t 75]⟩,
    ⟨10, some 77, some (74, true), .p (.bin .neq), [.t 76, .c (.int .i64 1)]⟩,
    ⟨11, some 78, none, .p .pick, [.t 74, .t 77, .c (.bool false)]⟩,
    ⟨12, some 66, none, .p .mov, [.t 78]⟩])
   (.cond (.t 66) (.seq (.reg 0 [⟨0, some 79, none, .p (.faddr 0), [.t 2]⟩,
    ⟨1, some 80, none, .l (.load 2 false 1), [.t 79]⟩,
    ⟨2, some 81, none, .p (.faddr 1), [.t 3]⟩,
    ⟨3, some 82, none, .l (.load 3 false 1), [.t 81]⟩,
    ⟨4, some 83, none, .p (.idx 1), [.t 80, .t 82]⟩,
    ⟨5, none, none, .e (.store 1) [] [], [.t 83, .c (.int .i64 3)]⟩])
   (.reg 0 [⟨0, some 84, none, .p (.faddr 1), [.t 2]⟩,
    ⟨1, some 85, none, .l (.load 2 false 1), [.t 84]⟩,
    ⟨2, some 86, none, .p (.faddr 1), [.t 3]⟩,
    ⟨3, some 87, none, .l (.load 3 false 1), [.t 86]⟩,
    ⟨4, some 88, none, .p (.idx 1), [.t 85, .t 87]⟩,
    ⟨5, none, none, .e (.store 1) [] [], [.t 88, .c (.int .i64 2)]⟩]))
   (.seq (.reg 0 [⟨0, some 90, none, .p (.faddr 0), [.t 3]⟩,
    ⟨1, some 91, none, .l (.load 3 false 1), [.t 90]⟩,
    ⟨2, some 92, none, .p (.bin .eql), [.t 91, .c (.int .i64 3)]⟩,
    ⟨3, some 93, none, .p .mov, [.t 92]⟩,
    ⟨4, some 94, some (93, true), .p (.faddr 1), [.t 3]⟩,
    ⟨5, some 95, some (93, true), .l (.load 3 false 1), [.t 94]⟩,
    ⟨6, some 96, some (93, true), .p (.bin .eql), [.t 95, .c (.int .i64 0)]⟩,
    ⟨7, some 97, none, .p .pick, [.t 93, .t 96, .c (.bool false)]⟩,
    ⟨8, some 98, none, .p .mov, [.t 97]⟩,
    ⟨9, some 99, some (98, true), .p (.faddr 2), [.t 2]⟩,
    ⟨10, some 100, some (98, true), .l (.load 2 false 1), [.t 99]⟩,
    ⟨11, some 101, some (98, true), .p (.bin .eql), [.t 100, .c (.int .i64 0)]⟩,
    ⟨12, some 102, none, .p .pick, [.t 98, .t 101, .c (.bool false)]⟩,
    ⟨13, some 89, none, .p .mov, [.t 102]⟩])
   (.cond (.t 89) (.reg 0 [⟨0, some 103, none, .p (.faddr 1), [.t 2]⟩,
    ⟨1, some 104, none, .l (.load 2 false 1), [.t 103]⟩,
    ⟨2, some 105, none, .e .call [] [], [.f 388, .t 104]⟩,
    ⟨3, some 106, none, .p (.faddr 2), [.t 2]⟩,
    ⟨4, none, none, .l (.store 2 1), [.t 106, .t 105]⟩])
   (.seq (.reg 0 [⟨0, some 108, none, .p (.faddr 0), [.t 3]⟩,
    ⟨1, some 109, none, .l (.load 3 false 1), [.t 108]⟩,
    ⟨2, some 110, none, .p (.bin .eql), [.t 109, .c (.int .i64 4)]⟩,
    ⟨3, some 111, none, .p .mov, [.t 110]⟩,
    ⟨4, some 112, some (111, true), .p .mov, [.t 7]⟩,
    ⟨5, some 113, some (111, true), .e .call [] [], [.f 306, .t 112]⟩,
    ⟨6, some 114, some (111, true), .p (.un .not), [.t 113]⟩,
    ⟨7, some 115, none, .p .pick, [.t 111, .t 114, .c (.bool false)]⟩,
    ⟨8, some 116, none, .p .mov, [.t 115]⟩,
    ⟨9, some 117, some (116, true), .p (.faddr 2), [.t 2]⟩,
    ⟨10, some 118, some (116, true), .l (.load 2 false 1), [.t 117]⟩,
    ⟨11, some 119, some (116, true), .p (.bin .eql), [.t 118, .c (.int .i64 1)]⟩,
    ⟨12, some 120, none, .p .pick, [.t 116, .t 119, .c (.bool false)]⟩,
    ⟨13, some 107, none, .p .mov, [.t 120]⟩])
   (.cond (.t 107) (.reg 0 [⟨0, some 121, none, .p (.faddr 0), [.t 2]⟩,
    ⟨1, some 122, none, .l (.load 2 false 1), [.t 121]⟩,
    ⟨2, some 123, none, .p (.faddr 1), [.t 3]⟩,
    ⟨3, some 124, none, .l (.load 3 false 1), [.t 123]⟩,
    ⟨4, some 125, none, .p (.idx 1), [.t 122, .t 124]⟩,
    ⟨5, none, none, .e (.store 1) [] [], [.t 125, .c (.int .i64 2)]⟩])
   (.seq (.reg 0 [⟨0, some 127, none, .p (.faddr 0), [.t 3]⟩,
    ⟨1, some 128, none, .l (.load 3 false 1), [.t 127]⟩,
    ⟨2, some 129, none, .p (.bin .eql), [.t 128, .c (.int .i64 4)]⟩,
    ⟨3, some 130, none, .p .mov, [.t 129]⟩,
    ⟨4, some 131, some (130, true), .p .mov, [.t 7]⟩,
    ⟨5, some 132, some (130, true), .e .call [] [], [.f 306, .t 131]⟩,
    ⟨6, some 133, some (130, true), .p (.un .not), [.t 132]⟩,
    ⟨7, some 134, none, .p .pick, [.t 130, .t 133, .c (.bool false)]⟩,
    ⟨8, some 135, none, .p .mov, [.t 134]⟩,
    ⟨9, some 136, some (135, true), .p (.faddr 2), [.t 2]⟩,
    ⟨10, some 137, some (135, true), .l (.load 2 false 1), [.t 136]⟩,
    ⟨11, some 138, some (135, true), .p (.bin .eql), [.t 137, .c (.int .i64 2)]⟩,
    ⟨12, some 139, none, .p .pick, [.t 135, .t 138, .c (.bool false)]⟩,
    ⟨13, some 126, none, .p .mov, [.t 139]⟩])
   (.cond (.t 126) (.reg 0 [⟨0, some 140, none, .p (.faddr 0), [.t 2]⟩,
    ⟨1, some 141, none, .l (.load 2 false 1), [.t 140]⟩,
    ⟨2, some 142, none, .p (.faddr 1), [.t 3]⟩,
    ⟨3, some 143, none, .l (.load 3 false 1), [.t 142]⟩,
    ⟨4, some 144, none, .p (.idx 1), [.t 141, .t 143]⟩,
    ⟨5, none, none, .e (.store 1) [] [], [.t 144, .c (.int .i64 3)]⟩])
   (.seq (.reg 0 [⟨0, some 146, none, .p (.faddr 0), [.t 3]⟩,
    ⟨1, some 147, none, .l (.load 3 false 1), [.t 146]⟩,
    ⟨2, some 148, none, .p (.bin .eql), [.t 147, .c (.int .i64 5)]⟩,
    ⟨3, some 149, none, .p .mov, [.t 148]⟩,
    ⟨4, some 150, some (149, true), .p (.faddr 2), [.t 3]⟩,
    ⟨5, some 151, some (149, true), .l (.load 3 false 1), [.t 150]⟩,
    ⟨6, some 152, some (149, true), .p (.faddr 1), [.t 3]⟩,
    ⟨7, some 153, some (149, true), .l (.load 3 false 1), [.t 152]⟩,
    ⟨8, some 154, some (149, true), .p (.bin .neq), [.t 151, .t 153]⟩,
    ⟨9, some 155, none, .p .pick, [.t 149, .t 154, .c (.bool false)]⟩,
    ⟨10, some 156, none, .p .mov, [.t 155]⟩,
    ⟨11, some 157, some (156, true), .p .mov, [.t 7]⟩,
    ⟨12, some 158, some (156, true), .p (.bin .eql), [.t 157, .c (.int .i64 1)]⟩,
    ⟨13, some 159, none, .p .pick, [.t 156, .t 158, .c (.bool false)]⟩,
    ⟨14, some 160, none, .p .mov, [.t 159]⟩,
    ⟨15, some 161, some (160, true), .p (.faddr 0), [.t 2]⟩,
    ⟨16, some 162, some (160, true), .l (.load 2 false 1), [.t 161]⟩,
    ⟨17, some 163, some (160, true), .p (.faddr 2), [.t 3]⟩,
    ⟨18, some 164, some (160, true), .l (.load 3 false 1), [.t 163]⟩,
    ⟨19, some 165, some (160, true), .p (.idx 1), [.t 162, .t 164]⟩,
    ⟨20, some 166, some (160, true), .r (.load false 1) false, [.t 165]⟩,
    ⟨21, some 167, some (160, true), .e .call [] [], [.f 306, .t 166]⟩,
    ⟨22, some 168, none, .p .pick, [.t 160, .t 167, .c (.bool false)]⟩,
    ⟨23, some 145, none, .p .mov, [.t 168]⟩])
   (.cond (.t 145) (.reg 0 [⟨0, some 169, none, .p (.faddr 0), [.t 2]⟩,
    ⟨1, some 170, none, .l (.load 2 false 1), [.t 169]⟩,
    ⟨2, some 171, none, .p (.faddr 1), [.t 3]⟩,
    ⟨3, some 172, none, .l (.load 3 false 1), [.t 171]⟩,
    ⟨4, some 173, none, .p (.faddr 0), [.t 2]⟩,
    ⟨5, some 174, none, .l (.load 2 false 1), [.t 173]⟩,
    ⟨6, some 175, none, .p (.faddr 2), [.t 3]⟩,
    ⟨7, some 176, none, .l (.load 3 false 1), [.t 175]⟩,
    ⟨8, some 177, none, .p (.idx 1), [.t 174, .t 176]⟩,
    ⟨9, some 178, none, .r (.load false 1) false, [.t 177]⟩,
    ⟨10, some 179, none, .p (.idx 1), [.t 170, .t 172]⟩,
    ⟨11, none, none, .e (.store 1) [] [], [.t 179, .t 178]⟩])
   (.seq (.reg 0 [⟨0, some 42, none, .l (.load 2 true 3), [.t 2]⟩,
    ⟨1, none, none, .l (.store 4 3), [.t 4, .t 42]⟩,
    ⟨2, some 5, none, .p .mov, [.c (.bool false)]⟩])
   (.ret)))))))))))))))
   (.seq (.reg 0 [⟨0, some 180, none, .l (.load 2 true 3), [.t 2]⟩,
    ⟨1, none, none, .l (.store 4 3), [.t 4, .t 180]⟩,
    ⟨2, some 5, none, .p .mov, [.c (.bool true)]⟩])
   (.ret)))))),
  [.cellL 4 4 true 3, .tmp 5]⟩
/- loop.example/g00641/spec.l16Own -/
def g291 : GL.Fn := ⟨.seq (.reg 0 [⟨0, some 1, none, .l (.box 1 3), [.t 0]⟩,
    ⟨1, some 2, none, .l (.alloc 2 [.nils, .nils, .int .i64 0]), []⟩])
   (.seq (.reg 2 [⟨0, some 3, none, .m (.lit 1) 0, []⟩,
    ⟨1, some 4, none, .p (.faddr 0), [.t 1]⟩,
    ⟨2, some 5, none, .l (.load 1 false 1), [.t 4]⟩,
    ⟨3, some 6, none, .e (.append 1 8) [] [1], [.t 3, .t 5]⟩,
    ⟨4, some 7, none, .m (.lit 1) 1, []⟩,
    ⟨5, some 8, none, .p (.faddr 1), [.t 1]⟩,
    ⟨6, some 9, none, .l (.load 1 false 1), [.t 8]⟩,
    ⟨7, some 10, none, .e (.append 1 8) [] [], [.t 7, .t 9]⟩,
    ⟨8, some 11, none, .p (.faddr 2), [.t 1]⟩,
    ⟨9, some 12, none, .l (.load 1 false 1), [.t 11]⟩,
    ⟨10, some 13, none, .p (.build [.nils, .nils, .int .i64 0] [(0, 1), (1, 1), (2, 1)]), [.t 6, .t 10, .t 12]⟩,
    ⟨11, none, none, .l (.store 2 3), [.t 2, .t 13]⟩])
   (.ret)),
  [.cellL 2 2 true 3]⟩
/- loop.example/g00641/impl.within -/
def g107 : GL.Fn := ⟨.seq (.reg 0 [⟨0, some 6, none, .p .mov, [.c (.bool false)]⟩])
   (.seq (.reg 0 [⟨0, some 7, none, .p .mov, [.t 0]⟩,
    ⟨1, some 8, none, .p .mov, [.t 1]⟩,
    ⟨2, some 9, none, .p (.bin .geq), [.t 7, .t 8]⟩,
    ⟨3, some 10, none, .p .mov, [.t 9]⟩,
    ⟨4, some 11, some (10, true), .p .mov, [.t 0]⟩,
    ⟨5, some 12, some (10, true), .p .mov, [.t 2]⟩,
    ⟨6, some 13, some (10, true), .p (.bin .leq), [.t 11, .t 12]⟩,
    ⟨7, some 14, none, .p .pick, [.t 10, .t 13, .c (.bool false)]⟩,
    ⟨8, some 6, none, .p .mov, [.t 14]⟩])
   (.ret)),
  [.tmp 6]⟩
/- slices.Contains[[]int,int] -/
def g301 : GL.Fn := ⟨.seq (.reg 0 [⟨0, some 4, none, .p .mov, [.c (.bool false)]⟩])
   (.seq (.reg 0 [⟨0, some 5, none, .p .mov, [.t 0]⟩,
    ⟨1, some 6, none, .p .mov, [.t 1]⟩,
    ⟨2, some 7, none, .e .call [] [], [.f 390, .t 5, .t 6]⟩,
    ⟨3, some 8, none, .p (.bin .geq), [.t 7, .c (.int .i64 0)]⟩,
    ⟨4, some 4, none, .p .mov, [.t 8]⟩])
   (.ret)),
  [.tmp 4]⟩
/- loop.example/g00641/spec.l1In -/
def g98 : GL.Fn := ⟨.seq (.reg 0 [⟨0, some 6, none, .p .mov, [.c (.bool false)]⟩])
   (.seq (.reg 0 [⟨0, some 7, none, .p .mov, [.t 0]⟩,
    ⟨1, some 8, none, .p .mov, [.t 1]⟩,
    ⟨2, some 9, none, .p (.bin .geq), [.t 7, .t 8]⟩,
    ⟨3, some 10, none, .p .mov, [.t 9]⟩,
    ⟨4, some 11, some (10, true), .p .mov, [.t 0]⟩,
    ⟨5, some 12, some (10, true), .p .mov, [.t 2]⟩,
    ⟨6, some 13, some (10, true), .p (.bin .leq), [.t 11, .t 12]⟩,
    ⟨7, some 14, none, .p .pick, [.t 10, .t 13, .c (.bool false)]⟩,
    ⟨8, some 6, none, .p .mov, [.t 14]⟩])
   (.ret)),
  [.tmp 6]⟩
/- loop.example/g00641/spec.l1Has -/
def g302_0 : GL.Code := .seq (.reg 0 [⟨0, some 10, none, .p (.bin .lss), [.t 9, .t 8]⟩])
   (.seq (.cond (.t 10) (.skip)
   (.exit 0))
   (.seq (.block 1 (.seq (.reg 0 [⟨0, some 11, none, .p (.idx 1), [.t 7, .t 9]⟩,
    ⟨1, some 12, none, .r (.load false 1) false, [.t 11]⟩,
    ⟨2, some 6, none, .p .mov, [.t 12]⟩])
   (.seq (.reg 0 [⟨0, some 13, none, .p .mov, [.t 6]⟩,
    ⟨1, some 14, none, .p .mov, [.t 1]⟩,
    ⟨2, some 15, none, .p (.bin .eql), [.t 13, .t 14]⟩])
   (.cond (.t 15) (.seq (.reg 0 [⟨0, some 4, none, .p .mov, [.c (.bool true)]⟩])
   (.ret))
   (.skip)))))
   (.reg 0 [⟨0, some 16, none, .p (.bin .add), [.t 9, .c (.int .i64 1)]⟩,
    ⟨1, some 9, none, .p .mov, [.t 16]⟩])))
def g302 : GL.Fn := ⟨.seq (.reg 0 [⟨0, some 4, none, .p .mov, [.c (.bool false)]⟩])
   (.seq (.seq (.reg 0 [⟨0, some 7, none, .p .mov, [.t 0]⟩,
    ⟨1, some 8, none, .p .len, [.t 7]⟩,
    ⟨2, some 9, none, .p .mov, [.c (.int .i64 0)]⟩])
   (.block 0 (.loop g302_0)))
   (.seq (.reg 0 [⟨0, some 4, none, .p .mov, [.c (.bool false)]⟩])
   (.ret))),
  [.tmp 4]⟩
/- (*loop.example/g00641/spec.l1Cur).pick -/
def g91 : GL.Fn := ⟨.seq (.reg 0 [⟨0, some 4, none, .p .mov, [.c (.int .i64 0)]⟩])
   (.seq (.seq (.reg 0 [⟨0, some 6, none, .p .mov, [.t 1]⟩,
    ⟨1, some 7, none, .p (.bin .leq), [.t 6, .c (.int .i64 1)]⟩])
   (.cond (.t 7) (.seq (.reg 0 [⟨0, some 4, none, .p .mov, [.c (.int .i64 0)]⟩])
   (.ret))
   (.skip)))
   (.seq (.reg 0 [⟨0, some 8, none, .p .mov, [.t 0]⟩,
    ⟨1, some 9, none, .e .call [] [], [.f 140, .t 8]⟩,
    ⟨2, some 5, none, .p .mov, [.t 9]⟩])
   (.seq (.seq (.reg 0 [⟨0, some 10, none, .p .mov, [.t 1]⟩,
    ⟨1, some 11, none, .p (.bin .gtr), [.t 10, .c (.int .i64 200)]⟩])
   (.cond (.t 11) (.reg 0 [⟨0, some 12, none, .p .mov, [.t 5]⟩,
    ⟨1, some 13, none, .p (.bin .mul), [.t 12, .c (.int .i64 256)]⟩,
    ⟨2, some 14, none, .p .mov, [.t 0]⟩,
    ⟨3, some 15, none, .e .call [] [], [.f 140, .t 14]⟩,
    ⟨4, some 16, none, .p (.bin .add), [.t 13, .t 15]⟩,
    ⟨5, some 5, none, .p .mov, [.t 16]⟩])
   (.skip)))
   (.seq (.reg 0 [⟨0, some 17, none, .p .mov, [.t 5]⟩,
    ⟨1, some 18, none, .p .mov, [.t 1]⟩,
    ⟨2, some 19, none, .p (.bin .rem), [.t 17, .t 18]⟩,
    ⟨3, some 4, none, .p .mov, [.t 19]⟩])
   (.ret))))),
  [.tmp 4]⟩
/- (loop.example/g00641/impl.Commit).isOne -/
def g303 : GL.Fn := ⟨.seq (.reg 0 [⟨0, some 2, none, .l (.box 2 3), [.t 0]⟩,
    ⟨1, some 4, none, .p .mov, [.c (.bool false)]⟩])
   (.seq (.reg 0 [⟨0, some 5, none, .p .mov, [.t 1]⟩,
    ⟨1, some 6, none, .p (.faddr 0), [.t 2]⟩,
    ⟨2, some 7, none, .l (.load 2 false 1), [.t 6]⟩,
    ⟨3, some 8, none, .p .len, [.t 7]⟩,
    ⟨4, some 9, none, .p (.bin .sub), [.t 8, .c (.int .i64 1)]⟩,
    ⟨5, some 10, none, .e .call [] [], [.f 107, .t 5, .c (.int .i64 0), .t 9]⟩,
    ⟨6, some 4, none, .p .mov, [.t 10]⟩])
   (.ret)),
  [.tmp 4]⟩
/- slices.ContainsFunc[[]int,int] -/
def g304 : GL.Fn := ⟨.seq (.reg 0 [⟨0, some 4, none, .p .mov, [.c (.bool false)]⟩])
   (.seq (.reg 0 [⟨0, some 5, none, .p .mov, [.t 0]⟩,
    ⟨1, some 6, none, .p .mov, [.t 1]⟩,
    ⟨2, some 7, none, .e .call [] [], [.f 391, .t 5, .t 6]⟩,
    ⟨3, some 8, none, .p (.bin .geq), [.t 7, .c (.int .i64 0)]⟩,
    ⟨4, some 4, none, .p .mov, [.t 8]⟩])
   (.ret)),
  [.tmp 4]⟩
/- loop.example/g00641/impl.isOver -/
def g305 : GL.Fn := ⟨.seq (.reg 0 [⟨0, some 2, none, .p .mov, [.c (.bool false)]⟩])
   (.seq (.reg 0 [⟨0, some 3, none, .p .mov, [.t 0]⟩,
    ⟨1, some 4, none, .p (.bin .eql), [.t 3, .c (.int .i64 2)]⟩,
    ⟨2, some 5, none, .p .mov, [.t 4]⟩,
    ⟨3, some 6, some (5, false), .p .mov, [.t 0]⟩,
    ⟨4, some 7, some (5, false), .p (.bin .eql), [.t 6, .c (.int .i64 3)]⟩,
    ⟨5, some 8, none, .p .pick, [.t 5, .c (.bool true), .t 7]⟩,
    ⟨6, some 2, none, .p .mov, [.t 8]⟩])
   (.ret)),
  [.tmp 2]⟩
/- loop.example/g00641/spec.l16Over -/
def g306 : GL.Fn := ⟨.seq (.reg 0 [⟨0, some 2, none, .p .mov, [.c (.bool false)]⟩])
   (.seq (.reg 0 [⟨0, some 3, none, .p .mov, [.t 0]⟩,
    ⟨1, some 4, none, .p (.bin .eql), [.t 3, .c (.int .i64 2)]⟩,
    ⟨2, some 5, none, .p .mov, [.t 4]⟩,
    ⟨3, some 6, some (5, false), .p .mov, [.t 0]⟩,
    ⟨4, some 7, some (5, false), .p (.bin .eql), [.t 6, .c (.int .i64 3)]⟩,
    ⟨5, some 8, none, .p .pick, [.t 5, .c (.bool true), .t 7]⟩,
    ⟨6, some 2, none, .p .mov, [.t 8]⟩])
   (.ret)),
  [.tmp 2]⟩
/- (*loop.example/g00641/spec.l1Cur).among -/
def g93 : GL.Fn := ⟨.seq (.reg 0 [⟨0, some 4, none, .p .mov, [.c (.int .i64 0)]⟩])
   (.seq (.reg 0 [⟨0, some 5, none, .p .mov, [.t 1]⟩,
    ⟨1, some 6, none, .p .mov, [.t 0]⟩,
    ⟨2, some 7, none, .p .mov, [.t 1]⟩,
    ⟨3, some 8, none, .p .len, [.t 7]⟩,
    ⟨4, some 9, none, .e .call [] [], [.f 91, .t 6, .t 8]⟩,
    ⟨5, some 10, none, .p (.idx 1), [.t 5, .t 9]⟩,
    ⟨6, some 11, none, .r (.load false 1) false, [.t 10]⟩,
    ⟨7, some 4, none, .p .mov, [.t 11]⟩])
   (.ret)),
  [.tmp 4]⟩
/- (*loop.example/g00641/impl.Commit).decide -/
def g307 : GL.Fn := ⟨.seq (.reg 0 [⟨0, some 2, none, .p .mov, [.c (.bool false)]⟩])
   (.seq (.seq (.reg 0 [⟨0, some 3, none, .p .mov, [.t 0]⟩,
    ⟨1, some 4, none, .p .nilCheck, [.t 3]⟩,
    ⟨2, some 5, none, .p (.faddr 2), [.t 4]⟩,
    ⟨3, some 6, none, .r (.load false 1) false, [.t 5]⟩,
    ⟨4, some 7, none, .p (.bin .neq), [.t 6, .c (.int .i64 0)]⟩])
   (.cond (.t 7) (.seq (.reg 0 [⟨0, some 2, none, .p .mov, [.c (.bool false)]⟩])
   (.ret))
   (.skip)))
   (.seq (.reg 0 [⟨0, some 8, none, .p .mov, [.t 0]⟩,
    ⟨1, some 9, none, .p .nilCheck, [.t 8]⟩,
    ⟨2, some 10, none, .p (.faddr 2), [.t 9]⟩,
    ⟨3, none, none, .e (.store 1) [] [], [.t 10, .c (.int .i64 1)]⟩])
   (.seq (.seq (.reg 0 [⟨0, some 11, none, .p .mov, [.t 0]⟩,
    ⟨1, some 12, none, .p .nilCheck, [.t 11]⟩,
    ⟨2, some 13, none, .p (.faddr 1), [.t 12]⟩,
    ⟨3, some 14, none, .r (.load false 1) false, [.t 13]⟩,
    ⟨4, some 15, none, .e .call [] [], [.f 304, .t 14, .f 392]⟩])
   (.cond (.t 15) (.reg 0 [⟨0, some 16, none, .p .mov, [.t 0]⟩,
    ⟨1, some 17, none, .p .nilCheck, [.t 16]⟩,
    ⟨2, some 18, none, .p (.faddr 2), [.t 17]⟩,
    ⟨3, none, none, .e (.store 1) [] [], [.t 18, .c (.int .i64 2)]⟩])
   (.skip)))
   (.seq (.reg 0 [⟨0, some 2, none, .p .mov, [.c (.bool true)]⟩])
   (.ret))))),
  [.tmp 2]⟩
/- (*loop.example/g00641/impl.Commit).tell -/
def g308 : GL.Fn := ⟨.seq (.reg 0 [⟨0, some 4, none, .p .mov, [.c (.bool false)]⟩])
   (.seq (.seq (.reg 0 [⟨0, some 5, none, .p .mov, [.t 0]⟩,
    ⟨1, some 6, none, .p .nilCheck, [.t 5]⟩,
    ⟨2, some 7, none, .p (.faddr 0), [.t 6]⟩,
    ⟨3, some 8, none, .r (.load false 1) false, [.t 7]⟩,
    ⟨4, some 9, none, .p .mov, [.t 1]⟩,
    ⟨5, some 10, none, .p (.idx 1), [.t 8, .t 9]⟩,
    ⟨6, some 11, none, .r (.load false 1) false, [.t 10]⟩,
    ⟨7, some 12, none, .e .call [] [], [.f 305, .t 11]⟩,
    ⟨8, some 13, none, .p .mov, [.t 12]⟩,
    ⟨9, some 14, some (13, false), .p .mov, [.t 0]⟩,
    ⟨10, some 15, some (13, false), .p .nilCheck, [.t 14]⟩,
    ⟨11, some 16, some (13, false), .p (.faddr 2), [.t 15]⟩,
    ⟨12, some 17, some (13, false), .r (.load false 1) false, [.t 16]⟩,
    ⟨13, some 18, some (13, false), .p (.bin .eql), [.t 17, .c (.int .i64 0)]⟩,
    ⟨14, some 19, none, .p .pick, [.t 13, .c (.bool true), .t 18]⟩])
   (.cond (.t 19) (.seq (.reg 0 [⟨0, some 4, none, .p .mov, [.c (.bool false)]⟩])
   (.ret))
   (.skip)))
   (.seq (.reg 0 [⟨0, some 20, none, .p .mov, [.t 0]⟩,
    ⟨1, some 21, none, .p .nilCheck, [.t 20]⟩,
    ⟨2, some 22, none, .p (.faddr 0), [.t 21]⟩,
    ⟨3, some 23, none, .r (.load false 1) false, [.t 22]⟩,
    ⟨4, some 24, none, .p .mov, [.t 1]⟩,
    ⟨5, some 25, none, .p (.idx 1), [.t 23, .t 24]⟩,
    ⟨6, none, none, .e (.store 1) [] [], [.t 25, .c (.int .i64 2)]⟩])
   (.seq (.seq (.reg 0 [⟨0, some 26, none, .p .mov, [.t 0]⟩,
    ⟨1, some 27, none, .p .nilCheck, [.t 26]⟩,
    ⟨2, some 28, none, .p (.faddr 2), [.t 27]⟩,
    ⟨3, some 29, none, .r (.load false 1) false, [.t 28]⟩,
    ⟨4, some 30, none, .p (.bin .eql), [.t 29, .c (.int .i64 2)]⟩])
   (.cond (.t 30) (.reg 0 [⟨0, some 31, none, .p .mov, [.t 0]⟩,
    ⟨1, some 32, none, .p .nilCheck, [.t 31]⟩,
    ⟨2, some 33, none, .p (.faddr 0), [.t 32]⟩,
    ⟨3, some 34, none, .r (.load false 1) false, [.t 33]⟩,
    ⟨4, some 35, none, .p .mov, [.t 1]⟩,
    ⟨5, some 36, none, .p (.idx 1), [.t 34, .t 35]⟩,
    ⟨6, none, none, .e (.store 1) [] [], [.t 36, .c (.int .i64 3)]⟩])
   (.skip)))
   (.seq (.reg 0 [⟨0, some 4, none, .p .mov, [.c (.bool true)]⟩])
   (.ret))))),
  [.tmp 4]⟩
/- loop.example/g00641/impl.SaysAll$1 -/
def g309 : GL.Fn := ⟨.seq (.reg 0 [⟨0, some 3, none, .p .mov, [.c (.bool false)]⟩])
   (.seq (.reg 0 [⟨0, some 4, none, .p .mov, [.t 0]⟩,
    ⟨1, some 5, none, .r (.load false 1) false, [.t 1]⟩,
    ⟨2, some 6, none, .p (.bin .neq), [.t 4, .t 5]⟩,
    ⟨3, some 3, none, .p .mov, [.t 6]⟩])
   (.ret)),
  [.tmp 3]⟩
/- loop.example/g00641/spec.DrawGoodCommit -/
def g310 : GL.Fn := ⟨.seq (.reg 0 [⟨0, some 2, none, .l (.alloc 2 [.nils, .nils, .int .i64 0]), []⟩])
   (.seq (.reg 0 [⟨0, some 4, none, .p .mov, [.t 0]⟩,
    ⟨1, some 5, none, .p (.build [.nils, .int .i64 0, .int .u64 0] [(0, 1)]), [.t 4]⟩,
    ⟨2, some 6, none, .e (.new (.box 3)) [] [], [.t 5]⟩,
    ⟨3, some 3, none, .p .mov, [.t 6]⟩])
   (.seq (.reg 0 [⟨0, some 7, none, .p .mov, [.t 3]⟩,
    ⟨1, some 8, none, .e .call [] [], [.f 299, .t 7]⟩,
    ⟨2, none, none, .l (.store 2 3), [.t 2, .t 8]⟩])
   (.ret))),
  [.cellL 2 2 true 3]⟩
/- loop.example/g00641/spec.l1All -/
def g94_0 : GL.Code := .seq (.reg 0 [⟨0, some 12, none, .p (.bin .lss), [.t 11, .t 10]⟩])
   (.seq (.cond (.t 12) (.skip)
   (.exit 0))
   (.seq (.block 1 (.seq (.reg 0 [⟨0, some 13, none, .p (.idx 1), [.t 9, .t 11]⟩,
    ⟨1, some 14, none, .r (.load false 1) false, [.t 13]⟩,
    ⟨2, some 8, none, .p .mov, [.t 14]⟩])
   (.seq (.reg 0 [⟨0, some 15, none, .p .mov, [.t 8]⟩,
    ⟨1, some 16, none, .p .mov, [.t 1]⟩,
    ⟨2, some 17, none, .p .mov, [.t 2]⟩,
    ⟨3, some 18, none, .e .call [] [], [.f 98, .t 15, .t 16, .t 17]⟩,
    ⟨4, some 19, none, .p (.un .not), [.t 18]⟩])
   (.cond (.t 19) (.seq (.reg 0 [⟨0, some 6, none, .p .mov, [.c (.bool false)]⟩])
   (.ret))
   (.skip)))))
   (.reg 0 [⟨0, some 20, none, .p (.bin .add), [.t 11, .c (.int .i64 1)]⟩,
    ⟨1, some 11, none, .p .mov, [.t 20]⟩])))
def g94 : GL.Fn := ⟨.seq (.reg 0 [⟨0, some 6, none, .p .mov, [.c (.bool false)]⟩])
   (.seq (.seq (.reg 0 [⟨0, some 9, none, .p .mov, [.t 0]⟩,
    ⟨1, some 10, none, .p .len, [.t 9]⟩,
    ⟨2, some 11, none, .p .mov, [.c (.int .i64 0)]⟩])
   (.block 0 (.loop g94_0)))
   (.seq (.reg 0 [⟨0, some 6, none, .p .mov, [.c (.bool true)]⟩])
   (.ret))),
  [.tmp 6]⟩
/- (*loop.example/g00641/spec.l1Cur).one -/
def g92 : GL.Fn := ⟨.seq (.reg 0 [⟨0, some 4, none, .p .mov, [.c (.bool false)]⟩])
   (.seq (.reg 0 [⟨0, some 5, none, .p .mov, [.t 0]⟩,
    ⟨1, some 6, none, .p .mov, [.t 1]⟩,
    ⟨2, some 7, none, .e .call [] [], [.f 91, .t 5, .t 6]⟩,
    ⟨3, some 8, none, .p (.bin .eql), [.t 7, .c (.int .i64 0)]⟩,
    ⟨4, some 4, none, .p .mov, [.t 8]⟩])
   (.ret)),
  [.tmp 4]⟩
/- slices.Clone[[]int,int] -/
def g389 : GL.Fn := ⟨.seq (.reg 0 [⟨0, some 2, none, .p .mov, [.c (.nils)]⟩])
   (.seq (.seq (.reg 0 [⟨0, some 3, none, .p .mov, [.t 0]⟩,
    ⟨1, some 4, none, .p (.isNil false), [.t 3]⟩])
   (.cond (.t 4) (.seq (.reg 0 [⟨0, some 2, none, .p .mov, [.c (.nils)]⟩])
   (.ret))
   (.skip)))
   (.seq (.reg 0 [⟨0, some 5, none, .e (.new (.lit 1)) [] [], []⟩,
    ⟨1, some 6, none, .p .mov, [.t 0]⟩,
    ⟨2, some 7, none, .e (.append 1 8) [] [], [.t 5, .t 6]⟩,
    ⟨3, some 2, none, .p .mov, [.t 7]⟩])
   (.ret))),
  [.tmp 2]⟩
/- loop.example/g00641/spec.l16Word -/
def g388 : GL.Fn := ⟨.seq (.reg 0 [⟨0, some 2, none, .p .mov, [.c (.int .i64 0)]⟩])
   (.seq (.seq (.reg 0 [⟨0, some 3, none, .p .mov, [.t 0]⟩,
    ⟨1, some 4, none, .e .call [] [], [.f 94, .t 3, .c (.int .i64 1), .c (.int .i64 1)]⟩])
   (.cond (.t 4) (.seq (.reg 0 [⟨0, some 2, none, .p .mov, [.c (.int .i64 1)]⟩])
   (.ret))
   (.skip)))
   (.seq (.reg 0 [⟨0, some 2, none, .p .mov, [.c (.int .i64 2)]⟩])
   (.ret))),
  [.tmp 2]⟩
/- slices.Index[[]int,int] -/
def g390_0 : GL.Code := .seq (.reg 0 [⟨0, some 9, none, .p (.bin .lss), [.t 8, .t 7]⟩])
   (.seq (.cond (.t 9) (.skip)
   (.exit 0))
   (.seq (.block 1 (.seq (.reg 0 [⟨0, some 10, none, .p .mov, [.t 8]⟩,
    ⟨1, some 5, none, .p .mov, [.t 10]⟩])
   (.seq (.reg 0 [⟨0, some 11, none, .p .mov, [.t 1]⟩,
    ⟨1, some 12, none, .p .mov, [.t 0]⟩,
    ⟨2, some 13, none, .p .mov, [.t 5]⟩,
    ⟨3, some 14, none, .p (.idx 1), [.t 12, .t 13]⟩,
    ⟨4, some 15, none, .r (.load false 1) false, [.t 14]⟩,
    ⟨5, some 16, none, .p (.bin .eql), [.t 11, .t 15]⟩])
   (.cond (.t 16) (.seq (.reg 0 [⟨0, some 17, none, .p .mov, [.t 5]⟩,
    ⟨1, some 4, none, .p .mov, [.t 17]⟩])
   (.ret))
   (.skip)))))
   (.reg 0 [⟨0, some 18, none, .p (.bin .add), [.t 8, .c (.int .i64 1)]⟩,
    ⟨1, some 8, none, .p .mov, [.t 18]⟩])))
def g390 : GL.Fn := ⟨.seq (.reg 0 [⟨0, some 4, none, .p .mov, [.c (.int .i64 0)]⟩])
   (.seq (.seq (.reg 0 [⟨0, some 6, none, .p .mov, [.t 0]⟩,
    ⟨1, some 7, none, .p .len, [.t 6]⟩,
    ⟨2, some 8, none, .p .mov, [.c (.int .i64 0)]⟩])
   (.block 0 (.loop g390_0)))
   (.seq (.reg 0 [⟨0, some 4, none, .p .mov, [.c (.int .i64 (-1))]⟩])
   (.ret))),
  [.tmp 4]⟩
/- (*loop.example/g00641/spec.l1Cur).next -/
def g140 : GL.Fn := ⟨.seq (.reg 0 [⟨0, some 2, none, .p .mov, [.c (.int .i64 0)]⟩])
   (.seq (.reg 0 [⟨0, some 3, none, .p .mov, [.c (.int .i64 0)]⟩])
   (.seq (.seq (.reg 0 [⟨0, some 4, none, .p .mov, [.t 0]⟩,
    ⟨1, some 5, none, .p .nilCheck, [.t 4]⟩,
    ⟨2, some 6, none, .p (.faddr 1), [.t 5]⟩,
    ⟨3, some 7, none, .r (.load false 1) false, [.t 6]⟩,
    ⟨4, some 8, none, .p .mov, [.t 0]⟩,
    ⟨5, some 9, none, .p .nilCheck, [.t 8]⟩,
    ⟨6, some 10, none, .p (.faddr 0), [.t 9]⟩,
    ⟨7, some 11, none, .r (.load false 1) false, [.t 10]⟩,
    ⟨8, some 12, none, .p .len, [.t 11]⟩,
    ⟨9, some 13, none, .p (.bin .lss), [.t 7, .t 12]⟩])
   (.cond (.t 13) (.reg 0 [⟨0, some 14, none, .p .mov, [.t 0]⟩,
    ⟨1, some 15, none, .p .nilCheck, [.t 14]⟩,
    ⟨2, some 16, none, .p (.faddr 0), [.t 15]⟩,
    ⟨3, some 17, none, .r (.load false 1) false, [.t 16]⟩,
    ⟨4, some 18, none, .p .mov, [.t 0]⟩,
    ⟨5, some 19, none, .p .nilCheck, [.t 18]⟩,
    ⟨6, some 20, none, .p (.faddr 1), [.t 19]⟩,
    ⟨7, some 21, none, .r (.load false 1) false, [.t 20]⟩,
    ⟨8, some 22, none, .p (.idx 1), [.t 17, .t 21]⟩,
    ⟨9, some 23, none, .r (.load false 1) false, [.t 22]⟩,
    ⟨10, some 24, none, .p (.conv .i64), [.t 23]⟩,
    ⟨11, some 3, none, .p .mov, [.t 24]⟩])
   (.skip)))
   (.seq (.reg 0 [⟨0, some 25, none, .p .mov, [.t 0]⟩,
    ⟨1, some 26, none, .p .nilCheck, [.t 25]⟩,
    ⟨2, some 27, none, .p (.faddr 1), [.t 26]⟩,
    ⟨3, some 28, none, .r (.load false 1) false, [.t 27]⟩,
    ⟨4, some 29, none, .p (.bin .add), [.t 28, .c (.int .i64 1)]⟩,
    ⟨5, some 30, none, .p .nilCheck, [.t 25]⟩,
    ⟨6, some 31, none, .p (.faddr 1), [.t 30]⟩,
    ⟨7, none, none, .e (.store 1) [] [], [.t 31, .t 29]⟩])
   (.seq (.reg 0 [⟨0, some 32, none, .p .mov, [.t 0]⟩,
    ⟨1, some 33, none, .p .mov, [.t 0]⟩,
    ⟨2, some 34, none, .p .nilCheck, [.t 33]⟩,
    ⟨3, some 35, none, .p (.faddr 2), [.t 34]⟩,
    ⟨4, some 36, none, .r (.load false 1) false, [.t 35]⟩,
    ⟨5, some 37, none, .p (.bin .mul), [.t 36, .c (.int .u64 6364136223846793005)]⟩,
    ⟨6, some 38, none, .p .mov, [.t 3]⟩,
    ⟨7, some 39, none, .p (.conv .u64), [.t 38]⟩,
    ⟨8, some 40, none, .p (.bin .add), [.t 37, .t 39]⟩,
    ⟨9, some 41, none, .p (.bin .add), [.t 40, .c (.int .u64 1442695040888963407)]⟩,
    ⟨10, some 42, none, .p .nilCheck, [.t 32]⟩,
    ⟨11, some 43, none, .p (.faddr 2), [.t 42]⟩,
    ⟨12, none, none, .e (.store 1) [] [], [.t 43, .t 41]⟩])
   (.seq (.seq (.reg 0 [⟨0, some 44, none, .p .mov, [.t 0]⟩,
    ⟨1, some 45, none, .p .nilCheck, [.t 44]⟩,
    ⟨2, some 46, none, .p (.faddr 1), [.t 45]⟩,
    ⟨3, some 47, none, .r (.load false 1) false, [.t 46]⟩,
    ⟨4, some 48, none, .p .mov, [.t 0]⟩,
    ⟨5, some 49, none, .p .nilCheck, [.t 48]⟩,
    ⟨6, some 50, none, .p (.faddr 0), [.t 49]⟩,
    ⟨7, some 51, none, .r (.load false 1) false, [.t 50]⟩,
    ⟨8, some 52, none, .p .len, [.t 51]⟩,
    ⟨9, some 53, none, .p (.bin .leq), [.t 47, .t 52]⟩])
   (.cond (.t 53) (.seq (.reg 0 [⟨0, some 54, none, .p .mov, [.t 3]⟩,
    ⟨1, some 2, none, .p .mov, [.t 54]⟩])
   (.ret))
   (.skip)))
   (.seq (.reg 0 [⟨0, some 55, none, .p .mov, [.t 0]⟩,
    ⟨1, some 56, none, .p .nilCheck, [.t 55]⟩,
    ⟨2, some 57, none, .p (.faddr 2), [.t 56]⟩,
    ⟨3, some 58, none, .r (.load false 1) false, [.t 57]⟩,
    ⟨4, some 59, none, .p (.bin .shr), [.t 58, .c (.int .u64 40)]⟩,
    ⟨5, some 60, none, .p (.bin .and), [.t 59, .c (.int .u64 255)]⟩,
    ⟨6, some 61, none, .p (.conv .i64), [.t 60]⟩,
    ⟨7, some 2, none, .p .mov, [.t 61]⟩])
   (.ret))))))),
  [.tmp 2]⟩
/- slices.IndexFunc[[]int,int] -/
def g391_0 : GL.Code := .seq (.reg 0 [⟨0, some 9, none, .p (.bin .lss), [.t 8, .t 7]⟩])
   (.seq (.cond (.t 9) (.skip)
   (.exit 0))
   (.seq (.block 1 (.seq (.reg 0 [⟨0, some 10, none, .p .mov, [.t 8]⟩,
    ⟨1, some 5, none, .p .mov, [.t 10]⟩])
   (.seq (.reg 0 [⟨0, some 11, none, .p .mov, [.t 1]⟩,
    ⟨1, some 12, none, .p .mov, [.t 0]⟩,
    ⟨2, some 13, none, .p .mov, [.t 5]⟩,
    ⟨3, some 14, none, .p (.idx 1), [.t 12, .t 13]⟩,
    ⟨4, some 15, none, .r (.load false 1) false, [.t 14]⟩,
    ⟨5, some 16, none, .e .call [] [], [.t 11, .t 15]⟩])
   (.cond (.t 16) (.seq (.reg 0 [⟨0, some 17, none, .p .mov, [.t 5]⟩,
    ⟨1, some 4, none, .p .mov, [.t 17]⟩])
   (.ret))
   (.skip)))))
   (.reg 0 [⟨0, some 18, none, .p (.bin .add), [.t 8, .c (.int .i64 1)]⟩,
    ⟨1, some 8, none, .p .mov, [.t 18]⟩])))
def g391 : GL.Fn := ⟨.seq (.reg 0 [⟨0, some 4, none, .p .mov, [.c (.int .i64 0)]⟩])
   (.seq (.seq (.reg 0 [⟨0, some 6, none, .p .mov, [.t 0]⟩,
    ⟨1, some 7, none, .p .len, [.t 6]⟩,
    ⟨2, some 8, none, .p .mov, [.c (.int .i64 0)]⟩])
   (.block 0 (.loop g391_0)))
   (.seq (.reg 0 [⟨0, some 4, none, .p .mov, [.c (.int .i64 (-1))]⟩])
   (.ret))),
  [.tmp 4]⟩
/- (*loop.example/g00641/impl.Commit).decide$1 -/
def g392 : GL.Fn := ⟨.seq (.reg 0 [⟨0, some 2, none, .p .mov, [.c (.bool false)]⟩])
   (.seq (.reg 0 [⟨0, some 3, none, .p .mov, [.t 0]⟩,
    ⟨1, some 4, none, .p (.bin .neq), [.t 3, .c (.int .i64 1)]⟩,
    ⟨2, some 2, none, .p .mov, [.t 4]⟩])
   (.ret)),
  [.tmp 2]⟩
end GL
