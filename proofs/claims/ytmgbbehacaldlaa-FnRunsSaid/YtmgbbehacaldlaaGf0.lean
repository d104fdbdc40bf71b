import Derived.Test.YtmgbbehacaldlaaGlA
/- GL code of functions. -/
set_option linter.unusedSimpArgs false
set_option linter.unusedVariables false
set_option linter.unnecessarySimpa false
namespace GL
open Go
/- loop.example/g00641/laws.FnRuns -/
def g577_0 : GL.Code := .seq (.reg 0 [⟨0, some 129, none, .p (.bin .lss), [.t 128, .t 127]⟩])
   (.seq (.cond (.t 129) (.skip)
   (.exit 0))
   (.seq (.block 1 (.seq (.reg 0 [⟨0, some 130, none, .p .mov, [.t 128]⟩,
    ⟨1, some 21, none, .p .mov, [.t 130]⟩])
   (.seq (.reg 0 [⟨0, some 131, none, .p .mov, [.t 11]⟩,
    ⟨1, some 132, none, .p .mov, [.t 21]⟩,
    ⟨2, some 133, none, .e .call [] [], [.f 204, .t 131, .t 132]⟩,
    ⟨3, some 134, none, .p (.un .not), [.t 133]⟩,
    ⟨4, some 135, none, .p .mov, [.t 134]⟩,
    ⟨5, some 136, some (135, true), .p .mov, [.t 7]⟩,
    ⟨6, some 137, some (135, true), .p .mov, [.t 21]⟩,
    ⟨7, some 138, some (135, true), .p (.idx 1), [.t 136, .t 137]⟩,
    ⟨8, some 139, some (135, true), .r (.load false 1) false, [.t 138]⟩,
    ⟨9, some 140, some (135, true), .p .mov, [.t 5]⟩,
    ⟨10, some 141, some (135, true), .p .mov, [.t 21]⟩,
    ⟨11, some 142, some (135, true), .p (.idx 1), [.t 140, .t 141]⟩,
    ⟨12, some 143, some (135, true), .r (.load false 1) false, [.t 142]⟩,
    ⟨13, some 144, some (135, true), .p (.bin .neq), [.t 139, .t 143]⟩,
    ⟨14, some 145, none, .p .pick, [.t 135, .t 144, .c (.bool false)]⟩,
    ⟨15, some 146, none, .p .mov, [.t 145]⟩,
    ⟨16, some 147, some (146, false), .p .mov, [.t 21]⟩,
    ⟨17, some 148, some (146, false), .p .mov, [.t 17]⟩,
    ⟨18, some 149, some (146, false), .p (.bin .neq), [.t 147, .t 148]⟩,
    ⟨19, some 150, some (146, false), .p .mov, [.t 149]⟩,
    ⟨20, some 151, some (150, false), .p .mov, [.t 11]⟩,
    ⟨21, some 152, some (150, false), .p .mov, [.t 21]⟩,
    ⟨22, some 153, some (150, false), .e .call [] [], [.f 204, .t 151, .t 152]⟩,
    ⟨23, some 154, some (146, false), .p .pick, [.t 150, .c (.bool true), .t 153]⟩,
    ⟨24, some 155, some (146, false), .p .mov, [.t 154]⟩,
    ⟨25, some 156, some (155, true), .p .mov, [.t 18]⟩,
    ⟨26, some 157, some (155, true), .p .mov, [.t 21]⟩,
    ⟨27, some 158, some (155, true), .p (.idx 1), [.t 156, .t 157]⟩,
    ⟨28, some 159, some (155, true), .r (.load false 1) false, [.t 158]⟩,
    ⟨29, some 160, some (155, true), .p .mov, [.t 7]⟩,
    ⟨30, some 161, some (155, true), .p .mov, [.t 21]⟩,
    ⟨31, some 162, some (155, true), .p (.idx 1), [.t 160, .t 161]⟩,
    ⟨32, some 163, some (155, true), .r (.load false 1) false, [.t 162]⟩,
    ⟨33, some 164, some (155, true), .p (.bin .neq), [.t 159, .t 163]⟩,
    ⟨34, some 165, some (146, false), .p .pick, [.t 155, .t 164, .c (.bool false)]⟩,
    ⟨35, some 166, none, .p .pick, [.t 146, .c (.bool true), .t 165]⟩])
   (.cond (.t 166) (.seq (.reg 0 [⟨0, some 4, none, .p .mov, [.c (.bool false)]⟩])
   (.ret))
   (.skip)))))
   (.reg 0 [⟨0, some 167, none, .p (.bin .add), [.t 128, .c (.int .i64 1)]⟩,
    ⟨1, some 128, none, .p .mov, [.t 167]⟩])))
def g577_1 : GL.Code := .seq (.reg 0 [⟨0, some 203, none, .p (.bin .lss), [.t 202, .t 201]⟩])
   (.seq (.cond (.t 203) (.skip)
   (.exit 4))
   (.seq (.block 5 (.seq (.reg 0 [⟨0, some 204, none, .p (.idx 1), [.t 200, .t 202]⟩,
    ⟨1, some 205, none, .r (.load false 1) false, [.t 204]⟩,
    ⟨2, some 31, none, .p .mov, [.t 205]⟩])
   (.seq (.reg 0 [⟨0, some 206, none, .p .mov, [.t 22]⟩,
    ⟨1, some 207, none, .p .mov, [.t 31]⟩,
    ⟨2, some 208, none, .p (.idx 5), [.t 206, .t 207]⟩,
    ⟨3, some 209, none, .p (.faddr 1), [.t 208]⟩,
    ⟨4, some 210, none, .r (.load false 1) false, [.t 209]⟩,
    ⟨5, some 211, none, .p .mov, [.t 28]⟩,
    ⟨6, some 212, none, .p (.bin .neq), [.t 210, .t 211]⟩])
   (.cond (.t 212) (.seq (.reg 0 [⟨0, some 4, none, .p .mov, [.c (.bool false)]⟩])
   (.ret))
   (.skip)))))
   (.reg 0 [⟨0, some 213, none, .p (.bin .add), [.t 202, .c (.int .i64 1)]⟩,
    ⟨1, some 202, none, .p .mov, [.t 213]⟩])))
def g577_2 : GL.Code := .seq (.reg 0 [⟨0, some 192, none, .p (.bin .lss), [.t 191, .t 190]⟩])
   (.seq (.cond (.t 192) (.skip)
   (.exit 2))
   (.seq (.block 3 (.seq (.reg 0 [⟨0, some 193, none, .p .mov, [.t 191]⟩,
    ⟨1, some 194, none, .p (.idx 1), [.t 189, .t 191]⟩,
    ⟨2, some 195, none, .r (.load false 1) false, [.t 194]⟩,
    ⟨3, some 28, none, .p .mov, [.t 193]⟩,
    ⟨4, some 29, none, .p .mov, [.t 195]⟩])
   (.seq (.reg 0 [⟨0, some 196, none, .p .mov, [.t 27]⟩,
    ⟨1, some 197, none, .p .mov, [.t 29]⟩,
    ⟨2, some 198, none, .p .len, [.t 197]⟩,
    ⟨3, some 199, none, .p (.bin .add), [.t 196, .t 198]⟩,
    ⟨4, some 27, none, .p .mov, [.t 199]⟩])
   (.seq (.reg 0 [⟨0, some 200, none, .p .mov, [.t 29]⟩,
    ⟨1, some 201, none, .p .len, [.t 200]⟩,
    ⟨2, some 202, none, .p .mov, [.c (.int .i64 0)]⟩])
   (.block 4 (.loop g577_1))))))
   (.reg 0 [⟨0, some 214, none, .p (.bin .add), [.t 191, .c (.int .i64 1)]⟩,
    ⟨1, some 191, none, .p .mov, [.t 214]⟩])))
def g577 : GL.Fn := ⟨.seq (.reg 0 [⟨0, some 4, none, .p .mov, [.c (.bool false)]⟩])
   (.seq (.seq (.reg 0 [⟨0, some 32, none, .p .mov, [.t 0]⟩,
    ⟨1, some 33, none, .p .len, [.t 32]⟩,
    ⟨2, some 34, none, .p .mov, [.t 1]⟩,
    ⟨3, some 35, none, .p .len, [.t 34]⟩,
    ⟨4, some 36, none, .p (.bin .add), [.t 33, .t 35]⟩,
    ⟨5, some 37, none, .p (.bin .gtr), [.t 36, .c (.int .i64 1048576)]⟩])
   (.cond (.t 37) (.seq (.reg 0 [⟨0, some 4, none, .p .mov, [.c (.bool true)]⟩])
   (.ret))
   (.skip)))
   (.seq (.reg 0 [⟨0, some 39, none, .p .mov, [.t 0]⟩,
    ⟨1, some 40, none, .e .call [] [], [.f 578, .t 39]⟩,
    ⟨2, some 38, none, .p .mov, [.t 40]⟩,
    ⟨3, some 41, none, .p (.extract 0), [.t 38]⟩,
    ⟨4, some 42, none, .p (.extract 1), [.t 38]⟩,
    ⟨5, some 5, none, .p .mov, [.t 41]⟩,
    ⟨6, some 6, none, .p .mov, [.t 42]⟩])
   (.seq (.reg 0 [⟨0, some 44, none, .p .mov, [.t 5]⟩,
    ⟨1, some 45, none, .p .mov, [.t 6]⟩,
    ⟨2, some 46, none, .e .call [] [], [.f 579, .t 44, .t 45]⟩,
    ⟨3, some 43, none, .p .mov, [.t 46]⟩,
    ⟨4, some 47, none, .p (.extract 0), [.t 43]⟩,
    ⟨5, some 48, none, .p (.extract 1), [.t 43]⟩,
    ⟨6, some 49, none, .p (.extract 2), [.t 43]⟩,
    ⟨7, some 7, none, .p .mov, [.t 47]⟩,
    ⟨8, some 8, none, .p .mov, [.t 48]⟩,
    ⟨9, some 9, none, .p .mov, [.t 49]⟩])
   (.seq (.reg 0 [⟨0, some 51, none, .p .mov, [.t 6]⟩,
    ⟨1, some 52, none, .e .call [] [], [.f 580, .t 51]⟩,
    ⟨2, some 50, none, .p .mov, [.t 52]⟩,
    ⟨3, some 53, none, .p (.extract 0), [.t 50]⟩,
    ⟨4, some 54, none, .p (.extract 1), [.t 50]⟩,
    ⟨5, some 55, none, .p (.extract 2), [.t 50]⟩,
    ⟨6, some 10, none, .p .mov, [.t 53]⟩,
    ⟨7, some 11, none, .p .mov, [.t 54]⟩,
    ⟨8, some 12, none, .p .mov, [.t 55]⟩])
   (.seq (.reg 0 [⟨0, some 57, none, .p .mov, [.t 6]⟩,
    ⟨1, some 58, none, .e .call [] [], [.f 581, .t 57]⟩,
    ⟨2, some 56, none, .p .mov, [.t 58]⟩,
    ⟨3, some 59, none, .p (.extract 0), [.t 56]⟩,
    ⟨4, some 60, none, .p (.extract 1), [.t 56]⟩,
    ⟨5, some 61, none, .p (.extract 2), [.t 56]⟩,
    ⟨6, some 13, none, .p .mov, [.t 59]⟩,
    ⟨7, some 14, none, .p .mov, [.t 60]⟩,
    ⟨8, some 15, none, .p .mov, [.t 61]⟩])
   (.seq (.seq (.reg 0 [⟨0, some 62, none, .p .mov, [.t 12]⟩,
    ⟨1, some 63, none, .p .mov, [.t 15]⟩,
    ⟨2, some 64, none, .p (.eqB true), [.t 62, .t 63]⟩,
    ⟨3, some 65, none, .p .mov, [.t 64]⟩,
    ⟨4, some 66, some (65, false), .p .mov, [.t 10]⟩,
    ⟨5, some 67, some (65, false), .p .mov, [.t 13]⟩,
    ⟨6, some 68, some (65, false), .e .call [] [], [.f 24, .t 66, .t 67]⟩,
    ⟨7, some 69, some (65, false), .p (.un .not), [.t 68]⟩,
    ⟨8, some 70, none, .p .pick, [.t 65, .c (.bool true), .t 69]⟩,
    ⟨9, some 71, none, .p .mov, [.t 70]⟩,
    ⟨10, some 72, some (71, false), .p .mov, [.t 11]⟩,
    ⟨11, some 73, some (71, false), .p .mov, [.t 14]⟩,
    ⟨12, some 74, some (71, false), .e .call [] [], [.f 24, .t 72, .t 73]⟩,
    ⟨13, some 75, some (71, false), .p (.un .not), [.t 74]⟩,
    ⟨14, some 76, none, .p .pick, [.t 71, .c (.bool true), .t 75]⟩])
   (.cond (.t 76) (.seq (.reg 0 [⟨0, some 4, none, .p .mov, [.c (.bool false)]⟩])
   (.ret))
   (.skip)))
   (.seq (.seq (.reg 0 [⟨0, some 77, none, .p .mov, [.t 9]⟩])
   (.cond (.t 77) (.seq (.reg 0 [⟨0, some 78, none, .e (.new (.lit 1)) [] [], []⟩,
    ⟨1, some 79, none, .p .mov, [.t 5]⟩,
    ⟨2, some 80, none, .e (.append 1 8) [] [], [.t 78, .t 79]⟩,
    ⟨3, some 16, none, .p .mov, [.t 80]⟩])
   (.seq (.reg 0 [⟨0, some 81, none, .p .mov, [.t 1]⟩,
    ⟨1, some 82, none, .e .call [] [], [.f 31, .t 81]⟩,
    ⟨2, some 83, none, .p .mov, [.t 16]⟩,
    ⟨3, some 84, none, .p .len, [.t 83]⟩,
    ⟨4, some 85, none, .p (.bin .rem), [.t 82, .t 84]⟩,
    ⟨5, some 17, none, .p .mov, [.t 85]⟩])
   (.seq (.seq (.reg 0 [⟨0, some 86, none, .p .mov, [.t 10]⟩,
    ⟨1, some 87, none, .p .mov, [.t 17]⟩,
    ⟨2, some 88, none, .e .call [] [], [.f 204, .t 86, .t 87]⟩,
    ⟨3, some 89, none, .p (.un .not), [.t 88]⟩])
   (.cond (.t 89) (.reg 0 [⟨0, some 90, none, .p .mov, [.t 16]⟩,
    ⟨1, some 91, none, .p .mov, [.t 17]⟩,
    ⟨2, some 92, none, .p (.idx 1), [.t 90, .t 91]⟩,
    ⟨3, none, none, .e (.store 1) [] [], [.t 92, .c (.int .i64 77)]⟩])
   (.skip)))
   (.seq (.reg 0 [⟨0, some 94, none, .p .mov, [.t 16]⟩,
    ⟨1, some 95, none, .p .mov, [.t 6]⟩,
    ⟨2, some 96, none, .e .call [] [], [.f 579, .t 94, .t 95]⟩,
    ⟨3, some 93, none, .p .mov, [.t 96]⟩,
    ⟨4, some 97, none, .p (.extract 0), [.t 93]⟩,
    ⟨5, some 98, none, .p (.extract 1), [.t 93]⟩,
    ⟨6, some 99, none, .p (.extract 2), [.t 93]⟩,
    ⟨7, some 18, none, .p .mov, [.t 97]⟩,
    ⟨8, some 19, none, .p .mov, [.t 98]⟩,
    ⟨9, some 20, none, .p .mov, [.t 99]⟩])
   (.seq (.seq (.reg 0 [⟨0, some 100, none, .p .mov, [.t 12]⟩,
    ⟨1, some 101, none, .p (.un .not), [.t 100]⟩,
    ⟨2, some 102, none, .p .mov, [.t 101]⟩,
    ⟨3, some 103, some (102, false), .p .mov, [.t 20]⟩,
    ⟨4, some 104, some (102, false), .p (.un .not), [.t 103]⟩,
    ⟨5, some 105, none, .p .pick, [.t 102, .c (.bool true), .t 104]⟩,
    ⟨6, some 106, none, .p .mov, [.t 105]⟩,
    ⟨7, some 107, some (106, false), .p .mov, [.t 8]⟩,
    ⟨8, some 108, some (106, false), .p .mov, [.t 19]⟩,
    ⟨9, some 109, some (106, false), .e .call [] [], [.f 24, .t 107, .t 108]⟩,
    ⟨10, some 110, some (106, false), .p (.un .not), [.t 109]⟩,
    ⟨11, some 111, none, .p .pick, [.t 106, .c (.bool true), .t 110]⟩,
    ⟨12, some 112, none, .p .mov, [.t 111]⟩,
    ⟨13, some 113, some (112, false), .p .mov, [.t 18]⟩,
    ⟨14, some 114, some (112, false), .p .len, [.t 113]⟩,
    ⟨15, some 115, some (112, false), .p .mov, [.t 7]⟩,
    ⟨16, some 116, some (112, false), .p .len, [.t 115]⟩,
    ⟨17, some 117, some (112, false), .p (.bin .neq), [.t 114, .t 116]⟩,
    ⟨18, some 118, none, .p .pick, [.t 112, .c (.bool true), .t 117]⟩,
    ⟨19, some 119, none, .p .mov, [.t 118]⟩,
    ⟨20, some 120, some (119, false), .p .mov, [.t 7]⟩,
    ⟨21, some 121, some (119, false), .p .len, [.t 120]⟩,
    ⟨22, some 122, some (119, false), .p .mov, [.t 5]⟩,
    ⟨23, some 123, some (119, false), .p .len, [.t 122]⟩,
    ⟨24, some 124, some (119, false), .p (.bin .neq), [.t 121, .t 123]⟩,
    ⟨25, some 125, none, .p .pick, [.t 119, .c (.bool true), .t 124]⟩])
   (.cond (.t 125) (.seq (.reg 0 [⟨0, some 4, none, .p .mov, [.c (.bool false)]⟩])
   (.ret))
   (.skip)))
   (.seq (.reg 0 [⟨0, some 126, none, .p .mov, [.t 7]⟩,
    ⟨1, some 127, none, .p .len, [.t 126]⟩,
    ⟨2, some 128, none, .p .mov, [.c (.int .i64 0)]⟩])
   (.block 0 (.loop g577_0))))))))
   (.skip)))
   (.seq (.reg 0 [⟨0, some 168, none, .p .mov, [.t 1]⟩,
    ⟨1, some 169, none, .e .call [] [], [.f 582, .t 168]⟩,
    ⟨2, some 22, none, .p .mov, [.t 169]⟩])
   (.seq (.reg 0 [⟨0, some 171, none, .p .mov, [.t 22]⟩,
    ⟨1, some 172, none, .e .call [] [], [.f 583, .t 171]⟩,
    ⟨2, some 170, none, .p .mov, [.t 172]⟩,
    ⟨3, some 173, none, .p (.extract 0), [.t 170]⟩,
    ⟨4, some 174, none, .p (.extract 1), [.t 170]⟩,
    ⟨5, some 23, none, .p .mov, [.t 173]⟩,
    ⟨6, some 24, none, .p .mov, [.t 174]⟩])
   (.seq (.reg 0 [⟨0, some 176, none, .p .mov, [.t 22]⟩,
    ⟨1, some 177, none, .e .call [] [], [.f 584, .t 176]⟩,
    ⟨2, some 175, none, .p .mov, [.t 177]⟩,
    ⟨3, some 178, none, .p (.extract 0), [.t 175]⟩,
    ⟨4, some 179, none, .p (.extract 1), [.t 175]⟩,
    ⟨5, some 25, none, .p .mov, [.t 178]⟩,
    ⟨6, some 26, none, .p .mov, [.t 179]⟩])
   (.seq (.seq (.reg 0 [⟨0, some 180, none, .p .mov, [.t 24]⟩,
    ⟨1, some 181, none, .p .mov, [.t 26]⟩,
    ⟨2, some 182, none, .p (.eqB true), [.t 180, .t 181]⟩,
    ⟨3, some 183, none, .p .mov, [.t 182]⟩,
    ⟨4, some 184, some (183, false), .p .mov, [.t 23]⟩,
    ⟨5, some 185, some (183, false), .p .mov, [.t 25]⟩,
    ⟨6, some 186, some (183, false), .e .call [] [], [.f 383, .t 184, .t 185]⟩,
    ⟨7, some 187, some (183, false), .p (.un .not), [.t 186]⟩,
    ⟨8, some 188, none, .p .pick, [.t 183, .c (.bool true), .t 187]⟩])
   (.cond (.t 188) (.seq (.reg 0 [⟨0, some 4, none, .p .mov, [.c (.bool false)]⟩])
   (.ret))
   (.skip)))
   (.seq (.reg 0 [⟨0, some 27, none, .p .mov, [.c (.int .i64 0)]⟩])
   (.seq (.seq (.reg 0 [⟨0, some 189, none, .p .mov, [.t 23]⟩,
    ⟨1, some 190, none, .p .len, [.t 189]⟩,
    ⟨2, some 191, none, .p .mov, [.c (.int .i64 0)]⟩])
   (.block 2 (.loop g577_2)))
   (.seq (.reg 0 [⟨0, some 215, none, .p .mov, [.t 24]⟩,
    ⟨1, some 216, none, .p (.un .not), [.t 215]⟩,
    ⟨2, some 217, none, .p .mov, [.t 216]⟩,
    ⟨3, some 218, some (217, false), .p .mov, [.t 27]⟩,
    ⟨4, some 219, some (217, false), .p .mov, [.t 22]⟩,
    ⟨5, some 220, some (217, false), .p .len, [.t 219]⟩,
    ⟨6, some 221, some (217, false), .p (.bin .eql), [.t 218, .t 220]⟩,
    ⟨7, some 222, none, .p .pick, [.t 217, .c (.bool true), .t 221]⟩,
    ⟨8, some 4, none, .p .mov, [.t 222]⟩])
   (.ret))))))))))))))),
  [.tmp 4]⟩
/- loop.example/g00641/laws.sameRows -/
def g383_0 : GL.Code := .seq (.reg 0 [⟨0, some 14, none, .p (.bin .lss), [.t 13, .t 12]⟩])
   (.seq (.cond (.t 14) (.skip)
   (.exit 0))
   (.seq (.block 1 (.seq (.reg 0 [⟨0, some 15, none, .p .mov, [.t 13]⟩,
    ⟨1, some 5, none, .p .mov, [.t 15]⟩])
   (.seq (.reg 0 [⟨0, some 16, none, .p .mov, [.t 0]⟩,
    ⟨1, some 17, none, .p .mov, [.t 5]⟩,
    ⟨2, some 18, none, .p (.idx 1), [.t 16, .t 17]⟩,
    ⟨3, some 19, none, .r (.load false 1) false, [.t 18]⟩,
    ⟨4, some 20, none, .p .mov, [.t 1]⟩,
    ⟨5, some 21, none, .p .mov, [.t 5]⟩,
    ⟨6, some 22, none, .p (.idx 1), [.t 20, .t 21]⟩,
    ⟨7, some 23, none, .r (.load false 1) false, [.t 22]⟩,
    ⟨8, some 24, none, .e .call [] [], [.f 24, .t 19, .t 23]⟩,
    ⟨9, some 25, none, .p (.un .not), [.t 24]⟩])
   (.cond (.t 25) (.seq (.reg 0 [⟨0, some 4, none, .p .mov, [.c (.bool false)]⟩])
   (.ret))
   (.skip)))))
   (.reg 0 [⟨0, some 26, none, .p (.bin .add), [.t 13, .c (.int .i64 1)]⟩,
    ⟨1, some 13, none, .p .mov, [.t 26]⟩])))
def g383 : GL.Fn := ⟨.seq (.reg 0 [⟨0, some 4, none, .p .mov, [.c (.bool false)]⟩])
   (.seq (.seq (.reg 0 [⟨0, some 6, none, .p .mov, [.t 0]⟩,
    ⟨1, some 7, none, .p .len, [.t 6]⟩,
    ⟨2, some 8, none, .p .mov, [.t 1]⟩,
    ⟨3, some 9, none, .p .len, [.t 8]⟩,
    ⟨4, some 10, none, .p (.bin .neq), [.t 7, .t 9]⟩])
   (.cond (.t 10) (.seq (.reg 0 [⟨0, some 4, none, .p .mov, [.c (.bool false)]⟩])
   (.ret))
   (.skip)))
   (.seq (.seq (.reg 0 [⟨0, some 11, none, .p .mov, [.t 0]⟩,
    ⟨1, some 12, none, .p .len, [.t 11]⟩,
    ⟨2, some 13, none, .p .mov, [.c (.int .i64 0)]⟩])
   (.block 0 (.loop g383_0)))
   (.seq (.reg 0 [⟨0, some 4, none, .p .mov, [.c (.bool true)]⟩])
   (.ret)))),
  [.tmp 4]⟩
/- loop.example/g00641/laws.sameInts -/
def g24_0 : GL.Code := .seq (.reg 0 [⟨0, some 14, none, .p (.bin .lss), [.t 13, .t 12]⟩])
   (.seq (.cond (.t 14) (.skip)
   (.exit 0))
   (.seq (.block 1 (.seq (.reg 0 [⟨0, some 15, none, .p .mov, [.t 13]⟩,
    ⟨1, some 5, none, .p .mov, [.t 15]⟩])
   (.seq (.reg 0 [⟨0, some 16, none, .p .mov, [.t 0]⟩,
    ⟨1, some 17, none, .p .mov, [.t 5]⟩,
    ⟨2, some 18, none, .p (.idx 1), [.t 16, .t 17]⟩,
    ⟨3, some 19, none, .r (.load false 1) false, [.t 18]⟩,
    ⟨4, some 20, none, .p .mov, [.t 1]⟩,
    ⟨5, some 21, none, .p .mov, [.t 5]⟩,
    ⟨6, some 22, none, .p (.idx 1), [.t 20, .t 21]⟩,
    ⟨7, some 23, none, .r (.load false 1) false, [.t 22]⟩,
    ⟨8, some 24, none, .p (.bin .neq), [.t 19, .t 23]⟩])
   (.cond (.t 24) (.seq (.reg 0 [⟨0, some 4, none, .p .mov, [.c (.bool false)]⟩])
   (.ret))
   (.skip)))))
   (.reg 0 [⟨0, some 25, none, .p (.bin .add), [.t 13, .c (.int .i64 1)]⟩,
    ⟨1, some 13, none, .p .mov, [.t 25]⟩])))
def g24 : GL.Fn := ⟨.seq (.reg 0 [⟨0, some 4, none, .p .mov, [.c (.bool false)]⟩])
   (.seq (.seq (.reg 0 [⟨0, some 6, none, .p .mov, [.t 0]⟩,
    ⟨1, some 7, none, .p .len, [.t 6]⟩,
    ⟨2, some 8, none, .p .mov, [.t 1]⟩,
    ⟨3, some 9, none, .p .len, [.t 8]⟩,
    ⟨4, some 10, none, .p (.bin .neq), [.t 7, .t 9]⟩])
   (.cond (.t 10) (.seq (.reg 0 [⟨0, some 4, none, .p .mov, [.c (.bool false)]⟩])
   (.ret))
   (.skip)))
   (.seq (.seq (.reg 0 [⟨0, some 11, none, .p .mov, [.t 0]⟩,
    ⟨1, some 12, none, .p .len, [.t 11]⟩,
    ⟨2, some 13, none, .p .mov, [.c (.int .i64 0)]⟩])
   (.block 0 (.loop g24_0)))
   (.seq (.reg 0 [⟨0, some 4, none, .p .mov, [.c (.bool true)]⟩])
   (.ret)))),
  [.tmp 4]⟩
/- loop.example/g00641/laws.has -/
def g204_0 : GL.Code := .seq (.reg 0 [⟨0, some 10, none, .p (.bin .lss), [.t 9, .t 8]⟩])
   (.seq (.cond (.t 10) (.skip)
   (.exit 0))
   (.seq (.block 1 (.seq (.reg 0 [⟨0, some 11, none, .p (.idx 1), [.t 7, .t 9]⟩,
    ⟨1, some 12, none, .r (.load false 1) false, [.t 11]⟩,
    ⟨2, some 6, none, .p .mov, [.t 12]⟩])
   (.seq (.reg 0 [⟨0, some 13, none, .p .mov, [.t 6]⟩,
    ⟨1, some 14, none, .p .mov, [.t 1]⟩,
    ⟨2, some 15, none, .p (.bin .eql), [.t 13, .t 14]⟩])
   (.cond (.t 15) (.seq (.reg 0 [⟨0, some 4, none, .p .mov, [.c (.bool true)]⟩])
   (.ret))
   (.skip)))))
   (.reg 0 [⟨0, some 16, none, .p (.bin .add), [.t 9, .c (.int .i64 1)]⟩,
    ⟨1, some 9, none, .p .mov, [.t 16]⟩])))
def g204 : GL.Fn := ⟨.seq (.reg 0 [⟨0, some 4, none, .p .mov, [.c (.bool false)]⟩])
   (.seq (.seq (.reg 0 [⟨0, some 7, none, .p .mov, [.t 0]⟩,
    ⟨1, some 8, none, .p .len, [.t 7]⟩,
    ⟨2, some 9, none, .p .mov, [.c (.int .i64 0)]⟩])
   (.block 0 (.loop g204_0)))
   (.seq (.reg 0 [⟨0, some 4, none, .p .mov, [.c (.bool false)]⟩])
   (.ret))),
  [.tmp 4]⟩
/- loop.example/g00641/spec.DrawRunSteps -/
def g578 : GL.Fn := ⟨.seq (.reg 0 [⟨0, some 2, none, .p .mov, [.c (.nils)]⟩,
    ⟨1, some 3, none, .p .mov, [.c (.nils)]⟩])
   (.seq (.reg 0 [⟨0, some 5, none, .p .mov, [.t 0]⟩,
    ⟨1, some 6, none, .p (.build [.nils, .int .i64 0, .int .u64 0] [(0, 1)]), [.t 5]⟩,
    ⟨2, some 7, none, .e (.new (.box 3)) [] [], [.t 6]⟩,
    ⟨3, some 4, none, .p .mov, [.t 7]⟩])
   (.seq (.reg 0 [⟨0, some 8, none, .p .mov, [.t 4]⟩,
    ⟨1, some 9, none, .e .call [] [], [.f 594, .t 8]⟩,
    ⟨2, some 10, none, .p .mov, [.t 4]⟩,
    ⟨3, some 11, none, .e .call [] [], [.f 595, .t 10]⟩,
    ⟨4, some 2, none, .p .mov, [.t 9]⟩,
    ⟨5, some 3, none, .p .mov, [.t 11]⟩])
   (.ret))),
  [.tmp 2, .tmp 3]⟩
/- loop.example/g00641/impl.RunSteps -/
def g579 : GL.Fn := ⟨.seq (.reg 0 [⟨0, some 4, none, .p .mov, [.c (.nils)]⟩,
    ⟨1, some 5, none, .p .mov, [.c (.nils)]⟩,
    ⟨2, some 6, none, .p .mov, [.c (.bool false)]⟩])
   (.seq (.seq (.reg 0 [⟨0, some 9, none, .p .mov, [.t 0]⟩,
    ⟨1, some 10, none, .e .call [] [], [.f 596, .t 9]⟩,
    ⟨2, some 11, none, .p (.un .not), [.t 10]⟩,
    ⟨3, some 12, none, .p .mov, [.t 11]⟩,
    ⟨4, some 13, some (12, false), .p .mov, [.t 1]⟩,
    ⟨5, some 14, some (12, false), .e .call [] [], [.f 597, .t 13]⟩,
    ⟨6, some 15, some (12, false), .p (.un .not), [.t 14]⟩,
    ⟨7, some 16, none, .p .pick, [.t 12, .c (.bool true), .t 15]⟩])
   (.cond (.t 16) (.seq (.reg 0 [⟨0, some 4, none, .p .mov, [.c (.nils)]⟩,
    ⟨1, some 5, none, .p .mov, [.c (.nils)]⟩,
    ⟨2, some 6, none, .p .mov, [.c (.bool false)]⟩])
   (.ret))
   (.skip)))
   (.seq (.reg 0 [⟨0, some 18, none, .p .mov, [.t 0]⟩,
    ⟨1, some 19, none, .p .mov, [.t 1]⟩,
    ⟨2, some 20, none, .p .mov, [.t 1]⟩,
    ⟨3, some 21, none, .p .len, [.t 20]⟩,
    ⟨4, some 22, none, .e .call [] [], [.f 598, .t 21]⟩,
    ⟨5, some 23, none, .e .call [] [], [.f 599, .t 18, .t 19, .t 22]⟩,
    ⟨6, some 17, none, .p .mov, [.t 23]⟩,
    ⟨7, some 24, none, .p (.extract 0), [.t 17]⟩,
    ⟨8, some 25, none, .p (.extract 1), [.t 17]⟩,
    ⟨9, some 7, none, .p .mov, [.t 24]⟩,
    ⟨10, some 8, none, .p .mov, [.t 25]⟩])
   (.seq (.reg 0 [⟨0, some 26, none, .p .mov, [.t 7]⟩,
    ⟨1, some 27, none, .p .mov, [.t 8]⟩,
    ⟨2, some 4, none, .p .mov, [.t 26]⟩,
    ⟨3, some 5, none, .p .mov, [.t 27]⟩,
    ⟨4, some 6, none, .p .mov, [.c (.bool true)]⟩])
   (.ret)))),
  [.tmp 4, .tmp 5, .tmp 6]⟩
/- loop.example/g00641/impl.KeysUsed -/
def g580_0 : GL.Code := .seq (.reg 0 [⟨0, some 17, none, .p (.bin .lss), [.t 16, .t 15]⟩])
   (.seq (.cond (.t 17) (.skip)
   (.exit 0))
   (.seq (.block 1 (.seq (.reg 0 [⟨0, some 18, none, .p (.idx 5), [.t 14, .t 16]⟩,
    ⟨1, some 19, none, .r (.load true 5) false, [.t 18]⟩,
    ⟨2, some 8, none, .l (.alloc 8 [.int .i64 0, .int .i64 0, .int .i64 0, .int .i64 0, .int .i64 0]), []⟩,
    ⟨3, none, none, .l (.store 8 5), [.t 8, .t 19]⟩])
   (.seq (.reg 0 [⟨0, some 20, none, .p (.faddr 0), [.t 8]⟩,
    ⟨1, some 21, none, .l (.load 8 false 1), [.t 20]⟩])
   (.block 2 (.seq (.reg 0 [⟨0, some 23, none, .p (.bin .eql), [.t 21, .c (.int .i64 1)]⟩,
    ⟨1, some 22, none, .p .mov, [.t 23]⟩])
   (.cond (.t 22) (.reg 0 [⟨0, some 24, none, .p .mov, [.t 5]⟩,
    ⟨1, some 25, none, .l (.load 8 true 5), [.t 8]⟩,
    ⟨2, some 26, none, .e .call [] [], [.f 600, .t 25]⟩,
    ⟨3, some 27, none, .e (.new (.lit 1)) [] [], [.t 26]⟩,
    ⟨4, some 28, none, .e .call [] [], [.f 412, .t 24, .t 27]⟩,
    ⟨5, some 5, none, .p .mov, [.t 28]⟩])
   (.seq (.reg 0 [⟨0, some 30, none, .p (.bin .eql), [.t 21, .c (.int .i64 3)]⟩,
    ⟨1, some 29, none, .p .mov, [.t 30]⟩])
   (.cond (.t 29) (.reg 0 [⟨0, some 31, none, .p .mov, [.t 6]⟩,
    ⟨1, some 32, none, .l (.load 8 true 5), [.t 8]⟩,
    ⟨2, some 33, none, .e .call [] [], [.f 600, .t 32]⟩,
    ⟨3, some 34, none, .e (.new (.lit 1)) [] [], [.t 33]⟩,
    ⟨4, some 35, none, .e .call [] [], [.f 412, .t 31, .t 34]⟩,
    ⟨5, some 6, none, .p .mov, [.t 35]⟩])
   (.skip)))))))))
   (.reg 0 [⟨0, some 36, none, .p (.bin .add), [.t 16, .c (.int .i64 1)]⟩,
    ⟨1, some 16, none, .p .mov, [.t 36]⟩])))
def g580 : GL.Fn := ⟨.seq (.reg 0 [⟨0, some 2, none, .p .mov, [.c (.nils)]⟩,
    ⟨1, some 3, none, .p .mov, [.c (.nils)]⟩,
    ⟨2, some 4, none, .p .mov, [.c (.bool false)]⟩])
   (.seq (.seq (.reg 0 [⟨0, some 9, none, .p .mov, [.t 0]⟩,
    ⟨1, some 10, none, .e .call [] [], [.f 597, .t 9]⟩,
    ⟨2, some 11, none, .p (.un .not), [.t 10]⟩])
   (.cond (.t 11) (.seq (.reg 0 [⟨0, some 2, none, .p .mov, [.c (.nils)]⟩,
    ⟨1, some 3, none, .p .mov, [.c (.nils)]⟩,
    ⟨2, some 4, none, .p .mov, [.c (.bool false)]⟩])
   (.ret))
   (.skip)))
   (.seq (.reg 0 [⟨0, some 12, none, .e (.new (.lit 1)) [] [], []⟩,
    ⟨1, some 13, none, .e (.new (.lit 1)) [] [], []⟩,
    ⟨2, some 5, none, .p .mov, [.t 12]⟩,
    ⟨3, some 6, none, .p .mov, [.t 13]⟩])
   (.seq (.seq (.reg 0 [⟨0, some 14, none, .p .mov, [.t 0]⟩,
    ⟨1, some 15, none, .p .len, [.t 14]⟩,
    ⟨2, some 16, none, .p .mov, [.c (.int .i64 0)]⟩])
   (.block 0 (.loop g580_0)))
   (.seq (.reg 0 [⟨0, some 37, none, .p .mov, [.t 5]⟩,
    ⟨1, some 38, none, .p .mov, [.t 6]⟩,
    ⟨2, some 2, none, .p .mov, [.t 37]⟩,
    ⟨3, some 3, none, .p .mov, [.t 38]⟩,
    ⟨4, some 4, none, .p .mov, [.c (.bool true)]⟩])
   (.ret))))),
  [.tmp 2, .tmp 3, .tmp 4]⟩
/- loop.example/g00641/spec.KeysUsed -/
def g581_0 : GL.Code := .seq (.reg 0 [⟨0, some 15, none, .p (.bin .lss), [.t 14, .t 13]⟩])
   (.seq (.cond (.t 15) (.skip)
   (.exit 0))
   (.seq (.block 1 (.seq (.reg 0 [⟨0, some 16, none, .p (.idx 5), [.t 12, .t 14]⟩,
    ⟨1, some 17, none, .r (.load true 5) false, [.t 16]⟩,
    ⟨2, some 8, none, .l (.alloc 8 [.int .i64 0, .int .i64 0, .int .i64 0, .int .i64 0, .int .i64 0]), []⟩,
    ⟨3, none, none, .l (.store 8 5), [.t 8, .t 17]⟩])
   (.seq (.reg 0 [⟨0, some 18, none, .p (.faddr 0), [.t 8]⟩,
    ⟨1, some 19, none, .l (.load 8 false 1), [.t 18]⟩])
   (.block 2 (.seq (.reg 0 [⟨0, some 21, none, .p (.bin .eql), [.t 19, .c (.int .i64 1)]⟩,
    ⟨1, some 20, none, .p .mov, [.t 21]⟩])
   (.cond (.t 20) (.reg 0 [⟨0, some 22, none, .p .mov, [.t 5]⟩,
    ⟨1, some 23, none, .p (.faddr 1), [.t 8]⟩,
    ⟨2, some 24, none, .l (.load 8 false 1), [.t 23]⟩,
    ⟨3, some 25, none, .p (.bin .mul), [.c (.int .i64 4), .t 24]⟩,
    ⟨4, some 26, none, .p (.faddr 2), [.t 8]⟩,
    ⟨5, some 27, none, .l (.load 8 false 1), [.t 26]⟩,
    ⟨6, some 28, none, .p (.bin .add), [.t 25, .t 27]⟩,
    ⟨7, some 29, none, .e .call [] [], [.f 410, .t 22, .t 28]⟩,
    ⟨8, some 5, none, .p .mov, [.t 29]⟩])
   (.seq (.reg 0 [⟨0, some 31, none, .p (.bin .eql), [.t 19, .c (.int .i64 3)]⟩,
    ⟨1, some 30, none, .p .mov, [.t 31]⟩])
   (.cond (.t 30) (.reg 0 [⟨0, some 32, none, .p .mov, [.t 6]⟩,
    ⟨1, some 33, none, .p (.faddr 1), [.t 8]⟩,
    ⟨2, some 34, none, .l (.load 8 false 1), [.t 33]⟩,
    ⟨3, some 35, none, .p (.bin .mul), [.c (.int .i64 4), .t 34]⟩,
    ⟨4, some 36, none, .p (.faddr 2), [.t 8]⟩,
    ⟨5, some 37, none, .l (.load 8 false 1), [.t 36]⟩,
    ⟨6, some 38, none, .p (.bin .add), [.t 35, .t 37]⟩,
    ⟨7, some 39, none, .e .call [] [], [.f 410, .t 32, .t 38]⟩,
    ⟨8, some 6, none, .p .mov, [.t 39]⟩])
   (.skip)))))))))
   (.reg 0 [⟨0, some 40, none, .p (.bin .add), [.t 14, .c (.int .i64 1)]⟩,
    ⟨1, some 14, none, .p .mov, [.t 40]⟩])))
def g581 : GL.Fn := ⟨.seq (.reg 0 [⟨0, some 2, none, .p .mov, [.c (.nils)]⟩,
    ⟨1, some 3, none, .p .mov, [.c (.nils)]⟩,
    ⟨2, some 4, none, .p .mov, [.c (.bool false)]⟩])
   (.seq (.seq (.reg 0 [⟨0, some 9, none, .p .mov, [.t 0]⟩,
    ⟨1, some 10, none, .e .call [] [], [.f 601, .t 9]⟩,
    ⟨2, some 11, none, .p (.un .not), [.t 10]⟩])
   (.cond (.t 11) (.seq (.reg 0 [⟨0, some 2, none, .p .mov, [.c (.nils)]⟩,
    ⟨1, some 3, none, .p .mov, [.c (.nils)]⟩,
    ⟨2, some 4, none, .p .mov, [.c (.bool false)]⟩])
   (.ret))
   (.skip)))
   (.seq (.reg 0 [⟨0, some 5, none, .p .mov, [.c (.nils)]⟩,
    ⟨1, some 6, none, .p .mov, [.c (.nils)]⟩])
   (.seq (.seq (.reg 0 [⟨0, some 12, none, .p .mov, [.t 0]⟩,
    ⟨1, some 13, none, .p .len, [.t 12]⟩,
    ⟨2, some 14, none, .p .mov, [.c (.int .i64 0)]⟩])
   (.block 0 (.loop g581_0)))
   (.seq (.reg 0 [⟨0, some 41, none, .p .mov, [.t 5]⟩,
    ⟨1, some 42, none, .p .mov, [.t 6]⟩,
    ⟨2, some 2, none, .p .mov, [.t 41]⟩,
    ⟨3, some 3, none, .p .mov, [.t 42]⟩,
    ⟨4, some 4, none, .p .mov, [.c (.bool true)]⟩])
   (.ret))))),
  [.tmp 2, .tmp 3, .tmp 4]⟩
/- loop.example/g00641/laws.numberOf -/
def g31_0 : GL.Code := .seq (.reg 0 [⟨0, some 9, none, .p (.bin .lss), [.t 8, .t 7]⟩])
   (.seq (.cond (.t 9) (.skip)
   (.exit 0))
   (.seq (.block 1 (.seq (.reg 0 [⟨0, some 10, none, .p (.idx 1), [.t 6, .t 8]⟩,
    ⟨1, some 11, none, .r (.load false 1) false, [.t 10]⟩,
    ⟨2, some 5, none, .p .mov, [.t 11]⟩])
   (.reg 0 [⟨0, some 12, none, .p .mov, [.t 3]⟩,
    ⟨1, some 13, none, .p (.bin .mul), [.c (.int .i64 31), .t 12]⟩,
    ⟨2, some 14, none, .p .mov, [.t 5]⟩,
    ⟨3, some 15, none, .p (.conv .i64), [.t 14]⟩,
    ⟨4, some 16, none, .p (.bin .add), [.t 13, .t 15]⟩,
    ⟨5, some 17, none, .p (.bin .rem), [.t 16, .c (.int .i64 1000003)]⟩,
    ⟨6, some 3, none, .p .mov, [.t 17]⟩])))
   (.reg 0 [⟨0, some 18, none, .p (.bin .add), [.t 8, .c (.int .i64 1)]⟩,
    ⟨1, some 8, none, .p .mov, [.t 18]⟩])))
def g31 : GL.Fn := ⟨.seq (.reg 0 [⟨0, some 2, none, .p .mov, [.c (.int .i64 0)]⟩])
   (.seq (.reg 0 [⟨0, some 3, none, .p .mov, [.c (.int .i64 0)]⟩])
   (.seq (.seq (.reg 0 [⟨0, some 6, none, .p .mov, [.t 0]⟩,
    ⟨1, some 7, none, .p .len, [.t 6]⟩,
    ⟨2, some 8, none, .p .mov, [.c (.int .i64 0)]⟩])
   (.block 0 (.loop g31_0)))
   (.seq (.reg 0 [⟨0, some 19, none, .p .mov, [.t 3]⟩,
    ⟨1, some 2, none, .p .mov, [.t 19]⟩])
   (.ret)))),
  [.tmp 2]⟩
/- loop.example/g00641/spec.DrawPiecesOf -/
def g582 : GL.Fn := ⟨.seq (.reg 0 [⟨0, some 2, none, .p .mov, [.c (.nils)]⟩])
   (.seq (.reg 0 [⟨0, some 3, none, .p .mov, [.t 0]⟩,
    ⟨1, some 4, none, .e .call [] [], [.f 602, .t 3]⟩,
    ⟨2, some 2, none, .p .mov, [.t 4]⟩])
   (.ret)),
  [.tmp 2]⟩
/- loop.example/g00641/impl.PiecesOf -/
def g583 : GL.Fn := ⟨.seq (.reg 0 [⟨0, some 2, none, .p .mov, [.c (.nils)]⟩,
    ⟨1, some 3, none, .p .mov, [.c (.bool false)]⟩])
   (.seq (.seq (.reg 0 [⟨0, some 4, none, .p .mov, [.t 0]⟩,
    ⟨1, some 5, none, .e .call [] [], [.f 597, .t 4]⟩,
    ⟨2, some 6, none, .p (.un .not), [.t 5]⟩])
   (.cond (.t 6) (.seq (.reg 0 [⟨0, some 2, none, .p .mov, [.c (.nils)]⟩,
    ⟨1, some 3, none, .p .mov, [.c (.bool false)]⟩])
   (.ret))
   (.skip)))
   (.seq (.reg 0 [⟨0, some 7, none, .p .mov, [.t 0]⟩,
    ⟨1, some 8, none, .e .call [] [], [.f 603, .t 7]⟩,
    ⟨2, some 2, none, .p .mov, [.t 8]⟩,
    ⟨3, some 3, none, .p .mov, [.c (.bool true)]⟩])
   (.ret))),
  [.tmp 2, .tmp 3]⟩
/- loop.example/g00641/spec.PiecesOf -/
def g584_0 : GL.Code := .seq (.reg 0 [⟨0, some 14, none, .p (.bin .lss), [.t 13, .t 12]⟩])
   (.seq (.cond (.t 14) (.skip)
   (.exit 0))
   (.seq (.block 1 (.seq (.reg 0 [⟨0, some 15, none, .p .mov, [.t 13]⟩,
    ⟨1, some 16, none, .p (.idx 5), [.t 11, .t 13]⟩,
    ⟨2, some 17, none, .r (.load true 5) false, [.t 16]⟩,
    ⟨3, some 6, none, .l (.alloc 6 [.int .i64 0, .int .i64 0, .int .i64 0, .int .i64 0, .int .i64 0]), []⟩,
    ⟨4, some 5, none, .p .mov, [.t 15]⟩,
    ⟨5, none, none, .l (.store 6 5), [.t 6, .t 17]⟩])
   (.reg 0 [⟨0, some 18, none, .p .mov, [.t 4]⟩,
    ⟨1, some 19, none, .p (.faddr 1), [.t 6]⟩,
    ⟨2, some 20, none, .l (.load 6 false 1), [.t 19]⟩,
    ⟨3, some 21, none, .p .mov, [.t 4]⟩,
    ⟨4, some 22, none, .p (.faddr 1), [.t 6]⟩,
    ⟨5, some 23, none, .l (.load 6 false 1), [.t 22]⟩,
    ⟨6, some 24, none, .p (.idx 1), [.t 21, .t 23]⟩,
    ⟨7, some 25, none, .r (.load false 1) true, [.t 24]⟩,
    ⟨8, some 26, none, .p .mov, [.t 5]⟩,
    ⟨9, some 27, none, .e (.new (.lit 1)) [7] [], [.t 26]⟩,
    ⟨10, some 28, none, .e (.append 1 8) [] [], [.t 25, .t 27]⟩,
    ⟨11, some 29, none, .p (.idx 1), [.t 18, .t 20]⟩,
    ⟨12, none, none, .e (.store 1) [] [], [.t 29, .t 28]⟩])))
   (.reg 0 [⟨0, some 30, none, .p (.bin .add), [.t 13, .c (.int .i64 1)]⟩,
    ⟨1, some 13, none, .p .mov, [.t 30]⟩])))
def g584 : GL.Fn := ⟨.seq (.reg 0 [⟨0, some 2, none, .p .mov, [.c (.nils)]⟩,
    ⟨1, some 3, none, .p .mov, [.c (.bool false)]⟩])
   (.seq (.seq (.reg 0 [⟨0, some 7, none, .p .mov, [.t 0]⟩,
    ⟨1, some 8, none, .e .call [] [], [.f 601, .t 7]⟩,
    ⟨2, some 9, none, .p (.un .not), [.t 8]⟩])
   (.cond (.t 9) (.seq (.reg 0 [⟨0, some 2, none, .p .mov, [.c (.nils)]⟩,
    ⟨1, some 3, none, .p .mov, [.c (.bool false)]⟩])
   (.ret))
   (.skip)))
   (.seq (.reg 0 [⟨0, some 10, none, .e (.new (.make 1 24 [.nils])) [] [], [.c (.int .i64 3), .c (.int .i64 3)]⟩,
    ⟨1, some 4, none, .p .mov, [.t 10]⟩])
   (.seq (.seq (.reg 0 [⟨0, some 11, none, .p .mov, [.t 0]⟩,
    ⟨1, some 12, none, .p .len, [.t 11]⟩,
    ⟨2, some 13, none, .p .mov, [.c (.int .i64 0)]⟩])
   (.block 0 (.loop g584_0)))
   (.seq (.reg 0 [⟨0, some 31, none, .p .mov, [.t 4]⟩,
    ⟨1, some 2, none, .p .mov, [.t 31]⟩,
    ⟨2, some 3, none, .p .mov, [.c (.bool true)]⟩])
   (.ret))))),
  [.tmp 2, .tmp 3]⟩
/- (*loop.example/g00641/spec.l1Cur).one -/
def g92 : GL.Fn := ⟨.seq (.reg 0 [⟨0, some 4, none, .p .mov, [.c (.bool false)]⟩])
   (.seq (.reg 0 [⟨0, some 5, none, .p .mov, [.t 0]⟩,
    ⟨1, some 6, none, .p .mov, [.t 1]⟩,
    ⟨2, some 7, none, .e .call [] [], [.f 91, .t 5, .t 6]⟩,
    ⟨3, some 8, none, .p (.bin .eql), [.t 7, .c (.int .i64 0)]⟩,
    ⟨4, some 4, none, .p .mov, [.t 8]⟩])
   (.ret)),
  [.tmp 4]⟩
/- (*loop.example/g00641/spec.l1Cur).pick -/
def g91 : GL.Fn := ⟨.seq (.reg 0 [⟨0, some 4, none, .p .mov, [.c (.int .i64 0)]⟩])
   (.seq (.seq (.reg 0 [⟨0, some 6, none, .p .mov, [.t 1]⟩,
    ⟨1, some 7, none, .p (.bin .leq), [.t 6, .c (.int .i64 1)]⟩])
   (.cond (.t 7) (.seq (.reg 0 [⟨0, some 4, none, .p .mov, [.c (.int .i64 0)]⟩])
   (.ret))
   (.skip)))
   (.seq (.reg 0 [⟨0, some 8, none, .p .mov, [.t 0]⟩,
    ⟨1, some 9, none, .e .call [] [], [.f 140, .t 8]⟩,
    ⟨2, some 5, none, .p .mov, [.t 9]⟩])
   (.seq (.seq (.reg 0 [⟨0, some 10, none, .p .mov, [.t 1]⟩,
    ⟨1, some 11, none, .p (.bin .gtr), [.t 10, .c (.int .i64 200)]⟩])
   (.cond (.t 11) (.reg 0 [⟨0, some 12, none, .p .mov, [.t 5]⟩,
    ⟨1, some 13, none, .p (.bin .mul), [.t 12, .c (.int .i64 256)]⟩,
    ⟨2, some 14, none, .p .mov, [.t 0]⟩,
    ⟨3, some 15, none, .e .call [] [], [.f 140, .t 14]⟩,
    ⟨4, some 16, none, .p (.bin .add), [.t 13, .t 15]⟩,
    ⟨5, some 5, none, .p .mov, [.t 16]⟩])
   (.skip)))
   (.seq (.reg 0 [⟨0, some 17, none, .p .mov, [.t 5]⟩,
    ⟨1, some 18, none, .p .mov, [.t 1]⟩,
    ⟨2, some 19, none, .p (.bin .rem), [.t 17, .t 18]⟩,
    ⟨3, some 4, none, .p .mov, [.t 19]⟩])
   (.ret))))),
  [.tmp 4]⟩
/- loop.example/g00641/spec.l1Put -/
def g410_0 : GL.Code := .seq (.seq (.reg 0 [⟨0, some 7, none, .p .mov, [.t 5]⟩,
    ⟨1, some 8, none, .p .mov, [.t 0]⟩,
    ⟨2, some 9, none, .p .len, [.t 8]⟩,
    ⟨3, some 10, none, .p (.bin .lss), [.t 7, .t 9]⟩,
    ⟨4, some 11, none, .p .mov, [.t 10]⟩,
    ⟨5, some 12, some (11, true), .p .mov, [.t 0]⟩,
    ⟨6, some 13, some (11, true), .p .mov, [.t 5]⟩,
    ⟨7, some 14, some (11, true), .p (.idx 1), [.t 12, .t 13]⟩,
    ⟨8, some 15, some (11, true), .r (.load false 1) false, [.t 14]⟩,
    ⟨9, some 16, some (11, true), .p .mov, [.t 1]⟩,
    ⟨10, some 17, some (11, true), .p (.bin .lss), [.t 15, .t 16]⟩,
    ⟨11, some 18, none, .p .pick, [.t 11, .t 17, .c (.bool false)]⟩])
   (.cond (.t 18) (.skip)
   (.exit 0)))
   (.block 1 (.reg 0 [⟨0, some 19, none, .p .mov, [.t 5]⟩,
    ⟨1, some 20, none, .p (.bin .add), [.t 19, .c (.int .i64 1)]⟩,
    ⟨2, some 5, none, .p .mov, [.t 20]⟩]))
def g410 : GL.Fn := ⟨.seq (.reg 0 [⟨0, some 4, none, .p .mov, [.c (.nils)]⟩])
   (.seq (.reg 0 [⟨0, some 5, none, .p .mov, [.c (.int .i64 0)]⟩])
   (.seq (.block 0 (.loop g410_0))
   (.seq (.seq (.reg 0 [⟨0, some 21, none, .p .mov, [.t 5]⟩,
    ⟨1, some 22, none, .p .mov, [.t 0]⟩,
    ⟨2, some 23, none, .p .len, [.t 22]⟩,
    ⟨3, some 24, none, .p (.bin .lss), [.t 21, .t 23]⟩,
    ⟨4, some 25, none, .p .mov, [.t 24]⟩,
    ⟨5, some 26, some (25, true), .p .mov, [.t 0]⟩,
    ⟨6, some 27, some (25, true), .p .mov, [.t 5]⟩,
    ⟨7, some 28, some (25, true), .p (.idx 1), [.t 26, .t 27]⟩,
    ⟨8, some 29, some (25, true), .r (.load false 1) false, [.t 28]⟩,
    ⟨9, some 30, some (25, true), .p .mov, [.t 1]⟩,
    ⟨10, some 31, some (25, true), .p (.bin .eql), [.t 29, .t 30]⟩,
    ⟨11, some 32, none, .p .pick, [.t 25, .t 31, .c (.bool false)]⟩])
   (.cond (.t 32) (.seq (.reg 0 [⟨0, some 33, none, .p .mov, [.t 0]⟩,
    ⟨1, some 4, none, .p .mov, [.t 33]⟩])
   (.ret))
   (.skip)))
   (.seq (.reg 0 [⟨0, some 34, none, .e (.new (.lit 1)) [] [], []⟩,
    ⟨1, some 35, none, .p .mov, [.t 0]⟩,
    ⟨2, some 36, none, .p .mov, [.t 5]⟩,
    ⟨3, some 37, none, .p (.slice 1 false true false), [.t 35, .t 36]⟩,
    ⟨4, some 38, none, .e (.append 1 8) [] [], [.t 34, .t 37]⟩,
    ⟨5, some 6, none, .p .mov, [.t 38]⟩])
   (.seq (.reg 0 [⟨0, some 39, none, .p .mov, [.t 6]⟩,
    ⟨1, some 40, none, .p .mov, [.t 1]⟩,
    ⟨2, some 41, none, .e (.new (.lit 1)) [] [], [.t 40]⟩,
    ⟨3, some 42, none, .e (.append 1 8) [] [], [.t 39, .t 41]⟩,
    ⟨4, some 6, none, .p .mov, [.t 42]⟩])
   (.seq (.reg 0 [⟨0, some 43, none, .p .mov, [.t 6]⟩,
    ⟨1, some 44, none, .p .mov, [.t 0]⟩,
    ⟨2, some 45, none, .p .mov, [.t 5]⟩,
    ⟨3, some 46, none, .p (.slice 1 true false false), [.t 44, .t 45]⟩,
    ⟨4, some 47, none, .e (.append 1 8) [] [], [.t 43, .t 46]⟩,
    ⟨5, some 4, none, .p .mov, [.t 47]⟩])
   (.ret))))))),
  [.tmp 4]⟩
/- loop.example/g00641/impl.within -/
def g107 : GL.Fn := ⟨.seq (.reg 0 [⟨0, some 6, none, .p .mov, [.c (.bool false)]⟩])
   (.seq (.reg 0 [⟨0, some 7, none, .p .mov, [.t 0]⟩,
    ⟨1, some 8, none, .p .mov, [.t 1]⟩,
    ⟨2, some 9, none, .p (.bin .geq), [.t 7, .t 8]⟩,
    ⟨3, some 10, none, .p .mov, [.t 9]⟩,
    ⟨4, some 11, some (10, true), .p .mov, [.t 0]⟩,
    ⟨5, some 12, some (10, true), .p .mov, [.t 2]⟩,
    ⟨6, some 13, some (10, true), .p (.bin .leq), [.t 11, .t 12]⟩,
    ⟨7, some 14, none, .p .pick, [.t 10, .t 13, .c (.bool false)]⟩,
    ⟨8, some 6, none, .p .mov, [.t 14]⟩])
   (.ret)),
  [.tmp 6]⟩
/- slices.ContainsFunc[[]int,int] -/
def g304 : GL.Fn := ⟨.seq (.reg 0 [⟨0, some 4, none, .p .mov, [.c (.bool false)]⟩])
   (.seq (.reg 0 [⟨0, some 5, none, .p .mov, [.t 0]⟩,
    ⟨1, some 6, none, .p .mov, [.t 1]⟩,
    ⟨2, some 7, none, .e .call [] [], [.f 391, .t 5, .t 6]⟩,
    ⟨3, some 8, none, .p (.bin .geq), [.t 7, .c (.int .i64 0)]⟩,
    ⟨4, some 4, none, .p .mov, [.t 8]⟩])
   (.ret)),
  [.tmp 4]⟩
/- (*loop.example/g00641/spec.l1Cur).cellsOf -/
def g594_0 : GL.Code := .seq (.seq (.reg 0 [⟨0, some 5, none, .p .mov, [.t 4]⟩,
    ⟨1, some 6, none, .p (.bin .lss), [.t 5, .c (.int .i64 12)]⟩])
   (.cond (.t 6) (.skip)
   (.exit 0)))
   (.seq (.block 1 (.reg 0 [⟨0, some 9, none, .p .mov, [.t 3]⟩,
    ⟨1, some 10, none, .p .mov, [.t 0]⟩,
    ⟨2, some 11, none, .e .call [] [], [.f 91, .t 10, .c (.int .i64 9)]⟩,
    ⟨3, some 12, none, .e (.new (.lit 1)) [] [], [.t 11]⟩,
    ⟨4, some 13, none, .e (.append 1 8) [] [], [.t 9, .t 12]⟩,
    ⟨5, some 3, none, .p .mov, [.t 13]⟩]))
   (.reg 0 [⟨0, some 7, none, .p .mov, [.t 4]⟩,
    ⟨1, some 8, none, .p (.bin .add), [.t 7, .c (.int .i64 1)]⟩,
    ⟨2, some 4, none, .p .mov, [.t 8]⟩]))
def g594 : GL.Fn := ⟨.seq (.reg 0 [⟨0, some 2, none, .p .mov, [.c (.nils)]⟩])
   (.seq (.reg 0 [⟨0, some 3, none, .p .mov, [.c (.nils)]⟩])
   (.seq (.seq (.reg 0 [⟨0, some 4, none, .p .mov, [.c (.int .i64 0)]⟩])
   (.block 0 (.loop g594_0)))
   (.seq (.seq (.reg 0 [⟨0, some 14, none, .p .mov, [.t 0]⟩,
    ⟨1, some 15, none, .e .call [] [], [.f 92, .t 14, .c (.int .i64 30)]⟩])
   (.cond (.t 15) (.reg 0 [⟨0, some 16, none, .p .mov, [.t 3]⟩,
    ⟨1, some 17, none, .p .mov, [.t 0]⟩,
    ⟨2, some 18, none, .e (.new (.lit 1)) [] [], [.c (.int .i64 (-1000001)), .c (.int .i64 1000000), .c (.int .i64 1000001)]⟩,
    ⟨3, some 19, none, .e .call [] [], [.f 93, .t 17, .t 18]⟩,
    ⟨4, some 20, none, .p (.idx 1), [.t 16, .c (.int .i64 0)]⟩,
    ⟨5, none, none, .e (.store 1) [] [], [.t 20, .t 19]⟩])
   (.skip)))
   (.seq (.reg 0 [⟨0, some 21, none, .p .mov, [.t 3]⟩,
    ⟨1, some 2, none, .p .mov, [.t 21]⟩])
   (.ret))))),
  [.tmp 2]⟩
/- (*loop.example/g00641/spec.l1Cur).steps -/
def g595_0 : GL.Code := .seq (.seq (.reg 0 [⟨0, some 14, none, .p .mov, [.t 5]⟩,
    ⟨1, some 15, none, .p .mov, [.t 4]⟩,
    ⟨2, some 16, none, .p (.bin .lss), [.t 14, .t 15]⟩])
   (.cond (.t 16) (.skip)
   (.exit 0)))
   (.seq (.block 1 (.seq (.reg 0 [⟨0, some 19, none, .p .mov, [.t 0]⟩,
    ⟨1, some 20, none, .e .call [] [], [.f 91, .t 19, .c (.int .i64 3)]⟩,
    ⟨2, some 21, none, .p .mov, [.t 0]⟩,
    ⟨3, some 22, none, .e .call [] [], [.f 91, .t 21, .c (.int .i64 4)]⟩,
    ⟨4, some 23, none, .p (.build [.int .i64 0, .int .i64 0, .int .i64 0, .int .i64 0, .int .i64 0] [(0, 1), (1, 1), (2, 1)]), [.c (.int .i64 1), .t 20, .t 22]⟩,
    ⟨5, some 6, none, .l (.alloc 6 [.int .i64 0, .int .i64 0, .int .i64 0, .int .i64 0, .int .i64 0]), []⟩,
    ⟨6, none, none, .l (.store 6 5), [.t 6, .t 23]⟩])
   (.seq (.seq (.reg 0 [⟨0, some 24, none, .p .mov, [.t 5]⟩,
    ⟨1, some 25, none, .p (.bin .gtr), [.t 24, .c (.int .i64 0)]⟩,
    ⟨2, some 26, none, .p .mov, [.t 25]⟩,
    ⟨3, some 27, some (26, true), .p .mov, [.t 0]⟩,
    ⟨4, some 28, some (26, true), .e .call [] [], [.f 92, .t 27, .c (.int .i64 3)]⟩,
    ⟨5, some 29, some (26, true), .p (.un .not), [.t 28]⟩,
    ⟨6, some 30, none, .p .pick, [.t 26, .t 29, .c (.bool false)]⟩])
   (.cond (.t 30) (.seq (.reg 0 [⟨0, some 31, none, .p .mov, [.t 0]⟩,
    ⟨1, some 32, none, .e .call [] [], [.f 91, .t 31, .c (.int .i64 3)]⟩,
    ⟨2, some 33, none, .p .mov, [.t 0]⟩,
    ⟨3, some 34, none, .p .mov, [.t 5]⟩,
    ⟨4, some 35, none, .e .call [] [], [.f 91, .t 33, .t 34]⟩,
    ⟨5, some 36, none, .p .mov, [.t 0]⟩,
    ⟨6, some 37, none, .e .call [] [], [.f 91, .t 36, .c (.int .i64 20)]⟩,
    ⟨7, some 38, none, .p (.bin .sub), [.t 37, .c (.int .i64 9)]⟩,
    ⟨8, some 39, none, .p (.build [.int .i64 0, .int .i64 0, .int .i64 0, .int .i64 0, .int .i64 0] [(0, 1), (1, 1), (3, 1), (4, 1)]), [.c (.int .i64 2), .t 32, .t 35, .t 38]⟩,
    ⟨9, none, none, .l (.store 6 5), [.t 6, .t 39]⟩])
   (.seq (.seq (.reg 0 [⟨0, some 40, none, .p .mov, [.t 0]⟩,
    ⟨1, some 41, none, .e .call [] [], [.f 92, .t 40, .c (.int .i64 2)]⟩])
   (.cond (.t 41) (.reg 0 [⟨0, some 42, none, .p .mov, [.t 0]⟩,
    ⟨1, some 43, none, .e .call [] [], [.f 91, .t 42, .c (.int .i64 3)]⟩,
    ⟨2, some 44, none, .p .mov, [.t 0]⟩,
    ⟨3, some 45, none, .e .call [] [], [.f 91, .t 44, .c (.int .i64 4)]⟩,
    ⟨4, some 46, none, .p .mov, [.t 0]⟩,
    ⟨5, some 47, none, .p .mov, [.t 5]⟩,
    ⟨6, some 48, none, .e .call [] [], [.f 91, .t 46, .t 47]⟩,
    ⟨7, some 49, none, .p (.build [.int .i64 0, .int .i64 0, .int .i64 0, .int .i64 0, .int .i64 0] [(0, 1), (1, 1), (2, 1), (3, 1)]), [.c (.int .i64 3), .t 43, .t 45, .t 48]⟩,
    ⟨8, none, none, .l (.store 6 5), [.t 6, .t 49]⟩])
   (.skip)))
   (.seq (.reg 0 [⟨0, some 50, none, .p .mov, [.t 0]⟩,
    ⟨1, some 51, none, .e .call [] [], [.f 92, .t 50, .c (.int .i64 2)]⟩,
    ⟨2, some 52, none, .p .mov, [.t 51]⟩,
    ⟨3, some 53, some (52, true), .p .mov, [.t 3]⟩,
    ⟨4, some 54, some (52, true), .p (.faddr 3), [.t 6]⟩,
    ⟨5, some 55, some (52, true), .l (.load 6 false 1), [.t 54]⟩,
    ⟨6, some 56, some (52, true), .p (.idx 5), [.t 53, .t 55]⟩,
    ⟨7, some 57, some (52, true), .p (.faddr 1), [.t 56]⟩,
    ⟨8, some 58, some (52, true), .r (.load false 1) false, [.t 57]⟩,
    ⟨9, some 59, some (52, true), .p (.faddr 1), [.t 6]⟩,
    ⟨10, some 60, some (52, true), .l (.load 6 false 1), [.t 59]⟩,
    ⟨11, some 61, some (52, true), .p (.bin .gtr), [.t 58, .t 60]⟩,
    ⟨12, some 62, none, .p .pick, [.t 52, .t 61, .c (.bool false)]⟩])
   (.cond (.t 62) (.reg 0 [⟨0, some 63, none, .p .mov, [.t 3]⟩,
    ⟨1, some 64, none, .p (.faddr 3), [.t 6]⟩,
    ⟨2, some 65, none, .l (.load 6 false 1), [.t 64]⟩,
    ⟨3, some 66, none, .p (.idx 5), [.t 63, .t 65]⟩,
    ⟨4, some 67, none, .p (.faddr 1), [.t 66]⟩,
    ⟨5, some 68, none, .r (.load false 1) false, [.t 67]⟩,
    ⟨6, some 69, none, .p (.faddr 1), [.t 6]⟩,
    ⟨7, none, none, .l (.store 6 1), [.t 69, .t 68]⟩])
   (.skip)))))
   (.skip)))
   (.reg 0 [⟨0, some 70, none, .p .mov, [.t 3]⟩,
    ⟨1, some 71, none, .l (.load 6 true 5), [.t 6]⟩,
    ⟨2, some 72, none, .e (.new (.lit 5)) [] [], [.t 71]⟩,
    ⟨3, some 73, none, .e (.append 5 40) [] [], [.t 70, .t 72]⟩,
    ⟨4, some 3, none, .p .mov, [.t 73]⟩]))))
   (.reg 0 [⟨0, some 17, none, .p .mov, [.t 5]⟩,
    ⟨1, some 18, none, .p (.bin .add), [.t 17, .c (.int .i64 1)]⟩,
    ⟨2, some 5, none, .p .mov, [.t 18]⟩]))
def g595 : GL.Fn := ⟨.seq (.reg 0 [⟨0, some 2, none, .p .mov, [.c (.nils)]⟩])
   (.seq (.reg 0 [⟨0, some 3, none, .p .mov, [.c (.nils)]⟩])
   (.seq (.reg 0 [⟨0, some 7, none, .p .mov, [.t 0]⟩,
    ⟨1, some 8, none, .e .call [] [], [.f 91, .t 7, .c (.int .i64 8)]⟩,
    ⟨2, some 4, none, .p .mov, [.t 8]⟩])
   (.seq (.seq (.reg 0 [⟨0, some 9, none, .p .mov, [.t 0]⟩,
    ⟨1, some 10, none, .e .call [] [], [.f 92, .t 9, .c (.int .i64 20)]⟩])
   (.cond (.t 10) (.reg 0 [⟨0, some 11, none, .p .mov, [.t 0]⟩,
    ⟨1, some 12, none, .e .call [] [], [.f 91, .t 11, .c (.int .i64 2)]⟩,
    ⟨2, some 13, none, .p (.bin .add), [.c (.int .i64 10), .t 12]⟩,
    ⟨3, some 4, none, .p .mov, [.t 13]⟩])
   (.skip)))
   (.seq (.seq (.reg 0 [⟨0, some 5, none, .p .mov, [.c (.int .i64 0)]⟩])
   (.block 0 (.loop g595_0)))
   (.seq (.seq (.reg 0 [⟨0, some 74, none, .p .mov, [.t 3]⟩,
    ⟨1, some 75, none, .p .len, [.t 74]⟩,
    ⟨2, some 76, none, .p (.bin .gtr), [.t 75, .c (.int .i64 0)]⟩,
    ⟨3, some 77, none, .p .mov, [.t 76]⟩,
    ⟨4, some 78, some (77, true), .p .mov, [.t 0]⟩,
    ⟨5, some 79, some (77, true), .e .call [] [], [.f 92, .t 78, .c (.int .i64 30)]⟩,
    ⟨6, some 80, none, .p .pick, [.t 77, .t 79, .c (.bool false)]⟩])
   (.cond (.t 80) (.reg 0 [⟨0, some 81, none, .p .mov, [.t 3]⟩,
    ⟨1, some 82, none, .p .mov, [.t 0]⟩,
    ⟨2, some 83, none, .e .call [] [], [.f 91, .t 82, .c (.int .i64 5)]⟩,
    ⟨3, some 84, none, .p .mov, [.t 0]⟩,
    ⟨4, some 85, none, .e .call [] [], [.f 91, .t 84, .c (.int .i64 4)]⟩,
    ⟨5, some 86, none, .p .mov, [.t 0]⟩,
    ⟨6, some 87, none, .e (.new (.lit 1)) [] [], [.c (.int .i64 (-100)), .c (.int .i64 0), .c (.int .i64 99)]⟩,
    ⟨7, some 88, none, .e .call [] [], [.f 93, .t 86, .t 87]⟩,
    ⟨8, some 89, none, .p (.build [.int .i64 0, .int .i64 0, .int .i64 0, .int .i64 0, .int .i64 0] [(0, 1), (1, 1), (4, 1)]), [.t 83, .t 85, .t 88]⟩,
    ⟨9, some 90, none, .p (.idx 5), [.t 81, .c (.int .i64 0)]⟩,
    ⟨10, none, none, .e (.store 5) [] [], [.t 90, .t 89]⟩])
   (.skip)))
   (.seq (.reg 0 [⟨0, some 91, none, .p .mov, [.t 3]⟩,
    ⟨1, some 2, none, .p .mov, [.t 91]⟩])
   (.ret))))))),
  [.tmp 2]⟩
/- loop.example/g00641/impl.isStore -/
def g596 : GL.Fn := ⟨.seq (.reg 0 [⟨0, some 2, none, .p .mov, [.c (.bool false)]⟩])
   (.seq (.reg 0 [⟨0, some 3, none, .p .mov, [.t 0]⟩,
    ⟨1, some 4, none, .p .len, [.t 3]⟩,
    ⟨2, some 5, none, .p (.bin .eql), [.t 4, .c (.int .i64 12)]⟩,
    ⟨3, some 6, none, .p .mov, [.t 5]⟩,
    ⟨4, some 7, some (6, true), .p .mov, [.t 0]⟩,
    ⟨5, some 8, some (6, true), .e .call [] [], [.f 304, .t 7, .f 607]⟩,
    ⟨6, some 9, some (6, true), .p (.un .not), [.t 8]⟩,
    ⟨7, some 10, none, .p .pick, [.t 6, .t 9, .c (.bool false)]⟩,
    ⟨8, some 2, none, .p .mov, [.t 10]⟩])
   (.ret)),
  [.tmp 2]⟩
/- loop.example/g00641/impl.GoodSteps -/
def g597_0 : GL.Code := .seq (.reg 0 [⟨0, some 8, none, .p (.bin .lss), [.t 7, .t 6]⟩])
   (.seq (.cond (.t 8) (.skip)
   (.exit 0))
   (.seq (.block 1 (.seq (.reg 0 [⟨0, some 9, none, .p .mov, [.t 7]⟩,
    ⟨1, some 10, none, .p (.idx 5), [.t 5, .t 7]⟩,
    ⟨2, some 11, none, .r (.load true 5) false, [.t 10]⟩,
    ⟨3, some 4, none, .l (.alloc 4 [.int .i64 0, .int .i64 0, .int .i64 0, .int .i64 0, .int .i64 0]), []⟩,
    ⟨4, some 3, none, .p .mov, [.t 9]⟩,
    ⟨5, none, none, .l (.store 4 5), [.t 4, .t 11]⟩])
   (.seq (.reg 0 [⟨0, some 12, none, .l (.load 4 true 5), [.t 4]⟩,
    ⟨1, some 13, none, .p .mov, [.t 3]⟩,
    ⟨2, some 14, none, .e .call [] [], [.f 608, .t 12, .t 13]⟩,
    ⟨3, some 15, none, .p (.un .not), [.t 14]⟩])
   (.cond (.t 15) (.seq (.reg 0 [⟨0, some 2, none, .p .mov, [.c (.bool false)]⟩])
   (.ret))
   (.skip)))))
   (.reg 0 [⟨0, some 16, none, .p (.bin .add), [.t 7, .c (.int .i64 1)]⟩,
    ⟨1, some 7, none, .p .mov, [.t 16]⟩])))
def g597 : GL.Fn := ⟨.seq (.reg 0 [⟨0, some 2, none, .p .mov, [.c (.bool false)]⟩])
   (.seq (.seq (.reg 0 [⟨0, some 5, none, .p .mov, [.t 0]⟩,
    ⟨1, some 6, none, .p .len, [.t 5]⟩,
    ⟨2, some 7, none, .p .mov, [.c (.int .i64 0)]⟩])
   (.block 0 (.loop g597_0)))
   (.seq (.reg 0 [⟨0, some 17, none, .p .mov, [.t 0]⟩,
    ⟨1, some 18, none, .p .len, [.t 17]⟩,
    ⟨2, some 19, none, .p (.bin .leq), [.t 18, .c (.int .i64 10)]⟩,
    ⟨3, some 2, none, .p .mov, [.t 19]⟩])
   (.ret))),
  [.tmp 2]⟩
/- loop.example/g00641/impl.runAll -/
def g599_0 : GL.Code := .seq (.reg 0 [⟨0, some 20, none, .p (.bin .lss), [.t 19, .t 18]⟩])
   (.seq (.cond (.t 20) (.skip)
   (.exit 0))
   (.seq (.block 1 (.seq (.reg 0 [⟨0, some 21, none, .p (.idx 1), [.t 17, .t 19]⟩,
    ⟨1, some 22, none, .r (.load false 1) false, [.t 21]⟩,
    ⟨2, some 11, none, .p .mov, [.t 22]⟩])
   (.reg 0 [⟨0, some 23, none, .p .mov, [.t 9]⟩,
    ⟨1, some 24, none, .p .mov, [.t 11]⟩,
    ⟨2, some 25, none, .p .mov, [.t 1]⟩,
    ⟨3, some 26, none, .p .mov, [.t 11]⟩,
    ⟨4, some 27, none, .p (.idx 5), [.t 25, .t 26]⟩,
    ⟨5, some 28, none, .r (.load true 5) false, [.t 27]⟩,
    ⟨6, some 29, none, .p .mov, [.t 8]⟩,
    ⟨7, some 30, none, .p .mov, [.t 9]⟩,
    ⟨8, some 31, none, .e .call [] [], [.f 609, .t 28, .t 29, .t 30]⟩,
    ⟨9, some 32, none, .p (.idx 1), [.t 23, .t 24]⟩,
    ⟨10, none, none, .e (.store 1) [] [], [.t 32, .t 31]⟩])))
   (.reg 0 [⟨0, some 33, none, .p (.bin .add), [.t 19, .c (.int .i64 1)]⟩,
    ⟨1, some 19, none, .p .mov, [.t 33]⟩])))
def g599 : GL.Fn := ⟨.seq (.reg 0 [⟨0, some 6, none, .p .mov, [.c (.nils)]⟩,
    ⟨1, some 7, none, .p .mov, [.c (.nils)]⟩])
   (.seq (.reg 1 [⟨0, some 12, none, .p .mov, [.t 0]⟩,
    ⟨1, some 13, none, .e .call [] [0], [.f 389, .t 12]⟩,
    ⟨2, some 14, none, .p .mov, [.t 1]⟩,
    ⟨3, some 15, none, .p .len, [.t 14]⟩,
    ⟨4, some 16, none, .m (.make 1 8 [.int .i64 0]) 0, [.t 15, .t 15]⟩,
    ⟨5, some 8, none, .p .mov, [.t 13]⟩,
    ⟨6, some 9, none, .p .mov, [.t 16]⟩])
   (.seq (.seq (.reg 0 [⟨0, some 17, none, .p .mov, [.t 2]⟩,
    ⟨1, some 18, none, .p .len, [.t 17]⟩,
    ⟨2, some 19, none, .p .mov, [.c (.int .i64 0)]⟩])
   (.block 0 (.loop g599_0)))
   (.seq (.reg 0 [⟨0, some 34, none, .p .mov, [.t 8]⟩,
    ⟨1, some 35, none, .p .mov, [.t 9]⟩,
    ⟨2, some 6, none, .p .mov, [.t 34]⟩,
    ⟨3, some 7, none, .p .mov, [.t 35]⟩])
   (.ret)))),
  [.tmp 6, .tmp 7]⟩
/- loop.example/g00641/impl.allColumns -/
def g598_0 : GL.Code := .seq (.reg 0 [⟨0, some 8, none, .p (.bin .lss), [.t 7, .t 6]⟩])
   (.seq (.cond (.t 8) (.skip)
   (.exit 0))
   (.seq (.block 1 (.seq (.reg 0 [⟨0, some 9, none, .p .mov, [.t 7]⟩,
    ⟨1, some 4, none, .p .mov, [.t 9]⟩])
   (.reg 0 [⟨0, some 10, none, .p .mov, [.t 3]⟩,
    ⟨1, some 11, none, .p .mov, [.t 4]⟩,
    ⟨2, some 12, none, .e (.new (.lit 1)) [] [], [.t 11]⟩,
    ⟨3, some 13, none, .e (.append 1 8) [] [], [.t 10, .t 12]⟩,
    ⟨4, some 3, none, .p .mov, [.t 13]⟩])))
   (.reg 0 [⟨0, some 14, none, .p (.bin .add), [.t 7, .c (.int .i64 1)]⟩,
    ⟨1, some 7, none, .p .mov, [.t 14]⟩])))
def g598 : GL.Fn := ⟨.seq (.reg 0 [⟨0, some 2, none, .p .mov, [.c (.nils)]⟩])
   (.seq (.reg 0 [⟨0, some 5, none, .e (.new (.lit 1)) [] [], []⟩,
    ⟨1, some 3, none, .p .mov, [.t 5]⟩])
   (.seq (.seq (.reg 0 [⟨0, some 6, none, .p .mov, [.t 0]⟩,
    ⟨1, some 7, none, .p .mov, [.c (.int .i64 0)]⟩])
   (.block 0 (.loop g598_0)))
   (.seq (.reg 0 [⟨0, some 15, none, .p .mov, [.t 3]⟩,
    ⟨1, some 2, none, .p .mov, [.t 15]⟩])
   (.ret)))),
  [.tmp 2]⟩
/- loop.example/g00641/impl.together -/
def g412 : GL.Fn := ⟨.seq (.reg 0 [⟨0, some 4, none, .p .mov, [.c (.nils)]⟩])
   (.seq (.reg 0 [⟨0, some 6, none, .p .mov, [.t 0]⟩,
    ⟨1, some 7, none, .p .mov, [.t 1]⟩,
    ⟨2, some 8, none, .e (.new (.lit 1)) [] [], [.t 6, .t 7]⟩,
    ⟨3, some 9, none, .e .call [] [], [.f 429, .t 8]⟩,
    ⟨4, some 5, none, .p .mov, [.t 9]⟩])
   (.seq (.reg 0 [⟨0, some 10, none, .p .mov, [.t 5]⟩,
    ⟨1, some 11, none, .e .call [] [], [.f 340, .t 10]⟩])
   (.seq (.reg 0 [⟨0, some 12, none, .p .mov, [.t 5]⟩,
    ⟨1, some 13, none, .e .call [] [], [.f 430, .t 12]⟩,
    ⟨2, some 4, none, .p .mov, [.t 13]⟩])
   (.ret)))),
  [.tmp 4]⟩
/- (loop.example/g00641/impl.Step).cell -/
def g600 : GL.Fn := ⟨.seq (.reg 0 [⟨0, some 1, none, .l (.box 1 5), [.t 0]⟩,
    ⟨1, some 2, none, .p .mov, [.c (.int .i64 0)]⟩])
   (.seq (.reg 0 [⟨0, some 3, none, .p (.faddr 1), [.t 1]⟩,
    ⟨1, some 4, none, .l (.load 1 false 1), [.t 3]⟩,
    ⟨2, some 5, none, .p (.bin .mul), [.c (.int .i64 4), .t 4]⟩,
    ⟨3, some 6, none, .p (.faddr 2), [.t 1]⟩,
    ⟨4, some 7, none, .l (.load 1 false 1), [.t 6]⟩,
    ⟨5, some 8, none, .p (.bin .add), [.t 5, .t 7]⟩,
    ⟨6, some 2, none, .p .mov, [.t 8]⟩])
   (.ret)),
  [.tmp 2]⟩
/- loop.example/g00641/spec.GoodSteps -/
def g601_0 : GL.Code := .seq (.reg 0 [⟨0, some 9, none, .p (.bin .lss), [.t 8, .t 7]⟩])
   (.seq (.cond (.t 9) (.skip)
   (.exit 0))
   (.seq (.block 1 (.seq (.reg 0 [⟨0, some 10, none, .p .mov, [.t 8]⟩,
    ⟨1, some 11, none, .p (.idx 5), [.t 6, .t 8]⟩,
    ⟨2, some 12, none, .r (.load true 5) false, [.t 11]⟩,
    ⟨3, some 4, none, .l (.alloc 4 [.int .i64 0, .int .i64 0, .int .i64 0, .int .i64 0, .int .i64 0]), []⟩,
    ⟨4, some 3, none, .p .mov, [.t 10]⟩,
    ⟨5, none, none, .l (.store 4 5), [.t 4, .t 12]⟩])
   (.seq (.seq (.reg 0 [⟨0, some 13, none, .p (.faddr 1), [.t 4]⟩,
    ⟨1, some 14, none, .l (.load 4 false 1), [.t 13]⟩,
    ⟨2, some 15, none, .e .call [] [], [.f 98, .t 14, .c (.int .i64 0), .c (.int .i64 2)]⟩,
    ⟨3, some 16, none, .p (.un .not), [.t 15]⟩,
    ⟨4, some 17, none, .p .mov, [.t 16]⟩,
    ⟨5, some 18, some (17, false), .p (.faddr 2), [.t 4]⟩,
    ⟨6, some 19, some (17, false), .l (.load 4 false 1), [.t 18]⟩,
    ⟨7, some 20, some (17, false), .e .call [] [], [.f 98, .t 19, .c (.int .i64 0), .c (.int .i64 3)]⟩,
    ⟨8, some 21, some (17, false), .p (.un .not), [.t 20]⟩,
    ⟨9, some 22, none, .p .pick, [.t 17, .c (.bool true), .t 21]⟩,
    ⟨10, some 23, none, .p .mov, [.t 22]⟩,
    ⟨11, some 24, some (23, false), .p (.faddr 4), [.t 4]⟩,
    ⟨12, some 25, some (23, false), .l (.load 4 false 1), [.t 24]⟩,
    ⟨13, some 26, some (23, false), .e .call [] [], [.f 98, .t 25, .c (.int .i64 (-99)), .c (.int .i64 99)]⟩,
    ⟨14, some 27, some (23, false), .p (.un .not), [.t 26]⟩,
    ⟨15, some 28, none, .p .pick, [.t 23, .c (.bool true), .t 27]⟩])
   (.cond (.t 28) (.seq (.reg 0 [⟨0, some 2, none, .p .mov, [.c (.bool false)]⟩])
   (.ret))
   (.skip)))
   (.seq (.reg 0 [⟨0, some 29, none, .p (.faddr 3), [.t 4]⟩,
    ⟨1, some 30, none, .l (.load 4 false 1), [.t 29]⟩,
    ⟨2, some 31, none, .p .mov, [.t 3]⟩,
    ⟨3, some 32, none, .p (.bin .sub), [.t 31, .c (.int .i64 1)]⟩,
    ⟨4, some 33, none, .e .call [] [], [.f 98, .t 30, .c (.int .i64 0), .t 32]⟩,
    ⟨5, some 5, none, .p .mov, [.t 33]⟩])
   (.seq (.seq (.reg 0 [⟨0, some 34, none, .p (.faddr 0), [.t 4]⟩,
    ⟨1, some 35, none, .l (.load 4 false 1), [.t 34]⟩])
   (.block 2 (.seq (.reg 0 [⟨0, some 37, none, .p (.bin .eql), [.t 35, .c (.int .i64 1)]⟩,
    ⟨1, some 36, none, .p .mov, [.t 37]⟩])
   (.cond (.t 36) (.reg 0 [⟨0, some 38, none, .p (.faddr 3), [.t 4]⟩,
    ⟨1, some 39, none, .l (.load 4 false 1), [.t 38]⟩,
    ⟨2, some 40, none, .p (.bin .eql), [.t 39, .c (.int .i64 0)]⟩,
    ⟨3, some 41, none, .p .mov, [.t 40]⟩,
    ⟨4, some 42, some (41, true), .p (.faddr 4), [.t 4]⟩,
    ⟨5, some 43, some (41, true), .l (.load 4 false 1), [.t 42]⟩,
    ⟨6, some 44, some (41, true), .p (.bin .eql), [.t 43, .c (.int .i64 0)]⟩,
    ⟨7, some 45, none, .p .pick, [.t 41, .t 44, .c (.bool false)]⟩,
    ⟨8, some 5, none, .p .mov, [.t 45]⟩])
   (.seq (.reg 0 [⟨0, some 47, none, .p (.bin .eql), [.t 35, .c (.int .i64 2)]⟩,
    ⟨1, some 46, none, .p .mov, [.t 47]⟩])
   (.cond (.t 46) (.reg 0 [⟨0, some 48, none, .p .mov, [.t 5]⟩,
    ⟨1, some 49, none, .p .mov, [.t 48]⟩,
    ⟨2, some 50, some (49, true), .p (.faddr 2), [.t 4]⟩,
    ⟨3, some 51, some (49, true), .l (.load 4 false 1), [.t 50]⟩,
    ⟨4, some 52, some (49, true), .p (.bin .eql), [.t 51, .c (.int .i64 0)]⟩,
    ⟨5, some 53, none, .p .pick, [.t 49, .t 52, .c (.bool false)]⟩,
    ⟨6, some 5, none, .p .mov, [.t 53]⟩])
   (.seq (.reg 0 [⟨0, some 55, none, .p (.bin .eql), [.t 35, .c (.int .i64 3)]⟩,
    ⟨1, some 54, none, .p .mov, [.t 55]⟩])
   (.cond (.t 54) (.reg 0 [⟨0, some 56, none, .p .mov, [.t 5]⟩,
    ⟨1, some 57, none, .p .mov, [.t 56]⟩,
    ⟨2, some 58, some (57, true), .p (.faddr 4), [.t 4]⟩,
    ⟨3, some 59, some (57, true), .l (.load 4 false 1), [.t 58]⟩,
    ⟨4, some 60, some (57, true), .p (.bin .eql), [.t 59, .c (.int .i64 0)]⟩,
    ⟨5, some 61, none, .p .pick, [.t 57, .t 60, .c (.bool false)]⟩,
    ⟨6, some 5, none, .p .mov, [.t 61]⟩])
   (.seq (.reg 0 [⟨0, some 2, none, .p .mov, [.c (.bool false)]⟩])
   (.ret))))))))))
   (.seq (.reg 0 [⟨0, some 62, none, .p .mov, [.t 5]⟩,
    ⟨1, some 63, none, .p (.un .not), [.t 62]⟩])
   (.cond (.t 63) (.seq (.reg 0 [⟨0, some 2, none, .p .mov, [.c (.bool false)]⟩])
   (.ret))
   (.skip))))))))
   (.reg 0 [⟨0, some 64, none, .p (.bin .add), [.t 8, .c (.int .i64 1)]⟩,
    ⟨1, some 8, none, .p .mov, [.t 64]⟩])))
def g601 : GL.Fn := ⟨.seq (.reg 0 [⟨0, some 2, none, .p .mov, [.c (.bool false)]⟩])
   (.seq (.seq (.reg 0 [⟨0, some 6, none, .p .mov, [.t 0]⟩,
    ⟨1, some 7, none, .p .len, [.t 6]⟩,
    ⟨2, some 8, none, .p .mov, [.c (.int .i64 0)]⟩])
   (.block 0 (.loop g601_0)))
   (.seq (.reg 0 [⟨0, some 65, none, .p .mov, [.t 0]⟩,
    ⟨1, some 66, none, .p .len, [.t 65]⟩,
    ⟨2, some 67, none, .p (.bin .leq), [.t 66, .c (.int .i64 10)]⟩,
    ⟨3, some 2, none, .p .mov, [.t 67]⟩])
   (.ret))),
  [.tmp 2]⟩
/- loop.example/g00641/spec.DrawGoodSteps -/
def g602 : GL.Fn := ⟨.seq (.reg 0 [⟨0, some 2, none, .p .mov, [.c (.nils)]⟩])
   (.seq (.reg 0 [⟨0, some 4, none, .p .mov, [.t 0]⟩,
    ⟨1, some 5, none, .p (.build [.nils, .int .i64 0, .int .u64 0] [(0, 1)]), [.t 4]⟩,
    ⟨2, some 6, none, .e (.new (.box 3)) [] [], [.t 5]⟩,
    ⟨3, some 3, none, .p .mov, [.t 6]⟩])
   (.seq (.reg 0 [⟨0, some 7, none, .p .mov, [.t 3]⟩,
    ⟨1, some 8, none, .e .call [] [], [.f 595, .t 7]⟩,
    ⟨2, some 2, none, .p .mov, [.t 8]⟩])
   (.ret))),
  [.tmp 2]⟩
/- loop.example/g00641/impl.pieces -/
def g603_0 : GL.Code := .seq (.reg 0 [⟨0, some 10, none, .p (.bin .lss), [.t 9, .t 8]⟩])
   (.seq (.cond (.t 10) (.skip)
   (.exit 0))
   (.seq (.block 1 (.seq (.reg 0 [⟨0, some 11, none, .p .mov, [.t 9]⟩,
    ⟨1, some 12, none, .p (.idx 5), [.t 7, .t 9]⟩,
    ⟨2, some 13, none, .r (.load true 5) false, [.t 12]⟩,
    ⟨3, some 5, none, .l (.alloc 5 [.int .i64 0, .int .i64 0, .int .i64 0, .int .i64 0, .int .i64 0]), []⟩,
    ⟨4, some 4, none, .p .mov, [.t 11]⟩,
    ⟨5, none, none, .l (.store 5 5), [.t 5, .t 13]⟩])
   (.reg 0 [⟨0, some 14, none, .p .mov, [.t 3]⟩,
    ⟨1, some 15, none, .p (.faddr 1), [.t 5]⟩,
    ⟨2, some 16, none, .l (.load 5 false 1), [.t 15]⟩,
    ⟨3, some 17, none, .p .mov, [.t 3]⟩,
    ⟨4, some 18, none, .p (.faddr 1), [.t 5]⟩,
    ⟨5, some 19, none, .l (.load 5 false 1), [.t 18]⟩,
    ⟨6, some 20, none, .p (.idx 1), [.t 17, .t 19]⟩,
    ⟨7, some 21, none, .r (.load false 1) true, [.t 20]⟩,
    ⟨8, some 22, none, .p .mov, [.t 4]⟩,
    ⟨9, some 23, none, .e (.new (.lit 1)) [7] [], [.t 22]⟩,
    ⟨10, some 24, none, .e (.append 1 8) [] [], [.t 21, .t 23]⟩,
    ⟨11, some 25, none, .p (.idx 1), [.t 14, .t 16]⟩,
    ⟨12, none, none, .e (.store 1) [] [], [.t 25, .t 24]⟩])))
   (.reg 0 [⟨0, some 26, none, .p (.bin .add), [.t 9, .c (.int .i64 1)]⟩,
    ⟨1, some 9, none, .p .mov, [.t 26]⟩])))
def g603 : GL.Fn := ⟨.seq (.reg 0 [⟨0, some 2, none, .p .mov, [.c (.nils)]⟩])
   (.seq (.reg 0 [⟨0, some 6, none, .e (.new (.make 1 24 [.nils])) [] [], [.c (.int .i64 3), .c (.int .i64 3)]⟩,
    ⟨1, some 3, none, .p .mov, [.t 6]⟩])
   (.seq (.seq (.reg 0 [⟨0, some 7, none, .p .mov, [.t 0]⟩,
    ⟨1, some 8, none, .p .len, [.t 7]⟩,
    ⟨2, some 9, none, .p .mov, [.c (.int .i64 0)]⟩])
   (.block 0 (.loop g603_0)))
   (.seq (.reg 0 [⟨0, some 27, none, .p .mov, [.t 3]⟩,
    ⟨1, some 2, none, .p .mov, [.t 27]⟩])
   (.ret)))),
  [.tmp 2]⟩
/- loop.example/g00641/spec.l1In -/
def g98 : GL.Fn := ⟨.seq (.reg 0 [⟨0, some 6, none, .p .mov, [.c (.bool false)]⟩])
   (.seq (.reg 0 [⟨0, some 7, none, .p .mov, [.t 0]⟩,
    ⟨1, some 8, none, .p .mov, [.t 1]⟩,
    ⟨2, some 9, none, .p (.bin .geq), [.t 7, .t 8]⟩,
    ⟨3, some 10, none, .p .mov, [.t 9]⟩,
    ⟨4, some 11, some (10, true), .p .mov, [.t 0]⟩,
    ⟨5, some 12, some (10, true), .p .mov, [.t 2]⟩,
    ⟨6, some 13, some (10, true), .p (.bin .leq), [.t 11, .t 12]⟩,
    ⟨7, some 14, none, .p .pick, [.t 10, .t 13, .c (.bool false)]⟩,
    ⟨8, some 6, none, .p .mov, [.t 14]⟩])
   (.ret)),
  [.tmp 6]⟩
/- (*loop.example/g00641/spec.l1Cur).among -/
def g93 : GL.Fn := ⟨.seq (.reg 0 [⟨0, some 4, none, .p .mov, [.c (.int .i64 0)]⟩])
   (.seq (.reg 0 [⟨0, some 5, none, .p .mov, [.t 1]⟩,
    ⟨1, some 6, none, .p .mov, [.t 0]⟩,
    ⟨2, some 7, none, .p .mov, [.t 1]⟩,
    ⟨3, some 8, none, .p .len, [.t 7]⟩,
    ⟨4, some 9, none, .e .call [] [], [.f 91, .t 6, .t 8]⟩,
    ⟨5, some 10, none, .p (.idx 1), [.t 5, .t 9]⟩,
    ⟨6, some 11, none, .r (.load false 1) false, [.t 10]⟩,
    ⟨7, some 4, none, .p .mov, [.t 11]⟩])
   (.ret)),
  [.tmp 4]⟩
/- (*loop.example/g00641/spec.l1Cur).next -/
def g140 : GL.Fn := ⟨.seq (.reg 0 [⟨0, some 2, none, .p .mov, [.c (.int .i64 0)]⟩])
   (.seq (.reg 0 [⟨0, some 3, none, .p .mov, [.c (.int .i64 0)]⟩])
   (.seq (.seq (.reg 0 [⟨0, some 4, none, .p .mov, [.t 0]⟩,
    ⟨1, some 5, none, .p .nilCheck, [.t 4]⟩,
    ⟨2, some 6, none, .p (.faddr 1), [.t 5]⟩,
    ⟨3, some 7, none, .r (.load false 1) false, [.t 6]⟩,
    ⟨4, some 8, none, .p .mov, [.t 0]⟩,
    ⟨5, some 9, none, .p .nilCheck, [.t 8]⟩,
    ⟨6, some 10, none, .p (.faddr 0), [.t 9]⟩,
    ⟨7, some 11, none, .r (.load false 1) false, [.t 10]⟩,
    ⟨8, some 12, none, .p .len, [.t 11]⟩,
    ⟨9, some 13, none, .p (.bin .lss), [.t 7, .t 12]⟩])
   (.cond (.t 13) (.reg 0 [⟨0, some 14, none, .p .mov, [.t 0]⟩,
    ⟨1, some 15, none, .p .nilCheck, [.t 14]⟩,
    ⟨2, some 16, none, .p (.faddr 0), [.t 15]⟩,
    ⟨3, some 17, none, .r (.load false 1) false, [.t 16]⟩,
    ⟨4, some 18, none, .p .mov, [.t 0]⟩,
    ⟨5, some 19, none, .p .nilCheck, [.t 18]⟩,
    ⟨6, some 20, none, .p (.faddr 1), [.t 19]⟩,
    ⟨7, some 21, none, .r (.load false 1) false, [.t 20]⟩,
    ⟨8, some 22, none, .p (.idx 1), [.t 17, .t 21]⟩,
    ⟨9, some 23, none, .r (.load false 1) false, [.t 22]⟩,
    ⟨10, some 24, none, .p (.conv .i64), [.t 23]⟩,
    ⟨11, some 3, none, .p .mov, [.t 24]⟩])
   (.skip)))
   (.seq (.reg 0 [⟨0, some 25, none, .p .mov, [.t 0]⟩,
    ⟨1, some 26, none, .p .nilCheck, [.t 25]⟩,
    ⟨2, some 27, none, .p (.faddr 1), [.t 26]⟩,
    ⟨3, some 28, none, .r (.load false 1) false, [.t 27]⟩,
    ⟨4, some 29, none, .p (.bin .add), [.t 28, .c (.int .i64 1)]⟩,
    ⟨5, some 30, none, .p .nilCheck, [.t 25]⟩,
    ⟨6, some 31, none, .p (.faddr 1), [.t 30]⟩,
    ⟨7, none, none, .e (.store 1) [] [], [.t 31, .t 29]⟩])
   (.seq (.reg 0 [⟨0, some 32, none, .p .mov, [.t 0]⟩,
    ⟨1, some 33, none, .p .mov, [.t 0]⟩,
    ⟨2, some 34, none, .p .nilCheck, [.t 33]⟩,
    ⟨3, some 35, none, .p (.faddr 2), [.t 34]⟩,
    ⟨4, some 36, none, .r (.load false 1) false, [.t 35]⟩,
    ⟨5, some 37, none, .p (.bin .mul), [.t 36, .c (.int .u64 6364136223846793005)]⟩,
    ⟨6, some 38, none, .p .mov, [.t 3]⟩,
    ⟨7, some 39, none, .p (.conv .u64), [.t 38]⟩,
    ⟨8, some 40, none, .p (.bin .add), [.t 37, .t 39]⟩,
    ⟨9, some 41, none, .p (.bin .add), [.t 40, .c (.int .u64 1442695040888963407)]⟩,
    ⟨10, some 42, none, .p .nilCheck, [.t 32]⟩,
    ⟨11, some 43, none, .p (.faddr 2), [.t 42]⟩,
    ⟨12, none, none, .e (.store 1) [] [], [.t 43, .t 41]⟩])
   (.seq (.seq (.reg 0 [⟨0, some 44, none, .p .mov, [.t 0]⟩,
    ⟨1, some 45, none, .p .nilCheck, [.t 44]⟩,
    ⟨2, some 46, none, .p (.faddr 1), [.t 45]⟩,
    ⟨3, some 47, none, .r (.load false 1) false, [.t 46]⟩,
    ⟨4, some 48, none, .p .mov, [.t 0]⟩,
    ⟨5, some 49, none, .p .nilCheck, [.t 48]⟩,
    ⟨6, some 50, none, .p (.faddr 0), [.t 49]⟩,
    ⟨7, some 51, none, .r (.load false 1) false, [.t 50]⟩,
    ⟨8, some 52, none, .p .len, [.t 51]⟩,
    ⟨9, some 53, none, .p (.bin .leq), [.t 47, .t 52]⟩])
   (.cond (.t 53) (.seq (.reg 0 [⟨0, some 54, none, .p .mov, [.t 3]⟩,
    ⟨1, some 2, none, .p .mov, [.t 54]⟩])
   (.ret))
   (.skip)))
   (.seq (.reg 0 [⟨0, some 55, none, .p .mov, [.t 0]⟩,
    ⟨1, some 56, none, .p .nilCheck, [.t 55]⟩,
    ⟨2, some 57, none, .p (.faddr 2), [.t 56]⟩,
    ⟨3, some 58, none, .r (.load false 1) false, [.t 57]⟩,
    ⟨4, some 59, none, .p (.bin .shr), [.t 58, .c (.int .u64 40)]⟩,
    ⟨5, some 60, none, .p (.bin .and), [.t 59, .c (.int .u64 255)]⟩,
    ⟨6, some 61, none, .p (.conv .i64), [.t 60]⟩,
    ⟨7, some 2, none, .p .mov, [.t 61]⟩])
   (.ret))))))),
  [.tmp 2]⟩
/- slices.Concat[[]int,int] -/
def g429_0 : GL.Code := .seq (.reg 0 [⟨0, some 12, none, .p (.bin .lss), [.t 11, .t 10]⟩])
   (.seq (.cond (.t 12) (.skip)
   (.exit 0))
   (.seq (.block 1 (.seq (.reg 0 [⟨0, some 13, none, .p (.idx 1), [.t 9, .t 11]⟩,
    ⟨1, some 14, none, .r (.load false 1) false, [.t 13]⟩,
    ⟨2, some 5, none, .p .mov, [.t 14]⟩])
   (.seq (.reg 0 [⟨0, some 15, none, .p .mov, [.t 3]⟩,
    ⟨1, some 16, none, .p .mov, [.t 5]⟩,
    ⟨2, some 17, none, .p .len, [.t 16]⟩,
    ⟨3, some 18, none, .p (.bin .add), [.t 15, .t 17]⟩,
    ⟨4, some 3, none, .p .mov, [.t 18]⟩])
   (.seq (.reg 0 [⟨0, some 19, none, .p .mov, [.t 3]⟩,
    ⟨1, some 20, none, .p (.bin .lss), [.t 19, .c (.int .i64 0)]⟩])
   (.cond (.t 20) (.reg 0 [⟨0, some 21, none, .p .bad, []⟩,
    ⟨1, none, none, .p .bad, []⟩])
   (.skip))))))
   (.reg 0 [⟨0, some 22, none, .p (.bin .add), [.t 11, .c (.int .i64 1)]⟩,
    ⟨1, some 11, none, .p .mov, [.t 22]⟩])))
def g429_1 : GL.Code := .seq (.reg 0 [⟨0, some 28, none, .p (.bin .lss), [.t 27, .t 26]⟩])
   (.seq (.cond (.t 28) (.skip)
   (.exit 2))
   (.seq (.block 3 (.seq (.reg 0 [⟨0, some 29, none, .p (.idx 1), [.t 25, .t 27]⟩,
    ⟨1, some 30, none, .r (.load false 1) false, [.t 29]⟩,
    ⟨2, some 8, none, .p .mov, [.t 30]⟩])
   (.reg 0 [⟨0, some 31, none, .p .mov, [.t 6]⟩,
    ⟨1, some 32, none, .p .mov, [.t 8]⟩,
    ⟨2, some 33, none, .e (.append 1 8) [] [], [.t 31, .t 32]⟩,
    ⟨3, some 6, none, .p .mov, [.t 33]⟩])))
   (.reg 0 [⟨0, some 34, none, .p (.bin .add), [.t 27, .c (.int .i64 1)]⟩,
    ⟨1, some 27, none, .p .mov, [.t 34]⟩])))
def g429 : GL.Fn := ⟨.seq (.reg 0 [⟨0, some 2, none, .p .mov, [.c (.nils)]⟩])
   (.seq (.reg 0 [⟨0, some 3, none, .p .mov, [.c (.int .i64 0)]⟩])
   (.seq (.seq (.reg 0 [⟨0, some 9, none, .p .mov, [.t 0]⟩,
    ⟨1, some 10, none, .p .len, [.t 9]⟩,
    ⟨2, some 11, none, .p .mov, [.c (.int .i64 0)]⟩])
   (.block 0 (.loop g429_0)))
   (.seq (.reg 0 [⟨0, some 23, none, .p .mov, [.t 3]⟩,
    ⟨1, some 24, none, .e .call [] [], [.f 436, .c (.nils), .t 23]⟩,
    ⟨2, some 6, none, .p .mov, [.t 24]⟩])
   (.seq (.seq (.reg 0 [⟨0, some 25, none, .p .mov, [.t 0]⟩,
    ⟨1, some 26, none, .p .len, [.t 25]⟩,
    ⟨2, some 27, none, .p .mov, [.c (.int .i64 0)]⟩])
   (.block 2 (.loop g429_1)))
   (.seq (.reg 0 [⟨0, some 35, none, .p .mov, [.t 6]⟩,
    ⟨1, some 2, none, .p .mov, [.t 35]⟩])
   (.ret)))))),
  [.tmp 2]⟩
/- slices.Clone[[]int,int] -/
def g389 : GL.Fn := ⟨.seq (.reg 0 [⟨0, some 2, none, .p .mov, [.c (.nils)]⟩])
   (.seq (.seq (.reg 0 [⟨0, some 3, none, .p .mov, [.t 0]⟩,
    ⟨1, some 4, none, .p (.isNil false), [.t 3]⟩])
   (.cond (.t 4) (.seq (.reg 0 [⟨0, some 2, none, .p .mov, [.c (.nils)]⟩])
   (.ret))
   (.skip)))
   (.seq (.reg 0 [⟨0, some 5, none, .e (.new (.lit 1)) [] [], []⟩,
    ⟨1, some 6, none, .p .mov, [.t 0]⟩,
    ⟨2, some 7, none, .e (.append 1 8) [] [], [.t 5, .t 6]⟩,
    ⟨3, some 2, none, .p .mov, [.t 7]⟩])
   (.ret))),
  [.tmp 2]⟩
/- slices.IndexFunc[[]int,int] -/
def g391_0 : GL.Code := .seq (.reg 0 [⟨0, some 9, none, .p (.bin .lss), [.t 8, .t 7]⟩])
   (.seq (.cond (.t 9) (.skip)
   (.exit 0))
   (.seq (.block 1 (.seq (.reg 0 [⟨0, some 10, none, .p .mov, [.t 8]⟩,
    ⟨1, some 5, none, .p .mov, [.t 10]⟩])
   (.seq (.reg 0 [⟨0, some 11, none, .p .mov, [.t 1]⟩,
    ⟨1, some 12, none, .p .mov, [.t 0]⟩,
    ⟨2, some 13, none, .p .mov, [.t 5]⟩,
    ⟨3, some 14, none, .p (.idx 1), [.t 12, .t 13]⟩,
    ⟨4, some 15, none, .r (.load false 1) false, [.t 14]⟩,
    ⟨5, some 16, none, .e .call [] [], [.t 11, .t 15]⟩])
   (.cond (.t 16) (.seq (.reg 0 [⟨0, some 17, none, .p .mov, [.t 5]⟩,
    ⟨1, some 4, none, .p .mov, [.t 17]⟩])
   (.ret))
   (.skip)))))
   (.reg 0 [⟨0, some 18, none, .p (.bin .add), [.t 8, .c (.int .i64 1)]⟩,
    ⟨1, some 8, none, .p .mov, [.t 18]⟩])))
def g391 : GL.Fn := ⟨.seq (.reg 0 [⟨0, some 4, none, .p .mov, [.c (.int .i64 0)]⟩])
   (.seq (.seq (.reg 0 [⟨0, some 6, none, .p .mov, [.t 0]⟩,
    ⟨1, some 7, none, .p .len, [.t 6]⟩,
    ⟨2, some 8, none, .p .mov, [.c (.int .i64 0)]⟩])
   (.block 0 (.loop g391_0)))
   (.seq (.reg 0 [⟨0, some 4, none, .p .mov, [.c (.int .i64 (-1))]⟩])
   (.ret))),
  [.tmp 4]⟩
/- loop.example/g00641/impl.isStore$1 -/
def g607 : GL.Fn := ⟨.seq (.reg 0 [⟨0, some 2, none, .p .mov, [.c (.bool false)]⟩])
   (.seq (.reg 0 [⟨0, some 3, none, .p .mov, [.t 0]⟩,
    ⟨1, some 4, none, .e .call [] [], [.f 107, .t 3, .c (.int .i64 (-1000000)), .c (.int .i64 1000000)]⟩,
    ⟨2, some 5, none, .p (.un .not), [.t 4]⟩,
    ⟨3, some 2, none, .p .mov, [.t 5]⟩])
   (.ret)),
  [.tmp 2]⟩
/- loop.example/g00641/impl.isStep -/
def g608 : GL.Fn := ⟨.seq (.reg 0 [⟨0, some 2, none, .l (.box 2 5), [.t 0]⟩,
    ⟨1, some 4, none, .p .mov, [.c (.bool false)]⟩])
   (.seq (.seq (.reg 0 [⟨0, some 5, none, .p (.faddr 1), [.t 2]⟩,
    ⟨1, some 6, none, .l (.load 2 false 1), [.t 5]⟩,
    ⟨2, some 7, none, .e .call [] [], [.f 107, .t 6, .c (.int .i64 0), .c (.int .i64 2)]⟩,
    ⟨3, some 8, none, .p (.un .not), [.t 7]⟩,
    ⟨4, some 9, none, .p .mov, [.t 8]⟩,
    ⟨5, some 10, some (9, false), .p (.faddr 2), [.t 2]⟩,
    ⟨6, some 11, some (9, false), .l (.load 2 false 1), [.t 10]⟩,
    ⟨7, some 12, some (9, false), .e .call [] [], [.f 107, .t 11, .c (.int .i64 0), .c (.int .i64 3)]⟩,
    ⟨8, some 13, some (9, false), .p (.un .not), [.t 12]⟩,
    ⟨9, some 14, none, .p .pick, [.t 9, .c (.bool true), .t 13]⟩])
   (.cond (.t 14) (.seq (.reg 0 [⟨0, some 4, none, .p .mov, [.c (.bool false)]⟩])
   (.ret))
   (.skip)))
   (.seq (.seq (.reg 0 [⟨0, some 15, none, .p (.faddr 0), [.t 2]⟩,
    ⟨1, some 16, none, .l (.load 2 false 1), [.t 15]⟩])
   (.block 0 (.seq (.reg 0 [⟨0, some 18, none, .p (.bin .eql), [.t 16, .c (.int .i64 1)]⟩,
    ⟨1, some 17, none, .p .mov, [.t 18]⟩])
   (.cond (.t 17) (.seq (.reg 0 [⟨0, some 19, none, .p (.faddr 3), [.t 2]⟩,
    ⟨1, some 20, none, .l (.load 2 false 1), [.t 19]⟩,
    ⟨2, some 21, none, .p (.bin .eql), [.t 20, .c (.int .i64 0)]⟩,
    ⟨3, some 22, none, .p .mov, [.t 21]⟩,
    ⟨4, some 23, some (22, true), .p (.faddr 4), [.t 2]⟩,
    ⟨5, some 24, some (22, true), .l (.load 2 false 1), [.t 23]⟩,
    ⟨6, some 25, some (22, true), .p (.bin .eql), [.t 24, .c (.int .i64 0)]⟩,
    ⟨7, some 26, none, .p .pick, [.t 22, .t 25, .c (.bool false)]⟩,
    ⟨8, some 4, none, .p .mov, [.t 26]⟩])
   (.ret))
   (.seq (.reg 0 [⟨0, some 28, none, .p (.bin .eql), [.t 16, .c (.int .i64 2)]⟩,
    ⟨1, some 27, none, .p .mov, [.t 28]⟩])
   (.cond (.t 27) (.seq (.reg 0 [⟨0, some 29, none, .p (.faddr 2), [.t 2]⟩,
    ⟨1, some 30, none, .l (.load 2 false 1), [.t 29]⟩,
    ⟨2, some 31, none, .p (.bin .eql), [.t 30, .c (.int .i64 0)]⟩,
    ⟨3, some 32, none, .p .mov, [.t 31]⟩,
    ⟨4, some 33, some (32, true), .p (.faddr 3), [.t 2]⟩,
    ⟨5, some 34, some (32, true), .l (.load 2 false 1), [.t 33]⟩,
    ⟨6, some 35, some (32, true), .p .mov, [.t 1]⟩,
    ⟨7, some 36, some (32, true), .p (.bin .sub), [.t 35, .c (.int .i64 1)]⟩,
    ⟨8, some 37, some (32, true), .e .call [] [], [.f 107, .t 34, .c (.int .i64 0), .t 36]⟩,
    ⟨9, some 38, none, .p .pick, [.t 32, .t 37, .c (.bool false)]⟩,
    ⟨10, some 39, none, .p .mov, [.t 38]⟩,
    ⟨11, some 40, some (39, true), .p (.faddr 4), [.t 2]⟩,
    ⟨12, some 41, some (39, true), .l (.load 2 false 1), [.t 40]⟩,
    ⟨13, some 42, some (39, true), .e .call [] [], [.f 107, .t 41, .c (.int .i64 (-99)), .c (.int .i64 99)]⟩,
    ⟨14, some 43, none, .p .pick, [.t 39, .t 42, .c (.bool false)]⟩,
    ⟨15, some 4, none, .p .mov, [.t 43]⟩])
   (.ret))
   (.seq (.reg 0 [⟨0, some 45, none, .p (.bin .eql), [.t 16, .c (.int .i64 3)]⟩,
    ⟨1, some 44, none, .p .mov, [.t 45]⟩])
   (.cond (.t 44) (.seq (.reg 0 [⟨0, some 46, none, .p (.faddr 3), [.t 2]⟩,
    ⟨1, some 47, none, .l (.load 2 false 1), [.t 46]⟩,
    ⟨2, some 48, none, .p .mov, [.t 1]⟩,
    ⟨3, some 49, none, .p (.bin .sub), [.t 48, .c (.int .i64 1)]⟩,
    ⟨4, some 50, none, .e .call [] [], [.f 107, .t 47, .c (.int .i64 0), .t 49]⟩,
    ⟨5, some 51, none, .p .mov, [.t 50]⟩,
    ⟨6, some 52, some (51, true), .p (.faddr 4), [.t 2]⟩,
    ⟨7, some 53, some (51, true), .l (.load 2 false 1), [.t 52]⟩,
    ⟨8, some 54, some (51, true), .p (.bin .eql), [.t 53, .c (.int .i64 0)]⟩,
    ⟨9, some 55, none, .p .pick, [.t 51, .t 54, .c (.bool false)]⟩,
    ⟨10, some 4, none, .p .mov, [.t 55]⟩])
   (.ret))
   (.skip)))))))))
   (.seq (.reg 0 [⟨0, some 4, none, .p .mov, [.c (.bool false)]⟩])
   (.ret)))),
  [.tmp 4]⟩
/- (loop.example/g00641/impl.Step).run -/
def g609 : GL.Fn := ⟨.seq (.reg 0 [⟨0, some 3, none, .l (.box 3 5), [.t 0]⟩,
    ⟨1, some 6, none, .p .mov, [.c (.int .i64 0)]⟩])
   (.seq (.seq (.reg 0 [⟨0, some 7, none, .p (.faddr 0), [.t 3]⟩,
    ⟨1, some 8, none, .l (.load 3 false 1), [.t 7]⟩])
   (.block 0 (.seq (.reg 0 [⟨0, some 10, none, .p (.bin .eql), [.t 8, .c (.int .i64 1)]⟩,
    ⟨1, some 9, none, .p .mov, [.t 10]⟩])
   (.cond (.t 9) (.seq (.reg 0 [⟨0, some 11, none, .p .mov, [.t 1]⟩,
    ⟨1, some 12, none, .l (.load 3 true 5), [.t 3]⟩,
    ⟨2, some 13, none, .e .call [] [], [.f 600, .t 12]⟩,
    ⟨3, some 14, none, .p (.idx 1), [.t 11, .t 13]⟩,
    ⟨4, some 15, none, .r (.load false 1) false, [.t 14]⟩,
    ⟨5, some 6, none, .p .mov, [.t 15]⟩])
   (.ret))
   (.seq (.reg 0 [⟨0, some 17, none, .p (.bin .eql), [.t 8, .c (.int .i64 2)]⟩,
    ⟨1, some 16, none, .p .mov, [.t 17]⟩])
   (.cond (.t 16) (.seq (.reg 0 [⟨0, some 18, none, .p .mov, [.t 2]⟩,
    ⟨1, some 19, none, .p (.faddr 3), [.t 3]⟩,
    ⟨2, some 20, none, .l (.load 3 false 1), [.t 19]⟩,
    ⟨3, some 21, none, .p (.idx 1), [.t 18, .t 20]⟩,
    ⟨4, some 22, none, .r (.load false 1) false, [.t 21]⟩,
    ⟨5, some 23, none, .p (.faddr 4), [.t 3]⟩,
    ⟨6, some 24, none, .l (.load 3 false 1), [.t 23]⟩,
    ⟨7, some 25, none, .p (.bin .add), [.t 22, .t 24]⟩,
    ⟨8, some 26, none, .p (.bin .rem), [.t 25, .c (.int .i64 1000)]⟩,
    ⟨9, some 6, none, .p .mov, [.t 26]⟩])
   (.ret))
   (.skip)))))))
   (.seq (.reg 0 [⟨0, some 27, none, .p .mov, [.t 1]⟩,
    ⟨1, some 28, none, .l (.load 3 true 5), [.t 3]⟩,
    ⟨3, some 30, none, .p .mov, [.t 2]⟩,
    ⟨4, some 31, none, .p (.faddr 3), [.t 3]⟩,
    ⟨5, some 32, none, .l (.load 3 false 1), [.t 31]⟩,
    ⟨6, some 33, none, .p (.idx 1), [.t 30, .t 32]⟩,
    ⟨7, some 34, none, .r (.load false 1) true, [.t 33]⟩,
    ⟨2, some 29, none, .e .call [7] [], [.f 600, .t 28]⟩,
    ⟨8, some 35, none, .p (.idx 1), [.t 27, .t 29]⟩,
    ⟨9, none, none, .e (.store 1) [] [], [.t 35, .t 34]⟩])
   (.seq (.reg 0 [⟨0, some 36, none, .p .mov, [.t 2]⟩,
    ⟨1, some 37, none, .p (.faddr 3), [.t 3]⟩,
    ⟨2, some 38, none, .l (.load 3 false 1), [.t 37]⟩,
    ⟨3, some 39, none, .p (.idx 1), [.t 36, .t 38]⟩,
    ⟨4, some 40, none, .r (.load false 1) false, [.t 39]⟩,
    ⟨5, some 6, none, .p .mov, [.t 40]⟩])
   (.ret)))),
  [.tmp 6]⟩
/- slices.Compact[[]int,int] -/
def g430_0 : GL.Code := .seq (.seq (.reg 0 [⟨0, some 29, none, .p .mov, [.t 5]⟩,
    ⟨1, some 30, none, .p .mov, [.t 4]⟩,
    ⟨2, some 31, none, .p .len, [.t 30]⟩,
    ⟨3, some 32, none, .p (.bin .lss), [.t 29, .t 31]⟩])
   (.cond (.t 32) (.skip)
   (.exit 2)))
   (.seq (.block 3 (.seq (.reg 0 [⟨0, some 35, none, .p .mov, [.t 4]⟩,
    ⟨1, some 36, none, .p .mov, [.t 5]⟩,
    ⟨2, some 37, none, .p (.idx 1), [.t 35, .t 36]⟩,
    ⟨3, some 38, none, .r (.load false 1) false, [.t 37]⟩,
    ⟨4, some 39, none, .p .mov, [.t 4]⟩,
    ⟨5, some 40, none, .p .mov, [.t 5]⟩,
    ⟨6, some 41, none, .p (.bin .sub), [.t 40, .c (.int .i64 1)]⟩,
    ⟨7, some 42, none, .p (.idx 1), [.t 39, .t 41]⟩,
    ⟨8, some 43, none, .r (.load false 1) false, [.t 42]⟩,
    ⟨9, some 44, none, .p (.bin .neq), [.t 38, .t 43]⟩])
   (.cond (.t 44) (.seq (.reg 0 [⟨0, some 45, none, .p .mov, [.t 0]⟩,
    ⟨1, some 46, none, .p .mov, [.t 3]⟩,
    ⟨2, some 47, none, .p .mov, [.t 4]⟩,
    ⟨3, some 48, none, .p .mov, [.t 5]⟩,
    ⟨4, some 49, none, .p (.idx 1), [.t 47, .t 48]⟩,
    ⟨5, some 50, none, .r (.load false 1) false, [.t 49]⟩,
    ⟨6, some 51, none, .p (.idx 1), [.t 45, .t 46]⟩,
    ⟨7, none, none, .e (.store 1) [] [], [.t 51, .t 50]⟩])
   (.reg 0 [⟨0, some 52, none, .p .mov, [.t 3]⟩,
    ⟨1, some 53, none, .p (.bin .add), [.t 52, .c (.int .i64 1)]⟩,
    ⟨2, some 3, none, .p .mov, [.t 53]⟩]))
   (.skip))))
   (.reg 0 [⟨0, some 33, none, .p .mov, [.t 5]⟩,
    ⟨1, some 34, none, .p (.bin .add), [.t 33, .c (.int .i64 1)]⟩,
    ⟨2, some 5, none, .p .mov, [.t 34]⟩]))
def g430_1 : GL.Code := .seq (.seq (.reg 0 [⟨0, some 10, none, .p .mov, [.t 3]⟩,
    ⟨1, some 11, none, .p .mov, [.t 0]⟩,
    ⟨2, some 12, none, .p .len, [.t 11]⟩,
    ⟨3, some 13, none, .p (.bin .lss), [.t 10, .t 12]⟩])
   (.cond (.t 13) (.skip)
   (.exit 0)))
   (.seq (.block 1 (.seq (.reg 0 [⟨0, some 16, none, .p .mov, [.t 0]⟩,
    ⟨1, some 17, none, .p .mov, [.t 3]⟩,
    ⟨2, some 18, none, .p (.idx 1), [.t 16, .t 17]⟩,
    ⟨3, some 19, none, .r (.load false 1) false, [.t 18]⟩,
    ⟨4, some 20, none, .p .mov, [.t 0]⟩,
    ⟨5, some 21, none, .p .mov, [.t 3]⟩,
    ⟨6, some 22, none, .p (.bin .sub), [.t 21, .c (.int .i64 1)]⟩,
    ⟨7, some 23, none, .p (.idx 1), [.t 20, .t 22]⟩,
    ⟨8, some 24, none, .r (.load false 1) false, [.t 23]⟩,
    ⟨9, some 25, none, .p (.bin .eql), [.t 19, .t 24]⟩])
   (.cond (.t 25) (.seq (.reg 0 [⟨0, some 26, none, .p .mov, [.t 0]⟩,
    ⟨1, some 27, none, .p .mov, [.t 3]⟩,
    ⟨2, some 28, none, .p (.slice 1 true false false), [.t 26, .t 27]⟩,
    ⟨3, some 4, none, .p .mov, [.t 28]⟩])
   (.seq (.seq (.reg 0 [⟨0, some 5, none, .p .mov, [.c (.int .i64 1)]⟩])
   (.block 2 (.loop g430_0)))
   (.seq (.reg 0 [⟨0, some 54, none, .p .mov, [.t 0]⟩,
    ⟨1, some 55, none, .p .mov, [.t 3]⟩,
    ⟨2, some 56, none, .p (.slice 1 true false false), [.t 54, .t 55]⟩,
    ⟨3, none, none, .e (.clear 1 [.int .i64 0]) [] [], [.t 56]⟩])
   (.seq (.reg 0 [⟨0, some 57, none, .p .mov, [.t 0]⟩,
    ⟨1, some 58, none, .p .mov, [.t 3]⟩,
    ⟨2, some 59, none, .p (.slice 1 false true false), [.t 57, .t 58]⟩,
    ⟨3, some 2, none, .p .mov, [.t 59]⟩])
   (.ret)))))
   (.skip))))
   (.reg 0 [⟨0, some 14, none, .p .mov, [.t 3]⟩,
    ⟨1, some 15, none, .p (.bin .add), [.t 14, .c (.int .i64 1)]⟩,
    ⟨2, some 3, none, .p .mov, [.t 15]⟩]))
def g430 : GL.Fn := ⟨.seq (.reg 0 [⟨0, some 2, none, .p .mov, [.c (.nils)]⟩])
   (.seq (.seq (.reg 0 [⟨0, some 6, none, .p .mov, [.t 0]⟩,
    ⟨1, some 7, none, .p .len, [.t 6]⟩,
    ⟨2, some 8, none, .p (.bin .lss), [.t 7, .c (.int .i64 2)]⟩])
   (.cond (.t 8) (.seq (.reg 0 [⟨0, some 9, none, .p .mov, [.t 0]⟩,
    ⟨1, some 2, none, .p .mov, [.t 9]⟩])
   (.ret))
   (.skip)))
   (.seq (.seq (.reg 0 [⟨0, some 3, none, .p .mov, [.c (.int .i64 1)]⟩])
   (.block 0 (.loop g430_1)))
   (.seq (.reg 0 [⟨0, some 60, none, .p .mov, [.t 0]⟩,
    ⟨1, some 2, none, .p .mov, [.t 60]⟩])
   (.ret)))),
  [.tmp 2]⟩
/- slices.Grow[[]int,int] -/
def g436 : GL.Fn := ⟨.seq (.reg 0 [⟨0, some 4, none, .p .mov, [.c (.nils)]⟩])
   (.seq (.seq (.reg 0 [⟨0, some 5, none, .p .mov, [.t 1]⟩,
    ⟨1, some 6, none, .p (.bin .lss), [.t 5, .c (.int .i64 0)]⟩])
   (.cond (.t 6) (.reg 0 [⟨0, some 7, none, .p .bad, []⟩,
    ⟨1, none, none, .p .bad, []⟩])
   (.skip)))
   (.seq (.seq (.reg 0 [⟨0, some 8, none, .p .mov, [.t 1]⟩,
    ⟨1, some 9, none, .p .mov, [.t 0]⟩,
    ⟨2, some 10, none, .p .cap, [.t 9]⟩,
    ⟨3, some 11, none, .p .mov, [.t 0]⟩,
    ⟨4, some 12, none, .p .len, [.t 11]⟩,
    ⟨5, some 13, none, .p (.bin .sub), [.t 10, .t 12]⟩,
    ⟨6, some 14, none, .p (.bin .sub), [.t 8, .t 13]⟩,
    ⟨7, some 1, none, .p .mov, [.t 14]⟩])
   (.seq (.reg 0 [⟨0, some 15, none, .p .mov, [.t 1]⟩,
    ⟨1, some 16, none, .p (.bin .gtr), [.t 15, .c (.int .i64 0)]⟩])
   (.cond (.t 16) (.reg 0 [⟨0, some 17, none, .p .mov, [.t 0]⟩,
    ⟨1, some 18, none, .p .mov, [.t 0]⟩,
    ⟨2, some 19, none, .p .cap, [.t 18]⟩,
    ⟨3, some 20, none, .p (.slice 1 false true false), [.t 17, .t 19]⟩,
    ⟨4, some 21, none, .p .mov, [.t 1]⟩,
    ⟨5, some 22, none, .e (.appendZ 1 8 [.int .i64 0]) [] [], [.t 20, .t 21]⟩,
    ⟨6, some 23, none, .p .mov, [.t 0]⟩,
    ⟨7, some 24, none, .p .len, [.t 23]⟩,
    ⟨8, some 25, none, .p (.slice 1 false true false), [.t 22, .t 24]⟩,
    ⟨9, some 0, none, .p .mov, [.t 25]⟩])
   (.skip))))
   (.seq (.reg 0 [⟨0, some 26, none, .p .mov, [.t 0]⟩,
    ⟨1, some 4, none, .p .mov, [.t 26]⟩])
   (.ret)))),
  [.tmp 4]⟩
end GL
