import Derived.Test.YtkmggfhfefaehaaGreatGlA
/- GL code of functions. -/
set_option linter.unusedSimpArgs false
set_option linter.unusedVariables false
set_option linter.unnecessarySimpa false
namespace GL
open Go
/- loop.example/g00641/laws.FnAlgebra -/
def g744 : GL.Fn := ⟨.seq (.reg 0 [⟨0, some 4, none, .p .mov, [.c (.bool false)]⟩])
   (.seq (.seq (.reg 0 [⟨0, some 48, none, .p .mov, [.t 0]⟩,
    ⟨1, some 49, none, .p .len, [.t 48]⟩,
    ⟨2, some 50, none, .p .mov, [.t 1]⟩,
    ⟨3, some 51, none, .p .len, [.t 50]⟩,
    ⟨4, some 52, none, .p (.bin .add), [.t 49, .t 51]⟩,
    ⟨5, some 53, none, .p (.bin .gtr), [.t 52, .c (.int .i64 1048576)]⟩])
   (.cond (.t 53) (.seq (.reg 0 [⟨0, some 4, none, .p .mov, [.c (.bool true)]⟩])
   (.ret))
   (.skip)))
   (.seq (.reg 0 [⟨0, some 55, none, .p .mov, [.t 0]⟩,
    ⟨1, some 56, none, .e .call [] [], [.f 745, .t 55]⟩,
    ⟨2, some 54, none, .p .mov, [.t 56]⟩,
    ⟨3, some 57, none, .p (.extract 0), [.t 54]⟩,
    ⟨4, some 58, none, .p (.extract 1), [.t 54]⟩,
    ⟨5, some 59, none, .p (.extract 2), [.t 54]⟩,
    ⟨6, some 60, none, .p (.extract 3), [.t 54]⟩,
    ⟨7, some 5, none, .l (.alloc 5 [.nils, .nils]), []⟩,
    ⟨8, none, none, .l (.store 5 2), [.t 5, .t 57]⟩,
    ⟨9, some 6, none, .p .mov, [.t 58]⟩,
    ⟨10, some 7, none, .p .mov, [.t 59]⟩,
    ⟨11, some 8, none, .p .mov, [.t 60]⟩])
   (.seq (.reg 0 [⟨0, some 62, none, .l (.load 5 true 2), [.t 5]⟩,
    ⟨1, some 63, none, .p .mov, [.t 6]⟩,
    ⟨2, some 64, none, .p .mov, [.t 7]⟩,
    ⟨3, some 65, none, .p .mov, [.t 8]⟩,
    ⟨4, some 66, none, .e .call [] [], [.f 741, .t 62, .t 63, .t 64, .t 65]⟩,
    ⟨5, some 61, none, .p .mov, [.t 66]⟩,
    ⟨6, some 67, none, .p (.extract 0), [.t 61]⟩,
    ⟨7, some 68, none, .p (.extract 1), [.t 61]⟩,
    ⟨8, some 9, none, .l (.alloc 9 [.nils, .nils]), []⟩,
    ⟨9, none, none, .l (.store 9 2), [.t 9, .t 67]⟩,
    ⟨10, some 10, none, .p .mov, [.t 68]⟩])
   (.seq (.reg 0 [⟨0, some 70, none, .l (.load 5 true 2), [.t 5]⟩,
    ⟨1, some 71, none, .p .mov, [.t 6]⟩,
    ⟨2, some 72, none, .p .mov, [.t 7]⟩,
    ⟨3, some 73, none, .p .mov, [.t 8]⟩,
    ⟨4, some 74, none, .e .call [] [], [.f 746, .t 70, .t 71, .t 72, .t 73]⟩,
    ⟨5, some 69, none, .p .mov, [.t 74]⟩,
    ⟨6, some 75, none, .p (.extract 0), [.t 69]⟩,
    ⟨7, some 76, none, .p (.extract 1), [.t 69]⟩,
    ⟨8, some 11, none, .l (.alloc 11 [.nils, .nils]), []⟩,
    ⟨9, none, none, .l (.store 11 2), [.t 11, .t 75]⟩,
    ⟨10, some 12, none, .p .mov, [.t 76]⟩])
   (.seq (.seq (.reg 0 [⟨0, some 77, none, .p .mov, [.t 10]⟩,
    ⟨1, some 78, none, .p .mov, [.t 12]⟩,
    ⟨2, some 79, none, .p (.eqB true), [.t 77, .t 78]⟩,
    ⟨3, some 80, none, .p .mov, [.t 79]⟩,
    ⟨4, some 81, some (80, false), .l (.load 9 true 2), [.t 9]⟩,
    ⟨5, some 82, some (80, false), .l (.load 11 true 2), [.t 11]⟩,
    ⟨6, some 83, some (80, false), .e .call [] [], [.f 640, .t 81, .t 82]⟩,
    ⟨7, some 84, some (80, false), .p (.un .not), [.t 83]⟩,
    ⟨8, some 85, none, .p .pick, [.t 80, .c (.bool true), .t 84]⟩,
    ⟨9, some 86, none, .p .mov, [.t 85]⟩,
    ⟨10, some 87, some (86, false), .l (.load 5 true 2), [.t 5]⟩,
    ⟨11, some 88, some (86, false), .e .call [] [], [.f 659, .t 87]⟩,
    ⟨12, some 89, some (86, false), .l (.load 5 true 2), [.t 5]⟩,
    ⟨13, some 90, some (86, false), .e .call [] [], [.f 662, .t 89]⟩,
    ⟨14, some 91, some (86, false), .p (.eqB true), [.t 88, .t 90]⟩,
    ⟨15, some 92, none, .p .pick, [.t 86, .c (.bool true), .t 91]⟩])
   (.cond (.t 92) (.seq (.reg 0 [⟨0, some 4, none, .p .mov, [.c (.bool false)]⟩])
   (.ret))
   (.skip)))
   (.seq (.seq (.reg 0 [⟨0, some 93, none, .p .mov, [.t 10]⟩])
   (.cond (.t 93) (.seq (.reg 0 [⟨0, some 95, none, .l (.load 9 true 2), [.t 9]⟩,
    ⟨1, some 96, none, .p .mov, [.t 6]⟩,
    ⟨2, some 97, none, .e (.new (.lit 1)) [] [], [.t 96]⟩,
    ⟨3, some 98, none, .e .call [] [], [.f 739, .t 95, .t 97]⟩,
    ⟨4, some 94, none, .p .mov, [.t 98]⟩,
    ⟨5, some 99, none, .p (.extract 0), [.t 94]⟩,
    ⟨6, some 100, none, .p (.extract 1), [.t 94]⟩,
    ⟨7, some 13, none, .l (.alloc 13 [.nils, .nils]), []⟩,
    ⟨8, none, none, .l (.store 13 2), [.t 13, .t 99]⟩,
    ⟨9, some 14, none, .p .mov, [.t 100]⟩])
   (.seq (.reg 0 [⟨0, some 102, none, .l (.load 5 true 2), [.t 5]⟩,
    ⟨1, some 103, none, .p .mov, [.t 6]⟩,
    ⟨2, some 104, none, .e (.new (.lit 1)) [] [], [.t 103]⟩,
    ⟨3, some 105, none, .e .call [] [], [.f 739, .t 102, .t 104]⟩,
    ⟨4, some 101, none, .p .mov, [.t 105]⟩,
    ⟨5, some 106, none, .p (.extract 0), [.t 101]⟩,
    ⟨6, some 107, none, .p (.extract 1), [.t 101]⟩,
    ⟨7, some 15, none, .l (.alloc 15 [.nils, .nils]), []⟩,
    ⟨8, none, none, .l (.store 15 2), [.t 15, .t 106]⟩,
    ⟨9, some 16, none, .p .mov, [.t 107]⟩])
   (.seq (.reg 0 [⟨0, some 109, none, .l (.load 15 true 2), [.t 15]⟩,
    ⟨1, some 110, none, .p .mov, [.t 6]⟩,
    ⟨2, some 111, none, .p .mov, [.t 7]⟩,
    ⟨3, some 112, none, .p .mov, [.t 8]⟩,
    ⟨4, some 113, none, .e .call [] [], [.f 741, .t 109, .t 110, .t 111, .t 112]⟩,
    ⟨5, some 108, none, .p .mov, [.t 113]⟩,
    ⟨6, some 114, none, .p (.extract 0), [.t 108]⟩,
    ⟨7, some 115, none, .p (.extract 1), [.t 108]⟩,
    ⟨8, some 17, none, .l (.alloc 17 [.nils, .nils]), []⟩,
    ⟨9, none, none, .l (.store 17 2), [.t 17, .t 114]⟩,
    ⟨10, some 18, none, .p .mov, [.t 115]⟩])
   (.seq (.reg 0 [⟨0, some 117, none, .l (.load 5 true 2), [.t 5]⟩,
    ⟨1, some 118, none, .l (.load 9 true 2), [.t 9]⟩,
    ⟨2, some 119, none, .e .call [] [], [.f 740, .t 117, .t 118]⟩,
    ⟨3, some 116, none, .p .mov, [.t 119]⟩,
    ⟨4, some 120, none, .p (.extract 0), [.t 116]⟩,
    ⟨5, some 121, none, .p (.extract 1), [.t 116]⟩,
    ⟨6, some 19, none, .l (.alloc 19 [.nils, .nils]), []⟩,
    ⟨7, none, none, .l (.store 19 2), [.t 19, .t 120]⟩,
    ⟨8, some 20, none, .p .mov, [.t 121]⟩])
   (.seq (.reg 0 [⟨0, some 123, none, .l (.load 9 true 2), [.t 9]⟩,
    ⟨1, some 124, none, .l (.load 19 true 2), [.t 19]⟩,
    ⟨2, some 125, none, .e .call [] [], [.f 747, .t 123, .t 124]⟩,
    ⟨3, some 122, none, .p .mov, [.t 125]⟩,
    ⟨4, some 126, none, .p (.extract 0), [.t 122]⟩,
    ⟨5, some 127, none, .p (.extract 1), [.t 122]⟩,
    ⟨6, some 21, none, .l (.alloc 21 [.nils, .nils]), []⟩,
    ⟨7, none, none, .l (.store 21 2), [.t 21, .t 126]⟩,
    ⟨8, some 22, none, .p .mov, [.t 127]⟩])
   (.seq (.reg 0 [⟨0, some 128, none, .p .mov, [.t 14]⟩,
    ⟨1, some 129, none, .p (.un .not), [.t 128]⟩,
    ⟨2, some 130, none, .p .mov, [.t 129]⟩,
    ⟨3, some 131, some (130, false), .p .mov, [.t 16]⟩,
    ⟨4, some 132, some (130, false), .p (.un .not), [.t 131]⟩,
    ⟨5, some 133, none, .p .pick, [.t 130, .c (.bool true), .t 132]⟩,
    ⟨6, some 134, none, .p .mov, [.t 133]⟩,
    ⟨7, some 135, some (134, false), .p .mov, [.t 18]⟩,
    ⟨8, some 136, some (134, false), .p (.un .not), [.t 135]⟩,
    ⟨9, some 137, none, .p .pick, [.t 134, .c (.bool true), .t 136]⟩,
    ⟨10, some 138, none, .p .mov, [.t 137]⟩,
    ⟨11, some 139, some (138, false), .l (.load 13 true 2), [.t 13]⟩,
    ⟨12, some 140, some (138, false), .l (.load 17 true 2), [.t 17]⟩,
    ⟨13, some 141, some (138, false), .e .call [] [], [.f 640, .t 139, .t 140]⟩,
    ⟨14, some 142, some (138, false), .p (.un .not), [.t 141]⟩,
    ⟨15, some 143, none, .p .pick, [.t 138, .c (.bool true), .t 142]⟩,
    ⟨16, some 144, none, .p .mov, [.t 143]⟩,
    ⟨17, some 145, some (144, false), .p .mov, [.t 20]⟩,
    ⟨18, some 146, some (144, false), .p (.un .not), [.t 145]⟩,
    ⟨19, some 147, none, .p .pick, [.t 144, .c (.bool true), .t 146]⟩,
    ⟨20, some 148, none, .p .mov, [.t 147]⟩,
    ⟨21, some 149, some (148, false), .p .mov, [.t 22]⟩,
    ⟨22, some 150, some (148, false), .p (.un .not), [.t 149]⟩,
    ⟨23, some 151, none, .p .pick, [.t 148, .c (.bool true), .t 150]⟩,
    ⟨24, some 152, none, .p .mov, [.t 151]⟩,
    ⟨25, some 153, some (152, false), .l (.load 21 true 2), [.t 21]⟩,
    ⟨26, some 154, some (152, false), .l (.load 5 true 2), [.t 5]⟩,
    ⟨27, some 155, some (152, false), .e .call [] [], [.f 640, .t 153, .t 154]⟩,
    ⟨28, some 156, some (152, false), .p (.un .not), [.t 155]⟩,
    ⟨29, some 157, none, .p .pick, [.t 152, .c (.bool true), .t 156]⟩])
   (.cond (.t 157) (.seq (.reg 0 [⟨0, some 4, none, .p .mov, [.c (.bool false)]⟩])
   (.ret))
   (.skip))))))))
   (.skip)))
   (.seq (.reg 0 [⟨0, some 159, none, .p .mov, [.t 1]⟩,
    ⟨1, some 160, none, .e .call [] [], [.f 748, .t 159]⟩,
    ⟨2, some 158, none, .p .mov, [.t 160]⟩,
    ⟨3, some 161, none, .p (.extract 0), [.t 158]⟩,
    ⟨4, some 162, none, .p (.extract 1), [.t 158]⟩,
    ⟨5, some 23, none, .l (.alloc 23 [.nils, .nils]), []⟩,
    ⟨6, some 24, none, .l (.alloc 24 [.nils, .nils]), []⟩,
    ⟨7, none, none, .l (.store 23 2), [.t 23, .t 161]⟩,
    ⟨8, none, none, .l (.store 24 2), [.t 24, .t 162]⟩])
   (.seq (.reg 0 [⟨0, some 164, none, .l (.load 23 true 2), [.t 23]⟩,
    ⟨1, some 165, none, .l (.load 24 true 2), [.t 24]⟩,
    ⟨2, some 166, none, .e .call [] [], [.f 747, .t 164, .t 165]⟩,
    ⟨3, some 163, none, .p .mov, [.t 166]⟩,
    ⟨4, some 167, none, .p (.extract 0), [.t 163]⟩,
    ⟨5, some 168, none, .p (.extract 1), [.t 163]⟩,
    ⟨6, some 25, none, .l (.alloc 25 [.nils, .nils]), []⟩,
    ⟨7, none, none, .l (.store 25 2), [.t 25, .t 167]⟩,
    ⟨8, some 26, none, .p .mov, [.t 168]⟩])
   (.seq (.reg 0 [⟨0, some 170, none, .l (.load 23 true 2), [.t 23]⟩,
    ⟨1, some 171, none, .l (.load 24 true 2), [.t 24]⟩,
    ⟨2, some 172, none, .e .call [] [], [.f 749, .t 170, .t 171]⟩,
    ⟨3, some 169, none, .p .mov, [.t 172]⟩,
    ⟨4, some 173, none, .p (.extract 0), [.t 169]⟩,
    ⟨5, some 174, none, .p (.extract 1), [.t 169]⟩,
    ⟨6, some 27, none, .l (.alloc 27 [.nils, .nils]), []⟩,
    ⟨7, none, none, .l (.store 27 2), [.t 27, .t 173]⟩,
    ⟨8, some 28, none, .p .mov, [.t 174]⟩])
   (.seq (.reg 0 [⟨0, some 176, none, .l (.load 23 true 2), [.t 23]⟩,
    ⟨1, some 177, none, .l (.load 24 true 2), [.t 24]⟩,
    ⟨2, some 178, none, .e .call [] [], [.f 740, .t 176, .t 177]⟩,
    ⟨3, some 175, none, .p .mov, [.t 178]⟩,
    ⟨4, some 179, none, .p (.extract 0), [.t 175]⟩,
    ⟨5, some 180, none, .p (.extract 1), [.t 175]⟩,
    ⟨6, some 29, none, .l (.alloc 29 [.nils, .nils]), []⟩,
    ⟨7, none, none, .l (.store 29 2), [.t 29, .t 179]⟩,
    ⟨8, some 30, none, .p .mov, [.t 180]⟩])
   (.seq (.reg 0 [⟨0, some 182, none, .l (.load 23 true 2), [.t 23]⟩,
    ⟨1, some 183, none, .l (.load 24 true 2), [.t 24]⟩,
    ⟨2, some 184, none, .e .call [] [], [.f 750, .t 182, .t 183]⟩,
    ⟨3, some 181, none, .p .mov, [.t 184]⟩,
    ⟨4, some 185, none, .p (.extract 0), [.t 181]⟩,
    ⟨5, some 186, none, .p (.extract 1), [.t 181]⟩,
    ⟨6, some 31, none, .l (.alloc 31 [.nils, .nils]), []⟩,
    ⟨7, none, none, .l (.store 31 2), [.t 31, .t 185]⟩,
    ⟨8, some 32, none, .p .mov, [.t 186]⟩])
   (.seq (.reg 0 [⟨0, some 188, none, .p .mov, [.t 1]⟩,
    ⟨1, some 189, none, .e .call [] [], [.f 751, .t 188]⟩,
    ⟨2, some 187, none, .p .mov, [.t 189]⟩,
    ⟨3, some 190, none, .p (.extract 0), [.t 187]⟩,
    ⟨4, some 191, none, .p (.extract 1), [.t 187]⟩,
    ⟨5, some 33, none, .l (.alloc 33 [.nils, .nils]), []⟩,
    ⟨6, none, none, .l (.store 33 2), [.t 33, .t 190]⟩,
    ⟨7, some 34, none, .p .mov, [.t 191]⟩])
   (.seq (.reg 0 [⟨0, some 193, none, .l (.load 33 true 2), [.t 33]⟩,
    ⟨1, some 194, none, .p .mov, [.t 34]⟩,
    ⟨2, some 195, none, .e .call [] [], [.f 739, .t 193, .t 194]⟩,
    ⟨3, some 192, none, .p .mov, [.t 195]⟩,
    ⟨4, some 196, none, .p (.extract 0), [.t 192]⟩,
    ⟨5, some 197, none, .p (.extract 1), [.t 192]⟩,
    ⟨6, some 35, none, .l (.alloc 35 [.nils, .nils]), []⟩,
    ⟨7, none, none, .l (.store 35 2), [.t 35, .t 196]⟩,
    ⟨8, some 36, none, .p .mov, [.t 197]⟩])
   (.seq (.reg 0 [⟨0, some 199, none, .l (.load 33 true 2), [.t 33]⟩,
    ⟨1, some 200, none, .p .mov, [.t 34]⟩,
    ⟨2, some 201, none, .e .call [] [], [.f 752, .t 199, .t 200]⟩,
    ⟨3, some 198, none, .p .mov, [.t 201]⟩,
    ⟨4, some 202, none, .p (.extract 0), [.t 198]⟩,
    ⟨5, some 203, none, .p (.extract 1), [.t 198]⟩,
    ⟨6, some 37, none, .l (.alloc 37 [.nils, .nils]), []⟩,
    ⟨7, none, none, .l (.store 37 2), [.t 37, .t 202]⟩,
    ⟨8, some 38, none, .p .mov, [.t 203]⟩])
   (.seq (.reg 0 [⟨0, some 205, none, .p .mov, [.t 1]⟩,
    ⟨1, some 206, none, .e .call [] [], [.f 753, .t 205]⟩,
    ⟨2, some 204, none, .p .mov, [.t 206]⟩,
    ⟨3, some 207, none, .p (.extract 0), [.t 204]⟩,
    ⟨4, some 208, none, .p (.extract 1), [.t 204]⟩,
    ⟨5, some 209, none, .p (.extract 2), [.t 204]⟩,
    ⟨6, some 39, none, .l (.alloc 39 [.nils, .nils]), []⟩,
    ⟨7, none, none, .l (.store 39 2), [.t 39, .t 207]⟩,
    ⟨8, some 40, none, .p .mov, [.t 208]⟩,
    ⟨9, some 41, none, .p .mov, [.t 209]⟩])
   (.seq (.reg 0 [⟨0, some 211, none, .l (.load 39 true 2), [.t 39]⟩,
    ⟨1, some 212, none, .p .mov, [.t 40]⟩,
    ⟨2, some 213, none, .p .mov, [.t 41]⟩,
    ⟨3, some 214, none, .e .call [] [], [.f 754, .t 211, .t 212, .t 213]⟩,
    ⟨4, some 210, none, .p .mov, [.t 214]⟩,
    ⟨5, some 215, none, .p (.extract 0), [.t 210]⟩,
    ⟨6, some 216, none, .p (.extract 1), [.t 210]⟩,
    ⟨7, some 42, none, .l (.alloc 42 [.nils, .nils]), []⟩,
    ⟨8, none, none, .l (.store 42 2), [.t 42, .t 215]⟩,
    ⟨9, some 43, none, .p .mov, [.t 216]⟩])
   (.seq (.reg 0 [⟨0, some 218, none, .l (.load 39 true 2), [.t 39]⟩,
    ⟨1, some 219, none, .p .mov, [.t 40]⟩,
    ⟨2, some 220, none, .p .mov, [.t 41]⟩,
    ⟨3, some 221, none, .e .call [] [], [.f 755, .t 218, .t 219, .t 220]⟩,
    ⟨4, some 217, none, .p .mov, [.t 221]⟩,
    ⟨5, some 222, none, .p (.extract 0), [.t 217]⟩,
    ⟨6, some 223, none, .p (.extract 1), [.t 217]⟩,
    ⟨7, some 44, none, .l (.alloc 44 [.nils, .nils]), []⟩,
    ⟨8, none, none, .l (.store 44 2), [.t 44, .t 222]⟩,
    ⟨9, some 45, none, .p .mov, [.t 223]⟩])
   (.seq (.seq (.reg 0 [⟨0, some 224, none, .p .mov, [.t 26]⟩,
    ⟨1, some 225, none, .p .mov, [.t 28]⟩,
    ⟨2, some 226, none, .p (.eqB true), [.t 224, .t 225]⟩,
    ⟨3, some 227, none, .p .mov, [.t 226]⟩,
    ⟨4, some 228, some (227, false), .l (.load 25 true 2), [.t 25]⟩,
    ⟨5, some 229, some (227, false), .l (.load 27 true 2), [.t 27]⟩,
    ⟨6, some 230, some (227, false), .e .call [] [], [.f 640, .t 228, .t 229]⟩,
    ⟨7, some 231, some (227, false), .p (.un .not), [.t 230]⟩,
    ⟨8, some 232, none, .p .pick, [.t 227, .c (.bool true), .t 231]⟩,
    ⟨9, some 233, none, .p .mov, [.t 232]⟩,
    ⟨10, some 234, some (233, false), .p .mov, [.t 30]⟩,
    ⟨11, some 235, some (233, false), .p .mov, [.t 32]⟩,
    ⟨12, some 236, some (233, false), .p (.eqB true), [.t 234, .t 235]⟩,
    ⟨13, some 237, none, .p .pick, [.t 233, .c (.bool true), .t 236]⟩,
    ⟨14, some 238, none, .p .mov, [.t 237]⟩,
    ⟨15, some 239, some (238, false), .l (.load 29 true 2), [.t 29]⟩,
    ⟨16, some 240, some (238, false), .l (.load 31 true 2), [.t 31]⟩,
    ⟨17, some 241, some (238, false), .e .call [] [], [.f 640, .t 239, .t 240]⟩,
    ⟨18, some 242, some (238, false), .p (.un .not), [.t 241]⟩,
    ⟨19, some 243, none, .p .pick, [.t 238, .c (.bool true), .t 242]⟩,
    ⟨20, some 244, none, .p .mov, [.t 243]⟩,
    ⟨21, some 245, some (244, false), .p .mov, [.t 36]⟩,
    ⟨22, some 246, some (244, false), .p .mov, [.t 38]⟩,
    ⟨23, some 247, some (244, false), .p (.eqB true), [.t 245, .t 246]⟩,
    ⟨24, some 248, none, .p .pick, [.t 244, .c (.bool true), .t 247]⟩,
    ⟨25, some 249, none, .p .mov, [.t 248]⟩,
    ⟨26, some 250, some (249, false), .l (.load 35 true 2), [.t 35]⟩,
    ⟨27, some 251, some (249, false), .l (.load 37 true 2), [.t 37]⟩,
    ⟨28, some 252, some (249, false), .e .call [] [], [.f 640, .t 250, .t 251]⟩,
    ⟨29, some 253, some (249, false), .p (.un .not), [.t 252]⟩,
    ⟨30, some 254, none, .p .pick, [.t 249, .c (.bool true), .t 253]⟩,
    ⟨31, some 255, none, .p .mov, [.t 254]⟩,
    ⟨32, some 256, some (255, false), .p .mov, [.t 43]⟩,
    ⟨33, some 257, some (255, false), .p .mov, [.t 45]⟩,
    ⟨34, some 258, some (255, false), .p (.eqB true), [.t 256, .t 257]⟩,
    ⟨35, some 259, none, .p .pick, [.t 255, .c (.bool true), .t 258]⟩,
    ⟨36, some 260, none, .p .mov, [.t 259]⟩,
    ⟨37, some 261, some (260, false), .l (.load 42 true 2), [.t 42]⟩,
    ⟨38, some 262, some (260, false), .l (.load 44 true 2), [.t 44]⟩,
    ⟨39, some 263, some (260, false), .e .call [] [], [.f 640, .t 261, .t 262]⟩,
    ⟨40, some 264, some (260, false), .p (.un .not), [.t 263]⟩,
    ⟨41, some 265, none, .p .pick, [.t 260, .c (.bool true), .t 264]⟩])
   (.cond (.t 265) (.seq (.reg 0 [⟨0, some 4, none, .p .mov, [.c (.bool false)]⟩])
   (.ret))
   (.skip)))
   (.seq (.seq (.reg 0 [⟨0, some 266, none, .p .mov, [.t 43]⟩])
   (.cond (.t 266) (.seq (.reg 0 [⟨0, some 268, none, .l (.load 42 true 2), [.t 42]⟩,
    ⟨1, some 269, none, .p .mov, [.t 41]⟩,
    ⟨2, some 270, none, .p .mov, [.t 40]⟩,
    ⟨3, some 271, none, .e .call [] [], [.f 754, .t 268, .t 269, .t 270]⟩,
    ⟨4, some 267, none, .p .mov, [.t 271]⟩,
    ⟨5, some 272, none, .p (.extract 0), [.t 267]⟩,
    ⟨6, some 273, none, .p (.extract 1), [.t 267]⟩,
    ⟨7, some 46, none, .l (.alloc 46 [.nils, .nils]), []⟩,
    ⟨8, none, none, .l (.store 46 2), [.t 46, .t 272]⟩,
    ⟨9, some 47, none, .p .mov, [.t 273]⟩])
   (.seq (.reg 0 [⟨0, some 274, none, .p .mov, [.t 47]⟩,
    ⟨1, some 275, none, .p .mov, [.t 274]⟩,
    ⟨2, some 276, some (275, true), .l (.load 46 true 2), [.t 46]⟩,
    ⟨3, some 277, some (275, true), .l (.load 39 true 2), [.t 39]⟩,
    ⟨4, some 278, some (275, true), .e .call [] [], [.f 640, .t 276, .t 277]⟩,
    ⟨5, some 279, none, .p .pick, [.t 275, .t 278, .c (.bool false)]⟩,
    ⟨6, some 4, none, .p .mov, [.t 279]⟩])
   (.ret)))
   (.skip)))
   (.seq (.reg 0 [⟨0, some 4, none, .p .mov, [.c (.bool true)]⟩])
   (.ret))))))))))))))))))))),
  [.tmp 4]⟩
/- loop.example/g00641/laws.sameRelation -/
def g640 : GL.Fn := ⟨.seq (.reg 0 [⟨0, some 2, none, .l (.box 2 2), [.t 0]⟩,
    ⟨1, some 3, none, .l (.box 3 2), [.t 1]⟩,
    ⟨2, some 4, none, .p .mov, [.c (.bool false)]⟩])
   (.seq (.reg 0 [⟨0, some 5, none, .p (.faddr 0), [.t 2]⟩,
    ⟨1, some 6, none, .l (.load 2 false 1), [.t 5]⟩,
    ⟨2, some 7, none, .p (.faddr 0), [.t 3]⟩,
    ⟨3, some 8, none, .l (.load 3 false 1), [.t 7]⟩,
    ⟨4, some 9, none, .e .call [] [], [.f 24, .t 6, .t 8]⟩,
    ⟨5, some 10, none, .p .mov, [.t 9]⟩,
    ⟨6, some 11, some (10, true), .p (.faddr 1), [.t 2]⟩,
    ⟨7, some 12, some (10, true), .l (.load 2 false 1), [.t 11]⟩,
    ⟨8, some 13, some (10, true), .p (.faddr 1), [.t 3]⟩,
    ⟨9, some 14, some (10, true), .l (.load 3 false 1), [.t 13]⟩,
    ⟨10, some 15, some (10, true), .e .call [] [], [.f 383, .t 12, .t 14]⟩,
    ⟨11, some 16, none, .p .pick, [.t 10, .t 15, .c (.bool false)]⟩,
    ⟨12, some 4, none, .p .mov, [.t 16]⟩])
   (.ret)),
  [.tmp 4]⟩
/- loop.example/g00641/impl.Project -/
def g739_0 : GL.Code := .seq (.reg 0 [⟨0, some 25, none, .p (.bin .lss), [.t 24, .t 23]⟩])
   (.seq (.cond (.t 25) (.skip)
   (.exit 0))
   (.seq (.block 1 (.seq (.reg 0 [⟨0, some 26, none, .p (.idx 1), [.t 22, .t 24]⟩,
    ⟨1, some 27, none, .r (.load false 1) false, [.t 26]⟩,
    ⟨2, some 8, none, .p .mov, [.t 27]⟩])
   (.reg 0 [⟨0, some 28, none, .p .mov, [.t 6]⟩,
    ⟨1, some 29, none, .p (.faddr 0), [.t 2]⟩,
    ⟨2, some 30, none, .l (.load 2 false 1), [.t 29]⟩,
    ⟨3, some 31, none, .p .mov, [.t 8]⟩,
    ⟨4, some 32, none, .p .mov, [.t 1]⟩,
    ⟨5, some 33, none, .e .call [] [], [.f 661, .t 30, .t 31, .t 32]⟩,
    ⟨6, some 34, none, .e (.new (.lit 1)) [] [], [.t 33]⟩,
    ⟨7, some 35, none, .e (.append 1 24) [] [], [.t 28, .t 34]⟩,
    ⟨8, some 6, none, .p .mov, [.t 35]⟩])))
   (.reg 0 [⟨0, some 36, none, .p (.bin .add), [.t 24, .c (.int .i64 1)]⟩,
    ⟨1, some 24, none, .p .mov, [.t 36]⟩])))
def g739 : GL.Fn := ⟨.seq (.reg 0 [⟨0, some 2, none, .l (.box 2 2), [.t 0]⟩,
    ⟨1, some 4, none, .l (.alloc 4 [.nils, .nils]), []⟩,
    ⟨2, some 5, none, .p .mov, [.c (.bool false)]⟩])
   (.seq (.seq (.reg 0 [⟨0, some 9, none, .l (.load 2 true 2), [.t 2]⟩,
    ⟨1, some 10, none, .e .call [] [], [.f 659, .t 9]⟩,
    ⟨2, some 11, none, .p (.un .not), [.t 10]⟩,
    ⟨3, some 12, none, .p .mov, [.t 11]⟩,
    ⟨4, some 13, some (12, false), .p .mov, [.t 1]⟩,
    ⟨5, some 14, some (12, false), .p (.faddr 0), [.t 2]⟩,
    ⟨6, some 15, some (12, false), .l (.load 2 false 1), [.t 14]⟩,
    ⟨7, some 16, some (12, false), .e .call [] [], [.f 660, .t 13, .t 15]⟩,
    ⟨8, some 17, some (12, false), .p (.un .not), [.t 16]⟩,
    ⟨9, some 18, none, .p .pick, [.t 12, .c (.bool true), .t 17]⟩])
   (.cond (.t 18) (.seq (.reg 0 [⟨0, some 19, none, .p (.build [.nils, .nils] []), []⟩,
    ⟨1, none, none, .l (.store 4 2), [.t 4, .t 19]⟩,
    ⟨2, some 5, none, .p .mov, [.c (.bool false)]⟩])
   (.ret))
   (.skip)))
   (.seq (.reg 0 [⟨0, some 20, none, .e (.new (.lit 1)) [] [], []⟩,
    ⟨1, some 6, none, .p .mov, [.t 20]⟩])
   (.seq (.seq (.reg 0 [⟨0, some 21, none, .p (.faddr 1), [.t 2]⟩,
    ⟨1, some 22, none, .l (.load 2 false 1), [.t 21]⟩,
    ⟨2, some 23, none, .p .len, [.t 22]⟩,
    ⟨3, some 24, none, .p .mov, [.c (.int .i64 0)]⟩])
   (.block 0 (.loop g739_0)))
   (.seq (.reg 0 [⟨0, some 37, none, .p .mov, [.t 1]⟩,
    ⟨1, some 38, none, .p .mov, [.t 6]⟩,
    ⟨2, some 39, none, .e .call [] [], [.f 673, .t 37, .t 38]⟩,
    ⟨3, some 40, none, .p (.extract 0), [.t 39]⟩,
    ⟨4, some 41, none, .p (.extract 1), [.t 39]⟩,
    ⟨5, none, none, .l (.store 4 2), [.t 4, .t 40]⟩,
    ⟨6, some 5, none, .p .mov, [.t 41]⟩])
   (.ret))))),
  [.cellL 4 4 true 2, .tmp 5]⟩
/- loop.example/g00641/impl.WithoutOf -/
def g740 : GL.Fn := ⟨.seq (.reg 0 [⟨0, some 2, none, .l (.box 2 2), [.t 0]⟩,
    ⟨1, some 3, none, .e (.new (.box 2)) [] [], [.t 1]⟩,
    ⟨2, some 4, none, .l (.alloc 4 [.nils, .nils]), []⟩,
    ⟨3, some 5, none, .p .mov, [.c (.bool false)]⟩])
   (.seq (.seq (.reg 0 [⟨0, some 7, none, .l (.load 2 true 2), [.t 2]⟩,
    ⟨1, some 8, none, .r (.load true 2) false, [.t 3]⟩,
    ⟨2, some 9, none, .e .call [] [], [.f 779, .t 7, .t 8]⟩,
    ⟨3, some 10, none, .p (.un .not), [.t 9]⟩])
   (.cond (.t 10) (.seq (.reg 0 [⟨0, some 11, none, .p (.build [.nils, .nils] []), []⟩,
    ⟨1, none, none, .l (.store 4 2), [.t 4, .t 11]⟩,
    ⟨2, some 5, none, .p .mov, [.c (.bool false)]⟩])
   (.ret))
   (.skip)))
   (.seq (.reg 0 [⟨0, some 12, none, .p (.faddr 1), [.t 2]⟩,
    ⟨1, some 13, none, .l (.load 2 false 1), [.t 12]⟩,
    ⟨2, some 14, none, .e .call [] [], [.f 780, .t 13]⟩,
    ⟨3, some 15, none, .p (.mkFn 781), [.t 3]⟩,
    ⟨4, some 16, none, .e .call [] [], [.f 782, .t 14, .t 15]⟩,
    ⟨5, some 6, none, .p .mov, [.t 16]⟩])
   (.seq (.reg 0 [⟨0, some 17, none, .p (.faddr 0), [.t 2]⟩,
    ⟨1, some 18, none, .l (.load 2 false 1), [.t 17]⟩,
    ⟨2, some 19, none, .p .mov, [.t 6]⟩,
    ⟨3, some 20, none, .e .call [] [], [.f 673, .t 18, .t 19]⟩,
    ⟨4, some 21, none, .p (.extract 0), [.t 20]⟩,
    ⟨5, some 22, none, .p (.extract 1), [.t 20]⟩,
    ⟨6, none, none, .l (.store 4 2), [.t 4, .t 21]⟩,
    ⟨7, some 5, none, .p .mov, [.t 22]⟩])
   (.ret)))),
  [.cellL 4 4 true 2, .tmp 5]⟩
/- loop.example/g00641/impl.Choose -/
def g741_0 : GL.Code := .seq (.reg 0 [⟨0, some 41, none, .p (.bin .lss), [.t 40, .t 39]⟩])
   (.seq (.cond (.t 41) (.skip)
   (.exit 0))
   (.seq (.block 1 (.seq (.reg 0 [⟨0, some 42, none, .p (.idx 1), [.t 38, .t 40]⟩,
    ⟨1, some 43, none, .r (.load false 1) false, [.t 42]⟩,
    ⟨2, some 13, none, .p .mov, [.t 43]⟩])
   (.seq (.reg 0 [⟨0, some 44, none, .p .mov, [.t 2]⟩,
    ⟨1, some 45, none, .p .mov, [.t 13]⟩,
    ⟨2, some 46, none, .p .mov, [.t 10]⟩,
    ⟨3, some 47, none, .p (.idx 1), [.t 45, .t 46]⟩,
    ⟨4, some 48, none, .r (.load false 1) false, [.t 47]⟩,
    ⟨5, some 49, none, .p (.build [.bool false, .int .i64 0] [(1, 1)]), [.t 48]⟩,
    ⟨6, some 50, none, .p .mov, [.t 3]⟩,
    ⟨7, some 51, none, .p (.build [.bool false, .int .i64 0] [(1, 1)]), [.t 50]⟩,
    ⟨8, some 52, none, .e .call [] [], [.f 97, .t 44, .t 49, .t 51]⟩,
    ⟨9, some 53, none, .p (.bin .eql), [.t 52, .c (.int .i64 2)]⟩])
   (.cond (.t 53) (.reg 0 [⟨0, some 54, none, .p .mov, [.t 11]⟩,
    ⟨1, some 55, none, .p .mov, [.t 13]⟩,
    ⟨2, some 56, none, .e (.new (.lit 1)) [] [], [.t 55]⟩,
    ⟨3, some 57, none, .e (.append 1 24) [] [], [.t 54, .t 56]⟩,
    ⟨4, some 11, none, .p .mov, [.t 57]⟩])
   (.skip)))))
   (.reg 0 [⟨0, some 58, none, .p (.bin .add), [.t 40, .c (.int .i64 1)]⟩,
    ⟨1, some 40, none, .p .mov, [.t 58]⟩])))
def g741 : GL.Fn := ⟨.seq (.reg 0 [⟨0, some 4, none, .l (.box 4 2), [.t 0]⟩,
    ⟨1, some 8, none, .l (.alloc 8 [.nils, .nils]), []⟩,
    ⟨2, some 9, none, .p .mov, [.c (.bool false)]⟩])
   (.seq (.reg 0 [⟨0, some 14, none, .p (.faddr 0), [.t 4]⟩,
    ⟨1, some 15, none, .l (.load 4 false 1), [.t 14]⟩,
    ⟨2, some 16, none, .p .mov, [.t 1]⟩,
    ⟨3, some 17, none, .e .call [] [], [.f 390, .t 15, .t 16]⟩,
    ⟨4, some 10, none, .p .mov, [.t 17]⟩])
   (.seq (.seq (.reg 0 [⟨0, some 18, none, .l (.load 4 true 2), [.t 4]⟩,
    ⟨1, some 19, none, .e .call [] [], [.f 659, .t 18]⟩,
    ⟨2, some 20, none, .p (.un .not), [.t 19]⟩,
    ⟨3, some 21, none, .p .mov, [.t 20]⟩,
    ⟨4, some 22, some (21, false), .p .mov, [.t 10]⟩,
    ⟨5, some 23, some (21, false), .p (.bin .lss), [.t 22, .c (.int .i64 0)]⟩,
    ⟨6, some 24, none, .p .pick, [.t 21, .c (.bool true), .t 23]⟩,
    ⟨7, some 25, none, .p .mov, [.t 24]⟩,
    ⟨8, some 26, some (25, false), .p .mov, [.t 2]⟩,
    ⟨9, some 27, some (25, false), .e .call [] [], [.f 96, .t 26]⟩,
    ⟨10, some 28, some (25, false), .p (.un .not), [.t 27]⟩,
    ⟨11, some 29, none, .p .pick, [.t 25, .c (.bool true), .t 28]⟩,
    ⟨12, some 30, none, .p .mov, [.t 29]⟩,
    ⟨13, some 31, some (30, false), .p .mov, [.t 3]⟩,
    ⟨14, some 32, some (30, false), .e .call [] [], [.f 100, .t 31]⟩,
    ⟨15, some 33, some (30, false), .p (.un .not), [.t 32]⟩,
    ⟨16, some 34, none, .p .pick, [.t 30, .c (.bool true), .t 33]⟩])
   (.cond (.t 34) (.seq (.reg 0 [⟨0, some 35, none, .p (.build [.nils, .nils] []), []⟩,
    ⟨1, none, none, .l (.store 8 2), [.t 8, .t 35]⟩,
    ⟨2, some 9, none, .p .mov, [.c (.bool false)]⟩])
   (.ret))
   (.skip)))
   (.seq (.reg 0 [⟨0, some 36, none, .e (.new (.lit 1)) [] [], []⟩,
    ⟨1, some 11, none, .p .mov, [.t 36]⟩])
   (.seq (.seq (.reg 0 [⟨0, some 37, none, .p (.faddr 1), [.t 4]⟩,
    ⟨1, some 38, none, .l (.load 4 false 1), [.t 37]⟩,
    ⟨2, some 39, none, .p .len, [.t 38]⟩,
    ⟨3, some 40, none, .p .mov, [.c (.int .i64 0)]⟩])
   (.block 0 (.loop g741_0)))
   (.seq (.reg 0 [⟨0, some 59, none, .p (.faddr 0), [.t 4]⟩,
    ⟨1, some 60, none, .l (.load 4 false 1), [.t 59]⟩,
    ⟨2, some 61, none, .p .mov, [.t 11]⟩,
    ⟨3, some 62, none, .e .call [] [], [.f 673, .t 60, .t 61]⟩,
    ⟨4, some 63, none, .p (.extract 0), [.t 62]⟩,
    ⟨5, some 64, none, .p (.extract 1), [.t 62]⟩,
    ⟨6, none, none, .l (.store 8 2), [.t 8, .t 63]⟩,
    ⟨7, some 9, none, .p .mov, [.t 64]⟩])
   (.ret)))))),
  [.cellL 8 8 true 2, .tmp 9]⟩
/- loop.example/g00641/spec.DrawChoose -/
def g745 : GL.Fn := ⟨.seq (.reg 0 [⟨0, some 2, none, .l (.alloc 2 [.nils, .nils]), []⟩,
    ⟨1, some 3, none, .p .mov, [.c (.int .i64 0)]⟩,
    ⟨2, some 4, none, .p .mov, [.c (.int .i64 0)]⟩,
    ⟨3, some 5, none, .p .mov, [.c (.int .i64 0)]⟩])
   (.seq (.reg 0 [⟨0, some 7, none, .p .mov, [.t 0]⟩,
    ⟨1, some 8, none, .p (.build [.nils, .int .i64 0, .int .u64 0] [(0, 1)]), [.t 7]⟩,
    ⟨2, some 9, none, .e (.new (.box 3)) [] [], [.t 8]⟩,
    ⟨3, some 6, none, .p .mov, [.t 9]⟩])
   (.seq (.reg 0 [⟨0, some 10, none, .p .mov, [.t 6]⟩,
    ⟨1, some 11, none, .p .mov, [.t 6]⟩,
    ⟨2, some 12, none, .e .call [] [], [.f 777, .t 11]⟩,
    ⟨3, some 13, none, .e .call [] [], [.f 657, .t 10, .t 12]⟩,
    ⟨4, some 14, none, .p .mov, [.t 6]⟩,
    ⟨5, some 15, none, .e .call [] [], [.f 91, .t 14, .c (.int .i64 3)]⟩,
    ⟨6, some 16, none, .p .mov, [.t 6]⟩,
    ⟨7, some 17, none, .e .call [] [], [.f 91, .t 16, .c (.int .i64 4)]⟩,
    ⟨8, some 18, none, .p .mov, [.t 6]⟩,
    ⟨9, some 19, none, .e (.new (.lit 1)) [] [], [.c (.int .i64 (-1001)), .c (.int .i64 0), .c (.int .i64 1), .c (.int .i64 2), .c (.int .i64 1000)]⟩,
    ⟨10, some 20, none, .e .call [] [], [.f 93, .t 18, .t 19]⟩,
    ⟨11, none, none, .l (.store 2 2), [.t 2, .t 13]⟩,
    ⟨12, some 3, none, .p .mov, [.t 15]⟩,
    ⟨13, some 4, none, .p .mov, [.t 17]⟩,
    ⟨14, some 5, none, .p .mov, [.t 20]⟩])
   (.ret))),
  [.cellL 2 2 true 2, .tmp 3, .tmp 4, .tmp 5]⟩
/- loop.example/g00641/spec.Choose -/
def g746_0 : GL.Code := .seq (.reg 0 [⟨0, some 40, none, .p (.bin .lss), [.t 39, .t 38]⟩])
   (.seq (.cond (.t 40) (.skip)
   (.exit 0))
   (.seq (.block 1 (.seq (.reg 0 [⟨0, some 41, none, .p (.idx 1), [.t 37, .t 39]⟩,
    ⟨1, some 42, none, .r (.load false 1) false, [.t 41]⟩,
    ⟨2, some 13, none, .p .mov, [.t 42]⟩])
   (.seq (.reg 0 [⟨0, some 43, none, .p .mov, [.t 2]⟩,
    ⟨1, some 44, none, .p .mov, [.t 13]⟩,
    ⟨2, some 45, none, .p .mov, [.t 10]⟩,
    ⟨3, some 46, none, .p (.idx 1), [.t 44, .t 45]⟩,
    ⟨4, some 47, none, .r (.load false 1) false, [.t 46]⟩,
    ⟨5, some 48, none, .p (.build [.bool false, .int .i64 0] [(1, 1)]), [.t 47]⟩,
    ⟨6, some 49, none, .p .mov, [.t 3]⟩,
    ⟨7, some 50, none, .p (.build [.bool false, .int .i64 0] [(1, 1)]), [.t 49]⟩,
    ⟨8, some 51, none, .e .call [] [], [.f 99, .t 43, .t 48, .t 50]⟩,
    ⟨9, some 52, none, .p (.bin .eql), [.t 51, .c (.int .i64 2)]⟩])
   (.cond (.t 52) (.reg 0 [⟨0, some 53, none, .p .mov, [.t 11]⟩,
    ⟨1, some 54, none, .p .mov, [.t 13]⟩,
    ⟨2, some 55, none, .e (.new (.lit 1)) [] [], [.t 54]⟩,
    ⟨3, some 56, none, .e (.append 1 24) [] [], [.t 53, .t 55]⟩,
    ⟨4, some 11, none, .p .mov, [.t 56]⟩])
   (.skip)))))
   (.reg 0 [⟨0, some 57, none, .p (.bin .add), [.t 39, .c (.int .i64 1)]⟩,
    ⟨1, some 39, none, .p .mov, [.t 57]⟩])))
def g746 : GL.Fn := ⟨.seq (.reg 0 [⟨0, some 4, none, .l (.box 4 2), [.t 0]⟩,
    ⟨1, some 8, none, .l (.alloc 8 [.nils, .nils]), []⟩,
    ⟨2, some 9, none, .p .mov, [.c (.bool false)]⟩])
   (.seq (.reg 0 [⟨0, some 14, none, .p (.faddr 0), [.t 4]⟩,
    ⟨1, some 15, none, .l (.load 4 false 1), [.t 14]⟩,
    ⟨2, some 16, none, .p .mov, [.t 1]⟩,
    ⟨3, some 17, none, .e .call [] [], [.f 606, .t 15, .t 16]⟩,
    ⟨4, some 10, none, .p .mov, [.t 17]⟩])
   (.seq (.seq (.reg 0 [⟨0, some 18, none, .l (.load 4 true 2), [.t 4]⟩,
    ⟨1, some 19, none, .e .call [] [], [.f 662, .t 18]⟩,
    ⟨2, some 20, none, .p (.un .not), [.t 19]⟩,
    ⟨3, some 21, none, .p .mov, [.t 20]⟩,
    ⟨4, some 22, some (21, false), .p .mov, [.t 10]⟩,
    ⟨5, some 23, some (21, false), .p (.bin .lss), [.t 22, .c (.int .i64 0)]⟩,
    ⟨6, some 24, none, .p .pick, [.t 21, .c (.bool true), .t 23]⟩,
    ⟨7, some 25, none, .p .mov, [.t 24]⟩,
    ⟨8, some 26, some (25, false), .p .mov, [.t 2]⟩,
    ⟨9, some 27, some (25, false), .e .call [] [], [.f 98, .t 26, .c (.int .i64 0), .c (.int .i64 2)]⟩,
    ⟨10, some 28, some (25, false), .p (.un .not), [.t 27]⟩,
    ⟨11, some 29, none, .p .pick, [.t 25, .c (.bool true), .t 28]⟩,
    ⟨12, some 30, none, .p .mov, [.t 29]⟩,
    ⟨13, some 31, some (30, false), .p .mov, [.t 3]⟩,
    ⟨14, some 32, some (30, false), .e .call [] [], [.f 98, .t 31, .c (.int .i64 (-1000)), .c (.int .i64 1000)]⟩,
    ⟨15, some 33, some (30, false), .p (.un .not), [.t 32]⟩,
    ⟨16, some 34, none, .p .pick, [.t 30, .c (.bool true), .t 33]⟩])
   (.cond (.t 34) (.seq (.reg 0 [⟨0, some 35, none, .p (.build [.nils, .nils] []), []⟩,
    ⟨1, none, none, .l (.store 8 2), [.t 8, .t 35]⟩,
    ⟨2, some 9, none, .p .mov, [.c (.bool false)]⟩])
   (.ret))
   (.skip)))
   (.seq (.reg 0 [⟨0, some 11, none, .p .mov, [.c (.nils)]⟩])
   (.seq (.seq (.reg 0 [⟨0, some 36, none, .p (.faddr 1), [.t 4]⟩,
    ⟨1, some 37, none, .l (.load 4 false 1), [.t 36]⟩,
    ⟨2, some 38, none, .p .len, [.t 37]⟩,
    ⟨3, some 39, none, .p .mov, [.c (.int .i64 0)]⟩])
   (.block 0 (.loop g746_0)))
   (.seq (.reg 0 [⟨0, some 58, none, .p (.faddr 0), [.t 4]⟩,
    ⟨1, some 59, none, .l (.load 4 false 1), [.t 58]⟩,
    ⟨2, some 60, none, .p .mov, [.t 11]⟩,
    ⟨3, some 61, none, .e .call [] [], [.f 674, .t 59, .t 60]⟩,
    ⟨4, some 62, none, .p (.extract 0), [.t 61]⟩,
    ⟨5, some 63, none, .p (.extract 1), [.t 61]⟩,
    ⟨6, none, none, .l (.store 8 2), [.t 8, .t 62]⟩,
    ⟨7, some 9, none, .p .mov, [.t 63]⟩])
   (.ret)))))),
  [.cellL 8 8 true 2, .tmp 9]⟩
/- loop.example/g00641/impl.GoodRelation -/
def g659_0 : GL.Code := .seq (.reg 0 [⟨0, some 25, none, .p (.bin .lss), [.t 24, .t 23]⟩])
   (.seq (.cond (.t 25) (.skip)
   (.exit 0))
   (.seq (.block 1 (.seq (.reg 0 [⟨0, some 26, none, .p .mov, [.t 24]⟩,
    ⟨1, some 27, none, .p (.idx 1), [.t 22, .t 24]⟩,
    ⟨2, some 28, none, .r (.load false 1) false, [.t 27]⟩,
    ⟨3, some 3, none, .p .mov, [.t 26]⟩,
    ⟨4, some 4, none, .p .mov, [.t 28]⟩])
   (.seq (.seq (.reg 0 [⟨0, some 29, none, .p .mov, [.t 4]⟩,
    ⟨1, some 30, none, .p .len, [.t 29]⟩,
    ⟨2, some 31, none, .p (.faddr 0), [.t 1]⟩,
    ⟨3, some 32, none, .l (.load 1 false 1), [.t 31]⟩,
    ⟨4, some 33, none, .p .len, [.t 32]⟩,
    ⟨5, some 34, none, .p (.bin .neq), [.t 30, .t 33]⟩,
    ⟨6, some 35, none, .p .mov, [.t 34]⟩,
    ⟨7, some 36, some (35, false), .p .mov, [.t 4]⟩,
    ⟨8, some 37, some (35, false), .e .call [] [], [.f 304, .t 36, .f 676]⟩,
    ⟨9, some 38, none, .p .pick, [.t 35, .c (.bool true), .t 37]⟩])
   (.cond (.t 38) (.seq (.reg 0 [⟨0, some 2, none, .p .mov, [.c (.bool false)]⟩])
   (.ret))
   (.skip)))
   (.seq (.reg 0 [⟨0, some 39, none, .p .mov, [.t 3]⟩,
    ⟨1, some 40, none, .p (.bin .gtr), [.t 39, .c (.int .i64 0)]⟩,
    ⟨2, some 41, none, .p .mov, [.t 40]⟩,
    ⟨3, some 42, some (41, true), .p (.faddr 1), [.t 1]⟩,
    ⟨4, some 43, some (41, true), .l (.load 1 false 1), [.t 42]⟩,
    ⟨5, some 44, some (41, true), .p .mov, [.t 3]⟩,
    ⟨6, some 45, some (41, true), .p (.bin .sub), [.t 44, .c (.int .i64 1)]⟩,
    ⟨7, some 46, some (41, true), .p (.idx 1), [.t 43, .t 45]⟩,
    ⟨8, some 47, some (41, true), .r (.load false 1) false, [.t 46]⟩,
    ⟨9, some 48, some (41, true), .p .mov, [.t 4]⟩,
    ⟨10, some 49, some (41, true), .e .call [] [], [.f 677, .t 47, .t 48]⟩,
    ⟨11, some 50, some (41, true), .p (.bin .geq), [.t 49, .c (.int .i64 0)]⟩,
    ⟨12, some 51, none, .p .pick, [.t 41, .t 50, .c (.bool false)]⟩])
   (.cond (.t 51) (.seq (.reg 0 [⟨0, some 2, none, .p .mov, [.c (.bool false)]⟩])
   (.ret))
   (.skip))))))
   (.reg 0 [⟨0, some 52, none, .p (.bin .add), [.t 24, .c (.int .i64 1)]⟩,
    ⟨1, some 24, none, .p .mov, [.t 52]⟩])))
def g659 : GL.Fn := ⟨.seq (.reg 0 [⟨0, some 1, none, .l (.box 1 2), [.t 0]⟩,
    ⟨1, some 2, none, .p .mov, [.c (.bool false)]⟩])
   (.seq (.seq (.reg 0 [⟨0, some 5, none, .p (.faddr 0), [.t 1]⟩,
    ⟨1, some 6, none, .l (.load 1 false 1), [.t 5]⟩,
    ⟨2, some 7, none, .p .len, [.t 6]⟩,
    ⟨3, some 8, none, .p (.bin .gtr), [.t 7, .c (.int .i64 6)]⟩,
    ⟨4, some 9, none, .p .mov, [.t 8]⟩,
    ⟨5, some 10, some (9, false), .p (.faddr 0), [.t 1]⟩,
    ⟨6, some 11, some (9, false), .l (.load 1 false 1), [.t 10]⟩,
    ⟨7, some 12, some (9, false), .e .call [] [], [.f 385, .t 11, .c (.int .i64 0), .c (.int .i64 20)]⟩,
    ⟨8, some 13, some (9, false), .p (.un .not), [.t 12]⟩,
    ⟨9, some 14, none, .p .pick, [.t 9, .c (.bool true), .t 13]⟩,
    ⟨10, some 15, none, .p .mov, [.t 14]⟩,
    ⟨11, some 16, some (15, false), .p (.faddr 1), [.t 1]⟩,
    ⟨12, some 17, some (15, false), .l (.load 1 false 1), [.t 16]⟩,
    ⟨13, some 18, some (15, false), .p .len, [.t 17]⟩,
    ⟨14, some 19, some (15, false), .p (.bin .gtr), [.t 18, .c (.int .i64 60)]⟩,
    ⟨15, some 20, none, .p .pick, [.t 15, .c (.bool true), .t 19]⟩])
   (.cond (.t 20) (.seq (.reg 0 [⟨0, some 2, none, .p .mov, [.c (.bool false)]⟩])
   (.ret))
   (.skip)))
   (.seq (.seq (.reg 0 [⟨0, some 21, none, .p (.faddr 1), [.t 1]⟩,
    ⟨1, some 22, none, .l (.load 1 false 1), [.t 21]⟩,
    ⟨2, some 23, none, .p .len, [.t 22]⟩,
    ⟨3, some 24, none, .p .mov, [.c (.int .i64 0)]⟩])
   (.block 0 (.loop g659_0)))
   (.seq (.reg 0 [⟨0, some 2, none, .p .mov, [.c (.bool true)]⟩])
   (.ret)))),
  [.tmp 2]⟩
/- loop.example/g00641/spec.GoodRelation -/
def g662_0 : GL.Code := .seq (.reg 0 [⟨0, some 25, none, .p (.bin .lss), [.t 24, .t 23]⟩])
   (.seq (.cond (.t 25) (.skip)
   (.exit 0))
   (.seq (.block 1 (.seq (.reg 0 [⟨0, some 26, none, .p .mov, [.t 24]⟩,
    ⟨1, some 27, none, .p (.idx 1), [.t 22, .t 24]⟩,
    ⟨2, some 28, none, .r (.load false 1) false, [.t 27]⟩,
    ⟨3, some 3, none, .p .mov, [.t 26]⟩,
    ⟨4, some 4, none, .p .mov, [.t 28]⟩])
   (.seq (.reg 0 [⟨0, some 29, none, .p .mov, [.t 4]⟩,
    ⟨1, some 30, none, .p .len, [.t 29]⟩,
    ⟨2, some 31, none, .p (.faddr 0), [.t 1]⟩,
    ⟨3, some 32, none, .l (.load 1 false 1), [.t 31]⟩,
    ⟨4, some 33, none, .p .len, [.t 32]⟩,
    ⟨5, some 34, none, .p (.bin .neq), [.t 30, .t 33]⟩,
    ⟨6, some 35, none, .p .mov, [.t 34]⟩,
    ⟨7, some 36, some (35, false), .p .mov, [.t 4]⟩,
    ⟨8, some 37, some (35, false), .e .call [] [], [.f 94, .t 36, .c (.int .i64 (-1000)), .c (.int .i64 1000)]⟩,
    ⟨9, some 38, some (35, false), .p (.un .not), [.t 37]⟩,
    ⟨10, some 39, none, .p .pick, [.t 35, .c (.bool true), .t 38]⟩,
    ⟨11, some 40, none, .p .mov, [.t 39]⟩,
    ⟨12, some 41, some (40, false), .p .mov, [.t 3]⟩,
    ⟨13, some 42, some (40, false), .p (.bin .gtr), [.t 41, .c (.int .i64 0)]⟩,
    ⟨14, some 43, some (40, false), .p .mov, [.t 42]⟩,
    ⟨15, some 44, some (43, true), .p (.faddr 1), [.t 1]⟩,
    ⟨16, some 45, some (43, true), .l (.load 1 false 1), [.t 44]⟩,
    ⟨17, some 46, some (43, true), .p .mov, [.t 3]⟩,
    ⟨18, some 47, some (43, true), .p (.bin .sub), [.t 46, .c (.int .i64 1)]⟩,
    ⟨19, some 48, some (43, true), .p (.idx 1), [.t 45, .t 47]⟩,
    ⟨20, some 49, some (43, true), .r (.load false 1) false, [.t 48]⟩,
    ⟨21, some 50, some (43, true), .p .mov, [.t 4]⟩,
    ⟨22, some 51, some (43, true), .e .call [] [], [.f 678, .t 49, .t 50]⟩,
    ⟨23, some 52, some (43, true), .p (.un .not), [.t 51]⟩,
    ⟨24, some 53, some (40, false), .p .pick, [.t 43, .t 52, .c (.bool false)]⟩,
    ⟨25, some 54, none, .p .pick, [.t 40, .c (.bool true), .t 53]⟩])
   (.cond (.t 54) (.seq (.reg 0 [⟨0, some 2, none, .p .mov, [.c (.bool false)]⟩])
   (.ret))
   (.skip)))))
   (.reg 0 [⟨0, some 55, none, .p (.bin .add), [.t 24, .c (.int .i64 1)]⟩,
    ⟨1, some 24, none, .p .mov, [.t 55]⟩])))
def g662 : GL.Fn := ⟨.seq (.reg 0 [⟨0, some 1, none, .l (.box 1 2), [.t 0]⟩,
    ⟨1, some 2, none, .p .mov, [.c (.bool false)]⟩])
   (.seq (.seq (.reg 0 [⟨0, some 5, none, .p (.faddr 0), [.t 1]⟩,
    ⟨1, some 6, none, .l (.load 1 false 1), [.t 5]⟩,
    ⟨2, some 7, none, .p .len, [.t 6]⟩,
    ⟨3, some 8, none, .p (.bin .gtr), [.t 7, .c (.int .i64 6)]⟩,
    ⟨4, some 9, none, .p .mov, [.t 8]⟩,
    ⟨5, some 10, some (9, false), .p (.faddr 0), [.t 1]⟩,
    ⟨6, some 11, some (9, false), .l (.load 1 false 1), [.t 10]⟩,
    ⟨7, some 12, some (9, false), .e .call [] [], [.f 337, .t 11, .c (.int .i64 0), .c (.int .i64 20)]⟩,
    ⟨8, some 13, some (9, false), .p (.un .not), [.t 12]⟩,
    ⟨9, some 14, none, .p .pick, [.t 9, .c (.bool true), .t 13]⟩,
    ⟨10, some 15, none, .p .mov, [.t 14]⟩,
    ⟨11, some 16, some (15, false), .p (.faddr 1), [.t 1]⟩,
    ⟨12, some 17, some (15, false), .l (.load 1 false 1), [.t 16]⟩,
    ⟨13, some 18, some (15, false), .p .len, [.t 17]⟩,
    ⟨14, some 19, some (15, false), .p (.bin .gtr), [.t 18, .c (.int .i64 60)]⟩,
    ⟨15, some 20, none, .p .pick, [.t 15, .c (.bool true), .t 19]⟩])
   (.cond (.t 20) (.seq (.reg 0 [⟨0, some 2, none, .p .mov, [.c (.bool false)]⟩])
   (.ret))
   (.skip)))
   (.seq (.seq (.reg 0 [⟨0, some 21, none, .p (.faddr 1), [.t 1]⟩,
    ⟨1, some 22, none, .l (.load 1 false 1), [.t 21]⟩,
    ⟨2, some 23, none, .p .len, [.t 22]⟩,
    ⟨3, some 24, none, .p .mov, [.c (.int .i64 0)]⟩])
   (.block 0 (.loop g662_0)))
   (.seq (.reg 0 [⟨0, some 2, none, .p .mov, [.c (.bool true)]⟩])
   (.ret)))),
  [.tmp 2]⟩
/- loop.example/g00641/impl.UnionOf -/
def g747 : GL.Fn := ⟨.seq (.reg 0 [⟨0, some 2, none, .l (.box 2 2), [.t 0]⟩,
    ⟨1, some 3, none, .l (.box 3 2), [.t 1]⟩,
    ⟨2, some 4, none, .l (.alloc 4 [.nils, .nils]), []⟩,
    ⟨3, some 5, none, .p .mov, [.c (.bool false)]⟩])
   (.seq (.seq (.reg 0 [⟨0, some 6, none, .l (.load 2 true 2), [.t 2]⟩,
    ⟨1, some 7, none, .l (.load 3 true 2), [.t 3]⟩,
    ⟨2, some 8, none, .e .call [] [], [.f 779, .t 6, .t 7]⟩,
    ⟨3, some 9, none, .p (.un .not), [.t 8]⟩])
   (.cond (.t 9) (.seq (.reg 0 [⟨0, some 10, none, .p (.build [.nils, .nils] []), []⟩,
    ⟨1, none, none, .l (.store 4 2), [.t 4, .t 10]⟩,
    ⟨2, some 5, none, .p .mov, [.c (.bool false)]⟩])
   (.ret))
   (.skip)))
   (.seq (.reg 0 [⟨0, some 11, none, .p (.faddr 0), [.t 2]⟩,
    ⟨1, some 12, none, .l (.load 2 false 1), [.t 11]⟩,
    ⟨2, some 13, none, .p (.faddr 1), [.t 2]⟩,
    ⟨3, some 14, none, .l (.load 2 false 1), [.t 13]⟩,
    ⟨4, some 15, none, .p (.faddr 1), [.t 3]⟩,
    ⟨5, some 16, none, .l (.load 3 false 1), [.t 15]⟩,
    ⟨6, some 17, none, .e (.new (.lit 1)) [] [], [.t 14, .t 16]⟩,
    ⟨7, some 18, none, .e .call [] [], [.f 783, .t 17]⟩,
    ⟨8, some 19, none, .e .call [] [], [.f 673, .t 12, .t 18]⟩,
    ⟨9, some 20, none, .p (.extract 0), [.t 19]⟩,
    ⟨10, some 21, none, .p (.extract 1), [.t 19]⟩,
    ⟨11, none, none, .l (.store 4 2), [.t 4, .t 20]⟩,
    ⟨12, some 5, none, .p .mov, [.t 21]⟩])
   (.ret))),
  [.cellL 4 4 true 2, .tmp 5]⟩
/- loop.example/g00641/spec.DrawUnionOf -/
def g748 : GL.Fn := ⟨.seq (.reg 0 [⟨0, some 2, none, .l (.alloc 2 [.nils, .nils]), []⟩,
    ⟨1, some 3, none, .l (.alloc 3 [.nils, .nils]), []⟩])
   (.seq (.reg 0 [⟨0, some 7, none, .p .mov, [.t 0]⟩,
    ⟨1, some 8, none, .p (.build [.nils, .int .i64 0, .int .u64 0] [(0, 1)]), [.t 7]⟩,
    ⟨2, some 9, none, .e (.new (.box 3)) [] [], [.t 8]⟩,
    ⟨3, some 4, none, .p .mov, [.t 9]⟩])
   (.seq (.reg 0 [⟨0, some 10, none, .p .mov, [.t 4]⟩,
    ⟨1, some 11, none, .e .call [] [], [.f 777, .t 10]⟩,
    ⟨2, some 5, none, .p .mov, [.t 11]⟩])
   (.seq (.reg 0 [⟨0, some 12, none, .p .mov, [.t 4]⟩,
    ⟨1, some 13, none, .p .mov, [.t 5]⟩,
    ⟨2, some 14, none, .e .call [] [], [.f 657, .t 12, .t 13]⟩,
    ⟨3, some 6, none, .l (.alloc 6 [.nils, .nils]), []⟩,
    ⟨4, none, none, .l (.store 6 2), [.t 6, .t 14]⟩])
   (.seq (.seq (.reg 0 [⟨0, some 15, none, .p .mov, [.t 4]⟩,
    ⟨1, some 16, none, .e .call [] [], [.f 92, .t 15, .c (.int .i64 12)]⟩])
   (.cond (.t 16) (.reg 0 [⟨0, some 17, none, .p .mov, [.t 4]⟩,
    ⟨1, some 18, none, .e .call [] [], [.f 777, .t 17]⟩,
    ⟨2, some 5, none, .p .mov, [.t 18]⟩])
   (.skip)))
   (.seq (.reg 0 [⟨0, some 19, none, .l (.load 6 true 2), [.t 6]⟩,
    ⟨1, some 20, none, .p .mov, [.t 4]⟩,
    ⟨2, some 21, none, .p .mov, [.t 5]⟩,
    ⟨3, some 22, none, .e .call [] [], [.f 657, .t 20, .t 21]⟩,
    ⟨4, none, none, .l (.store 2 2), [.t 2, .t 19]⟩,
    ⟨5, none, none, .l (.store 3 2), [.t 3, .t 22]⟩])
   (.ret)))))),
  [.cellL 2 2 true 2, .cellL 3 3 true 2]⟩
/- loop.example/g00641/spec.UnionOf -/
def g749 : GL.Fn := ⟨.seq (.reg 0 [⟨0, some 2, none, .l (.box 2 2), [.t 0]⟩,
    ⟨1, some 3, none, .l (.box 3 2), [.t 1]⟩,
    ⟨2, some 4, none, .l (.alloc 4 [.nils, .nils]), []⟩,
    ⟨3, some 5, none, .p .mov, [.c (.bool false)]⟩])
   (.seq (.seq (.reg 0 [⟨0, some 6, none, .l (.load 2 true 2), [.t 2]⟩,
    ⟨1, some 7, none, .l (.load 3 true 2), [.t 3]⟩,
    ⟨2, some 8, none, .e .call [] [], [.f 784, .t 6, .t 7]⟩,
    ⟨3, some 9, none, .p (.un .not), [.t 8]⟩])
   (.cond (.t 9) (.seq (.reg 0 [⟨0, some 10, none, .p (.build [.nils, .nils] []), []⟩,
    ⟨1, none, none, .l (.store 4 2), [.t 4, .t 10]⟩,
    ⟨2, some 5, none, .p .mov, [.c (.bool false)]⟩])
   (.ret))
   (.skip)))
   (.seq (.reg 0 [⟨0, some 11, none, .p (.faddr 0), [.t 2]⟩,
    ⟨1, some 12, none, .l (.load 2 false 1), [.t 11]⟩,
    ⟨2, some 13, none, .e (.new (.lit 1)) [] [], []⟩,
    ⟨3, some 14, none, .p (.faddr 1), [.t 2]⟩,
    ⟨4, some 15, none, .l (.load 2 false 1), [.t 14]⟩,
    ⟨5, some 16, none, .e (.append 1 24) [] [], [.t 13, .t 15]⟩,
    ⟨6, some 17, none, .p (.faddr 1), [.t 3]⟩,
    ⟨7, some 18, none, .l (.load 3 false 1), [.t 17]⟩,
    ⟨8, some 19, none, .e (.append 1 24) [] [], [.t 16, .t 18]⟩,
    ⟨9, some 20, none, .e .call [] [], [.f 674, .t 12, .t 19]⟩,
    ⟨10, some 21, none, .p (.extract 0), [.t 20]⟩,
    ⟨11, some 22, none, .p (.extract 1), [.t 20]⟩,
    ⟨12, none, none, .l (.store 4 2), [.t 4, .t 21]⟩,
    ⟨13, some 5, none, .p .mov, [.t 22]⟩])
   (.ret))),
  [.cellL 4 4 true 2, .tmp 5]⟩
/- loop.example/g00641/spec.WithoutOf -/
def g750_0 : GL.Code := .seq (.reg 0 [⟨0, some 18, none, .p (.bin .lss), [.t 17, .t 16]⟩])
   (.seq (.cond (.t 18) (.skip)
   (.exit 0))
   (.seq (.block 1 (.seq (.reg 0 [⟨0, some 19, none, .p (.idx 1), [.t 15, .t 17]⟩,
    ⟨1, some 20, none, .r (.load false 1) false, [.t 19]⟩,
    ⟨2, some 8, none, .p .mov, [.t 20]⟩])
   (.seq (.reg 0 [⟨0, some 21, none, .p (.faddr 1), [.t 3]⟩,
    ⟨1, some 22, none, .l (.load 3 false 1), [.t 21]⟩,
    ⟨2, some 23, none, .p .mov, [.t 8]⟩,
    ⟨3, some 24, none, .e .call [] [], [.f 785, .t 22, .t 23]⟩,
    ⟨4, some 25, none, .p (.un .not), [.t 24]⟩])
   (.cond (.t 25) (.reg 0 [⟨0, some 26, none, .p .mov, [.t 6]⟩,
    ⟨1, some 27, none, .p .mov, [.t 8]⟩,
    ⟨2, some 28, none, .e (.new (.lit 1)) [] [], [.t 27]⟩,
    ⟨3, some 29, none, .e (.append 1 24) [] [], [.t 26, .t 28]⟩,
    ⟨4, some 6, none, .p .mov, [.t 29]⟩])
   (.skip)))))
   (.reg 0 [⟨0, some 30, none, .p (.bin .add), [.t 17, .c (.int .i64 1)]⟩,
    ⟨1, some 17, none, .p .mov, [.t 30]⟩])))
def g750 : GL.Fn := ⟨.seq (.reg 0 [⟨0, some 2, none, .l (.box 2 2), [.t 0]⟩,
    ⟨1, some 3, none, .l (.box 3 2), [.t 1]⟩,
    ⟨2, some 4, none, .l (.alloc 4 [.nils, .nils]), []⟩,
    ⟨3, some 5, none, .p .mov, [.c (.bool false)]⟩])
   (.seq (.seq (.reg 0 [⟨0, some 9, none, .l (.load 2 true 2), [.t 2]⟩,
    ⟨1, some 10, none, .l (.load 3 true 2), [.t 3]⟩,
    ⟨2, some 11, none, .e .call [] [], [.f 784, .t 9, .t 10]⟩,
    ⟨3, some 12, none, .p (.un .not), [.t 11]⟩])
   (.cond (.t 12) (.seq (.reg 0 [⟨0, some 13, none, .p (.build [.nils, .nils] []), []⟩,
    ⟨1, none, none, .l (.store 4 2), [.t 4, .t 13]⟩,
    ⟨2, some 5, none, .p .mov, [.c (.bool false)]⟩])
   (.ret))
   (.skip)))
   (.seq (.reg 0 [⟨0, some 6, none, .p .mov, [.c (.nils)]⟩])
   (.seq (.seq (.reg 0 [⟨0, some 14, none, .p (.faddr 1), [.t 2]⟩,
    ⟨1, some 15, none, .l (.load 2 false 1), [.t 14]⟩,
    ⟨2, some 16, none, .p .len, [.t 15]⟩,
    ⟨3, some 17, none, .p .mov, [.c (.int .i64 0)]⟩])
   (.block 0 (.loop g750_0)))
   (.seq (.reg 0 [⟨0, some 31, none, .p (.faddr 0), [.t 2]⟩,
    ⟨1, some 32, none, .l (.load 2 false 1), [.t 31]⟩,
    ⟨2, some 33, none, .p .mov, [.t 6]⟩,
    ⟨3, some 34, none, .e .call [] [], [.f 674, .t 32, .t 33]⟩,
    ⟨4, some 35, none, .p (.extract 0), [.t 34]⟩,
    ⟨5, some 36, none, .p (.extract 1), [.t 34]⟩,
    ⟨6, none, none, .l (.store 4 2), [.t 4, .t 35]⟩,
    ⟨7, some 5, none, .p .mov, [.t 36]⟩])
   (.ret))))),
  [.cellL 4 4 true 2, .tmp 5]⟩
/- loop.example/g00641/spec.DrawProject -/
def g751_0 : GL.Code := .seq (.reg 0 [⟨0, some 20, none, .p (.bin .lss), [.t 19, .t 18]⟩])
   (.seq (.cond (.t 20) (.skip)
   (.exit 0))
   (.seq (.block 1 (.seq (.reg 0 [⟨0, some 21, none, .p (.idx 1), [.t 17, .t 19]⟩,
    ⟨1, some 22, none, .r (.load false 1) false, [.t 21]⟩,
    ⟨2, some 8, none, .p .mov, [.t 22]⟩])
   (.seq (.reg 0 [⟨0, some 23, none, .p .mov, [.t 4]⟩,
    ⟨1, some 24, none, .e .call [] [], [.f 92, .t 23, .c (.int .i64 2)]⟩])
   (.cond (.t 24) (.reg 0 [⟨0, some 25, none, .p .mov, [.t 6]⟩,
    ⟨1, some 26, none, .p .mov, [.t 8]⟩,
    ⟨2, some 27, none, .e (.new (.lit 1)) [] [], [.t 26]⟩,
    ⟨3, some 28, none, .e (.append 1 8) [] [], [.t 25, .t 27]⟩,
    ⟨4, some 6, none, .p .mov, [.t 28]⟩])
   (.skip)))))
   (.reg 0 [⟨0, some 29, none, .p (.bin .add), [.t 19, .c (.int .i64 1)]⟩,
    ⟨1, some 19, none, .p .mov, [.t 29]⟩])))
def g751 : GL.Fn := ⟨.seq (.reg 0 [⟨0, some 2, none, .l (.alloc 2 [.nils, .nils]), []⟩,
    ⟨1, some 3, none, .p .mov, [.c (.nils)]⟩])
   (.seq (.reg 0 [⟨0, some 9, none, .p .mov, [.t 0]⟩,
    ⟨1, some 10, none, .p (.build [.nils, .int .i64 0, .int .u64 0] [(0, 1)]), [.t 9]⟩,
    ⟨2, some 11, none, .e (.new (.box 3)) [] [], [.t 10]⟩,
    ⟨3, some 4, none, .p .mov, [.t 11]⟩])
   (.seq (.reg 0 [⟨0, some 12, none, .p .mov, [.t 4]⟩,
    ⟨1, some 13, none, .p .mov, [.t 4]⟩,
    ⟨2, some 14, none, .e .call [] [], [.f 777, .t 13]⟩,
    ⟨3, some 15, none, .e .call [] [], [.f 657, .t 12, .t 14]⟩,
    ⟨4, some 5, none, .l (.alloc 5 [.nils, .nils]), []⟩,
    ⟨5, none, none, .l (.store 5 2), [.t 5, .t 15]⟩])
   (.seq (.reg 0 [⟨0, some 6, none, .p .mov, [.c (.nils)]⟩])
   (.seq (.seq (.reg 0 [⟨0, some 16, none, .p (.faddr 0), [.t 5]⟩,
    ⟨1, some 17, none, .l (.load 5 false 1), [.t 16]⟩,
    ⟨2, some 18, none, .p .len, [.t 17]⟩,
    ⟨3, some 19, none, .p .mov, [.c (.int .i64 0)]⟩])
   (.block 0 (.loop g751_0)))
   (.seq (.seq (.reg 0 [⟨0, some 30, none, .p .mov, [.t 4]⟩,
    ⟨1, some 31, none, .e .call [] [], [.f 92, .t 30, .c (.int .i64 12)]⟩])
   (.cond (.t 31) (.reg 0 [⟨0, some 32, none, .p .mov, [.t 6]⟩,
    ⟨1, some 33, none, .p .mov, [.t 4]⟩,
    ⟨2, some 34, none, .e .call [] [], [.f 91, .t 33, .c (.int .i64 22)]⟩,
    ⟨3, some 35, none, .e (.new (.lit 1)) [] [], [.t 34]⟩,
    ⟨4, some 36, none, .e (.append 1 8) [] [], [.t 32, .t 35]⟩,
    ⟨5, some 6, none, .p .mov, [.t 36]⟩])
   (.skip)))
   (.seq (.reg 0 [⟨0, some 37, none, .l (.load 5 true 2), [.t 5]⟩,
    ⟨1, some 38, none, .p .mov, [.t 6]⟩,
    ⟨2, none, none, .l (.store 2 2), [.t 2, .t 37]⟩,
    ⟨3, some 3, none, .p .mov, [.t 38]⟩])
   (.ret))))))),
  [.cellL 2 2 true 2, .tmp 3]⟩
/- loop.example/g00641/spec.Project -/
def g752_0 : GL.Code := .seq (.reg 0 [⟨0, some 24, none, .p (.bin .lss), [.t 23, .t 22]⟩])
   (.seq (.cond (.t 24) (.skip)
   (.exit 0))
   (.seq (.block 1 (.seq (.reg 0 [⟨0, some 25, none, .p (.idx 1), [.t 21, .t 23]⟩,
    ⟨1, some 26, none, .r (.load false 1) false, [.t 25]⟩,
    ⟨2, some 8, none, .p .mov, [.t 26]⟩])
   (.reg 0 [⟨0, some 27, none, .p .mov, [.t 6]⟩,
    ⟨1, some 28, none, .p (.faddr 0), [.t 2]⟩,
    ⟨2, some 29, none, .l (.load 2 false 1), [.t 28]⟩,
    ⟨3, some 30, none, .p .mov, [.t 8]⟩,
    ⟨4, some 31, none, .p .mov, [.t 1]⟩,
    ⟨5, some 32, none, .e .call [] [], [.f 679, .t 29, .t 30, .t 31]⟩,
    ⟨6, some 33, none, .e (.new (.lit 1)) [] [], [.t 32]⟩,
    ⟨7, some 34, none, .e (.append 1 24) [] [], [.t 27, .t 33]⟩,
    ⟨8, some 6, none, .p .mov, [.t 34]⟩])))
   (.reg 0 [⟨0, some 35, none, .p (.bin .add), [.t 23, .c (.int .i64 1)]⟩,
    ⟨1, some 23, none, .p .mov, [.t 35]⟩])))
def g752 : GL.Fn := ⟨.seq (.reg 0 [⟨0, some 2, none, .l (.box 2 2), [.t 0]⟩,
    ⟨1, some 4, none, .l (.alloc 4 [.nils, .nils]), []⟩,
    ⟨2, some 5, none, .p .mov, [.c (.bool false)]⟩])
   (.seq (.seq (.reg 0 [⟨0, some 9, none, .l (.load 2 true 2), [.t 2]⟩,
    ⟨1, some 10, none, .e .call [] [], [.f 662, .t 9]⟩,
    ⟨2, some 11, none, .p (.un .not), [.t 10]⟩,
    ⟨3, some 12, none, .p .mov, [.t 11]⟩,
    ⟨4, some 13, some (12, false), .p (.faddr 0), [.t 2]⟩,
    ⟨5, some 14, some (12, false), .l (.load 2 false 1), [.t 13]⟩,
    ⟨6, some 15, some (12, false), .p .mov, [.t 1]⟩,
    ⟨7, some 16, some (12, false), .e .call [] [], [.f 663, .t 14, .t 15]⟩,
    ⟨8, some 17, some (12, false), .p (.un .not), [.t 16]⟩,
    ⟨9, some 18, none, .p .pick, [.t 12, .c (.bool true), .t 17]⟩])
   (.cond (.t 18) (.seq (.reg 0 [⟨0, some 19, none, .p (.build [.nils, .nils] []), []⟩,
    ⟨1, none, none, .l (.store 4 2), [.t 4, .t 19]⟩,
    ⟨2, some 5, none, .p .mov, [.c (.bool false)]⟩])
   (.ret))
   (.skip)))
   (.seq (.reg 0 [⟨0, some 6, none, .p .mov, [.c (.nils)]⟩])
   (.seq (.seq (.reg 0 [⟨0, some 20, none, .p (.faddr 1), [.t 2]⟩,
    ⟨1, some 21, none, .l (.load 2 false 1), [.t 20]⟩,
    ⟨2, some 22, none, .p .len, [.t 21]⟩,
    ⟨3, some 23, none, .p .mov, [.c (.int .i64 0)]⟩])
   (.block 0 (.loop g752_0)))
   (.seq (.reg 0 [⟨0, some 36, none, .p .mov, [.t 1]⟩,
    ⟨1, some 37, none, .p .mov, [.t 6]⟩,
    ⟨2, some 38, none, .e .call [] [], [.f 674, .t 36, .t 37]⟩,
    ⟨3, some 39, none, .p (.extract 0), [.t 38]⟩,
    ⟨4, some 40, none, .p (.extract 1), [.t 38]⟩,
    ⟨5, none, none, .l (.store 4 2), [.t 4, .t 39]⟩,
    ⟨6, some 5, none, .p .mov, [.t 40]⟩])
   (.ret))))),
  [.cellL 4 4 true 2, .tmp 5]⟩
/- loop.example/g00641/spec.DrawRename -/
def g753 : GL.Fn := ⟨.seq (.reg 0 [⟨0, some 2, none, .l (.alloc 2 [.nils, .nils]), []⟩,
    ⟨1, some 3, none, .p .mov, [.c (.int .i64 0)]⟩,
    ⟨2, some 4, none, .p .mov, [.c (.int .i64 0)]⟩])
   (.seq (.reg 0 [⟨0, some 6, none, .p .mov, [.t 0]⟩,
    ⟨1, some 7, none, .p (.build [.nils, .int .i64 0, .int .u64 0] [(0, 1)]), [.t 6]⟩,
    ⟨2, some 8, none, .e (.new (.box 3)) [] [], [.t 7]⟩,
    ⟨3, some 5, none, .p .mov, [.t 8]⟩])
   (.seq (.reg 0 [⟨0, some 9, none, .p .mov, [.t 5]⟩,
    ⟨1, some 10, none, .p .mov, [.t 5]⟩,
    ⟨2, some 11, none, .e .call [] [], [.f 777, .t 10]⟩,
    ⟨3, some 12, none, .e .call [] [], [.f 657, .t 9, .t 11]⟩,
    ⟨4, some 13, none, .p .mov, [.t 5]⟩,
    ⟨5, some 14, none, .e .call [] [], [.f 91, .t 13, .c (.int .i64 3)]⟩,
    ⟨6, some 15, none, .p .mov, [.t 5]⟩,
    ⟨7, some 16, none, .e (.new (.lit 1)) [] [], [.c (.int .i64 0), .c (.int .i64 1), .c (.int .i64 3), .c (.int .i64 5), .c (.int .i64 20), .c (.int .i64 21)]⟩,
    ⟨8, some 17, none, .e .call [] [], [.f 93, .t 15, .t 16]⟩,
    ⟨9, none, none, .l (.store 2 2), [.t 2, .t 12]⟩,
    ⟨10, some 3, none, .p .mov, [.t 14]⟩,
    ⟨11, some 4, none, .p .mov, [.t 17]⟩])
   (.ret))),
  [.cellL 2 2 true 2, .tmp 3, .tmp 4]⟩
/- loop.example/g00641/impl.Rename -/
def g754_0 : GL.Code := .seq (.reg 0 [⟨0, some 52, none, .p (.bin .lss), [.t 51, .t 50]⟩])
   (.seq (.cond (.t 52) (.skip)
   (.exit 0))
   (.seq (.block 1 (.seq (.reg 0 [⟨0, some 53, none, .p (.idx 1), [.t 49, .t 51]⟩,
    ⟨1, some 54, none, .r (.load false 1) false, [.t 53]⟩,
    ⟨2, some 12, none, .p .mov, [.t 54]⟩])
   (.reg 0 [⟨0, some 55, none, .p .mov, [.t 10]⟩,
    ⟨1, some 56, none, .p .mov, [.t 8]⟩,
    ⟨2, some 57, none, .p .mov, [.t 12]⟩,
    ⟨3, some 58, none, .p .mov, [.t 9]⟩,
    ⟨4, some 59, none, .e .call [] [], [.f 661, .t 56, .t 57, .t 58]⟩,
    ⟨5, some 60, none, .e (.new (.lit 1)) [] [], [.t 59]⟩,
    ⟨6, some 61, none, .e (.append 1 24) [] [], [.t 55, .t 60]⟩,
    ⟨7, some 10, none, .p .mov, [.t 61]⟩])))
   (.reg 0 [⟨0, some 62, none, .p (.bin .add), [.t 51, .c (.int .i64 1)]⟩,
    ⟨1, some 51, none, .p .mov, [.t 62]⟩])))
def g754 : GL.Fn := ⟨.seq (.reg 0 [⟨0, some 3, none, .l (.box 3 2), [.t 0]⟩,
    ⟨1, some 6, none, .l (.alloc 6 [.nils, .nils]), []⟩,
    ⟨2, some 7, none, .p .mov, [.c (.bool false)]⟩])
   (.seq (.seq (.reg 0 [⟨0, some 13, none, .l (.load 3 true 2), [.t 3]⟩,
    ⟨1, some 14, none, .e .call [] [], [.f 659, .t 13]⟩,
    ⟨2, some 15, none, .p (.un .not), [.t 14]⟩,
    ⟨3, some 16, none, .p .mov, [.t 15]⟩,
    ⟨4, some 17, some (16, false), .p (.faddr 0), [.t 3]⟩,
    ⟨5, some 18, some (16, false), .l (.load 3 false 1), [.t 17]⟩,
    ⟨6, some 19, some (16, false), .p .mov, [.t 1]⟩,
    ⟨7, some 20, some (16, false), .e .call [] [], [.f 301, .t 18, .t 19]⟩,
    ⟨8, some 21, some (16, false), .p (.un .not), [.t 20]⟩,
    ⟨9, some 22, none, .p .pick, [.t 16, .c (.bool true), .t 21]⟩,
    ⟨10, some 23, none, .p .mov, [.t 22]⟩,
    ⟨11, some 24, some (23, false), .p (.faddr 0), [.t 3]⟩,
    ⟨12, some 25, some (23, false), .l (.load 3 false 1), [.t 24]⟩,
    ⟨13, some 26, some (23, false), .p .mov, [.t 2]⟩,
    ⟨14, some 27, some (23, false), .e .call [] [], [.f 301, .t 25, .t 26]⟩,
    ⟨15, some 28, none, .p .pick, [.t 23, .c (.bool true), .t 27]⟩,
    ⟨16, some 29, none, .p .mov, [.t 28]⟩,
    ⟨17, some 30, some (29, false), .p .mov, [.t 2]⟩,
    ⟨18, some 31, some (29, false), .e .call [] [], [.f 107, .t 30, .c (.int .i64 0), .c (.int .i64 20)]⟩,
    ⟨19, some 32, some (29, false), .p (.un .not), [.t 31]⟩,
    ⟨20, some 33, none, .p .pick, [.t 29, .c (.bool true), .t 32]⟩])
   (.cond (.t 33) (.seq (.reg 0 [⟨0, some 34, none, .p (.build [.nils, .nils] []), []⟩,
    ⟨1, none, none, .l (.store 6 2), [.t 6, .t 34]⟩,
    ⟨2, some 7, none, .p .mov, [.c (.bool false)]⟩])
   (.ret))
   (.skip)))
   (.seq (.reg 0 [⟨0, some 35, none, .p (.faddr 0), [.t 3]⟩,
    ⟨1, some 36, none, .l (.load 3 false 1), [.t 35]⟩,
    ⟨2, some 37, none, .e .call [] [], [.f 389, .t 36]⟩,
    ⟨3, some 8, none, .p .mov, [.t 37]⟩])
   (.seq (.reg 0 [⟨0, some 38, none, .p .mov, [.t 8]⟩,
    ⟨1, some 39, none, .p .mov, [.t 8]⟩,
    ⟨2, some 40, none, .p .mov, [.t 1]⟩,
    ⟨3, some 41, none, .e .call [] [], [.f 390, .t 39, .t 40]⟩,
    ⟨4, some 42, none, .p .mov, [.t 2]⟩,
    ⟨5, some 43, none, .p (.idx 1), [.t 38, .t 41]⟩,
    ⟨6, none, none, .e (.store 1) [] [], [.t 43, .t 42]⟩])
   (.seq (.reg 0 [⟨0, some 44, none, .p .mov, [.t 8]⟩,
    ⟨1, some 45, none, .e .call [] [], [.f 406, .t 44]⟩,
    ⟨2, some 46, none, .e .call [] [], [.f 407, .t 45]⟩,
    ⟨3, some 47, none, .e (.new (.lit 1)) [] [], []⟩,
    ⟨4, some 9, none, .p .mov, [.t 46]⟩,
    ⟨5, some 10, none, .p .mov, [.t 47]⟩])
   (.seq (.seq (.reg 0 [⟨0, some 48, none, .p (.faddr 1), [.t 3]⟩,
    ⟨1, some 49, none, .l (.load 3 false 1), [.t 48]⟩,
    ⟨2, some 50, none, .p .len, [.t 49]⟩,
    ⟨3, some 51, none, .p .mov, [.c (.int .i64 0)]⟩])
   (.block 0 (.loop g754_0)))
   (.seq (.reg 0 [⟨0, some 63, none, .p .mov, [.t 9]⟩,
    ⟨1, some 64, none, .p .mov, [.t 10]⟩,
    ⟨2, some 65, none, .e .call [] [], [.f 673, .t 63, .t 64]⟩,
    ⟨3, some 66, none, .p (.extract 0), [.t 65]⟩,
    ⟨4, some 67, none, .p (.extract 1), [.t 65]⟩,
    ⟨5, none, none, .l (.store 6 2), [.t 6, .t 66]⟩,
    ⟨6, some 7, none, .p .mov, [.t 67]⟩])
   (.ret))))))),
  [.cellL 6 6 true 2, .tmp 7]⟩
/- loop.example/g00641/spec.Rename -/
def g755_0 : GL.Code := .seq (.reg 0 [⟨0, some 44, none, .p (.bin .lss), [.t 43, .t 42]⟩])
   (.seq (.cond (.t 44) (.skip)
   (.exit 0))
   (.seq (.block 1 (.seq (.reg 0 [⟨0, some 45, none, .p (.idx 1), [.t 41, .t 43]⟩,
    ⟨1, some 46, none, .r (.load false 1) false, [.t 45]⟩,
    ⟨2, some 11, none, .p .mov, [.t 46]⟩])
   (.seq (.reg 0 [⟨0, some 47, none, .p .mov, [.t 11]⟩,
    ⟨1, some 48, none, .p .mov, [.t 1]⟩,
    ⟨2, some 49, none, .p (.bin .neq), [.t 47, .t 48]⟩])
   (.cond (.t 49) (.reg 0 [⟨0, some 50, none, .p .mov, [.t 8]⟩,
    ⟨1, some 51, none, .p .mov, [.t 11]⟩,
    ⟨2, some 52, none, .e (.new (.lit 1)) [] [], [.t 51]⟩,
    ⟨3, some 53, none, .e (.append 1 8) [] [], [.t 50, .t 52]⟩,
    ⟨4, some 8, none, .p .mov, [.t 53]⟩])
   (.skip)))))
   (.reg 0 [⟨0, some 54, none, .p (.bin .add), [.t 43, .c (.int .i64 1)]⟩,
    ⟨1, some 43, none, .p .mov, [.t 54]⟩])))
def g755_1 : GL.Code := .seq (.reg 0 [⟨0, some 61, none, .p (.bin .lss), [.t 60, .t 59]⟩])
   (.seq (.cond (.t 61) (.skip)
   (.exit 2))
   (.seq (.block 3 (.seq (.reg 0 [⟨0, some 62, none, .p (.idx 1), [.t 58, .t 60]⟩,
    ⟨1, some 63, none, .r (.load false 1) false, [.t 62]⟩,
    ⟨2, some 13, none, .p .mov, [.t 63]⟩])
   (.seq (.seq (.reg 0 [⟨0, some 64, none, .p .mov, [.t 13]⟩,
    ⟨1, some 65, none, .p .mov, [.t 2]⟩,
    ⟨2, some 66, none, .p (.bin .eql), [.t 64, .t 65]⟩])
   (.cond (.t 66) (.reg 0 [⟨0, some 67, none, .p .mov, [.t 1]⟩,
    ⟨1, some 13, none, .p .mov, [.t 67]⟩])
   (.skip)))
   (.reg 0 [⟨0, some 68, none, .p .mov, [.t 9]⟩,
    ⟨1, some 69, none, .p .mov, [.t 13]⟩,
    ⟨2, some 70, none, .e (.new (.lit 1)) [] [], [.t 69]⟩,
    ⟨3, some 71, none, .e (.append 1 8) [] [], [.t 68, .t 70]⟩,
    ⟨4, some 9, none, .p .mov, [.t 71]⟩]))))
   (.reg 0 [⟨0, some 72, none, .p (.bin .add), [.t 60, .c (.int .i64 1)]⟩,
    ⟨1, some 60, none, .p .mov, [.t 72]⟩])))
def g755_2 : GL.Code := .seq (.reg 0 [⟨0, some 77, none, .p (.bin .lss), [.t 76, .t 75]⟩])
   (.seq (.cond (.t 77) (.skip)
   (.exit 4))
   (.seq (.block 5 (.seq (.reg 0 [⟨0, some 78, none, .p (.idx 1), [.t 74, .t 76]⟩,
    ⟨1, some 79, none, .r (.load false 1) false, [.t 78]⟩,
    ⟨2, some 16, none, .p .mov, [.t 79]⟩])
   (.reg 0 [⟨0, some 80, none, .p .mov, [.t 14]⟩,
    ⟨1, some 81, none, .p (.faddr 0), [.t 3]⟩,
    ⟨2, some 82, none, .l (.load 3 false 1), [.t 81]⟩,
    ⟨3, some 83, none, .p .mov, [.t 16]⟩,
    ⟨4, some 84, none, .p .mov, [.t 9]⟩,
    ⟨5, some 85, none, .e .call [] [], [.f 679, .t 82, .t 83, .t 84]⟩,
    ⟨6, some 86, none, .e (.new (.lit 1)) [] [], [.t 85]⟩,
    ⟨7, some 87, none, .e (.append 1 24) [] [], [.t 80, .t 86]⟩,
    ⟨8, some 14, none, .p .mov, [.t 87]⟩])))
   (.reg 0 [⟨0, some 88, none, .p (.bin .add), [.t 76, .c (.int .i64 1)]⟩,
    ⟨1, some 76, none, .p .mov, [.t 88]⟩])))
def g755 : GL.Fn := ⟨.seq (.reg 0 [⟨0, some 3, none, .l (.box 3 2), [.t 0]⟩,
    ⟨1, some 6, none, .l (.alloc 6 [.nils, .nils]), []⟩,
    ⟨2, some 7, none, .p .mov, [.c (.bool false)]⟩])
   (.seq (.seq (.reg 0 [⟨0, some 17, none, .l (.load 3 true 2), [.t 3]⟩,
    ⟨1, some 18, none, .e .call [] [], [.f 662, .t 17]⟩,
    ⟨2, some 19, none, .p (.un .not), [.t 18]⟩,
    ⟨3, some 20, none, .p .mov, [.t 19]⟩,
    ⟨4, some 21, some (20, false), .p (.faddr 0), [.t 3]⟩,
    ⟨5, some 22, some (20, false), .l (.load 3 false 1), [.t 21]⟩,
    ⟨6, some 23, some (20, false), .p .mov, [.t 1]⟩,
    ⟨7, some 24, some (20, false), .e .call [] [], [.f 606, .t 22, .t 23]⟩,
    ⟨8, some 25, some (20, false), .p (.bin .lss), [.t 24, .c (.int .i64 0)]⟩,
    ⟨9, some 26, none, .p .pick, [.t 20, .c (.bool true), .t 25]⟩,
    ⟨10, some 27, none, .p .mov, [.t 26]⟩,
    ⟨11, some 28, some (27, false), .p (.faddr 0), [.t 3]⟩,
    ⟨12, some 29, some (27, false), .l (.load 3 false 1), [.t 28]⟩,
    ⟨13, some 30, some (27, false), .p .mov, [.t 2]⟩,
    ⟨14, some 31, some (27, false), .e .call [] [], [.f 606, .t 29, .t 30]⟩,
    ⟨15, some 32, some (27, false), .p (.bin .geq), [.t 31, .c (.int .i64 0)]⟩,
    ⟨16, some 33, none, .p .pick, [.t 27, .c (.bool true), .t 32]⟩,
    ⟨17, some 34, none, .p .mov, [.t 33]⟩,
    ⟨18, some 35, some (34, false), .p .mov, [.t 2]⟩,
    ⟨19, some 36, some (34, false), .e .call [] [], [.f 98, .t 35, .c (.int .i64 0), .c (.int .i64 20)]⟩,
    ⟨20, some 37, some (34, false), .p (.un .not), [.t 36]⟩,
    ⟨21, some 38, none, .p .pick, [.t 34, .c (.bool true), .t 37]⟩])
   (.cond (.t 38) (.seq (.reg 0 [⟨0, some 39, none, .p (.build [.nils, .nils] []), []⟩,
    ⟨1, none, none, .l (.store 6 2), [.t 6, .t 39]⟩,
    ⟨2, some 7, none, .p .mov, [.c (.bool false)]⟩])
   (.ret))
   (.skip)))
   (.seq (.reg 0 [⟨0, some 8, none, .p .mov, [.c (.nils)]⟩,
    ⟨1, some 9, none, .p .mov, [.c (.nils)]⟩])
   (.seq (.seq (.reg 0 [⟨0, some 40, none, .p (.faddr 0), [.t 3]⟩,
    ⟨1, some 41, none, .l (.load 3 false 1), [.t 40]⟩,
    ⟨2, some 42, none, .p .len, [.t 41]⟩,
    ⟨3, some 43, none, .p .mov, [.c (.int .i64 0)]⟩])
   (.block 0 (.loop g755_0)))
   (.seq (.reg 0 [⟨0, some 55, none, .p .mov, [.t 8]⟩,
    ⟨1, some 56, none, .p .mov, [.t 2]⟩,
    ⟨2, some 57, none, .e .call [] [], [.f 410, .t 55, .t 56]⟩,
    ⟨3, some 8, none, .p .mov, [.t 57]⟩])
   (.seq (.seq (.reg 0 [⟨0, some 58, none, .p .mov, [.t 8]⟩,
    ⟨1, some 59, none, .p .len, [.t 58]⟩,
    ⟨2, some 60, none, .p .mov, [.c (.int .i64 0)]⟩])
   (.block 2 (.loop g755_1)))
   (.seq (.reg 0 [⟨0, some 14, none, .p .mov, [.c (.nils)]⟩])
   (.seq (.seq (.reg 0 [⟨0, some 73, none, .p (.faddr 1), [.t 3]⟩,
    ⟨1, some 74, none, .l (.load 3 false 1), [.t 73]⟩,
    ⟨2, some 75, none, .p .len, [.t 74]⟩,
    ⟨3, some 76, none, .p .mov, [.c (.int .i64 0)]⟩])
   (.block 4 (.loop g755_2)))
   (.seq (.reg 0 [⟨0, some 89, none, .p .mov, [.t 8]⟩,
    ⟨1, some 90, none, .p .mov, [.t 14]⟩,
    ⟨2, some 91, none, .e .call [] [], [.f 674, .t 89, .t 90]⟩,
    ⟨3, some 92, none, .p (.extract 0), [.t 91]⟩,
    ⟨4, some 93, none, .p (.extract 1), [.t 91]⟩,
    ⟨5, none, none, .l (.store 6 2), [.t 6, .t 92]⟩,
    ⟨6, some 7, none, .p .mov, [.t 93]⟩])
   (.ret))))))))),
  [.cellL 6 6 true 2, .tmp 7]⟩
/- (*loop.example/g00641/spec.l1Cur).relation -/
def g657_0 : GL.Code := .seq (.reg 0 [⟨0, some 19, none, .p (.bin .lss), [.t 18, .t 17]⟩])
   (.seq (.cond (.t 19) (.skip)
   (.exit 2))
   (.seq (.block 3 (.reg 0 [⟨0, some 20, none, .p .mov, [.t 7]⟩,
    ⟨1, some 21, none, .p .mov, [.t 0]⟩,
    ⟨2, some 22, none, .e .call [] [], [.f 91, .t 21, .c (.int .i64 3)]⟩,
    ⟨3, some 23, none, .e (.new (.lit 1)) [] [], [.t 22]⟩,
    ⟨4, some 24, none, .e (.append 1 8) [] [], [.t 20, .t 23]⟩,
    ⟨5, some 7, none, .p .mov, [.t 24]⟩]))
   (.reg 0 [⟨0, some 25, none, .p (.bin .add), [.t 18, .c (.int .i64 1)]⟩,
    ⟨1, some 18, none, .p .mov, [.t 25]⟩])))
def g657_1 : GL.Code := .seq (.seq (.reg 0 [⟨0, some 12, none, .p .mov, [.t 6]⟩,
    ⟨1, some 13, none, .p (.bin .gtr), [.t 12, .c (.int .i64 0)]⟩])
   (.cond (.t 13) (.skip)
   (.exit 0)))
   (.seq (.block 1 (.seq (.reg 0 [⟨0, some 7, none, .p .mov, [.c (.nils)]⟩])
   (.seq (.seq (.reg 0 [⟨0, some 16, none, .p .mov, [.t 1]⟩,
    ⟨1, some 17, none, .p .len, [.t 16]⟩,
    ⟨2, some 18, none, .p .mov, [.c (.int .i64 0)]⟩])
   (.block 2 (.loop g657_0)))
   (.reg 0 [⟨0, some 26, none, .p .mov, [.t 5]⟩,
    ⟨1, some 27, none, .p .mov, [.t 7]⟩,
    ⟨2, some 28, none, .e (.new (.lit 1)) [] [], [.t 27]⟩,
    ⟨3, some 29, none, .e (.append 1 24) [] [], [.t 26, .t 28]⟩,
    ⟨4, some 5, none, .p .mov, [.t 29]⟩]))))
   (.reg 0 [⟨0, some 14, none, .p .mov, [.t 6]⟩,
    ⟨1, some 15, none, .p (.bin .sub), [.t 14, .c (.int .i64 1)]⟩,
    ⟨2, some 6, none, .p .mov, [.t 15]⟩]))
def g657 : GL.Fn := ⟨.seq (.reg 0 [⟨0, some 4, none, .l (.alloc 4 [.nils, .nils]), []⟩])
   (.seq (.reg 0 [⟨0, some 5, none, .p .mov, [.c (.nils)]⟩])
   (.seq (.seq (.reg 0 [⟨0, some 10, none, .p .mov, [.t 0]⟩,
    ⟨1, some 11, none, .e .call [] [], [.f 91, .t 10, .c (.int .i64 8)]⟩,
    ⟨2, some 6, none, .p .mov, [.t 11]⟩])
   (.block 0 (.loop g657_1)))
   (.seq (.reg 0 [⟨0, some 31, none, .p .mov, [.t 1]⟩,
    ⟨1, some 32, none, .p .mov, [.t 5]⟩,
    ⟨2, some 33, none, .e .call [] [], [.f 674, .t 31, .t 32]⟩,
    ⟨3, some 30, none, .p .mov, [.t 33]⟩,
    ⟨4, some 34, none, .p (.extract 0), [.t 30]⟩,
    ⟨5, some 35, none, .p (.extract 1), [.t 30]⟩,
    ⟨6, some 8, none, .l (.alloc 8 [.nils, .nils]), []⟩,
    ⟨7, none, none, .l (.store 8 2), [.t 8, .t 34]⟩,
    ⟨8, some 9, none, .p .mov, [.t 35]⟩])
   (.seq (.seq (.reg 0 [⟨0, some 36, none, .p (.faddr 1), [.t 8]⟩,
    ⟨1, some 37, none, .l (.load 8 false 1), [.t 36]⟩,
    ⟨2, some 38, none, .p .len, [.t 37]⟩,
    ⟨3, some 39, none, .p (.bin .gtr), [.t 38, .c (.int .i64 0)]⟩,
    ⟨4, some 40, none, .p .mov, [.t 39]⟩,
    ⟨5, some 41, some (40, true), .p .mov, [.t 0]⟩,
    ⟨6, some 42, some (40, true), .e .call [] [], [.f 92, .t 41, .c (.int .i64 30)]⟩,
    ⟨7, some 43, none, .p .pick, [.t 40, .t 42, .c (.bool false)]⟩])
   (.cond (.t 43) (.reg 0 [⟨0, some 44, none, .p (.faddr 1), [.t 8]⟩,
    ⟨1, some 45, none, .l (.load 8 false 1), [.t 44]⟩,
    ⟨2, some 46, none, .p (.faddr 1), [.t 8]⟩,
    ⟨3, some 47, none, .l (.load 8 false 1), [.t 46]⟩,
    ⟨4, some 48, none, .p (.idx 1), [.t 47, .c (.int .i64 0)]⟩,
    ⟨5, some 49, none, .r (.load false 1) false, [.t 48]⟩,
    ⟨6, some 50, none, .e (.new (.lit 1)) [] [], [.t 49]⟩,
    ⟨7, some 51, none, .e (.append 1 24) [] [], [.t 45, .t 50]⟩,
    ⟨8, some 52, none, .p (.faddr 1), [.t 8]⟩,
    ⟨9, none, none, .l (.store 8 1), [.t 52, .t 51]⟩])
   (.skip)))
   (.seq (.reg 0 [⟨0, some 53, none, .l (.load 8 true 2), [.t 8]⟩,
    ⟨1, none, none, .l (.store 4 2), [.t 4, .t 53]⟩])
   (.ret)))))),
  [.cellL 4 4 true 2]⟩
/- (*loop.example/g00641/spec.l1Cur).names -/
def g777 : GL.Fn := ⟨.seq (.reg 0 [⟨0, some 2, none, .p .mov, [.c (.nils)]⟩])
   (.seq (.reg 0 [⟨0, some 3, none, .e (.new (.lit 1)) [] [], [.c (.int .i64 0), .c (.int .i64 1)]⟩,
    ⟨1, some 4, none, .e (.new (.lit 1)) [] [], [.c (.int .i64 1), .c (.int .i64 2)]⟩,
    ⟨2, some 5, none, .e (.new (.lit 1)) [] [], [.c (.int .i64 0), .c (.int .i64 1), .c (.int .i64 2)]⟩,
    ⟨3, some 6, none, .e (.new (.lit 1)) [] [], [.c (.int .i64 2), .c (.int .i64 3)]⟩,
    ⟨4, some 7, none, .e (.new (.lit 1)) [] [], [.c (.int .i64 0)]⟩,
    ⟨5, some 8, none, .e (.new (.lit 1)) [] [], [.c (.int .i64 1), .c (.int .i64 2), .c (.int .i64 3)]⟩,
    ⟨6, some 9, none, .e (.new (.lit 1)) [] [], [.t 3, .t 4, .t 5, .t 6, .t 7, .c (.nils), .t 8]⟩,
    ⟨7, some 10, none, .p .mov, [.t 0]⟩,
    ⟨8, some 11, none, .e .call [] [], [.f 91, .t 10, .c (.int .i64 7)]⟩,
    ⟨9, some 12, none, .p (.idx 1), [.t 9, .t 11]⟩,
    ⟨10, some 13, none, .r (.load false 1) false, [.t 12]⟩,
    ⟨11, some 2, none, .p .mov, [.t 13]⟩])
   (.ret)),
  [.tmp 2]⟩
/- slices.Equal[[]int,int] -/
def g386_0 : GL.Code := .seq (.reg 0 [⟨0, some 14, none, .p (.bin .lss), [.t 13, .t 12]⟩])
   (.seq (.cond (.t 14) (.skip)
   (.exit 0))
   (.seq (.block 1 (.seq (.reg 0 [⟨0, some 15, none, .p .mov, [.t 13]⟩,
    ⟨1, some 5, none, .p .mov, [.t 15]⟩])
   (.seq (.reg 0 [⟨0, some 16, none, .p .mov, [.t 0]⟩,
    ⟨1, some 17, none, .p .mov, [.t 5]⟩,
    ⟨2, some 18, none, .p (.idx 1), [.t 16, .t 17]⟩,
    ⟨3, some 19, none, .r (.load false 1) false, [.t 18]⟩,
    ⟨4, some 20, none, .p .mov, [.t 1]⟩,
    ⟨5, some 21, none, .p .mov, [.t 5]⟩,
    ⟨6, some 22, none, .p (.idx 1), [.t 20, .t 21]⟩,
    ⟨7, some 23, none, .r (.load false 1) false, [.t 22]⟩,
    ⟨8, some 24, none, .p (.bin .neq), [.t 19, .t 23]⟩])
   (.cond (.t 24) (.seq (.reg 0 [⟨0, some 4, none, .p .mov, [.c (.bool false)]⟩])
   (.ret))
   (.skip)))))
   (.reg 0 [⟨0, some 25, none, .p (.bin .add), [.t 13, .c (.int .i64 1)]⟩,
    ⟨1, some 13, none, .p .mov, [.t 25]⟩])))
def g386 : GL.Fn := ⟨.seq (.reg 0 [⟨0, some 4, none, .p .mov, [.c (.bool false)]⟩])
   (.seq (.seq (.reg 0 [⟨0, some 6, none, .p .mov, [.t 0]⟩,
    ⟨1, some 7, none, .p .len, [.t 6]⟩,
    ⟨2, some 8, none, .p .mov, [.t 1]⟩,
    ⟨3, some 9, none, .p .len, [.t 8]⟩,
    ⟨4, some 10, none, .p (.bin .neq), [.t 7, .t 9]⟩])
   (.cond (.t 10) (.seq (.reg 0 [⟨0, some 4, none, .p .mov, [.c (.bool false)]⟩])
   (.ret))
   (.skip)))
   (.seq (.seq (.reg 0 [⟨0, some 11, none, .p .mov, [.t 0]⟩,
    ⟨1, some 12, none, .p .len, [.t 11]⟩,
    ⟨2, some 13, none, .p .mov, [.c (.int .i64 0)]⟩])
   (.block 0 (.loop g386_0)))
   (.seq (.reg 0 [⟨0, some 4, none, .p .mov, [.c (.bool true)]⟩])
   (.ret)))),
  [.tmp 4]⟩
/- loop.example/g00641/impl.under -/
def g661_0 : GL.Code := .seq (.reg 0 [⟨0, some 14, none, .p (.bin .lss), [.t 13, .t 12]⟩])
   (.seq (.cond (.t 14) (.skip)
   (.exit 0))
   (.seq (.block 1 (.seq (.reg 0 [⟨0, some 15, none, .p (.idx 1), [.t 11, .t 13]⟩,
    ⟨1, some 16, none, .r (.load false 1) false, [.t 15]⟩,
    ⟨2, some 9, none, .p .mov, [.t 16]⟩])
   (.reg 0 [⟨0, some 17, none, .p .mov, [.t 7]⟩,
    ⟨1, some 18, none, .p .mov, [.t 1]⟩,
    ⟨2, some 19, none, .p .mov, [.t 0]⟩,
    ⟨3, some 20, none, .p .mov, [.t 9]⟩,
    ⟨4, some 21, none, .e .call [] [], [.f 390, .t 19, .t 20]⟩,
    ⟨5, some 22, none, .p (.idx 1), [.t 18, .t 21]⟩,
    ⟨6, some 23, none, .r (.load false 1) false, [.t 22]⟩,
    ⟨7, some 24, none, .e (.new (.lit 1)) [] [], [.t 23]⟩,
    ⟨8, some 25, none, .e (.append 1 8) [] [], [.t 17, .t 24]⟩,
    ⟨9, some 7, none, .p .mov, [.t 25]⟩])))
   (.reg 0 [⟨0, some 26, none, .p (.bin .add), [.t 13, .c (.int .i64 1)]⟩,
    ⟨1, some 13, none, .p .mov, [.t 26]⟩])))
def g661 : GL.Fn := ⟨.seq (.reg 0 [⟨0, some 6, none, .p .mov, [.c (.nils)]⟩])
   (.seq (.reg 0 [⟨0, some 10, none, .e (.new (.lit 1)) [] [], []⟩,
    ⟨1, some 7, none, .p .mov, [.t 10]⟩])
   (.seq (.seq (.reg 0 [⟨0, some 11, none, .p .mov, [.t 2]⟩,
    ⟨1, some 12, none, .p .len, [.t 11]⟩,
    ⟨2, some 13, none, .p .mov, [.c (.int .i64 0)]⟩])
   (.block 0 (.loop g661_0)))
   (.seq (.reg 0 [⟨0, some 27, none, .p .mov, [.t 7]⟩,
    ⟨1, some 6, none, .p .mov, [.t 27]⟩])
   (.ret)))),
  [.tmp 6]⟩
/- slices.Index[[]int,int] -/
def g390_0 : GL.Code := .seq (.reg 0 [⟨0, some 9, none, .p (.bin .lss), [.t 8, .t 7]⟩])
   (.seq (.cond (.t 9) (.skip)
   (.exit 0))
   (.seq (.block 1 (.seq (.reg 0 [⟨0, some 10, none, .p .mov, [.t 8]⟩,
    ⟨1, some 5, none, .p .mov, [.t 10]⟩])
   (.seq (.reg 0 [⟨0, some 11, none, .p .mov, [.t 1]⟩,
    ⟨1, some 12, none, .p .mov, [.t 0]⟩,
    ⟨2, some 13, none, .p .mov, [.t 5]⟩,
    ⟨3, some 14, none, .p (.idx 1), [.t 12, .t 13]⟩,
    ⟨4, some 15, none, .r (.load false 1) false, [.t 14]⟩,
    ⟨5, some 16, none, .p (.bin .eql), [.t 11, .t 15]⟩])
   (.cond (.t 16) (.seq (.reg 0 [⟨0, some 17, none, .p .mov, [.t 5]⟩,
    ⟨1, some 4, none, .p .mov, [.t 17]⟩])
   (.ret))
   (.skip)))))
   (.reg 0 [⟨0, some 18, none, .p (.bin .add), [.t 8, .c (.int .i64 1)]⟩,
    ⟨1, some 8, none, .p .mov, [.t 18]⟩])))
def g390 : GL.Fn := ⟨.seq (.reg 0 [⟨0, some 4, none, .p .mov, [.c (.int .i64 0)]⟩])
   (.seq (.seq (.reg 0 [⟨0, some 6, none, .p .mov, [.t 0]⟩,
    ⟨1, some 7, none, .p .len, [.t 6]⟩,
    ⟨2, some 8, none, .p .mov, [.c (.int .i64 0)]⟩])
   (.block 0 (.loop g390_0)))
   (.seq (.reg 0 [⟨0, some 4, none, .p .mov, [.c (.int .i64 (-1))]⟩])
   (.ret))),
  [.tmp 4]⟩
/- loop.example/g00641/impl.related -/
def g673_0 : GL.Code := .seq (.reg 0 [⟨0, some 15, none, .p (.bin .lss), [.t 14, .t 13]⟩])
   (.seq (.cond (.t 15) (.skip)
   (.exit 0))
   (.seq (.block 1 (.seq (.reg 0 [⟨0, some 16, none, .p (.idx 1), [.t 12, .t 14]⟩,
    ⟨1, some 17, none, .r (.load false 1) false, [.t 16]⟩,
    ⟨2, some 8, none, .p .mov, [.t 17]⟩])
   (.reg 0 [⟨0, some 18, none, .p (.faddr 1), [.t 6]⟩,
    ⟨1, some 19, none, .l (.load 6 false 1), [.t 18]⟩,
    ⟨2, some 20, none, .p .mov, [.t 8]⟩,
    ⟨3, some 21, none, .e .call [] [], [.f 389, .t 20]⟩,
    ⟨4, some 22, none, .e (.new (.lit 1)) [] [], [.t 21]⟩,
    ⟨5, some 23, none, .e (.append 1 24) [] [], [.t 19, .t 22]⟩,
    ⟨6, some 24, none, .p (.faddr 1), [.t 6]⟩,
    ⟨7, none, none, .l (.store 6 1), [.t 24, .t 23]⟩])))
   (.reg 0 [⟨0, some 25, none, .p (.bin .add), [.t 14, .c (.int .i64 1)]⟩,
    ⟨1, some 14, none, .p .mov, [.t 25]⟩])))
def g673 : GL.Fn := ⟨.seq (.reg 0 [⟨0, some 4, none, .l (.alloc 4 [.nils, .nils]), []⟩,
    ⟨1, some 5, none, .p .mov, [.c (.bool false)]⟩])
   (.seq (.reg 0 [⟨0, some 9, none, .p .mov, [.t 0]⟩,
    ⟨1, some 10, none, .e .call [] [], [.f 389, .t 9]⟩,
    ⟨2, some 11, none, .p (.build [.nils, .nils] [(0, 1), (1, 1)]), [.t 10, .c (.nils)]⟩,
    ⟨3, some 6, none, .l (.alloc 6 [.nils, .nils]), []⟩,
    ⟨4, none, none, .l (.store 6 2), [.t 6, .t 11]⟩])
   (.seq (.seq (.reg 0 [⟨0, some 12, none, .p .mov, [.t 1]⟩,
    ⟨1, some 13, none, .p .len, [.t 12]⟩,
    ⟨2, some 14, none, .p .mov, [.c (.int .i64 0)]⟩])
   (.block 0 (.loop g673_0)))
   (.seq (.reg 0 [⟨0, some 26, none, .p (.faddr 1), [.t 6]⟩,
    ⟨1, some 27, none, .l (.load 6 false 1), [.t 26]⟩,
    ⟨2, some 28, none, .e .call [] [], [.f 685, .t 27, .f 677]⟩])
   (.seq (.reg 0 [⟨0, some 29, none, .p (.faddr 1), [.t 6]⟩,
    ⟨1, some 30, none, .l (.load 6 false 1), [.t 29]⟩,
    ⟨2, some 31, none, .e .call [] [], [.f 686, .t 30, .f 386]⟩,
    ⟨3, some 32, none, .p (.faddr 1), [.t 6]⟩,
    ⟨4, none, none, .l (.store 6 1), [.t 32, .t 31]⟩])
   (.seq (.seq (.reg 0 [⟨0, some 33, none, .l (.load 6 true 2), [.t 6]⟩,
    ⟨1, some 34, none, .e .call [] [], [.f 659, .t 33]⟩,
    ⟨2, some 35, none, .p (.un .not), [.t 34]⟩])
   (.cond (.t 35) (.seq (.reg 0 [⟨0, some 36, none, .p (.build [.nils, .nils] []), []⟩,
    ⟨1, none, none, .l (.store 4 2), [.t 4, .t 36]⟩,
    ⟨2, some 5, none, .p .mov, [.c (.bool false)]⟩])
   (.ret))
   (.skip)))
   (.seq (.reg 0 [⟨0, some 37, none, .l (.load 6 true 2), [.t 6]⟩,
    ⟨1, none, none, .l (.store 4 2), [.t 4, .t 37]⟩,
    ⟨2, some 5, none, .p .mov, [.c (.bool true)]⟩])
   (.ret))))))),
  [.cellL 4 4 true 2, .tmp 5]⟩
/- loop.example/g00641/spec.l3At -/
def g606_0 : GL.Code := .seq (.reg 0 [⟨0, some 10, none, .p (.bin .lss), [.t 9, .t 8]⟩])
   (.seq (.cond (.t 10) (.skip)
   (.exit 0))
   (.seq (.block 1 (.seq (.reg 0 [⟨0, some 11, none, .p .mov, [.t 9]⟩,
    ⟨1, some 12, none, .p (.idx 1), [.t 7, .t 9]⟩,
    ⟨2, some 13, none, .r (.load false 1) false, [.t 12]⟩,
    ⟨3, some 5, none, .p .mov, [.t 11]⟩,
    ⟨4, some 6, none, .p .mov, [.t 13]⟩])
   (.seq (.reg 0 [⟨0, some 14, none, .p .mov, [.t 6]⟩,
    ⟨1, some 15, none, .p .mov, [.t 1]⟩,
    ⟨2, some 16, none, .p (.bin .eql), [.t 14, .t 15]⟩])
   (.cond (.t 16) (.seq (.reg 0 [⟨0, some 17, none, .p .mov, [.t 5]⟩,
    ⟨1, some 4, none, .p .mov, [.t 17]⟩])
   (.ret))
   (.skip)))))
   (.reg 0 [⟨0, some 18, none, .p (.bin .add), [.t 9, .c (.int .i64 1)]⟩,
    ⟨1, some 9, none, .p .mov, [.t 18]⟩])))
def g606 : GL.Fn := ⟨.seq (.reg 0 [⟨0, some 4, none, .p .mov, [.c (.int .i64 0)]⟩])
   (.seq (.seq (.reg 0 [⟨0, some 7, none, .p .mov, [.t 0]⟩,
    ⟨1, some 8, none, .p .len, [.t 7]⟩,
    ⟨2, some 9, none, .p .mov, [.c (.int .i64 0)]⟩])
   (.block 0 (.loop g606_0)))
   (.seq (.reg 0 [⟨0, some 4, none, .p .mov, [.c (.int .i64 (-1))]⟩])
   (.ret))),
  [.tmp 4]⟩
/- loop.example/g00641/spec.l1Put -/
def g410_0 : GL.Code := .seq (.seq (.reg 0 [⟨0, some 7, none, .p .mov, [.t 5]⟩,
    ⟨1, some 8, none, .p .mov, [.t 0]⟩,
    ⟨2, some 9, none, .p .len, [.t 8]⟩,
    ⟨3, some 10, none, .p (.bin .lss), [.t 7, .t 9]⟩,
    ⟨4, some 11, none, .p .mov, [.t 10]⟩,
    ⟨5, some 12, some (11, true), .p .mov, [.t 0]⟩,
    ⟨6, some 13, some (11, true), .p .mov, [.t 5]⟩,
    ⟨7, some 14, some (11, true), .p (.idx 1), [.t 12, .t 13]⟩,
    ⟨8, some 15, some (11, true), .r (.load false 1) false, [.t 14]⟩,
    ⟨9, some 16, some (11, true), .p .mov, [.t 1]⟩,
    ⟨10, some 17, some (11, true), .p (.bin .lss), [.t 15, .t 16]⟩,
    ⟨11, some 18, none, .p .pick, [.t 11, .t 17, .c (.bool false)]⟩])
   (.cond (.t 18) (.skip)
   (.exit 0)))
   (.block 1 (.reg 0 [⟨0, some 19, none, .p .mov, [.t 5]⟩,
    ⟨1, some 20, none, .p (.bin .add), [.t 19, .c (.int .i64 1)]⟩,
    ⟨2, some 5, none, .p .mov, [.t 20]⟩]))
def g410 : GL.Fn := ⟨.seq (.reg 0 [⟨0, some 4, none, .p .mov, [.c (.nils)]⟩])
   (.seq (.reg 0 [⟨0, some 5, none, .p .mov, [.c (.int .i64 0)]⟩])
   (.seq (.block 0 (.loop g410_0))
   (.seq (.seq (.reg 0 [⟨0, some 21, none, .p .mov, [.t 5]⟩,
    ⟨1, some 22, none, .p .mov, [.t 0]⟩,
    ⟨2, some 23, none, .p .len, [.t 22]⟩,
    ⟨3, some 24, none, .p (.bin .lss), [.t 21, .t 23]⟩,
    ⟨4, some 25, none, .p .mov, [.t 24]⟩,
    ⟨5, some 26, some (25, true), .p .mov, [.t 0]⟩,
    ⟨6, some 27, some (25, true), .p .mov, [.t 5]⟩,
    ⟨7, some 28, some (25, true), .p (.idx 1), [.t 26, .t 27]⟩,
    ⟨8, some 29, some (25, true), .r (.load false 1) false, [.t 28]⟩,
    ⟨9, some 30, some (25, true), .p .mov, [.t 1]⟩,
    ⟨10, some 31, some (25, true), .p (.bin .eql), [.t 29, .t 30]⟩,
    ⟨11, some 32, none, .p .pick, [.t 25, .t 31, .c (.bool false)]⟩])
   (.cond (.t 32) (.seq (.reg 0 [⟨0, some 33, none, .p .mov, [.t 0]⟩,
    ⟨1, some 4, none, .p .mov, [.t 33]⟩])
   (.ret))
   (.skip)))
   (.seq (.reg 0 [⟨0, some 34, none, .e (.new (.lit 1)) [] [], []⟩,
    ⟨1, some 35, none, .p .mov, [.t 0]⟩,
    ⟨2, some 36, none, .p .mov, [.t 5]⟩,
    ⟨3, some 37, none, .p (.slice 1 false true false), [.t 35, .t 36]⟩,
    ⟨4, some 38, none, .e (.append 1 8) [] [], [.t 34, .t 37]⟩,
    ⟨5, some 6, none, .p .mov, [.t 38]⟩])
   (.seq (.reg 0 [⟨0, some 39, none, .p .mov, [.t 6]⟩,
    ⟨1, some 40, none, .p .mov, [.t 1]⟩,
    ⟨2, some 41, none, .e (.new (.lit 1)) [] [], [.t 40]⟩,
    ⟨3, some 42, none, .e (.append 1 8) [] [], [.t 39, .t 41]⟩,
    ⟨4, some 6, none, .p .mov, [.t 42]⟩])
   (.seq (.reg 0 [⟨0, some 43, none, .p .mov, [.t 6]⟩,
    ⟨1, some 44, none, .p .mov, [.t 0]⟩,
    ⟨2, some 45, none, .p .mov, [.t 5]⟩,
    ⟨3, some 46, none, .p (.slice 1 true false false), [.t 44, .t 45]⟩,
    ⟨4, some 47, none, .e (.append 1 8) [] [], [.t 43, .t 46]⟩,
    ⟨5, some 4, none, .p .mov, [.t 47]⟩])
   (.ret))))))),
  [.tmp 4]⟩
/- loop.example/g00641/spec.l1Same -/
def g356_0 : GL.Code := .seq (.reg 0 [⟨0, some 14, none, .p (.bin .lss), [.t 13, .t 12]⟩])
   (.seq (.cond (.t 14) (.skip)
   (.exit 0))
   (.seq (.block 1 (.seq (.reg 0 [⟨0, some 15, none, .p .mov, [.t 13]⟩,
    ⟨1, some 5, none, .p .mov, [.t 15]⟩])
   (.seq (.reg 0 [⟨0, some 16, none, .p .mov, [.t 0]⟩,
    ⟨1, some 17, none, .p .mov, [.t 5]⟩,
    ⟨2, some 18, none, .p (.idx 1), [.t 16, .t 17]⟩,
    ⟨3, some 19, none, .r (.load false 1) false, [.t 18]⟩,
    ⟨4, some 20, none, .p .mov, [.t 1]⟩,
    ⟨5, some 21, none, .p .mov, [.t 5]⟩,
    ⟨6, some 22, none, .p (.idx 1), [.t 20, .t 21]⟩,
    ⟨7, some 23, none, .r (.load false 1) false, [.t 22]⟩,
    ⟨8, some 24, none, .p (.bin .neq), [.t 19, .t 23]⟩])
   (.cond (.t 24) (.seq (.reg 0 [⟨0, some 4, none, .p .mov, [.c (.bool false)]⟩])
   (.ret))
   (.skip)))))
   (.reg 0 [⟨0, some 25, none, .p (.bin .add), [.t 13, .c (.int .i64 1)]⟩,
    ⟨1, some 13, none, .p .mov, [.t 25]⟩])))
def g356 : GL.Fn := ⟨.seq (.reg 0 [⟨0, some 4, none, .p .mov, [.c (.bool false)]⟩])
   (.seq (.seq (.reg 0 [⟨0, some 6, none, .p .mov, [.t 0]⟩,
    ⟨1, some 7, none, .p .len, [.t 6]⟩,
    ⟨2, some 8, none, .p .mov, [.t 1]⟩,
    ⟨3, some 9, none, .p .len, [.t 8]⟩,
    ⟨4, some 10, none, .p (.bin .neq), [.t 7, .t 9]⟩])
   (.cond (.t 10) (.seq (.reg 0 [⟨0, some 4, none, .p .mov, [.c (.bool false)]⟩])
   (.ret))
   (.skip)))
   (.seq (.seq (.reg 0 [⟨0, some 11, none, .p .mov, [.t 0]⟩,
    ⟨1, some 12, none, .p .len, [.t 11]⟩,
    ⟨2, some 13, none, .p .mov, [.c (.int .i64 0)]⟩])
   (.block 0 (.loop g356_0)))
   (.seq (.reg 0 [⟨0, some 4, none, .p .mov, [.c (.bool true)]⟩])
   (.ret)))),
  [.tmp 4]⟩
/- loop.example/g00641/spec.l3Pick -/
def g679_0 : GL.Code := .seq (.reg 0 [⟨0, some 13, none, .p (.bin .lss), [.t 12, .t 11]⟩])
   (.seq (.cond (.t 13) (.skip)
   (.exit 0))
   (.seq (.block 1 (.seq (.reg 0 [⟨0, some 14, none, .p (.idx 1), [.t 10, .t 12]⟩,
    ⟨1, some 15, none, .r (.load false 1) false, [.t 14]⟩,
    ⟨2, some 9, none, .p .mov, [.t 15]⟩])
   (.reg 0 [⟨0, some 16, none, .p .mov, [.t 7]⟩,
    ⟨1, some 17, none, .p .mov, [.t 1]⟩,
    ⟨2, some 18, none, .p .mov, [.t 0]⟩,
    ⟨3, some 19, none, .p .mov, [.t 9]⟩,
    ⟨4, some 20, none, .e .call [] [], [.f 606, .t 18, .t 19]⟩,
    ⟨5, some 21, none, .p (.idx 1), [.t 17, .t 20]⟩,
    ⟨6, some 22, none, .r (.load false 1) false, [.t 21]⟩,
    ⟨7, some 23, none, .e (.new (.lit 1)) [] [], [.t 22]⟩,
    ⟨8, some 24, none, .e (.append 1 8) [] [], [.t 16, .t 23]⟩,
    ⟨9, some 7, none, .p .mov, [.t 24]⟩])))
   (.reg 0 [⟨0, some 25, none, .p (.bin .add), [.t 12, .c (.int .i64 1)]⟩,
    ⟨1, some 12, none, .p .mov, [.t 25]⟩])))
def g679 : GL.Fn := ⟨.seq (.reg 0 [⟨0, some 6, none, .p .mov, [.c (.nils)]⟩])
   (.seq (.reg 0 [⟨0, some 7, none, .p .mov, [.c (.nils)]⟩])
   (.seq (.seq (.reg 0 [⟨0, some 10, none, .p .mov, [.t 2]⟩,
    ⟨1, some 11, none, .p .len, [.t 10]⟩,
    ⟨2, some 12, none, .p .mov, [.c (.int .i64 0)]⟩])
   (.block 0 (.loop g679_0)))
   (.seq (.reg 0 [⟨0, some 26, none, .p .mov, [.t 7]⟩,
    ⟨1, some 6, none, .p .mov, [.t 26]⟩])
   (.ret)))),
  [.tmp 6]⟩
/- loop.example/g00641/spec.l3Add -/
def g687_0 : GL.Code := .seq (.seq (.reg 0 [⟨0, some 7, none, .p .mov, [.t 5]⟩,
    ⟨1, some 8, none, .p .mov, [.t 0]⟩,
    ⟨2, some 9, none, .p .len, [.t 8]⟩,
    ⟨3, some 10, none, .p (.bin .lss), [.t 7, .t 9]⟩,
    ⟨4, some 11, none, .p .mov, [.t 10]⟩,
    ⟨5, some 12, some (11, true), .p .mov, [.t 0]⟩,
    ⟨6, some 13, some (11, true), .p .mov, [.t 5]⟩,
    ⟨7, some 14, some (11, true), .p (.idx 1), [.t 12, .t 13]⟩,
    ⟨8, some 15, some (11, true), .r (.load false 1) false, [.t 14]⟩,
    ⟨9, some 16, some (11, true), .p .mov, [.t 1]⟩,
    ⟨10, some 17, some (11, true), .e .call [] [], [.f 678, .t 15, .t 16]⟩,
    ⟨11, some 18, none, .p .pick, [.t 11, .t 17, .c (.bool false)]⟩])
   (.cond (.t 18) (.skip)
   (.exit 0)))
   (.block 1 (.reg 0 [⟨0, some 19, none, .p .mov, [.t 5]⟩,
    ⟨1, some 20, none, .p (.bin .add), [.t 19, .c (.int .i64 1)]⟩,
    ⟨2, some 5, none, .p .mov, [.t 20]⟩]))
def g687 : GL.Fn := ⟨.seq (.reg 0 [⟨0, some 4, none, .p .mov, [.c (.nils)]⟩])
   (.seq (.reg 0 [⟨0, some 5, none, .p .mov, [.c (.int .i64 0)]⟩])
   (.seq (.block 0 (.loop g687_0))
   (.seq (.seq (.reg 0 [⟨0, some 21, none, .p .mov, [.t 5]⟩,
    ⟨1, some 22, none, .p .mov, [.t 0]⟩,
    ⟨2, some 23, none, .p .len, [.t 22]⟩,
    ⟨3, some 24, none, .p (.bin .lss), [.t 21, .t 23]⟩,
    ⟨4, some 25, none, .p .mov, [.t 24]⟩,
    ⟨5, some 26, some (25, true), .p .mov, [.t 0]⟩,
    ⟨6, some 27, some (25, true), .p .mov, [.t 5]⟩,
    ⟨7, some 28, some (25, true), .p (.idx 1), [.t 26, .t 27]⟩,
    ⟨8, some 29, some (25, true), .r (.load false 1) false, [.t 28]⟩,
    ⟨9, some 30, some (25, true), .p .mov, [.t 1]⟩,
    ⟨10, some 31, some (25, true), .e .call [] [], [.f 356, .t 29, .t 30]⟩,
    ⟨11, some 32, none, .p .pick, [.t 25, .t 31, .c (.bool false)]⟩])
   (.cond (.t 32) (.seq (.reg 0 [⟨0, some 33, none, .p .mov, [.t 0]⟩,
    ⟨1, some 4, none, .p .mov, [.t 33]⟩])
   (.ret))
   (.skip)))
   (.seq (.reg 0 [⟨0, some 34, none, .e (.new (.lit 1)) [] [], []⟩,
    ⟨1, some 35, none, .p .mov, [.t 0]⟩,
    ⟨2, some 36, none, .p .mov, [.t 5]⟩,
    ⟨3, some 37, none, .p (.slice 1 false true false), [.t 35, .t 36]⟩,
    ⟨4, some 38, none, .e (.append 1 24) [] [], [.t 34, .t 37]⟩,
    ⟨5, some 6, none, .p .mov, [.t 38]⟩])
   (.seq (.reg 0 [⟨0, some 39, none, .p .mov, [.t 6]⟩,
    ⟨1, some 40, none, .e (.new (.lit 1)) [] [], []⟩,
    ⟨2, some 41, none, .p .mov, [.t 1]⟩,
    ⟨3, some 42, none, .e (.append 1 8) [] [], [.t 40, .t 41]⟩,
    ⟨4, some 43, none, .e (.new (.lit 1)) [] [], [.t 42]⟩,
    ⟨5, some 44, none, .e (.append 1 24) [] [], [.t 39, .t 43]⟩,
    ⟨6, some 6, none, .p .mov, [.t 44]⟩])
   (.seq (.reg 0 [⟨0, some 45, none, .p .mov, [.t 6]⟩,
    ⟨1, some 46, none, .p .mov, [.t 0]⟩,
    ⟨2, some 47, none, .p .mov, [.t 5]⟩,
    ⟨3, some 48, none, .p (.slice 1 true false false), [.t 46, .t 47]⟩,
    ⟨4, some 49, none, .e (.append 1 24) [] [], [.t 45, .t 48]⟩,
    ⟨5, some 4, none, .p .mov, [.t 49]⟩])
   (.ret))))))),
  [.tmp 4]⟩
/- loop.example/g00641/spec.l3Tell -/
def g674_0 : GL.Code := .seq (.reg 0 [⟨0, some 16, none, .p (.bin .lss), [.t 15, .t 14]⟩])
   (.seq (.cond (.t 16) (.skip)
   (.exit 0))
   (.seq (.block 1 (.seq (.reg 0 [⟨0, some 17, none, .p (.idx 1), [.t 13, .t 15]⟩,
    ⟨1, some 18, none, .r (.load false 1) false, [.t 17]⟩,
    ⟨2, some 8, none, .p .mov, [.t 18]⟩])
   (.reg 0 [⟨0, some 19, none, .p (.faddr 1), [.t 6]⟩,
    ⟨1, some 20, none, .l (.load 6 false 1), [.t 19]⟩,
    ⟨2, some 21, none, .p .mov, [.t 8]⟩,
    ⟨3, some 22, none, .e .call [] [], [.f 687, .t 20, .t 21]⟩,
    ⟨4, some 23, none, .p (.faddr 1), [.t 6]⟩,
    ⟨5, none, none, .l (.store 6 1), [.t 23, .t 22]⟩])))
   (.reg 0 [⟨0, some 24, none, .p (.bin .add), [.t 15, .c (.int .i64 1)]⟩,
    ⟨1, some 15, none, .p .mov, [.t 24]⟩])))
def g674 : GL.Fn := ⟨.seq (.reg 0 [⟨0, some 4, none, .l (.alloc 4 [.nils, .nils]), []⟩,
    ⟨1, some 5, none, .p .mov, [.c (.bool false)]⟩])
   (.seq (.reg 0 [⟨0, some 9, none, .e (.new (.lit 1)) [] [], []⟩,
    ⟨1, some 10, none, .p .mov, [.t 0]⟩,
    ⟨2, some 11, none, .e (.append 1 8) [] [], [.t 9, .t 10]⟩,
    ⟨3, some 12, none, .p (.build [.nils, .nils] [(0, 1)]), [.t 11]⟩,
    ⟨4, some 6, none, .l (.alloc 6 [.nils, .nils]), []⟩,
    ⟨5, none, none, .l (.store 6 2), [.t 6, .t 12]⟩])
   (.seq (.seq (.reg 0 [⟨0, some 13, none, .p .mov, [.t 1]⟩,
    ⟨1, some 14, none, .p .len, [.t 13]⟩,
    ⟨2, some 15, none, .p .mov, [.c (.int .i64 0)]⟩])
   (.block 0 (.loop g674_0)))
   (.seq (.seq (.reg 0 [⟨0, some 25, none, .l (.load 6 true 2), [.t 6]⟩,
    ⟨1, some 26, none, .e .call [] [], [.f 662, .t 25]⟩,
    ⟨2, some 27, none, .p (.un .not), [.t 26]⟩])
   (.cond (.t 27) (.seq (.reg 0 [⟨0, some 28, none, .p (.build [.nils, .nils] []), []⟩,
    ⟨1, none, none, .l (.store 4 2), [.t 4, .t 28]⟩,
    ⟨2, some 5, none, .p .mov, [.c (.bool false)]⟩])
   (.ret))
   (.skip)))
   (.seq (.reg 0 [⟨0, some 29, none, .l (.load 6 true 2), [.t 6]⟩,
    ⟨1, none, none, .l (.store 4 2), [.t 4, .t 29]⟩,
    ⟨2, some 5, none, .p .mov, [.c (.bool true)]⟩])
   (.ret))))),
  [.cellL 4 4 true 2, .tmp 5]⟩
/- loop.example/g00641/laws.sameInts -/
def g24_0 : GL.Code := .seq (.reg 0 [⟨0, some 14, none, .p (.bin .lss), [.t 13, .t 12]⟩])
   (.seq (.cond (.t 14) (.skip)
   (.exit 0))
   (.seq (.block 1 (.seq (.reg 0 [⟨0, some 15, none, .p .mov, [.t 13]⟩,
    ⟨1, some 5, none, .p .mov, [.t 15]⟩])
   (.seq (.reg 0 [⟨0, some 16, none, .p .mov, [.t 0]⟩,
    ⟨1, some 17, none, .p .mov, [.t 5]⟩,
    ⟨2, some 18, none, .p (.idx 1), [.t 16, .t 17]⟩,
    ⟨3, some 19, none, .r (.load false 1) false, [.t 18]⟩,
    ⟨4, some 20, none, .p .mov, [.t 1]⟩,
    ⟨5, some 21, none, .p .mov, [.t 5]⟩,
    ⟨6, some 22, none, .p (.idx 1), [.t 20, .t 21]⟩,
    ⟨7, some 23, none, .r (.load false 1) false, [.t 22]⟩,
    ⟨8, some 24, none, .p (.bin .neq), [.t 19, .t 23]⟩])
   (.cond (.t 24) (.seq (.reg 0 [⟨0, some 4, none, .p .mov, [.c (.bool false)]⟩])
   (.ret))
   (.skip)))))
   (.reg 0 [⟨0, some 25, none, .p (.bin .add), [.t 13, .c (.int .i64 1)]⟩,
    ⟨1, some 13, none, .p .mov, [.t 25]⟩])))
def g24 : GL.Fn := ⟨.seq (.reg 0 [⟨0, some 4, none, .p .mov, [.c (.bool false)]⟩])
   (.seq (.seq (.reg 0 [⟨0, some 6, none, .p .mov, [.t 0]⟩,
    ⟨1, some 7, none, .p .len, [.t 6]⟩,
    ⟨2, some 8, none, .p .mov, [.t 1]⟩,
    ⟨3, some 9, none, .p .len, [.t 8]⟩,
    ⟨4, some 10, none, .p (.bin .neq), [.t 7, .t 9]⟩])
   (.cond (.t 10) (.seq (.reg 0 [⟨0, some 4, none, .p .mov, [.c (.bool false)]⟩])
   (.ret))
   (.skip)))
   (.seq (.seq (.reg 0 [⟨0, some 11, none, .p .mov, [.t 0]⟩,
    ⟨1, some 12, none, .p .len, [.t 11]⟩,
    ⟨2, some 13, none, .p .mov, [.c (.int .i64 0)]⟩])
   (.block 0 (.loop g24_0)))
   (.seq (.reg 0 [⟨0, some 4, none, .p .mov, [.c (.bool true)]⟩])
   (.ret)))),
  [.tmp 4]⟩
/- loop.example/g00641/laws.sameRows -/
def g383_0 : GL.Code := .seq (.reg 0 [⟨0, some 14, none, .p (.bin .lss), [.t 13, .t 12]⟩])
   (.seq (.cond (.t 14) (.skip)
   (.exit 0))
   (.seq (.block 1 (.seq (.reg 0 [⟨0, some 15, none, .p .mov, [.t 13]⟩,
    ⟨1, some 5, none, .p .mov, [.t 15]⟩])
   (.seq (.reg 0 [⟨0, some 16, none, .p .mov, [.t 0]⟩,
    ⟨1, some 17, none, .p .mov, [.t 5]⟩,
    ⟨2, some 18, none, .p (.idx 1), [.t 16, .t 17]⟩,
    ⟨3, some 19, none, .r (.load false 1) false, [.t 18]⟩,
    ⟨4, some 20, none, .p .mov, [.t 1]⟩,
    ⟨5, some 21, none, .p .mov, [.t 5]⟩,
    ⟨6, some 22, none, .p (.idx 1), [.t 20, .t 21]⟩,
    ⟨7, some 23, none, .r (.load false 1) false, [.t 22]⟩,
    ⟨8, some 24, none, .e .call [] [], [.f 24, .t 19, .t 23]⟩,
    ⟨9, some 25, none, .p (.un .not), [.t 24]⟩])
   (.cond (.t 25) (.seq (.reg 0 [⟨0, some 4, none, .p .mov, [.c (.bool false)]⟩])
   (.ret))
   (.skip)))))
   (.reg 0 [⟨0, some 26, none, .p (.bin .add), [.t 13, .c (.int .i64 1)]⟩,
    ⟨1, some 13, none, .p .mov, [.t 26]⟩])))
def g383 : GL.Fn := ⟨.seq (.reg 0 [⟨0, some 4, none, .p .mov, [.c (.bool false)]⟩])
   (.seq (.seq (.reg 0 [⟨0, some 6, none, .p .mov, [.t 0]⟩,
    ⟨1, some 7, none, .p .len, [.t 6]⟩,
    ⟨2, some 8, none, .p .mov, [.t 1]⟩,
    ⟨3, some 9, none, .p .len, [.t 8]⟩,
    ⟨4, some 10, none, .p (.bin .neq), [.t 7, .t 9]⟩])
   (.cond (.t 10) (.seq (.reg 0 [⟨0, some 4, none, .p .mov, [.c (.bool false)]⟩])
   (.ret))
   (.skip)))
   (.seq (.seq (.reg 0 [⟨0, some 11, none, .p .mov, [.t 0]⟩,
    ⟨1, some 12, none, .p .len, [.t 11]⟩,
    ⟨2, some 13, none, .p .mov, [.c (.int .i64 0)]⟩])
   (.block 0 (.loop g383_0)))
   (.seq (.reg 0 [⟨0, some 4, none, .p .mov, [.c (.bool true)]⟩])
   (.ret)))),
  [.tmp 4]⟩
/- loop.example/g00641/impl.isPart -/
def g660_0 : GL.Code := .seq (.reg 0 [⟨0, some 10, none, .p (.bin .lss), [.t 9, .t 8]⟩])
   (.seq (.cond (.t 10) (.skip)
   (.exit 0))
   (.seq (.block 1 (.seq (.reg 0 [⟨0, some 11, none, .p .mov, [.t 9]⟩,
    ⟨1, some 12, none, .p (.idx 1), [.t 7, .t 9]⟩,
    ⟨2, some 13, none, .r (.load false 1) false, [.t 12]⟩,
    ⟨3, some 5, none, .p .mov, [.t 11]⟩,
    ⟨4, some 6, none, .p .mov, [.t 13]⟩])
   (.seq (.reg 0 [⟨0, some 14, none, .p .mov, [.t 1]⟩,
    ⟨1, some 15, none, .p .mov, [.t 6]⟩,
    ⟨2, some 16, none, .e .call [] [], [.f 301, .t 14, .t 15]⟩,
    ⟨3, some 17, none, .p (.un .not), [.t 16]⟩,
    ⟨4, some 18, none, .p .mov, [.t 17]⟩,
    ⟨5, some 19, some (18, false), .p .mov, [.t 5]⟩,
    ⟨6, some 20, some (18, false), .p (.bin .gtr), [.t 19, .c (.int .i64 0)]⟩,
    ⟨7, some 21, some (18, false), .p .mov, [.t 20]⟩,
    ⟨8, some 22, some (21, true), .p .mov, [.t 0]⟩,
    ⟨9, some 23, some (21, true), .p .mov, [.t 5]⟩,
    ⟨10, some 24, some (21, true), .p (.bin .sub), [.t 23, .c (.int .i64 1)]⟩,
    ⟨11, some 25, some (21, true), .p (.idx 1), [.t 22, .t 24]⟩,
    ⟨12, some 26, some (21, true), .r (.load false 1) false, [.t 25]⟩,
    ⟨13, some 27, some (21, true), .p .mov, [.t 6]⟩,
    ⟨14, some 28, some (21, true), .p (.bin .geq), [.t 26, .t 27]⟩,
    ⟨15, some 29, some (18, false), .p .pick, [.t 21, .t 28, .c (.bool false)]⟩,
    ⟨16, some 30, none, .p .pick, [.t 18, .c (.bool true), .t 29]⟩])
   (.cond (.t 30) (.seq (.reg 0 [⟨0, some 4, none, .p .mov, [.c (.bool false)]⟩])
   (.ret))
   (.skip)))))
   (.reg 0 [⟨0, some 31, none, .p (.bin .add), [.t 9, .c (.int .i64 1)]⟩,
    ⟨1, some 9, none, .p .mov, [.t 31]⟩])))
def g660 : GL.Fn := ⟨.seq (.reg 0 [⟨0, some 4, none, .p .mov, [.c (.bool false)]⟩])
   (.seq (.seq (.reg 0 [⟨0, some 7, none, .p .mov, [.t 0]⟩,
    ⟨1, some 8, none, .p .len, [.t 7]⟩,
    ⟨2, some 9, none, .p .mov, [.c (.int .i64 0)]⟩])
   (.block 0 (.loop g660_0)))
   (.seq (.reg 0 [⟨0, some 4, none, .p .mov, [.c (.bool true)]⟩])
   (.ret))),
  [.tmp 4]⟩
/- loop.example/g00641/impl.areAlike -/
def g779 : GL.Fn := ⟨.seq (.reg 0 [⟨0, some 2, none, .l (.box 2 2), [.t 0]⟩,
    ⟨1, some 3, none, .l (.box 3 2), [.t 1]⟩,
    ⟨2, some 4, none, .p .mov, [.c (.bool false)]⟩])
   (.seq (.reg 0 [⟨0, some 5, none, .l (.load 2 true 2), [.t 2]⟩,
    ⟨1, some 6, none, .e .call [] [], [.f 659, .t 5]⟩,
    ⟨2, some 7, none, .p .mov, [.t 6]⟩,
    ⟨3, some 8, some (7, true), .l (.load 3 true 2), [.t 3]⟩,
    ⟨4, some 9, some (7, true), .e .call [] [], [.f 659, .t 8]⟩,
    ⟨5, some 10, none, .p .pick, [.t 7, .t 9, .c (.bool false)]⟩,
    ⟨6, some 11, none, .p .mov, [.t 10]⟩,
    ⟨7, some 12, some (11, true), .p (.faddr 0), [.t 2]⟩,
    ⟨8, some 13, some (11, true), .l (.load 2 false 1), [.t 12]⟩,
    ⟨9, some 14, some (11, true), .p (.faddr 0), [.t 3]⟩,
    ⟨10, some 15, some (11, true), .l (.load 3 false 1), [.t 14]⟩,
    ⟨11, some 16, some (11, true), .e .call [] [], [.f 386, .t 13, .t 15]⟩,
    ⟨12, some 17, none, .p .pick, [.t 11, .t 16, .c (.bool false)]⟩,
    ⟨13, some 4, none, .p .mov, [.t 17]⟩])
   (.ret)),
  [.tmp 4]⟩
/- slices.DeleteFunc[[][]int,[]int] -/
def g782_0 : GL.Code := .seq (.seq (.reg 0 [⟨0, some 16, none, .p .mov, [.t 6]⟩,
    ⟨1, some 17, none, .p .mov, [.t 0]⟩,
    ⟨2, some 18, none, .p .len, [.t 17]⟩,
    ⟨3, some 19, none, .p (.bin .lss), [.t 16, .t 18]⟩])
   (.cond (.t 19) (.skip)
   (.exit 0)))
   (.seq (.block 1 (.seq (.reg 0 [⟨0, some 22, none, .p .mov, [.t 0]⟩,
    ⟨1, some 23, none, .p .mov, [.t 6]⟩,
    ⟨2, some 24, none, .p (.idx 1), [.t 22, .t 23]⟩,
    ⟨3, some 25, none, .r (.load false 1) false, [.t 24]⟩,
    ⟨4, some 7, none, .p .mov, [.t 25]⟩])
   (.seq (.reg 0 [⟨0, some 26, none, .p .mov, [.t 1]⟩,
    ⟨1, some 27, none, .p .mov, [.t 7]⟩,
    ⟨2, some 28, none, .e .call [] [], [.t 26, .t 27]⟩,
    ⟨3, some 29, none, .p (.un .not), [.t 28]⟩])
   (.cond (.t 29) (.seq (.reg 0 [⟨0, some 30, none, .p .mov, [.t 0]⟩,
    ⟨1, some 31, none, .p .mov, [.t 5]⟩,
    ⟨2, some 32, none, .p .mov, [.t 7]⟩,
    ⟨3, some 33, none, .p (.idx 1), [.t 30, .t 31]⟩,
    ⟨4, none, none, .e (.store 1) [] [], [.t 33, .t 32]⟩])
   (.reg 0 [⟨0, some 34, none, .p .mov, [.t 5]⟩,
    ⟨1, some 35, none, .p (.bin .add), [.t 34, .c (.int .i64 1)]⟩,
    ⟨2, some 5, none, .p .mov, [.t 35]⟩]))
   (.skip)))))
   (.reg 0 [⟨0, some 20, none, .p .mov, [.t 6]⟩,
    ⟨1, some 21, none, .p (.bin .add), [.t 20, .c (.int .i64 1)]⟩,
    ⟨2, some 6, none, .p .mov, [.t 21]⟩]))
def g782 : GL.Fn := ⟨.seq (.reg 0 [⟨0, some 4, none, .p .mov, [.c (.nils)]⟩])
   (.seq (.reg 0 [⟨0, some 8, none, .p .mov, [.t 0]⟩,
    ⟨1, some 9, none, .p .mov, [.t 1]⟩,
    ⟨2, some 10, none, .e .call [] [], [.f 395, .t 8, .t 9]⟩,
    ⟨3, some 5, none, .p .mov, [.t 10]⟩])
   (.seq (.seq (.reg 0 [⟨0, some 11, none, .p .mov, [.t 5]⟩,
    ⟨1, some 12, none, .p (.bin .eql), [.t 11, .c (.int .i64 (-1))]⟩])
   (.cond (.t 12) (.seq (.reg 0 [⟨0, some 13, none, .p .mov, [.t 0]⟩,
    ⟨1, some 4, none, .p .mov, [.t 13]⟩])
   (.ret))
   (.skip)))
   (.seq (.seq (.reg 0 [⟨0, some 14, none, .p .mov, [.t 5]⟩,
    ⟨1, some 15, none, .p (.bin .add), [.t 14, .c (.int .i64 1)]⟩,
    ⟨2, some 6, none, .p .mov, [.t 15]⟩])
   (.block 0 (.loop g782_0)))
   (.seq (.reg 0 [⟨0, some 36, none, .p .mov, [.t 0]⟩,
    ⟨1, some 37, none, .p .mov, [.t 5]⟩,
    ⟨2, some 38, none, .p (.slice 1 true false false), [.t 36, .t 37]⟩,
    ⟨3, none, none, .e (.clear 1 [.nils]) [] [], [.t 38]⟩])
   (.seq (.reg 0 [⟨0, some 39, none, .p .mov, [.t 0]⟩,
    ⟨1, some 40, none, .p .mov, [.t 5]⟩,
    ⟨2, some 41, none, .p (.slice 1 false true false), [.t 39, .t 40]⟩,
    ⟨3, some 4, none, .p .mov, [.t 41]⟩])
   (.ret)))))),
  [.tmp 4]⟩
/- slices.Clone[[][]int,[]int] -/
def g780 : GL.Fn := ⟨.seq (.reg 0 [⟨0, some 2, none, .p .mov, [.c (.nils)]⟩])
   (.seq (.seq (.reg 0 [⟨0, some 3, none, .p .mov, [.t 0]⟩,
    ⟨1, some 4, none, .p (.isNil false), [.t 3]⟩])
   (.cond (.t 4) (.seq (.reg 0 [⟨0, some 2, none, .p .mov, [.c (.nils)]⟩])
   (.ret))
   (.skip)))
   (.seq (.reg 0 [⟨0, some 5, none, .e (.new (.lit 1)) [] [], []⟩,
    ⟨1, some 6, none, .p .mov, [.t 0]⟩,
    ⟨2, some 7, none, .e (.append 1 24) [] [], [.t 5, .t 6]⟩,
    ⟨3, some 2, none, .p .mov, [.t 7]⟩])
   (.ret))),
  [.tmp 2]⟩
/- loop.example/g00641/impl.WithoutOf$1 -/
def g781 : GL.Fn := ⟨.seq (.reg 0 [⟨0, some 2, none, .e (.new (.box 1)) [] [], [.t 0]⟩,
    ⟨1, some 3, none, .p .mov, [.c (.bool false)]⟩])
   (.seq (.reg 0 [⟨0, some 4, none, .p (.faddr 1), [.t 1]⟩,
    ⟨1, some 5, none, .r (.load false 1) false, [.t 4]⟩,
    ⟨2, some 6, none, .p (.mkFn 788), [.t 2]⟩,
    ⟨3, some 7, none, .e .call [] [], [.f 335, .t 5, .t 6]⟩,
    ⟨4, some 3, none, .p .mov, [.t 7]⟩])
   (.ret)),
  [.tmp 3]⟩
/- slices.ContainsFunc[[][]int,[]int] -/
def g335 : GL.Fn := ⟨.seq (.reg 0 [⟨0, some 4, none, .p .mov, [.c (.bool false)]⟩])
   (.seq (.reg 0 [⟨0, some 5, none, .p .mov, [.t 0]⟩,
    ⟨1, some 6, none, .p .mov, [.t 1]⟩,
    ⟨2, some 7, none, .e .call [] [], [.f 395, .t 5, .t 6]⟩,
    ⟨3, some 8, none, .p (.bin .geq), [.t 7, .c (.int .i64 0)]⟩,
    ⟨4, some 4, none, .p .mov, [.t 8]⟩])
   (.ret)),
  [.tmp 4]⟩
/- loop.example/g00641/impl.WithoutOf$1$1 -/
def g788 : GL.Fn := ⟨.seq (.reg 0 [⟨0, some 3, none, .p .mov, [.c (.bool false)]⟩])
   (.seq (.reg 0 [⟨0, some 4, none, .p .mov, [.t 0]⟩,
    ⟨1, some 5, none, .r (.load false 1) false, [.t 1]⟩,
    ⟨2, some 6, none, .e .call [] [], [.f 386, .t 4, .t 5]⟩,
    ⟨3, some 3, none, .p .mov, [.t 6]⟩])
   (.ret)),
  [.tmp 3]⟩
/- loop.example/g00641/impl.isKind -/
def g96 : GL.Fn := ⟨.seq (.reg 0 [⟨0, some 2, none, .p .mov, [.c (.bool false)]⟩])
   (.seq (.reg 0 [⟨0, some 3, none, .p .mov, [.t 0]⟩,
    ⟨1, some 4, none, .e .call [] [], [.f 107, .t 3, .c (.int .i64 0), .c (.int .i64 2)]⟩,
    ⟨2, some 2, none, .p .mov, [.t 4]⟩])
   (.ret)),
  [.tmp 2]⟩
/- loop.example/g00641/impl.isSmall -/
def g100 : GL.Fn := ⟨.seq (.reg 0 [⟨0, some 2, none, .p .mov, [.c (.bool false)]⟩])
   (.seq (.reg 0 [⟨0, some 3, none, .p .mov, [.t 0]⟩,
    ⟨1, some 4, none, .e .call [] [], [.f 107, .t 3, .c (.int .i64 (-1000)), .c (.int .i64 1000)]⟩,
    ⟨2, some 2, none, .p .mov, [.t 4]⟩])
   (.ret)),
  [.tmp 2]⟩
/- loop.example/g00641/impl.compare -/
def g97 : GL.Fn := ⟨.seq (.reg 0 [⟨0, some 4, none, .l (.box 4 2), [.t 1]⟩,
    ⟨1, some 5, none, .l (.box 5 2), [.t 2]⟩,
    ⟨2, some 6, none, .p .mov, [.c (.int .i64 0)]⟩])
   (.seq (.block 0 (.seq (.reg 0 [⟨0, some 8, none, .p (.faddr 0), [.t 4]⟩,
    ⟨1, some 9, none, .l (.load 4 false 1), [.t 8]⟩,
    ⟨2, some 10, none, .p .mov, [.t 9]⟩,
    ⟨3, some 11, some (10, false), .p (.faddr 0), [.t 5]⟩,
    ⟨4, some 12, some (10, false), .l (.load 5 false 1), [.t 11]⟩,
    ⟨5, some 13, none, .p .pick, [.t 10, .c (.bool true), .t 12]⟩,
    ⟨6, some 7, none, .p .mov, [.t 13]⟩])
   (.cond (.t 7) (.seq (.reg 0 [⟨0, some 6, none, .p .mov, [.c (.int .i64 1)]⟩])
   (.ret))
   (.seq (.reg 0 [⟨0, some 15, none, .p .mov, [.t 0]⟩,
    ⟨1, some 16, none, .p (.bin .eql), [.t 15, .c (.int .i64 0)]⟩,
    ⟨2, some 14, none, .p .mov, [.t 16]⟩])
   (.cond (.t 14) (.seq (.reg 0 [⟨0, some 17, none, .p (.faddr 1), [.t 4]⟩,
    ⟨1, some 18, none, .l (.load 4 false 1), [.t 17]⟩,
    ⟨2, some 19, none, .p (.faddr 1), [.t 5]⟩,
    ⟨3, some 20, none, .l (.load 5 false 1), [.t 19]⟩,
    ⟨4, some 21, none, .p (.bin .eql), [.t 18, .t 20]⟩,
    ⟨5, some 22, none, .e .call [] [], [.f 141, .t 21]⟩,
    ⟨6, some 6, none, .p .mov, [.t 22]⟩])
   (.ret))
   (.seq (.reg 0 [⟨0, some 24, none, .p .mov, [.t 0]⟩,
    ⟨1, some 25, none, .p (.bin .eql), [.t 24, .c (.int .i64 1)]⟩,
    ⟨2, some 23, none, .p .mov, [.t 25]⟩])
   (.cond (.t 23) (.seq (.reg 0 [⟨0, some 26, none, .p (.faddr 1), [.t 4]⟩,
    ⟨1, some 27, none, .l (.load 4 false 1), [.t 26]⟩,
    ⟨2, some 28, none, .p (.faddr 1), [.t 5]⟩,
    ⟨3, some 29, none, .l (.load 5 false 1), [.t 28]⟩,
    ⟨4, some 30, none, .p (.bin .lss), [.t 27, .t 29]⟩,
    ⟨5, some 31, none, .e .call [] [], [.f 141, .t 30]⟩,
    ⟨6, some 6, none, .p .mov, [.t 31]⟩])
   (.ret))
   (.skip))))))))
   (.seq (.reg 0 [⟨0, some 32, none, .p (.faddr 1), [.t 4]⟩,
    ⟨1, some 33, none, .l (.load 4 false 1), [.t 32]⟩,
    ⟨2, some 34, none, .p (.faddr 1), [.t 5]⟩,
    ⟨3, some 35, none, .l (.load 5 false 1), [.t 34]⟩,
    ⟨4, some 36, none, .p (.bin .gtr), [.t 33, .t 35]⟩,
    ⟨5, some 37, none, .e .call [] [], [.f 141, .t 36]⟩,
    ⟨6, some 6, none, .p .mov, [.t 37]⟩])
   (.ret))),
  [.tmp 6]⟩
/- (*loop.example/g00641/spec.l1Cur).pick -/
def g91 : GL.Fn := ⟨.seq (.reg 0 [⟨0, some 4, none, .p .mov, [.c (.int .i64 0)]⟩])
   (.seq (.seq (.reg 0 [⟨0, some 6, none, .p .mov, [.t 1]⟩,
    ⟨1, some 7, none, .p (.bin .leq), [.t 6, .c (.int .i64 1)]⟩])
   (.cond (.t 7) (.seq (.reg 0 [⟨0, some 4, none, .p .mov, [.c (.int .i64 0)]⟩])
   (.ret))
   (.skip)))
   (.seq (.reg 0 [⟨0, some 8, none, .p .mov, [.t 0]⟩,
    ⟨1, some 9, none, .e .call [] [], [.f 140, .t 8]⟩,
    ⟨2, some 5, none, .p .mov, [.t 9]⟩])
   (.seq (.seq (.reg 0 [⟨0, some 10, none, .p .mov, [.t 1]⟩,
    ⟨1, some 11, none, .p (.bin .gtr), [.t 10, .c (.int .i64 200)]⟩])
   (.cond (.t 11) (.reg 0 [⟨0, some 12, none, .p .mov, [.t 5]⟩,
    ⟨1, some 13, none, .p (.bin .mul), [.t 12, .c (.int .i64 256)]⟩,
    ⟨2, some 14, none, .p .mov, [.t 0]⟩,
    ⟨3, some 15, none, .e .call [] [], [.f 140, .t 14]⟩,
    ⟨4, some 16, none, .p (.bin .add), [.t 13, .t 15]⟩,
    ⟨5, some 5, none, .p .mov, [.t 16]⟩])
   (.skip)))
   (.seq (.reg 0 [⟨0, some 17, none, .p .mov, [.t 5]⟩,
    ⟨1, some 18, none, .p .mov, [.t 1]⟩,
    ⟨2, some 19, none, .p (.bin .rem), [.t 17, .t 18]⟩,
    ⟨3, some 4, none, .p .mov, [.t 19]⟩])
   (.ret))))),
  [.tmp 4]⟩
/- (*loop.example/g00641/spec.l1Cur).among -/
def g93 : GL.Fn := ⟨.seq (.reg 0 [⟨0, some 4, none, .p .mov, [.c (.int .i64 0)]⟩])
   (.seq (.reg 0 [⟨0, some 5, none, .p .mov, [.t 1]⟩,
    ⟨1, some 6, none, .p .mov, [.t 0]⟩,
    ⟨2, some 7, none, .p .mov, [.t 1]⟩,
    ⟨3, some 8, none, .p .len, [.t 7]⟩,
    ⟨4, some 9, none, .e .call [] [], [.f 91, .t 6, .t 8]⟩,
    ⟨5, some 10, none, .p (.idx 1), [.t 5, .t 9]⟩,
    ⟨6, some 11, none, .r (.load false 1) false, [.t 10]⟩,
    ⟨7, some 4, none, .p .mov, [.t 11]⟩])
   (.ret)),
  [.tmp 4]⟩
/- loop.example/g00641/spec.l1In -/
def g98 : GL.Fn := ⟨.seq (.reg 0 [⟨0, some 6, none, .p .mov, [.c (.bool false)]⟩])
   (.seq (.reg 0 [⟨0, some 7, none, .p .mov, [.t 0]⟩,
    ⟨1, some 8, none, .p .mov, [.t 1]⟩,
    ⟨2, some 9, none, .p (.bin .geq), [.t 7, .t 8]⟩,
    ⟨3, some 10, none, .p .mov, [.t 9]⟩,
    ⟨4, some 11, some (10, true), .p .mov, [.t 0]⟩,
    ⟨5, some 12, some (10, true), .p .mov, [.t 2]⟩,
    ⟨6, some 13, some (10, true), .p (.bin .leq), [.t 11, .t 12]⟩,
    ⟨7, some 14, none, .p .pick, [.t 10, .t 13, .c (.bool false)]⟩,
    ⟨8, some 6, none, .p .mov, [.t 14]⟩])
   (.ret)),
  [.tmp 6]⟩
/- loop.example/g00641/spec.l1Compare -/
def g99 : GL.Fn := ⟨.seq (.reg 0 [⟨0, some 4, none, .l (.box 4 2), [.t 1]⟩,
    ⟨1, some 5, none, .l (.box 5 2), [.t 2]⟩,
    ⟨2, some 6, none, .p .mov, [.c (.int .i64 0)]⟩])
   (.seq (.seq (.reg 0 [⟨0, some 7, none, .p (.faddr 0), [.t 4]⟩,
    ⟨1, some 8, none, .l (.load 4 false 1), [.t 7]⟩,
    ⟨2, some 9, none, .p .mov, [.t 8]⟩,
    ⟨3, some 10, some (9, false), .p (.faddr 0), [.t 5]⟩,
    ⟨4, some 11, some (9, false), .l (.load 5 false 1), [.t 10]⟩,
    ⟨5, some 12, none, .p .pick, [.t 9, .c (.bool true), .t 11]⟩])
   (.cond (.t 12) (.seq (.reg 0 [⟨0, some 6, none, .p .mov, [.c (.int .i64 1)]⟩])
   (.ret))
   (.skip)))
   (.seq (.seq (.reg 0 [⟨0, some 13, none, .p .mov, [.t 0]⟩])
   (.block 0 (.seq (.reg 0 [⟨0, some 15, none, .p (.bin .eql), [.t 13, .c (.int .i64 0)]⟩,
    ⟨1, some 14, none, .p .mov, [.t 15]⟩])
   (.cond (.t 14) (.seq (.reg 0 [⟨0, some 16, none, .p (.faddr 1), [.t 4]⟩,
    ⟨1, some 17, none, .l (.load 4 false 1), [.t 16]⟩,
    ⟨2, some 18, none, .p (.faddr 1), [.t 5]⟩,
    ⟨3, some 19, none, .l (.load 5 false 1), [.t 18]⟩,
    ⟨4, some 20, none, .p (.bin .eql), [.t 17, .t 19]⟩,
    ⟨5, some 21, none, .e .call [] [], [.f 142, .t 20]⟩,
    ⟨6, some 6, none, .p .mov, [.t 21]⟩])
   (.ret))
   (.seq (.reg 0 [⟨0, some 23, none, .p (.bin .eql), [.t 13, .c (.int .i64 1)]⟩,
    ⟨1, some 22, none, .p .mov, [.t 23]⟩])
   (.cond (.t 22) (.seq (.reg 0 [⟨0, some 24, none, .p (.faddr 1), [.t 4]⟩,
    ⟨1, some 25, none, .l (.load 4 false 1), [.t 24]⟩,
    ⟨2, some 26, none, .p (.faddr 1), [.t 5]⟩,
    ⟨3, some 27, none, .l (.load 5 false 1), [.t 26]⟩,
    ⟨4, some 28, none, .p (.bin .lss), [.t 25, .t 27]⟩,
    ⟨5, some 29, none, .e .call [] [], [.f 142, .t 28]⟩,
    ⟨6, some 6, none, .p .mov, [.t 29]⟩])
   (.ret))
   (.skip)))))))
   (.seq (.reg 0 [⟨0, some 30, none, .p (.faddr 1), [.t 4]⟩,
    ⟨1, some 31, none, .l (.load 4 false 1), [.t 30]⟩,
    ⟨2, some 32, none, .p (.faddr 1), [.t 5]⟩,
    ⟨3, some 33, none, .l (.load 5 false 1), [.t 32]⟩,
    ⟨4, some 34, none, .p (.bin .gtr), [.t 31, .t 33]⟩,
    ⟨5, some 35, none, .e .call [] [], [.f 142, .t 34]⟩,
    ⟨6, some 6, none, .p .mov, [.t 35]⟩])
   (.ret)))),
  [.tmp 6]⟩
/- loop.example/g00641/impl.isRising -/
def g385_0 : GL.Code := .seq (.reg 0 [⟨0, some 12, none, .p (.bin .lss), [.t 11, .t 10]⟩])
   (.seq (.cond (.t 12) (.skip)
   (.exit 0))
   (.seq (.block 1 (.seq (.reg 0 [⟨0, some 13, none, .p .mov, [.t 11]⟩,
    ⟨1, some 14, none, .p (.idx 1), [.t 9, .t 11]⟩,
    ⟨2, some 15, none, .r (.load false 1) false, [.t 14]⟩,
    ⟨3, some 7, none, .p .mov, [.t 13]⟩,
    ⟨4, some 8, none, .p .mov, [.t 15]⟩])
   (.seq (.reg 0 [⟨0, some 16, none, .p .mov, [.t 8]⟩,
    ⟨1, some 17, none, .p .mov, [.t 1]⟩,
    ⟨2, some 18, none, .p .mov, [.t 2]⟩,
    ⟨3, some 19, none, .e .call [] [], [.f 107, .t 16, .t 17, .t 18]⟩,
    ⟨4, some 20, none, .p (.un .not), [.t 19]⟩,
    ⟨5, some 21, none, .p .mov, [.t 20]⟩,
    ⟨6, some 22, some (21, false), .p .mov, [.t 7]⟩,
    ⟨7, some 23, some (21, false), .p (.bin .gtr), [.t 22, .c (.int .i64 0)]⟩,
    ⟨8, some 24, some (21, false), .p .mov, [.t 23]⟩,
    ⟨9, some 25, some (24, true), .p .mov, [.t 0]⟩,
    ⟨10, some 26, some (24, true), .p .mov, [.t 7]⟩,
    ⟨11, some 27, some (24, true), .p (.bin .sub), [.t 26, .c (.int .i64 1)]⟩,
    ⟨12, some 28, some (24, true), .p (.idx 1), [.t 25, .t 27]⟩,
    ⟨13, some 29, some (24, true), .r (.load false 1) false, [.t 28]⟩,
    ⟨14, some 30, some (24, true), .p .mov, [.t 8]⟩,
    ⟨15, some 31, some (24, true), .p (.bin .geq), [.t 29, .t 30]⟩,
    ⟨16, some 32, some (21, false), .p .pick, [.t 24, .t 31, .c (.bool false)]⟩,
    ⟨17, some 33, none, .p .pick, [.t 21, .c (.bool true), .t 32]⟩])
   (.cond (.t 33) (.seq (.reg 0 [⟨0, some 6, none, .p .mov, [.c (.bool false)]⟩])
   (.ret))
   (.skip)))))
   (.reg 0 [⟨0, some 34, none, .p (.bin .add), [.t 11, .c (.int .i64 1)]⟩,
    ⟨1, some 11, none, .p .mov, [.t 34]⟩])))
def g385 : GL.Fn := ⟨.seq (.reg 0 [⟨0, some 6, none, .p .mov, [.c (.bool false)]⟩])
   (.seq (.seq (.reg 0 [⟨0, some 9, none, .p .mov, [.t 0]⟩,
    ⟨1, some 10, none, .p .len, [.t 9]⟩,
    ⟨2, some 11, none, .p .mov, [.c (.int .i64 0)]⟩])
   (.block 0 (.loop g385_0)))
   (.seq (.reg 0 [⟨0, some 6, none, .p .mov, [.c (.bool true)]⟩])
   (.ret))),
  [.tmp 6]⟩
/- slices.ContainsFunc[[]int,int] -/
def g304 : GL.Fn := ⟨.seq (.reg 0 [⟨0, some 4, none, .p .mov, [.c (.bool false)]⟩])
   (.seq (.reg 0 [⟨0, some 5, none, .p .mov, [.t 0]⟩,
    ⟨1, some 6, none, .p .mov, [.t 1]⟩,
    ⟨2, some 7, none, .e .call [] [], [.f 391, .t 5, .t 6]⟩,
    ⟨3, some 8, none, .p (.bin .geq), [.t 7, .c (.int .i64 0)]⟩,
    ⟨4, some 4, none, .p .mov, [.t 8]⟩])
   (.ret)),
  [.tmp 4]⟩
/- loop.example/g00641/impl.GoodRelation$1 -/
def g676 : GL.Fn := ⟨.seq (.reg 0 [⟨0, some 2, none, .p .mov, [.c (.bool false)]⟩])
   (.seq (.reg 0 [⟨0, some 3, none, .p .mov, [.t 0]⟩,
    ⟨1, some 4, none, .e .call [] [], [.f 100, .t 3]⟩,
    ⟨2, some 5, none, .p (.un .not), [.t 4]⟩,
    ⟨3, some 2, none, .p .mov, [.t 5]⟩])
   (.ret)),
  [.tmp 2]⟩
/- slices.Compare[[]int,int] -/
def g677_0 : GL.Code := .seq (.reg 0 [⟨0, some 12, none, .p (.bin .lss), [.t 11, .t 10]⟩])
   (.seq (.cond (.t 12) (.skip)
   (.exit 0))
   (.seq (.block 1 (.seq (.reg 0 [⟨0, some 13, none, .p .mov, [.t 11]⟩,
    ⟨1, some 14, none, .p (.idx 1), [.t 9, .t 11]⟩,
    ⟨2, some 15, none, .r (.load false 1) false, [.t 14]⟩,
    ⟨3, some 5, none, .p .mov, [.t 13]⟩,
    ⟨4, some 6, none, .p .mov, [.t 15]⟩])
   (.seq (.seq (.reg 0 [⟨0, some 16, none, .p .mov, [.t 5]⟩,
    ⟨1, some 17, none, .p .mov, [.t 1]⟩,
    ⟨2, some 18, none, .p .len, [.t 17]⟩,
    ⟨3, some 19, none, .p (.bin .geq), [.t 16, .t 18]⟩])
   (.cond (.t 19) (.seq (.reg 0 [⟨0, some 4, none, .p .mov, [.c (.int .i64 1)]⟩])
   (.ret))
   (.skip)))
   (.seq (.reg 0 [⟨0, some 20, none, .p .mov, [.t 1]⟩,
    ⟨1, some 21, none, .p .mov, [.t 5]⟩,
    ⟨2, some 22, none, .p (.idx 1), [.t 20, .t 21]⟩,
    ⟨3, some 23, none, .r (.load false 1) false, [.t 22]⟩,
    ⟨4, some 7, none, .p .mov, [.t 23]⟩])
   (.seq (.reg 0 [⟨0, some 24, none, .p .mov, [.t 6]⟩,
    ⟨1, some 25, none, .p .mov, [.t 7]⟩,
    ⟨2, some 26, none, .e .call [] [], [.f 159, .t 24, .t 25]⟩,
    ⟨3, some 8, none, .p .mov, [.t 26]⟩])
   (.seq (.reg 0 [⟨0, some 27, none, .p .mov, [.t 8]⟩,
    ⟨1, some 28, none, .p (.bin .neq), [.t 27, .c (.int .i64 0)]⟩])
   (.cond (.t 28) (.seq (.reg 0 [⟨0, some 29, none, .p .mov, [.t 8]⟩,
    ⟨1, some 4, none, .p .mov, [.t 29]⟩])
   (.ret))
   (.skip))))))))
   (.reg 0 [⟨0, some 30, none, .p (.bin .add), [.t 11, .c (.int .i64 1)]⟩,
    ⟨1, some 11, none, .p .mov, [.t 30]⟩])))
def g677 : GL.Fn := ⟨.seq (.reg 0 [⟨0, some 4, none, .p .mov, [.c (.int .i64 0)]⟩])
   (.seq (.seq (.reg 0 [⟨0, some 9, none, .p .mov, [.t 0]⟩,
    ⟨1, some 10, none, .p .len, [.t 9]⟩,
    ⟨2, some 11, none, .p .mov, [.c (.int .i64 0)]⟩])
   (.block 0 (.loop g677_0)))
   (.seq (.seq (.reg 0 [⟨0, some 31, none, .p .mov, [.t 0]⟩,
    ⟨1, some 32, none, .p .len, [.t 31]⟩,
    ⟨2, some 33, none, .p .mov, [.t 1]⟩,
    ⟨3, some 34, none, .p .len, [.t 33]⟩,
    ⟨4, some 35, none, .p (.bin .lss), [.t 32, .t 34]⟩])
   (.cond (.t 35) (.seq (.reg 0 [⟨0, some 4, none, .p .mov, [.c (.int .i64 (-1))]⟩])
   (.ret))
   (.skip)))
   (.seq (.reg 0 [⟨0, some 4, none, .p .mov, [.c (.int .i64 0)]⟩])
   (.ret)))),
  [.tmp 4]⟩
/- loop.example/g00641/spec.l1Rising -/
def g337_0 : GL.Code := .seq (.reg 0 [⟨0, some 12, none, .p (.bin .lss), [.t 11, .t 10]⟩])
   (.seq (.cond (.t 12) (.skip)
   (.exit 0))
   (.seq (.block 1 (.seq (.reg 0 [⟨0, some 13, none, .p .mov, [.t 11]⟩,
    ⟨1, some 14, none, .p (.idx 1), [.t 9, .t 11]⟩,
    ⟨2, some 15, none, .r (.load false 1) false, [.t 14]⟩,
    ⟨3, some 7, none, .p .mov, [.t 13]⟩,
    ⟨4, some 8, none, .p .mov, [.t 15]⟩])
   (.seq (.reg 0 [⟨0, some 16, none, .p .mov, [.t 8]⟩,
    ⟨1, some 17, none, .p .mov, [.t 1]⟩,
    ⟨2, some 18, none, .p .mov, [.t 2]⟩,
    ⟨3, some 19, none, .e .call [] [], [.f 98, .t 16, .t 17, .t 18]⟩,
    ⟨4, some 20, none, .p (.un .not), [.t 19]⟩,
    ⟨5, some 21, none, .p .mov, [.t 20]⟩,
    ⟨6, some 22, some (21, false), .p .mov, [.t 7]⟩,
    ⟨7, some 23, some (21, false), .p (.bin .gtr), [.t 22, .c (.int .i64 0)]⟩,
    ⟨8, some 24, some (21, false), .p .mov, [.t 23]⟩,
    ⟨9, some 25, some (24, true), .p .mov, [.t 0]⟩,
    ⟨10, some 26, some (24, true), .p .mov, [.t 7]⟩,
    ⟨11, some 27, some (24, true), .p (.bin .sub), [.t 26, .c (.int .i64 1)]⟩,
    ⟨12, some 28, some (24, true), .p (.idx 1), [.t 25, .t 27]⟩,
    ⟨13, some 29, some (24, true), .r (.load false 1) false, [.t 28]⟩,
    ⟨14, some 30, some (24, true), .p .mov, [.t 8]⟩,
    ⟨15, some 31, some (24, true), .p (.bin .geq), [.t 29, .t 30]⟩,
    ⟨16, some 32, some (21, false), .p .pick, [.t 24, .t 31, .c (.bool false)]⟩,
    ⟨17, some 33, none, .p .pick, [.t 21, .c (.bool true), .t 32]⟩])
   (.cond (.t 33) (.seq (.reg 0 [⟨0, some 6, none, .p .mov, [.c (.bool false)]⟩])
   (.ret))
   (.skip)))))
   (.reg 0 [⟨0, some 34, none, .p (.bin .add), [.t 11, .c (.int .i64 1)]⟩,
    ⟨1, some 11, none, .p .mov, [.t 34]⟩])))
def g337 : GL.Fn := ⟨.seq (.reg 0 [⟨0, some 6, none, .p .mov, [.c (.bool false)]⟩])
   (.seq (.seq (.reg 0 [⟨0, some 9, none, .p .mov, [.t 0]⟩,
    ⟨1, some 10, none, .p .len, [.t 9]⟩,
    ⟨2, some 11, none, .p .mov, [.c (.int .i64 0)]⟩])
   (.block 0 (.loop g337_0)))
   (.seq (.reg 0 [⟨0, some 6, none, .p .mov, [.c (.bool true)]⟩])
   (.ret))),
  [.tmp 6]⟩
/- loop.example/g00641/spec.l1All -/
def g94_0 : GL.Code := .seq (.reg 0 [⟨0, some 12, none, .p (.bin .lss), [.t 11, .t 10]⟩])
   (.seq (.cond (.t 12) (.skip)
   (.exit 0))
   (.seq (.block 1 (.seq (.reg 0 [⟨0, some 13, none, .p (.idx 1), [.t 9, .t 11]⟩,
    ⟨1, some 14, none, .r (.load false 1) false, [.t 13]⟩,
    ⟨2, some 8, none, .p .mov, [.t 14]⟩])
   (.seq (.reg 0 [⟨0, some 15, none, .p .mov, [.t 8]⟩,
    ⟨1, some 16, none, .p .mov, [.t 1]⟩,
    ⟨2, some 17, none, .p .mov, [.t 2]⟩,
    ⟨3, some 18, none, .e .call [] [], [.f 98, .t 15, .t 16, .t 17]⟩,
    ⟨4, some 19, none, .p (.un .not), [.t 18]⟩])
   (.cond (.t 19) (.seq (.reg 0 [⟨0, some 6, none, .p .mov, [.c (.bool false)]⟩])
   (.ret))
   (.skip)))))
   (.reg 0 [⟨0, some 20, none, .p (.bin .add), [.t 11, .c (.int .i64 1)]⟩,
    ⟨1, some 11, none, .p .mov, [.t 20]⟩])))
def g94 : GL.Fn := ⟨.seq (.reg 0 [⟨0, some 6, none, .p .mov, [.c (.bool false)]⟩])
   (.seq (.seq (.reg 0 [⟨0, some 9, none, .p .mov, [.t 0]⟩,
    ⟨1, some 10, none, .p .len, [.t 9]⟩,
    ⟨2, some 11, none, .p .mov, [.c (.int .i64 0)]⟩])
   (.block 0 (.loop g94_0)))
   (.seq (.reg 0 [⟨0, some 6, none, .p .mov, [.c (.bool true)]⟩])
   (.ret))),
  [.tmp 6]⟩
/- loop.example/g00641/spec.l3Less -/
def g678_0 : GL.Code := .seq (.reg 0 [⟨0, some 9, none, .p (.bin .lss), [.t 8, .t 7]⟩])
   (.seq (.cond (.t 9) (.skip)
   (.exit 0))
   (.seq (.block 1 (.seq (.reg 0 [⟨0, some 10, none, .p .mov, [.t 8]⟩,
    ⟨1, some 5, none, .p .mov, [.t 10]⟩])
   (.seq (.reg 0 [⟨0, some 11, none, .p .mov, [.t 0]⟩,
    ⟨1, some 12, none, .p .mov, [.t 5]⟩,
    ⟨2, some 13, none, .p (.idx 1), [.t 11, .t 12]⟩,
    ⟨3, some 14, none, .r (.load false 1) false, [.t 13]⟩,
    ⟨4, some 15, none, .p .mov, [.t 1]⟩,
    ⟨5, some 16, none, .p .mov, [.t 5]⟩,
    ⟨6, some 17, none, .p (.idx 1), [.t 15, .t 16]⟩,
    ⟨7, some 18, none, .r (.load false 1) false, [.t 17]⟩,
    ⟨8, some 19, none, .p (.bin .neq), [.t 14, .t 18]⟩])
   (.cond (.t 19) (.seq (.reg 0 [⟨0, some 20, none, .p .mov, [.t 0]⟩,
    ⟨1, some 21, none, .p .mov, [.t 5]⟩,
    ⟨2, some 22, none, .p (.idx 1), [.t 20, .t 21]⟩,
    ⟨3, some 23, none, .r (.load false 1) false, [.t 22]⟩,
    ⟨4, some 24, none, .p .mov, [.t 1]⟩,
    ⟨5, some 25, none, .p .mov, [.t 5]⟩,
    ⟨6, some 26, none, .p (.idx 1), [.t 24, .t 25]⟩,
    ⟨7, some 27, none, .r (.load false 1) false, [.t 26]⟩,
    ⟨8, some 28, none, .p (.bin .lss), [.t 23, .t 27]⟩,
    ⟨9, some 4, none, .p .mov, [.t 28]⟩])
   (.ret))
   (.skip)))))
   (.reg 0 [⟨0, some 29, none, .p (.bin .add), [.t 8, .c (.int .i64 1)]⟩,
    ⟨1, some 8, none, .p .mov, [.t 29]⟩])))
def g678 : GL.Fn := ⟨.seq (.reg 0 [⟨0, some 4, none, .p .mov, [.c (.bool false)]⟩])
   (.seq (.seq (.reg 0 [⟨0, some 6, none, .p .mov, [.t 0]⟩,
    ⟨1, some 7, none, .p .len, [.t 6]⟩,
    ⟨2, some 8, none, .p .mov, [.c (.int .i64 0)]⟩])
   (.block 0 (.loop g678_0)))
   (.seq (.reg 0 [⟨0, some 4, none, .p .mov, [.c (.bool false)]⟩])
   (.ret))),
  [.tmp 4]⟩
/- slices.Concat[[][]int,[]int] -/
def g783_0 : GL.Code := .seq (.reg 0 [⟨0, some 12, none, .p (.bin .lss), [.t 11, .t 10]⟩])
   (.seq (.cond (.t 12) (.skip)
   (.exit 0))
   (.seq (.block 1 (.seq (.reg 0 [⟨0, some 13, none, .p (.idx 1), [.t 9, .t 11]⟩,
    ⟨1, some 14, none, .r (.load false 1) false, [.t 13]⟩,
    ⟨2, some 5, none, .p .mov, [.t 14]⟩])
   (.seq (.reg 0 [⟨0, some 15, none, .p .mov, [.t 3]⟩,
    ⟨1, some 16, none, .p .mov, [.t 5]⟩,
    ⟨2, some 17, none, .p .len, [.t 16]⟩,
    ⟨3, some 18, none, .p (.bin .add), [.t 15, .t 17]⟩,
    ⟨4, some 3, none, .p .mov, [.t 18]⟩])
   (.seq (.reg 0 [⟨0, some 19, none, .p .mov, [.t 3]⟩,
    ⟨1, some 20, none, .p (.bin .lss), [.t 19, .c (.int .i64 0)]⟩])
   (.cond (.t 20) (.reg 0 [⟨0, some 21, none, .p .bad, []⟩,
    ⟨1, none, none, .p .bad, []⟩])
   (.skip))))))
   (.reg 0 [⟨0, some 22, none, .p (.bin .add), [.t 11, .c (.int .i64 1)]⟩,
    ⟨1, some 11, none, .p .mov, [.t 22]⟩])))
def g783_1 : GL.Code := .seq (.reg 0 [⟨0, some 28, none, .p (.bin .lss), [.t 27, .t 26]⟩])
   (.seq (.cond (.t 28) (.skip)
   (.exit 2))
   (.seq (.block 3 (.seq (.reg 0 [⟨0, some 29, none, .p (.idx 1), [.t 25, .t 27]⟩,
    ⟨1, some 30, none, .r (.load false 1) false, [.t 29]⟩,
    ⟨2, some 8, none, .p .mov, [.t 30]⟩])
   (.reg 0 [⟨0, some 31, none, .p .mov, [.t 6]⟩,
    ⟨1, some 32, none, .p .mov, [.t 8]⟩,
    ⟨2, some 33, none, .e (.append 1 24) [] [], [.t 31, .t 32]⟩,
    ⟨3, some 6, none, .p .mov, [.t 33]⟩])))
   (.reg 0 [⟨0, some 34, none, .p (.bin .add), [.t 27, .c (.int .i64 1)]⟩,
    ⟨1, some 27, none, .p .mov, [.t 34]⟩])))
def g783 : GL.Fn := ⟨.seq (.reg 0 [⟨0, some 2, none, .p .mov, [.c (.nils)]⟩])
   (.seq (.reg 0 [⟨0, some 3, none, .p .mov, [.c (.int .i64 0)]⟩])
   (.seq (.seq (.reg 0 [⟨0, some 9, none, .p .mov, [.t 0]⟩,
    ⟨1, some 10, none, .p .len, [.t 9]⟩,
    ⟨2, some 11, none, .p .mov, [.c (.int .i64 0)]⟩])
   (.block 0 (.loop g783_0)))
   (.seq (.reg 0 [⟨0, some 23, none, .p .mov, [.t 3]⟩,
    ⟨1, some 24, none, .e .call [] [], [.f 789, .c (.nils), .t 23]⟩,
    ⟨2, some 6, none, .p .mov, [.t 24]⟩])
   (.seq (.seq (.reg 0 [⟨0, some 25, none, .p .mov, [.t 0]⟩,
    ⟨1, some 26, none, .p .len, [.t 25]⟩,
    ⟨2, some 27, none, .p .mov, [.c (.int .i64 0)]⟩])
   (.block 2 (.loop g783_1)))
   (.seq (.reg 0 [⟨0, some 35, none, .p .mov, [.t 6]⟩,
    ⟨1, some 2, none, .p .mov, [.t 35]⟩])
   (.ret)))))),
  [.tmp 2]⟩
/- (*loop.example/g00641/spec.l1Cur).one -/
def g92 : GL.Fn := ⟨.seq (.reg 0 [⟨0, some 4, none, .p .mov, [.c (.bool false)]⟩])
   (.seq (.reg 0 [⟨0, some 5, none, .p .mov, [.t 0]⟩,
    ⟨1, some 6, none, .p .mov, [.t 1]⟩,
    ⟨2, some 7, none, .e .call [] [], [.f 91, .t 5, .t 6]⟩,
    ⟨3, some 8, none, .p (.bin .eql), [.t 7, .c (.int .i64 0)]⟩,
    ⟨4, some 4, none, .p .mov, [.t 8]⟩])
   (.ret)),
  [.tmp 4]⟩
/- loop.example/g00641/spec.l3Two -/
def g784 : GL.Fn := ⟨.seq (.reg 0 [⟨0, some 2, none, .l (.box 2 2), [.t 0]⟩,
    ⟨1, some 3, none, .l (.box 3 2), [.t 1]⟩,
    ⟨2, some 4, none, .p .mov, [.c (.bool false)]⟩])
   (.seq (.reg 0 [⟨0, some 5, none, .l (.load 2 true 2), [.t 2]⟩,
    ⟨1, some 6, none, .e .call [] [], [.f 662, .t 5]⟩,
    ⟨2, some 7, none, .p .mov, [.t 6]⟩,
    ⟨3, some 8, some (7, true), .l (.load 3 true 2), [.t 3]⟩,
    ⟨4, some 9, some (7, true), .e .call [] [], [.f 662, .t 8]⟩,
    ⟨5, some 10, none, .p .pick, [.t 7, .t 9, .c (.bool false)]⟩,
    ⟨6, some 11, none, .p .mov, [.t 10]⟩,
    ⟨7, some 12, some (11, true), .p (.faddr 0), [.t 2]⟩,
    ⟨8, some 13, some (11, true), .l (.load 2 false 1), [.t 12]⟩,
    ⟨9, some 14, some (11, true), .p (.faddr 0), [.t 3]⟩,
    ⟨10, some 15, some (11, true), .l (.load 3 false 1), [.t 14]⟩,
    ⟨11, some 16, some (11, true), .e .call [] [], [.f 356, .t 13, .t 15]⟩,
    ⟨12, some 17, none, .p .pick, [.t 11, .t 16, .c (.bool false)]⟩,
    ⟨13, some 4, none, .p .mov, [.t 17]⟩])
   (.ret)),
  [.tmp 4]⟩
/- loop.example/g00641/spec.l3Has -/
def g785_0 : GL.Code := .seq (.reg 0 [⟨0, some 10, none, .p (.bin .lss), [.t 9, .t 8]⟩])
   (.seq (.cond (.t 10) (.skip)
   (.exit 0))
   (.seq (.block 1 (.seq (.reg 0 [⟨0, some 11, none, .p (.idx 1), [.t 7, .t 9]⟩,
    ⟨1, some 12, none, .r (.load false 1) false, [.t 11]⟩,
    ⟨2, some 6, none, .p .mov, [.t 12]⟩])
   (.seq (.reg 0 [⟨0, some 13, none, .p .mov, [.t 6]⟩,
    ⟨1, some 14, none, .p .mov, [.t 1]⟩,
    ⟨2, some 15, none, .e .call [] [], [.f 356, .t 13, .t 14]⟩])
   (.cond (.t 15) (.seq (.reg 0 [⟨0, some 4, none, .p .mov, [.c (.bool true)]⟩])
   (.ret))
   (.skip)))))
   (.reg 0 [⟨0, some 16, none, .p (.bin .add), [.t 9, .c (.int .i64 1)]⟩,
    ⟨1, some 9, none, .p .mov, [.t 16]⟩])))
def g785 : GL.Fn := ⟨.seq (.reg 0 [⟨0, some 4, none, .p .mov, [.c (.bool false)]⟩])
   (.seq (.seq (.reg 0 [⟨0, some 7, none, .p .mov, [.t 0]⟩,
    ⟨1, some 8, none, .p .len, [.t 7]⟩,
    ⟨2, some 9, none, .p .mov, [.c (.int .i64 0)]⟩])
   (.block 0 (.loop g785_0)))
   (.seq (.reg 0 [⟨0, some 4, none, .p .mov, [.c (.bool false)]⟩])
   (.ret))),
  [.tmp 4]⟩
/- loop.example/g00641/spec.l3Sub -/
def g663_0 : GL.Code := .seq (.reg 0 [⟨0, some 10, none, .p (.bin .lss), [.t 9, .t 8]⟩])
   (.seq (.cond (.t 10) (.skip)
   (.exit 0))
   (.seq (.block 1 (.seq (.reg 0 [⟨0, some 11, none, .p (.idx 1), [.t 7, .t 9]⟩,
    ⟨1, some 12, none, .r (.load false 1) false, [.t 11]⟩,
    ⟨2, some 6, none, .p .mov, [.t 12]⟩])
   (.seq (.reg 0 [⟨0, some 13, none, .p .mov, [.t 0]⟩,
    ⟨1, some 14, none, .p .mov, [.t 6]⟩,
    ⟨2, some 15, none, .e .call [] [], [.f 606, .t 13, .t 14]⟩,
    ⟨3, some 16, none, .p (.bin .lss), [.t 15, .c (.int .i64 0)]⟩])
   (.cond (.t 16) (.seq (.reg 0 [⟨0, some 4, none, .p .mov, [.c (.bool false)]⟩])
   (.ret))
   (.skip)))))
   (.reg 0 [⟨0, some 17, none, .p (.bin .add), [.t 9, .c (.int .i64 1)]⟩,
    ⟨1, some 9, none, .p .mov, [.t 17]⟩])))
def g663 : GL.Fn := ⟨.seq (.reg 0 [⟨0, some 4, none, .p .mov, [.c (.bool false)]⟩])
   (.seq (.seq (.reg 0 [⟨0, some 7, none, .p .mov, [.t 1]⟩,
    ⟨1, some 8, none, .p .len, [.t 7]⟩,
    ⟨2, some 9, none, .p .mov, [.c (.int .i64 0)]⟩])
   (.block 0 (.loop g663_0)))
   (.seq (.reg 0 [⟨0, some 18, none, .p .mov, [.t 1]⟩,
    ⟨1, some 19, none, .e .call [] [], [.f 337, .t 18, .c (.int .i64 0), .c (.int .i64 20)]⟩,
    ⟨2, some 4, none, .p .mov, [.t 19]⟩])
   (.ret))),
  [.tmp 4]⟩
/- slices.Contains[[]int,int] -/
def g301 : GL.Fn := ⟨.seq (.reg 0 [⟨0, some 4, none, .p .mov, [.c (.bool false)]⟩])
   (.seq (.reg 0 [⟨0, some 5, none, .p .mov, [.t 0]⟩,
    ⟨1, some 6, none, .p .mov, [.t 1]⟩,
    ⟨2, some 7, none, .e .call [] [], [.f 390, .t 5, .t 6]⟩,
    ⟨3, some 8, none, .p (.bin .geq), [.t 7, .c (.int .i64 0)]⟩,
    ⟨4, some 4, none, .p .mov, [.t 8]⟩])
   (.ret)),
  [.tmp 4]⟩
/- loop.example/g00641/impl.within -/
def g107 : GL.Fn := ⟨.seq (.reg 0 [⟨0, some 6, none, .p .mov, [.c (.bool false)]⟩])
   (.seq (.reg 0 [⟨0, some 7, none, .p .mov, [.t 0]⟩,
    ⟨1, some 8, none, .p .mov, [.t 1]⟩,
    ⟨2, some 9, none, .p (.bin .geq), [.t 7, .t 8]⟩,
    ⟨3, some 10, none, .p .mov, [.t 9]⟩,
    ⟨4, some 11, some (10, true), .p .mov, [.t 0]⟩,
    ⟨5, some 12, some (10, true), .p .mov, [.t 2]⟩,
    ⟨6, some 13, some (10, true), .p (.bin .leq), [.t 11, .t 12]⟩,
    ⟨7, some 14, none, .p .pick, [.t 10, .t 13, .c (.bool false)]⟩,
    ⟨8, some 6, none, .p .mov, [.t 14]⟩])
   (.ret)),
  [.tmp 6]⟩
/- slices.Clone[[]int,int] -/
def g389 : GL.Fn := ⟨.seq (.reg 0 [⟨0, some 2, none, .p .mov, [.c (.nils)]⟩])
   (.seq (.seq (.reg 0 [⟨0, some 3, none, .p .mov, [.t 0]⟩,
    ⟨1, some 4, none, .p (.isNil false), [.t 3]⟩])
   (.cond (.t 4) (.seq (.reg 0 [⟨0, some 2, none, .p .mov, [.c (.nils)]⟩])
   (.ret))
   (.skip)))
   (.seq (.reg 0 [⟨0, some 5, none, .e (.new (.lit 1)) [] [], []⟩,
    ⟨1, some 6, none, .p .mov, [.t 0]⟩,
    ⟨2, some 7, none, .e (.append 1 8) [] [], [.t 5, .t 6]⟩,
    ⟨3, some 2, none, .p .mov, [.t 7]⟩])
   (.ret))),
  [.tmp 2]⟩
/- slices.CompactFunc[[][]int,[]int] -/
def g686_0 : GL.Code := .seq (.seq (.reg 0 [⟨0, some 32, none, .p .mov, [.t 7]⟩,
    ⟨1, some 33, none, .p .mov, [.t 6]⟩,
    ⟨2, some 34, none, .p .len, [.t 33]⟩,
    ⟨3, some 35, none, .p (.bin .lss), [.t 32, .t 34]⟩])
   (.cond (.t 35) (.skip)
   (.exit 2)))
   (.seq (.block 3 (.seq (.reg 0 [⟨0, some 38, none, .p .mov, [.t 1]⟩,
    ⟨1, some 39, none, .p .mov, [.t 6]⟩,
    ⟨2, some 40, none, .p .mov, [.t 7]⟩,
    ⟨3, some 41, none, .p (.idx 1), [.t 39, .t 40]⟩,
    ⟨4, some 42, none, .r (.load false 1) false, [.t 41]⟩,
    ⟨5, some 43, none, .p .mov, [.t 6]⟩,
    ⟨6, some 44, none, .p .mov, [.t 7]⟩,
    ⟨7, some 45, none, .p (.bin .sub), [.t 44, .c (.int .i64 1)]⟩,
    ⟨8, some 46, none, .p (.idx 1), [.t 43, .t 45]⟩,
    ⟨9, some 47, none, .r (.load false 1) false, [.t 46]⟩,
    ⟨10, some 48, none, .e .call [] [], [.t 38, .t 42, .t 47]⟩,
    ⟨11, some 49, none, .p (.un .not), [.t 48]⟩])
   (.cond (.t 49) (.seq (.reg 0 [⟨0, some 50, none, .p .mov, [.t 0]⟩,
    ⟨1, some 51, none, .p .mov, [.t 5]⟩,
    ⟨2, some 52, none, .p .mov, [.t 6]⟩,
    ⟨3, some 53, none, .p .mov, [.t 7]⟩,
    ⟨4, some 54, none, .p (.idx 1), [.t 52, .t 53]⟩,
    ⟨5, some 55, none, .r (.load false 1) false, [.t 54]⟩,
    ⟨6, some 56, none, .p (.idx 1), [.t 50, .t 51]⟩,
    ⟨7, none, none, .e (.store 1) [] [], [.t 56, .t 55]⟩])
   (.reg 0 [⟨0, some 57, none, .p .mov, [.t 5]⟩,
    ⟨1, some 58, none, .p (.bin .add), [.t 57, .c (.int .i64 1)]⟩,
    ⟨2, some 5, none, .p .mov, [.t 58]⟩]))
   (.skip))))
   (.reg 0 [⟨0, some 36, none, .p .mov, [.t 7]⟩,
    ⟨1, some 37, none, .p (.bin .add), [.t 36, .c (.int .i64 1)]⟩,
    ⟨2, some 7, none, .p .mov, [.t 37]⟩]))
def g686_1 : GL.Code := .seq (.seq (.reg 0 [⟨0, some 12, none, .p .mov, [.t 5]⟩,
    ⟨1, some 13, none, .p .mov, [.t 0]⟩,
    ⟨2, some 14, none, .p .len, [.t 13]⟩,
    ⟨3, some 15, none, .p (.bin .lss), [.t 12, .t 14]⟩])
   (.cond (.t 15) (.skip)
   (.exit 0)))
   (.seq (.block 1 (.seq (.reg 0 [⟨0, some 18, none, .p .mov, [.t 1]⟩,
    ⟨1, some 19, none, .p .mov, [.t 0]⟩,
    ⟨2, some 20, none, .p .mov, [.t 5]⟩,
    ⟨3, some 21, none, .p (.idx 1), [.t 19, .t 20]⟩,
    ⟨4, some 22, none, .r (.load false 1) false, [.t 21]⟩,
    ⟨5, some 23, none, .p .mov, [.t 0]⟩,
    ⟨6, some 24, none, .p .mov, [.t 5]⟩,
    ⟨7, some 25, none, .p (.bin .sub), [.t 24, .c (.int .i64 1)]⟩,
    ⟨8, some 26, none, .p (.idx 1), [.t 23, .t 25]⟩,
    ⟨9, some 27, none, .r (.load false 1) false, [.t 26]⟩,
    ⟨10, some 28, none, .e .call [] [], [.t 18, .t 22, .t 27]⟩])
   (.cond (.t 28) (.seq (.reg 0 [⟨0, some 29, none, .p .mov, [.t 0]⟩,
    ⟨1, some 30, none, .p .mov, [.t 5]⟩,
    ⟨2, some 31, none, .p (.slice 1 true false false), [.t 29, .t 30]⟩,
    ⟨3, some 6, none, .p .mov, [.t 31]⟩])
   (.seq (.seq (.reg 0 [⟨0, some 7, none, .p .mov, [.c (.int .i64 1)]⟩])
   (.block 2 (.loop g686_0)))
   (.seq (.reg 0 [⟨0, some 59, none, .p .mov, [.t 0]⟩,
    ⟨1, some 60, none, .p .mov, [.t 5]⟩,
    ⟨2, some 61, none, .p (.slice 1 true false false), [.t 59, .t 60]⟩,
    ⟨3, none, none, .e (.clear 1 [.nils]) [] [], [.t 61]⟩])
   (.seq (.reg 0 [⟨0, some 62, none, .p .mov, [.t 0]⟩,
    ⟨1, some 63, none, .p .mov, [.t 5]⟩,
    ⟨2, some 64, none, .p (.slice 1 false true false), [.t 62, .t 63]⟩,
    ⟨3, some 4, none, .p .mov, [.t 64]⟩])
   (.ret)))))
   (.skip))))
   (.reg 0 [⟨0, some 16, none, .p .mov, [.t 5]⟩,
    ⟨1, some 17, none, .p (.bin .add), [.t 16, .c (.int .i64 1)]⟩,
    ⟨2, some 5, none, .p .mov, [.t 17]⟩]))
def g686 : GL.Fn := ⟨.seq (.reg 0 [⟨0, some 4, none, .p .mov, [.c (.nils)]⟩])
   (.seq (.seq (.reg 0 [⟨0, some 8, none, .p .mov, [.t 0]⟩,
    ⟨1, some 9, none, .p .len, [.t 8]⟩,
    ⟨2, some 10, none, .p (.bin .lss), [.t 9, .c (.int .i64 2)]⟩])
   (.cond (.t 10) (.seq (.reg 0 [⟨0, some 11, none, .p .mov, [.t 0]⟩,
    ⟨1, some 4, none, .p .mov, [.t 11]⟩])
   (.ret))
   (.skip)))
   (.seq (.seq (.reg 0 [⟨0, some 5, none, .p .mov, [.c (.int .i64 1)]⟩])
   (.block 0 (.loop g686_1)))
   (.seq (.reg 0 [⟨0, some 65, none, .p .mov, [.t 0]⟩,
    ⟨1, some 4, none, .p .mov, [.t 65]⟩])
   (.ret)))),
  [.tmp 4]⟩
/- slices.IndexFunc[[][]int,[]int] -/
def g395_0 : GL.Code := .seq (.reg 0 [⟨0, some 9, none, .p (.bin .lss), [.t 8, .t 7]⟩])
   (.seq (.cond (.t 9) (.skip)
   (.exit 0))
   (.seq (.block 1 (.seq (.reg 0 [⟨0, some 10, none, .p .mov, [.t 8]⟩,
    ⟨1, some 5, none, .p .mov, [.t 10]⟩])
   (.seq (.reg 0 [⟨0, some 11, none, .p .mov, [.t 1]⟩,
    ⟨1, some 12, none, .p .mov, [.t 0]⟩,
    ⟨2, some 13, none, .p .mov, [.t 5]⟩,
    ⟨3, some 14, none, .p (.idx 1), [.t 12, .t 13]⟩,
    ⟨4, some 15, none, .r (.load false 1) false, [.t 14]⟩,
    ⟨5, some 16, none, .e .call [] [], [.t 11, .t 15]⟩])
   (.cond (.t 16) (.seq (.reg 0 [⟨0, some 17, none, .p .mov, [.t 5]⟩,
    ⟨1, some 4, none, .p .mov, [.t 17]⟩])
   (.ret))
   (.skip)))))
   (.reg 0 [⟨0, some 18, none, .p (.bin .add), [.t 8, .c (.int .i64 1)]⟩,
    ⟨1, some 8, none, .p .mov, [.t 18]⟩])))
def g395 : GL.Fn := ⟨.seq (.reg 0 [⟨0, some 4, none, .p .mov, [.c (.int .i64 0)]⟩])
   (.seq (.seq (.reg 0 [⟨0, some 6, none, .p .mov, [.t 0]⟩,
    ⟨1, some 7, none, .p .len, [.t 6]⟩,
    ⟨2, some 8, none, .p .mov, [.c (.int .i64 0)]⟩])
   (.block 0 (.loop g395_0)))
   (.seq (.reg 0 [⟨0, some 4, none, .p .mov, [.c (.int .i64 (-1))]⟩])
   (.ret))),
  [.tmp 4]⟩
/- loop.example/g00641/impl.truth -/
def g141 : GL.Fn := ⟨.seq (.reg 0 [⟨0, some 2, none, .p .mov, [.c (.int .i64 0)]⟩])
   (.seq (.seq (.reg 0 [⟨0, some 3, none, .p .mov, [.t 0]⟩])
   (.cond (.t 3) (.seq (.reg 0 [⟨0, some 2, none, .p .mov, [.c (.int .i64 2)]⟩])
   (.ret))
   (.skip)))
   (.seq (.reg 0 [⟨0, some 2, none, .p .mov, [.c (.int .i64 0)]⟩])
   (.ret))),
  [.tmp 2]⟩
/- (*loop.example/g00641/spec.l1Cur).next -/
def g140 : GL.Fn := ⟨.seq (.reg 0 [⟨0, some 2, none, .p .mov, [.c (.int .i64 0)]⟩])
   (.seq (.reg 0 [⟨0, some 3, none, .p .mov, [.c (.int .i64 0)]⟩])
   (.seq (.seq (.reg 0 [⟨0, some 4, none, .p .mov, [.t 0]⟩,
    ⟨1, some 5, none, .p .nilCheck, [.t 4]⟩,
    ⟨2, some 6, none, .p (.faddr 1), [.t 5]⟩,
    ⟨3, some 7, none, .r (.load false 1) false, [.t 6]⟩,
    ⟨4, some 8, none, .p .mov, [.t 0]⟩,
    ⟨5, some 9, none, .p .nilCheck, [.t 8]⟩,
    ⟨6, some 10, none, .p (.faddr 0), [.t 9]⟩,
    ⟨7, some 11, none, .r (.load false 1) false, [.t 10]⟩,
    ⟨8, some 12, none, .p .len, [.t 11]⟩,
    ⟨9, some 13, none, .p (.bin .lss), [.t 7, .t 12]⟩])
   (.cond (.t 13) (.reg 0 [⟨0, some 14, none, .p .mov, [.t 0]⟩,
    ⟨1, some 15, none, .p .nilCheck, [.t 14]⟩,
    ⟨2, some 16, none, .p (.faddr 0), [.t 15]⟩,
    ⟨3, some 17, none, .r (.load false 1) false, [.t 16]⟩,
    ⟨4, some 18, none, .p .mov, [.t 0]⟩,
    ⟨5, some 19, none, .p .nilCheck, [.t 18]⟩,
    ⟨6, some 20, none, .p (.faddr 1), [.t 19]⟩,
    ⟨7, some 21, none, .r (.load false 1) false, [.t 20]⟩,
    ⟨8, some 22, none, .p (.idx 1), [.t 17, .t 21]⟩,
    ⟨9, some 23, none, .r (.load false 1) false, [.t 22]⟩,
    ⟨10, some 24, none, .p (.conv .i64), [.t 23]⟩,
    ⟨11, some 3, none, .p .mov, [.t 24]⟩])
   (.skip)))
   (.seq (.reg 0 [⟨0, some 25, none, .p .mov, [.t 0]⟩,
    ⟨1, some 26, none, .p .nilCheck, [.t 25]⟩,
    ⟨2, some 27, none, .p (.faddr 1), [.t 26]⟩,
    ⟨3, some 28, none, .r (.load false 1) false, [.t 27]⟩,
    ⟨4, some 29, none, .p (.bin .add), [.t 28, .c (.int .i64 1)]⟩,
    ⟨5, some 30, none, .p .nilCheck, [.t 25]⟩,
    ⟨6, some 31, none, .p (.faddr 1), [.t 30]⟩,
    ⟨7, none, none, .e (.store 1) [] [], [.t 31, .t 29]⟩])
   (.seq (.reg 0 [⟨0, some 32, none, .p .mov, [.t 0]⟩,
    ⟨1, some 33, none, .p .mov, [.t 0]⟩,
    ⟨2, some 34, none, .p .nilCheck, [.t 33]⟩,
    ⟨3, some 35, none, .p (.faddr 2), [.t 34]⟩,
    ⟨4, some 36, none, .r (.load false 1) false, [.t 35]⟩,
    ⟨5, some 37, none, .p (.bin .mul), [.t 36, .c (.int .u64 6364136223846793005)]⟩,
    ⟨6, some 38, none, .p .mov, [.t 3]⟩,
    ⟨7, some 39, none, .p (.conv .u64), [.t 38]⟩,
    ⟨8, some 40, none, .p (.bin .add), [.t 37, .t 39]⟩,
    ⟨9, some 41, none, .p (.bin .add), [.t 40, .c (.int .u64 1442695040888963407)]⟩,
    ⟨10, some 42, none, .p .nilCheck, [.t 32]⟩,
    ⟨11, some 43, none, .p (.faddr 2), [.t 42]⟩,
    ⟨12, none, none, .e (.store 1) [] [], [.t 43, .t 41]⟩])
   (.seq (.seq (.reg 0 [⟨0, some 44, none, .p .mov, [.t 0]⟩,
    ⟨1, some 45, none, .p .nilCheck, [.t 44]⟩,
    ⟨2, some 46, none, .p (.faddr 1), [.t 45]⟩,
    ⟨3, some 47, none, .r (.load false 1) false, [.t 46]⟩,
    ⟨4, some 48, none, .p .mov, [.t 0]⟩,
    ⟨5, some 49, none, .p .nilCheck, [.t 48]⟩,
    ⟨6, some 50, none, .p (.faddr 0), [.t 49]⟩,
    ⟨7, some 51, none, .r (.load false 1) false, [.t 50]⟩,
    ⟨8, some 52, none, .p .len, [.t 51]⟩,
    ⟨9, some 53, none, .p (.bin .leq), [.t 47, .t 52]⟩])
   (.cond (.t 53) (.seq (.reg 0 [⟨0, some 54, none, .p .mov, [.t 3]⟩,
    ⟨1, some 2, none, .p .mov, [.t 54]⟩])
   (.ret))
   (.skip)))
   (.seq (.reg 0 [⟨0, some 55, none, .p .mov, [.t 0]⟩,
    ⟨1, some 56, none, .p .nilCheck, [.t 55]⟩,
    ⟨2, some 57, none, .p (.faddr 2), [.t 56]⟩,
    ⟨3, some 58, none, .r (.load false 1) false, [.t 57]⟩,
    ⟨4, some 59, none, .p (.bin .shr), [.t 58, .c (.int .u64 40)]⟩,
    ⟨5, some 60, none, .p (.bin .and), [.t 59, .c (.int .u64 255)]⟩,
    ⟨6, some 61, none, .p (.conv .i64), [.t 60]⟩,
    ⟨7, some 2, none, .p .mov, [.t 61]⟩])
   (.ret))))))),
  [.tmp 2]⟩
/- loop.example/g00641/spec.l1Is -/
def g142 : GL.Fn := ⟨.seq (.reg 0 [⟨0, some 2, none, .p .mov, [.c (.int .i64 0)]⟩])
   (.seq (.seq (.reg 0 [⟨0, some 3, none, .p .mov, [.t 0]⟩])
   (.cond (.t 3) (.seq (.reg 0 [⟨0, some 2, none, .p .mov, [.c (.int .i64 2)]⟩])
   (.ret))
   (.skip)))
   (.seq (.reg 0 [⟨0, some 2, none, .p .mov, [.c (.int .i64 0)]⟩])
   (.ret))),
  [.tmp 2]⟩
/- slices.IndexFunc[[]int,int] -/
def g391_0 : GL.Code := .seq (.reg 0 [⟨0, some 9, none, .p (.bin .lss), [.t 8, .t 7]⟩])
   (.seq (.cond (.t 9) (.skip)
   (.exit 0))
   (.seq (.block 1 (.seq (.reg 0 [⟨0, some 10, none, .p .mov, [.t 8]⟩,
    ⟨1, some 5, none, .p .mov, [.t 10]⟩])
   (.seq (.reg 0 [⟨0, some 11, none, .p .mov, [.t 1]⟩,
    ⟨1, some 12, none, .p .mov, [.t 0]⟩,
    ⟨2, some 13, none, .p .mov, [.t 5]⟩,
    ⟨3, some 14, none, .p (.idx 1), [.t 12, .t 13]⟩,
    ⟨4, some 15, none, .r (.load false 1) false, [.t 14]⟩,
    ⟨5, some 16, none, .e .call [] [], [.t 11, .t 15]⟩])
   (.cond (.t 16) (.seq (.reg 0 [⟨0, some 17, none, .p .mov, [.t 5]⟩,
    ⟨1, some 4, none, .p .mov, [.t 17]⟩])
   (.ret))
   (.skip)))))
   (.reg 0 [⟨0, some 18, none, .p (.bin .add), [.t 8, .c (.int .i64 1)]⟩,
    ⟨1, some 8, none, .p .mov, [.t 18]⟩])))
def g391 : GL.Fn := ⟨.seq (.reg 0 [⟨0, some 4, none, .p .mov, [.c (.int .i64 0)]⟩])
   (.seq (.seq (.reg 0 [⟨0, some 6, none, .p .mov, [.t 0]⟩,
    ⟨1, some 7, none, .p .len, [.t 6]⟩,
    ⟨2, some 8, none, .p .mov, [.c (.int .i64 0)]⟩])
   (.block 0 (.loop g391_0)))
   (.seq (.reg 0 [⟨0, some 4, none, .p .mov, [.c (.int .i64 (-1))]⟩])
   (.ret))),
  [.tmp 4]⟩
/- cmp.Compare[int] -/
def g159 : GL.Fn := ⟨.seq (.reg 0 [⟨0, some 4, none, .p .mov, [.c (.int .i64 0)]⟩])
   (.seq (.reg 0 [⟨0, some 7, none, .p .mov, [.t 0]⟩,
    ⟨1, some 8, none, .e .call [] [], [.f 160, .t 7]⟩,
    ⟨2, some 5, none, .p .mov, [.t 8]⟩])
   (.seq (.reg 0 [⟨0, some 9, none, .p .mov, [.t 1]⟩,
    ⟨1, some 10, none, .e .call [] [], [.f 160, .t 9]⟩,
    ⟨2, some 6, none, .p .mov, [.t 10]⟩])
   (.seq (.seq (.reg 0 [⟨0, some 11, none, .p .mov, [.t 5]⟩])
   (.cond (.t 11) (.seq (.seq (.reg 0 [⟨0, some 12, none, .p .mov, [.t 6]⟩])
   (.cond (.t 12) (.seq (.reg 0 [⟨0, some 4, none, .p .mov, [.c (.int .i64 0)]⟩])
   (.ret))
   (.skip)))
   (.seq (.reg 0 [⟨0, some 4, none, .p .mov, [.c (.int .i64 (-1))]⟩])
   (.ret)))
   (.skip)))
   (.seq (.seq (.reg 0 [⟨0, some 13, none, .p .mov, [.t 6]⟩])
   (.cond (.t 13) (.seq (.reg 0 [⟨0, some 4, none, .p .mov, [.c (.int .i64 1)]⟩])
   (.ret))
   (.skip)))
   (.seq (.seq (.reg 0 [⟨0, some 14, none, .p .mov, [.t 0]⟩,
    ⟨1, some 15, none, .p .mov, [.t 1]⟩,
    ⟨2, some 16, none, .p (.bin .lss), [.t 14, .t 15]⟩])
   (.cond (.t 16) (.seq (.reg 0 [⟨0, some 4, none, .p .mov, [.c (.int .i64 (-1))]⟩])
   (.ret))
   (.skip)))
   (.seq (.seq (.reg 0 [⟨0, some 17, none, .p .mov, [.t 0]⟩,
    ⟨1, some 18, none, .p .mov, [.t 1]⟩,
    ⟨2, some 19, none, .p (.bin .gtr), [.t 17, .t 18]⟩])
   (.cond (.t 19) (.seq (.reg 0 [⟨0, some 4, none, .p .mov, [.c (.int .i64 1)]⟩])
   (.ret))
   (.skip)))
   (.seq (.reg 0 [⟨0, some 4, none, .p .mov, [.c (.int .i64 0)]⟩])
   (.ret)))))))),
  [.tmp 4]⟩
/- slices.Grow[[][]int,[]int] -/
def g789 : GL.Fn := ⟨.seq (.reg 0 [⟨0, some 4, none, .p .mov, [.c (.nils)]⟩])
   (.seq (.seq (.reg 0 [⟨0, some 5, none, .p .mov, [.t 1]⟩,
    ⟨1, some 6, none, .p (.bin .lss), [.t 5, .c (.int .i64 0)]⟩])
   (.cond (.t 6) (.reg 0 [⟨0, some 7, none, .p .bad, []⟩,
    ⟨1, none, none, .p .bad, []⟩])
   (.skip)))
   (.seq (.seq (.reg 0 [⟨0, some 8, none, .p .mov, [.t 1]⟩,
    ⟨1, some 9, none, .p .mov, [.t 0]⟩,
    ⟨2, some 10, none, .p .cap, [.t 9]⟩,
    ⟨3, some 11, none, .p .mov, [.t 0]⟩,
    ⟨4, some 12, none, .p .len, [.t 11]⟩,
    ⟨5, some 13, none, .p (.bin .sub), [.t 10, .t 12]⟩,
    ⟨6, some 14, none, .p (.bin .sub), [.t 8, .t 13]⟩,
    ⟨7, some 1, none, .p .mov, [.t 14]⟩])
   (.seq (.reg 0 [⟨0, some 15, none, .p .mov, [.t 1]⟩,
    ⟨1, some 16, none, .p (.bin .gtr), [.t 15, .c (.int .i64 0)]⟩])
   (.cond (.t 16) (.reg 0 [⟨0, some 17, none, .p .mov, [.t 0]⟩,
    ⟨1, some 18, none, .p .mov, [.t 0]⟩,
    ⟨2, some 19, none, .p .cap, [.t 18]⟩,
    ⟨3, some 20, none, .p (.slice 1 false true false), [.t 17, .t 19]⟩,
    ⟨4, some 21, none, .p .mov, [.t 1]⟩,
    ⟨5, some 22, none, .e (.appendZ 1 24 [.nils]) [] [], [.t 20, .t 21]⟩,
    ⟨6, some 23, none, .p .mov, [.t 0]⟩,
    ⟨7, some 24, none, .p .len, [.t 23]⟩,
    ⟨8, some 25, none, .p (.slice 1 false true false), [.t 22, .t 24]⟩,
    ⟨9, some 0, none, .p .mov, [.t 25]⟩])
   (.skip))))
   (.seq (.reg 0 [⟨0, some 26, none, .p .mov, [.t 0]⟩,
    ⟨1, some 4, none, .p .mov, [.t 26]⟩])
   (.ret)))),
  [.tmp 4]⟩
/- cmp.isNaN[int] -/
def g160 : GL.Fn := ⟨.seq (.reg 0 [⟨0, some 2, none, .p .mov, [.c (.bool false)]⟩])
   (.seq (.reg 0 [⟨0, some 3, none, .p .mov, [.t 0]⟩,
    ⟨1, some 4, none, .p .mov, [.t 0]⟩,
    ⟨2, some 5, none, .p (.bin .neq), [.t 3, .t 4]⟩,
    ⟨3, some 2, none, .p .mov, [.t 5]⟩])
   (.ret)),
  [.tmp 2]⟩
end GL
