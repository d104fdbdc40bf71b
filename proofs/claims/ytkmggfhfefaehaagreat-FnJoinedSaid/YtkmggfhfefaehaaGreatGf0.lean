import Derived.Test.YtkmggfhfefaehaaGreatGlA
/- GL code of functions. -/
set_option linter.unusedSimpArgs false
set_option linter.unusedVariables false
set_option linter.unnecessarySimpa false
namespace GL
open Go
/- loop.example/g00641/laws.FnJoined -/
def g734 : GL.Fn := ⟨.seq (.reg 0 [⟨0, some 4, none, .p .mov, [.c (.bool false)]⟩])
   (.seq (.seq (.reg 0 [⟨0, some 34, none, .p .mov, [.t 0]⟩,
    ⟨1, some 35, none, .p .len, [.t 34]⟩,
    ⟨2, some 36, none, .p .mov, [.t 1]⟩,
    ⟨3, some 37, none, .p .len, [.t 36]⟩,
    ⟨4, some 38, none, .p (.bin .add), [.t 35, .t 37]⟩,
    ⟨5, some 39, none, .p (.bin .gtr), [.t 38, .c (.int .i64 1048576)]⟩])
   (.cond (.t 39) (.seq (.reg 0 [⟨0, some 4, none, .p .mov, [.c (.bool true)]⟩])
   (.ret))
   (.skip)))
   (.seq (.reg 0 [⟨0, some 41, none, .p .mov, [.t 0]⟩,
    ⟨1, some 42, none, .e .call [] [], [.f 735, .t 41]⟩,
    ⟨2, some 40, none, .p .mov, [.t 42]⟩,
    ⟨3, some 43, none, .p (.extract 0), [.t 40]⟩,
    ⟨4, some 44, none, .p (.extract 1), [.t 40]⟩,
    ⟨5, some 5, none, .l (.alloc 5 [.nils, .nils]), []⟩,
    ⟨6, some 6, none, .l (.alloc 6 [.nils, .nils]), []⟩,
    ⟨7, none, none, .l (.store 5 2), [.t 5, .t 43]⟩,
    ⟨8, none, none, .l (.store 6 2), [.t 6, .t 44]⟩])
   (.seq (.reg 0 [⟨0, some 46, none, .l (.load 5 true 2), [.t 5]⟩,
    ⟨1, some 47, none, .l (.load 6 true 2), [.t 6]⟩,
    ⟨2, some 48, none, .e .call [] [], [.f 736, .t 46, .t 47]⟩,
    ⟨3, some 45, none, .p .mov, [.t 48]⟩,
    ⟨4, some 49, none, .p (.extract 0), [.t 45]⟩,
    ⟨5, some 50, none, .p (.extract 1), [.t 45]⟩,
    ⟨6, some 7, none, .l (.alloc 7 [.nils, .nils]), []⟩,
    ⟨7, none, none, .l (.store 7 2), [.t 7, .t 49]⟩,
    ⟨8, some 8, none, .p .mov, [.t 50]⟩])
   (.seq (.reg 0 [⟨0, some 52, none, .l (.load 5 true 2), [.t 5]⟩,
    ⟨1, some 53, none, .l (.load 6 true 2), [.t 6]⟩,
    ⟨2, some 54, none, .e .call [] [], [.f 737, .t 52, .t 53]⟩,
    ⟨3, some 51, none, .p .mov, [.t 54]⟩,
    ⟨4, some 55, none, .p (.extract 0), [.t 51]⟩,
    ⟨5, some 56, none, .p (.extract 1), [.t 51]⟩,
    ⟨6, some 9, none, .l (.alloc 9 [.nils, .nils]), []⟩,
    ⟨7, none, none, .l (.store 9 2), [.t 9, .t 55]⟩,
    ⟨8, some 10, none, .p .mov, [.t 56]⟩])
   (.seq (.seq (.reg 0 [⟨0, some 57, none, .p .mov, [.t 8]⟩,
    ⟨1, some 58, none, .p .mov, [.t 10]⟩,
    ⟨2, some 59, none, .p (.eqB true), [.t 57, .t 58]⟩,
    ⟨3, some 60, none, .p .mov, [.t 59]⟩,
    ⟨4, some 61, some (60, false), .l (.load 7 true 2), [.t 7]⟩,
    ⟨5, some 62, some (60, false), .l (.load 9 true 2), [.t 9]⟩,
    ⟨6, some 63, some (60, false), .e .call [] [], [.f 640, .t 61, .t 62]⟩,
    ⟨7, some 64, some (60, false), .p (.un .not), [.t 63]⟩,
    ⟨8, some 65, none, .p .pick, [.t 60, .c (.bool true), .t 64]⟩])
   (.cond (.t 65) (.seq (.reg 0 [⟨0, some 4, none, .p .mov, [.c (.bool false)]⟩])
   (.ret))
   (.skip)))
   (.seq (.seq (.reg 0 [⟨0, some 66, none, .p .mov, [.t 8]⟩])
   (.cond (.t 66) (.seq (.reg 0 [⟨0, some 68, none, .l (.load 6 true 2), [.t 6]⟩,
    ⟨1, some 69, none, .l (.load 5 true 2), [.t 5]⟩,
    ⟨2, some 70, none, .e .call [] [], [.f 736, .t 68, .t 69]⟩,
    ⟨3, some 67, none, .p .mov, [.t 70]⟩,
    ⟨4, some 71, none, .p (.extract 0), [.t 67]⟩,
    ⟨5, some 72, none, .p (.extract 1), [.t 67]⟩,
    ⟨6, some 11, none, .l (.alloc 11 [.nils, .nils]), []⟩,
    ⟨7, none, none, .l (.store 11 2), [.t 11, .t 71]⟩,
    ⟨8, some 12, none, .p .mov, [.t 72]⟩])
   (.seq (.reg 0 [⟨0, some 74, none, .l (.load 7 true 2), [.t 7]⟩,
    ⟨1, some 75, none, .l (.load 11 true 2), [.t 11]⟩,
    ⟨2, some 76, none, .e .call [] [], [.f 738, .t 74, .t 75]⟩,
    ⟨3, some 73, none, .p .mov, [.t 76]⟩,
    ⟨4, some 77, none, .p (.extract 0), [.t 73]⟩,
    ⟨5, some 78, none, .p (.extract 1), [.t 73]⟩,
    ⟨6, some 13, none, .p .mov, [.t 77]⟩,
    ⟨7, some 14, none, .p .mov, [.t 78]⟩])
   (.seq (.reg 0 [⟨0, some 80, none, .l (.load 7 true 2), [.t 7]⟩,
    ⟨1, some 81, none, .p (.faddr 0), [.t 5]⟩,
    ⟨2, some 82, none, .l (.load 5 false 1), [.t 81]⟩,
    ⟨3, some 83, none, .e .call [] [], [.f 739, .t 80, .t 82]⟩,
    ⟨4, some 79, none, .p .mov, [.t 83]⟩,
    ⟨5, some 84, none, .p (.extract 0), [.t 79]⟩,
    ⟨6, some 85, none, .p (.extract 1), [.t 79]⟩,
    ⟨7, some 15, none, .l (.alloc 15 [.nils, .nils]), []⟩,
    ⟨8, none, none, .l (.store 15 2), [.t 15, .t 84]⟩,
    ⟨9, some 16, none, .p .mov, [.t 85]⟩])
   (.seq (.reg 0 [⟨0, some 87, none, .l (.load 15 true 2), [.t 15]⟩,
    ⟨1, some 88, none, .l (.load 5 true 2), [.t 5]⟩,
    ⟨2, some 89, none, .e .call [] [], [.f 740, .t 87, .t 88]⟩,
    ⟨3, some 86, none, .p .mov, [.t 89]⟩,
    ⟨4, some 90, none, .p (.extract 0), [.t 86]⟩,
    ⟨5, some 91, none, .p (.extract 1), [.t 86]⟩,
    ⟨6, some 17, none, .l (.alloc 17 [.nils, .nils]), []⟩,
    ⟨7, none, none, .l (.store 17 2), [.t 17, .t 90]⟩,
    ⟨8, some 18, none, .p .mov, [.t 91]⟩])
   (.seq (.reg 0 [⟨0, some 93, none, .l (.load 5 true 2), [.t 5]⟩,
    ⟨1, some 94, none, .l (.load 5 true 2), [.t 5]⟩,
    ⟨2, some 95, none, .e .call [] [], [.f 736, .t 93, .t 94]⟩,
    ⟨3, some 92, none, .p .mov, [.t 95]⟩,
    ⟨4, some 96, none, .p (.extract 0), [.t 92]⟩,
    ⟨5, some 97, none, .p (.extract 1), [.t 92]⟩,
    ⟨6, some 19, none, .l (.alloc 19 [.nils, .nils]), []⟩,
    ⟨7, none, none, .l (.store 19 2), [.t 19, .t 96]⟩,
    ⟨8, some 20, none, .p .mov, [.t 97]⟩])
   (.seq (.seq (.reg 0 [⟨0, some 98, none, .p .mov, [.t 12]⟩,
    ⟨1, some 99, none, .p (.un .not), [.t 98]⟩,
    ⟨2, some 100, none, .p .mov, [.t 99]⟩,
    ⟨3, some 101, some (100, false), .p .mov, [.t 14]⟩,
    ⟨4, some 102, some (100, false), .p (.un .not), [.t 101]⟩,
    ⟨5, some 103, none, .p .pick, [.t 100, .c (.bool true), .t 102]⟩,
    ⟨6, some 104, none, .p .mov, [.t 103]⟩,
    ⟨7, some 105, some (104, false), .p .mov, [.t 13]⟩,
    ⟨8, some 106, some (104, false), .p (.un .not), [.t 105]⟩,
    ⟨9, some 107, none, .p .pick, [.t 104, .c (.bool true), .t 106]⟩,
    ⟨10, some 108, none, .p .mov, [.t 107]⟩,
    ⟨11, some 109, some (108, false), .p .mov, [.t 16]⟩,
    ⟨12, some 110, some (108, false), .p (.un .not), [.t 109]⟩,
    ⟨13, some 111, none, .p .pick, [.t 108, .c (.bool true), .t 110]⟩,
    ⟨14, some 112, none, .p .mov, [.t 111]⟩,
    ⟨15, some 113, some (112, false), .p .mov, [.t 18]⟩,
    ⟨16, some 114, some (112, false), .p (.un .not), [.t 113]⟩,
    ⟨17, some 115, none, .p .pick, [.t 112, .c (.bool true), .t 114]⟩,
    ⟨18, some 116, none, .p .mov, [.t 115]⟩,
    ⟨19, some 117, some (116, false), .p (.faddr 1), [.t 17]⟩,
    ⟨20, some 118, some (116, false), .l (.load 17 false 1), [.t 117]⟩,
    ⟨21, some 119, some (116, false), .p .len, [.t 118]⟩,
    ⟨22, some 120, some (116, false), .p (.bin .gtr), [.t 119, .c (.int .i64 0)]⟩,
    ⟨23, some 121, none, .p .pick, [.t 116, .c (.bool true), .t 120]⟩,
    ⟨24, some 122, none, .p .mov, [.t 121]⟩,
    ⟨25, some 123, some (122, false), .p .mov, [.t 20]⟩,
    ⟨26, some 124, some (122, false), .p (.un .not), [.t 123]⟩,
    ⟨27, some 125, none, .p .pick, [.t 122, .c (.bool true), .t 124]⟩,
    ⟨28, some 126, none, .p .mov, [.t 125]⟩,
    ⟨29, some 127, some (126, false), .l (.load 19 true 2), [.t 19]⟩,
    ⟨30, some 128, some (126, false), .l (.load 5 true 2), [.t 5]⟩,
    ⟨31, some 129, some (126, false), .e .call [] [], [.f 640, .t 127, .t 128]⟩,
    ⟨32, some 130, some (126, false), .p (.un .not), [.t 129]⟩,
    ⟨33, some 131, none, .p .pick, [.t 126, .c (.bool true), .t 130]⟩])
   (.cond (.t 131) (.seq (.reg 0 [⟨0, some 4, none, .p .mov, [.c (.bool false)]⟩])
   (.ret))
   (.skip)))
   (.seq (.reg 0 [⟨0, some 132, none, .p (.faddr 0), [.t 5]⟩,
    ⟨1, some 133, none, .l (.load 5 false 1), [.t 132]⟩,
    ⟨2, some 134, none, .p .len, [.t 133]⟩,
    ⟨3, some 135, none, .p (.bin .gtr), [.t 134, .c (.int .i64 0)]⟩])
   (.cond (.t 135) (.seq (.reg 0 [⟨0, some 136, none, .p .mov, [.t 1]⟩,
    ⟨1, some 137, none, .e .call [] [], [.f 31, .t 136]⟩,
    ⟨2, some 138, none, .p (.bin .rem), [.t 137, .c (.int .i64 3)]⟩,
    ⟨3, some 21, none, .p .mov, [.t 138]⟩])
   (.seq (.reg 0 [⟨0, some 140, none, .l (.load 5 true 2), [.t 5]⟩,
    ⟨1, some 141, none, .p (.faddr 0), [.t 5]⟩,
    ⟨2, some 142, none, .l (.load 5 false 1), [.t 141]⟩,
    ⟨3, some 143, none, .p (.idx 1), [.t 142, .c (.int .i64 0)]⟩,
    ⟨4, some 144, none, .r (.load false 1) false, [.t 143]⟩,
    ⟨5, some 145, none, .p .mov, [.t 21]⟩,
    ⟨6, some 146, none, .e .call [] [], [.f 741, .t 140, .t 144, .c (.int .i64 0), .t 145]⟩,
    ⟨7, some 139, none, .p .mov, [.t 146]⟩,
    ⟨8, some 147, none, .p (.extract 0), [.t 139]⟩,
    ⟨9, some 148, none, .p (.extract 1), [.t 139]⟩,
    ⟨10, some 22, none, .l (.alloc 22 [.nils, .nils]), []⟩,
    ⟨11, none, none, .l (.store 22 2), [.t 22, .t 147]⟩,
    ⟨12, some 23, none, .p .mov, [.t 148]⟩])
   (.seq (.reg 0 [⟨0, some 150, none, .l (.load 22 true 2), [.t 22]⟩,
    ⟨1, some 151, none, .l (.load 6 true 2), [.t 6]⟩,
    ⟨2, some 152, none, .e .call [] [], [.f 736, .t 150, .t 151]⟩,
    ⟨3, some 149, none, .p .mov, [.t 152]⟩,
    ⟨4, some 153, none, .p (.extract 0), [.t 149]⟩,
    ⟨5, some 154, none, .p (.extract 1), [.t 149]⟩,
    ⟨6, some 24, none, .l (.alloc 24 [.nils, .nils]), []⟩,
    ⟨7, none, none, .l (.store 24 2), [.t 24, .t 153]⟩,
    ⟨8, some 25, none, .p .mov, [.t 154]⟩])
   (.seq (.reg 0 [⟨0, some 156, none, .l (.load 7 true 2), [.t 7]⟩,
    ⟨1, some 157, none, .p (.faddr 0), [.t 5]⟩,
    ⟨2, some 158, none, .l (.load 5 false 1), [.t 157]⟩,
    ⟨3, some 159, none, .p (.idx 1), [.t 158, .c (.int .i64 0)]⟩,
    ⟨4, some 160, none, .r (.load false 1) false, [.t 159]⟩,
    ⟨5, some 161, none, .p .mov, [.t 21]⟩,
    ⟨6, some 162, none, .e .call [] [], [.f 741, .t 156, .t 160, .c (.int .i64 0), .t 161]⟩,
    ⟨7, some 155, none, .p .mov, [.t 162]⟩,
    ⟨8, some 163, none, .p (.extract 0), [.t 155]⟩,
    ⟨9, some 164, none, .p (.extract 1), [.t 155]⟩,
    ⟨10, some 26, none, .l (.alloc 26 [.nils, .nils]), []⟩,
    ⟨11, none, none, .l (.store 26 2), [.t 26, .t 163]⟩,
    ⟨12, some 27, none, .p .mov, [.t 164]⟩])
   (.seq (.reg 0 [⟨0, some 165, none, .p .mov, [.t 23]⟩,
    ⟨1, some 166, none, .p (.un .not), [.t 165]⟩,
    ⟨2, some 167, none, .p .mov, [.t 166]⟩,
    ⟨3, some 168, some (167, false), .p .mov, [.t 25]⟩,
    ⟨4, some 169, some (167, false), .p (.un .not), [.t 168]⟩,
    ⟨5, some 170, none, .p .pick, [.t 167, .c (.bool true), .t 169]⟩,
    ⟨6, some 171, none, .p .mov, [.t 170]⟩,
    ⟨7, some 172, some (171, false), .p .mov, [.t 27]⟩,
    ⟨8, some 173, some (171, false), .p (.un .not), [.t 172]⟩,
    ⟨9, some 174, none, .p .pick, [.t 171, .c (.bool true), .t 173]⟩,
    ⟨10, some 175, none, .p .mov, [.t 174]⟩,
    ⟨11, some 176, some (175, false), .l (.load 24 true 2), [.t 24]⟩,
    ⟨12, some 177, some (175, false), .l (.load 26 true 2), [.t 26]⟩,
    ⟨13, some 178, some (175, false), .e .call [] [], [.f 640, .t 176, .t 177]⟩,
    ⟨14, some 179, some (175, false), .p (.un .not), [.t 178]⟩,
    ⟨15, some 180, none, .p .pick, [.t 175, .c (.bool true), .t 179]⟩])
   (.cond (.t 180) (.seq (.reg 0 [⟨0, some 4, none, .p .mov, [.c (.bool false)]⟩])
   (.ret))
   (.skip)))))))
   (.skip)))))))))
   (.skip)))
   (.seq (.reg 0 [⟨0, some 182, none, .p .mov, [.t 1]⟩,
    ⟨1, some 183, none, .e .call [] [], [.f 742, .t 182]⟩,
    ⟨2, some 181, none, .p .mov, [.t 183]⟩,
    ⟨3, some 184, none, .p (.extract 0), [.t 181]⟩,
    ⟨4, some 185, none, .p (.extract 1), [.t 181]⟩,
    ⟨5, some 28, none, .l (.alloc 28 [.nils, .nils]), []⟩,
    ⟨6, some 29, none, .l (.alloc 29 [.nils, .nils]), []⟩,
    ⟨7, none, none, .l (.store 28 2), [.t 28, .t 184]⟩,
    ⟨8, none, none, .l (.store 29 2), [.t 29, .t 185]⟩])
   (.seq (.reg 0 [⟨0, some 187, none, .l (.load 28 true 2), [.t 28]⟩,
    ⟨1, some 188, none, .l (.load 29 true 2), [.t 29]⟩,
    ⟨2, some 189, none, .e .call [] [], [.f 738, .t 187, .t 188]⟩,
    ⟨3, some 186, none, .p .mov, [.t 189]⟩,
    ⟨4, some 190, none, .p (.extract 0), [.t 186]⟩,
    ⟨5, some 191, none, .p (.extract 1), [.t 186]⟩,
    ⟨6, some 30, none, .p .mov, [.t 190]⟩,
    ⟨7, some 31, none, .p .mov, [.t 191]⟩])
   (.seq (.reg 0 [⟨0, some 193, none, .l (.load 28 true 2), [.t 28]⟩,
    ⟨1, some 194, none, .l (.load 29 true 2), [.t 29]⟩,
    ⟨2, some 195, none, .e .call [] [], [.f 743, .t 193, .t 194]⟩,
    ⟨3, some 192, none, .p .mov, [.t 195]⟩,
    ⟨4, some 196, none, .p (.extract 0), [.t 192]⟩,
    ⟨5, some 197, none, .p (.extract 1), [.t 192]⟩,
    ⟨6, some 32, none, .p .mov, [.t 196]⟩,
    ⟨7, some 33, none, .p .mov, [.t 197]⟩])
   (.seq (.reg 0 [⟨0, some 198, none, .p .mov, [.t 31]⟩,
    ⟨1, some 199, none, .p .mov, [.t 33]⟩,
    ⟨2, some 200, none, .p (.eqB false), [.t 198, .t 199]⟩,
    ⟨3, some 201, none, .p .mov, [.t 200]⟩,
    ⟨4, some 202, some (201, true), .p .mov, [.t 30]⟩,
    ⟨5, some 203, some (201, true), .p .mov, [.t 32]⟩,
    ⟨6, some 204, some (201, true), .p (.eqB false), [.t 202, .t 203]⟩,
    ⟨7, some 205, none, .p .pick, [.t 201, .t 204, .c (.bool false)]⟩,
    ⟨8, some 4, none, .p .mov, [.t 205]⟩])
   (.ret))))))))))),
  [.tmp 4]⟩
/- loop.example/g00641/spec.DrawJoinTwo -/
def g735 : GL.Fn := ⟨.seq (.reg 0 [⟨0, some 2, none, .l (.alloc 2 [.nils, .nils]), []⟩,
    ⟨1, some 3, none, .l (.alloc 3 [.nils, .nils]), []⟩])
   (.seq (.reg 0 [⟨0, some 5, none, .p .mov, [.t 0]⟩,
    ⟨1, some 6, none, .p (.build [.nils, .int .i64 0, .int .u64 0] [(0, 1)]), [.t 5]⟩,
    ⟨2, some 7, none, .e (.new (.box 3)) [] [], [.t 6]⟩,
    ⟨3, some 4, none, .p .mov, [.t 7]⟩])
   (.seq (.reg 0 [⟨0, some 8, none, .p .mov, [.t 4]⟩,
    ⟨1, some 9, none, .p .mov, [.t 4]⟩,
    ⟨2, some 10, none, .e .call [] [], [.f 777, .t 9]⟩,
    ⟨3, some 11, none, .e .call [] [], [.f 657, .t 8, .t 10]⟩,
    ⟨4, some 12, none, .p .mov, [.t 4]⟩,
    ⟨5, some 13, none, .p .mov, [.t 4]⟩,
    ⟨6, some 14, none, .e .call [] [], [.f 777, .t 13]⟩,
    ⟨7, some 15, none, .e .call [] [], [.f 657, .t 12, .t 14]⟩,
    ⟨8, none, none, .l (.store 2 2), [.t 2, .t 11]⟩,
    ⟨9, none, none, .l (.store 3 2), [.t 3, .t 15]⟩])
   (.ret))),
  [.cellL 2 2 true 2, .cellL 3 3 true 2]⟩
/- loop.example/g00641/impl.JoinTwo -/
def g736_0 : GL.Code := .seq (.reg 0 [⟨0, some 67, none, .p (.bin .lss), [.t 66, .t 65]⟩])
   (.seq (.cond (.t 67) (.skip)
   (.exit 4))
   (.seq (.block 5 (.seq (.reg 0 [⟨0, some 68, none, .p (.idx 1), [.t 64, .t 66]⟩,
    ⟨1, some 69, none, .r (.load false 1) false, [.t 68]⟩,
    ⟨2, some 15, none, .p .mov, [.t 69]⟩])
   (.seq (.reg 0 [⟨0, some 70, none, .p (.faddr 0), [.t 2]⟩,
    ⟨1, some 71, none, .l (.load 2 false 1), [.t 70]⟩,
    ⟨2, some 72, none, .p .mov, [.t 15]⟩,
    ⟨3, some 73, none, .e .call [] [], [.f 390, .t 71, .t 72]⟩,
    ⟨4, some 16, none, .p .mov, [.t 73]⟩])
   (.seq (.reg 0 [⟨0, some 74, none, .p .mov, [.t 16]⟩,
    ⟨1, some 75, none, .p (.bin .geq), [.t 74, .c (.int .i64 0)]⟩])
   (.cond (.t 75) (.reg 0 [⟨0, some 76, none, .p .mov, [.t 13]⟩,
    ⟨1, some 77, none, .p .mov, [.t 10]⟩,
    ⟨2, some 78, none, .p .mov, [.t 16]⟩,
    ⟨3, some 79, none, .p (.idx 1), [.t 77, .t 78]⟩,
    ⟨4, some 80, none, .r (.load false 1) false, [.t 79]⟩,
    ⟨5, some 81, none, .e (.new (.lit 1)) [] [], [.t 80]⟩,
    ⟨6, some 82, none, .e (.append 1 8) [] [], [.t 76, .t 81]⟩,
    ⟨7, some 13, none, .p .mov, [.t 82]⟩])
   (.reg 0 [⟨0, some 83, none, .p .mov, [.t 13]⟩,
    ⟨1, some 84, none, .p .mov, [.t 12]⟩,
    ⟨2, some 85, none, .p (.faddr 0), [.t 3]⟩,
    ⟨3, some 86, none, .l (.load 3 false 1), [.t 85]⟩,
    ⟨4, some 87, none, .p .mov, [.t 15]⟩,
    ⟨5, some 88, none, .e .call [] [], [.f 390, .t 86, .t 87]⟩,
    ⟨6, some 89, none, .p (.idx 1), [.t 84, .t 88]⟩,
    ⟨7, some 90, none, .r (.load false 1) false, [.t 89]⟩,
    ⟨8, some 91, none, .e (.new (.lit 1)) [] [], [.t 90]⟩,
    ⟨9, some 92, none, .e (.append 1 8) [] [], [.t 83, .t 91]⟩,
    ⟨10, some 13, none, .p .mov, [.t 92]⟩]))))))
   (.reg 0 [⟨0, some 93, none, .p (.bin .add), [.t 66, .c (.int .i64 1)]⟩,
    ⟨1, some 66, none, .p .mov, [.t 93]⟩])))
def g736_1 : GL.Code := .seq (.reg 0 [⟨0, some 48, none, .p (.bin .lss), [.t 47, .t 46]⟩])
   (.seq (.cond (.t 48) (.skip)
   (.exit 2))
   (.seq (.block 3 (.seq (.reg 0 [⟨0, some 49, none, .p (.idx 1), [.t 45, .t 47]⟩,
    ⟨1, some 50, none, .r (.load false 1) false, [.t 49]⟩,
    ⟨2, some 12, none, .p .mov, [.t 50]⟩])
   (.seq (.seq (.reg 0 [⟨0, some 51, none, .p (.faddr 0), [.t 2]⟩,
    ⟨1, some 52, none, .l (.load 2 false 1), [.t 51]⟩,
    ⟨2, some 53, none, .p .mov, [.t 10]⟩,
    ⟨3, some 54, none, .p .mov, [.t 6]⟩,
    ⟨4, some 55, none, .e .call [] [], [.f 661, .t 52, .t 53, .t 54]⟩,
    ⟨5, some 56, none, .p (.faddr 0), [.t 3]⟩,
    ⟨6, some 57, none, .l (.load 3 false 1), [.t 56]⟩,
    ⟨7, some 58, none, .p .mov, [.t 12]⟩,
    ⟨8, some 59, none, .p .mov, [.t 6]⟩,
    ⟨9, some 60, none, .e .call [] [], [.f 661, .t 57, .t 58, .t 59]⟩,
    ⟨10, some 61, none, .e .call [] [], [.f 386, .t 55, .t 60]⟩,
    ⟨11, some 62, none, .p (.un .not), [.t 61]⟩])
   (.cond (.t 62) (.exit 3)
   (.skip)))
   (.seq (.reg 0 [⟨0, some 63, none, .e (.new (.lit 1)) [] [], []⟩,
    ⟨1, some 13, none, .p .mov, [.t 63]⟩])
   (.seq (.seq (.reg 0 [⟨0, some 64, none, .p .mov, [.t 7]⟩,
    ⟨1, some 65, none, .p .len, [.t 64]⟩,
    ⟨2, some 66, none, .p .mov, [.c (.int .i64 0)]⟩])
   (.block 4 (.loop g736_0)))
   (.reg 0 [⟨0, some 94, none, .p .mov, [.t 8]⟩,
    ⟨1, some 95, none, .p .mov, [.t 13]⟩,
    ⟨2, some 96, none, .e (.new (.lit 1)) [] [], [.t 95]⟩,
    ⟨3, some 97, none, .e (.append 1 24) [] [], [.t 94, .t 96]⟩,
    ⟨4, some 8, none, .p .mov, [.t 97]⟩]))))))
   (.reg 0 [⟨0, some 98, none, .p (.bin .add), [.t 47, .c (.int .i64 1)]⟩,
    ⟨1, some 47, none, .p .mov, [.t 98]⟩])))
def g736_2 : GL.Code := .seq (.reg 0 [⟨0, some 41, none, .p (.bin .lss), [.t 40, .t 39]⟩])
   (.seq (.cond (.t 41) (.skip)
   (.exit 0))
   (.seq (.block 1 (.seq (.reg 0 [⟨0, some 42, none, .p (.idx 1), [.t 38, .t 40]⟩,
    ⟨1, some 43, none, .r (.load false 1) false, [.t 42]⟩,
    ⟨2, some 10, none, .p .mov, [.t 43]⟩])
   (.seq (.reg 0 [⟨0, some 44, none, .p (.faddr 1), [.t 3]⟩,
    ⟨1, some 45, none, .l (.load 3 false 1), [.t 44]⟩,
    ⟨2, some 46, none, .p .len, [.t 45]⟩,
    ⟨3, some 47, none, .p .mov, [.c (.int .i64 0)]⟩])
   (.block 2 (.loop g736_1)))))
   (.reg 0 [⟨0, some 99, none, .p (.bin .add), [.t 40, .c (.int .i64 1)]⟩,
    ⟨1, some 40, none, .p .mov, [.t 99]⟩])))
def g736 : GL.Fn := ⟨.seq (.reg 0 [⟨0, some 2, none, .l (.box 2 2), [.t 0]⟩,
    ⟨1, some 3, none, .l (.box 3 2), [.t 1]⟩,
    ⟨2, some 4, none, .l (.alloc 4 [.nils, .nils]), []⟩,
    ⟨3, some 5, none, .p .mov, [.c (.bool false)]⟩])
   (.seq (.seq (.reg 0 [⟨0, some 17, none, .l (.load 2 true 2), [.t 2]⟩,
    ⟨1, some 18, none, .e .call [] [], [.f 659, .t 17]⟩,
    ⟨2, some 19, none, .p (.un .not), [.t 18]⟩,
    ⟨3, some 20, none, .p .mov, [.t 19]⟩,
    ⟨4, some 21, some (20, false), .l (.load 3 true 2), [.t 3]⟩,
    ⟨5, some 22, some (20, false), .e .call [] [], [.f 659, .t 21]⟩,
    ⟨6, some 23, some (20, false), .p (.un .not), [.t 22]⟩,
    ⟨7, some 24, none, .p .pick, [.t 20, .c (.bool true), .t 23]⟩])
   (.cond (.t 24) (.seq (.reg 0 [⟨0, some 25, none, .p (.build [.nils, .nils] []), []⟩,
    ⟨1, none, none, .l (.store 4 2), [.t 4, .t 25]⟩,
    ⟨2, some 5, none, .p .mov, [.c (.bool false)]⟩])
   (.ret))
   (.skip)))
   (.seq (.reg 1 [⟨0, some 26, none, .p (.faddr 0), [.t 2]⟩,
    ⟨1, some 27, none, .l (.load 2 false 1), [.t 26]⟩,
    ⟨2, some 28, none, .p (.faddr 0), [.t 3]⟩,
    ⟨3, some 29, none, .l (.load 3 false 1), [.t 28]⟩,
    ⟨4, some 30, none, .e .call [] [0], [.f 336, .t 27, .t 29]⟩,
    ⟨5, some 31, none, .p (.faddr 0), [.t 2]⟩,
    ⟨6, some 32, none, .l (.load 2 false 1), [.t 31]⟩,
    ⟨7, some 33, none, .p (.faddr 0), [.t 3]⟩,
    ⟨8, some 34, none, .l (.load 3 false 1), [.t 33]⟩,
    ⟨9, some 35, none, .e .call [] [0], [.f 412, .t 32, .t 34]⟩,
    ⟨10, some 36, none, .m (.lit 1) 0, []⟩,
    ⟨11, some 6, none, .p .mov, [.t 30]⟩,
    ⟨12, some 7, none, .p .mov, [.t 35]⟩,
    ⟨13, some 8, none, .p .mov, [.t 36]⟩])
   (.seq (.seq (.reg 0 [⟨0, some 37, none, .p (.faddr 1), [.t 2]⟩,
    ⟨1, some 38, none, .l (.load 2 false 1), [.t 37]⟩,
    ⟨2, some 39, none, .p .len, [.t 38]⟩,
    ⟨3, some 40, none, .p .mov, [.c (.int .i64 0)]⟩])
   (.block 0 (.loop g736_2)))
   (.seq (.reg 0 [⟨0, some 100, none, .p .mov, [.t 7]⟩,
    ⟨1, some 101, none, .p .mov, [.t 8]⟩,
    ⟨2, some 102, none, .e .call [] [], [.f 673, .t 100, .t 101]⟩,
    ⟨3, some 103, none, .p (.extract 0), [.t 102]⟩,
    ⟨4, some 104, none, .p (.extract 1), [.t 102]⟩,
    ⟨5, none, none, .l (.store 4 2), [.t 4, .t 103]⟩,
    ⟨6, some 5, none, .p .mov, [.t 104]⟩])
   (.ret))))),
  [.cellL 4 4 true 2, .tmp 5]⟩
/- loop.example/g00641/spec.JoinTwo -/
def g737_0 : GL.Code := .seq (.reg 0 [⟨0, some 36, none, .p (.bin .lss), [.t 35, .t 34]⟩])
   (.seq (.cond (.t 36) (.skip)
   (.exit 0))
   (.seq (.block 1 (.seq (.reg 0 [⟨0, some 37, none, .p (.idx 1), [.t 33, .t 35]⟩,
    ⟨1, some 38, none, .r (.load false 1) false, [.t 37]⟩,
    ⟨2, some 9, none, .p .mov, [.t 38]⟩])
   (.seq (.seq (.reg 0 [⟨0, some 39, none, .p (.faddr 0), [.t 2]⟩,
    ⟨1, some 40, none, .l (.load 2 false 1), [.t 39]⟩,
    ⟨2, some 41, none, .p .mov, [.t 9]⟩,
    ⟨3, some 42, none, .e .call [] [], [.f 606, .t 40, .t 41]⟩,
    ⟨4, some 43, none, .p (.bin .geq), [.t 42, .c (.int .i64 0)]⟩])
   (.cond (.t 43) (.reg 0 [⟨0, some 44, none, .p .mov, [.t 7]⟩,
    ⟨1, some 45, none, .p .mov, [.t 9]⟩,
    ⟨2, some 46, none, .e (.new (.lit 1)) [] [], [.t 45]⟩,
    ⟨3, some 47, none, .e (.append 1 8) [] [], [.t 44, .t 46]⟩,
    ⟨4, some 7, none, .p .mov, [.t 47]⟩])
   (.skip)))
   (.reg 0 [⟨0, some 48, none, .p .mov, [.t 6]⟩,
    ⟨1, some 49, none, .p .mov, [.t 9]⟩,
    ⟨2, some 50, none, .e .call [] [], [.f 410, .t 48, .t 49]⟩,
    ⟨3, some 6, none, .p .mov, [.t 50]⟩]))))
   (.reg 0 [⟨0, some 51, none, .p (.bin .add), [.t 35, .c (.int .i64 1)]⟩,
    ⟨1, some 35, none, .p .mov, [.t 51]⟩])))
def g737_1 : GL.Code := .seq (.reg 0 [⟨0, some 81, none, .p (.bin .lss), [.t 80, .t 79]⟩])
   (.seq (.cond (.t 81) (.skip)
   (.exit 6))
   (.seq (.block 7 (.seq (.reg 0 [⟨0, some 82, none, .p (.idx 1), [.t 78, .t 80]⟩,
    ⟨1, some 83, none, .r (.load false 1) false, [.t 82]⟩,
    ⟨2, some 17, none, .p .mov, [.t 83]⟩])
   (.seq (.reg 0 [⟨0, some 84, none, .p (.faddr 0), [.t 2]⟩,
    ⟨1, some 85, none, .l (.load 2 false 1), [.t 84]⟩,
    ⟨2, some 86, none, .p .mov, [.t 17]⟩,
    ⟨3, some 87, none, .e .call [] [], [.f 606, .t 85, .t 86]⟩,
    ⟨4, some 18, none, .p .mov, [.t 87]⟩])
   (.seq (.reg 0 [⟨0, some 88, none, .p .mov, [.t 18]⟩,
    ⟨1, some 89, none, .p (.bin .geq), [.t 88, .c (.int .i64 0)]⟩])
   (.cond (.t 89) (.reg 0 [⟨0, some 90, none, .p .mov, [.t 15]⟩,
    ⟨1, some 91, none, .p .mov, [.t 12]⟩,
    ⟨2, some 92, none, .p .mov, [.t 18]⟩,
    ⟨3, some 93, none, .p (.idx 1), [.t 91, .t 92]⟩,
    ⟨4, some 94, none, .r (.load false 1) false, [.t 93]⟩,
    ⟨5, some 95, none, .e (.new (.lit 1)) [] [], [.t 94]⟩,
    ⟨6, some 96, none, .e (.append 1 8) [] [], [.t 90, .t 95]⟩,
    ⟨7, some 15, none, .p .mov, [.t 96]⟩])
   (.reg 0 [⟨0, some 97, none, .p .mov, [.t 15]⟩,
    ⟨1, some 98, none, .p .mov, [.t 14]⟩,
    ⟨2, some 99, none, .p (.faddr 0), [.t 3]⟩,
    ⟨3, some 100, none, .l (.load 3 false 1), [.t 99]⟩,
    ⟨4, some 101, none, .p .mov, [.t 17]⟩,
    ⟨5, some 102, none, .e .call [] [], [.f 606, .t 100, .t 101]⟩,
    ⟨6, some 103, none, .p (.idx 1), [.t 98, .t 102]⟩,
    ⟨7, some 104, none, .r (.load false 1) false, [.t 103]⟩,
    ⟨8, some 105, none, .e (.new (.lit 1)) [] [], [.t 104]⟩,
    ⟨9, some 106, none, .e (.append 1 8) [] [], [.t 97, .t 105]⟩,
    ⟨10, some 15, none, .p .mov, [.t 106]⟩]))))))
   (.reg 0 [⟨0, some 107, none, .p (.bin .add), [.t 80, .c (.int .i64 1)]⟩,
    ⟨1, some 80, none, .p .mov, [.t 107]⟩])))
def g737_2 : GL.Code := .seq (.reg 0 [⟨0, some 63, none, .p (.bin .lss), [.t 62, .t 61]⟩])
   (.seq (.cond (.t 63) (.skip)
   (.exit 4))
   (.seq (.block 5 (.seq (.reg 0 [⟨0, some 64, none, .p (.idx 1), [.t 60, .t 62]⟩,
    ⟨1, some 65, none, .r (.load false 1) false, [.t 64]⟩,
    ⟨2, some 14, none, .p .mov, [.t 65]⟩])
   (.seq (.seq (.reg 0 [⟨0, some 66, none, .p (.faddr 0), [.t 2]⟩,
    ⟨1, some 67, none, .l (.load 2 false 1), [.t 66]⟩,
    ⟨2, some 68, none, .p .mov, [.t 12]⟩,
    ⟨3, some 69, none, .p .mov, [.t 7]⟩,
    ⟨4, some 70, none, .e .call [] [], [.f 679, .t 67, .t 68, .t 69]⟩,
    ⟨5, some 71, none, .p (.faddr 0), [.t 3]⟩,
    ⟨6, some 72, none, .l (.load 3 false 1), [.t 71]⟩,
    ⟨7, some 73, none, .p .mov, [.t 14]⟩,
    ⟨8, some 74, none, .p .mov, [.t 7]⟩,
    ⟨9, some 75, none, .e .call [] [], [.f 679, .t 72, .t 73, .t 74]⟩,
    ⟨10, some 76, none, .e .call [] [], [.f 356, .t 70, .t 75]⟩,
    ⟨11, some 77, none, .p (.un .not), [.t 76]⟩])
   (.cond (.t 77) (.exit 5)
   (.skip)))
   (.seq (.reg 0 [⟨0, some 15, none, .p .mov, [.c (.nils)]⟩])
   (.seq (.seq (.reg 0 [⟨0, some 78, none, .p .mov, [.t 6]⟩,
    ⟨1, some 79, none, .p .len, [.t 78]⟩,
    ⟨2, some 80, none, .p .mov, [.c (.int .i64 0)]⟩])
   (.block 6 (.loop g737_1)))
   (.reg 0 [⟨0, some 108, none, .p .mov, [.t 10]⟩,
    ⟨1, some 109, none, .p .mov, [.t 15]⟩,
    ⟨2, some 110, none, .e .call [] [], [.f 687, .t 108, .t 109]⟩,
    ⟨3, some 10, none, .p .mov, [.t 110]⟩]))))))
   (.reg 0 [⟨0, some 111, none, .p (.bin .add), [.t 62, .c (.int .i64 1)]⟩,
    ⟨1, some 62, none, .p .mov, [.t 111]⟩])))
def g737_3 : GL.Code := .seq (.reg 0 [⟨0, some 56, none, .p (.bin .lss), [.t 55, .t 54]⟩])
   (.seq (.cond (.t 56) (.skip)
   (.exit 2))
   (.seq (.block 3 (.seq (.reg 0 [⟨0, some 57, none, .p (.idx 1), [.t 53, .t 55]⟩,
    ⟨1, some 58, none, .r (.load false 1) false, [.t 57]⟩,
    ⟨2, some 12, none, .p .mov, [.t 58]⟩])
   (.seq (.reg 0 [⟨0, some 59, none, .p (.faddr 1), [.t 3]⟩,
    ⟨1, some 60, none, .l (.load 3 false 1), [.t 59]⟩,
    ⟨2, some 61, none, .p .len, [.t 60]⟩,
    ⟨3, some 62, none, .p .mov, [.c (.int .i64 0)]⟩])
   (.block 4 (.loop g737_2)))))
   (.reg 0 [⟨0, some 112, none, .p (.bin .add), [.t 55, .c (.int .i64 1)]⟩,
    ⟨1, some 55, none, .p .mov, [.t 112]⟩])))
def g737 : GL.Fn := ⟨.seq (.reg 0 [⟨0, some 2, none, .l (.box 2 2), [.t 0]⟩,
    ⟨1, some 3, none, .l (.box 3 2), [.t 1]⟩,
    ⟨2, some 4, none, .l (.alloc 4 [.nils, .nils]), []⟩,
    ⟨3, some 5, none, .p .mov, [.c (.bool false)]⟩])
   (.seq (.seq (.reg 0 [⟨0, some 19, none, .l (.load 2 true 2), [.t 2]⟩,
    ⟨1, some 20, none, .e .call [] [], [.f 662, .t 19]⟩,
    ⟨2, some 21, none, .p (.un .not), [.t 20]⟩,
    ⟨3, some 22, none, .p .mov, [.t 21]⟩,
    ⟨4, some 23, some (22, false), .l (.load 3 true 2), [.t 3]⟩,
    ⟨5, some 24, some (22, false), .e .call [] [], [.f 662, .t 23]⟩,
    ⟨6, some 25, some (22, false), .p (.un .not), [.t 24]⟩,
    ⟨7, some 26, none, .p .pick, [.t 22, .c (.bool true), .t 25]⟩])
   (.cond (.t 26) (.seq (.reg 0 [⟨0, some 27, none, .p (.build [.nils, .nils] []), []⟩,
    ⟨1, none, none, .l (.store 4 2), [.t 4, .t 27]⟩,
    ⟨2, some 5, none, .p .mov, [.c (.bool false)]⟩])
   (.ret))
   (.skip)))
   (.seq (.reg 0 [⟨0, some 28, none, .e (.new (.lit 1)) [] [], []⟩,
    ⟨1, some 29, none, .p (.faddr 0), [.t 2]⟩,
    ⟨2, some 30, none, .l (.load 2 false 1), [.t 29]⟩,
    ⟨3, some 31, none, .e (.append 1 8) [] [], [.t 28, .t 30]⟩,
    ⟨4, some 6, none, .p .mov, [.t 31]⟩])
   (.seq (.reg 0 [⟨0, some 7, none, .p .mov, [.c (.nils)]⟩])
   (.seq (.seq (.reg 0 [⟨0, some 32, none, .p (.faddr 0), [.t 3]⟩,
    ⟨1, some 33, none, .l (.load 3 false 1), [.t 32]⟩,
    ⟨2, some 34, none, .p .len, [.t 33]⟩,
    ⟨3, some 35, none, .p .mov, [.c (.int .i64 0)]⟩])
   (.block 0 (.loop g737_0)))
   (.seq (.reg 0 [⟨0, some 10, none, .p .mov, [.c (.nils)]⟩])
   (.seq (.seq (.reg 0 [⟨0, some 52, none, .p (.faddr 1), [.t 2]⟩,
    ⟨1, some 53, none, .l (.load 2 false 1), [.t 52]⟩,
    ⟨2, some 54, none, .p .len, [.t 53]⟩,
    ⟨3, some 55, none, .p .mov, [.c (.int .i64 0)]⟩])
   (.block 2 (.loop g737_3)))
   (.seq (.reg 0 [⟨0, some 113, none, .p .mov, [.t 6]⟩,
    ⟨1, some 114, none, .p .mov, [.t 10]⟩,
    ⟨2, some 115, none, .e .call [] [], [.f 674, .t 113, .t 114]⟩,
    ⟨3, some 116, none, .p (.extract 0), [.t 115]⟩,
    ⟨4, some 117, none, .p (.extract 1), [.t 115]⟩,
    ⟨5, none, none, .l (.store 4 2), [.t 4, .t 116]⟩,
    ⟨6, some 5, none, .p .mov, [.t 117]⟩])
   (.ret)))))))),
  [.cellL 4 4 true 2, .tmp 5]⟩
/- loop.example/g00641/laws.sameRelation -/
def g640 : GL.Fn := ⟨.seq (.reg 0 [⟨0, some 2, none, .l (.box 2 2), [.t 0]⟩,
    ⟨1, some 3, none, .l (.box 3 2), [.t 1]⟩,
    ⟨2, some 4, none, .p .mov, [.c (.bool false)]⟩])
   (.seq (.reg 0 [⟨0, some 5, none, .p (.faddr 0), [.t 2]⟩,
    ⟨1, some 6, none, .l (.load 2 false 1), [.t 5]⟩,
    ⟨2, some 7, none, .p (.faddr 0), [.t 3]⟩,
    ⟨3, some 8, none, .l (.load 3 false 1), [.t 7]⟩,
    ⟨4, some 9, none, .e .call [] [], [.f 24, .t 6, .t 8]⟩,
    ⟨5, some 10, none, .p .mov, [.t 9]⟩,
    ⟨6, some 11, some (10, true), .p (.faddr 1), [.t 2]⟩,
    ⟨7, some 12, some (10, true), .l (.load 2 false 1), [.t 11]⟩,
    ⟨8, some 13, some (10, true), .p (.faddr 1), [.t 3]⟩,
    ⟨9, some 14, some (10, true), .l (.load 3 false 1), [.t 13]⟩,
    ⟨10, some 15, some (10, true), .e .call [] [], [.f 383, .t 12, .t 14]⟩,
    ⟨11, some 16, none, .p .pick, [.t 10, .t 15, .c (.bool false)]⟩,
    ⟨12, some 4, none, .p .mov, [.t 16]⟩])
   (.ret)),
  [.tmp 4]⟩
/- loop.example/g00641/impl.SameTuples -/
def g738 : GL.Fn := ⟨.seq (.reg 0 [⟨0, some 2, none, .l (.box 2 2), [.t 0]⟩,
    ⟨1, some 3, none, .l (.box 3 2), [.t 1]⟩,
    ⟨2, some 4, none, .p .mov, [.c (.bool false)]⟩,
    ⟨3, some 5, none, .p .mov, [.c (.bool false)]⟩])
   (.seq (.seq (.reg 0 [⟨0, some 6, none, .l (.load 2 true 2), [.t 2]⟩,
    ⟨1, some 7, none, .e .call [] [], [.f 659, .t 6]⟩,
    ⟨2, some 8, none, .p (.un .not), [.t 7]⟩,
    ⟨3, some 9, none, .p .mov, [.t 8]⟩,
    ⟨4, some 10, some (9, false), .l (.load 3 true 2), [.t 3]⟩,
    ⟨5, some 11, some (9, false), .e .call [] [], [.f 659, .t 10]⟩,
    ⟨6, some 12, some (9, false), .p (.un .not), [.t 11]⟩,
    ⟨7, some 13, none, .p .pick, [.t 9, .c (.bool true), .t 12]⟩])
   (.cond (.t 13) (.seq (.reg 0 [⟨0, some 4, none, .p .mov, [.c (.bool false)]⟩,
    ⟨1, some 5, none, .p .mov, [.c (.bool false)]⟩])
   (.ret))
   (.skip)))
   (.seq (.reg 0 [⟨0, some 14, none, .p (.faddr 0), [.t 2]⟩,
    ⟨1, some 15, none, .l (.load 2 false 1), [.t 14]⟩,
    ⟨2, some 16, none, .p (.faddr 0), [.t 3]⟩,
    ⟨3, some 17, none, .l (.load 3 false 1), [.t 16]⟩,
    ⟨4, some 18, none, .e .call [] [], [.f 386, .t 15, .t 17]⟩,
    ⟨5, some 19, none, .p .mov, [.t 18]⟩,
    ⟨6, some 20, some (19, true), .p (.faddr 1), [.t 2]⟩,
    ⟨7, some 21, some (19, true), .l (.load 2 false 1), [.t 20]⟩,
    ⟨8, some 22, some (19, true), .p (.faddr 1), [.t 3]⟩,
    ⟨9, some 23, some (19, true), .l (.load 3 false 1), [.t 22]⟩,
    ⟨10, some 24, some (19, true), .e .call [] [], [.f 778, .t 21, .t 23, .f 386]⟩,
    ⟨11, some 25, none, .p .pick, [.t 19, .t 24, .c (.bool false)]⟩,
    ⟨12, some 4, none, .p .mov, [.t 25]⟩,
    ⟨13, some 5, none, .p .mov, [.c (.bool true)]⟩])
   (.ret))),
  [.tmp 4, .tmp 5]⟩
/- loop.example/g00641/impl.Project -/
def g739_0 : GL.Code := .seq (.reg 0 [⟨0, some 25, none, .p (.bin .lss), [.t 24, .t 23]⟩])
   (.seq (.cond (.t 25) (.skip)
   (.exit 0))
   (.seq (.block 1 (.seq (.reg 0 [⟨0, some 26, none, .p (.idx 1), [.t 22, .t 24]⟩,
    ⟨1, some 27, none, .r (.load false 1) false, [.t 26]⟩,
    ⟨2, some 8, none, .p .mov, [.t 27]⟩])
   (.reg 0 [⟨0, some 28, none, .p .mov, [.t 6]⟩,
    ⟨1, some 29, none, .p (.faddr 0), [.t 2]⟩,
    ⟨2, some 30, none, .l (.load 2 false 1), [.t 29]⟩,
    ⟨3, some 31, none, .p .mov, [.t 8]⟩,
    ⟨4, some 32, none, .p .mov, [.t 1]⟩,
    ⟨5, some 33, none, .e .call [] [], [.f 661, .t 30, .t 31, .t 32]⟩,
    ⟨6, some 34, none, .e (.new (.lit 1)) [] [], [.t 33]⟩,
    ⟨7, some 35, none, .e (.append 1 24) [] [], [.t 28, .t 34]⟩,
    ⟨8, some 6, none, .p .mov, [.t 35]⟩])))
   (.reg 0 [⟨0, some 36, none, .p (.bin .add), [.t 24, .c (.int .i64 1)]⟩,
    ⟨1, some 24, none, .p .mov, [.t 36]⟩])))
def g739 : GL.Fn := ⟨.seq (.reg 0 [⟨0, some 2, none, .l (.box 2 2), [.t 0]⟩,
    ⟨1, some 4, none, .l (.alloc 4 [.nils, .nils]), []⟩,
    ⟨2, some 5, none, .p .mov, [.c (.bool false)]⟩])
   (.seq (.seq (.reg 0 [⟨0, some 9, none, .l (.load 2 true 2), [.t 2]⟩,
    ⟨1, some 10, none, .e .call [] [], [.f 659, .t 9]⟩,
    ⟨2, some 11, none, .p (.un .not), [.t 10]⟩,
    ⟨3, some 12, none, .p .mov, [.t 11]⟩,
    ⟨4, some 13, some (12, false), .p .mov, [.t 1]⟩,
    ⟨5, some 14, some (12, false), .p (.faddr 0), [.t 2]⟩,
    ⟨6, some 15, some (12, false), .l (.load 2 false 1), [.t 14]⟩,
    ⟨7, some 16, some (12, false), .e .call [] [], [.f 660, .t 13, .t 15]⟩,
    ⟨8, some 17, some (12, false), .p (.un .not), [.t 16]⟩,
    ⟨9, some 18, none, .p .pick, [.t 12, .c (.bool true), .t 17]⟩])
   (.cond (.t 18) (.seq (.reg 0 [⟨0, some 19, none, .p (.build [.nils, .nils] []), []⟩,
    ⟨1, none, none, .l (.store 4 2), [.t 4, .t 19]⟩,
    ⟨2, some 5, none, .p .mov, [.c (.bool false)]⟩])
   (.ret))
   (.skip)))
   (.seq (.reg 0 [⟨0, some 20, none, .e (.new (.lit 1)) [] [], []⟩,
    ⟨1, some 6, none, .p .mov, [.t 20]⟩])
   (.seq (.seq (.reg 0 [⟨0, some 21, none, .p (.faddr 1), [.t 2]⟩,
    ⟨1, some 22, none, .l (.load 2 false 1), [.t 21]⟩,
    ⟨2, some 23, none, .p .len, [.t 22]⟩,
    ⟨3, some 24, none, .p .mov, [.c (.int .i64 0)]⟩])
   (.block 0 (.loop g739_0)))
   (.seq (.reg 0 [⟨0, some 37, none, .p .mov, [.t 1]⟩,
    ⟨1, some 38, none, .p .mov, [.t 6]⟩,
    ⟨2, some 39, none, .e .call [] [], [.f 673, .t 37, .t 38]⟩,
    ⟨3, some 40, none, .p (.extract 0), [.t 39]⟩,
    ⟨4, some 41, none, .p (.extract 1), [.t 39]⟩,
    ⟨5, none, none, .l (.store 4 2), [.t 4, .t 40]⟩,
    ⟨6, some 5, none, .p .mov, [.t 41]⟩])
   (.ret))))),
  [.cellL 4 4 true 2, .tmp 5]⟩
/- loop.example/g00641/impl.WithoutOf -/
def g740 : GL.Fn := ⟨.seq (.reg 0 [⟨0, some 2, none, .l (.box 2 2), [.t 0]⟩,
    ⟨1, some 3, none, .e (.new (.box 2)) [] [], [.t 1]⟩,
    ⟨2, some 4, none, .l (.alloc 4 [.nils, .nils]), []⟩,
    ⟨3, some 5, none, .p .mov, [.c (.bool false)]⟩])
   (.seq (.seq (.reg 0 [⟨0, some 7, none, .l (.load 2 true 2), [.t 2]⟩,
    ⟨1, some 8, none, .r (.load true 2) false, [.t 3]⟩,
    ⟨2, some 9, none, .e .call [] [], [.f 779, .t 7, .t 8]⟩,
    ⟨3, some 10, none, .p (.un .not), [.t 9]⟩])
   (.cond (.t 10) (.seq (.reg 0 [⟨0, some 11, none, .p (.build [.nils, .nils] []), []⟩,
    ⟨1, none, none, .l (.store 4 2), [.t 4, .t 11]⟩,
    ⟨2, some 5, none, .p .mov, [.c (.bool false)]⟩])
   (.ret))
   (.skip)))
   (.seq (.reg 0 [⟨0, some 12, none, .p (.faddr 1), [.t 2]⟩,
    ⟨1, some 13, none, .l (.load 2 false 1), [.t 12]⟩,
    ⟨2, some 14, none, .e .call [] [], [.f 780, .t 13]⟩,
    ⟨3, some 15, none, .p (.mkFn 781), [.t 3]⟩,
    ⟨4, some 16, none, .e .call [] [], [.f 782, .t 14, .t 15]⟩,
    ⟨5, some 6, none, .p .mov, [.t 16]⟩])
   (.seq (.reg 0 [⟨0, some 17, none, .p (.faddr 0), [.t 2]⟩,
    ⟨1, some 18, none, .l (.load 2 false 1), [.t 17]⟩,
    ⟨2, some 19, none, .p .mov, [.t 6]⟩,
    ⟨3, some 20, none, .e .call [] [], [.f 673, .t 18, .t 19]⟩,
    ⟨4, some 21, none, .p (.extract 0), [.t 20]⟩,
    ⟨5, some 22, none, .p (.extract 1), [.t 20]⟩,
    ⟨6, none, none, .l (.store 4 2), [.t 4, .t 21]⟩,
    ⟨7, some 5, none, .p .mov, [.t 22]⟩])
   (.ret)))),
  [.cellL 4 4 true 2, .tmp 5]⟩
/- loop.example/g00641/laws.numberOf -/
def g31_0 : GL.Code := .seq (.reg 0 [⟨0, some 9, none, .p (.bin .lss), [.t 8, .t 7]⟩])
   (.seq (.cond (.t 9) (.skip)
   (.exit 0))
   (.seq (.block 1 (.seq (.reg 0 [⟨0, some 10, none, .p (.idx 1), [.t 6, .t 8]⟩,
    ⟨1, some 11, none, .r (.load false 1) false, [.t 10]⟩,
    ⟨2, some 5, none, .p .mov, [.t 11]⟩])
   (.reg 0 [⟨0, some 12, none, .p .mov, [.t 3]⟩,
    ⟨1, some 13, none, .p (.bin .mul), [.c (.int .i64 31), .t 12]⟩,
    ⟨2, some 14, none, .p .mov, [.t 5]⟩,
    ⟨3, some 15, none, .p (.conv .i64), [.t 14]⟩,
    ⟨4, some 16, none, .p (.bin .add), [.t 13, .t 15]⟩,
    ⟨5, some 17, none, .p (.bin .rem), [.t 16, .c (.int .i64 1000003)]⟩,
    ⟨6, some 3, none, .p .mov, [.t 17]⟩])))
   (.reg 0 [⟨0, some 18, none, .p (.bin .add), [.t 8, .c (.int .i64 1)]⟩,
    ⟨1, some 8, none, .p .mov, [.t 18]⟩])))
def g31 : GL.Fn := ⟨.seq (.reg 0 [⟨0, some 2, none, .p .mov, [.c (.int .i64 0)]⟩])
   (.seq (.reg 0 [⟨0, some 3, none, .p .mov, [.c (.int .i64 0)]⟩])
   (.seq (.seq (.reg 0 [⟨0, some 6, none, .p .mov, [.t 0]⟩,
    ⟨1, some 7, none, .p .len, [.t 6]⟩,
    ⟨2, some 8, none, .p .mov, [.c (.int .i64 0)]⟩])
   (.block 0 (.loop g31_0)))
   (.seq (.reg 0 [⟨0, some 19, none, .p .mov, [.t 3]⟩,
    ⟨1, some 2, none, .p .mov, [.t 19]⟩])
   (.ret)))),
  [.tmp 2]⟩
/- loop.example/g00641/impl.Choose -/
def g741_0 : GL.Code := .seq (.reg 0 [⟨0, some 41, none, .p (.bin .lss), [.t 40, .t 39]⟩])
   (.seq (.cond (.t 41) (.skip)
   (.exit 0))
   (.seq (.block 1 (.seq (.reg 0 [⟨0, some 42, none, .p (.idx 1), [.t 38, .t 40]⟩,
    ⟨1, some 43, none, .r (.load false 1) false, [.t 42]⟩,
    ⟨2, some 13, none, .p .mov, [.t 43]⟩])
   (.seq (.reg 0 [⟨0, some 44, none, .p .mov, [.t 2]⟩,
    ⟨1, some 45, none, .p .mov, [.t 13]⟩,
    ⟨2, some 46, none, .p .mov, [.t 10]⟩,
    ⟨3, some 47, none, .p (.idx 1), [.t 45, .t 46]⟩,
    ⟨4, some 48, none, .r (.load false 1) false, [.t 47]⟩,
    ⟨5, some 49, none, .p (.build [.bool false, .int .i64 0] [(1, 1)]), [.t 48]⟩,
    ⟨6, some 50, none, .p .mov, [.t 3]⟩,
    ⟨7, some 51, none, .p (.build [.bool false, .int .i64 0] [(1, 1)]), [.t 50]⟩,
    ⟨8, some 52, none, .e .call [] [], [.f 97, .t 44, .t 49, .t 51]⟩,
    ⟨9, some 53, none, .p (.bin .eql), [.t 52, .c (.int .i64 2)]⟩])
   (.cond (.t 53) (.reg 0 [⟨0, some 54, none, .p .mov, [.t 11]⟩,
    ⟨1, some 55, none, .p .mov, [.t 13]⟩,
    ⟨2, some 56, none, .e (.new (.lit 1)) [] [], [.t 55]⟩,
    ⟨3, some 57, none, .e (.append 1 24) [] [], [.t 54, .t 56]⟩,
    ⟨4, some 11, none, .p .mov, [.t 57]⟩])
   (.skip)))))
   (.reg 0 [⟨0, some 58, none, .p (.bin .add), [.t 40, .c (.int .i64 1)]⟩,
    ⟨1, some 40, none, .p .mov, [.t 58]⟩])))
def g741 : GL.Fn := ⟨.seq (.reg 0 [⟨0, some 4, none, .l (.box 4 2), [.t 0]⟩,
    ⟨1, some 8, none, .l (.alloc 8 [.nils, .nils]), []⟩,
    ⟨2, some 9, none, .p .mov, [.c (.bool false)]⟩])
   (.seq (.reg 0 [⟨0, some 14, none, .p (.faddr 0), [.t 4]⟩,
    ⟨1, some 15, none, .l (.load 4 false 1), [.t 14]⟩,
    ⟨2, some 16, none, .p .mov, [.t 1]⟩,
    ⟨3, some 17, none, .e .call [] [], [.f 390, .t 15, .t 16]⟩,
    ⟨4, some 10, none, .p .mov, [.t 17]⟩])
   (.seq (.seq (.reg 0 [⟨0, some 18, none, .l (.load 4 true 2), [.t 4]⟩,
    ⟨1, some 19, none, .e .call [] [], [.f 659, .t 18]⟩,
    ⟨2, some 20, none, .p (.un .not), [.t 19]⟩,
    ⟨3, some 21, none, .p .mov, [.t 20]⟩,
    ⟨4, some 22, some (21, false), .p .mov, [.t 10]⟩,
    ⟨5, some 23, some (21, false), .p (.bin .lss), [.t 22, .c (.int .i64 0)]⟩,
    ⟨6, some 24, none, .p .pick, [.t 21, .c (.bool true), .t 23]⟩,
    ⟨7, some 25, none, .p .mov, [.t 24]⟩,
    ⟨8, some 26, some (25, false), .p .mov, [.t 2]⟩,
    ⟨9, some 27, some (25, false), .e .call [] [], [.f 96, .t 26]⟩,
    ⟨10, some 28, some (25, false), .p (.un .not), [.t 27]⟩,
    ⟨11, some 29, none, .p .pick, [.t 25, .c (.bool true), .t 28]⟩,
    ⟨12, some 30, none, .p .mov, [.t 29]⟩,
    ⟨13, some 31, some (30, false), .p .mov, [.t 3]⟩,
    ⟨14, some 32, some (30, false), .e .call [] [], [.f 100, .t 31]⟩,
    ⟨15, some 33, some (30, false), .p (.un .not), [.t 32]⟩,
    ⟨16, some 34, none, .p .pick, [.t 30, .c (.bool true), .t 33]⟩])
   (.cond (.t 34) (.seq (.reg 0 [⟨0, some 35, none, .p (.build [.nils, .nils] []), []⟩,
    ⟨1, none, none, .l (.store 8 2), [.t 8, .t 35]⟩,
    ⟨2, some 9, none, .p .mov, [.c (.bool false)]⟩])
   (.ret))
   (.skip)))
   (.seq (.reg 0 [⟨0, some 36, none, .e (.new (.lit 1)) [] [], []⟩,
    ⟨1, some 11, none, .p .mov, [.t 36]⟩])
   (.seq (.seq (.reg 0 [⟨0, some 37, none, .p (.faddr 1), [.t 4]⟩,
    ⟨1, some 38, none, .l (.load 4 false 1), [.t 37]⟩,
    ⟨2, some 39, none, .p .len, [.t 38]⟩,
    ⟨3, some 40, none, .p .mov, [.c (.int .i64 0)]⟩])
   (.block 0 (.loop g741_0)))
   (.seq (.reg 0 [⟨0, some 59, none, .p (.faddr 0), [.t 4]⟩,
    ⟨1, some 60, none, .l (.load 4 false 1), [.t 59]⟩,
    ⟨2, some 61, none, .p .mov, [.t 11]⟩,
    ⟨3, some 62, none, .e .call [] [], [.f 673, .t 60, .t 61]⟩,
    ⟨4, some 63, none, .p (.extract 0), [.t 62]⟩,
    ⟨5, some 64, none, .p (.extract 1), [.t 62]⟩,
    ⟨6, none, none, .l (.store 8 2), [.t 8, .t 63]⟩,
    ⟨7, some 9, none, .p .mov, [.t 64]⟩])
   (.ret)))))),
  [.cellL 8 8 true 2, .tmp 9]⟩
/- loop.example/g00641/spec.DrawSameTuples -/
def g742 : GL.Fn := ⟨.seq (.reg 0 [⟨0, some 2, none, .l (.alloc 2 [.nils, .nils]), []⟩,
    ⟨1, some 3, none, .l (.alloc 3 [.nils, .nils]), []⟩])
   (.seq (.reg 0 [⟨0, some 4, none, .p .mov, [.t 0]⟩,
    ⟨1, some 5, none, .e .call [] [], [.f 748, .t 4]⟩,
    ⟨2, some 6, none, .p (.extract 0), [.t 5]⟩,
    ⟨3, some 7, none, .p (.extract 1), [.t 5]⟩,
    ⟨4, none, none, .l (.store 2 2), [.t 2, .t 6]⟩,
    ⟨5, none, none, .l (.store 3 2), [.t 3, .t 7]⟩])
   (.ret)),
  [.cellL 2 2 true 2, .cellL 3 3 true 2]⟩
/- loop.example/g00641/spec.SameTuples -/
def g743_0 : GL.Code := .seq (.seq (.reg 0 [⟨0, some 30, none, .p .mov, [.t 6]⟩,
    ⟨1, some 31, none, .p .mov, [.t 30]⟩,
    ⟨2, some 32, some (31, true), .p .mov, [.t 7]⟩,
    ⟨3, some 33, some (31, true), .p (.faddr 1), [.t 2]⟩,
    ⟨4, some 34, some (31, true), .l (.load 2 false 1), [.t 33]⟩,
    ⟨5, some 35, some (31, true), .p .len, [.t 34]⟩,
    ⟨6, some 36, some (31, true), .p (.bin .lss), [.t 32, .t 35]⟩,
    ⟨7, some 37, none, .p .pick, [.t 31, .t 36, .c (.bool false)]⟩])
   (.cond (.t 37) (.skip)
   (.exit 0)))
   (.seq (.block 1 (.reg 0 [⟨0, some 40, none, .p (.faddr 1), [.t 2]⟩,
    ⟨1, some 41, none, .l (.load 2 false 1), [.t 40]⟩,
    ⟨2, some 42, none, .p .mov, [.t 7]⟩,
    ⟨3, some 43, none, .p (.idx 1), [.t 41, .t 42]⟩,
    ⟨4, some 44, none, .r (.load false 1) false, [.t 43]⟩,
    ⟨5, some 45, none, .p (.faddr 1), [.t 3]⟩,
    ⟨6, some 46, none, .l (.load 3 false 1), [.t 45]⟩,
    ⟨7, some 47, none, .p .mov, [.t 7]⟩,
    ⟨8, some 48, none, .p (.idx 1), [.t 46, .t 47]⟩,
    ⟨9, some 49, none, .r (.load false 1) false, [.t 48]⟩,
    ⟨10, some 50, none, .e .call [] [], [.f 356, .t 44, .t 49]⟩,
    ⟨11, some 6, none, .p .mov, [.t 50]⟩]))
   (.reg 0 [⟨0, some 38, none, .p .mov, [.t 7]⟩,
    ⟨1, some 39, none, .p (.bin .add), [.t 38, .c (.int .i64 1)]⟩,
    ⟨2, some 7, none, .p .mov, [.t 39]⟩]))
def g743 : GL.Fn := ⟨.seq (.reg 0 [⟨0, some 2, none, .l (.box 2 2), [.t 0]⟩,
    ⟨1, some 3, none, .l (.box 3 2), [.t 1]⟩,
    ⟨2, some 4, none, .p .mov, [.c (.bool false)]⟩,
    ⟨3, some 5, none, .p .mov, [.c (.bool false)]⟩])
   (.seq (.seq (.reg 0 [⟨0, some 8, none, .l (.load 2 true 2), [.t 2]⟩,
    ⟨1, some 9, none, .e .call [] [], [.f 662, .t 8]⟩,
    ⟨2, some 10, none, .p (.un .not), [.t 9]⟩,
    ⟨3, some 11, none, .p .mov, [.t 10]⟩,
    ⟨4, some 12, some (11, false), .l (.load 3 true 2), [.t 3]⟩,
    ⟨5, some 13, some (11, false), .e .call [] [], [.f 662, .t 12]⟩,
    ⟨6, some 14, some (11, false), .p (.un .not), [.t 13]⟩,
    ⟨7, some 15, none, .p .pick, [.t 11, .c (.bool true), .t 14]⟩])
   (.cond (.t 15) (.seq (.reg 0 [⟨0, some 4, none, .p .mov, [.c (.bool false)]⟩,
    ⟨1, some 5, none, .p .mov, [.c (.bool false)]⟩])
   (.ret))
   (.skip)))
   (.seq (.reg 0 [⟨0, some 16, none, .p (.faddr 0), [.t 2]⟩,
    ⟨1, some 17, none, .l (.load 2 false 1), [.t 16]⟩,
    ⟨2, some 18, none, .p (.faddr 0), [.t 3]⟩,
    ⟨3, some 19, none, .l (.load 3 false 1), [.t 18]⟩,
    ⟨4, some 20, none, .e .call [] [], [.f 356, .t 17, .t 19]⟩,
    ⟨5, some 21, none, .p .mov, [.t 20]⟩,
    ⟨6, some 22, some (21, true), .p (.faddr 1), [.t 2]⟩,
    ⟨7, some 23, some (21, true), .l (.load 2 false 1), [.t 22]⟩,
    ⟨8, some 24, some (21, true), .p .len, [.t 23]⟩,
    ⟨9, some 25, some (21, true), .p (.faddr 1), [.t 3]⟩,
    ⟨10, some 26, some (21, true), .l (.load 3 false 1), [.t 25]⟩,
    ⟨11, some 27, some (21, true), .p .len, [.t 26]⟩,
    ⟨12, some 28, some (21, true), .p (.bin .eql), [.t 24, .t 27]⟩,
    ⟨13, some 29, none, .p .pick, [.t 21, .t 28, .c (.bool false)]⟩,
    ⟨14, some 6, none, .p .mov, [.t 29]⟩])
   (.seq (.seq (.reg 0 [⟨0, some 7, none, .p .mov, [.c (.int .i64 0)]⟩])
   (.block 0 (.loop g743_0)))
   (.seq (.reg 0 [⟨0, some 51, none, .p .mov, [.t 6]⟩,
    ⟨1, some 4, none, .p .mov, [.t 51]⟩,
    ⟨2, some 5, none, .p .mov, [.c (.bool true)]⟩])
   (.ret))))),
  [.tmp 4, .tmp 5]⟩
/- loop.example/g00641/impl.GoodRelation -/
def g659_0 : GL.Code := .seq (.reg 0 [⟨0, some 25, none, .p (.bin .lss), [.t 24, .t 23]⟩])
   (.seq (.cond (.t 25) (.skip)
   (.exit 0))
   (.seq (.block 1 (.seq (.reg 0 [⟨0, some 26, none, .p .mov, [.t 24]⟩,
    ⟨1, some 27, none, .p (.idx 1), [.t 22, .t 24]⟩,
    ⟨2, some 28, none, .r (.load false 1) false, [.t 27]⟩,
    ⟨3, some 3, none, .p .mov, [.t 26]⟩,
    ⟨4, some 4, none, .p .mov, [.t 28]⟩])
   (.seq (.seq (.reg 0 [⟨0, some 29, none, .p .mov, [.t 4]⟩,
    ⟨1, some 30, none, .p .len, [.t 29]⟩,
    ⟨2, some 31, none, .p (.faddr 0), [.t 1]⟩,
    ⟨3, some 32, none, .l (.load 1 false 1), [.t 31]⟩,
    ⟨4, some 33, none, .p .len, [.t 32]⟩,
    ⟨5, some 34, none, .p (.bin .neq), [.t 30, .t 33]⟩,
    ⟨6, some 35, none, .p .mov, [.t 34]⟩,
    ⟨7, some 36, some (35, false), .p .mov, [.t 4]⟩,
    ⟨8, some 37, some (35, false), .e .call [] [], [.f 304, .t 36, .f 676]⟩,
    ⟨9, some 38, none, .p .pick, [.t 35, .c (.bool true), .t 37]⟩])
   (.cond (.t 38) (.seq (.reg 0 [⟨0, some 2, none, .p .mov, [.c (.bool false)]⟩])
   (.ret))
   (.skip)))
   (.seq (.reg 0 [⟨0, some 39, none, .p .mov, [.t 3]⟩,
    ⟨1, some 40, none, .p (.bin .gtr), [.t 39, .c (.int .i64 0)]⟩,
    ⟨2, some 41, none, .p .mov, [.t 40]⟩,
    ⟨3, some 42, some (41, true), .p (.faddr 1), [.t 1]⟩,
    ⟨4, some 43, some (41, true), .l (.load 1 false 1), [.t 42]⟩,
    ⟨5, some 44, some (41, true), .p .mov, [.t 3]⟩,
    ⟨6, some 45, some (41, true), .p (.bin .sub), [.t 44, .c (.int .i64 1)]⟩,
    ⟨7, some 46, some (41, true), .p (.idx 1), [.t 43, .t 45]⟩,
    ⟨8, some 47, some (41, true), .r (.load false 1) false, [.t 46]⟩,
    ⟨9, some 48, some (41, true), .p .mov, [.t 4]⟩,
    ⟨10, some 49, some (41, true), .e .call [] [], [.f 677, .t 47, .t 48]⟩,
    ⟨11, some 50, some (41, true), .p (.bin .geq), [.t 49, .c (.int .i64 0)]⟩,
    ⟨12, some 51, none, .p .pick, [.t 41, .t 50, .c (.bool false)]⟩])
   (.cond (.t 51) (.seq (.reg 0 [⟨0, some 2, none, .p .mov, [.c (.bool false)]⟩])
   (.ret))
   (.skip))))))
   (.reg 0 [⟨0, some 52, none, .p (.bin .add), [.t 24, .c (.int .i64 1)]⟩,
    ⟨1, some 24, none, .p .mov, [.t 52]⟩])))
def g659 : GL.Fn := ⟨.seq (.reg 0 [⟨0, some 1, none, .l (.box 1 2), [.t 0]⟩,
    ⟨1, some 2, none, .p .mov, [.c (.bool false)]⟩])
   (.seq (.seq (.reg 0 [⟨0, some 5, none, .p (.faddr 0), [.t 1]⟩,
    ⟨1, some 6, none, .l (.load 1 false 1), [.t 5]⟩,
    ⟨2, some 7, none, .p .len, [.t 6]⟩,
    ⟨3, some 8, none, .p (.bin .gtr), [.t 7, .c (.int .i64 6)]⟩,
    ⟨4, some 9, none, .p .mov, [.t 8]⟩,
    ⟨5, some 10, some (9, false), .p (.faddr 0), [.t 1]⟩,
    ⟨6, some 11, some (9, false), .l (.load 1 false 1), [.t 10]⟩,
    ⟨7, some 12, some (9, false), .e .call [] [], [.f 385, .t 11, .c (.int .i64 0), .c (.int .i64 20)]⟩,
    ⟨8, some 13, some (9, false), .p (.un .not), [.t 12]⟩,
    ⟨9, some 14, none, .p .pick, [.t 9, .c (.bool true), .t 13]⟩,
    ⟨10, some 15, none, .p .mov, [.t 14]⟩,
    ⟨11, some 16, some (15, false), .p (.faddr 1), [.t 1]⟩,
    ⟨12, some 17, some (15, false), .l (.load 1 false 1), [.t 16]⟩,
    ⟨13, some 18, some (15, false), .p .len, [.t 17]⟩,
    ⟨14, some 19, some (15, false), .p (.bin .gtr), [.t 18, .c (.int .i64 60)]⟩,
    ⟨15, some 20, none, .p .pick, [.t 15, .c (.bool true), .t 19]⟩])
   (.cond (.t 20) (.seq (.reg 0 [⟨0, some 2, none, .p .mov, [.c (.bool false)]⟩])
   (.ret))
   (.skip)))
   (.seq (.seq (.reg 0 [⟨0, some 21, none, .p (.faddr 1), [.t 1]⟩,
    ⟨1, some 22, none, .l (.load 1 false 1), [.t 21]⟩,
    ⟨2, some 23, none, .p .len, [.t 22]⟩,
    ⟨3, some 24, none, .p .mov, [.c (.int .i64 0)]⟩])
   (.block 0 (.loop g659_0)))
   (.seq (.reg 0 [⟨0, some 2, none, .p .mov, [.c (.bool true)]⟩])
   (.ret)))),
  [.tmp 2]⟩
/- loop.example/g00641/spec.GoodRelation -/
def g662_0 : GL.Code := .seq (.reg 0 [⟨0, some 25, none, .p (.bin .lss), [.t 24, .t 23]⟩])
   (.seq (.cond (.t 25) (.skip)
   (.exit 0))
   (.seq (.block 1 (.seq (.reg 0 [⟨0, some 26, none, .p .mov, [.t 24]⟩,
    ⟨1, some 27, none, .p (.idx 1), [.t 22, .t 24]⟩,
    ⟨2, some 28, none, .r (.load false 1) false, [.t 27]⟩,
    ⟨3, some 3, none, .p .mov, [.t 26]⟩,
    ⟨4, some 4, none, .p .mov, [.t 28]⟩])
   (.seq (.reg 0 [⟨0, some 29, none, .p .mov, [.t 4]⟩,
    ⟨1, some 30, none, .p .len, [.t 29]⟩,
    ⟨2, some 31, none, .p (.faddr 0), [.t 1]⟩,
    ⟨3, some 32, none, .l (.load 1 false 1), [.t 31]⟩,
    ⟨4, some 33, none, .p .len, [.t 32]⟩,
    ⟨5, some 34, none, .p (.bin .neq), [.t 30, .t 33]⟩,
    ⟨6, some 35, none, .p .mov, [.t 34]⟩,
    ⟨7, some 36, some (35, false), .p .mov, [.t 4]⟩,
    ⟨8, some 37, some (35, false), .e .call [] [], [.f 94, .t 36, .c (.int .i64 (-1000)), .c (.int .i64 1000)]⟩,
    ⟨9, some 38, some (35, false), .p (.un .not), [.t 37]⟩,
    ⟨10, some 39, none, .p .pick, [.t 35, .c (.bool true), .t 38]⟩,
    ⟨11, some 40, none, .p .mov, [.t 39]⟩,
    ⟨12, some 41, some (40, false), .p .mov, [.t 3]⟩,
    ⟨13, some 42, some (40, false), .p (.bin .gtr), [.t 41, .c (.int .i64 0)]⟩,
    ⟨14, some 43, some (40, false), .p .mov, [.t 42]⟩,
    ⟨15, some 44, some (43, true), .p (.faddr 1), [.t 1]⟩,
    ⟨16, some 45, some (43, true), .l (.load 1 false 1), [.t 44]⟩,
    ⟨17, some 46, some (43, true), .p .mov, [.t 3]⟩,
    ⟨18, some 47, some (43, true), .p (.bin .sub), [.t 46, .c (.int .i64 1)]⟩,
    ⟨19, some 48, some (43, true), .p (.idx 1), [.t 45, .t 47]⟩,
    ⟨20, some 49, some (43, true), .r (.load false 1) false, [.t 48]⟩,
    ⟨21, some 50, some (43, true), .p .mov, [.t 4]⟩,
    ⟨22, some 51, some (43, true), .e .call [] [], [.f 678, .t 49, .t 50]⟩,
    ⟨23, some 52, some (43, true), .p (.un .not), [.t 51]⟩,
    ⟨24, some 53, some (40, false), .p .pick, [.t 43, .t 52, .c (.bool false)]⟩,
    ⟨25, some 54, none, .p .pick, [.t 40, .c (.bool true), .t 53]⟩])
   (.cond (.t 54) (.seq (.reg 0 [⟨0, some 2, none, .p .mov, [.c (.bool false)]⟩])
   (.ret))
   (.skip)))))
   (.reg 0 [⟨0, some 55, none, .p (.bin .add), [.t 24, .c (.int .i64 1)]⟩,
    ⟨1, some 24, none, .p .mov, [.t 55]⟩])))
def g662 : GL.Fn := ⟨.seq (.reg 0 [⟨0, some 1, none, .l (.box 1 2), [.t 0]⟩,
    ⟨1, some 2, none, .p .mov, [.c (.bool false)]⟩])
   (.seq (.seq (.reg 0 [⟨0, some 5, none, .p (.faddr 0), [.t 1]⟩,
    ⟨1, some 6, none, .l (.load 1 false 1), [.t 5]⟩,
    ⟨2, some 7, none, .p .len, [.t 6]⟩,
    ⟨3, some 8, none, .p (.bin .gtr), [.t 7, .c (.int .i64 6)]⟩,
    ⟨4, some 9, none, .p .mov, [.t 8]⟩,
    ⟨5, some 10, some (9, false), .p (.faddr 0), [.t 1]⟩,
    ⟨6, some 11, some (9, false), .l (.load 1 false 1), [.t 10]⟩,
    ⟨7, some 12, some (9, false), .e .call [] [], [.f 337, .t 11, .c (.int .i64 0), .c (.int .i64 20)]⟩,
    ⟨8, some 13, some (9, false), .p (.un .not), [.t 12]⟩,
    ⟨9, some 14, none, .p .pick, [.t 9, .c (.bool true), .t 13]⟩,
    ⟨10, some 15, none, .p .mov, [.t 14]⟩,
    ⟨11, some 16, some (15, false), .p (.faddr 1), [.t 1]⟩,
    ⟨12, some 17, some (15, false), .l (.load 1 false 1), [.t 16]⟩,
    ⟨13, some 18, some (15, false), .p .len, [.t 17]⟩,
    ⟨14, some 19, some (15, false), .p (.bin .gtr), [.t 18, .c (.int .i64 60)]⟩,
    ⟨15, some 20, none, .p .pick, [.t 15, .c (.bool true), .t 19]⟩])
   (.cond (.t 20) (.seq (.reg 0 [⟨0, some 2, none, .p .mov, [.c (.bool false)]⟩])
   (.ret))
   (.skip)))
   (.seq (.seq (.reg 0 [⟨0, some 21, none, .p (.faddr 1), [.t 1]⟩,
    ⟨1, some 22, none, .l (.load 1 false 1), [.t 21]⟩,
    ⟨2, some 23, none, .p .len, [.t 22]⟩,
    ⟨3, some 24, none, .p .mov, [.c (.int .i64 0)]⟩])
   (.block 0 (.loop g662_0)))
   (.seq (.reg 0 [⟨0, some 2, none, .p .mov, [.c (.bool true)]⟩])
   (.ret)))),
  [.tmp 2]⟩
/- loop.example/g00641/spec.DrawUnionOf -/
def g748 : GL.Fn := ⟨.seq (.reg 0 [⟨0, some 2, none, .l (.alloc 2 [.nils, .nils]), []⟩,
    ⟨1, some 3, none, .l (.alloc 3 [.nils, .nils]), []⟩])
   (.seq (.reg 0 [⟨0, some 7, none, .p .mov, [.t 0]⟩,
    ⟨1, some 8, none, .p (.build [.nils, .int .i64 0, .int .u64 0] [(0, 1)]), [.t 7]⟩,
    ⟨2, some 9, none, .e (.new (.box 3)) [] [], [.t 8]⟩,
    ⟨3, some 4, none, .p .mov, [.t 9]⟩])
   (.seq (.reg 0 [⟨0, some 10, none, .p .mov, [.t 4]⟩,
    ⟨1, some 11, none, .e .call [] [], [.f 777, .t 10]⟩,
    ⟨2, some 5, none, .p .mov, [.t 11]⟩])
   (.seq (.reg 0 [⟨0, some 12, none, .p .mov, [.t 4]⟩,
    ⟨1, some 13, none, .p .mov, [.t 5]⟩,
    ⟨2, some 14, none, .e .call [] [], [.f 657, .t 12, .t 13]⟩,
    ⟨3, some 6, none, .l (.alloc 6 [.nils, .nils]), []⟩,
    ⟨4, none, none, .l (.store 6 2), [.t 6, .t 14]⟩])
   (.seq (.seq (.reg 0 [⟨0, some 15, none, .p .mov, [.t 4]⟩,
    ⟨1, some 16, none, .e .call [] [], [.f 92, .t 15, .c (.int .i64 12)]⟩])
   (.cond (.t 16) (.reg 0 [⟨0, some 17, none, .p .mov, [.t 4]⟩,
    ⟨1, some 18, none, .e .call [] [], [.f 777, .t 17]⟩,
    ⟨2, some 5, none, .p .mov, [.t 18]⟩])
   (.skip)))
   (.seq (.reg 0 [⟨0, some 19, none, .l (.load 6 true 2), [.t 6]⟩,
    ⟨1, some 20, none, .p .mov, [.t 4]⟩,
    ⟨2, some 21, none, .p .mov, [.t 5]⟩,
    ⟨3, some 22, none, .e .call [] [], [.f 657, .t 20, .t 21]⟩,
    ⟨4, none, none, .l (.store 2 2), [.t 2, .t 19]⟩,
    ⟨5, none, none, .l (.store 3 2), [.t 3, .t 22]⟩])
   (.ret)))))),
  [.cellL 2 2 true 2, .cellL 3 3 true 2]⟩
/- (*loop.example/g00641/spec.l1Cur).relation -/
def g657_0 : GL.Code := .seq (.reg 0 [⟨0, some 19, none, .p (.bin .lss), [.t 18, .t 17]⟩])
   (.seq (.cond (.t 19) (.skip)
   (.exit 2))
   (.seq (.block 3 (.reg 0 [⟨0, some 20, none, .p .mov, [.t 7]⟩,
    ⟨1, some 21, none, .p .mov, [.t 0]⟩,
    ⟨2, some 22, none, .e .call [] [], [.f 91, .t 21, .c (.int .i64 3)]⟩,
    ⟨3, some 23, none, .e (.new (.lit 1)) [] [], [.t 22]⟩,
    ⟨4, some 24, none, .e (.append 1 8) [] [], [.t 20, .t 23]⟩,
    ⟨5, some 7, none, .p .mov, [.t 24]⟩]))
   (.reg 0 [⟨0, some 25, none, .p (.bin .add), [.t 18, .c (.int .i64 1)]⟩,
    ⟨1, some 18, none, .p .mov, [.t 25]⟩])))
def g657_1 : GL.Code := .seq (.seq (.reg 0 [⟨0, some 12, none, .p .mov, [.t 6]⟩,
    ⟨1, some 13, none, .p (.bin .gtr), [.t 12, .c (.int .i64 0)]⟩])
   (.cond (.t 13) (.skip)
   (.exit 0)))
   (.seq (.block 1 (.seq (.reg 0 [⟨0, some 7, none, .p .mov, [.c (.nils)]⟩])
   (.seq (.seq (.reg 0 [⟨0, some 16, none, .p .mov, [.t 1]⟩,
    ⟨1, some 17, none, .p .len, [.t 16]⟩,
    ⟨2, some 18, none, .p .mov, [.c (.int .i64 0)]⟩])
   (.block 2 (.loop g657_0)))
   (.reg 0 [⟨0, some 26, none, .p .mov, [.t 5]⟩,
    ⟨1, some 27, none, .p .mov, [.t 7]⟩,
    ⟨2, some 28, none, .e (.new (.lit 1)) [] [], [.t 27]⟩,
    ⟨3, some 29, none, .e (.append 1 24) [] [], [.t 26, .t 28]⟩,
    ⟨4, some 5, none, .p .mov, [.t 29]⟩]))))
   (.reg 0 [⟨0, some 14, none, .p .mov, [.t 6]⟩,
    ⟨1, some 15, none, .p (.bin .sub), [.t 14, .c (.int .i64 1)]⟩,
    ⟨2, some 6, none, .p .mov, [.t 15]⟩]))
def g657 : GL.Fn := ⟨.seq (.reg 0 [⟨0, some 4, none, .l (.alloc 4 [.nils, .nils]), []⟩])
   (.seq (.reg 0 [⟨0, some 5, none, .p .mov, [.c (.nils)]⟩])
   (.seq (.seq (.reg 0 [⟨0, some 10, none, .p .mov, [.t 0]⟩,
    ⟨1, some 11, none, .e .call [] [], [.f 91, .t 10, .c (.int .i64 8)]⟩,
    ⟨2, some 6, none, .p .mov, [.t 11]⟩])
   (.block 0 (.loop g657_1)))
   (.seq (.reg 0 [⟨0, some 31, none, .p .mov, [.t 1]⟩,
    ⟨1, some 32, none, .p .mov, [.t 5]⟩,
    ⟨2, some 33, none, .e .call [] [], [.f 674, .t 31, .t 32]⟩,
    ⟨3, some 30, none, .p .mov, [.t 33]⟩,
    ⟨4, some 34, none, .p (.extract 0), [.t 30]⟩,
    ⟨5, some 35, none, .p (.extract 1), [.t 30]⟩,
    ⟨6, some 8, none, .l (.alloc 8 [.nils, .nils]), []⟩,
    ⟨7, none, none, .l (.store 8 2), [.t 8, .t 34]⟩,
    ⟨8, some 9, none, .p .mov, [.t 35]⟩])
   (.seq (.seq (.reg 0 [⟨0, some 36, none, .p (.faddr 1), [.t 8]⟩,
    ⟨1, some 37, none, .l (.load 8 false 1), [.t 36]⟩,
    ⟨2, some 38, none, .p .len, [.t 37]⟩,
    ⟨3, some 39, none, .p (.bin .gtr), [.t 38, .c (.int .i64 0)]⟩,
    ⟨4, some 40, none, .p .mov, [.t 39]⟩,
    ⟨5, some 41, some (40, true), .p .mov, [.t 0]⟩,
    ⟨6, some 42, some (40, true), .e .call [] [], [.f 92, .t 41, .c (.int .i64 30)]⟩,
    ⟨7, some 43, none, .p .pick, [.t 40, .t 42, .c (.bool false)]⟩])
   (.cond (.t 43) (.reg 0 [⟨0, some 44, none, .p (.faddr 1), [.t 8]⟩,
    ⟨1, some 45, none, .l (.load 8 false 1), [.t 44]⟩,
    ⟨2, some 46, none, .p (.faddr 1), [.t 8]⟩,
    ⟨3, some 47, none, .l (.load 8 false 1), [.t 46]⟩,
    ⟨4, some 48, none, .p (.idx 1), [.t 47, .c (.int .i64 0)]⟩,
    ⟨5, some 49, none, .r (.load false 1) false, [.t 48]⟩,
    ⟨6, some 50, none, .e (.new (.lit 1)) [] [], [.t 49]⟩,
    ⟨7, some 51, none, .e (.append 1 24) [] [], [.t 45, .t 50]⟩,
    ⟨8, some 52, none, .p (.faddr 1), [.t 8]⟩,
    ⟨9, none, none, .l (.store 8 1), [.t 52, .t 51]⟩])
   (.skip)))
   (.seq (.reg 0 [⟨0, some 53, none, .l (.load 8 true 2), [.t 8]⟩,
    ⟨1, none, none, .l (.store 4 2), [.t 4, .t 53]⟩])
   (.ret)))))),
  [.cellL 4 4 true 2]⟩
/- (*loop.example/g00641/spec.l1Cur).names -/
def g777 : GL.Fn := ⟨.seq (.reg 0 [⟨0, some 2, none, .p .mov, [.c (.nils)]⟩])
   (.seq (.reg 0 [⟨0, some 3, none, .e (.new (.lit 1)) [] [], [.c (.int .i64 0), .c (.int .i64 1)]⟩,
    ⟨1, some 4, none, .e (.new (.lit 1)) [] [], [.c (.int .i64 1), .c (.int .i64 2)]⟩,
    ⟨2, some 5, none, .e (.new (.lit 1)) [] [], [.c (.int .i64 0), .c (.int .i64 1), .c (.int .i64 2)]⟩,
    ⟨3, some 6, none, .e (.new (.lit 1)) [] [], [.c (.int .i64 2), .c (.int .i64 3)]⟩,
    ⟨4, some 7, none, .e (.new (.lit 1)) [] [], [.c (.int .i64 0)]⟩,
    ⟨5, some 8, none, .e (.new (.lit 1)) [] [], [.c (.int .i64 1), .c (.int .i64 2), .c (.int .i64 3)]⟩,
    ⟨6, some 9, none, .e (.new (.lit 1)) [] [], [.t 3, .t 4, .t 5, .t 6, .t 7, .c (.nils), .t 8]⟩,
    ⟨7, some 10, none, .p .mov, [.t 0]⟩,
    ⟨8, some 11, none, .e .call [] [], [.f 91, .t 10, .c (.int .i64 7)]⟩,
    ⟨9, some 12, none, .p (.idx 1), [.t 9, .t 11]⟩,
    ⟨10, some 13, none, .r (.load false 1) false, [.t 12]⟩,
    ⟨11, some 2, none, .p .mov, [.t 13]⟩])
   (.ret)),
  [.tmp 2]⟩
/- loop.example/g00641/impl.both -/
def g336 : GL.Fn := ⟨.seq (.reg 0 [⟨0, some 3, none, .e (.new (.box 1)) [] [], [.t 1]⟩,
    ⟨1, some 4, none, .p .mov, [.c (.nils)]⟩])
   (.seq (.reg 0 [⟨0, some 5, none, .p .mov, [.t 0]⟩,
    ⟨1, some 6, none, .e .call [] [], [.f 389, .t 5]⟩,
    ⟨2, some 7, none, .p (.mkFn 396), [.t 3]⟩,
    ⟨3, some 8, none, .e .call [] [], [.f 397, .t 6, .t 7]⟩,
    ⟨4, some 4, none, .p .mov, [.t 8]⟩])
   (.ret)),
  [.tmp 4]⟩
/- loop.example/g00641/impl.together -/
def g412 : GL.Fn := ⟨.seq (.reg 0 [⟨0, some 4, none, .p .mov, [.c (.nils)]⟩])
   (.seq (.reg 0 [⟨0, some 6, none, .p .mov, [.t 0]⟩,
    ⟨1, some 7, none, .p .mov, [.t 1]⟩,
    ⟨2, some 8, none, .e (.new (.lit 1)) [] [], [.t 6, .t 7]⟩,
    ⟨3, some 9, none, .e .call [] [], [.f 429, .t 8]⟩,
    ⟨4, some 5, none, .p .mov, [.t 9]⟩])
   (.seq (.reg 0 [⟨0, some 10, none, .p .mov, [.t 5]⟩,
    ⟨1, some 11, none, .e .call [] [], [.f 340, .t 10]⟩])
   (.seq (.reg 0 [⟨0, some 12, none, .p .mov, [.t 5]⟩,
    ⟨1, some 13, none, .e .call [] [], [.f 430, .t 12]⟩,
    ⟨2, some 4, none, .p .mov, [.t 13]⟩])
   (.ret)))),
  [.tmp 4]⟩
/- slices.Equal[[]int,int] -/
def g386_0 : GL.Code := .seq (.reg 0 [⟨0, some 14, none, .p (.bin .lss), [.t 13, .t 12]⟩])
   (.seq (.cond (.t 14) (.skip)
   (.exit 0))
   (.seq (.block 1 (.seq (.reg 0 [⟨0, some 15, none, .p .mov, [.t 13]⟩,
    ⟨1, some 5, none, .p .mov, [.t 15]⟩])
   (.seq (.reg 0 [⟨0, some 16, none, .p .mov, [.t 0]⟩,
    ⟨1, some 17, none, .p .mov, [.t 5]⟩,
    ⟨2, some 18, none, .p (.idx 1), [.t 16, .t 17]⟩,
    ⟨3, some 19, none, .r (.load false 1) false, [.t 18]⟩,
    ⟨4, some 20, none, .p .mov, [.t 1]⟩,
    ⟨5, some 21, none, .p .mov, [.t 5]⟩,
    ⟨6, some 22, none, .p (.idx 1), [.t 20, .t 21]⟩,
    ⟨7, some 23, none, .r (.load false 1) false, [.t 22]⟩,
    ⟨8, some 24, none, .p (.bin .neq), [.t 19, .t 23]⟩])
   (.cond (.t 24) (.seq (.reg 0 [⟨0, some 4, none, .p .mov, [.c (.bool false)]⟩])
   (.ret))
   (.skip)))))
   (.reg 0 [⟨0, some 25, none, .p (.bin .add), [.t 13, .c (.int .i64 1)]⟩,
    ⟨1, some 13, none, .p .mov, [.t 25]⟩])))
def g386 : GL.Fn := ⟨.seq (.reg 0 [⟨0, some 4, none, .p .mov, [.c (.bool false)]⟩])
   (.seq (.seq (.reg 0 [⟨0, some 6, none, .p .mov, [.t 0]⟩,
    ⟨1, some 7, none, .p .len, [.t 6]⟩,
    ⟨2, some 8, none, .p .mov, [.t 1]⟩,
    ⟨3, some 9, none, .p .len, [.t 8]⟩,
    ⟨4, some 10, none, .p (.bin .neq), [.t 7, .t 9]⟩])
   (.cond (.t 10) (.seq (.reg 0 [⟨0, some 4, none, .p .mov, [.c (.bool false)]⟩])
   (.ret))
   (.skip)))
   (.seq (.seq (.reg 0 [⟨0, some 11, none, .p .mov, [.t 0]⟩,
    ⟨1, some 12, none, .p .len, [.t 11]⟩,
    ⟨2, some 13, none, .p .mov, [.c (.int .i64 0)]⟩])
   (.block 0 (.loop g386_0)))
   (.seq (.reg 0 [⟨0, some 4, none, .p .mov, [.c (.bool true)]⟩])
   (.ret)))),
  [.tmp 4]⟩
/- loop.example/g00641/impl.under -/
def g661_0 : GL.Code := .seq (.reg 0 [⟨0, some 14, none, .p (.bin .lss), [.t 13, .t 12]⟩])
   (.seq (.cond (.t 14) (.skip)
   (.exit 0))
   (.seq (.block 1 (.seq (.reg 0 [⟨0, some 15, none, .p (.idx 1), [.t 11, .t 13]⟩,
    ⟨1, some 16, none, .r (.load false 1) false, [.t 15]⟩,
    ⟨2, some 9, none, .p .mov, [.t 16]⟩])
   (.reg 0 [⟨0, some 17, none, .p .mov, [.t 7]⟩,
    ⟨1, some 18, none, .p .mov, [.t 1]⟩,
    ⟨2, some 19, none, .p .mov, [.t 0]⟩,
    ⟨3, some 20, none, .p .mov, [.t 9]⟩,
    ⟨4, some 21, none, .e .call [] [], [.f 390, .t 19, .t 20]⟩,
    ⟨5, some 22, none, .p (.idx 1), [.t 18, .t 21]⟩,
    ⟨6, some 23, none, .r (.load false 1) false, [.t 22]⟩,
    ⟨7, some 24, none, .e (.new (.lit 1)) [] [], [.t 23]⟩,
    ⟨8, some 25, none, .e (.append 1 8) [] [], [.t 17, .t 24]⟩,
    ⟨9, some 7, none, .p .mov, [.t 25]⟩])))
   (.reg 0 [⟨0, some 26, none, .p (.bin .add), [.t 13, .c (.int .i64 1)]⟩,
    ⟨1, some 13, none, .p .mov, [.t 26]⟩])))
def g661 : GL.Fn := ⟨.seq (.reg 0 [⟨0, some 6, none, .p .mov, [.c (.nils)]⟩])
   (.seq (.reg 0 [⟨0, some 10, none, .e (.new (.lit 1)) [] [], []⟩,
    ⟨1, some 7, none, .p .mov, [.t 10]⟩])
   (.seq (.seq (.reg 0 [⟨0, some 11, none, .p .mov, [.t 2]⟩,
    ⟨1, some 12, none, .p .len, [.t 11]⟩,
    ⟨2, some 13, none, .p .mov, [.c (.int .i64 0)]⟩])
   (.block 0 (.loop g661_0)))
   (.seq (.reg 0 [⟨0, some 27, none, .p .mov, [.t 7]⟩,
    ⟨1, some 6, none, .p .mov, [.t 27]⟩])
   (.ret)))),
  [.tmp 6]⟩
/- slices.Index[[]int,int] -/
def g390_0 : GL.Code := .seq (.reg 0 [⟨0, some 9, none, .p (.bin .lss), [.t 8, .t 7]⟩])
   (.seq (.cond (.t 9) (.skip)
   (.exit 0))
   (.seq (.block 1 (.seq (.reg 0 [⟨0, some 10, none, .p .mov, [.t 8]⟩,
    ⟨1, some 5, none, .p .mov, [.t 10]⟩])
   (.seq (.reg 0 [⟨0, some 11, none, .p .mov, [.t 1]⟩,
    ⟨1, some 12, none, .p .mov, [.t 0]⟩,
    ⟨2, some 13, none, .p .mov, [.t 5]⟩,
    ⟨3, some 14, none, .p (.idx 1), [.t 12, .t 13]⟩,
    ⟨4, some 15, none, .r (.load false 1) false, [.t 14]⟩,
    ⟨5, some 16, none, .p (.bin .eql), [.t 11, .t 15]⟩])
   (.cond (.t 16) (.seq (.reg 0 [⟨0, some 17, none, .p .mov, [.t 5]⟩,
    ⟨1, some 4, none, .p .mov, [.t 17]⟩])
   (.ret))
   (.skip)))))
   (.reg 0 [⟨0, some 18, none, .p (.bin .add), [.t 8, .c (.int .i64 1)]⟩,
    ⟨1, some 8, none, .p .mov, [.t 18]⟩])))
def g390 : GL.Fn := ⟨.seq (.reg 0 [⟨0, some 4, none, .p .mov, [.c (.int .i64 0)]⟩])
   (.seq (.seq (.reg 0 [⟨0, some 6, none, .p .mov, [.t 0]⟩,
    ⟨1, some 7, none, .p .len, [.t 6]⟩,
    ⟨2, some 8, none, .p .mov, [.c (.int .i64 0)]⟩])
   (.block 0 (.loop g390_0)))
   (.seq (.reg 0 [⟨0, some 4, none, .p .mov, [.c (.int .i64 (-1))]⟩])
   (.ret))),
  [.tmp 4]⟩
/- loop.example/g00641/impl.related -/
def g673_0 : GL.Code := .seq (.reg 0 [⟨0, some 15, none, .p (.bin .lss), [.t 14, .t 13]⟩])
   (.seq (.cond (.t 15) (.skip)
   (.exit 0))
   (.seq (.block 1 (.seq (.reg 0 [⟨0, some 16, none, .p (.idx 1), [.t 12, .t 14]⟩,
    ⟨1, some 17, none, .r (.load false 1) false, [.t 16]⟩,
    ⟨2, some 8, none, .p .mov, [.t 17]⟩])
   (.reg 0 [⟨0, some 18, none, .p (.faddr 1), [.t 6]⟩,
    ⟨1, some 19, none, .l (.load 6 false 1), [.t 18]⟩,
    ⟨2, some 20, none, .p .mov, [.t 8]⟩,
    ⟨3, some 21, none, .e .call [] [], [.f 389, .t 20]⟩,
    ⟨4, some 22, none, .e (.new (.lit 1)) [] [], [.t 21]⟩,
    ⟨5, some 23, none, .e (.append 1 24) [] [], [.t 19, .t 22]⟩,
    ⟨6, some 24, none, .p (.faddr 1), [.t 6]⟩,
    ⟨7, none, none, .l (.store 6 1), [.t 24, .t 23]⟩])))
   (.reg 0 [⟨0, some 25, none, .p (.bin .add), [.t 14, .c (.int .i64 1)]⟩,
    ⟨1, some 14, none, .p .mov, [.t 25]⟩])))
def g673 : GL.Fn := ⟨.seq (.reg 0 [⟨0, some 4, none, .l (.alloc 4 [.nils, .nils]), []⟩,
    ⟨1, some 5, none, .p .mov, [.c (.bool false)]⟩])
   (.seq (.reg 0 [⟨0, some 9, none, .p .mov, [.t 0]⟩,
    ⟨1, some 10, none, .e .call [] [], [.f 389, .t 9]⟩,
    ⟨2, some 11, none, .p (.build [.nils, .nils] [(0, 1), (1, 1)]), [.t 10, .c (.nils)]⟩,
    ⟨3, some 6, none, .l (.alloc 6 [.nils, .nils]), []⟩,
    ⟨4, none, none, .l (.store 6 2), [.t 6, .t 11]⟩])
   (.seq (.seq (.reg 0 [⟨0, some 12, none, .p .mov, [.t 1]⟩,
    ⟨1, some 13, none, .p .len, [.t 12]⟩,
    ⟨2, some 14, none, .p .mov, [.c (.int .i64 0)]⟩])
   (.block 0 (.loop g673_0)))
   (.seq (.reg 0 [⟨0, some 26, none, .p (.faddr 1), [.t 6]⟩,
    ⟨1, some 27, none, .l (.load 6 false 1), [.t 26]⟩,
    ⟨2, some 28, none, .e .call [] [], [.f 685, .t 27, .f 677]⟩])
   (.seq (.reg 0 [⟨0, some 29, none, .p (.faddr 1), [.t 6]⟩,
    ⟨1, some 30, none, .l (.load 6 false 1), [.t 29]⟩,
    ⟨2, some 31, none, .e .call [] [], [.f 686, .t 30, .f 386]⟩,
    ⟨3, some 32, none, .p (.faddr 1), [.t 6]⟩,
    ⟨4, none, none, .l (.store 6 1), [.t 32, .t 31]⟩])
   (.seq (.seq (.reg 0 [⟨0, some 33, none, .l (.load 6 true 2), [.t 6]⟩,
    ⟨1, some 34, none, .e .call [] [], [.f 659, .t 33]⟩,
    ⟨2, some 35, none, .p (.un .not), [.t 34]⟩])
   (.cond (.t 35) (.seq (.reg 0 [⟨0, some 36, none, .p (.build [.nils, .nils] []), []⟩,
    ⟨1, none, none, .l (.store 4 2), [.t 4, .t 36]⟩,
    ⟨2, some 5, none, .p .mov, [.c (.bool false)]⟩])
   (.ret))
   (.skip)))
   (.seq (.reg 0 [⟨0, some 37, none, .l (.load 6 true 2), [.t 6]⟩,
    ⟨1, none, none, .l (.store 4 2), [.t 4, .t 37]⟩,
    ⟨2, some 5, none, .p .mov, [.c (.bool true)]⟩])
   (.ret))))))),
  [.cellL 4 4 true 2, .tmp 5]⟩
/- loop.example/g00641/spec.l3At -/
def g606_0 : GL.Code := .seq (.reg 0 [⟨0, some 10, none, .p (.bin .lss), [.t 9, .t 8]⟩])
   (.seq (.cond (.t 10) (.skip)
   (.exit 0))
   (.seq (.block 1 (.seq (.reg 0 [⟨0, some 11, none, .p .mov, [.t 9]⟩,
    ⟨1, some 12, none, .p (.idx 1), [.t 7, .t 9]⟩,
    ⟨2, some 13, none, .r (.load false 1) false, [.t 12]⟩,
    ⟨3, some 5, none, .p .mov, [.t 11]⟩,
    ⟨4, some 6, none, .p .mov, [.t 13]⟩])
   (.seq (.reg 0 [⟨0, some 14, none, .p .mov, [.t 6]⟩,
    ⟨1, some 15, none, .p .mov, [.t 1]⟩,
    ⟨2, some 16, none, .p (.bin .eql), [.t 14, .t 15]⟩])
   (.cond (.t 16) (.seq (.reg 0 [⟨0, some 17, none, .p .mov, [.t 5]⟩,
    ⟨1, some 4, none, .p .mov, [.t 17]⟩])
   (.ret))
   (.skip)))))
   (.reg 0 [⟨0, some 18, none, .p (.bin .add), [.t 9, .c (.int .i64 1)]⟩,
    ⟨1, some 9, none, .p .mov, [.t 18]⟩])))
def g606 : GL.Fn := ⟨.seq (.reg 0 [⟨0, some 4, none, .p .mov, [.c (.int .i64 0)]⟩])
   (.seq (.seq (.reg 0 [⟨0, some 7, none, .p .mov, [.t 0]⟩,
    ⟨1, some 8, none, .p .len, [.t 7]⟩,
    ⟨2, some 9, none, .p .mov, [.c (.int .i64 0)]⟩])
   (.block 0 (.loop g606_0)))
   (.seq (.reg 0 [⟨0, some 4, none, .p .mov, [.c (.int .i64 (-1))]⟩])
   (.ret))),
  [.tmp 4]⟩
/- loop.example/g00641/spec.l1Put -/
def g410_0 : GL.Code := .seq (.seq (.reg 0 [⟨0, some 7, none, .p .mov, [.t 5]⟩,
    ⟨1, some 8, none, .p .mov, [.t 0]⟩,
    ⟨2, some 9, none, .p .len, [.t 8]⟩,
    ⟨3, some 10, none, .p (.bin .lss), [.t 7, .t 9]⟩,
    ⟨4, some 11, none, .p .mov, [.t 10]⟩,
    ⟨5, some 12, some (11, true), .p .mov, [.t 0]⟩,
    ⟨6, some 13, some (11, true), .p .mov, [.t 5]⟩,
    ⟨7, some 14, some (11, true), .p (.idx 1), [.t 12, .t 13]⟩,
    ⟨8, some 15, some (11, true), .r (.load false 1) false, [.t 14]⟩,
    ⟨9, some 16, some (11, true), .p .mov, [.t 1]⟩,
    ⟨10, some 17, some (11, true), .p (.bin .lss), [.t 15, .t 16]⟩,
    ⟨11, some 18, none, .p .pick, [.t 11, .t 17, .c (.bool false)]⟩])
   (.cond (.t 18) (.skip)
   (.exit 0)))
   (.block 1 (.reg 0 [⟨0, some 19, none, .p .mov, [.t 5]⟩,
    ⟨1, some 20, none, .p (.bin .add), [.t 19, .c (.int .i64 1)]⟩,
    ⟨2, some 5, none, .p .mov, [.t 20]⟩]))
def g410 : GL.Fn := ⟨.seq (.reg 0 [⟨0, some 4, none, .p .mov, [.c (.nils)]⟩])
   (.seq (.reg 0 [⟨0, some 5, none, .p .mov, [.c (.int .i64 0)]⟩])
   (.seq (.block 0 (.loop g410_0))
   (.seq (.seq (.reg 0 [⟨0, some 21, none, .p .mov, [.t 5]⟩,
    ⟨1, some 22, none, .p .mov, [.t 0]⟩,
    ⟨2, some 23, none, .p .len, [.t 22]⟩,
    ⟨3, some 24, none, .p (.bin .lss), [.t 21, .t 23]⟩,
    ⟨4, some 25, none, .p .mov, [.t 24]⟩,
    ⟨5, some 26, some (25, true), .p .mov, [.t 0]⟩,
    ⟨6, some 27, some (25, true), .p .mov, [.t 5]⟩,
    ⟨7, some 28, some (25, true), .p (.idx 1), [.t 26, .t 27]⟩,
    ⟨8, some 29, some (25, true), .r (.load false 1) false, [.t 28]⟩,
    ⟨9, some 30, some (25, true), .p .mov, [.t 1]⟩,
    ⟨10, some 31, some (25, true), .p (.bin .eql), [.t 29, .t 30]⟩,
    ⟨11, some 32, none, .p .pick, [.t 25, .t 31, .c (.bool false)]⟩])
   (.cond (.t 32) (.seq (.reg 0 [⟨0, some 33, none, .p .mov, [.t 0]⟩,
    ⟨1, some 4, none, .p .mov, [.t 33]⟩])
   (.ret))
   (.skip)))
   (.seq (.reg 0 [⟨0, some 34, none, .e (.new (.lit 1)) [] [], []⟩,
    ⟨1, some 35, none, .p .mov, [.t 0]⟩,
    ⟨2, some 36, none, .p .mov, [.t 5]⟩,
    ⟨3, some 37, none, .p (.slice 1 false true false), [.t 35, .t 36]⟩,
    ⟨4, some 38, none, .e (.append 1 8) [] [], [.t 34, .t 37]⟩,
    ⟨5, some 6, none, .p .mov, [.t 38]⟩])
   (.seq (.reg 0 [⟨0, some 39, none, .p .mov, [.t 6]⟩,
    ⟨1, some 40, none, .p .mov, [.t 1]⟩,
    ⟨2, some 41, none, .e (.new (.lit 1)) [] [], [.t 40]⟩,
    ⟨3, some 42, none, .e (.append 1 8) [] [], [.t 39, .t 41]⟩,
    ⟨4, some 6, none, .p .mov, [.t 42]⟩])
   (.seq (.reg 0 [⟨0, some 43, none, .p .mov, [.t 6]⟩,
    ⟨1, some 44, none, .p .mov, [.t 0]⟩,
    ⟨2, some 45, none, .p .mov, [.t 5]⟩,
    ⟨3, some 46, none, .p (.slice 1 true false false), [.t 44, .t 45]⟩,
    ⟨4, some 47, none, .e (.append 1 8) [] [], [.t 43, .t 46]⟩,
    ⟨5, some 4, none, .p .mov, [.t 47]⟩])
   (.ret))))))),
  [.tmp 4]⟩
/- loop.example/g00641/spec.l1Same -/
def g356_0 : GL.Code := .seq (.reg 0 [⟨0, some 14, none, .p (.bin .lss), [.t 13, .t 12]⟩])
   (.seq (.cond (.t 14) (.skip)
   (.exit 0))
   (.seq (.block 1 (.seq (.reg 0 [⟨0, some 15, none, .p .mov, [.t 13]⟩,
    ⟨1, some 5, none, .p .mov, [.t 15]⟩])
   (.seq (.reg 0 [⟨0, some 16, none, .p .mov, [.t 0]⟩,
    ⟨1, some 17, none, .p .mov, [.t 5]⟩,
    ⟨2, some 18, none, .p (.idx 1), [.t 16, .t 17]⟩,
    ⟨3, some 19, none, .r (.load false 1) false, [.t 18]⟩,
    ⟨4, some 20, none, .p .mov, [.t 1]⟩,
    ⟨5, some 21, none, .p .mov, [.t 5]⟩,
    ⟨6, some 22, none, .p (.idx 1), [.t 20, .t 21]⟩,
    ⟨7, some 23, none, .r (.load false 1) false, [.t 22]⟩,
    ⟨8, some 24, none, .p (.bin .neq), [.t 19, .t 23]⟩])
   (.cond (.t 24) (.seq (.reg 0 [⟨0, some 4, none, .p .mov, [.c (.bool false)]⟩])
   (.ret))
   (.skip)))))
   (.reg 0 [⟨0, some 25, none, .p (.bin .add), [.t 13, .c (.int .i64 1)]⟩,
    ⟨1, some 13, none, .p .mov, [.t 25]⟩])))
def g356 : GL.Fn := ⟨.seq (.reg 0 [⟨0, some 4, none, .p .mov, [.c (.bool false)]⟩])
   (.seq (.seq (.reg 0 [⟨0, some 6, none, .p .mov, [.t 0]⟩,
    ⟨1, some 7, none, .p .len, [.t 6]⟩,
    ⟨2, some 8, none, .p .mov, [.t 1]⟩,
    ⟨3, some 9, none, .p .len, [.t 8]⟩,
    ⟨4, some 10, none, .p (.bin .neq), [.t 7, .t 9]⟩])
   (.cond (.t 10) (.seq (.reg 0 [⟨0, some 4, none, .p .mov, [.c (.bool false)]⟩])
   (.ret))
   (.skip)))
   (.seq (.seq (.reg 0 [⟨0, some 11, none, .p .mov, [.t 0]⟩,
    ⟨1, some 12, none, .p .len, [.t 11]⟩,
    ⟨2, some 13, none, .p .mov, [.c (.int .i64 0)]⟩])
   (.block 0 (.loop g356_0)))
   (.seq (.reg 0 [⟨0, some 4, none, .p .mov, [.c (.bool true)]⟩])
   (.ret)))),
  [.tmp 4]⟩
/- loop.example/g00641/spec.l3Pick -/
def g679_0 : GL.Code := .seq (.reg 0 [⟨0, some 13, none, .p (.bin .lss), [.t 12, .t 11]⟩])
   (.seq (.cond (.t 13) (.skip)
   (.exit 0))
   (.seq (.block 1 (.seq (.reg 0 [⟨0, some 14, none, .p (.idx 1), [.t 10, .t 12]⟩,
    ⟨1, some 15, none, .r (.load false 1) false, [.t 14]⟩,
    ⟨2, some 9, none, .p .mov, [.t 15]⟩])
   (.reg 0 [⟨0, some 16, none, .p .mov, [.t 7]⟩,
    ⟨1, some 17, none, .p .mov, [.t 1]⟩,
    ⟨2, some 18, none, .p .mov, [.t 0]⟩,
    ⟨3, some 19, none, .p .mov, [.t 9]⟩,
    ⟨4, some 20, none, .e .call [] [], [.f 606, .t 18, .t 19]⟩,
    ⟨5, some 21, none, .p (.idx 1), [.t 17, .t 20]⟩,
    ⟨6, some 22, none, .r (.load false 1) false, [.t 21]⟩,
    ⟨7, some 23, none, .e (.new (.lit 1)) [] [], [.t 22]⟩,
    ⟨8, some 24, none, .e (.append 1 8) [] [], [.t 16, .t 23]⟩,
    ⟨9, some 7, none, .p .mov, [.t 24]⟩])))
   (.reg 0 [⟨0, some 25, none, .p (.bin .add), [.t 12, .c (.int .i64 1)]⟩,
    ⟨1, some 12, none, .p .mov, [.t 25]⟩])))
def g679 : GL.Fn := ⟨.seq (.reg 0 [⟨0, some 6, none, .p .mov, [.c (.nils)]⟩])
   (.seq (.reg 0 [⟨0, some 7, none, .p .mov, [.c (.nils)]⟩])
   (.seq (.seq (.reg 0 [⟨0, some 10, none, .p .mov, [.t 2]⟩,
    ⟨1, some 11, none, .p .len, [.t 10]⟩,
    ⟨2, some 12, none, .p .mov, [.c (.int .i64 0)]⟩])
   (.block 0 (.loop g679_0)))
   (.seq (.reg 0 [⟨0, some 26, none, .p .mov, [.t 7]⟩,
    ⟨1, some 6, none, .p .mov, [.t 26]⟩])
   (.ret)))),
  [.tmp 6]⟩
/- loop.example/g00641/spec.l3Add -/
def g687_0 : GL.Code := .seq (.seq (.reg 0 [⟨0, some 7, none, .p .mov, [.t 5]⟩,
    ⟨1, some 8, none, .p .mov, [.t 0]⟩,
    ⟨2, some 9, none, .p .len, [.t 8]⟩,
    ⟨3, some 10, none, .p (.bin .lss), [.t 7, .t 9]⟩,
    ⟨4, some 11, none, .p .mov, [.t 10]⟩,
    ⟨5, some 12, some (11, true), .p .mov, [.t 0]⟩,
    ⟨6, some 13, some (11, true), .p .mov, [.t 5]⟩,
    ⟨7, some 14, some (11, true), .p (.idx 1), [.t 12, .t 13]⟩,
    ⟨8, some 15, some (11, true), .r (.load false 1) false, [.t 14]⟩,
    ⟨9, some 16, some (11, true), .p .mov, [.t 1]⟩,
    ⟨10, some 17, some (11, true), .e .call [] [], [.f 678, .t 15, .t 16]⟩,
    ⟨11, some 18, none, .p .pick, [.t 11, .t 17, .c (.bool false)]⟩])
   (.cond (.t 18) (.skip)
   (.exit 0)))
   (.block 1 (.reg 0 [⟨0, some 19, none, .p .mov, [.t 5]⟩,
    ⟨1, some 20, none, .p (.bin .add), [.t 19, .c (.int .i64 1)]⟩,
    ⟨2, some 5, none, .p .mov, [.t 20]⟩]))
def g687 : GL.Fn := ⟨.seq (.reg 0 [⟨0, some 4, none, .p .mov, [.c (.nils)]⟩])
   (.seq (.reg 0 [⟨0, some 5, none, .p .mov, [.c (.int .i64 0)]⟩])
   (.seq (.block 0 (.loop g687_0))
   (.seq (.seq (.reg 0 [⟨0, some 21, none, .p .mov, [.t 5]⟩,
    ⟨1, some 22, none, .p .mov, [.t 0]⟩,
    ⟨2, some 23, none, .p .len, [.t 22]⟩,
    ⟨3, some 24, none, .p (.bin .lss), [.t 21, .t 23]⟩,
    ⟨4, some 25, none, .p .mov, [.t 24]⟩,
    ⟨5, some 26, some (25, true), .p .mov, [.t 0]⟩,
    ⟨6, some 27, some (25, true), .p .mov, [.t 5]⟩,
    ⟨7, some 28, some (25, true), .p (.idx 1), [.t 26, .t 27]⟩,
    ⟨8, some 29, some (25, true), .r (.load false 1) false, [.t 28]⟩,
    ⟨9, some 30, some (25, true), .p .mov, [.t 1]⟩,
    ⟨10, some 31, some (25, true), .e .call [] [], [.f 356, .t 29, .t 30]⟩,
    ⟨11, some 32, none, .p .pick, [.t 25, .t 31, .c (.bool false)]⟩])
   (.cond (.t 32) (.seq (.reg 0 [⟨0, some 33, none, .p .mov, [.t 0]⟩,
    ⟨1, some 4, none, .p .mov, [.t 33]⟩])
   (.ret))
   (.skip)))
   (.seq (.reg 0 [⟨0, some 34, none, .e (.new (.lit 1)) [] [], []⟩,
    ⟨1, some 35, none, .p .mov, [.t 0]⟩,
    ⟨2, some 36, none, .p .mov, [.t 5]⟩,
    ⟨3, some 37, none, .p (.slice 1 false true false), [.t 35, .t 36]⟩,
    ⟨4, some 38, none, .e (.append 1 24) [] [], [.t 34, .t 37]⟩,
    ⟨5, some 6, none, .p .mov, [.t 38]⟩])
   (.seq (.reg 0 [⟨0, some 39, none, .p .mov, [.t 6]⟩,
    ⟨1, some 40, none, .e (.new (.lit 1)) [] [], []⟩,
    ⟨2, some 41, none, .p .mov, [.t 1]⟩,
    ⟨3, some 42, none, .e (.append 1 8) [] [], [.t 40, .t 41]⟩,
    ⟨4, some 43, none, .e (.new (.lit 1)) [] [], [.t 42]⟩,
    ⟨5, some 44, none, .e (.append 1 24) [] [], [.t 39, .t 43]⟩,
    ⟨6, some 6, none, .p .mov, [.t 44]⟩])
   (.seq (.reg 0 [⟨0, some 45, none, .p .mov, [.t 6]⟩,
    ⟨1, some 46, none, .p .mov, [.t 0]⟩,
    ⟨2, some 47, none, .p .mov, [.t 5]⟩,
    ⟨3, some 48, none, .p (.slice 1 true false false), [.t 46, .t 47]⟩,
    ⟨4, some 49, none, .e (.append 1 24) [] [], [.t 45, .t 48]⟩,
    ⟨5, some 4, none, .p .mov, [.t 49]⟩])
   (.ret))))))),
  [.tmp 4]⟩
/- loop.example/g00641/spec.l3Tell -/
def g674_0 : GL.Code := .seq (.reg 0 [⟨0, some 16, none, .p (.bin .lss), [.t 15, .t 14]⟩])
   (.seq (.cond (.t 16) (.skip)
   (.exit 0))
   (.seq (.block 1 (.seq (.reg 0 [⟨0, some 17, none, .p (.idx 1), [.t 13, .t 15]⟩,
    ⟨1, some 18, none, .r (.load false 1) false, [.t 17]⟩,
    ⟨2, some 8, none, .p .mov, [.t 18]⟩])
   (.reg 0 [⟨0, some 19, none, .p (.faddr 1), [.t 6]⟩,
    ⟨1, some 20, none, .l (.load 6 false 1), [.t 19]⟩,
    ⟨2, some 21, none, .p .mov, [.t 8]⟩,
    ⟨3, some 22, none, .e .call [] [], [.f 687, .t 20, .t 21]⟩,
    ⟨4, some 23, none, .p (.faddr 1), [.t 6]⟩,
    ⟨5, none, none, .l (.store 6 1), [.t 23, .t 22]⟩])))
   (.reg 0 [⟨0, some 24, none, .p (.bin .add), [.t 15, .c (.int .i64 1)]⟩,
    ⟨1, some 15, none, .p .mov, [.t 24]⟩])))
def g674 : GL.Fn := ⟨.seq (.reg 0 [⟨0, some 4, none, .l (.alloc 4 [.nils, .nils]), []⟩,
    ⟨1, some 5, none, .p .mov, [.c (.bool false)]⟩])
   (.seq (.reg 0 [⟨0, some 9, none, .e (.new (.lit 1)) [] [], []⟩,
    ⟨1, some 10, none, .p .mov, [.t 0]⟩,
    ⟨2, some 11, none, .e (.append 1 8) [] [], [.t 9, .t 10]⟩,
    ⟨3, some 12, none, .p (.build [.nils, .nils] [(0, 1)]), [.t 11]⟩,
    ⟨4, some 6, none, .l (.alloc 6 [.nils, .nils]), []⟩,
    ⟨5, none, none, .l (.store 6 2), [.t 6, .t 12]⟩])
   (.seq (.seq (.reg 0 [⟨0, some 13, none, .p .mov, [.t 1]⟩,
    ⟨1, some 14, none, .p .len, [.t 13]⟩,
    ⟨2, some 15, none, .p .mov, [.c (.int .i64 0)]⟩])
   (.block 0 (.loop g674_0)))
   (.seq (.seq (.reg 0 [⟨0, some 25, none, .l (.load 6 true 2), [.t 6]⟩,
    ⟨1, some 26, none, .e .call [] [], [.f 662, .t 25]⟩,
    ⟨2, some 27, none, .p (.un .not), [.t 26]⟩])
   (.cond (.t 27) (.seq (.reg 0 [⟨0, some 28, none, .p (.build [.nils, .nils] []), []⟩,
    ⟨1, none, none, .l (.store 4 2), [.t 4, .t 28]⟩,
    ⟨2, some 5, none, .p .mov, [.c (.bool false)]⟩])
   (.ret))
   (.skip)))
   (.seq (.reg 0 [⟨0, some 29, none, .l (.load 6 true 2), [.t 6]⟩,
    ⟨1, none, none, .l (.store 4 2), [.t 4, .t 29]⟩,
    ⟨2, some 5, none, .p .mov, [.c (.bool true)]⟩])
   (.ret))))),
  [.cellL 4 4 true 2, .tmp 5]⟩
/- loop.example/g00641/laws.sameInts -/
def g24_0 : GL.Code := .seq (.reg 0 [⟨0, some 14, none, .p (.bin .lss), [.t 13, .t 12]⟩])
   (.seq (.cond (.t 14) (.skip)
   (.exit 0))
   (.seq (.block 1 (.seq (.reg 0 [⟨0, some 15, none, .p .mov, [.t 13]⟩,
    ⟨1, some 5, none, .p .mov, [.t 15]⟩])
   (.seq (.reg 0 [⟨0, some 16, none, .p .mov, [.t 0]⟩,
    ⟨1, some 17, none, .p .mov, [.t 5]⟩,
    ⟨2, some 18, none, .p (.idx 1), [.t 16, .t 17]⟩,
    ⟨3, some 19, none, .r (.load false 1) false, [.t 18]⟩,
    ⟨4, some 20, none, .p .mov, [.t 1]⟩,
    ⟨5, some 21, none, .p .mov, [.t 5]⟩,
    ⟨6, some 22, none, .p (.idx 1), [.t 20, .t 21]⟩,
    ⟨7, some 23, none, .r (.load false 1) false, [.t 22]⟩,
    ⟨8, some 24, none, .p (.bin .neq), [.t 19, .t 23]⟩])
   (.cond (.t 24) (.seq (.reg 0 [⟨0, some 4, none, .p .mov, [.c (.bool false)]⟩])
   (.ret))
   (.skip)))))
   (.reg 0 [⟨0, some 25, none, .p (.bin .add), [.t 13, .c (.int .i64 1)]⟩,
    ⟨1, some 13, none, .p .mov, [.t 25]⟩])))
def g24 : GL.Fn := ⟨.seq (.reg 0 [⟨0, some 4, none, .p .mov, [.c (.bool false)]⟩])
   (.seq (.seq (.reg 0 [⟨0, some 6, none, .p .mov, [.t 0]⟩,
    ⟨1, some 7, none, .p .len, [.t 6]⟩,
    ⟨2, some 8, none, .p .mov, [.t 1]⟩,
    ⟨3, some 9, none, .p .len, [.t 8]⟩,
    ⟨4, some 10, none, .p (.bin .neq), [.t 7, .t 9]⟩])
   (.cond (.t 10) (.seq (.reg 0 [⟨0, some 4, none, .p .mov, [.c (.bool false)]⟩])
   (.ret))
   (.skip)))
   (.seq (.seq (.reg 0 [⟨0, some 11, none, .p .mov, [.t 0]⟩,
    ⟨1, some 12, none, .p .len, [.t 11]⟩,
    ⟨2, some 13, none, .p .mov, [.c (.int .i64 0)]⟩])
   (.block 0 (.loop g24_0)))
   (.seq (.reg 0 [⟨0, some 4, none, .p .mov, [.c (.bool true)]⟩])
   (.ret)))),
  [.tmp 4]⟩
/- loop.example/g00641/laws.sameRows -/
def g383_0 : GL.Code := .seq (.reg 0 [⟨0, some 14, none, .p (.bin .lss), [.t 13, .t 12]⟩])
   (.seq (.cond (.t 14) (.skip)
   (.exit 0))
   (.seq (.block 1 (.seq (.reg 0 [⟨0, some 15, none, .p .mov, [.t 13]⟩,
    ⟨1, some 5, none, .p .mov, [.t 15]⟩])
   (.seq (.reg 0 [⟨0, some 16, none, .p .mov, [.t 0]⟩,
    ⟨1, some 17, none, .p .mov, [.t 5]⟩,
    ⟨2, some 18, none, .p (.idx 1), [.t 16, .t 17]⟩,
    ⟨3, some 19, none, .r (.load false 1) false, [.t 18]⟩,
    ⟨4, some 20, none, .p .mov, [.t 1]⟩,
    ⟨5, some 21, none, .p .mov, [.t 5]⟩,
    ⟨6, some 22, none, .p (.idx 1), [.t 20, .t 21]⟩,
    ⟨7, some 23, none, .r (.load false 1) false, [.t 22]⟩,
    ⟨8, some 24, none, .e .call [] [], [.f 24, .t 19, .t 23]⟩,
    ⟨9, some 25, none, .p (.un .not), [.t 24]⟩])
   (.cond (.t 25) (.seq (.reg 0 [⟨0, some 4, none, .p .mov, [.c (.bool false)]⟩])
   (.ret))
   (.skip)))))
   (.reg 0 [⟨0, some 26, none, .p (.bin .add), [.t 13, .c (.int .i64 1)]⟩,
    ⟨1, some 13, none, .p .mov, [.t 26]⟩])))
def g383 : GL.Fn := ⟨.seq (.reg 0 [⟨0, some 4, none, .p .mov, [.c (.bool false)]⟩])
   (.seq (.seq (.reg 0 [⟨0, some 6, none, .p .mov, [.t 0]⟩,
    ⟨1, some 7, none, .p .len, [.t 6]⟩,
    ⟨2, some 8, none, .p .mov, [.t 1]⟩,
    ⟨3, some 9, none, .p .len, [.t 8]⟩,
    ⟨4, some 10, none, .p (.bin .neq), [.t 7, .t 9]⟩])
   (.cond (.t 10) (.seq (.reg 0 [⟨0, some 4, none, .p .mov, [.c (.bool false)]⟩])
   (.ret))
   (.skip)))
   (.seq (.seq (.reg 0 [⟨0, some 11, none, .p .mov, [.t 0]⟩,
    ⟨1, some 12, none, .p .len, [.t 11]⟩,
    ⟨2, some 13, none, .p .mov, [.c (.int .i64 0)]⟩])
   (.block 0 (.loop g383_0)))
   (.seq (.reg 0 [⟨0, some 4, none, .p .mov, [.c (.bool true)]⟩])
   (.ret)))),
  [.tmp 4]⟩
/- slices.EqualFunc[[][]int,[][]int,[]int,[]int] -/
def g778_0 : GL.Code := .seq (.reg 0 [⟨0, some 18, none, .p (.bin .lss), [.t 17, .t 16]⟩])
   (.seq (.cond (.t 18) (.skip)
   (.exit 0))
   (.seq (.block 1 (.seq (.reg 0 [⟨0, some 19, none, .p .mov, [.t 17]⟩,
    ⟨1, some 20, none, .p (.idx 1), [.t 15, .t 17]⟩,
    ⟨2, some 21, none, .r (.load false 1) false, [.t 20]⟩,
    ⟨3, some 7, none, .p .mov, [.t 19]⟩,
    ⟨4, some 8, none, .p .mov, [.t 21]⟩])
   (.seq (.reg 0 [⟨0, some 22, none, .p .mov, [.t 1]⟩,
    ⟨1, some 23, none, .p .mov, [.t 7]⟩,
    ⟨2, some 24, none, .p (.idx 1), [.t 22, .t 23]⟩,
    ⟨3, some 25, none, .r (.load false 1) false, [.t 24]⟩,
    ⟨4, some 9, none, .p .mov, [.t 25]⟩])
   (.seq (.reg 0 [⟨0, some 26, none, .p .mov, [.t 2]⟩,
    ⟨1, some 27, none, .p .mov, [.t 8]⟩,
    ⟨2, some 28, none, .p .mov, [.t 9]⟩,
    ⟨3, some 29, none, .e .call [] [], [.t 26, .t 27, .t 28]⟩,
    ⟨4, some 30, none, .p (.un .not), [.t 29]⟩])
   (.cond (.t 30) (.seq (.reg 0 [⟨0, some 6, none, .p .mov, [.c (.bool false)]⟩])
   (.ret))
   (.skip))))))
   (.reg 0 [⟨0, some 31, none, .p (.bin .add), [.t 17, .c (.int .i64 1)]⟩,
    ⟨1, some 17, none, .p .mov, [.t 31]⟩])))
def g778 : GL.Fn := ⟨.seq (.reg 0 [⟨0, some 6, none, .p .mov, [.c (.bool false)]⟩])
   (.seq (.seq (.reg 0 [⟨0, some 10, none, .p .mov, [.t 0]⟩,
    ⟨1, some 11, none, .p .len, [.t 10]⟩,
    ⟨2, some 12, none, .p .mov, [.t 1]⟩,
    ⟨3, some 13, none, .p .len, [.t 12]⟩,
    ⟨4, some 14, none, .p (.bin .neq), [.t 11, .t 13]⟩])
   (.cond (.t 14) (.seq (.reg 0 [⟨0, some 6, none, .p .mov, [.c (.bool false)]⟩])
   (.ret))
   (.skip)))
   (.seq (.seq (.reg 0 [⟨0, some 15, none, .p .mov, [.t 0]⟩,
    ⟨1, some 16, none, .p .len, [.t 15]⟩,
    ⟨2, some 17, none, .p .mov, [.c (.int .i64 0)]⟩])
   (.block 0 (.loop g778_0)))
   (.seq (.reg 0 [⟨0, some 6, none, .p .mov, [.c (.bool true)]⟩])
   (.ret)))),
  [.tmp 6]⟩
/- loop.example/g00641/impl.isPart -/
def g660_0 : GL.Code := .seq (.reg 0 [⟨0, some 10, none, .p (.bin .lss), [.t 9, .t 8]⟩])
   (.seq (.cond (.t 10) (.skip)
   (.exit 0))
   (.seq (.block 1 (.seq (.reg 0 [⟨0, some 11, none, .p .mov, [.t 9]⟩,
    ⟨1, some 12, none, .p (.idx 1), [.t 7, .t 9]⟩,
    ⟨2, some 13, none, .r (.load false 1) false, [.t 12]⟩,
    ⟨3, some 5, none, .p .mov, [.t 11]⟩,
    ⟨4, some 6, none, .p .mov, [.t 13]⟩])
   (.seq (.reg 0 [⟨0, some 14, none, .p .mov, [.t 1]⟩,
    ⟨1, some 15, none, .p .mov, [.t 6]⟩,
    ⟨2, some 16, none, .e .call [] [], [.f 301, .t 14, .t 15]⟩,
    ⟨3, some 17, none, .p (.un .not), [.t 16]⟩,
    ⟨4, some 18, none, .p .mov, [.t 17]⟩,
    ⟨5, some 19, some (18, false), .p .mov, [.t 5]⟩,
    ⟨6, some 20, some (18, false), .p (.bin .gtr), [.t 19, .c (.int .i64 0)]⟩,
    ⟨7, some 21, some (18, false), .p .mov, [.t 20]⟩,
    ⟨8, some 22, some (21, true), .p .mov, [.t 0]⟩,
    ⟨9, some 23, some (21, true), .p .mov, [.t 5]⟩,
    ⟨10, some 24, some (21, true), .p (.bin .sub), [.t 23, .c (.int .i64 1)]⟩,
    ⟨11, some 25, some (21, true), .p (.idx 1), [.t 22, .t 24]⟩,
    ⟨12, some 26, some (21, true), .r (.load false 1) false, [.t 25]⟩,
    ⟨13, some 27, some (21, true), .p .mov, [.t 6]⟩,
    ⟨14, some 28, some (21, true), .p (.bin .geq), [.t 26, .t 27]⟩,
    ⟨15, some 29, some (18, false), .p .pick, [.t 21, .t 28, .c (.bool false)]⟩,
    ⟨16, some 30, none, .p .pick, [.t 18, .c (.bool true), .t 29]⟩])
   (.cond (.t 30) (.seq (.reg 0 [⟨0, some 4, none, .p .mov, [.c (.bool false)]⟩])
   (.ret))
   (.skip)))))
   (.reg 0 [⟨0, some 31, none, .p (.bin .add), [.t 9, .c (.int .i64 1)]⟩,
    ⟨1, some 9, none, .p .mov, [.t 31]⟩])))
def g660 : GL.Fn := ⟨.seq (.reg 0 [⟨0, some 4, none, .p .mov, [.c (.bool false)]⟩])
   (.seq (.seq (.reg 0 [⟨0, some 7, none, .p .mov, [.t 0]⟩,
    ⟨1, some 8, none, .p .len, [.t 7]⟩,
    ⟨2, some 9, none, .p .mov, [.c (.int .i64 0)]⟩])
   (.block 0 (.loop g660_0)))
   (.seq (.reg 0 [⟨0, some 4, none, .p .mov, [.c (.bool true)]⟩])
   (.ret))),
  [.tmp 4]⟩
/- loop.example/g00641/impl.areAlike -/
def g779 : GL.Fn := ⟨.seq (.reg 0 [⟨0, some 2, none, .l (.box 2 2), [.t 0]⟩,
    ⟨1, some 3, none, .l (.box 3 2), [.t 1]⟩,
    ⟨2, some 4, none, .p .mov, [.c (.bool false)]⟩])
   (.seq (.reg 0 [⟨0, some 5, none, .l (.load 2 true 2), [.t 2]⟩,
    ⟨1, some 6, none, .e .call [] [], [.f 659, .t 5]⟩,
    ⟨2, some 7, none, .p .mov, [.t 6]⟩,
    ⟨3, some 8, some (7, true), .l (.load 3 true 2), [.t 3]⟩,
    ⟨4, some 9, some (7, true), .e .call [] [], [.f 659, .t 8]⟩,
    ⟨5, some 10, none, .p .pick, [.t 7, .t 9, .c (.bool false)]⟩,
    ⟨6, some 11, none, .p .mov, [.t 10]⟩,
    ⟨7, some 12, some (11, true), .p (.faddr 0), [.t 2]⟩,
    ⟨8, some 13, some (11, true), .l (.load 2 false 1), [.t 12]⟩,
    ⟨9, some 14, some (11, true), .p (.faddr 0), [.t 3]⟩,
    ⟨10, some 15, some (11, true), .l (.load 3 false 1), [.t 14]⟩,
    ⟨11, some 16, some (11, true), .e .call [] [], [.f 386, .t 13, .t 15]⟩,
    ⟨12, some 17, none, .p .pick, [.t 11, .t 16, .c (.bool false)]⟩,
    ⟨13, some 4, none, .p .mov, [.t 17]⟩])
   (.ret)),
  [.tmp 4]⟩
/- slices.DeleteFunc[[][]int,[]int] -/
def g782_0 : GL.Code := .seq (.seq (.reg 0 [⟨0, some 16, none, .p .mov, [.t 6]⟩,
    ⟨1, some 17, none, .p .mov, [.t 0]⟩,
    ⟨2, some 18, none, .p .len, [.t 17]⟩,
    ⟨3, some 19, none, .p (.bin .lss), [.t 16, .t 18]⟩])
   (.cond (.t 19) (.skip)
   (.exit 0)))
   (.seq (.block 1 (.seq (.reg 0 [⟨0, some 22, none, .p .mov, [.t 0]⟩,
    ⟨1, some 23, none, .p .mov, [.t 6]⟩,
    ⟨2, some 24, none, .p (.idx 1), [.t 22, .t 23]⟩,
    ⟨3, some 25, none, .r (.load false 1) false, [.t 24]⟩,
    ⟨4, some 7, none, .p .mov, [.t 25]⟩])
   (.seq (.reg 0 [⟨0, some 26, none, .p .mov, [.t 1]⟩,
    ⟨1, some 27, none, .p .mov, [.t 7]⟩,
    ⟨2, some 28, none, .e .call [] [], [.t 26, .t 27]⟩,
    ⟨3, some 29, none, .p (.un .not), [.t 28]⟩])
   (.cond (.t 29) (.seq (.reg 0 [⟨0, some 30, none, .p .mov, [.t 0]⟩,
    ⟨1, some 31, none, .p .mov, [.t 5]⟩,
    ⟨2, some 32, none, .p .mov, [.t 7]⟩,
    ⟨3, some 33, none, .p (.idx 1), [.t 30, .t 31]⟩,
    ⟨4, none, none, .e (.store 1) [] [], [.t 33, .t 32]⟩])
   (.reg 0 [⟨0, some 34, none, .p .mov, [.t 5]⟩,
    ⟨1, some 35, none, .p (.bin .add), [.t 34, .c (.int .i64 1)]⟩,
    ⟨2, some 5, none, .p .mov, [.t 35]⟩]))
   (.skip)))))
   (.reg 0 [⟨0, some 20, none, .p .mov, [.t 6]⟩,
    ⟨1, some 21, none, .p (.bin .add), [.t 20, .c (.int .i64 1)]⟩,
    ⟨2, some 6, none, .p .mov, [.t 21]⟩]))
def g782 : GL.Fn := ⟨.seq (.reg 0 [⟨0, some 4, none, .p .mov, [.c (.nils)]⟩])
   (.seq (.reg 0 [⟨0, some 8, none, .p .mov, [.t 0]⟩,
    ⟨1, some 9, none, .p .mov, [.t 1]⟩,
    ⟨2, some 10, none, .e .call [] [], [.f 395, .t 8, .t 9]⟩,
    ⟨3, some 5, none, .p .mov, [.t 10]⟩])
   (.seq (.seq (.reg 0 [⟨0, some 11, none, .p .mov, [.t 5]⟩,
    ⟨1, some 12, none, .p (.bin .eql), [.t 11, .c (.int .i64 (-1))]⟩])
   (.cond (.t 12) (.seq (.reg 0 [⟨0, some 13, none, .p .mov, [.t 0]⟩,
    ⟨1, some 4, none, .p .mov, [.t 13]⟩])
   (.ret))
   (.skip)))
   (.seq (.seq (.reg 0 [⟨0, some 14, none, .p .mov, [.t 5]⟩,
    ⟨1, some 15, none, .p (.bin .add), [.t 14, .c (.int .i64 1)]⟩,
    ⟨2, some 6, none, .p .mov, [.t 15]⟩])
   (.block 0 (.loop g782_0)))
   (.seq (.reg 0 [⟨0, some 36, none, .p .mov, [.t 0]⟩,
    ⟨1, some 37, none, .p .mov, [.t 5]⟩,
    ⟨2, some 38, none, .p (.slice 1 true false false), [.t 36, .t 37]⟩,
    ⟨3, none, none, .e (.clear 1 [.nils]) [] [], [.t 38]⟩])
   (.seq (.reg 0 [⟨0, some 39, none, .p .mov, [.t 0]⟩,
    ⟨1, some 40, none, .p .mov, [.t 5]⟩,
    ⟨2, some 41, none, .p (.slice 1 false true false), [.t 39, .t 40]⟩,
    ⟨3, some 4, none, .p .mov, [.t 41]⟩])
   (.ret)))))),
  [.tmp 4]⟩
/- slices.Clone[[][]int,[]int] -/
def g780 : GL.Fn := ⟨.seq (.reg 0 [⟨0, some 2, none, .p .mov, [.c (.nils)]⟩])
   (.seq (.seq (.reg 0 [⟨0, some 3, none, .p .mov, [.t 0]⟩,
    ⟨1, some 4, none, .p (.isNil false), [.t 3]⟩])
   (.cond (.t 4) (.seq (.reg 0 [⟨0, some 2, none, .p .mov, [.c (.nils)]⟩])
   (.ret))
   (.skip)))
   (.seq (.reg 0 [⟨0, some 5, none, .e (.new (.lit 1)) [] [], []⟩,
    ⟨1, some 6, none, .p .mov, [.t 0]⟩,
    ⟨2, some 7, none, .e (.append 1 24) [] [], [.t 5, .t 6]⟩,
    ⟨3, some 2, none, .p .mov, [.t 7]⟩])
   (.ret))),
  [.tmp 2]⟩
/- loop.example/g00641/impl.WithoutOf$1 -/
def g781 : GL.Fn := ⟨.seq (.reg 0 [⟨0, some 2, none, .e (.new (.box 1)) [] [], [.t 0]⟩,
    ⟨1, some 3, none, .p .mov, [.c (.bool false)]⟩])
   (.seq (.reg 0 [⟨0, some 4, none, .p (.faddr 1), [.t 1]⟩,
    ⟨1, some 5, none, .r (.load false 1) false, [.t 4]⟩,
    ⟨2, some 6, none, .p (.mkFn 788), [.t 2]⟩,
    ⟨3, some 7, none, .e .call [] [], [.f 335, .t 5, .t 6]⟩,
    ⟨4, some 3, none, .p .mov, [.t 7]⟩])
   (.ret)),
  [.tmp 3]⟩
/- slices.ContainsFunc[[][]int,[]int] -/
def g335 : GL.Fn := ⟨.seq (.reg 0 [⟨0, some 4, none, .p .mov, [.c (.bool false)]⟩])
   (.seq (.reg 0 [⟨0, some 5, none, .p .mov, [.t 0]⟩,
    ⟨1, some 6, none, .p .mov, [.t 1]⟩,
    ⟨2, some 7, none, .e .call [] [], [.f 395, .t 5, .t 6]⟩,
    ⟨3, some 8, none, .p (.bin .geq), [.t 7, .c (.int .i64 0)]⟩,
    ⟨4, some 4, none, .p .mov, [.t 8]⟩])
   (.ret)),
  [.tmp 4]⟩
/- loop.example/g00641/impl.WithoutOf$1$1 -/
def g788 : GL.Fn := ⟨.seq (.reg 0 [⟨0, some 3, none, .p .mov, [.c (.bool false)]⟩])
   (.seq (.reg 0 [⟨0, some 4, none, .p .mov, [.t 0]⟩,
    ⟨1, some 5, none, .r (.load false 1) false, [.t 1]⟩,
    ⟨2, some 6, none, .e .call [] [], [.f 386, .t 4, .t 5]⟩,
    ⟨3, some 3, none, .p .mov, [.t 6]⟩])
   (.ret)),
  [.tmp 3]⟩
/- loop.example/g00641/impl.isKind -/
def g96 : GL.Fn := ⟨.seq (.reg 0 [⟨0, some 2, none, .p .mov, [.c (.bool false)]⟩])
   (.seq (.reg 0 [⟨0, some 3, none, .p .mov, [.t 0]⟩,
    ⟨1, some 4, none, .e .call [] [], [.f 107, .t 3, .c (.int .i64 0), .c (.int .i64 2)]⟩,
    ⟨2, some 2, none, .p .mov, [.t 4]⟩])
   (.ret)),
  [.tmp 2]⟩
/- loop.example/g00641/impl.isSmall -/
def g100 : GL.Fn := ⟨.seq (.reg 0 [⟨0, some 2, none, .p .mov, [.c (.bool false)]⟩])
   (.seq (.reg 0 [⟨0, some 3, none, .p .mov, [.t 0]⟩,
    ⟨1, some 4, none, .e .call [] [], [.f 107, .t 3, .c (.int .i64 (-1000)), .c (.int .i64 1000)]⟩,
    ⟨2, some 2, none, .p .mov, [.t 4]⟩])
   (.ret)),
  [.tmp 2]⟩
/- loop.example/g00641/impl.compare -/
def g97 : GL.Fn := ⟨.seq (.reg 0 [⟨0, some 4, none, .l (.box 4 2), [.t 1]⟩,
    ⟨1, some 5, none, .l (.box 5 2), [.t 2]⟩,
    ⟨2, some 6, none, .p .mov, [.c (.int .i64 0)]⟩])
   (.seq (.block 0 (.seq (.reg 0 [⟨0, some 8, none, .p (.faddr 0), [.t 4]⟩,
    ⟨1, some 9, none, .l (.load 4 false 1), [.t 8]⟩,
    ⟨2, some 10, none, .p .mov, [.t 9]⟩,
    ⟨3, some 11, some (10, false), .p (.faddr 0), [.t 5]⟩,
    ⟨4, some 12, some (10, false), .l (.load 5 false 1), [.t 11]⟩,
    ⟨5, some 13, none, .p .pick, [.t 10, .c (.bool true), .t 12]⟩,
    ⟨6, some 7, none, .p .mov, [.t 13]⟩])
   (.cond (.t 7) (.seq (.reg 0 [⟨0, some 6, none, .p .mov, [.c (.int .i64 1)]⟩])
   (.ret))
   (.seq (.reg 0 [⟨0, some 15, none, .p .mov, [.t 0]⟩,
    ⟨1, some 16, none, .p (.bin .eql), [.t 15, .c (.int .i64 0)]⟩,
    ⟨2, some 14, none, .p .mov, [.t 16]⟩])
   (.cond (.t 14) (.seq (.reg 0 [⟨0, some 17, none, .p (.faddr 1), [.t 4]⟩,
    ⟨1, some 18, none, .l (.load 4 false 1), [.t 17]⟩,
    ⟨2, some 19, none, .p (.faddr 1), [.t 5]⟩,
    ⟨3, some 20, none, .l (.load 5 false 1), [.t 19]⟩,
    ⟨4, some 21, none, .p (.bin .eql), [.t 18, .t 20]⟩,
    ⟨5, some 22, none, .e .call [] [], [.f 141, .t 21]⟩,
    ⟨6, some 6, none, .p .mov, [.t 22]⟩])
   (.ret))
   (.seq (.reg 0 [⟨0, some 24, none, .p .mov, [.t 0]⟩,
    ⟨1, some 25, none, .p (.bin .eql), [.t 24, .c (.int .i64 1)]⟩,
    ⟨2, some 23, none, .p .mov, [.t 25]⟩])
   (.cond (.t 23) (.seq (.reg 0 [⟨0, some 26, none, .p (.faddr 1), [.t 4]⟩,
    ⟨1, some 27, none, .l (.load 4 false 1), [.t 26]⟩,
    ⟨2, some 28, none, .p (.faddr 1), [.t 5]⟩,
    ⟨3, some 29, none, .l (.load 5 false 1), [.t 28]⟩,
    ⟨4, some 30, none, .p (.bin .lss), [.t 27, .t 29]⟩,
    ⟨5, some 31, none, .e .call [] [], [.f 141, .t 30]⟩,
    ⟨6, some 6, none, .p .mov, [.t 31]⟩])
   (.ret))
   (.skip))))))))
   (.seq (.reg 0 [⟨0, some 32, none, .p (.faddr 1), [.t 4]⟩,
    ⟨1, some 33, none, .l (.load 4 false 1), [.t 32]⟩,
    ⟨2, some 34, none, .p (.faddr 1), [.t 5]⟩,
    ⟨3, some 35, none, .l (.load 5 false 1), [.t 34]⟩,
    ⟨4, some 36, none, .p (.bin .gtr), [.t 33, .t 35]⟩,
    ⟨5, some 37, none, .e .call [] [], [.f 141, .t 36]⟩,
    ⟨6, some 6, none, .p .mov, [.t 37]⟩])
   (.ret))),
  [.tmp 6]⟩
/- (*loop.example/g00641/spec.l1Cur).pick -/
def g91 : GL.Fn := ⟨.seq (.reg 0 [⟨0, some 4, none, .p .mov, [.c (.int .i64 0)]⟩])
   (.seq (.seq (.reg 0 [⟨0, some 6, none, .p .mov, [.t 1]⟩,
    ⟨1, some 7, none, .p (.bin .leq), [.t 6, .c (.int .i64 1)]⟩])
   (.cond (.t 7) (.seq (.reg 0 [⟨0, some 4, none, .p .mov, [.c (.int .i64 0)]⟩])
   (.ret))
   (.skip)))
   (.seq (.reg 0 [⟨0, some 8, none, .p .mov, [.t 0]⟩,
    ⟨1, some 9, none, .e .call [] [], [.f 140, .t 8]⟩,
    ⟨2, some 5, none, .p .mov, [.t 9]⟩])
   (.seq (.seq (.reg 0 [⟨0, some 10, none, .p .mov, [.t 1]⟩,
    ⟨1, some 11, none, .p (.bin .gtr), [.t 10, .c (.int .i64 200)]⟩])
   (.cond (.t 11) (.reg 0 [⟨0, some 12, none, .p .mov, [.t 5]⟩,
    ⟨1, some 13, none, .p (.bin .mul), [.t 12, .c (.int .i64 256)]⟩,
    ⟨2, some 14, none, .p .mov, [.t 0]⟩,
    ⟨3, some 15, none, .e .call [] [], [.f 140, .t 14]⟩,
    ⟨4, some 16, none, .p (.bin .add), [.t 13, .t 15]⟩,
    ⟨5, some 5, none, .p .mov, [.t 16]⟩])
   (.skip)))
   (.seq (.reg 0 [⟨0, some 17, none, .p .mov, [.t 5]⟩,
    ⟨1, some 18, none, .p .mov, [.t 1]⟩,
    ⟨2, some 19, none, .p (.bin .rem), [.t 17, .t 18]⟩,
    ⟨3, some 4, none, .p .mov, [.t 19]⟩])
   (.ret))))),
  [.tmp 4]⟩
/- loop.example/g00641/spec.l1In -/
def g98 : GL.Fn := ⟨.seq (.reg 0 [⟨0, some 6, none, .p .mov, [.c (.bool false)]⟩])
   (.seq (.reg 0 [⟨0, some 7, none, .p .mov, [.t 0]⟩,
    ⟨1, some 8, none, .p .mov, [.t 1]⟩,
    ⟨2, some 9, none, .p (.bin .geq), [.t 7, .t 8]⟩,
    ⟨3, some 10, none, .p .mov, [.t 9]⟩,
    ⟨4, some 11, some (10, true), .p .mov, [.t 0]⟩,
    ⟨5, some 12, some (10, true), .p .mov, [.t 2]⟩,
    ⟨6, some 13, some (10, true), .p (.bin .leq), [.t 11, .t 12]⟩,
    ⟨7, some 14, none, .p .pick, [.t 10, .t 13, .c (.bool false)]⟩,
    ⟨8, some 6, none, .p .mov, [.t 14]⟩])
   (.ret)),
  [.tmp 6]⟩
/- loop.example/g00641/impl.isRising -/
def g385_0 : GL.Code := .seq (.reg 0 [⟨0, some 12, none, .p (.bin .lss), [.t 11, .t 10]⟩])
   (.seq (.cond (.t 12) (.skip)
   (.exit 0))
   (.seq (.block 1 (.seq (.reg 0 [⟨0, some 13, none, .p .mov, [.t 11]⟩,
    ⟨1, some 14, none, .p (.idx 1), [.t 9, .t 11]⟩,
    ⟨2, some 15, none, .r (.load false 1) false, [.t 14]⟩,
    ⟨3, some 7, none, .p .mov, [.t 13]⟩,
    ⟨4, some 8, none, .p .mov, [.t 15]⟩])
   (.seq (.reg 0 [⟨0, some 16, none, .p .mov, [.t 8]⟩,
    ⟨1, some 17, none, .p .mov, [.t 1]⟩,
    ⟨2, some 18, none, .p .mov, [.t 2]⟩,
    ⟨3, some 19, none, .e .call [] [], [.f 107, .t 16, .t 17, .t 18]⟩,
    ⟨4, some 20, none, .p (.un .not), [.t 19]⟩,
    ⟨5, some 21, none, .p .mov, [.t 20]⟩,
    ⟨6, some 22, some (21, false), .p .mov, [.t 7]⟩,
    ⟨7, some 23, some (21, false), .p (.bin .gtr), [.t 22, .c (.int .i64 0)]⟩,
    ⟨8, some 24, some (21, false), .p .mov, [.t 23]⟩,
    ⟨9, some 25, some (24, true), .p .mov, [.t 0]⟩,
    ⟨10, some 26, some (24, true), .p .mov, [.t 7]⟩,
    ⟨11, some 27, some (24, true), .p (.bin .sub), [.t 26, .c (.int .i64 1)]⟩,
    ⟨12, some 28, some (24, true), .p (.idx 1), [.t 25, .t 27]⟩,
    ⟨13, some 29, some (24, true), .r (.load false 1) false, [.t 28]⟩,
    ⟨14, some 30, some (24, true), .p .mov, [.t 8]⟩,
    ⟨15, some 31, some (24, true), .p (.bin .geq), [.t 29, .t 30]⟩,
    ⟨16, some 32, some (21, false), .p .pick, [.t 24, .t 31, .c (.bool false)]⟩,
    ⟨17, some 33, none, .p .pick, [.t 21, .c (.bool true), .t 32]⟩])
   (.cond (.t 33) (.seq (.reg 0 [⟨0, some 6, none, .p .mov, [.c (.bool false)]⟩])
   (.ret))
   (.skip)))))
   (.reg 0 [⟨0, some 34, none, .p (.bin .add), [.t 11, .c (.int .i64 1)]⟩,
    ⟨1, some 11, none, .p .mov, [.t 34]⟩])))
def g385 : GL.Fn := ⟨.seq (.reg 0 [⟨0, some 6, none, .p .mov, [.c (.bool false)]⟩])
   (.seq (.seq (.reg 0 [⟨0, some 9, none, .p .mov, [.t 0]⟩,
    ⟨1, some 10, none, .p .len, [.t 9]⟩,
    ⟨2, some 11, none, .p .mov, [.c (.int .i64 0)]⟩])
   (.block 0 (.loop g385_0)))
   (.seq (.reg 0 [⟨0, some 6, none, .p .mov, [.c (.bool true)]⟩])
   (.ret))),
  [.tmp 6]⟩
/- slices.ContainsFunc[[]int,int] -/
def g304 : GL.Fn := ⟨.seq (.reg 0 [⟨0, some 4, none, .p .mov, [.c (.bool false)]⟩])
   (.seq (.reg 0 [⟨0, some 5, none, .p .mov, [.t 0]⟩,
    ⟨1, some 6, none, .p .mov, [.t 1]⟩,
    ⟨2, some 7, none, .e .call [] [], [.f 391, .t 5, .t 6]⟩,
    ⟨3, some 8, none, .p (.bin .geq), [.t 7, .c (.int .i64 0)]⟩,
    ⟨4, some 4, none, .p .mov, [.t 8]⟩])
   (.ret)),
  [.tmp 4]⟩
/- loop.example/g00641/impl.GoodRelation$1 -/
def g676 : GL.Fn := ⟨.seq (.reg 0 [⟨0, some 2, none, .p .mov, [.c (.bool false)]⟩])
   (.seq (.reg 0 [⟨0, some 3, none, .p .mov, [.t 0]⟩,
    ⟨1, some 4, none, .e .call [] [], [.f 100, .t 3]⟩,
    ⟨2, some 5, none, .p (.un .not), [.t 4]⟩,
    ⟨3, some 2, none, .p .mov, [.t 5]⟩])
   (.ret)),
  [.tmp 2]⟩
/- slices.Compare[[]int,int] -/
def g677_0 : GL.Code := .seq (.reg 0 [⟨0, some 12, none, .p (.bin .lss), [.t 11, .t 10]⟩])
   (.seq (.cond (.t 12) (.skip)
   (.exit 0))
   (.seq (.block 1 (.seq (.reg 0 [⟨0, some 13, none, .p .mov, [.t 11]⟩,
    ⟨1, some 14, none, .p (.idx 1), [.t 9, .t 11]⟩,
    ⟨2, some 15, none, .r (.load false 1) false, [.t 14]⟩,
    ⟨3, some 5, none, .p .mov, [.t 13]⟩,
    ⟨4, some 6, none, .p .mov, [.t 15]⟩])
   (.seq (.seq (.reg 0 [⟨0, some 16, none, .p .mov, [.t 5]⟩,
    ⟨1, some 17, none, .p .mov, [.t 1]⟩,
    ⟨2, some 18, none, .p .len, [.t 17]⟩,
    ⟨3, some 19, none, .p (.bin .geq), [.t 16, .t 18]⟩])
   (.cond (.t 19) (.seq (.reg 0 [⟨0, some 4, none, .p .mov, [.c (.int .i64 1)]⟩])
   (.ret))
   (.skip)))
   (.seq (.reg 0 [⟨0, some 20, none, .p .mov, [.t 1]⟩,
    ⟨1, some 21, none, .p .mov, [.t 5]⟩,
    ⟨2, some 22, none, .p (.idx 1), [.t 20, .t 21]⟩,
    ⟨3, some 23, none, .r (.load false 1) false, [.t 22]⟩,
    ⟨4, some 7, none, .p .mov, [.t 23]⟩])
   (.seq (.reg 0 [⟨0, some 24, none, .p .mov, [.t 6]⟩,
    ⟨1, some 25, none, .p .mov, [.t 7]⟩,
    ⟨2, some 26, none, .e .call [] [], [.f 159, .t 24, .t 25]⟩,
    ⟨3, some 8, none, .p .mov, [.t 26]⟩])
   (.seq (.reg 0 [⟨0, some 27, none, .p .mov, [.t 8]⟩,
    ⟨1, some 28, none, .p (.bin .neq), [.t 27, .c (.int .i64 0)]⟩])
   (.cond (.t 28) (.seq (.reg 0 [⟨0, some 29, none, .p .mov, [.t 8]⟩,
    ⟨1, some 4, none, .p .mov, [.t 29]⟩])
   (.ret))
   (.skip))))))))
   (.reg 0 [⟨0, some 30, none, .p (.bin .add), [.t 11, .c (.int .i64 1)]⟩,
    ⟨1, some 11, none, .p .mov, [.t 30]⟩])))
def g677 : GL.Fn := ⟨.seq (.reg 0 [⟨0, some 4, none, .p .mov, [.c (.int .i64 0)]⟩])
   (.seq (.seq (.reg 0 [⟨0, some 9, none, .p .mov, [.t 0]⟩,
    ⟨1, some 10, none, .p .len, [.t 9]⟩,
    ⟨2, some 11, none, .p .mov, [.c (.int .i64 0)]⟩])
   (.block 0 (.loop g677_0)))
   (.seq (.seq (.reg 0 [⟨0, some 31, none, .p .mov, [.t 0]⟩,
    ⟨1, some 32, none, .p .len, [.t 31]⟩,
    ⟨2, some 33, none, .p .mov, [.t 1]⟩,
    ⟨3, some 34, none, .p .len, [.t 33]⟩,
    ⟨4, some 35, none, .p (.bin .lss), [.t 32, .t 34]⟩])
   (.cond (.t 35) (.seq (.reg 0 [⟨0, some 4, none, .p .mov, [.c (.int .i64 (-1))]⟩])
   (.ret))
   (.skip)))
   (.seq (.reg 0 [⟨0, some 4, none, .p .mov, [.c (.int .i64 0)]⟩])
   (.ret)))),
  [.tmp 4]⟩
/- loop.example/g00641/spec.l1Rising -/
def g337_0 : GL.Code := .seq (.reg 0 [⟨0, some 12, none, .p (.bin .lss), [.t 11, .t 10]⟩])
   (.seq (.cond (.t 12) (.skip)
   (.exit 0))
   (.seq (.block 1 (.seq (.reg 0 [⟨0, some 13, none, .p .mov, [.t 11]⟩,
    ⟨1, some 14, none, .p (.idx 1), [.t 9, .t 11]⟩,
    ⟨2, some 15, none, .r (.load false 1) false, [.t 14]⟩,
    ⟨3, some 7, none, .p .mov, [.t 13]⟩,
    ⟨4, some 8, none, .p .mov, [.t 15]⟩])
   (.seq (.reg 0 [⟨0, some 16, none, .p .mov, [.t 8]⟩,
    ⟨1, some 17, none, .p .mov, [.t 1]⟩,
    ⟨2, some 18, none, .p .mov, [.t 2]⟩,
    ⟨3, some 19, none, .e .call [] [], [.f 98, .t 16, .t 17, .t 18]⟩,
    ⟨4, some 20, none, .p (.un .not), [.t 19]⟩,
    ⟨5, some 21, none, .p .mov, [.t 20]⟩,
    ⟨6, some 22, some (21, false), .p .mov, [.t 7]⟩,
    ⟨7, some 23, some (21, false), .p (.bin .gtr), [.t 22, .c (.int .i64 0)]⟩,
    ⟨8, some 24, some (21, false), .p .mov, [.t 23]⟩,
    ⟨9, some 25, some (24, true), .p .mov, [.t 0]⟩,
    ⟨10, some 26, some (24, true), .p .mov, [.t 7]⟩,
    ⟨11, some 27, some (24, true), .p (.bin .sub), [.t 26, .c (.int .i64 1)]⟩,
    ⟨12, some 28, some (24, true), .p (.idx 1), [.t 25, .t 27]⟩,
    ⟨13, some 29, some (24, true), .r (.load false 1) false, [.t 28]⟩,
    ⟨14, some 30, some (24, true), .p .mov, [.t 8]⟩,
    ⟨15, some 31, some (24, true), .p (.bin .geq), [.t 29, .t 30]⟩,
    ⟨16, some 32, some (21, false), .p .pick, [.t 24, .t 31, .c (.bool false)]⟩,
    ⟨17, some 33, none, .p .pick, [.t 21, .c (.bool true), .t 32]⟩])
   (.cond (.t 33) (.seq (.reg 0 [⟨0, some 6, none, .p .mov, [.c (.bool false)]⟩])
   (.ret))
   (.skip)))))
   (.reg 0 [⟨0, some 34, none, .p (.bin .add), [.t 11, .c (.int .i64 1)]⟩,
    ⟨1, some 11, none, .p .mov, [.t 34]⟩])))
def g337 : GL.Fn := ⟨.seq (.reg 0 [⟨0, some 6, none, .p .mov, [.c (.bool false)]⟩])
   (.seq (.seq (.reg 0 [⟨0, some 9, none, .p .mov, [.t 0]⟩,
    ⟨1, some 10, none, .p .len, [.t 9]⟩,
    ⟨2, some 11, none, .p .mov, [.c (.int .i64 0)]⟩])
   (.block 0 (.loop g337_0)))
   (.seq (.reg 0 [⟨0, some 6, none, .p .mov, [.c (.bool true)]⟩])
   (.ret))),
  [.tmp 6]⟩
/- loop.example/g00641/spec.l1All -/
def g94_0 : GL.Code := .seq (.reg 0 [⟨0, some 12, none, .p (.bin .lss), [.t 11, .t 10]⟩])
   (.seq (.cond (.t 12) (.skip)
   (.exit 0))
   (.seq (.block 1 (.seq (.reg 0 [⟨0, some 13, none, .p (.idx 1), [.t 9, .t 11]⟩,
    ⟨1, some 14, none, .r (.load false 1) false, [.t 13]⟩,
    ⟨2, some 8, none, .p .mov, [.t 14]⟩])
   (.seq (.reg 0 [⟨0, some 15, none, .p .mov, [.t 8]⟩,
    ⟨1, some 16, none, .p .mov, [.t 1]⟩,
    ⟨2, some 17, none, .p .mov, [.t 2]⟩,
    ⟨3, some 18, none, .e .call [] [], [.f 98, .t 15, .t 16, .t 17]⟩,
    ⟨4, some 19, none, .p (.un .not), [.t 18]⟩])
   (.cond (.t 19) (.seq (.reg 0 [⟨0, some 6, none, .p .mov, [.c (.bool false)]⟩])
   (.ret))
   (.skip)))))
   (.reg 0 [⟨0, some 20, none, .p (.bin .add), [.t 11, .c (.int .i64 1)]⟩,
    ⟨1, some 11, none, .p .mov, [.t 20]⟩])))
def g94 : GL.Fn := ⟨.seq (.reg 0 [⟨0, some 6, none, .p .mov, [.c (.bool false)]⟩])
   (.seq (.seq (.reg 0 [⟨0, some 9, none, .p .mov, [.t 0]⟩,
    ⟨1, some 10, none, .p .len, [.t 9]⟩,
    ⟨2, some 11, none, .p .mov, [.c (.int .i64 0)]⟩])
   (.block 0 (.loop g94_0)))
   (.seq (.reg 0 [⟨0, some 6, none, .p .mov, [.c (.bool true)]⟩])
   (.ret))),
  [.tmp 6]⟩
/- loop.example/g00641/spec.l3Less -/
def g678_0 : GL.Code := .seq (.reg 0 [⟨0, some 9, none, .p (.bin .lss), [.t 8, .t 7]⟩])
   (.seq (.cond (.t 9) (.skip)
   (.exit 0))
   (.seq (.block 1 (.seq (.reg 0 [⟨0, some 10, none, .p .mov, [.t 8]⟩,
    ⟨1, some 5, none, .p .mov, [.t 10]⟩])
   (.seq (.reg 0 [⟨0, some 11, none, .p .mov, [.t 0]⟩,
    ⟨1, some 12, none, .p .mov, [.t 5]⟩,
    ⟨2, some 13, none, .p (.idx 1), [.t 11, .t 12]⟩,
    ⟨3, some 14, none, .r (.load false 1) false, [.t 13]⟩,
    ⟨4, some 15, none, .p .mov, [.t 1]⟩,
    ⟨5, some 16, none, .p .mov, [.t 5]⟩,
    ⟨6, some 17, none, .p (.idx 1), [.t 15, .t 16]⟩,
    ⟨7, some 18, none, .r (.load false 1) false, [.t 17]⟩,
    ⟨8, some 19, none, .p (.bin .neq), [.t 14, .t 18]⟩])
   (.cond (.t 19) (.seq (.reg 0 [⟨0, some 20, none, .p .mov, [.t 0]⟩,
    ⟨1, some 21, none, .p .mov, [.t 5]⟩,
    ⟨2, some 22, none, .p (.idx 1), [.t 20, .t 21]⟩,
    ⟨3, some 23, none, .r (.load false 1) false, [.t 22]⟩,
    ⟨4, some 24, none, .p .mov, [.t 1]⟩,
    ⟨5, some 25, none, .p .mov, [.t 5]⟩,
    ⟨6, some 26, none, .p (.idx 1), [.t 24, .t 25]⟩,
    ⟨7, some 27, none, .r (.load false 1) false, [.t 26]⟩,
    ⟨8, some 28, none, .p (.bin .lss), [.t 23, .t 27]⟩,
    ⟨9, some 4, none, .p .mov, [.t 28]⟩])
   (.ret))
   (.skip)))))
   (.reg 0 [⟨0, some 29, none, .p (.bin .add), [.t 8, .c (.int .i64 1)]⟩,
    ⟨1, some 8, none, .p .mov, [.t 29]⟩])))
def g678 : GL.Fn := ⟨.seq (.reg 0 [⟨0, some 4, none, .p .mov, [.c (.bool false)]⟩])
   (.seq (.seq (.reg 0 [⟨0, some 6, none, .p .mov, [.t 0]⟩,
    ⟨1, some 7, none, .p .len, [.t 6]⟩,
    ⟨2, some 8, none, .p .mov, [.c (.int .i64 0)]⟩])
   (.block 0 (.loop g678_0)))
   (.seq (.reg 0 [⟨0, some 4, none, .p .mov, [.c (.bool false)]⟩])
   (.ret))),
  [.tmp 4]⟩
/- (*loop.example/g00641/spec.l1Cur).one -/
def g92 : GL.Fn := ⟨.seq (.reg 0 [⟨0, some 4, none, .p .mov, [.c (.bool false)]⟩])
   (.seq (.reg 0 [⟨0, some 5, none, .p .mov, [.t 0]⟩,
    ⟨1, some 6, none, .p .mov, [.t 1]⟩,
    ⟨2, some 7, none, .e .call [] [], [.f 91, .t 5, .t 6]⟩,
    ⟨3, some 8, none, .p (.bin .eql), [.t 7, .c (.int .i64 0)]⟩,
    ⟨4, some 4, none, .p .mov, [.t 8]⟩])
   (.ret)),
  [.tmp 4]⟩
/- slices.Contains[[]int,int] -/
def g301 : GL.Fn := ⟨.seq (.reg 0 [⟨0, some 4, none, .p .mov, [.c (.bool false)]⟩])
   (.seq (.reg 0 [⟨0, some 5, none, .p .mov, [.t 0]⟩,
    ⟨1, some 6, none, .p .mov, [.t 1]⟩,
    ⟨2, some 7, none, .e .call [] [], [.f 390, .t 5, .t 6]⟩,
    ⟨3, some 8, none, .p (.bin .geq), [.t 7, .c (.int .i64 0)]⟩,
    ⟨4, some 4, none, .p .mov, [.t 8]⟩])
   (.ret)),
  [.tmp 4]⟩
/- loop.example/g00641/impl.within -/
def g107 : GL.Fn := ⟨.seq (.reg 0 [⟨0, some 6, none, .p .mov, [.c (.bool false)]⟩])
   (.seq (.reg 0 [⟨0, some 7, none, .p .mov, [.t 0]⟩,
    ⟨1, some 8, none, .p .mov, [.t 1]⟩,
    ⟨2, some 9, none, .p (.bin .geq), [.t 7, .t 8]⟩,
    ⟨3, some 10, none, .p .mov, [.t 9]⟩,
    ⟨4, some 11, some (10, true), .p .mov, [.t 0]⟩,
    ⟨5, some 12, some (10, true), .p .mov, [.t 2]⟩,
    ⟨6, some 13, some (10, true), .p (.bin .leq), [.t 11, .t 12]⟩,
    ⟨7, some 14, none, .p .pick, [.t 10, .t 13, .c (.bool false)]⟩,
    ⟨8, some 6, none, .p .mov, [.t 14]⟩])
   (.ret)),
  [.tmp 6]⟩
/- slices.Clone[[]int,int] -/
def g389 : GL.Fn := ⟨.seq (.reg 0 [⟨0, some 2, none, .p .mov, [.c (.nils)]⟩])
   (.seq (.seq (.reg 0 [⟨0, some 3, none, .p .mov, [.t 0]⟩,
    ⟨1, some 4, none, .p (.isNil false), [.t 3]⟩])
   (.cond (.t 4) (.seq (.reg 0 [⟨0, some 2, none, .p .mov, [.c (.nils)]⟩])
   (.ret))
   (.skip)))
   (.seq (.reg 0 [⟨0, some 5, none, .e (.new (.lit 1)) [] [], []⟩,
    ⟨1, some 6, none, .p .mov, [.t 0]⟩,
    ⟨2, some 7, none, .e (.append 1 8) [] [], [.t 5, .t 6]⟩,
    ⟨3, some 2, none, .p .mov, [.t 7]⟩])
   (.ret))),
  [.tmp 2]⟩
/- slices.DeleteFunc[[]int,int] -/
def g397_0 : GL.Code := .seq (.seq (.reg 0 [⟨0, some 16, none, .p .mov, [.t 6]⟩,
    ⟨1, some 17, none, .p .mov, [.t 0]⟩,
    ⟨2, some 18, none, .p .len, [.t 17]⟩,
    ⟨3, some 19, none, .p (.bin .lss), [.t 16, .t 18]⟩])
   (.cond (.t 19) (.skip)
   (.exit 0)))
   (.seq (.block 1 (.seq (.reg 0 [⟨0, some 22, none, .p .mov, [.t 0]⟩,
    ⟨1, some 23, none, .p .mov, [.t 6]⟩,
    ⟨2, some 24, none, .p (.idx 1), [.t 22, .t 23]⟩,
    ⟨3, some 25, none, .r (.load false 1) false, [.t 24]⟩,
    ⟨4, some 7, none, .p .mov, [.t 25]⟩])
   (.seq (.reg 0 [⟨0, some 26, none, .p .mov, [.t 1]⟩,
    ⟨1, some 27, none, .p .mov, [.t 7]⟩,
    ⟨2, some 28, none, .e .call [] [], [.t 26, .t 27]⟩,
    ⟨3, some 29, none, .p (.un .not), [.t 28]⟩])
   (.cond (.t 29) (.seq (.reg 0 [⟨0, some 30, none, .p .mov, [.t 0]⟩,
    ⟨1, some 31, none, .p .mov, [.t 5]⟩,
    ⟨2, some 32, none, .p .mov, [.t 7]⟩,
    ⟨3, some 33, none, .p (.idx 1), [.t 30, .t 31]⟩,
    ⟨4, none, none, .e (.store 1) [] [], [.t 33, .t 32]⟩])
   (.reg 0 [⟨0, some 34, none, .p .mov, [.t 5]⟩,
    ⟨1, some 35, none, .p (.bin .add), [.t 34, .c (.int .i64 1)]⟩,
    ⟨2, some 5, none, .p .mov, [.t 35]⟩]))
   (.skip)))))
   (.reg 0 [⟨0, some 20, none, .p .mov, [.t 6]⟩,
    ⟨1, some 21, none, .p (.bin .add), [.t 20, .c (.int .i64 1)]⟩,
    ⟨2, some 6, none, .p .mov, [.t 21]⟩]))
def g397 : GL.Fn := ⟨.seq (.reg 0 [⟨0, some 4, none, .p .mov, [.c (.nils)]⟩])
   (.seq (.reg 0 [⟨0, some 8, none, .p .mov, [.t 0]⟩,
    ⟨1, some 9, none, .p .mov, [.t 1]⟩,
    ⟨2, some 10, none, .e .call [] [], [.f 391, .t 8, .t 9]⟩,
    ⟨3, some 5, none, .p .mov, [.t 10]⟩])
   (.seq (.seq (.reg 0 [⟨0, some 11, none, .p .mov, [.t 5]⟩,
    ⟨1, some 12, none, .p (.bin .eql), [.t 11, .c (.int .i64 (-1))]⟩])
   (.cond (.t 12) (.seq (.reg 0 [⟨0, some 13, none, .p .mov, [.t 0]⟩,
    ⟨1, some 4, none, .p .mov, [.t 13]⟩])
   (.ret))
   (.skip)))
   (.seq (.seq (.reg 0 [⟨0, some 14, none, .p .mov, [.t 5]⟩,
    ⟨1, some 15, none, .p (.bin .add), [.t 14, .c (.int .i64 1)]⟩,
    ⟨2, some 6, none, .p .mov, [.t 15]⟩])
   (.block 0 (.loop g397_0)))
   (.seq (.reg 0 [⟨0, some 36, none, .p .mov, [.t 0]⟩,
    ⟨1, some 37, none, .p .mov, [.t 5]⟩,
    ⟨2, some 38, none, .p (.slice 1 true false false), [.t 36, .t 37]⟩,
    ⟨3, none, none, .e (.clear 1 [.int .i64 0]) [] [], [.t 38]⟩])
   (.seq (.reg 0 [⟨0, some 39, none, .p .mov, [.t 0]⟩,
    ⟨1, some 40, none, .p .mov, [.t 5]⟩,
    ⟨2, some 41, none, .p (.slice 1 false true false), [.t 39, .t 40]⟩,
    ⟨3, some 4, none, .p .mov, [.t 41]⟩])
   (.ret)))))),
  [.tmp 4]⟩
/- loop.example/g00641/impl.both$1 -/
def g396 : GL.Fn := ⟨.seq (.reg 0 [⟨0, some 3, none, .p .mov, [.c (.bool false)]⟩])
   (.seq (.reg 0 [⟨0, some 4, none, .r (.load false 1) false, [.t 1]⟩,
    ⟨1, some 5, none, .p .mov, [.t 0]⟩,
    ⟨2, some 6, none, .e .call [] [], [.f 301, .t 4, .t 5]⟩,
    ⟨3, some 7, none, .p (.un .not), [.t 6]⟩,
    ⟨4, some 3, none, .p .mov, [.t 7]⟩])
   (.ret)),
  [.tmp 3]⟩
/- slices.Concat[[]int,int] -/
def g429_0 : GL.Code := .seq (.reg 0 [⟨0, some 12, none, .p (.bin .lss), [.t 11, .t 10]⟩])
   (.seq (.cond (.t 12) (.skip)
   (.exit 0))
   (.seq (.block 1 (.seq (.reg 0 [⟨0, some 13, none, .p (.idx 1), [.t 9, .t 11]⟩,
    ⟨1, some 14, none, .r (.load false 1) false, [.t 13]⟩,
    ⟨2, some 5, none, .p .mov, [.t 14]⟩])
   (.seq (.reg 0 [⟨0, some 15, none, .p .mov, [.t 3]⟩,
    ⟨1, some 16, none, .p .mov, [.t 5]⟩,
    ⟨2, some 17, none, .p .len, [.t 16]⟩,
    ⟨3, some 18, none, .p (.bin .add), [.t 15, .t 17]⟩,
    ⟨4, some 3, none, .p .mov, [.t 18]⟩])
   (.seq (.reg 0 [⟨0, some 19, none, .p .mov, [.t 3]⟩,
    ⟨1, some 20, none, .p (.bin .lss), [.t 19, .c (.int .i64 0)]⟩])
   (.cond (.t 20) (.reg 0 [⟨0, some 21, none, .p .bad, []⟩,
    ⟨1, none, none, .p .bad, []⟩])
   (.skip))))))
   (.reg 0 [⟨0, some 22, none, .p (.bin .add), [.t 11, .c (.int .i64 1)]⟩,
    ⟨1, some 11, none, .p .mov, [.t 22]⟩])))
def g429_1 : GL.Code := .seq (.reg 0 [⟨0, some 28, none, .p (.bin .lss), [.t 27, .t 26]⟩])
   (.seq (.cond (.t 28) (.skip)
   (.exit 2))
   (.seq (.block 3 (.seq (.reg 0 [⟨0, some 29, none, .p (.idx 1), [.t 25, .t 27]⟩,
    ⟨1, some 30, none, .r (.load false 1) false, [.t 29]⟩,
    ⟨2, some 8, none, .p .mov, [.t 30]⟩])
   (.reg 0 [⟨0, some 31, none, .p .mov, [.t 6]⟩,
    ⟨1, some 32, none, .p .mov, [.t 8]⟩,
    ⟨2, some 33, none, .e (.append 1 8) [] [], [.t 31, .t 32]⟩,
    ⟨3, some 6, none, .p .mov, [.t 33]⟩])))
   (.reg 0 [⟨0, some 34, none, .p (.bin .add), [.t 27, .c (.int .i64 1)]⟩,
    ⟨1, some 27, none, .p .mov, [.t 34]⟩])))
def g429 : GL.Fn := ⟨.seq (.reg 0 [⟨0, some 2, none, .p .mov, [.c (.nils)]⟩])
   (.seq (.reg 0 [⟨0, some 3, none, .p .mov, [.c (.int .i64 0)]⟩])
   (.seq (.seq (.reg 0 [⟨0, some 9, none, .p .mov, [.t 0]⟩,
    ⟨1, some 10, none, .p .len, [.t 9]⟩,
    ⟨2, some 11, none, .p .mov, [.c (.int .i64 0)]⟩])
   (.block 0 (.loop g429_0)))
   (.seq (.reg 0 [⟨0, some 23, none, .p .mov, [.t 3]⟩,
    ⟨1, some 24, none, .e .call [] [], [.f 436, .c (.nils), .t 23]⟩,
    ⟨2, some 6, none, .p .mov, [.t 24]⟩])
   (.seq (.seq (.reg 0 [⟨0, some 25, none, .p .mov, [.t 0]⟩,
    ⟨1, some 26, none, .p .len, [.t 25]⟩,
    ⟨2, some 27, none, .p .mov, [.c (.int .i64 0)]⟩])
   (.block 2 (.loop g429_1)))
   (.seq (.reg 0 [⟨0, some 35, none, .p .mov, [.t 6]⟩,
    ⟨1, some 2, none, .p .mov, [.t 35]⟩])
   (.ret)))))),
  [.tmp 2]⟩
/- slices.Compact[[]int,int] -/
def g430_0 : GL.Code := .seq (.seq (.reg 0 [⟨0, some 29, none, .p .mov, [.t 5]⟩,
    ⟨1, some 30, none, .p .mov, [.t 4]⟩,
    ⟨2, some 31, none, .p .len, [.t 30]⟩,
    ⟨3, some 32, none, .p (.bin .lss), [.t 29, .t 31]⟩])
   (.cond (.t 32) (.skip)
   (.exit 2)))
   (.seq (.block 3 (.seq (.reg 0 [⟨0, some 35, none, .p .mov, [.t 4]⟩,
    ⟨1, some 36, none, .p .mov, [.t 5]⟩,
    ⟨2, some 37, none, .p (.idx 1), [.t 35, .t 36]⟩,
    ⟨3, some 38, none, .r (.load false 1) false, [.t 37]⟩,
    ⟨4, some 39, none, .p .mov, [.t 4]⟩,
    ⟨5, some 40, none, .p .mov, [.t 5]⟩,
    ⟨6, some 41, none, .p (.bin .sub), [.t 40, .c (.int .i64 1)]⟩,
    ⟨7, some 42, none, .p (.idx 1), [.t 39, .t 41]⟩,
    ⟨8, some 43, none, .r (.load false 1) false, [.t 42]⟩,
    ⟨9, some 44, none, .p (.bin .neq), [.t 38, .t 43]⟩])
   (.cond (.t 44) (.seq (.reg 0 [⟨0, some 45, none, .p .mov, [.t 0]⟩,
    ⟨1, some 46, none, .p .mov, [.t 3]⟩,
    ⟨2, some 47, none, .p .mov, [.t 4]⟩,
    ⟨3, some 48, none, .p .mov, [.t 5]⟩,
    ⟨4, some 49, none, .p (.idx 1), [.t 47, .t 48]⟩,
    ⟨5, some 50, none, .r (.load false 1) false, [.t 49]⟩,
    ⟨6, some 51, none, .p (.idx 1), [.t 45, .t 46]⟩,
    ⟨7, none, none, .e (.store 1) [] [], [.t 51, .t 50]⟩])
   (.reg 0 [⟨0, some 52, none, .p .mov, [.t 3]⟩,
    ⟨1, some 53, none, .p (.bin .add), [.t 52, .c (.int .i64 1)]⟩,
    ⟨2, some 3, none, .p .mov, [.t 53]⟩]))
   (.skip))))
   (.reg 0 [⟨0, some 33, none, .p .mov, [.t 5]⟩,
    ⟨1, some 34, none, .p (.bin .add), [.t 33, .c (.int .i64 1)]⟩,
    ⟨2, some 5, none, .p .mov, [.t 34]⟩]))
def g430_1 : GL.Code := .seq (.seq (.reg 0 [⟨0, some 10, none, .p .mov, [.t 3]⟩,
    ⟨1, some 11, none, .p .mov, [.t 0]⟩,
    ⟨2, some 12, none, .p .len, [.t 11]⟩,
    ⟨3, some 13, none, .p (.bin .lss), [.t 10, .t 12]⟩])
   (.cond (.t 13) (.skip)
   (.exit 0)))
   (.seq (.block 1 (.seq (.reg 0 [⟨0, some 16, none, .p .mov, [.t 0]⟩,
    ⟨1, some 17, none, .p .mov, [.t 3]⟩,
    ⟨2, some 18, none, .p (.idx 1), [.t 16, .t 17]⟩,
    ⟨3, some 19, none, .r (.load false 1) false, [.t 18]⟩,
    ⟨4, some 20, none, .p .mov, [.t 0]⟩,
    ⟨5, some 21, none, .p .mov, [.t 3]⟩,
    ⟨6, some 22, none, .p (.bin .sub), [.t 21, .c (.int .i64 1)]⟩,
    ⟨7, some 23, none, .p (.idx 1), [.t 20, .t 22]⟩,
    ⟨8, some 24, none, .r (.load false 1) false, [.t 23]⟩,
    ⟨9, some 25, none, .p (.bin .eql), [.t 19, .t 24]⟩])
   (.cond (.t 25) (.seq (.reg 0 [⟨0, some 26, none, .p .mov, [.t 0]⟩,
    ⟨1, some 27, none, .p .mov, [.t 3]⟩,
    ⟨2, some 28, none, .p (.slice 1 true false false), [.t 26, .t 27]⟩,
    ⟨3, some 4, none, .p .mov, [.t 28]⟩])
   (.seq (.seq (.reg 0 [⟨0, some 5, none, .p .mov, [.c (.int .i64 1)]⟩])
   (.block 2 (.loop g430_0)))
   (.seq (.reg 0 [⟨0, some 54, none, .p .mov, [.t 0]⟩,
    ⟨1, some 55, none, .p .mov, [.t 3]⟩,
    ⟨2, some 56, none, .p (.slice 1 true false false), [.t 54, .t 55]⟩,
    ⟨3, none, none, .e (.clear 1 [.int .i64 0]) [] [], [.t 56]⟩])
   (.seq (.reg 0 [⟨0, some 57, none, .p .mov, [.t 0]⟩,
    ⟨1, some 58, none, .p .mov, [.t 3]⟩,
    ⟨2, some 59, none, .p (.slice 1 false true false), [.t 57, .t 58]⟩,
    ⟨3, some 2, none, .p .mov, [.t 59]⟩])
   (.ret)))))
   (.skip))))
   (.reg 0 [⟨0, some 14, none, .p .mov, [.t 3]⟩,
    ⟨1, some 15, none, .p (.bin .add), [.t 14, .c (.int .i64 1)]⟩,
    ⟨2, some 3, none, .p .mov, [.t 15]⟩]))
def g430 : GL.Fn := ⟨.seq (.reg 0 [⟨0, some 2, none, .p .mov, [.c (.nils)]⟩])
   (.seq (.seq (.reg 0 [⟨0, some 6, none, .p .mov, [.t 0]⟩,
    ⟨1, some 7, none, .p .len, [.t 6]⟩,
    ⟨2, some 8, none, .p (.bin .lss), [.t 7, .c (.int .i64 2)]⟩])
   (.cond (.t 8) (.seq (.reg 0 [⟨0, some 9, none, .p .mov, [.t 0]⟩,
    ⟨1, some 2, none, .p .mov, [.t 9]⟩])
   (.ret))
   (.skip)))
   (.seq (.seq (.reg 0 [⟨0, some 3, none, .p .mov, [.c (.int .i64 1)]⟩])
   (.block 0 (.loop g430_1)))
   (.seq (.reg 0 [⟨0, some 60, none, .p .mov, [.t 0]⟩,
    ⟨1, some 2, none, .p .mov, [.t 60]⟩])
   (.ret)))),
  [.tmp 2]⟩
/- slices.CompactFunc[[][]int,[]int] -/
def g686_0 : GL.Code := .seq (.seq (.reg 0 [⟨0, some 32, none, .p .mov, [.t 7]⟩,
    ⟨1, some 33, none, .p .mov, [.t 6]⟩,
    ⟨2, some 34, none, .p .len, [.t 33]⟩,
    ⟨3, some 35, none, .p (.bin .lss), [.t 32, .t 34]⟩])
   (.cond (.t 35) (.skip)
   (.exit 2)))
   (.seq (.block 3 (.seq (.reg 0 [⟨0, some 38, none, .p .mov, [.t 1]⟩,
    ⟨1, some 39, none, .p .mov, [.t 6]⟩,
    ⟨2, some 40, none, .p .mov, [.t 7]⟩,
    ⟨3, some 41, none, .p (.idx 1), [.t 39, .t 40]⟩,
    ⟨4, some 42, none, .r (.load false 1) false, [.t 41]⟩,
    ⟨5, some 43, none, .p .mov, [.t 6]⟩,
    ⟨6, some 44, none, .p .mov, [.t 7]⟩,
    ⟨7, some 45, none, .p (.bin .sub), [.t 44, .c (.int .i64 1)]⟩,
    ⟨8, some 46, none, .p (.idx 1), [.t 43, .t 45]⟩,
    ⟨9, some 47, none, .r (.load false 1) false, [.t 46]⟩,
    ⟨10, some 48, none, .e .call [] [], [.t 38, .t 42, .t 47]⟩,
    ⟨11, some 49, none, .p (.un .not), [.t 48]⟩])
   (.cond (.t 49) (.seq (.reg 0 [⟨0, some 50, none, .p .mov, [.t 0]⟩,
    ⟨1, some 51, none, .p .mov, [.t 5]⟩,
    ⟨2, some 52, none, .p .mov, [.t 6]⟩,
    ⟨3, some 53, none, .p .mov, [.t 7]⟩,
    ⟨4, some 54, none, .p (.idx 1), [.t 52, .t 53]⟩,
    ⟨5, some 55, none, .r (.load false 1) false, [.t 54]⟩,
    ⟨6, some 56, none, .p (.idx 1), [.t 50, .t 51]⟩,
    ⟨7, none, none, .e (.store 1) [] [], [.t 56, .t 55]⟩])
   (.reg 0 [⟨0, some 57, none, .p .mov, [.t 5]⟩,
    ⟨1, some 58, none, .p (.bin .add), [.t 57, .c (.int .i64 1)]⟩,
    ⟨2, some 5, none, .p .mov, [.t 58]⟩]))
   (.skip))))
   (.reg 0 [⟨0, some 36, none, .p .mov, [.t 7]⟩,
    ⟨1, some 37, none, .p (.bin .add), [.t 36, .c (.int .i64 1)]⟩,
    ⟨2, some 7, none, .p .mov, [.t 37]⟩]))
def g686_1 : GL.Code := .seq (.seq (.reg 0 [⟨0, some 12, none, .p .mov, [.t 5]⟩,
    ⟨1, some 13, none, .p .mov, [.t 0]⟩,
    ⟨2, some 14, none, .p .len, [.t 13]⟩,
    ⟨3, some 15, none, .p (.bin .lss), [.t 12, .t 14]⟩])
   (.cond (.t 15) (.skip)
   (.exit 0)))
   (.seq (.block 1 (.seq (.reg 0 [⟨0, some 18, none, .p .mov, [.t 1]⟩,
    ⟨1, some 19, none, .p .mov, [.t 0]⟩,
    ⟨2, some 20, none, .p .mov, [.t 5]⟩,
    ⟨3, some 21, none, .p (.idx 1), [.t 19, .t 20]⟩,
    ⟨4, some 22, none, .r (.load false 1) false, [.t 21]⟩,
    ⟨5, some 23, none, .p .mov, [.t 0]⟩,
    ⟨6, some 24, none, .p .mov, [.t 5]⟩,
    ⟨7, some 25, none, .p (.bin .sub), [.t 24, .c (.int .i64 1)]⟩,
    ⟨8, some 26, none, .p (.idx 1), [.t 23, .t 25]⟩,
    ⟨9, some 27, none, .r (.load false 1) false, [.t 26]⟩,
    ⟨10, some 28, none, .e .call [] [], [.t 18, .t 22, .t 27]⟩])
   (.cond (.t 28) (.seq (.reg 0 [⟨0, some 29, none, .p .mov, [.t 0]⟩,
    ⟨1, some 30, none, .p .mov, [.t 5]⟩,
    ⟨2, some 31, none, .p (.slice 1 true false false), [.t 29, .t 30]⟩,
    ⟨3, some 6, none, .p .mov, [.t 31]⟩])
   (.seq (.seq (.reg 0 [⟨0, some 7, none, .p .mov, [.c (.int .i64 1)]⟩])
   (.block 2 (.loop g686_0)))
   (.seq (.reg 0 [⟨0, some 59, none, .p .mov, [.t 0]⟩,
    ⟨1, some 60, none, .p .mov, [.t 5]⟩,
    ⟨2, some 61, none, .p (.slice 1 true false false), [.t 59, .t 60]⟩,
    ⟨3, none, none, .e (.clear 1 [.nils]) [] [], [.t 61]⟩])
   (.seq (.reg 0 [⟨0, some 62, none, .p .mov, [.t 0]⟩,
    ⟨1, some 63, none, .p .mov, [.t 5]⟩,
    ⟨2, some 64, none, .p (.slice 1 false true false), [.t 62, .t 63]⟩,
    ⟨3, some 4, none, .p .mov, [.t 64]⟩])
   (.ret)))))
   (.skip))))
   (.reg 0 [⟨0, some 16, none, .p .mov, [.t 5]⟩,
    ⟨1, some 17, none, .p (.bin .add), [.t 16, .c (.int .i64 1)]⟩,
    ⟨2, some 5, none, .p .mov, [.t 17]⟩]))
def g686 : GL.Fn := ⟨.seq (.reg 0 [⟨0, some 4, none, .p .mov, [.c (.nils)]⟩])
   (.seq (.seq (.reg 0 [⟨0, some 8, none, .p .mov, [.t 0]⟩,
    ⟨1, some 9, none, .p .len, [.t 8]⟩,
    ⟨2, some 10, none, .p (.bin .lss), [.t 9, .c (.int .i64 2)]⟩])
   (.cond (.t 10) (.seq (.reg 0 [⟨0, some 11, none, .p .mov, [.t 0]⟩,
    ⟨1, some 4, none, .p .mov, [.t 11]⟩])
   (.ret))
   (.skip)))
   (.seq (.seq (.reg 0 [⟨0, some 5, none, .p .mov, [.c (.int .i64 1)]⟩])
   (.block 0 (.loop g686_1)))
   (.seq (.reg 0 [⟨0, some 65, none, .p .mov, [.t 0]⟩,
    ⟨1, some 4, none, .p .mov, [.t 65]⟩])
   (.ret)))),
  [.tmp 4]⟩
/- slices.IndexFunc[[][]int,[]int] -/
def g395_0 : GL.Code := .seq (.reg 0 [⟨0, some 9, none, .p (.bin .lss), [.t 8, .t 7]⟩])
   (.seq (.cond (.t 9) (.skip)
   (.exit 0))
   (.seq (.block 1 (.seq (.reg 0 [⟨0, some 10, none, .p .mov, [.t 8]⟩,
    ⟨1, some 5, none, .p .mov, [.t 10]⟩])
   (.seq (.reg 0 [⟨0, some 11, none, .p .mov, [.t 1]⟩,
    ⟨1, some 12, none, .p .mov, [.t 0]⟩,
    ⟨2, some 13, none, .p .mov, [.t 5]⟩,
    ⟨3, some 14, none, .p (.idx 1), [.t 12, .t 13]⟩,
    ⟨4, some 15, none, .r (.load false 1) false, [.t 14]⟩,
    ⟨5, some 16, none, .e .call [] [], [.t 11, .t 15]⟩])
   (.cond (.t 16) (.seq (.reg 0 [⟨0, some 17, none, .p .mov, [.t 5]⟩,
    ⟨1, some 4, none, .p .mov, [.t 17]⟩])
   (.ret))
   (.skip)))))
   (.reg 0 [⟨0, some 18, none, .p (.bin .add), [.t 8, .c (.int .i64 1)]⟩,
    ⟨1, some 8, none, .p .mov, [.t 18]⟩])))
def g395 : GL.Fn := ⟨.seq (.reg 0 [⟨0, some 4, none, .p .mov, [.c (.int .i64 0)]⟩])
   (.seq (.seq (.reg 0 [⟨0, some 6, none, .p .mov, [.t 0]⟩,
    ⟨1, some 7, none, .p .len, [.t 6]⟩,
    ⟨2, some 8, none, .p .mov, [.c (.int .i64 0)]⟩])
   (.block 0 (.loop g395_0)))
   (.seq (.reg 0 [⟨0, some 4, none, .p .mov, [.c (.int .i64 (-1))]⟩])
   (.ret))),
  [.tmp 4]⟩
/- loop.example/g00641/impl.truth -/
def g141 : GL.Fn := ⟨.seq (.reg 0 [⟨0, some 2, none, .p .mov, [.c (.int .i64 0)]⟩])
   (.seq (.seq (.reg 0 [⟨0, some 3, none, .p .mov, [.t 0]⟩])
   (.cond (.t 3) (.seq (.reg 0 [⟨0, some 2, none, .p .mov, [.c (.int .i64 2)]⟩])
   (.ret))
   (.skip)))
   (.seq (.reg 0 [⟨0, some 2, none, .p .mov, [.c (.int .i64 0)]⟩])
   (.ret))),
  [.tmp 2]⟩
/- (*loop.example/g00641/spec.l1Cur).next -/
def g140 : GL.Fn := ⟨.seq (.reg 0 [⟨0, some 2, none, .p .mov, [.c (.int .i64 0)]⟩])
   (.seq (.reg 0 [⟨0, some 3, none, .p .mov, [.c (.int .i64 0)]⟩])
   (.seq (.seq (.reg 0 [⟨0, some 4, none, .p .mov, [.t 0]⟩,
    ⟨1, some 5, none, .p .nilCheck, [.t 4]⟩,
    ⟨2, some 6, none, .p (.faddr 1), [.t 5]⟩,
    ⟨3, some 7, none, .r (.load false 1) false, [.t 6]⟩,
    ⟨4, some 8, none, .p .mov, [.t 0]⟩,
    ⟨5, some 9, none, .p .nilCheck, [.t 8]⟩,
    ⟨6, some 10, none, .p (.faddr 0), [.t 9]⟩,
    ⟨7, some 11, none, .r (.load false 1) false, [.t 10]⟩,
    ⟨8, some 12, none, .p .len, [.t 11]⟩,
    ⟨9, some 13, none, .p (.bin .lss), [.t 7, .t 12]⟩])
   (.cond (.t 13) (.reg 0 [⟨0, some 14, none, .p .mov, [.t 0]⟩,
    ⟨1, some 15, none, .p .nilCheck, [.t 14]⟩,
    ⟨2, some 16, none, .p (.faddr 0), [.t 15]⟩,
    ⟨3, some 17, none, .r (.load false 1) false, [.t 16]⟩,
    ⟨4, some 18, none, .p .mov, [.t 0]⟩,
    ⟨5, some 19, none, .p .nilCheck, [.t 18]⟩,
    ⟨6, some 20, none, .p (.faddr 1), [.t 19]⟩,
    ⟨7, some 21, none, .r (.load false 1) false, [.t 20]⟩,
    ⟨8, some 22, none, .p (.idx 1), [.t 17, .t 21]⟩,
    ⟨9, some 23, none, .r (.load false 1) false, [.t 22]⟩,
    ⟨10, some 24, none, .p (.conv .i64), [.t 23]⟩,
    ⟨11, some 3, none, .p .mov, [.t 24]⟩])
   (.skip)))
   (.seq (.reg 0 [⟨0, some 25, none, .p .mov, [.t 0]⟩,
    ⟨1, some 26, none, .p .nilCheck, [.t 25]⟩,
    ⟨2, some 27, none, .p (.faddr 1), [.t 26]⟩,
    ⟨3, some 28, none, .r (.load false 1) false, [.t 27]⟩,
    ⟨4, some 29, none, .p (.bin .add), [.t 28, .c (.int .i64 1)]⟩,
    ⟨5, some 30, none, .p .nilCheck, [.t 25]⟩,
    ⟨6, some 31, none, .p (.faddr 1), [.t 30]⟩,
    ⟨7, none, none, .e (.store 1) [] [], [.t 31, .t 29]⟩])
   (.seq (.reg 0 [⟨0, some 32, none, .p .mov, [.t 0]⟩,
    ⟨1, some 33, none, .p .mov, [.t 0]⟩,
    ⟨2, some 34, none, .p .nilCheck, [.t 33]⟩,
    ⟨3, some 35, none, .p (.faddr 2), [.t 34]⟩,
    ⟨4, some 36, none, .r (.load false 1) false, [.t 35]⟩,
    ⟨5, some 37, none, .p (.bin .mul), [.t 36, .c (.int .u64 6364136223846793005)]⟩,
    ⟨6, some 38, none, .p .mov, [.t 3]⟩,
    ⟨7, some 39, none, .p (.conv .u64), [.t 38]⟩,
    ⟨8, some 40, none, .p (.bin .add), [.t 37, .t 39]⟩,
    ⟨9, some 41, none, .p (.bin .add), [.t 40, .c (.int .u64 1442695040888963407)]⟩,
    ⟨10, some 42, none, .p .nilCheck, [.t 32]⟩,
    ⟨11, some 43, none, .p (.faddr 2), [.t 42]⟩,
    ⟨12, none, none, .e (.store 1) [] [], [.t 43, .t 41]⟩])
   (.seq (.seq (.reg 0 [⟨0, some 44, none, .p .mov, [.t 0]⟩,
    ⟨1, some 45, none, .p .nilCheck, [.t 44]⟩,
    ⟨2, some 46, none, .p (.faddr 1), [.t 45]⟩,
    ⟨3, some 47, none, .r (.load false 1) false, [.t 46]⟩,
    ⟨4, some 48, none, .p .mov, [.t 0]⟩,
    ⟨5, some 49, none, .p .nilCheck, [.t 48]⟩,
    ⟨6, some 50, none, .p (.faddr 0), [.t 49]⟩,
    ⟨7, some 51, none, .r (.load false 1) false, [.t 50]⟩,
    ⟨8, some 52, none, .p .len, [.t 51]⟩,
    ⟨9, some 53, none, .p (.bin .leq), [.t 47, .t 52]⟩])
   (.cond (.t 53) (.seq (.reg 0 [⟨0, some 54, none, .p .mov, [.t 3]⟩,
    ⟨1, some 2, none, .p .mov, [.t 54]⟩])
   (.ret))
   (.skip)))
   (.seq (.reg 0 [⟨0, some 55, none, .p .mov, [.t 0]⟩,
    ⟨1, some 56, none, .p .nilCheck, [.t 55]⟩,
    ⟨2, some 57, none, .p (.faddr 2), [.t 56]⟩,
    ⟨3, some 58, none, .r (.load false 1) false, [.t 57]⟩,
    ⟨4, some 59, none, .p (.bin .shr), [.t 58, .c (.int .u64 40)]⟩,
    ⟨5, some 60, none, .p (.bin .and), [.t 59, .c (.int .u64 255)]⟩,
    ⟨6, some 61, none, .p (.conv .i64), [.t 60]⟩,
    ⟨7, some 2, none, .p .mov, [.t 61]⟩])
   (.ret))))))),
  [.tmp 2]⟩
/- slices.IndexFunc[[]int,int] -/
def g391_0 : GL.Code := .seq (.reg 0 [⟨0, some 9, none, .p (.bin .lss), [.t 8, .t 7]⟩])
   (.seq (.cond (.t 9) (.skip)
   (.exit 0))
   (.seq (.block 1 (.seq (.reg 0 [⟨0, some 10, none, .p .mov, [.t 8]⟩,
    ⟨1, some 5, none, .p .mov, [.t 10]⟩])
   (.seq (.reg 0 [⟨0, some 11, none, .p .mov, [.t 1]⟩,
    ⟨1, some 12, none, .p .mov, [.t 0]⟩,
    ⟨2, some 13, none, .p .mov, [.t 5]⟩,
    ⟨3, some 14, none, .p (.idx 1), [.t 12, .t 13]⟩,
    ⟨4, some 15, none, .r (.load false 1) false, [.t 14]⟩,
    ⟨5, some 16, none, .e .call [] [], [.t 11, .t 15]⟩])
   (.cond (.t 16) (.seq (.reg 0 [⟨0, some 17, none, .p .mov, [.t 5]⟩,
    ⟨1, some 4, none, .p .mov, [.t 17]⟩])
   (.ret))
   (.skip)))))
   (.reg 0 [⟨0, some 18, none, .p (.bin .add), [.t 8, .c (.int .i64 1)]⟩,
    ⟨1, some 8, none, .p .mov, [.t 18]⟩])))
def g391 : GL.Fn := ⟨.seq (.reg 0 [⟨0, some 4, none, .p .mov, [.c (.int .i64 0)]⟩])
   (.seq (.seq (.reg 0 [⟨0, some 6, none, .p .mov, [.t 0]⟩,
    ⟨1, some 7, none, .p .len, [.t 6]⟩,
    ⟨2, some 8, none, .p .mov, [.c (.int .i64 0)]⟩])
   (.block 0 (.loop g391_0)))
   (.seq (.reg 0 [⟨0, some 4, none, .p .mov, [.c (.int .i64 (-1))]⟩])
   (.ret))),
  [.tmp 4]⟩
/- cmp.Compare[int] -/
def g159 : GL.Fn := ⟨.seq (.reg 0 [⟨0, some 4, none, .p .mov, [.c (.int .i64 0)]⟩])
   (.seq (.reg 0 [⟨0, some 7, none, .p .mov, [.t 0]⟩,
    ⟨1, some 8, none, .e .call [] [], [.f 160, .t 7]⟩,
    ⟨2, some 5, none, .p .mov, [.t 8]⟩])
   (.seq (.reg 0 [⟨0, some 9, none, .p .mov, [.t 1]⟩,
    ⟨1, some 10, none, .e .call [] [], [.f 160, .t 9]⟩,
    ⟨2, some 6, none, .p .mov, [.t 10]⟩])
   (.seq (.seq (.reg 0 [⟨0, some 11, none, .p .mov, [.t 5]⟩])
   (.cond (.t 11) (.seq (.seq (.reg 0 [⟨0, some 12, none, .p .mov, [.t 6]⟩])
   (.cond (.t 12) (.seq (.reg 0 [⟨0, some 4, none, .p .mov, [.c (.int .i64 0)]⟩])
   (.ret))
   (.skip)))
   (.seq (.reg 0 [⟨0, some 4, none, .p .mov, [.c (.int .i64 (-1))]⟩])
   (.ret)))
   (.skip)))
   (.seq (.seq (.reg 0 [⟨0, some 13, none, .p .mov, [.t 6]⟩])
   (.cond (.t 13) (.seq (.reg 0 [⟨0, some 4, none, .p .mov, [.c (.int .i64 1)]⟩])
   (.ret))
   (.skip)))
   (.seq (.seq (.reg 0 [⟨0, some 14, none, .p .mov, [.t 0]⟩,
    ⟨1, some 15, none, .p .mov, [.t 1]⟩,
    ⟨2, some 16, none, .p (.bin .lss), [.t 14, .t 15]⟩])
   (.cond (.t 16) (.seq (.reg 0 [⟨0, some 4, none, .p .mov, [.c (.int .i64 (-1))]⟩])
   (.ret))
   (.skip)))
   (.seq (.seq (.reg 0 [⟨0, some 17, none, .p .mov, [.t 0]⟩,
    ⟨1, some 18, none, .p .mov, [.t 1]⟩,
    ⟨2, some 19, none, .p (.bin .gtr), [.t 17, .t 18]⟩])
   (.cond (.t 19) (.seq (.reg 0 [⟨0, some 4, none, .p .mov, [.c (.int .i64 1)]⟩])
   (.ret))
   (.skip)))
   (.seq (.reg 0 [⟨0, some 4, none, .p .mov, [.c (.int .i64 0)]⟩])
   (.ret)))))))),
  [.tmp 4]⟩
/- slices.Grow[[]int,int] -/
def g436 : GL.Fn := ⟨.seq (.reg 0 [⟨0, some 4, none, .p .mov, [.c (.nils)]⟩])
   (.seq (.seq (.reg 0 [⟨0, some 5, none, .p .mov, [.t 1]⟩,
    ⟨1, some 6, none, .p (.bin .lss), [.t 5, .c (.int .i64 0)]⟩])
   (.cond (.t 6) (.reg 0 [⟨0, some 7, none, .p .bad, []⟩,
    ⟨1, none, none, .p .bad, []⟩])
   (.skip)))
   (.seq (.seq (.reg 0 [⟨0, some 8, none, .p .mov, [.t 1]⟩,
    ⟨1, some 9, none, .p .mov, [.t 0]⟩,
    ⟨2, some 10, none, .p .cap, [.t 9]⟩,
    ⟨3, some 11, none, .p .mov, [.t 0]⟩,
    ⟨4, some 12, none, .p .len, [.t 11]⟩,
    ⟨5, some 13, none, .p (.bin .sub), [.t 10, .t 12]⟩,
    ⟨6, some 14, none, .p (.bin .sub), [.t 8, .t 13]⟩,
    ⟨7, some 1, none, .p .mov, [.t 14]⟩])
   (.seq (.reg 0 [⟨0, some 15, none, .p .mov, [.t 1]⟩,
    ⟨1, some 16, none, .p (.bin .gtr), [.t 15, .c (.int .i64 0)]⟩])
   (.cond (.t 16) (.reg 0 [⟨0, some 17, none, .p .mov, [.t 0]⟩,
    ⟨1, some 18, none, .p .mov, [.t 0]⟩,
    ⟨2, some 19, none, .p .cap, [.t 18]⟩,
    ⟨3, some 20, none, .p (.slice 1 false true false), [.t 17, .t 19]⟩,
    ⟨4, some 21, none, .p .mov, [.t 1]⟩,
    ⟨5, some 22, none, .e (.appendZ 1 8 [.int .i64 0]) [] [], [.t 20, .t 21]⟩,
    ⟨6, some 23, none, .p .mov, [.t 0]⟩,
    ⟨7, some 24, none, .p .len, [.t 23]⟩,
    ⟨8, some 25, none, .p (.slice 1 false true false), [.t 22, .t 24]⟩,
    ⟨9, some 0, none, .p .mov, [.t 25]⟩])
   (.skip))))
   (.seq (.reg 0 [⟨0, some 26, none, .p .mov, [.t 0]⟩,
    ⟨1, some 4, none, .p .mov, [.t 26]⟩])
   (.ret)))),
  [.tmp 4]⟩
/- cmp.isNaN[int] -/
def g160 : GL.Fn := ⟨.seq (.reg 0 [⟨0, some 2, none, .p .mov, [.c (.bool false)]⟩])
   (.seq (.reg 0 [⟨0, some 3, none, .p .mov, [.t 0]⟩,
    ⟨1, some 4, none, .p .mov, [.t 0]⟩,
    ⟨2, some 5, none, .p (.bin .neq), [.t 3, .t 4]⟩,
    ⟨3, some 2, none, .p .mov, [.t 5]⟩])
   (.ret)),
  [.tmp 2]⟩
end GL
