import Derived.Test.YtmgbbehacaldlaaGreatGlA
/- GL code of functions. -/
set_option linter.unusedSimpArgs false
set_option linter.unusedVariables false
set_option linter.unnecessarySimpa false
namespace GL
open Go
/- loop.example/g00641/laws.FnHouse -/
def g730 : GL.Fn := ⟨.seq (.reg 0 [⟨0, some 4, none, .p .mov, [.c (.bool false)]⟩])
   (.seq (.seq (.reg 0 [⟨0, some 33, none, .p .mov, [.t 0]⟩,
    ⟨1, some 34, none, .p .len, [.t 33]⟩,
    ⟨2, some 35, none, .p .mov, [.t 1]⟩,
    ⟨3, some 36, none, .p .len, [.t 35]⟩,
    ⟨4, some 37, none, .p (.bin .add), [.t 34, .t 36]⟩,
    ⟨5, some 38, none, .p (.bin .gtr), [.t 37, .c (.int .i64 1048576)]⟩])
   (.cond (.t 38) (.seq (.reg 0 [⟨0, some 4, none, .p .mov, [.c (.bool true)]⟩])
   (.ret))
   (.skip)))
   (.seq (.reg 0 [⟨0, some 39, none, .p .mov, [.t 0]⟩,
    ⟨1, some 40, none, .e .call [] [], [.f 731, .t 39]⟩,
    ⟨2, some 5, none, .l (.alloc 5 [.int .i64 0, .nils, .nils, .nils]), []⟩,
    ⟨3, none, none, .l (.store 5 4), [.t 5, .t 40]⟩])
   (.seq (.reg 0 [⟨0, some 42, none, .l (.load 5 true 4), [.t 5]⟩,
    ⟨1, some 43, none, .e .call [] [], [.f 718, .t 42]⟩,
    ⟨2, some 41, none, .p .mov, [.t 43]⟩,
    ⟨3, some 44, none, .p (.extract 0), [.t 41]⟩,
    ⟨4, some 45, none, .p (.extract 1), [.t 41]⟩,
    ⟨5, some 6, none, .p .mov, [.t 44]⟩,
    ⟨6, some 7, none, .p .mov, [.t 45]⟩])
   (.seq (.reg 0 [⟨0, some 47, none, .l (.load 5 true 4), [.t 5]⟩,
    ⟨1, some 48, none, .e .call [] [], [.f 717, .t 47]⟩,
    ⟨2, some 46, none, .p .mov, [.t 48]⟩,
    ⟨3, some 49, none, .p (.extract 0), [.t 46]⟩,
    ⟨4, some 50, none, .p (.extract 1), [.t 46]⟩,
    ⟨5, some 8, none, .p .mov, [.t 49]⟩,
    ⟨6, some 9, none, .p .mov, [.t 50]⟩])
   (.seq (.reg 0 [⟨0, some 52, none, .l (.load 5 true 4), [.t 5]⟩,
    ⟨1, some 53, none, .e .call [] [], [.f 474, .t 52]⟩,
    ⟨2, some 51, none, .p .mov, [.t 53]⟩,
    ⟨3, some 54, none, .p (.extract 0), [.t 51]⟩,
    ⟨4, some 55, none, .p (.extract 1), [.t 51]⟩,
    ⟨5, some 10, none, .p .mov, [.t 54]⟩,
    ⟨6, some 11, none, .p .mov, [.t 55]⟩])
   (.seq (.reg 0 [⟨0, some 57, none, .l (.load 5 true 4), [.t 5]⟩,
    ⟨1, some 58, none, .e .call [] [], [.f 473, .t 57]⟩,
    ⟨2, some 56, none, .p .mov, [.t 58]⟩,
    ⟨3, some 59, none, .p (.extract 0), [.t 56]⟩,
    ⟨4, some 60, none, .p (.extract 1), [.t 56]⟩,
    ⟨5, some 12, none, .p .mov, [.t 59]⟩,
    ⟨6, some 13, none, .p .mov, [.t 60]⟩])
   (.seq (.seq (.reg 0 [⟨0, some 61, none, .p .mov, [.t 7]⟩,
    ⟨1, some 62, none, .p .mov, [.t 9]⟩,
    ⟨2, some 63, none, .p (.eqB true), [.t 61, .t 62]⟩,
    ⟨3, some 64, none, .p .mov, [.t 63]⟩,
    ⟨4, some 65, some (64, false), .p .mov, [.t 6]⟩,
    ⟨5, some 66, some (64, false), .p .mov, [.t 8]⟩,
    ⟨6, some 67, some (64, false), .p (.eqB true), [.t 65, .t 66]⟩,
    ⟨7, some 68, none, .p .pick, [.t 64, .c (.bool true), .t 67]⟩,
    ⟨8, some 69, none, .p .mov, [.t 68]⟩,
    ⟨9, some 70, some (69, false), .p .mov, [.t 11]⟩,
    ⟨10, some 71, some (69, false), .p .mov, [.t 13]⟩,
    ⟨11, some 72, some (69, false), .p (.eqB true), [.t 70, .t 71]⟩,
    ⟨12, some 73, none, .p .pick, [.t 69, .c (.bool true), .t 72]⟩,
    ⟨13, some 74, none, .p .mov, [.t 73]⟩,
    ⟨14, some 75, some (74, false), .p .mov, [.t 10]⟩,
    ⟨15, some 76, some (74, false), .p .mov, [.t 12]⟩,
    ⟨16, some 77, some (74, false), .e .call [] [], [.f 383, .t 75, .t 76]⟩,
    ⟨17, some 78, some (74, false), .p (.un .not), [.t 77]⟩,
    ⟨18, some 79, none, .p .pick, [.t 74, .c (.bool true), .t 78]⟩,
    ⟨19, some 80, none, .p .mov, [.t 79]⟩,
    ⟨20, some 81, some (80, false), .l (.load 5 true 4), [.t 5]⟩,
    ⟨21, some 82, some (80, false), .e .call [] [], [.f 458, .t 81]⟩,
    ⟨22, some 83, some (80, false), .p .mov, [.t 7]⟩,
    ⟨23, some 84, some (80, false), .p (.eqB true), [.t 82, .t 83]⟩,
    ⟨24, some 85, none, .p .pick, [.t 80, .c (.bool true), .t 84]⟩])
   (.cond (.t 85) (.seq (.reg 0 [⟨0, some 4, none, .p .mov, [.c (.bool false)]⟩])
   (.ret))
   (.skip)))
   (.seq (.seq (.reg 0 [⟨0, some 86, none, .p .mov, [.t 7]⟩])
   (.cond (.t 86) (.seq (.reg 0 [⟨0, some 88, none, .p .mov, [.t 10]⟩,
    ⟨1, some 89, none, .e .call [] [], [.f 589, .t 88]⟩,
    ⟨2, some 87, none, .p .mov, [.t 89]⟩,
    ⟨3, some 90, none, .p (.extract 0), [.t 87]⟩,
    ⟨4, some 91, none, .p (.extract 1), [.t 87]⟩,
    ⟨5, some 14, none, .p .mov, [.t 90]⟩,
    ⟨6, some 15, none, .p .mov, [.t 91]⟩])
   (.seq (.reg 0 [⟨0, some 93, none, .l (.load 5 true 4), [.t 5]⟩,
    ⟨1, some 94, none, .p .mov, [.t 14]⟩,
    ⟨2, some 95, none, .e .call [] [], [.f 481, .t 93, .t 94]⟩,
    ⟨3, some 92, none, .p .mov, [.t 95]⟩,
    ⟨4, some 96, none, .p (.extract 0), [.t 92]⟩,
    ⟨5, some 97, none, .p (.extract 1), [.t 92]⟩,
    ⟨6, some 16, none, .l (.alloc 16 [.nils, .nils, .nils]), []⟩,
    ⟨7, none, none, .l (.store 16 3), [.t 16, .t 96]⟩,
    ⟨8, some 17, none, .p .mov, [.t 97]⟩])
   (.seq (.reg 0 [⟨0, some 99, none, .l (.load 5 true 4), [.t 5]⟩,
    ⟨1, some 100, none, .p .mov, [.t 1]⟩,
    ⟨2, some 101, none, .e .call [] [], [.f 31, .t 100]⟩,
    ⟨3, some 102, none, .p (.faddr 0), [.t 5]⟩,
    ⟨4, some 103, none, .p (.faddr 0), [.t 102]⟩,
    ⟨5, some 104, none, .l (.load 5 false 1), [.t 103]⟩,
    ⟨6, some 105, none, .p (.bin .rem), [.t 101, .t 104]⟩,
    ⟨7, some 106, none, .e .call [] [], [.f 724, .t 99, .t 105]⟩,
    ⟨8, some 98, none, .p .mov, [.t 106]⟩,
    ⟨9, some 107, none, .p (.extract 0), [.t 98]⟩,
    ⟨10, some 108, none, .p (.extract 1), [.t 98]⟩,
    ⟨11, some 18, none, .l (.alloc 18 [.nils, .nils, .nils]), []⟩,
    ⟨12, none, none, .l (.store 18 3), [.t 18, .t 107]⟩,
    ⟨13, some 19, none, .p .mov, [.t 108]⟩])
   (.seq (.reg 0 [⟨0, some 109, none, .p .mov, [.t 6]⟩,
    ⟨1, some 110, none, .p (.un .not), [.t 109]⟩,
    ⟨2, some 111, none, .p .mov, [.t 110]⟩,
    ⟨3, some 112, some (111, false), .p .mov, [.t 15]⟩,
    ⟨4, some 113, some (111, false), .p (.un .not), [.t 112]⟩,
    ⟨5, some 114, none, .p .pick, [.t 111, .c (.bool true), .t 113]⟩,
    ⟨6, some 115, none, .p .mov, [.t 114]⟩,
    ⟨7, some 116, some (115, false), .p .mov, [.t 17]⟩,
    ⟨8, some 117, some (115, false), .p (.un .not), [.t 116]⟩,
    ⟨9, some 118, none, .p .pick, [.t 115, .c (.bool true), .t 117]⟩,
    ⟨10, some 119, none, .p .mov, [.t 118]⟩,
    ⟨11, some 120, some (119, false), .p .mov, [.t 19]⟩,
    ⟨12, some 121, some (119, false), .p (.un .not), [.t 120]⟩,
    ⟨13, some 122, none, .p .pick, [.t 119, .c (.bool true), .t 121]⟩,
    ⟨14, some 123, none, .p .mov, [.t 122]⟩,
    ⟨15, some 124, some (123, false), .p (.faddr 1), [.t 18]⟩,
    ⟨16, some 125, some (123, false), .l (.load 18 false 1), [.t 124]⟩,
    ⟨17, some 126, some (123, false), .p (.faddr 1), [.t 16]⟩,
    ⟨18, some 127, some (123, false), .l (.load 16 false 1), [.t 126]⟩,
    ⟨19, some 128, some (123, false), .e .call [] [], [.f 24, .t 125, .t 127]⟩,
    ⟨20, some 129, some (123, false), .p (.un .not), [.t 128]⟩,
    ⟨21, some 130, none, .p .pick, [.t 123, .c (.bool true), .t 129]⟩,
    ⟨22, some 131, none, .p .mov, [.t 130]⟩,
    ⟨23, some 132, some (131, false), .p (.faddr 2), [.t 18]⟩,
    ⟨24, some 133, some (131, false), .l (.load 18 false 1), [.t 132]⟩,
    ⟨25, some 134, some (131, false), .p (.faddr 2), [.t 16]⟩,
    ⟨26, some 135, some (131, false), .l (.load 16 false 1), [.t 134]⟩,
    ⟨27, some 136, some (131, false), .e .call [] [], [.f 24, .t 133, .t 135]⟩,
    ⟨28, some 137, some (131, false), .p (.un .not), [.t 136]⟩,
    ⟨29, some 138, none, .p .pick, [.t 131, .c (.bool true), .t 137]⟩,
    ⟨30, some 139, none, .p .mov, [.t 138]⟩,
    ⟨31, some 140, some (139, false), .p (.faddr 0), [.t 18]⟩,
    ⟨32, some 141, some (139, false), .l (.load 18 false 1), [.t 140]⟩,
    ⟨33, some 142, some (139, false), .p .len, [.t 141]⟩,
    ⟨34, some 143, some (139, false), .p (.faddr 0), [.t 5]⟩,
    ⟨35, some 144, some (139, false), .p (.faddr 1), [.t 143]⟩,
    ⟨36, some 145, some (139, false), .l (.load 5 false 1), [.t 144]⟩,
    ⟨37, some 146, some (139, false), .p .len, [.t 145]⟩,
    ⟨38, some 147, some (139, false), .p (.bin .neq), [.t 142, .t 146]⟩,
    ⟨39, some 148, none, .p .pick, [.t 139, .c (.bool true), .t 147]⟩])
   (.cond (.t 148) (.seq (.reg 0 [⟨0, some 4, none, .p .mov, [.c (.bool false)]⟩])
   (.ret))
   (.skip))))))
   (.skip)))
   (.seq (.reg 0 [⟨0, some 150, none, .p .mov, [.t 1]⟩,
    ⟨1, some 151, none, .e .call [] [], [.f 732, .t 150]⟩,
    ⟨2, some 149, none, .p .mov, [.t 151]⟩,
    ⟨3, some 152, none, .p (.extract 0), [.t 149]⟩,
    ⟨4, some 153, none, .p (.extract 1), [.t 149]⟩,
    ⟨5, some 20, none, .l (.alloc 20 [.int .i64 0, .nils, .nils, .nils]), []⟩,
    ⟨6, none, none, .l (.store 20 4), [.t 20, .t 152]⟩,
    ⟨7, some 21, none, .p .mov, [.t 153]⟩])
   (.seq (.reg 0 [⟨0, some 155, none, .l (.load 20 true 4), [.t 20]⟩,
    ⟨1, some 156, none, .p .mov, [.t 21]⟩,
    ⟨2, some 157, none, .e .call [] [], [.f 481, .t 155, .t 156]⟩,
    ⟨3, some 154, none, .p .mov, [.t 157]⟩,
    ⟨4, some 158, none, .p (.extract 0), [.t 154]⟩,
    ⟨5, some 159, none, .p (.extract 1), [.t 154]⟩,
    ⟨6, some 22, none, .l (.alloc 22 [.nils, .nils, .nils]), []⟩,
    ⟨7, none, none, .l (.store 22 3), [.t 22, .t 158]⟩,
    ⟨8, some 23, none, .p .mov, [.t 159]⟩])
   (.seq (.reg 0 [⟨0, some 161, none, .l (.load 20 true 4), [.t 20]⟩,
    ⟨1, some 162, none, .p .mov, [.t 21]⟩,
    ⟨2, some 163, none, .e .call [] [], [.f 480, .t 161, .t 162]⟩,
    ⟨3, some 160, none, .p .mov, [.t 163]⟩,
    ⟨4, some 164, none, .p (.extract 0), [.t 160]⟩,
    ⟨5, some 165, none, .p (.extract 1), [.t 160]⟩,
    ⟨6, some 24, none, .l (.alloc 24 [.nils, .nils, .nils]), []⟩,
    ⟨7, none, none, .l (.store 24 3), [.t 24, .t 164]⟩,
    ⟨8, some 25, none, .p .mov, [.t 165]⟩])
   (.seq (.reg 0 [⟨0, some 167, none, .p .mov, [.t 1]⟩,
    ⟨1, some 168, none, .e .call [] [], [.f 733, .t 167]⟩,
    ⟨2, some 166, none, .p .mov, [.t 168]⟩,
    ⟨3, some 169, none, .p (.extract 0), [.t 166]⟩,
    ⟨4, some 170, none, .p (.extract 1), [.t 166]⟩,
    ⟨5, some 171, none, .p (.extract 2), [.t 166]⟩,
    ⟨6, some 26, none, .l (.alloc 26 [.int .i64 0, .nils, .nils, .nils]), []⟩,
    ⟨7, none, none, .l (.store 26 4), [.t 26, .t 169]⟩,
    ⟨8, some 27, none, .p .mov, [.t 170]⟩,
    ⟨9, some 28, none, .p .mov, [.t 171]⟩])
   (.seq (.reg 0 [⟨0, some 173, none, .l (.load 26 true 4), [.t 26]⟩,
    ⟨1, some 174, none, .p .mov, [.t 27]⟩,
    ⟨2, some 175, none, .p .mov, [.t 28]⟩,
    ⟨3, some 176, none, .e .call [] [], [.f 715, .t 173, .t 174, .t 175]⟩,
    ⟨4, some 172, none, .p .mov, [.t 176]⟩,
    ⟨5, some 177, none, .p (.extract 0), [.t 172]⟩,
    ⟨6, some 178, none, .p (.extract 1), [.t 172]⟩,
    ⟨7, some 29, none, .p .mov, [.t 177]⟩,
    ⟨8, some 30, none, .p .mov, [.t 178]⟩])
   (.seq (.reg 0 [⟨0, some 180, none, .l (.load 26 true 4), [.t 26]⟩,
    ⟨1, some 181, none, .p .mov, [.t 27]⟩,
    ⟨2, some 182, none, .p .mov, [.t 28]⟩,
    ⟨3, some 183, none, .e .call [] [], [.f 714, .t 180, .t 181, .t 182]⟩,
    ⟨4, some 179, none, .p .mov, [.t 183]⟩,
    ⟨5, some 184, none, .p (.extract 0), [.t 179]⟩,
    ⟨6, some 185, none, .p (.extract 1), [.t 179]⟩,
    ⟨7, some 31, none, .p .mov, [.t 184]⟩,
    ⟨8, some 32, none, .p .mov, [.t 185]⟩])
   (.seq (.reg 0 [⟨0, some 186, none, .p .mov, [.t 23]⟩,
    ⟨1, some 187, none, .p .mov, [.t 25]⟩,
    ⟨2, some 188, none, .p (.eqB false), [.t 186, .t 187]⟩,
    ⟨3, some 189, none, .p .mov, [.t 188]⟩,
    ⟨4, some 190, some (189, true), .l (.load 22 true 3), [.t 22]⟩,
    ⟨5, some 191, some (189, true), .l (.load 24 true 3), [.t 24]⟩,
    ⟨6, some 192, some (189, true), .e .call [] [], [.f 723, .t 190, .t 191]⟩,
    ⟨7, some 193, none, .p .pick, [.t 189, .t 192, .c (.bool false)]⟩,
    ⟨8, some 194, none, .p .mov, [.t 193]⟩,
    ⟨9, some 195, some (194, true), .p .mov, [.t 30]⟩,
    ⟨10, some 196, some (194, true), .p .mov, [.t 32]⟩,
    ⟨11, some 197, some (194, true), .p (.eqB false), [.t 195, .t 196]⟩,
    ⟨12, some 198, none, .p .pick, [.t 194, .t 197, .c (.bool false)]⟩,
    ⟨13, some 199, none, .p .mov, [.t 198]⟩,
    ⟨14, some 200, some (199, true), .p .mov, [.t 29]⟩,
    ⟨15, some 201, some (199, true), .p .mov, [.t 31]⟩,
    ⟨16, some 202, some (199, true), .p (.eqB false), [.t 200, .t 201]⟩,
    ⟨17, some 203, none, .p .pick, [.t 199, .t 202, .c (.bool false)]⟩,
    ⟨18, some 204, none, .p .mov, [.t 203]⟩,
    ⟨19, some 205, some (204, true), .p .mov, [.t 30]⟩,
    ⟨20, some 206, some (204, true), .p (.un .not), [.t 205]⟩,
    ⟨21, some 207, some (204, true), .p .mov, [.t 206]⟩,
    ⟨22, some 208, some (207, false), .p .mov, [.t 29]⟩,
    ⟨23, some 209, some (204, true), .p .pick, [.t 207, .c (.bool true), .t 208]⟩,
    ⟨24, some 210, none, .p .pick, [.t 204, .t 209, .c (.bool false)]⟩,
    ⟨25, some 4, none, .p .mov, [.t 210]⟩])
   (.ret)))))))))))))))),
  [.tmp 4]⟩
/- loop.example/g00641/spec.DrawIsSerial -/
def g731 : GL.Fn := ⟨.seq (.reg 0 [⟨0, some 2, none, .l (.alloc 2 [.int .i64 0, .nils, .nils, .nils]), []⟩])
   (.seq (.reg 0 [⟨0, some 3, none, .p .mov, [.t 0]⟩,
    ⟨1, some 4, none, .e .call [] [], [.f 776, .t 3]⟩,
    ⟨2, none, none, .l (.store 2 4), [.t 2, .t 4]⟩])
   (.ret)),
  [.cellL 2 2 true 4]⟩
/- loop.example/g00641/impl.IsSerial -/
def g718_0 : GL.Code := .seq (.reg 0 [⟨0, some 26, none, .p (.bin .lss), [.t 25, .t 24]⟩])
   (.seq (.cond (.t 26) (.skip)
   (.exit 0))
   (.seq (.block 1 (.seq (.reg 0 [⟨0, some 27, none, .p .mov, [.t 25]⟩,
    ⟨1, some 7, none, .p .mov, [.t 27]⟩])
   (.seq (.reg 0 [⟨0, some 29, none, .l (.load 1 true 4), [.t 1]⟩,
    ⟨1, some 30, none, .p .mov, [.t 7]⟩,
    ⟨2, some 31, none, .e .call [] [], [.f 724, .t 29, .t 30]⟩,
    ⟨3, some 28, none, .p .mov, [.t 31]⟩,
    ⟨4, some 32, none, .p (.extract 0), [.t 28]⟩,
    ⟨5, some 33, none, .p (.extract 1), [.t 28]⟩,
    ⟨6, some 8, none, .l (.alloc 8 [.nils, .nils, .nils]), []⟩,
    ⟨7, none, none, .l (.store 8 3), [.t 8, .t 32]⟩,
    ⟨8, some 9, none, .p .mov, [.t 33]⟩])
   (.seq (.reg 0 [⟨0, some 34, none, .l (.load 8 true 3), [.t 8]⟩,
    ⟨1, some 35, none, .l (.load 6 true 3), [.t 6]⟩,
    ⟨2, some 36, none, .e .call [] [], [.f 773, .t 34, .t 35]⟩,
    ⟨3, some 37, none, .p (.un .not), [.t 36]⟩])
   (.cond (.t 37) (.seq (.reg 0 [⟨0, some 2, none, .p .mov, [.c (.bool false)]⟩,
    ⟨1, some 3, none, .p .mov, [.c (.bool true)]⟩])
   (.ret))
   (.skip))))))
   (.reg 0 [⟨0, some 38, none, .p (.bin .add), [.t 25, .c (.int .i64 1)]⟩,
    ⟨1, some 25, none, .p .mov, [.t 38]⟩])))
def g718 : GL.Fn := ⟨.seq (.reg 0 [⟨0, some 1, none, .l (.box 1 4), [.t 0]⟩,
    ⟨1, some 2, none, .p .mov, [.c (.bool false)]⟩,
    ⟨2, some 3, none, .p .mov, [.c (.bool false)]⟩])
   (.seq (.reg 0 [⟨0, some 11, none, .l (.load 1 true 4), [.t 1]⟩,
    ⟨1, some 12, none, .e .call [] [], [.f 474, .t 11]⟩,
    ⟨2, some 10, none, .p .mov, [.t 12]⟩,
    ⟨3, some 13, none, .p (.extract 0), [.t 10]⟩,
    ⟨4, some 14, none, .p (.extract 1), [.t 10]⟩,
    ⟨5, some 4, none, .p .mov, [.t 13]⟩,
    ⟨6, some 5, none, .p .mov, [.t 14]⟩])
   (.seq (.seq (.reg 0 [⟨0, some 15, none, .p .mov, [.t 5]⟩,
    ⟨1, some 16, none, .p (.un .not), [.t 15]⟩])
   (.cond (.t 16) (.seq (.reg 0 [⟨0, some 2, none, .p .mov, [.c (.bool false)]⟩,
    ⟨1, some 3, none, .p .mov, [.c (.bool false)]⟩])
   (.ret))
   (.skip)))
   (.seq (.reg 0 [⟨0, some 17, none, .l (.load 1 true 4), [.t 1]⟩,
    ⟨1, some 18, none, .p .mov, [.t 4]⟩,
    ⟨2, some 19, none, .e .call [] [], [.f 557, .t 18]⟩,
    ⟨3, some 20, none, .e .call [] [], [.f 429, .t 19]⟩,
    ⟨4, some 21, none, .e .call [] [], [.f 542, .t 17, .t 20]⟩,
    ⟨5, some 6, none, .l (.alloc 6 [.nils, .nils, .nils]), []⟩,
    ⟨6, none, none, .l (.store 6 3), [.t 6, .t 21]⟩])
   (.seq (.seq (.reg 0 [⟨0, some 22, none, .p (.faddr 0), [.t 1]⟩,
    ⟨1, some 23, none, .p (.faddr 0), [.t 22]⟩,
    ⟨2, some 24, none, .l (.load 1 false 1), [.t 23]⟩,
    ⟨3, some 25, none, .p .mov, [.c (.int .i64 0)]⟩])
   (.block 0 (.loop g718_0)))
   (.seq (.reg 0 [⟨0, some 2, none, .p .mov, [.c (.bool true)]⟩,
    ⟨1, some 3, none, .p .mov, [.c (.bool true)]⟩])
   (.ret)))))),
  [.tmp 2, .tmp 3]⟩
/- loop.example/g00641/spec.IsSerial -/
def g717_0 : GL.Code := .seq (.seq (.reg 0 [⟨0, some 14, none, .p .mov, [.t 5]⟩,
    ⟨1, some 15, none, .p (.faddr 0), [.t 1]⟩,
    ⟨2, some 16, none, .p (.faddr 0), [.t 15]⟩,
    ⟨3, some 17, none, .l (.load 1 false 1), [.t 16]⟩,
    ⟨4, some 18, none, .p (.bin .lss), [.t 14, .t 17]⟩])
   (.cond (.t 18) (.skip)
   (.exit 0)))
   (.seq (.block 1 (.seq (.reg 0 [⟨0, some 21, none, .l (.load 1 true 4), [.t 1]⟩,
    ⟨1, some 22, none, .p .mov, [.t 5]⟩,
    ⟨2, some 23, none, .p (.faddr 0), [.t 1]⟩,
    ⟨3, some 24, none, .p (.faddr 1), [.t 23]⟩,
    ⟨4, some 25, none, .l (.load 1 false 1), [.t 24]⟩,
    ⟨5, some 26, none, .p .len, [.t 25]⟩,
    ⟨6, some 27, none, .e .call [] [], [.f 771, .t 21, .t 22, .t 26]⟩,
    ⟨7, some 28, none, .l (.load 4 true 3), [.t 4]⟩,
    ⟨8, some 29, none, .e .call [] [], [.f 772, .t 27, .t 28]⟩,
    ⟨9, some 30, none, .p (.un .not), [.t 29]⟩])
   (.cond (.t 30) (.seq (.reg 0 [⟨0, some 2, none, .p .mov, [.c (.bool false)]⟩,
    ⟨1, some 3, none, .p .mov, [.c (.bool true)]⟩])
   (.ret))
   (.skip))))
   (.reg 0 [⟨0, some 19, none, .p .mov, [.t 5]⟩,
    ⟨1, some 20, none, .p (.bin .add), [.t 19, .c (.int .i64 1)]⟩,
    ⟨2, some 5, none, .p .mov, [.t 20]⟩]))
def g717 : GL.Fn := ⟨.seq (.reg 0 [⟨0, some 1, none, .l (.box 1 4), [.t 0]⟩,
    ⟨1, some 2, none, .p .mov, [.c (.bool false)]⟩,
    ⟨2, some 3, none, .p .mov, [.c (.bool false)]⟩])
   (.seq (.seq (.reg 0 [⟨0, some 6, none, .l (.load 1 true 4), [.t 1]⟩,
    ⟨1, some 7, none, .e .call [] [], [.f 457, .t 6]⟩,
    ⟨2, some 8, none, .p (.un .not), [.t 7]⟩])
   (.cond (.t 8) (.seq (.reg 0 [⟨0, some 2, none, .p .mov, [.c (.bool false)]⟩,
    ⟨1, some 3, none, .p .mov, [.c (.bool false)]⟩])
   (.ret))
   (.skip)))
   (.seq (.reg 0 [⟨0, some 9, none, .l (.load 1 true 4), [.t 1]⟩,
    ⟨1, some 10, none, .l (.load 1 true 4), [.t 1]⟩,
    ⟨2, some 11, none, .e .call [] [], [.f 774, .t 10]⟩,
    ⟨3, some 12, none, .e .call [] [], [.f 573, .t 11]⟩,
    ⟨4, some 13, none, .e .call [] [], [.f 540, .t 9, .t 12]⟩,
    ⟨5, some 4, none, .l (.alloc 4 [.nils, .nils, .nils]), []⟩,
    ⟨6, none, none, .l (.store 4 3), [.t 4, .t 13]⟩])
   (.seq (.seq (.reg 0 [⟨0, some 5, none, .p .mov, [.c (.int .i64 0)]⟩])
   (.block 0 (.loop g717_0)))
   (.seq (.reg 0 [⟨0, some 2, none, .p .mov, [.c (.bool true)]⟩,
    ⟨1, some 3, none, .p .mov, [.c (.bool true)]⟩])
   (.ret))))),
  [.tmp 2, .tmp 3]⟩
/- loop.example/g00641/impl.LinksOf -/
def g474 : GL.Fn := ⟨.seq (.reg 0 [⟨0, some 1, none, .l (.box 1 4), [.t 0]⟩,
    ⟨1, some 2, none, .p .mov, [.c (.nils)]⟩,
    ⟨2, some 3, none, .p .mov, [.c (.bool false)]⟩])
   (.seq (.reg 0 [⟨0, some 4, none, .p (.faddr 0), [.t 1]⟩,
    ⟨1, some 5, none, .l (.load 1 true 3), [.t 4]⟩,
    ⟨2, some 6, none, .p (.faddr 3), [.t 1]⟩,
    ⟨3, some 7, none, .l (.load 1 false 1), [.t 6]⟩,
    ⟨4, some 8, none, .e .call [] [], [.f 462, .t 5, .t 7]⟩,
    ⟨5, some 9, none, .p (.extract 0), [.t 8]⟩,
    ⟨6, some 10, none, .p (.extract 1), [.t 8]⟩,
    ⟨7, some 2, none, .p .mov, [.t 9]⟩,
    ⟨8, some 3, none, .p .mov, [.t 10]⟩])
   (.ret)),
  [.tmp 2, .tmp 3]⟩
/- loop.example/g00641/spec.LinksOf -/
def g473 : GL.Fn := ⟨.seq (.reg 0 [⟨0, some 1, none, .l (.box 1 4), [.t 0]⟩,
    ⟨1, some 2, none, .p .mov, [.c (.nils)]⟩,
    ⟨2, some 3, none, .p .mov, [.c (.bool false)]⟩])
   (.seq (.reg 0 [⟨0, some 4, none, .p (.faddr 0), [.t 1]⟩,
    ⟨1, some 5, none, .l (.load 1 true 3), [.t 4]⟩,
    ⟨2, some 6, none, .p (.faddr 3), [.t 1]⟩,
    ⟨3, some 7, none, .l (.load 1 false 1), [.t 6]⟩,
    ⟨4, some 8, none, .e .call [] [], [.f 463, .t 5, .t 7]⟩,
    ⟨5, some 9, none, .p (.extract 0), [.t 8]⟩,
    ⟨6, some 10, none, .p (.extract 1), [.t 8]⟩,
    ⟨7, some 2, none, .p .mov, [.t 9]⟩,
    ⟨8, some 3, none, .p .mov, [.t 10]⟩])
   (.ret)),
  [.tmp 2, .tmp 3]⟩
/- loop.example/g00641/laws.sameRows -/
def g383_0 : GL.Code := .seq (.reg 0 [⟨0, some 14, none, .p (.bin .lss), [.t 13, .t 12]⟩])
   (.seq (.cond (.t 14) (.skip)
   (.exit 0))
   (.seq (.block 1 (.seq (.reg 0 [⟨0, some 15, none, .p .mov, [.t 13]⟩,
    ⟨1, some 5, none, .p .mov, [.t 15]⟩])
   (.seq (.reg 0 [⟨0, some 16, none, .p .mov, [.t 0]⟩,
    ⟨1, some 17, none, .p .mov, [.t 5]⟩,
    ⟨2, some 18, none, .p (.idx 1), [.t 16, .t 17]⟩,
    ⟨3, some 19, none, .r (.load false 1) false, [.t 18]⟩,
    ⟨4, some 20, none, .p .mov, [.t 1]⟩,
    ⟨5, some 21, none, .p .mov, [.t 5]⟩,
    ⟨6, some 22, none, .p (.idx 1), [.t 20, .t 21]⟩,
    ⟨7, some 23, none, .r (.load false 1) false, [.t 22]⟩,
    ⟨8, some 24, none, .e .call [] [], [.f 24, .t 19, .t 23]⟩,
    ⟨9, some 25, none, .p (.un .not), [.t 24]⟩])
   (.cond (.t 25) (.seq (.reg 0 [⟨0, some 4, none, .p .mov, [.c (.bool false)]⟩])
   (.ret))
   (.skip)))))
   (.reg 0 [⟨0, some 26, none, .p (.bin .add), [.t 13, .c (.int .i64 1)]⟩,
    ⟨1, some 13, none, .p .mov, [.t 26]⟩])))
def g383 : GL.Fn := ⟨.seq (.reg 0 [⟨0, some 4, none, .p .mov, [.c (.bool false)]⟩])
   (.seq (.seq (.reg 0 [⟨0, some 6, none, .p .mov, [.t 0]⟩,
    ⟨1, some 7, none, .p .len, [.t 6]⟩,
    ⟨2, some 8, none, .p .mov, [.t 1]⟩,
    ⟨3, some 9, none, .p .len, [.t 8]⟩,
    ⟨4, some 10, none, .p (.bin .neq), [.t 7, .t 9]⟩])
   (.cond (.t 10) (.seq (.reg 0 [⟨0, some 4, none, .p .mov, [.c (.bool false)]⟩])
   (.ret))
   (.skip)))
   (.seq (.seq (.reg 0 [⟨0, some 11, none, .p .mov, [.t 0]⟩,
    ⟨1, some 12, none, .p .len, [.t 11]⟩,
    ⟨2, some 13, none, .p .mov, [.c (.int .i64 0)]⟩])
   (.block 0 (.loop g383_0)))
   (.seq (.reg 0 [⟨0, some 4, none, .p .mov, [.c (.bool true)]⟩])
   (.ret)))),
  [.tmp 4]⟩
/- loop.example/g00641/impl.GoodHouse -/
def g458 : GL.Fn := ⟨.seq (.reg 0 [⟨0, some 1, none, .l (.box 1 4), [.t 0]⟩,
    ⟨1, some 2, none, .p .mov, [.c (.bool false)]⟩])
   (.seq (.reg 0 [⟨0, some 6, none, .l (.load 1 true 4), [.t 1]⟩,
    ⟨1, some 7, none, .e .call [] [], [.f 474, .t 6]⟩,
    ⟨2, some 5, none, .p .mov, [.t 7]⟩,
    ⟨3, some 8, none, .p (.extract 0), [.t 5]⟩,
    ⟨4, some 9, none, .p (.extract 1), [.t 5]⟩,
    ⟨5, some 3, none, .p .mov, [.t 8]⟩,
    ⟨6, some 4, none, .p .mov, [.t 9]⟩])
   (.seq (.reg 0 [⟨0, some 10, none, .p .mov, [.t 4]⟩,
    ⟨1, some 2, none, .p .mov, [.t 10]⟩])
   (.ret))),
  [.tmp 2]⟩
/- loop.example/g00641/impl.WholeOrder -/
def g589 : GL.Fn := ⟨.seq (.reg 0 [⟨0, some 2, none, .p .mov, [.c (.nils)]⟩,
    ⟨1, some 3, none, .p .mov, [.c (.bool false)]⟩])
   (.seq (.reg 0 [⟨0, some 4, none, .p .mov, [.t 0]⟩,
    ⟨1, some 5, none, .e .call [] [], [.f 498, .t 4]⟩,
    ⟨2, some 6, none, .p (.extract 0), [.t 5]⟩,
    ⟨3, some 7, none, .p (.extract 1), [.t 5]⟩,
    ⟨4, some 2, none, .p .mov, [.t 6]⟩,
    ⟨5, some 3, none, .p .mov, [.t 7]⟩])
   (.ret)),
  [.tmp 2, .tmp 3]⟩
/- loop.example/g00641/impl.OutcomeBy -/
def g481 : GL.Fn := ⟨.seq (.reg 0 [⟨0, some 2, none, .l (.box 2 4), [.t 0]⟩,
    ⟨1, some 4, none, .l (.alloc 4 [.nils, .nils, .nils]), []⟩,
    ⟨2, some 5, none, .p .mov, [.c (.bool false)]⟩])
   (.seq (.seq (.reg 0 [⟨0, some 6, none, .l (.load 2 true 4), [.t 2]⟩,
    ⟨1, some 7, none, .e .call [] [], [.f 458, .t 6]⟩,
    ⟨2, some 8, none, .p (.un .not), [.t 7]⟩,
    ⟨3, some 9, none, .p .mov, [.t 8]⟩,
    ⟨4, some 10, some (9, false), .p .mov, [.t 1]⟩,
    ⟨5, some 11, some (9, false), .p (.faddr 0), [.t 2]⟩,
    ⟨6, some 12, some (9, false), .p (.faddr 1), [.t 11]⟩,
    ⟨7, some 13, some (9, false), .l (.load 2 false 1), [.t 12]⟩,
    ⟨8, some 14, some (9, false), .p .len, [.t 13]⟩,
    ⟨9, some 15, some (9, false), .e .call [] [], [.f 541, .t 10, .t 14]⟩,
    ⟨10, some 16, some (9, false), .p (.un .not), [.t 15]⟩,
    ⟨11, some 17, none, .p .pick, [.t 9, .c (.bool true), .t 16]⟩])
   (.cond (.t 17) (.seq (.reg 0 [⟨0, some 18, none, .p (.build [.nils, .nils, .nils] []), []⟩,
    ⟨1, none, none, .l (.store 4 3), [.t 4, .t 18]⟩,
    ⟨2, some 5, none, .p .mov, [.c (.bool false)]⟩])
   (.ret))
   (.skip)))
   (.seq (.reg 0 [⟨0, some 19, none, .l (.load 2 true 4), [.t 2]⟩,
    ⟨1, some 20, none, .p .mov, [.t 1]⟩,
    ⟨2, some 21, none, .e .call [] [], [.f 542, .t 19, .t 20]⟩,
    ⟨3, none, none, .l (.store 4 3), [.t 4, .t 21]⟩,
    ⟨4, some 5, none, .p .mov, [.c (.bool true)]⟩])
   (.ret))),
  [.cellL 4 4 true 3, .tmp 5]⟩
/- loop.example/g00641/impl.OutcomeAt -/
def g724 : GL.Fn := ⟨.seq (.reg 0 [⟨0, some 2, none, .l (.box 2 4), [.t 0]⟩,
    ⟨1, some 4, none, .l (.alloc 4 [.nils, .nils, .nils]), []⟩,
    ⟨2, some 5, none, .p .mov, [.c (.bool false)]⟩])
   (.seq (.reg 0 [⟨0, some 6, none, .l (.load 2 true 4), [.t 2]⟩,
    ⟨1, some 7, none, .p .mov, [.t 1]⟩,
    ⟨2, some 8, none, .p (.faddr 0), [.t 2]⟩,
    ⟨3, some 9, none, .p (.faddr 1), [.t 8]⟩,
    ⟨4, some 10, none, .l (.load 2 false 1), [.t 9]⟩,
    ⟨5, some 11, none, .p .len, [.t 10]⟩,
    ⟨6, some 12, none, .e .call [] [], [.f 721, .t 6, .t 7, .t 11]⟩,
    ⟨7, some 13, none, .p (.extract 0), [.t 12]⟩,
    ⟨8, some 14, none, .p (.extract 1), [.t 12]⟩,
    ⟨9, none, none, .l (.store 4 3), [.t 4, .t 13]⟩,
    ⟨10, some 5, none, .p .mov, [.t 14]⟩])
   (.ret)),
  [.cellL 4 4 true 3, .tmp 5]⟩
/- loop.example/g00641/laws.numberOf -/
def g31_0 : GL.Code := .seq (.reg 0 [⟨0, some 9, none, .p (.bin .lss), [.t 8, .t 7]⟩])
   (.seq (.cond (.t 9) (.skip)
   (.exit 0))
   (.seq (.block 1 (.seq (.reg 0 [⟨0, some 10, none, .p (.idx 1), [.t 6, .t 8]⟩,
    ⟨1, some 11, none, .r (.load false 1) false, [.t 10]⟩,
    ⟨2, some 5, none, .p .mov, [.t 11]⟩])
   (.reg 0 [⟨0, some 12, none, .p .mov, [.t 3]⟩,
    ⟨1, some 13, none, .p (.bin .mul), [.c (.int .i64 31), .t 12]⟩,
    ⟨2, some 14, none, .p .mov, [.t 5]⟩,
    ⟨3, some 15, none, .p (.conv .i64), [.t 14]⟩,
    ⟨4, some 16, none, .p (.bin .add), [.t 13, .t 15]⟩,
    ⟨5, some 17, none, .p (.bin .rem), [.t 16, .c (.int .i64 1000003)]⟩,
    ⟨6, some 3, none, .p .mov, [.t 17]⟩])))
   (.reg 0 [⟨0, some 18, none, .p (.bin .add), [.t 8, .c (.int .i64 1)]⟩,
    ⟨1, some 8, none, .p .mov, [.t 18]⟩])))
def g31 : GL.Fn := ⟨.seq (.reg 0 [⟨0, some 2, none, .p .mov, [.c (.int .i64 0)]⟩])
   (.seq (.reg 0 [⟨0, some 3, none, .p .mov, [.c (.int .i64 0)]⟩])
   (.seq (.seq (.reg 0 [⟨0, some 6, none, .p .mov, [.t 0]⟩,
    ⟨1, some 7, none, .p .len, [.t 6]⟩,
    ⟨2, some 8, none, .p .mov, [.c (.int .i64 0)]⟩])
   (.block 0 (.loop g31_0)))
   (.seq (.reg 0 [⟨0, some 19, none, .p .mov, [.t 3]⟩,
    ⟨1, some 2, none, .p .mov, [.t 19]⟩])
   (.ret)))),
  [.tmp 2]⟩
/- loop.example/g00641/laws.sameInts -/
def g24_0 : GL.Code := .seq (.reg 0 [⟨0, some 14, none, .p (.bin .lss), [.t 13, .t 12]⟩])
   (.seq (.cond (.t 14) (.skip)
   (.exit 0))
   (.seq (.block 1 (.seq (.reg 0 [⟨0, some 15, none, .p .mov, [.t 13]⟩,
    ⟨1, some 5, none, .p .mov, [.t 15]⟩])
   (.seq (.reg 0 [⟨0, some 16, none, .p .mov, [.t 0]⟩,
    ⟨1, some 17, none, .p .mov, [.t 5]⟩,
    ⟨2, some 18, none, .p (.idx 1), [.t 16, .t 17]⟩,
    ⟨3, some 19, none, .r (.load false 1) false, [.t 18]⟩,
    ⟨4, some 20, none, .p .mov, [.t 1]⟩,
    ⟨5, some 21, none, .p .mov, [.t 5]⟩,
    ⟨6, some 22, none, .p (.idx 1), [.t 20, .t 21]⟩,
    ⟨7, some 23, none, .r (.load false 1) false, [.t 22]⟩,
    ⟨8, some 24, none, .p (.bin .neq), [.t 19, .t 23]⟩])
   (.cond (.t 24) (.seq (.reg 0 [⟨0, some 4, none, .p .mov, [.c (.bool false)]⟩])
   (.ret))
   (.skip)))))
   (.reg 0 [⟨0, some 25, none, .p (.bin .add), [.t 13, .c (.int .i64 1)]⟩,
    ⟨1, some 13, none, .p .mov, [.t 25]⟩])))
def g24 : GL.Fn := ⟨.seq (.reg 0 [⟨0, some 4, none, .p .mov, [.c (.bool false)]⟩])
   (.seq (.seq (.reg 0 [⟨0, some 6, none, .p .mov, [.t 0]⟩,
    ⟨1, some 7, none, .p .len, [.t 6]⟩,
    ⟨2, some 8, none, .p .mov, [.t 1]⟩,
    ⟨3, some 9, none, .p .len, [.t 8]⟩,
    ⟨4, some 10, none, .p (.bin .neq), [.t 7, .t 9]⟩])
   (.cond (.t 10) (.seq (.reg 0 [⟨0, some 4, none, .p .mov, [.c (.bool false)]⟩])
   (.ret))
   (.skip)))
   (.seq (.seq (.reg 0 [⟨0, some 11, none, .p .mov, [.t 0]⟩,
    ⟨1, some 12, none, .p .len, [.t 11]⟩,
    ⟨2, some 13, none, .p .mov, [.c (.int .i64 0)]⟩])
   (.block 0 (.loop g24_0)))
   (.seq (.reg 0 [⟨0, some 4, none, .p .mov, [.c (.bool true)]⟩])
   (.ret)))),
  [.tmp 4]⟩
/- loop.example/g00641/spec.DrawOutcomeBy -/
def g732 : GL.Fn := ⟨.seq (.reg 0 [⟨0, some 2, none, .l (.alloc 2 [.int .i64 0, .nils, .nils, .nils]), []⟩,
    ⟨1, some 3, none, .p .mov, [.c (.nils)]⟩])
   (.seq (.reg 0 [⟨0, some 7, none, .p .mov, [.t 0]⟩,
    ⟨1, some 8, none, .p (.build [.nils, .int .i64 0, .int .u64 0] [(0, 1)]), [.t 7]⟩,
    ⟨2, some 9, none, .e (.new (.box 3)) [] [], [.t 8]⟩,
    ⟨3, some 4, none, .p .mov, [.t 9]⟩])
   (.seq (.reg 0 [⟨0, some 10, none, .p .mov, [.t 4]⟩,
    ⟨1, some 11, none, .e .call [] [], [.f 775, .t 10]⟩,
    ⟨2, some 5, none, .l (.alloc 5 [.int .i64 0, .nils, .nils, .nils]), []⟩,
    ⟨3, none, none, .l (.store 5 4), [.t 5, .t 11]⟩])
   (.seq (.reg 0 [⟨0, some 12, none, .p .mov, [.t 4]⟩,
    ⟨1, some 13, none, .p (.faddr 0), [.t 5]⟩,
    ⟨2, some 14, none, .p (.faddr 1), [.t 13]⟩,
    ⟨3, some 15, none, .l (.load 5 false 1), [.t 14]⟩,
    ⟨4, some 16, none, .p .len, [.t 15]⟩,
    ⟨5, some 17, none, .e .call [] [], [.f 567, .t 12, .t 16]⟩,
    ⟨6, some 6, none, .p .mov, [.t 17]⟩])
   (.seq (.seq (.reg 0 [⟨0, some 18, none, .p .mov, [.t 6]⟩,
    ⟨1, some 19, none, .p .len, [.t 18]⟩,
    ⟨2, some 20, none, .p (.bin .gtr), [.t 19, .c (.int .i64 0)]⟩,
    ⟨3, some 21, none, .p .mov, [.t 20]⟩,
    ⟨4, some 22, some (21, true), .p .mov, [.t 4]⟩,
    ⟨5, some 23, some (21, true), .e .call [] [], [.f 92, .t 22, .c (.int .i64 3)]⟩,
    ⟨6, some 24, none, .p .pick, [.t 21, .t 23, .c (.bool false)]⟩])
   (.cond (.t 24) (.reg 0 [⟨0, some 25, none, .p .mov, [.t 6]⟩,
    ⟨1, some 26, none, .p (.slice 1 true false false), [.t 25, .c (.int .i64 1)]⟩,
    ⟨2, some 6, none, .p .mov, [.t 26]⟩])
   (.skip)))
   (.seq (.seq (.reg 0 [⟨0, some 27, none, .p .mov, [.t 4]⟩,
    ⟨1, some 28, none, .e .call [] [], [.f 92, .t 27, .c (.int .i64 30)]⟩])
   (.cond (.t 28) (.reg 0 [⟨0, some 29, none, .p .mov, [.t 6]⟩,
    ⟨1, some 30, none, .e (.new (.lit 1)) [] [], [.c (.int .i64 0), .c (.int .i64 0)]⟩,
    ⟨2, some 31, none, .e (.append 1 8) [] [], [.t 29, .t 30]⟩,
    ⟨3, some 6, none, .p .mov, [.t 31]⟩])
   (.skip)))
   (.seq (.reg 0 [⟨0, some 32, none, .l (.load 5 true 4), [.t 5]⟩,
    ⟨1, some 33, none, .p .mov, [.t 6]⟩,
    ⟨2, none, none, .l (.store 2 4), [.t 2, .t 32]⟩,
    ⟨3, some 3, none, .p .mov, [.t 33]⟩])
   (.ret))))))),
  [.cellL 2 2 true 4, .tmp 3]⟩
/- loop.example/g00641/spec.OutcomeBy -/
def g480 : GL.Fn := ⟨.seq (.reg 0 [⟨0, some 2, none, .l (.box 2 4), [.t 0]⟩,
    ⟨1, some 4, none, .l (.alloc 4 [.nils, .nils, .nils]), []⟩,
    ⟨2, some 5, none, .p .mov, [.c (.bool false)]⟩])
   (.seq (.seq (.reg 0 [⟨0, some 6, none, .l (.load 2 true 4), [.t 2]⟩,
    ⟨1, some 7, none, .e .call [] [], [.f 457, .t 6]⟩,
    ⟨2, some 8, none, .p (.un .not), [.t 7]⟩,
    ⟨3, some 9, none, .p .mov, [.t 8]⟩,
    ⟨4, some 10, some (9, false), .p (.faddr 0), [.t 2]⟩,
    ⟨5, some 11, some (9, false), .p (.faddr 1), [.t 10]⟩,
    ⟨6, some 12, some (9, false), .l (.load 2 false 1), [.t 11]⟩,
    ⟨7, some 13, some (9, false), .p .len, [.t 12]⟩,
    ⟨8, some 14, some (9, false), .p .mov, [.t 1]⟩,
    ⟨9, some 15, some (9, false), .e .call [] [], [.f 539, .t 13, .t 14]⟩,
    ⟨10, some 16, some (9, false), .p (.un .not), [.t 15]⟩,
    ⟨11, some 17, none, .p .pick, [.t 9, .c (.bool true), .t 16]⟩])
   (.cond (.t 17) (.seq (.reg 0 [⟨0, some 18, none, .p (.build [.nils, .nils, .nils] []), []⟩,
    ⟨1, none, none, .l (.store 4 3), [.t 4, .t 18]⟩,
    ⟨2, some 5, none, .p .mov, [.c (.bool false)]⟩])
   (.ret))
   (.skip)))
   (.seq (.reg 0 [⟨0, some 19, none, .l (.load 2 true 4), [.t 2]⟩,
    ⟨1, some 20, none, .p .mov, [.t 1]⟩,
    ⟨2, some 21, none, .e .call [] [], [.f 540, .t 19, .t 20]⟩,
    ⟨3, none, none, .l (.store 4 3), [.t 4, .t 21]⟩,
    ⟨4, some 5, none, .p .mov, [.c (.bool true)]⟩])
   (.ret))),
  [.cellL 4 4 true 3, .tmp 5]⟩
/- loop.example/g00641/spec.DrawSameOutcome -/
def g733 : GL.Fn := ⟨.seq (.reg 0 [⟨0, some 2, none, .l (.alloc 2 [.int .i64 0, .nils, .nils, .nils]), []⟩,
    ⟨1, some 3, none, .p .mov, [.c (.int .i64 0)]⟩,
    ⟨2, some 4, none, .p .mov, [.c (.int .i64 0)]⟩])
   (.seq (.reg 0 [⟨0, some 9, none, .p .mov, [.t 0]⟩,
    ⟨1, some 10, none, .e .call [] [], [.f 725, .t 9]⟩,
    ⟨2, some 8, none, .p .mov, [.t 10]⟩,
    ⟨3, some 11, none, .p (.extract 0), [.t 8]⟩,
    ⟨4, some 12, none, .p (.extract 1), [.t 8]⟩,
    ⟨5, some 5, none, .l (.alloc 5 [.int .i64 0, .nils, .nils, .nils]), []⟩,
    ⟨6, none, none, .l (.store 5 4), [.t 5, .t 11]⟩,
    ⟨7, some 6, none, .p .mov, [.t 12]⟩])
   (.seq (.reg 0 [⟨0, some 13, none, .p .mov, [.t 0]⟩,
    ⟨1, some 14, none, .p (.build [.nils, .int .i64 0, .int .u64 0] [(0, 1)]), [.t 13]⟩,
    ⟨2, some 15, none, .e (.new (.box 3)) [] [], [.t 14]⟩,
    ⟨3, some 7, none, .p .mov, [.t 15]⟩])
   (.seq (.reg 0 [⟨0, some 16, none, .l (.load 5 true 4), [.t 5]⟩,
    ⟨1, some 17, none, .p .mov, [.t 6]⟩,
    ⟨2, some 18, none, .p .mov, [.t 7]⟩,
    ⟨3, some 19, none, .p (.faddr 0), [.t 5]⟩,
    ⟨4, some 20, none, .p (.faddr 0), [.t 19]⟩,
    ⟨5, some 21, none, .l (.load 5 false 1), [.t 20]⟩,
    ⟨6, some 22, none, .e .call [] [], [.f 91, .t 18, .t 21]⟩,
    ⟨7, none, none, .l (.store 2 4), [.t 2, .t 16]⟩,
    ⟨8, some 3, none, .p .mov, [.t 17]⟩,
    ⟨9, some 4, none, .p .mov, [.t 22]⟩])
   (.ret)))),
  [.cellL 2 2 true 4, .tmp 3, .tmp 4]⟩
/- loop.example/g00641/impl.SameOutcome -/
def g715 : GL.Fn := ⟨.seq (.reg 0 [⟨0, some 3, none, .l (.box 3 4), [.t 0]⟩,
    ⟨1, some 6, none, .p .mov, [.c (.bool false)]⟩,
    ⟨2, some 7, none, .p .mov, [.c (.bool false)]⟩])
   (.seq (.reg 0 [⟨0, some 13, none, .l (.load 3 true 4), [.t 3]⟩,
    ⟨1, some 14, none, .p .mov, [.t 1]⟩,
    ⟨2, some 15, none, .e .call [] [], [.f 724, .t 13, .t 14]⟩,
    ⟨3, some 12, none, .p .mov, [.t 15]⟩,
    ⟨4, some 16, none, .p (.extract 0), [.t 12]⟩,
    ⟨5, some 17, none, .p (.extract 1), [.t 12]⟩,
    ⟨6, some 8, none, .l (.alloc 8 [.nils, .nils, .nils]), []⟩,
    ⟨7, none, none, .l (.store 8 3), [.t 8, .t 16]⟩,
    ⟨8, some 9, none, .p .mov, [.t 17]⟩])
   (.seq (.reg 0 [⟨0, some 19, none, .l (.load 3 true 4), [.t 3]⟩,
    ⟨1, some 20, none, .p .mov, [.t 2]⟩,
    ⟨2, some 21, none, .e .call [] [], [.f 724, .t 19, .t 20]⟩,
    ⟨3, some 18, none, .p .mov, [.t 21]⟩,
    ⟨4, some 22, none, .p (.extract 0), [.t 18]⟩,
    ⟨5, some 23, none, .p (.extract 1), [.t 18]⟩,
    ⟨6, some 10, none, .l (.alloc 10 [.nils, .nils, .nils]), []⟩,
    ⟨7, none, none, .l (.store 10 3), [.t 10, .t 22]⟩,
    ⟨8, some 11, none, .p .mov, [.t 23]⟩])
   (.seq (.seq (.reg 0 [⟨0, some 24, none, .p .mov, [.t 9]⟩,
    ⟨1, some 25, none, .p (.un .not), [.t 24]⟩,
    ⟨2, some 26, none, .p .mov, [.t 25]⟩,
    ⟨3, some 27, some (26, false), .p .mov, [.t 11]⟩,
    ⟨4, some 28, some (26, false), .p (.un .not), [.t 27]⟩,
    ⟨5, some 29, none, .p .pick, [.t 26, .c (.bool true), .t 28]⟩])
   (.cond (.t 29) (.seq (.reg 0 [⟨0, some 6, none, .p .mov, [.c (.bool false)]⟩,
    ⟨1, some 7, none, .p .mov, [.c (.bool false)]⟩])
   (.ret))
   (.skip)))
   (.seq (.reg 0 [⟨0, some 30, none, .l (.load 8 true 3), [.t 8]⟩,
    ⟨1, some 31, none, .l (.load 10 true 3), [.t 10]⟩,
    ⟨2, some 32, none, .e .call [] [], [.f 773, .t 30, .t 31]⟩,
    ⟨3, some 6, none, .p .mov, [.t 32]⟩,
    ⟨4, some 7, none, .p .mov, [.c (.bool true)]⟩])
   (.ret))))),
  [.tmp 6, .tmp 7]⟩
/- loop.example/g00641/spec.SameOutcome -/
def g714 : GL.Fn := ⟨.seq (.reg 0 [⟨0, some 3, none, .l (.box 3 4), [.t 0]⟩,
    ⟨1, some 6, none, .p .mov, [.c (.bool false)]⟩,
    ⟨2, some 7, none, .p .mov, [.c (.bool false)]⟩])
   (.seq (.seq (.reg 0 [⟨0, some 9, none, .l (.load 3 true 4), [.t 3]⟩,
    ⟨1, some 10, none, .p .mov, [.t 1]⟩,
    ⟨2, some 11, none, .e .call [] [], [.f 770, .t 9, .t 10]⟩,
    ⟨3, some 12, none, .p (.un .not), [.t 11]⟩,
    ⟨4, some 13, none, .p .mov, [.t 12]⟩,
    ⟨5, some 14, some (13, false), .l (.load 3 true 4), [.t 3]⟩,
    ⟨6, some 15, some (13, false), .p .mov, [.t 2]⟩,
    ⟨7, some 16, some (13, false), .e .call [] [], [.f 770, .t 14, .t 15]⟩,
    ⟨8, some 17, some (13, false), .p (.un .not), [.t 16]⟩,
    ⟨9, some 18, none, .p .pick, [.t 13, .c (.bool true), .t 17]⟩])
   (.cond (.t 18) (.seq (.reg 0 [⟨0, some 6, none, .p .mov, [.c (.bool false)]⟩,
    ⟨1, some 7, none, .p .mov, [.c (.bool false)]⟩])
   (.ret))
   (.skip)))
   (.seq (.reg 0 [⟨0, some 19, none, .p (.faddr 0), [.t 3]⟩,
    ⟨1, some 20, none, .p (.faddr 1), [.t 19]⟩,
    ⟨2, some 21, none, .l (.load 3 false 1), [.t 20]⟩,
    ⟨3, some 22, none, .p .len, [.t 21]⟩,
    ⟨4, some 8, none, .p .mov, [.t 22]⟩])
   (.seq (.reg 0 [⟨0, some 23, none, .l (.load 3 true 4), [.t 3]⟩,
    ⟨1, some 24, none, .p .mov, [.t 1]⟩,
    ⟨2, some 25, none, .p .mov, [.t 8]⟩,
    ⟨3, some 26, none, .e .call [] [], [.f 771, .t 23, .t 24, .t 25]⟩,
    ⟨4, some 27, none, .l (.load 3 true 4), [.t 3]⟩,
    ⟨5, some 28, none, .p .mov, [.t 2]⟩,
    ⟨6, some 29, none, .p .mov, [.t 8]⟩,
    ⟨7, some 30, none, .e .call [] [], [.f 771, .t 27, .t 28, .t 29]⟩,
    ⟨8, some 31, none, .e .call [] [], [.f 772, .t 26, .t 30]⟩,
    ⟨9, some 6, none, .p .mov, [.t 31]⟩,
    ⟨10, some 7, none, .p .mov, [.c (.bool true)]⟩])
   (.ret)))),
  [.tmp 6, .tmp 7]⟩
/- loop.example/g00641/laws.sameOutcome -/
def g723 : GL.Fn := ⟨.seq (.reg 0 [⟨0, some 2, none, .l (.box 2 3), [.t 0]⟩,
    ⟨1, some 3, none, .l (.box 3 3), [.t 1]⟩,
    ⟨2, some 4, none, .p .mov, [.c (.bool false)]⟩])
   (.seq (.reg 0 [⟨0, some 5, none, .p (.faddr 0), [.t 2]⟩,
    ⟨1, some 6, none, .l (.load 2 false 1), [.t 5]⟩,
    ⟨2, some 7, none, .p (.faddr 0), [.t 3]⟩,
    ⟨3, some 8, none, .l (.load 3 false 1), [.t 7]⟩,
    ⟨4, some 9, none, .e .call [] [], [.f 24, .t 6, .t 8]⟩,
    ⟨5, some 10, none, .p .mov, [.t 9]⟩,
    ⟨6, some 11, some (10, true), .p (.faddr 1), [.t 2]⟩,
    ⟨7, some 12, some (10, true), .l (.load 2 false 1), [.t 11]⟩,
    ⟨8, some 13, some (10, true), .p (.faddr 1), [.t 3]⟩,
    ⟨9, some 14, some (10, true), .l (.load 3 false 1), [.t 13]⟩,
    ⟨10, some 15, some (10, true), .e .call [] [], [.f 24, .t 12, .t 14]⟩,
    ⟨11, some 16, none, .p .pick, [.t 10, .t 15, .c (.bool false)]⟩,
    ⟨12, some 17, none, .p .mov, [.t 16]⟩,
    ⟨13, some 18, some (17, true), .p (.faddr 2), [.t 2]⟩,
    ⟨14, some 19, some (17, true), .l (.load 2 false 1), [.t 18]⟩,
    ⟨15, some 20, some (17, true), .p (.faddr 2), [.t 3]⟩,
    ⟨16, some 21, some (17, true), .l (.load 3 false 1), [.t 20]⟩,
    ⟨17, some 22, some (17, true), .e .call [] [], [.f 24, .t 19, .t 21]⟩,
    ⟨18, some 23, none, .p .pick, [.t 17, .t 22, .c (.bool false)]⟩,
    ⟨19, some 4, none, .p .mov, [.t 23]⟩])
   (.ret)),
  [.tmp 4]⟩
/- loop.example/g00641/impl.OrderBy -/
def g498 : GL.Fn := ⟨.seq (.reg 0 [⟨0, some 2, none, .p .mov, [.c (.nils)]⟩,
    ⟨1, some 3, none, .p .mov, [.c (.bool false)]⟩])
   (.seq (.seq (.reg 0 [⟨0, some 4, none, .p .mov, [.t 0]⟩,
    ⟨1, some 5, none, .e .call [] [], [.f 500, .t 4]⟩,
    ⟨2, some 6, none, .p (.un .not), [.t 5]⟩])
   (.cond (.t 6) (.seq (.reg 0 [⟨0, some 2, none, .p .mov, [.c (.nils)]⟩,
    ⟨1, some 3, none, .p .mov, [.c (.bool false)]⟩])
   (.ret))
   (.skip)))
   (.seq (.reg 0 [⟨0, some 7, none, .p .mov, [.t 0]⟩,
    ⟨1, some 8, none, .e .call [] [], [.f 557, .t 7]⟩,
    ⟨2, some 9, none, .e .call [] [], [.f 429, .t 8]⟩,
    ⟨3, some 2, none, .p .mov, [.t 9]⟩,
    ⟨4, some 3, none, .p .mov, [.c (.bool true)]⟩])
   (.ret))),
  [.tmp 2, .tmp 3]⟩
/- loop.example/g00641/spec.DrawGoodHouse -/
def g776 : GL.Fn := ⟨.seq (.reg 0 [⟨0, some 2, none, .l (.alloc 2 [.int .i64 0, .nils, .nils, .nils]), []⟩])
   (.seq (.reg 0 [⟨0, some 4, none, .p .mov, [.t 0]⟩,
    ⟨1, some 5, none, .p (.build [.nils, .int .i64 0, .int .u64 0] [(0, 1)]), [.t 4]⟩,
    ⟨2, some 6, none, .e (.new (.box 3)) [] [], [.t 5]⟩,
    ⟨3, some 3, none, .p .mov, [.t 6]⟩])
   (.seq (.reg 0 [⟨0, some 7, none, .p .mov, [.t 3]⟩,
    ⟨1, some 8, none, .e .call [] [], [.f 775, .t 7]⟩,
    ⟨2, none, none, .l (.store 2 4), [.t 2, .t 8]⟩])
   (.ret))),
  [.cellL 2 2 true 4]⟩
/- (loop.example/g00641/impl.House).outcome -/
def g542_0 : GL.Code := .seq (.reg 0 [⟨0, some 18, none, .p (.bin .lss), [.t 17, .t 16]⟩])
   (.seq (.cond (.t 18) (.skip)
   (.exit 0))
   (.seq (.block 1 (.reg 0 [⟨0, some 19, none, .p (.faddr 2), [.t 5]⟩,
    ⟨1, some 20, none, .l (.load 5 false 1), [.t 19]⟩,
    ⟨2, some 21, none, .e (.new (.lit 1)) [] [], [.c (.int .i64 (-1))]⟩,
    ⟨3, some 22, none, .e (.append 1 8) [] [], [.t 20, .t 21]⟩,
    ⟨4, some 23, none, .p (.faddr 2), [.t 5]⟩,
    ⟨5, none, none, .l (.store 5 1), [.t 23, .t 22]⟩]))
   (.reg 0 [⟨0, some 24, none, .p (.bin .add), [.t 17, .c (.int .i64 1)]⟩,
    ⟨1, some 17, none, .p .mov, [.t 24]⟩])))
def g542_1 : GL.Code := .seq (.reg 0 [⟨0, some 28, none, .p (.bin .lss), [.t 27, .t 26]⟩])
   (.seq (.cond (.t 28) (.skip)
   (.exit 2))
   (.seq (.block 3 (.seq (.reg 0 [⟨0, some 29, none, .p (.idx 1), [.t 25, .t 27]⟩,
    ⟨1, some 30, none, .r (.load false 1) false, [.t 29]⟩,
    ⟨2, some 7, none, .p .mov, [.t 30]⟩])
   (.seq (.reg 0 [⟨0, some 31, none, .p (.faddr 0), [.t 2]⟩,
    ⟨1, some 32, none, .p (.faddr 1), [.t 31]⟩,
    ⟨2, some 33, none, .l (.load 2 false 1), [.t 32]⟩,
    ⟨3, some 34, none, .p .mov, [.t 7]⟩,
    ⟨4, some 35, none, .p (.idx 2), [.t 33, .t 34]⟩,
    ⟨5, some 36, none, .r (.load true 2) false, [.t 35]⟩,
    ⟨6, some 8, none, .l (.alloc 8 [.int .i64 0, .bool false]), []⟩,
    ⟨7, none, none, .l (.store 8 2), [.t 8, .t 36]⟩])
   (.seq (.reg 0 [⟨0, some 37, none, .p (.faddr 2), [.t 5]⟩,
    ⟨1, some 38, none, .l (.load 5 false 1), [.t 37]⟩,
    ⟨2, some 39, none, .p .mov, [.t 7]⟩,
    ⟨3, some 40, none, .p (.faddr 1), [.t 5]⟩,
    ⟨4, some 41, none, .l (.load 5 false 1), [.t 40]⟩,
    ⟨5, some 42, none, .p (.faddr 0), [.t 8]⟩,
    ⟨6, some 43, none, .l (.load 8 false 1), [.t 42]⟩,
    ⟨7, some 44, none, .p (.idx 1), [.t 41, .t 43]⟩,
    ⟨8, some 45, none, .r (.load false 1) false, [.t 44]⟩,
    ⟨9, some 46, none, .p (.idx 1), [.t 38, .t 39]⟩,
    ⟨10, none, none, .e (.store 1) [] [], [.t 46, .t 45]⟩])
   (.seq (.reg 0 [⟨0, some 47, none, .p (.faddr 1), [.t 8]⟩,
    ⟨1, some 48, none, .l (.load 8 false 1), [.t 47]⟩])
   (.cond (.t 48) (.reg 0 [⟨0, some 49, none, .p (.faddr 1), [.t 5]⟩,
    ⟨1, some 50, none, .l (.load 5 false 1), [.t 49]⟩,
    ⟨2, some 51, none, .p (.faddr 0), [.t 8]⟩,
    ⟨3, some 52, none, .l (.load 8 false 1), [.t 51]⟩,
    ⟨4, some 53, none, .p (.faddr 1), [.t 5]⟩,
    ⟨5, some 54, none, .l (.load 5 false 1), [.t 53]⟩,
    ⟨6, some 55, none, .p (.faddr 0), [.t 8]⟩,
    ⟨7, some 56, none, .l (.load 8 false 1), [.t 55]⟩,
    ⟨8, some 57, none, .p (.idx 1), [.t 54, .t 56]⟩,
    ⟨9, some 58, none, .r (.load false 1) false, [.t 57]⟩,
    ⟨10, some 59, none, .p (.bin .mul), [.c (.int .i64 3), .t 58]⟩,
    ⟨11, some 60, none, .p .mov, [.t 7]⟩,
    ⟨12, some 61, none, .p (.bin .add), [.t 59, .t 60]⟩,
    ⟨13, some 62, none, .p (.bin .add), [.t 61, .c (.int .i64 1)]⟩,
    ⟨14, some 63, none, .p (.bin .rem), [.t 62, .c (.int .i64 1000)]⟩,
    ⟨15, some 64, none, .p (.idx 1), [.t 50, .t 52]⟩,
    ⟨16, none, none, .e (.store 1) [] [], [.t 64, .t 63]⟩])
   (.skip)))))))
   (.reg 0 [⟨0, some 65, none, .p (.bin .add), [.t 27, .c (.int .i64 1)]⟩,
    ⟨1, some 27, none, .p .mov, [.t 65]⟩])))
def g542 : GL.Fn := ⟨.seq (.reg 0 [⟨0, some 2, none, .l (.box 2 4), [.t 0]⟩,
    ⟨1, some 4, none, .l (.alloc 4 [.nils, .nils, .nils]), []⟩])
   (.seq (.reg 1 [⟨0, some 9, none, .p .mov, [.t 1]⟩,
    ⟨1, some 10, none, .e .call [] [0], [.f 389, .t 9]⟩,
    ⟨2, some 11, none, .m (.make 1 8 [.int .i64 0]) 0, [.c (.int .i64 10), .c (.int .i64 10)]⟩,
    ⟨3, some 12, none, .p (.build [.nils, .nils, .nils] [(0, 1), (1, 1), (2, 1)]), [.t 10, .t 11, .c (.nils)]⟩,
    ⟨4, some 5, none, .l (.alloc 5 [.nils, .nils, .nils]), []⟩,
    ⟨5, none, none, .l (.store 5 3), [.t 5, .t 12]⟩])
   (.seq (.seq (.reg 0 [⟨0, some 13, none, .p (.faddr 0), [.t 2]⟩,
    ⟨1, some 14, none, .p (.faddr 1), [.t 13]⟩,
    ⟨2, some 15, none, .l (.load 2 false 1), [.t 14]⟩,
    ⟨3, some 16, none, .p .len, [.t 15]⟩,
    ⟨4, some 17, none, .p .mov, [.c (.int .i64 0)]⟩])
   (.block 0 (.loop g542_0)))
   (.seq (.seq (.reg 0 [⟨0, some 25, none, .p .mov, [.t 1]⟩,
    ⟨1, some 26, none, .p .len, [.t 25]⟩,
    ⟨2, some 27, none, .p .mov, [.c (.int .i64 0)]⟩])
   (.block 2 (.loop g542_1)))
   (.seq (.reg 0 [⟨0, some 66, none, .l (.load 5 true 3), [.t 5]⟩,
    ⟨1, none, none, .l (.store 4 3), [.t 4, .t 66]⟩])
   (.ret))))),
  [.cellL 4 4 true 3]⟩
/- slices.Concat[[]int,int] -/
def g429_0 : GL.Code := .seq (.reg 0 [⟨0, some 12, none, .p (.bin .lss), [.t 11, .t 10]⟩])
   (.seq (.cond (.t 12) (.skip)
   (.exit 0))
   (.seq (.block 1 (.seq (.reg 0 [⟨0, some 13, none, .p (.idx 1), [.t 9, .t 11]⟩,
    ⟨1, some 14, none, .r (.load false 1) false, [.t 13]⟩,
    ⟨2, some 5, none, .p .mov, [.t 14]⟩])
   (.seq (.reg 0 [⟨0, some 15, none, .p .mov, [.t 3]⟩,
    ⟨1, some 16, none, .p .mov, [.t 5]⟩,
    ⟨2, some 17, none, .p .len, [.t 16]⟩,
    ⟨3, some 18, none, .p (.bin .add), [.t 15, .t 17]⟩,
    ⟨4, some 3, none, .p .mov, [.t 18]⟩])
   (.seq (.reg 0 [⟨0, some 19, none, .p .mov, [.t 3]⟩,
    ⟨1, some 20, none, .p (.bin .lss), [.t 19, .c (.int .i64 0)]⟩])
   (.cond (.t 20) (.reg 0 [⟨0, some 21, none, .p .bad, []⟩,
    ⟨1, none, none, .p .bad, []⟩])
   (.skip))))))
   (.reg 0 [⟨0, some 22, none, .p (.bin .add), [.t 11, .c (.int .i64 1)]⟩,
    ⟨1, some 11, none, .p .mov, [.t 22]⟩])))
def g429_1 : GL.Code := .seq (.reg 0 [⟨0, some 28, none, .p (.bin .lss), [.t 27, .t 26]⟩])
   (.seq (.cond (.t 28) (.skip)
   (.exit 2))
   (.seq (.block 3 (.seq (.reg 0 [⟨0, some 29, none, .p (.idx 1), [.t 25, .t 27]⟩,
    ⟨1, some 30, none, .r (.load false 1) false, [.t 29]⟩,
    ⟨2, some 8, none, .p .mov, [.t 30]⟩])
   (.reg 0 [⟨0, some 31, none, .p .mov, [.t 6]⟩,
    ⟨1, some 32, none, .p .mov, [.t 8]⟩,
    ⟨2, some 33, none, .e (.append 1 8) [] [], [.t 31, .t 32]⟩,
    ⟨3, some 6, none, .p .mov, [.t 33]⟩])))
   (.reg 0 [⟨0, some 34, none, .p (.bin .add), [.t 27, .c (.int .i64 1)]⟩,
    ⟨1, some 27, none, .p .mov, [.t 34]⟩])))
def g429 : GL.Fn := ⟨.seq (.reg 0 [⟨0, some 2, none, .p .mov, [.c (.nils)]⟩])
   (.seq (.reg 0 [⟨0, some 3, none, .p .mov, [.c (.int .i64 0)]⟩])
   (.seq (.seq (.reg 0 [⟨0, some 9, none, .p .mov, [.t 0]⟩,
    ⟨1, some 10, none, .p .len, [.t 9]⟩,
    ⟨2, some 11, none, .p .mov, [.c (.int .i64 0)]⟩])
   (.block 0 (.loop g429_0)))
   (.seq (.reg 0 [⟨0, some 23, none, .p .mov, [.t 3]⟩,
    ⟨1, some 24, none, .e .call [] [], [.f 436, .c (.nils), .t 23]⟩,
    ⟨2, some 6, none, .p .mov, [.t 24]⟩])
   (.seq (.seq (.reg 0 [⟨0, some 25, none, .p .mov, [.t 0]⟩,
    ⟨1, some 26, none, .p .len, [.t 25]⟩,
    ⟨2, some 27, none, .p .mov, [.c (.int .i64 0)]⟩])
   (.block 2 (.loop g429_1)))
   (.seq (.reg 0 [⟨0, some 35, none, .p .mov, [.t 6]⟩,
    ⟨1, some 2, none, .p .mov, [.t 35]⟩])
   (.ret)))))),
  [.tmp 2]⟩
/- loop.example/g00641/impl.groups -/
def g557_0 : GL.Code := .seq (.reg 0 [⟨0, some 13, none, .p (.bin .lss), [.t 12, .t 11]⟩])
   (.seq (.cond (.t 13) (.skip)
   (.exit 0))
   (.seq (.block 1 (.seq (.reg 0 [⟨0, some 14, none, .p .mov, [.t 12]⟩,
    ⟨1, some 4, none, .p .mov, [.t 14]⟩])
   (.seq (.reg 0 [⟨0, some 15, none, .r (.load false 1) false, [.t 1]⟩,
    ⟨1, some 16, none, .p .mov, [.t 4]⟩,
    ⟨2, some 17, none, .e .call [] [], [.f 560, .t 15, .t 16]⟩,
    ⟨3, some 5, none, .p .mov, [.t 17]⟩])
   (.seq (.reg 0 [⟨0, some 18, none, .p .mov, [.t 5]⟩,
    ⟨1, some 19, none, .p (.idx 1), [.t 18, .c (.int .i64 0)]⟩,
    ⟨2, some 20, none, .r (.load false 1) false, [.t 19]⟩,
    ⟨3, some 21, none, .p .mov, [.t 4]⟩,
    ⟨4, some 22, none, .p (.bin .eql), [.t 20, .t 21]⟩])
   (.cond (.t 22) (.reg 0 [⟨0, some 23, none, .p .mov, [.t 3]⟩,
    ⟨1, some 24, none, .p .mov, [.t 5]⟩,
    ⟨2, some 25, none, .e (.new (.lit 1)) [] [], [.t 24]⟩,
    ⟨3, some 26, none, .e (.append 1 24) [] [], [.t 23, .t 25]⟩,
    ⟨4, some 3, none, .p .mov, [.t 26]⟩])
   (.skip))))))
   (.reg 0 [⟨0, some 27, none, .p (.bin .add), [.t 12, .c (.int .i64 1)]⟩,
    ⟨1, some 12, none, .p .mov, [.t 27]⟩])))
def g557_1 : GL.Code := .seq (.seq (.reg 0 [⟨0, some 30, none, .p .mov, [.t 3]⟩,
    ⟨1, some 31, none, .p .len, [.t 30]⟩,
    ⟨2, some 32, none, .p (.bin .gtr), [.t 31, .c (.int .i64 0)]⟩])
   (.cond (.t 32) (.skip)
   (.exit 2)))
   (.block 3 (.seq (.reg 0 [⟨0, some 33, none, .p .mov, [.t 3]⟩,
    ⟨1, some 34, none, .p (.mkFn 574), [.t 7, .t 1]⟩,
    ⟨2, some 35, none, .e .call [] [], [.f 395, .t 33, .t 34]⟩,
    ⟨3, some 8, none, .p .mov, [.t 35]⟩])
   (.seq (.reg 0 [⟨0, some 36, none, .p .mov, [.t 6]⟩,
    ⟨1, some 37, none, .p .mov, [.t 3]⟩,
    ⟨2, some 38, none, .p .mov, [.t 8]⟩,
    ⟨3, some 39, none, .p (.idx 1), [.t 37, .t 38]⟩,
    ⟨4, some 40, none, .r (.load false 1) false, [.t 39]⟩,
    ⟨7, some 43, none, .r (.load false 1) true, [.t 7]⟩,
    ⟨8, some 44, none, .p .mov, [.t 3]⟩,
    ⟨9, some 45, none, .p .mov, [.t 8]⟩,
    ⟨10, some 46, none, .p (.idx 1), [.t 44, .t 45]⟩,
    ⟨11, some 47, none, .r (.load false 1) true, [.t 46]⟩,
    ⟨5, some 41, none, .e (.new (.lit 1)) [7, 11] [], [.t 40]⟩,
    ⟨6, some 42, none, .e (.append 1 24) [7, 11] [], [.t 36, .t 41]⟩,
    ⟨12, some 48, none, .e (.append 1 8) [] [], [.t 43, .t 47]⟩,
    ⟨13, some 6, none, .p .mov, [.t 42]⟩,
    ⟨14, none, none, .e (.store 1) [] [], [.t 7, .t 48]⟩])
   (.reg 0 [⟨0, some 49, none, .p .mov, [.t 3]⟩,
    ⟨1, some 50, none, .p .mov, [.t 8]⟩,
    ⟨2, some 51, none, .p .mov, [.t 8]⟩,
    ⟨3, some 52, none, .p (.bin .add), [.t 51, .c (.int .i64 1)]⟩,
    ⟨4, some 53, none, .e .call [] [], [.f 575, .t 49, .t 50, .t 52]⟩,
    ⟨5, some 3, none, .p .mov, [.t 53]⟩]))))
def g557 : GL.Fn := ⟨.seq (.reg 0 [⟨0, some 1, none, .e (.new (.box 1)) [] [], [.t 0]⟩,
    ⟨1, some 2, none, .p .mov, [.c (.nils)]⟩])
   (.seq (.reg 0 [⟨0, some 9, none, .e (.new (.lit 1)) [] [], []⟩,
    ⟨1, some 3, none, .p .mov, [.t 9]⟩])
   (.seq (.seq (.reg 0 [⟨0, some 10, none, .r (.load false 1) false, [.t 1]⟩,
    ⟨1, some 11, none, .p .len, [.t 10]⟩,
    ⟨2, some 12, none, .p .mov, [.c (.int .i64 0)]⟩])
   (.block 0 (.loop g557_0)))
   (.seq (.reg 0 [⟨0, some 28, none, .e (.new (.lit 1)) [] [], []⟩,
    ⟨1, some 29, none, .e (.new (.lit 1)) [] [], []⟩,
    ⟨2, some 7, none, .e (.new (.alloc [.nils])) [] [], []⟩,
    ⟨3, some 6, none, .p .mov, [.t 28]⟩,
    ⟨4, none, none, .e (.store 1) [] [], [.t 7, .t 29]⟩])
   (.seq (.block 2 (.loop g557_1))
   (.seq (.reg 0 [⟨0, some 54, none, .p .mov, [.t 6]⟩,
    ⟨1, some 2, none, .p .mov, [.t 54]⟩])
   (.ret)))))),
  [.tmp 2]⟩
/- loop.example/g00641/impl.areSame -/
def g773 : GL.Fn := ⟨.seq (.reg 0 [⟨0, some 2, none, .l (.box 2 3), [.t 0]⟩,
    ⟨1, some 3, none, .l (.box 3 3), [.t 1]⟩,
    ⟨2, some 4, none, .p .mov, [.c (.bool false)]⟩])
   (.seq (.reg 0 [⟨0, some 5, none, .p (.faddr 1), [.t 2]⟩,
    ⟨1, some 6, none, .l (.load 2 false 1), [.t 5]⟩,
    ⟨2, some 7, none, .p (.faddr 1), [.t 3]⟩,
    ⟨3, some 8, none, .l (.load 3 false 1), [.t 7]⟩,
    ⟨4, some 9, none, .e .call [] [], [.f 386, .t 6, .t 8]⟩,
    ⟨5, some 10, none, .p .mov, [.t 9]⟩,
    ⟨6, some 11, some (10, true), .p (.faddr 2), [.t 2]⟩,
    ⟨7, some 12, some (10, true), .l (.load 2 false 1), [.t 11]⟩,
    ⟨8, some 13, some (10, true), .p (.faddr 2), [.t 3]⟩,
    ⟨9, some 14, some (10, true), .l (.load 3 false 1), [.t 13]⟩,
    ⟨10, some 15, some (10, true), .e .call [] [], [.f 386, .t 12, .t 14]⟩,
    ⟨11, some 16, none, .p .pick, [.t 10, .t 15, .c (.bool false)]⟩,
    ⟨12, some 4, none, .p .mov, [.t 16]⟩])
   (.ret)),
  [.tmp 4]⟩
/- loop.example/g00641/spec.GoodHouse -/
def g457 : GL.Fn := ⟨.seq (.reg 0 [⟨0, some 1, none, .l (.box 1 4), [.t 0]⟩,
    ⟨1, some 2, none, .p .mov, [.c (.bool false)]⟩])
   (.seq (.reg 0 [⟨0, some 6, none, .p (.faddr 0), [.t 1]⟩,
    ⟨1, some 7, none, .l (.load 1 true 3), [.t 6]⟩,
    ⟨2, some 8, none, .p (.faddr 3), [.t 1]⟩,
    ⟨3, some 9, none, .l (.load 1 false 1), [.t 8]⟩,
    ⟨4, some 10, none, .e .call [] [], [.f 463, .t 7, .t 9]⟩,
    ⟨5, some 5, none, .p .mov, [.t 10]⟩,
    ⟨6, some 11, none, .p (.extract 0), [.t 5]⟩,
    ⟨7, some 12, none, .p (.extract 1), [.t 5]⟩,
    ⟨8, some 3, none, .p .mov, [.t 11]⟩,
    ⟨9, some 4, none, .p .mov, [.t 12]⟩])
   (.seq (.reg 0 [⟨0, some 13, none, .p .mov, [.t 4]⟩,
    ⟨1, some 2, none, .p .mov, [.t 13]⟩])
   (.ret))),
  [.tmp 2]⟩
/- loop.example/g00641/spec.l17By -/
def g540_0 : GL.Code := .seq (.reg 0 [⟨0, some 24, none, .p (.bin .lss), [.t 23, .t 22]⟩])
   (.seq (.cond (.t 24) (.skip)
   (.exit 0))
   (.seq (.block 1 (.seq (.reg 0 [⟨0, some 25, none, .p .mov, [.t 23]⟩,
    ⟨1, some 6, none, .p .mov, [.t 25]⟩])
   (.reg 0 [⟨0, some 26, none, .p (.faddr 2), [.t 5]⟩,
    ⟨1, some 27, none, .l (.load 5 false 1), [.t 26]⟩,
    ⟨2, some 28, none, .p .mov, [.t 6]⟩,
    ⟨3, some 29, none, .p (.idx 1), [.t 27, .t 28]⟩,
    ⟨4, none, none, .e (.store 1) [] [], [.t 29, .c (.int .i64 (-1))]⟩])))
   (.reg 0 [⟨0, some 30, none, .p (.bin .add), [.t 23, .c (.int .i64 1)]⟩,
    ⟨1, some 23, none, .p .mov, [.t 30]⟩])))
def g540_1 : GL.Code := .seq (.reg 0 [⟨0, some 34, none, .p (.bin .lss), [.t 33, .t 32]⟩])
   (.seq (.cond (.t 34) (.skip)
   (.exit 2))
   (.seq (.block 3 (.seq (.reg 0 [⟨0, some 35, none, .p (.idx 1), [.t 31, .t 33]⟩,
    ⟨1, some 36, none, .r (.load false 1) false, [.t 35]⟩,
    ⟨2, some 8, none, .p .mov, [.t 36]⟩])
   (.seq (.reg 0 [⟨0, some 37, none, .p (.faddr 0), [.t 2]⟩,
    ⟨1, some 38, none, .p (.faddr 1), [.t 37]⟩,
    ⟨2, some 39, none, .l (.load 2 false 1), [.t 38]⟩,
    ⟨3, some 40, none, .p .mov, [.t 8]⟩,
    ⟨4, some 41, none, .p (.idx 2), [.t 39, .t 40]⟩,
    ⟨5, some 42, none, .r (.load true 2) false, [.t 41]⟩,
    ⟨6, some 9, none, .l (.alloc 9 [.int .i64 0, .bool false]), []⟩,
    ⟨7, none, none, .l (.store 9 2), [.t 9, .t 42]⟩])
   (.seq (.reg 0 [⟨0, some 43, none, .p (.faddr 2), [.t 5]⟩,
    ⟨1, some 44, none, .l (.load 5 false 1), [.t 43]⟩,
    ⟨2, some 45, none, .p .mov, [.t 8]⟩,
    ⟨3, some 46, none, .p (.faddr 1), [.t 5]⟩,
    ⟨4, some 47, none, .l (.load 5 false 1), [.t 46]⟩,
    ⟨5, some 48, none, .p (.faddr 0), [.t 9]⟩,
    ⟨6, some 49, none, .l (.load 9 false 1), [.t 48]⟩,
    ⟨7, some 50, none, .p (.idx 1), [.t 47, .t 49]⟩,
    ⟨8, some 51, none, .r (.load false 1) false, [.t 50]⟩,
    ⟨9, some 52, none, .p (.idx 1), [.t 44, .t 45]⟩,
    ⟨10, none, none, .e (.store 1) [] [], [.t 52, .t 51]⟩])
   (.seq (.reg 0 [⟨0, some 53, none, .p (.faddr 1), [.t 9]⟩,
    ⟨1, some 54, none, .l (.load 9 false 1), [.t 53]⟩])
   (.cond (.t 54) (.reg 0 [⟨0, some 55, none, .p (.faddr 1), [.t 5]⟩,
    ⟨1, some 56, none, .l (.load 5 false 1), [.t 55]⟩,
    ⟨2, some 57, none, .p (.faddr 0), [.t 9]⟩,
    ⟨3, some 58, none, .l (.load 9 false 1), [.t 57]⟩,
    ⟨4, some 59, none, .p (.faddr 1), [.t 5]⟩,
    ⟨5, some 60, none, .l (.load 5 false 1), [.t 59]⟩,
    ⟨6, some 61, none, .p (.faddr 0), [.t 9]⟩,
    ⟨7, some 62, none, .l (.load 9 false 1), [.t 61]⟩,
    ⟨8, some 63, none, .p (.idx 1), [.t 60, .t 62]⟩,
    ⟨9, some 64, none, .r (.load false 1) false, [.t 63]⟩,
    ⟨10, some 65, none, .p (.bin .mul), [.c (.int .i64 3), .t 64]⟩,
    ⟨11, some 66, none, .p .mov, [.t 8]⟩,
    ⟨12, some 67, none, .p (.bin .add), [.t 65, .t 66]⟩,
    ⟨13, some 68, none, .p (.bin .add), [.t 67, .c (.int .i64 1)]⟩,
    ⟨14, some 69, none, .p (.bin .rem), [.t 68, .c (.int .i64 1000)]⟩,
    ⟨15, some 70, none, .p (.idx 1), [.t 56, .t 58]⟩,
    ⟨16, none, none, .e (.store 1) [] [], [.t 70, .t 69]⟩])
   (.skip)))))))
   (.reg 0 [⟨0, some 71, none, .p (.bin .add), [.t 33, .c (.int .i64 1)]⟩,
    ⟨1, some 33, none, .p .mov, [.t 71]⟩])))
def g540 : GL.Fn := ⟨.seq (.reg 0 [⟨0, some 2, none, .l (.box 2 4), [.t 0]⟩,
    ⟨1, some 4, none, .l (.alloc 4 [.nils, .nils, .nils]), []⟩])
   (.seq (.reg 3 [⟨0, some 10, none, .m (.lit 1) 0, []⟩,
    ⟨1, some 11, none, .p .mov, [.t 1]⟩,
    ⟨2, some 12, none, .e (.append 1 8) [] [1, 2], [.t 10, .t 11]⟩,
    ⟨3, some 13, none, .m (.make 1 8 [.int .i64 0]) 1, [.c (.int .i64 10), .c (.int .i64 10)]⟩,
    ⟨4, some 14, none, .p (.faddr 0), [.t 2]⟩,
    ⟨5, some 15, none, .p (.faddr 1), [.t 14]⟩,
    ⟨6, some 16, none, .l (.load 2 false 1), [.t 15]⟩,
    ⟨7, some 17, none, .p .len, [.t 16]⟩,
    ⟨8, some 18, none, .m (.make 1 8 [.int .i64 0]) 2, [.t 17, .t 17]⟩,
    ⟨9, some 19, none, .p (.build [.nils, .nils, .nils] [(0, 1), (1, 1), (2, 1)]), [.t 12, .t 13, .t 18]⟩,
    ⟨10, some 5, none, .l (.alloc 5 [.nils, .nils, .nils]), []⟩,
    ⟨11, none, none, .l (.store 5 3), [.t 5, .t 19]⟩])
   (.seq (.seq (.reg 0 [⟨0, some 20, none, .p (.faddr 2), [.t 5]⟩,
    ⟨1, some 21, none, .l (.load 5 false 1), [.t 20]⟩,
    ⟨2, some 22, none, .p .len, [.t 21]⟩,
    ⟨3, some 23, none, .p .mov, [.c (.int .i64 0)]⟩])
   (.block 0 (.loop g540_0)))
   (.seq (.seq (.reg 0 [⟨0, some 31, none, .p .mov, [.t 1]⟩,
    ⟨1, some 32, none, .p .len, [.t 31]⟩,
    ⟨2, some 33, none, .p .mov, [.c (.int .i64 0)]⟩])
   (.block 2 (.loop g540_1)))
   (.seq (.reg 0 [⟨0, some 72, none, .l (.load 5 true 3), [.t 5]⟩,
    ⟨1, none, none, .l (.store 4 3), [.t 4, .t 72]⟩])
   (.ret))))),
  [.cellL 4 4 true 3]⟩
/- loop.example/g00641/spec.l14Order -/
def g573_0 : GL.Code := .seq (.reg 0 [⟨0, some 10, none, .p (.bin .lss), [.t 9, .t 8]⟩])
   (.seq (.cond (.t 10) (.skip)
   (.exit 0))
   (.seq (.block 1 (.seq (.reg 0 [⟨0, some 11, none, .p (.idx 1), [.t 7, .t 9]⟩,
    ⟨1, some 12, none, .r (.load false 1) false, [.t 11]⟩,
    ⟨2, some 5, none, .p .mov, [.t 12]⟩])
   (.reg 0 [⟨0, some 13, none, .p .mov, [.t 3]⟩,
    ⟨1, some 14, none, .p .mov, [.t 5]⟩,
    ⟨2, some 15, none, .e (.append 1 8) [] [], [.t 13, .t 14]⟩,
    ⟨3, some 3, none, .p .mov, [.t 15]⟩])))
   (.reg 0 [⟨0, some 16, none, .p (.bin .add), [.t 9, .c (.int .i64 1)]⟩,
    ⟨1, some 9, none, .p .mov, [.t 16]⟩])))
def g573 : GL.Fn := ⟨.seq (.reg 0 [⟨0, some 2, none, .p .mov, [.c (.nils)]⟩])
   (.seq (.reg 0 [⟨0, some 3, none, .p .mov, [.c (.nils)]⟩])
   (.seq (.seq (.reg 0 [⟨0, some 6, none, .p .mov, [.t 0]⟩,
    ⟨1, some 7, none, .e .call [] [], [.f 558, .t 6]⟩,
    ⟨2, some 8, none, .p .len, [.t 7]⟩,
    ⟨3, some 9, none, .p .mov, [.c (.int .i64 0)]⟩])
   (.block 0 (.loop g573_0)))
   (.seq (.reg 0 [⟨0, some 17, none, .p .mov, [.t 3]⟩,
    ⟨1, some 2, none, .p .mov, [.t 17]⟩])
   (.ret)))),
  [.tmp 2]⟩
/- loop.example/g00641/spec.l17Links -/
def g774 : GL.Fn := ⟨.seq (.reg 0 [⟨0, some 1, none, .l (.box 1 4), [.t 0]⟩,
    ⟨1, some 2, none, .p .mov, [.c (.nils)]⟩])
   (.seq (.reg 0 [⟨0, some 6, none, .p (.faddr 0), [.t 1]⟩,
    ⟨1, some 7, none, .l (.load 1 true 3), [.t 6]⟩,
    ⟨2, some 8, none, .p (.faddr 3), [.t 1]⟩,
    ⟨3, some 9, none, .l (.load 1 false 1), [.t 8]⟩,
    ⟨4, some 10, none, .e .call [] [], [.f 463, .t 7, .t 9]⟩,
    ⟨5, some 5, none, .p .mov, [.t 10]⟩,
    ⟨6, some 11, none, .p (.extract 0), [.t 5]⟩,
    ⟨7, some 12, none, .p (.extract 1), [.t 5]⟩,
    ⟨8, some 3, none, .p .mov, [.t 11]⟩,
    ⟨9, some 4, none, .p .mov, [.t 12]⟩])
   (.seq (.reg 0 [⟨0, some 13, none, .p .mov, [.t 3]⟩,
    ⟨1, some 2, none, .p .mov, [.t 13]⟩])
   (.ret))),
  [.tmp 2]⟩
/- loop.example/g00641/spec.l17Same -/
def g772 : GL.Fn := ⟨.seq (.reg 0 [⟨0, some 2, none, .l (.box 2 3), [.t 0]⟩,
    ⟨1, some 3, none, .l (.box 3 3), [.t 1]⟩,
    ⟨2, some 4, none, .p .mov, [.c (.bool false)]⟩])
   (.seq (.reg 0 [⟨0, some 5, none, .p (.faddr 1), [.t 2]⟩,
    ⟨1, some 6, none, .l (.load 2 false 1), [.t 5]⟩,
    ⟨2, some 7, none, .p (.faddr 1), [.t 3]⟩,
    ⟨3, some 8, none, .l (.load 3 false 1), [.t 7]⟩,
    ⟨4, some 9, none, .e .call [] [], [.f 356, .t 6, .t 8]⟩,
    ⟨5, some 10, none, .p .mov, [.t 9]⟩,
    ⟨6, some 11, some (10, true), .p (.faddr 2), [.t 2]⟩,
    ⟨7, some 12, some (10, true), .l (.load 2 false 1), [.t 11]⟩,
    ⟨8, some 13, some (10, true), .p (.faddr 2), [.t 3]⟩,
    ⟨9, some 14, some (10, true), .l (.load 3 false 1), [.t 13]⟩,
    ⟨10, some 15, some (10, true), .e .call [] [], [.f 356, .t 12, .t 14]⟩,
    ⟨11, some 16, none, .p .pick, [.t 10, .t 15, .c (.bool false)]⟩,
    ⟨12, some 4, none, .p .mov, [.t 16]⟩])
   (.ret)),
  [.tmp 4]⟩
/- loop.example/g00641/spec.l17So -/
def g771 : GL.Fn := ⟨.seq (.reg 0 [⟨0, some 3, none, .l (.box 3 4), [.t 0]⟩,
    ⟨1, some 6, none, .l (.alloc 6 [.nils, .nils, .nils]), []⟩])
   (.seq (.reg 0 [⟨0, some 10, none, .l (.load 3 true 4), [.t 3]⟩,
    ⟨2, some 12, none, .p (.faddr 0), [.t 3]⟩,
    ⟨3, some 13, none, .p (.faddr 2), [.t 12]⟩,
    ⟨4, some 14, none, .l (.load 3 false 1), [.t 13]⟩,
    ⟨5, some 15, none, .p .mov, [.t 1]⟩,
    ⟨6, some 16, none, .p (.idx 1), [.t 14, .t 15]⟩,
    ⟨7, some 17, none, .r (.load false 1) true, [.t 16]⟩,
    ⟨1, some 11, none, .e .call [7] [], [.f 774, .t 10]⟩,
    ⟨8, some 18, none, .p .mov, [.t 2]⟩,
    ⟨9, some 19, none, .p (.slice 1 false true false), [.t 17, .t 18]⟩,
    ⟨10, some 20, none, .e .call [] [], [.f 588, .t 11, .t 19]⟩,
    ⟨11, some 9, none, .p .mov, [.t 20]⟩,
    ⟨12, some 21, none, .p (.extract 0), [.t 9]⟩,
    ⟨13, some 22, none, .p (.extract 1), [.t 9]⟩,
    ⟨14, some 7, none, .p .mov, [.t 21]⟩,
    ⟨15, some 8, none, .p .mov, [.t 22]⟩])
   (.seq (.reg 0 [⟨0, some 23, none, .l (.load 3 true 4), [.t 3]⟩,
    ⟨1, some 24, none, .p .mov, [.t 7]⟩,
    ⟨2, some 25, none, .e .call [] [], [.f 540, .t 23, .t 24]⟩,
    ⟨3, none, none, .l (.store 6 3), [.t 6, .t 25]⟩])
   (.ret))),
  [.cellL 6 6 true 3]⟩
/- loop.example/g00641/impl.AllDeps -/
def g462_0 : GL.Code := .seq (.reg 0 [⟨0, some 24, none, .p (.bin .lss), [.t 23, .t 22]⟩])
   (.seq (.cond (.t 24) (.skip)
   (.exit 0))
   (.seq (.block 1 (.seq (.reg 0 [⟨0, some 25, none, .p .mov, [.t 23]⟩,
    ⟨1, some 26, none, .p (.idx 1), [.t 21, .t 23]⟩,
    ⟨2, some 27, none, .r (.load false 1) false, [.t 26]⟩,
    ⟨3, some 7, none, .p .mov, [.t 25]⟩,
    ⟨4, some 8, none, .p .mov, [.t 27]⟩])
   (.seq (.seq (.reg 0 [⟨0, some 28, none, .l (.load 2 true 3), [.t 2]⟩,
    ⟨1, some 29, none, .p .mov, [.t 8]⟩,
    ⟨2, some 30, none, .e .call [] [], [.f 525, .t 28, .t 29]⟩,
    ⟨3, some 31, none, .p (.un .not), [.t 30]⟩])
   (.cond (.t 31) (.seq (.reg 0 [⟨0, some 4, none, .p .mov, [.c (.nils)]⟩,
    ⟨1, some 5, none, .p .mov, [.c (.bool false)]⟩])
   (.ret))
   (.skip)))
   (.reg 0 [⟨0, some 32, none, .p .mov, [.t 6]⟩,
    ⟨1, some 33, none, .l (.load 2 true 3), [.t 2]⟩,
    ⟨2, some 34, none, .p .mov, [.t 7]⟩,
    ⟨3, some 35, none, .p .mov, [.t 8]⟩,
    ⟨4, some 36, none, .e .call [] [], [.f 526, .t 33, .t 34, .t 35]⟩,
    ⟨5, some 37, none, .e (.new (.lit 1)) [] [], [.t 36]⟩,
    ⟨6, some 38, none, .e (.append 1 24) [] [], [.t 32, .t 37]⟩,
    ⟨7, some 6, none, .p .mov, [.t 38]⟩]))))
   (.reg 0 [⟨0, some 39, none, .p (.bin .add), [.t 23, .c (.int .i64 1)]⟩,
    ⟨1, some 23, none, .p .mov, [.t 39]⟩])))
def g462 : GL.Fn := ⟨.seq (.reg 0 [⟨0, some 2, none, .l (.box 2 3), [.t 0]⟩,
    ⟨1, some 4, none, .p .mov, [.c (.nils)]⟩,
    ⟨2, some 5, none, .p .mov, [.c (.bool false)]⟩])
   (.seq (.seq (.reg 0 [⟨0, some 9, none, .l (.load 2 true 3), [.t 2]⟩,
    ⟨1, some 10, none, .e .call [] [], [.f 464, .t 9]⟩,
    ⟨2, some 11, none, .p (.un .not), [.t 10]⟩,
    ⟨3, some 12, none, .p .mov, [.t 11]⟩,
    ⟨4, some 13, some (12, false), .p .mov, [.t 1]⟩,
    ⟨5, some 14, some (12, false), .p .len, [.t 13]⟩,
    ⟨6, some 15, some (12, false), .p (.faddr 1), [.t 2]⟩,
    ⟨7, some 16, some (12, false), .l (.load 2 false 1), [.t 15]⟩,
    ⟨8, some 17, some (12, false), .p .len, [.t 16]⟩,
    ⟨9, some 18, some (12, false), .p (.bin .neq), [.t 14, .t 17]⟩,
    ⟨10, some 19, none, .p .pick, [.t 12, .c (.bool true), .t 18]⟩])
   (.cond (.t 19) (.seq (.reg 0 [⟨0, some 4, none, .p .mov, [.c (.nils)]⟩,
    ⟨1, some 5, none, .p .mov, [.c (.bool false)]⟩])
   (.ret))
   (.skip)))
   (.seq (.reg 0 [⟨0, some 20, none, .e (.new (.lit 1)) [] [], []⟩,
    ⟨1, some 6, none, .p .mov, [.t 20]⟩])
   (.seq (.seq (.reg 0 [⟨0, some 21, none, .p .mov, [.t 1]⟩,
    ⟨1, some 22, none, .p .len, [.t 21]⟩,
    ⟨2, some 23, none, .p .mov, [.c (.int .i64 0)]⟩])
   (.block 0 (.loop g462_0)))
   (.seq (.reg 0 [⟨0, some 40, none, .p .mov, [.t 6]⟩,
    ⟨1, some 4, none, .p .mov, [.t 40]⟩,
    ⟨2, some 5, none, .p .mov, [.c (.bool true)]⟩])
   (.ret))))),
  [.tmp 4, .tmp 5]⟩
/- loop.example/g00641/spec.AllDeps -/
def g463_0 : GL.Code := .seq (.reg 0 [⟨0, some 23, none, .p (.bin .lss), [.t 22, .t 21]⟩])
   (.seq (.cond (.t 23) (.skip)
   (.exit 0))
   (.seq (.block 1 (.seq (.reg 0 [⟨0, some 24, none, .p .mov, [.t 22]⟩,
    ⟨1, some 25, none, .p (.idx 1), [.t 20, .t 22]⟩,
    ⟨2, some 26, none, .r (.load false 1) false, [.t 25]⟩,
    ⟨3, some 7, none, .p .mov, [.t 24]⟩,
    ⟨4, some 8, none, .p .mov, [.t 26]⟩])
   (.seq (.seq (.reg 0 [⟨0, some 27, none, .l (.load 2 true 3), [.t 2]⟩,
    ⟨1, some 28, none, .p .mov, [.t 8]⟩,
    ⟨2, some 29, none, .e .call [] [], [.f 522, .t 27, .t 28]⟩,
    ⟨3, some 30, none, .p (.un .not), [.t 29]⟩])
   (.cond (.t 30) (.seq (.reg 0 [⟨0, some 4, none, .p .mov, [.c (.nils)]⟩,
    ⟨1, some 5, none, .p .mov, [.c (.bool false)]⟩])
   (.ret))
   (.skip)))
   (.reg 0 [⟨0, some 31, none, .p .mov, [.t 6]⟩,
    ⟨1, some 32, none, .l (.load 2 true 3), [.t 2]⟩,
    ⟨2, some 33, none, .p .mov, [.t 7]⟩,
    ⟨3, some 34, none, .p .mov, [.t 8]⟩,
    ⟨4, some 35, none, .e .call [] [], [.f 527, .t 32, .t 33, .t 34]⟩,
    ⟨5, some 36, none, .e (.new (.lit 1)) [] [], [.t 35]⟩,
    ⟨6, some 37, none, .e (.append 1 24) [] [], [.t 31, .t 36]⟩,
    ⟨7, some 6, none, .p .mov, [.t 37]⟩]))))
   (.reg 0 [⟨0, some 38, none, .p (.bin .add), [.t 22, .c (.int .i64 1)]⟩,
    ⟨1, some 22, none, .p .mov, [.t 38]⟩])))
def g463 : GL.Fn := ⟨.seq (.reg 0 [⟨0, some 2, none, .l (.box 2 3), [.t 0]⟩,
    ⟨1, some 4, none, .p .mov, [.c (.nils)]⟩,
    ⟨2, some 5, none, .p .mov, [.c (.bool false)]⟩])
   (.seq (.seq (.reg 0 [⟨0, some 9, none, .l (.load 2 true 3), [.t 2]⟩,
    ⟨1, some 10, none, .e .call [] [], [.f 465, .t 9]⟩,
    ⟨2, some 11, none, .p (.un .not), [.t 10]⟩,
    ⟨3, some 12, none, .p .mov, [.t 11]⟩,
    ⟨4, some 13, some (12, false), .p .mov, [.t 1]⟩,
    ⟨5, some 14, some (12, false), .p .len, [.t 13]⟩,
    ⟨6, some 15, some (12, false), .p (.faddr 1), [.t 2]⟩,
    ⟨7, some 16, some (12, false), .l (.load 2 false 1), [.t 15]⟩,
    ⟨8, some 17, some (12, false), .p .len, [.t 16]⟩,
    ⟨9, some 18, some (12, false), .p (.bin .neq), [.t 14, .t 17]⟩,
    ⟨10, some 19, none, .p .pick, [.t 12, .c (.bool true), .t 18]⟩])
   (.cond (.t 19) (.seq (.reg 0 [⟨0, some 4, none, .p .mov, [.c (.nils)]⟩,
    ⟨1, some 5, none, .p .mov, [.c (.bool false)]⟩])
   (.ret))
   (.skip)))
   (.seq (.reg 0 [⟨0, some 6, none, .p .mov, [.c (.nils)]⟩])
   (.seq (.seq (.reg 0 [⟨0, some 20, none, .p .mov, [.t 1]⟩,
    ⟨1, some 21, none, .p .len, [.t 20]⟩,
    ⟨2, some 22, none, .p .mov, [.c (.int .i64 0)]⟩])
   (.block 0 (.loop g463_0)))
   (.seq (.reg 0 [⟨0, some 39, none, .p .mov, [.t 6]⟩,
    ⟨1, some 4, none, .p .mov, [.t 39]⟩,
    ⟨2, some 5, none, .p .mov, [.c (.bool true)]⟩])
   (.ret))))),
  [.tmp 4, .tmp 5]⟩
/- loop.example/g00641/impl.areOnce -/
def g541 : GL.Fn := ⟨.seq (.reg 0 [⟨0, some 4, none, .p .mov, [.c (.bool false)]⟩])
   (.seq (.reg 0 [⟨0, some 5, none, .p .mov, [.t 0]⟩,
    ⟨1, some 6, none, .e .call [] [], [.f 406, .t 5]⟩,
    ⟨2, some 7, none, .e .call [] [], [.f 407, .t 6]⟩,
    ⟨3, some 8, none, .p .mov, [.t 1]⟩,
    ⟨4, some 9, none, .p (.bin .sub), [.t 8, .c (.int .i64 1)]⟩,
    ⟨5, some 10, none, .e .call [] [], [.f 385, .t 7, .c (.int .i64 0), .t 9]⟩,
    ⟨6, some 4, none, .p .mov, [.t 10]⟩])
   (.ret)),
  [.tmp 4]⟩
/- loop.example/g00641/impl.OutcomeSoFar -/
def g721 : GL.Fn := ⟨.seq (.reg 0 [⟨0, some 3, none, .l (.box 3 4), [.t 0]⟩,
    ⟨1, some 6, none, .l (.alloc 6 [.nils, .nils, .nils]), []⟩,
    ⟨2, some 7, none, .p .mov, [.c (.bool false)]⟩])
   (.seq (.reg 0 [⟨0, some 11, none, .l (.load 3 true 4), [.t 3]⟩,
    ⟨1, some 12, none, .e .call [] [], [.f 474, .t 11]⟩,
    ⟨2, some 10, none, .p .mov, [.t 12]⟩,
    ⟨3, some 13, none, .p (.extract 0), [.t 10]⟩,
    ⟨4, some 14, none, .p (.extract 1), [.t 10]⟩,
    ⟨5, some 8, none, .p .mov, [.t 13]⟩,
    ⟨6, some 9, none, .p .mov, [.t 14]⟩])
   (.seq (.seq (.reg 0 [⟨0, some 15, none, .p .mov, [.t 9]⟩,
    ⟨1, some 16, none, .p (.un .not), [.t 15]⟩,
    ⟨2, some 17, none, .p .mov, [.t 16]⟩,
    ⟨3, some 18, some (17, false), .p .mov, [.t 1]⟩,
    ⟨4, some 19, some (17, false), .p (.faddr 0), [.t 3]⟩,
    ⟨5, some 20, some (17, false), .p (.faddr 0), [.t 19]⟩,
    ⟨6, some 21, some (17, false), .l (.load 3 false 1), [.t 20]⟩,
    ⟨7, some 22, some (17, false), .p (.bin .sub), [.t 21, .c (.int .i64 1)]⟩,
    ⟨8, some 23, some (17, false), .e .call [] [], [.f 107, .t 18, .c (.int .i64 0), .t 22]⟩,
    ⟨9, some 24, some (17, false), .p (.un .not), [.t 23]⟩,
    ⟨10, some 25, none, .p .pick, [.t 17, .c (.bool true), .t 24]⟩,
    ⟨11, some 26, none, .p .mov, [.t 25]⟩,
    ⟨12, some 27, some (26, false), .p .mov, [.t 2]⟩,
    ⟨13, some 28, some (26, false), .p (.faddr 0), [.t 3]⟩,
    ⟨14, some 29, some (26, false), .p (.faddr 1), [.t 28]⟩,
    ⟨15, some 30, some (26, false), .l (.load 3 false 1), [.t 29]⟩,
    ⟨16, some 31, some (26, false), .p .len, [.t 30]⟩,
    ⟨17, some 32, some (26, false), .e .call [] [], [.f 107, .t 27, .c (.int .i64 0), .t 31]⟩,
    ⟨18, some 33, some (26, false), .p (.un .not), [.t 32]⟩,
    ⟨19, some 34, none, .p .pick, [.t 26, .c (.bool true), .t 33]⟩])
   (.cond (.t 34) (.seq (.reg 0 [⟨0, some 35, none, .p (.build [.nils, .nils, .nils] []), []⟩,
    ⟨1, none, none, .l (.store 6 3), [.t 6, .t 35]⟩,
    ⟨2, some 7, none, .p .mov, [.c (.bool false)]⟩])
   (.ret))
   (.skip)))
   (.seq (.reg 0 [⟨0, some 36, none, .l (.load 3 true 4), [.t 3]⟩,
    ⟨1, some 37, none, .p .mov, [.t 8]⟩,
    ⟨2, some 38, none, .p (.faddr 0), [.t 3]⟩,
    ⟨3, some 39, none, .p (.faddr 2), [.t 38]⟩,
    ⟨4, some 40, none, .l (.load 3 false 1), [.t 39]⟩,
    ⟨5, some 41, none, .p .mov, [.t 1]⟩,
    ⟨6, some 42, none, .p (.idx 1), [.t 40, .t 41]⟩,
    ⟨7, some 43, none, .r (.load false 1) false, [.t 42]⟩,
    ⟨8, some 44, none, .p .mov, [.t 2]⟩,
    ⟨9, some 45, none, .p (.slice 1 false true false), [.t 43, .t 44]⟩,
    ⟨10, some 46, none, .e .call [] [], [.f 604, .t 37, .t 45]⟩,
    ⟨11, some 47, none, .e .call [] [], [.f 542, .t 36, .t 46]⟩,
    ⟨12, none, none, .l (.store 6 3), [.t 6, .t 47]⟩,
    ⟨13, some 7, none, .p .mov, [.c (.bool true)]⟩])
   (.ret)))),
  [.cellL 6 6 true 3, .tmp 7]⟩
/- (*loop.example/g00641/spec.l1Cur).house -/
def g775_0 : GL.Code := .seq (.reg 0 [⟨0, some 12, none, .p (.bin .lss), [.t 11, .t 10]⟩])
   (.seq (.cond (.t 12) (.skip)
   (.exit 0))
   (.seq (.block 1 (.reg 0 [⟨0, some 13, none, .p (.faddr 3), [.t 3]⟩,
    ⟨1, some 14, none, .l (.load 3 false 1), [.t 13]⟩,
    ⟨2, some 15, none, .p .mov, [.t 0]⟩,
    ⟨3, some 16, none, .p (.faddr 0), [.t 3]⟩,
    ⟨4, some 17, none, .p (.faddr 0), [.t 16]⟩,
    ⟨5, some 18, none, .l (.load 3 false 1), [.t 17]⟩,
    ⟨6, some 19, none, .e .call [] [], [.f 529, .t 15, .t 18]⟩,
    ⟨7, some 20, none, .e (.new (.lit 1)) [] [], [.t 19]⟩,
    ⟨8, some 21, none, .e (.append 1 24) [] [], [.t 14, .t 20]⟩,
    ⟨9, some 22, none, .p (.faddr 3), [.t 3]⟩,
    ⟨10, none, none, .l (.store 3 1), [.t 22, .t 21]⟩]))
   (.reg 0 [⟨0, some 23, none, .p (.bin .add), [.t 11, .c (.int .i64 1)]⟩,
    ⟨1, some 11, none, .p .mov, [.t 23]⟩])))
def g775 : GL.Fn := ⟨.seq (.reg 0 [⟨0, some 2, none, .l (.alloc 2 [.int .i64 0, .nils, .nils, .nils]), []⟩])
   (.seq (.reg 0 [⟨0, some 4, none, .p .mov, [.t 0]⟩,
    ⟨1, some 5, none, .e .call [] [], [.f 528, .t 4]⟩,
    ⟨2, some 6, none, .p (.build [.int .i64 0, .nils, .nils, .nils] [(0, 3)]), [.t 5]⟩,
    ⟨3, some 3, none, .l (.alloc 3 [.int .i64 0, .nils, .nils, .nils]), []⟩,
    ⟨4, none, none, .l (.store 3 4), [.t 3, .t 6]⟩])
   (.seq (.seq (.reg 0 [⟨0, some 7, none, .p (.faddr 0), [.t 3]⟩,
    ⟨1, some 8, none, .p (.faddr 1), [.t 7]⟩,
    ⟨2, some 9, none, .l (.load 3 false 1), [.t 8]⟩,
    ⟨3, some 10, none, .p .len, [.t 9]⟩,
    ⟨4, some 11, none, .p .mov, [.c (.int .i64 0)]⟩])
   (.block 0 (.loop g775_0)))
   (.seq (.seq (.reg 0 [⟨0, some 24, none, .p (.faddr 3), [.t 3]⟩,
    ⟨1, some 25, none, .l (.load 3 false 1), [.t 24]⟩,
    ⟨2, some 26, none, .p .len, [.t 25]⟩,
    ⟨3, some 27, none, .p (.bin .gtr), [.t 26, .c (.int .i64 0)]⟩,
    ⟨4, some 28, none, .p .mov, [.t 27]⟩,
    ⟨5, some 29, some (28, true), .p .mov, [.t 0]⟩,
    ⟨6, some 30, some (28, true), .e .call [] [], [.f 92, .t 29, .c (.int .i64 30)]⟩,
    ⟨7, some 31, none, .p .pick, [.t 28, .t 30, .c (.bool false)]⟩])
   (.cond (.t 31) (.reg 0 [⟨0, some 32, none, .p (.faddr 3), [.t 3]⟩,
    ⟨1, some 33, none, .l (.load 3 false 1), [.t 32]⟩,
    ⟨2, some 34, none, .p (.slice 1 true false false), [.t 33, .c (.int .i64 1)]⟩,
    ⟨3, some 35, none, .p (.faddr 3), [.t 3]⟩,
    ⟨4, none, none, .l (.store 3 1), [.t 35, .t 34]⟩])
   (.skip)))
   (.seq (.reg 0 [⟨0, some 36, none, .l (.load 3 true 4), [.t 3]⟩,
    ⟨1, none, none, .l (.store 2 4), [.t 2, .t 36]⟩])
   (.ret))))),
  [.cellL 2 2 true 4]⟩
/- (*loop.example/g00641/spec.l1Cur).shuffled -/
def g567_0 : GL.Code := .seq (.seq (.reg 0 [⟨0, some 9, none, .p .mov, [.t 6]⟩,
    ⟨1, some 10, none, .p .mov, [.t 1]⟩,
    ⟨2, some 11, none, .p (.bin .lss), [.t 9, .t 10]⟩])
   (.cond (.t 11) (.skip)
   (.exit 0)))
   (.seq (.block 1 (.seq (.reg 0 [⟨0, some 14, none, .p .mov, [.t 0]⟩,
    ⟨1, some 15, none, .p .mov, [.t 5]⟩,
    ⟨2, some 16, none, .p .len, [.t 15]⟩,
    ⟨3, some 17, none, .p (.bin .add), [.t 16, .c (.int .i64 1)]⟩,
    ⟨4, some 18, none, .e .call [] [], [.f 91, .t 14, .t 17]⟩,
    ⟨5, some 7, none, .p .mov, [.t 18]⟩])
   (.seq (.reg 0 [⟨0, some 19, none, .e (.new (.lit 1)) [] [], []⟩,
    ⟨1, some 20, none, .p .mov, [.t 5]⟩,
    ⟨2, some 21, none, .p .mov, [.t 7]⟩,
    ⟨3, some 22, none, .p (.slice 1 false true false), [.t 20, .t 21]⟩,
    ⟨4, some 23, none, .e (.append 1 8) [] [], [.t 19, .t 22]⟩,
    ⟨5, some 8, none, .p .mov, [.t 23]⟩])
   (.seq (.reg 0 [⟨0, some 24, none, .p .mov, [.t 8]⟩,
    ⟨1, some 25, none, .p .mov, [.t 6]⟩,
    ⟨2, some 26, none, .e (.new (.lit 1)) [] [], [.t 25]⟩,
    ⟨3, some 27, none, .e (.append 1 8) [] [], [.t 24, .t 26]⟩,
    ⟨4, some 8, none, .p .mov, [.t 27]⟩])
   (.reg 0 [⟨0, some 28, none, .p .mov, [.t 8]⟩,
    ⟨1, some 29, none, .p .mov, [.t 5]⟩,
    ⟨2, some 30, none, .p .mov, [.t 7]⟩,
    ⟨3, some 31, none, .p (.slice 1 true false false), [.t 29, .t 30]⟩,
    ⟨4, some 32, none, .e (.append 1 8) [] [], [.t 28, .t 31]⟩,
    ⟨5, some 5, none, .p .mov, [.t 32]⟩])))))
   (.reg 0 [⟨0, some 12, none, .p .mov, [.t 6]⟩,
    ⟨1, some 13, none, .p (.bin .add), [.t 12, .c (.int .i64 1)]⟩,
    ⟨2, some 6, none, .p .mov, [.t 13]⟩]))
def g567 : GL.Fn := ⟨.seq (.reg 0 [⟨0, some 4, none, .p .mov, [.c (.nils)]⟩])
   (.seq (.reg 0 [⟨0, some 5, none, .p .mov, [.c (.nils)]⟩])
   (.seq (.seq (.reg 0 [⟨0, some 6, none, .p .mov, [.c (.int .i64 0)]⟩])
   (.block 0 (.loop g567_0)))
   (.seq (.reg 0 [⟨0, some 33, none, .p .mov, [.t 5]⟩,
    ⟨1, some 4, none, .p .mov, [.t 33]⟩])
   (.ret)))),
  [.tmp 4]⟩
/- (*loop.example/g00641/spec.l1Cur).one -/
def g92 : GL.Fn := ⟨.seq (.reg 0 [⟨0, some 4, none, .p .mov, [.c (.bool false)]⟩])
   (.seq (.reg 0 [⟨0, some 5, none, .p .mov, [.t 0]⟩,
    ⟨1, some 6, none, .p .mov, [.t 1]⟩,
    ⟨2, some 7, none, .e .call [] [], [.f 91, .t 5, .t 6]⟩,
    ⟨3, some 8, none, .p (.bin .eql), [.t 7, .c (.int .i64 0)]⟩,
    ⟨4, some 4, none, .p .mov, [.t 8]⟩])
   (.ret)),
  [.tmp 4]⟩
/- loop.example/g00641/spec.l14Once -/
def g539_0 : GL.Code := .seq (.reg 0 [⟨0, some 10, none, .p (.bin .lss), [.t 9, .t 8]⟩])
   (.seq (.cond (.t 10) (.skip)
   (.exit 0))
   (.seq (.block 1 (.seq (.reg 0 [⟨0, some 11, none, .p .mov, [.t 9]⟩,
    ⟨1, some 12, none, .p (.idx 1), [.t 7, .t 9]⟩,
    ⟨2, some 13, none, .r (.load false 1) false, [.t 12]⟩,
    ⟨3, some 5, none, .p .mov, [.t 11]⟩,
    ⟨4, some 6, none, .p .mov, [.t 13]⟩])
   (.seq (.reg 0 [⟨0, some 14, none, .p .mov, [.t 6]⟩,
    ⟨1, some 15, none, .p .mov, [.t 0]⟩,
    ⟨2, some 16, none, .p (.bin .sub), [.t 15, .c (.int .i64 1)]⟩,
    ⟨3, some 17, none, .e .call [] [], [.f 98, .t 14, .c (.int .i64 0), .t 16]⟩,
    ⟨4, some 18, none, .p (.un .not), [.t 17]⟩,
    ⟨5, some 19, none, .p .mov, [.t 18]⟩,
    ⟨6, some 20, some (19, false), .p .mov, [.t 1]⟩,
    ⟨7, some 21, some (19, false), .p .mov, [.t 5]⟩,
    ⟨8, some 22, some (19, false), .p (.slice 1 false true false), [.t 20, .t 21]⟩,
    ⟨9, some 23, some (19, false), .p .mov, [.t 6]⟩,
    ⟨10, some 24, some (19, false), .e .call [] [], [.f 302, .t 22, .t 23]⟩,
    ⟨11, some 25, none, .p .pick, [.t 19, .c (.bool true), .t 24]⟩])
   (.cond (.t 25) (.seq (.reg 0 [⟨0, some 4, none, .p .mov, [.c (.bool false)]⟩])
   (.ret))
   (.skip)))))
   (.reg 0 [⟨0, some 26, none, .p (.bin .add), [.t 9, .c (.int .i64 1)]⟩,
    ⟨1, some 9, none, .p .mov, [.t 26]⟩])))
def g539 : GL.Fn := ⟨.seq (.reg 0 [⟨0, some 4, none, .p .mov, [.c (.bool false)]⟩])
   (.seq (.seq (.reg 0 [⟨0, some 7, none, .p .mov, [.t 1]⟩,
    ⟨1, some 8, none, .p .len, [.t 7]⟩,
    ⟨2, some 9, none, .p .mov, [.c (.int .i64 0)]⟩])
   (.block 0 (.loop g539_0)))
   (.seq (.reg 0 [⟨0, some 4, none, .p .mov, [.c (.bool true)]⟩])
   (.ret))),
  [.tmp 4]⟩
/- loop.example/g00641/spec.DrawOutcomeAt -/
def g725 : GL.Fn := ⟨.seq (.reg 0 [⟨0, some 2, none, .l (.alloc 2 [.int .i64 0, .nils, .nils, .nils]), []⟩,
    ⟨1, some 3, none, .p .mov, [.c (.int .i64 0)]⟩])
   (.seq (.reg 0 [⟨0, some 6, none, .p .mov, [.t 0]⟩,
    ⟨1, some 7, none, .p (.build [.nils, .int .i64 0, .int .u64 0] [(0, 1)]), [.t 6]⟩,
    ⟨2, some 8, none, .e (.new (.box 3)) [] [], [.t 7]⟩,
    ⟨3, some 4, none, .p .mov, [.t 8]⟩])
   (.seq (.reg 0 [⟨0, some 9, none, .p .mov, [.t 4]⟩,
    ⟨1, some 10, none, .e .call [] [], [.f 775, .t 9]⟩,
    ⟨2, some 5, none, .l (.alloc 5 [.int .i64 0, .nils, .nils, .nils]), []⟩,
    ⟨3, none, none, .l (.store 5 4), [.t 5, .t 10]⟩])
   (.seq (.reg 0 [⟨0, some 11, none, .l (.load 5 true 4), [.t 5]⟩,
    ⟨1, some 12, none, .p .mov, [.t 4]⟩,
    ⟨2, some 13, none, .p (.faddr 0), [.t 5]⟩,
    ⟨3, some 14, none, .p (.faddr 0), [.t 13]⟩,
    ⟨4, some 15, none, .l (.load 5 false 1), [.t 14]⟩,
    ⟨5, some 16, none, .p (.bin .add), [.t 15, .c (.int .i64 1)]⟩,
    ⟨6, some 17, none, .e .call [] [], [.f 91, .t 12, .t 16]⟩,
    ⟨7, some 18, none, .p .mov, [.t 4]⟩,
    ⟨8, some 19, none, .e .call [] [], [.f 91, .t 18, .c (.int .i64 9)]⟩,
    ⟨9, some 20, none, .p (.bin .quo), [.t 19, .c (.int .i64 8)]⟩,
    ⟨10, some 21, none, .p (.bin .sub), [.t 17, .t 20]⟩,
    ⟨11, none, none, .l (.store 2 4), [.t 2, .t 11]⟩,
    ⟨12, some 3, none, .p .mov, [.t 21]⟩])
   (.ret)))),
  [.cellL 2 2 true 4, .tmp 3]⟩
/- (*loop.example/g00641/spec.l1Cur).pick -/
def g91 : GL.Fn := ⟨.seq (.reg 0 [⟨0, some 4, none, .p .mov, [.c (.int .i64 0)]⟩])
   (.seq (.seq (.reg 0 [⟨0, some 6, none, .p .mov, [.t 1]⟩,
    ⟨1, some 7, none, .p (.bin .leq), [.t 6, .c (.int .i64 1)]⟩])
   (.cond (.t 7) (.seq (.reg 0 [⟨0, some 4, none, .p .mov, [.c (.int .i64 0)]⟩])
   (.ret))
   (.skip)))
   (.seq (.reg 0 [⟨0, some 8, none, .p .mov, [.t 0]⟩,
    ⟨1, some 9, none, .e .call [] [], [.f 140, .t 8]⟩,
    ⟨2, some 5, none, .p .mov, [.t 9]⟩])
   (.seq (.seq (.reg 0 [⟨0, some 10, none, .p .mov, [.t 1]⟩,
    ⟨1, some 11, none, .p (.bin .gtr), [.t 10, .c (.int .i64 200)]⟩])
   (.cond (.t 11) (.reg 0 [⟨0, some 12, none, .p .mov, [.t 5]⟩,
    ⟨1, some 13, none, .p (.bin .mul), [.t 12, .c (.int .i64 256)]⟩,
    ⟨2, some 14, none, .p .mov, [.t 0]⟩,
    ⟨3, some 15, none, .e .call [] [], [.f 140, .t 14]⟩,
    ⟨4, some 16, none, .p (.bin .add), [.t 13, .t 15]⟩,
    ⟨5, some 5, none, .p .mov, [.t 16]⟩])
   (.skip)))
   (.seq (.reg 0 [⟨0, some 17, none, .p .mov, [.t 5]⟩,
    ⟨1, some 18, none, .p .mov, [.t 1]⟩,
    ⟨2, some 19, none, .p (.bin .rem), [.t 17, .t 18]⟩,
    ⟨3, some 4, none, .p .mov, [.t 19]⟩])
   (.ret))))),
  [.tmp 4]⟩
/- loop.example/g00641/spec.l17Place -/
def g770 : GL.Fn := ⟨.seq (.reg 0 [⟨0, some 2, none, .l (.box 2 4), [.t 0]⟩,
    ⟨1, some 4, none, .p .mov, [.c (.bool false)]⟩])
   (.seq (.reg 0 [⟨0, some 5, none, .l (.load 2 true 4), [.t 2]⟩,
    ⟨1, some 6, none, .e .call [] [], [.f 457, .t 5]⟩,
    ⟨2, some 7, none, .p .mov, [.t 6]⟩,
    ⟨3, some 8, some (7, true), .p .mov, [.t 1]⟩,
    ⟨4, some 9, some (7, true), .p (.faddr 0), [.t 2]⟩,
    ⟨5, some 10, some (7, true), .p (.faddr 0), [.t 9]⟩,
    ⟨6, some 11, some (7, true), .l (.load 2 false 1), [.t 10]⟩,
    ⟨7, some 12, some (7, true), .p (.bin .sub), [.t 11, .c (.int .i64 1)]⟩,
    ⟨8, some 13, some (7, true), .e .call [] [], [.f 98, .t 8, .c (.int .i64 0), .t 12]⟩,
    ⟨9, some 14, none, .p .pick, [.t 7, .t 13, .c (.bool false)]⟩,
    ⟨10, some 4, none, .p .mov, [.t 14]⟩])
   (.ret)),
  [.tmp 4]⟩
/- loop.example/g00641/impl.hasAll -/
def g552 : GL.Fn := ⟨.seq (.reg 0 [⟨0, some 2, none, .e (.new (.box 1)) [] [], [.t 0]⟩,
    ⟨1, some 4, none, .p .mov, [.c (.bool false)]⟩])
   (.seq (.reg 0 [⟨0, some 5, none, .p .mov, [.t 1]⟩,
    ⟨1, some 6, none, .p (.mkFn 572), [.t 2]⟩,
    ⟨2, some 7, none, .e .call [] [], [.f 304, .t 5, .t 6]⟩,
    ⟨3, some 8, none, .p (.un .not), [.t 7]⟩,
    ⟨4, some 4, none, .p .mov, [.t 8]⟩])
   (.ret)),
  [.tmp 4]⟩
/- loop.example/g00641/spec.l5Sub -/
def g554_0 : GL.Code := .seq (.reg 0 [⟨0, some 10, none, .p (.bin .lss), [.t 9, .t 8]⟩])
   (.seq (.cond (.t 10) (.skip)
   (.exit 0))
   (.seq (.block 1 (.seq (.reg 0 [⟨0, some 11, none, .p (.idx 1), [.t 7, .t 9]⟩,
    ⟨1, some 12, none, .r (.load false 1) false, [.t 11]⟩,
    ⟨2, some 6, none, .p .mov, [.t 12]⟩])
   (.seq (.reg 0 [⟨0, some 13, none, .p .mov, [.t 1]⟩,
    ⟨1, some 14, none, .p .mov, [.t 6]⟩,
    ⟨2, some 15, none, .e .call [] [], [.f 302, .t 13, .t 14]⟩,
    ⟨3, some 16, none, .p (.un .not), [.t 15]⟩])
   (.cond (.t 16) (.seq (.reg 0 [⟨0, some 4, none, .p .mov, [.c (.bool false)]⟩])
   (.ret))
   (.skip)))))
   (.reg 0 [⟨0, some 17, none, .p (.bin .add), [.t 9, .c (.int .i64 1)]⟩,
    ⟨1, some 9, none, .p .mov, [.t 17]⟩])))
def g554 : GL.Fn := ⟨.seq (.reg 0 [⟨0, some 4, none, .p .mov, [.c (.bool false)]⟩])
   (.seq (.seq (.reg 0 [⟨0, some 7, none, .p .mov, [.t 0]⟩,
    ⟨1, some 8, none, .p .len, [.t 7]⟩,
    ⟨2, some 9, none, .p .mov, [.c (.int .i64 0)]⟩])
   (.block 0 (.loop g554_0)))
   (.seq (.reg 0 [⟨0, some 4, none, .p .mov, [.c (.bool true)]⟩])
   (.ret))),
  [.tmp 4]⟩
/- loop.example/g00641/impl.GoodLinks -/
def g500 : GL.Fn := ⟨.seq (.reg 0 [⟨0, some 1, none, .e (.new (.box 1)) [] [], [.t 0]⟩,
    ⟨1, some 2, none, .p .mov, [.c (.bool false)]⟩])
   (.seq (.reg 0 [⟨0, some 3, none, .r (.load false 1) false, [.t 1]⟩,
    ⟨1, some 4, none, .p .len, [.t 3]⟩,
    ⟨2, some 5, none, .p (.bin .leq), [.t 4, .c (.int .i64 12)]⟩,
    ⟨3, some 6, none, .p .mov, [.t 5]⟩,
    ⟨4, some 7, some (6, true), .r (.load false 1) false, [.t 1]⟩,
    ⟨5, some 8, some (6, true), .p (.mkFn 559), [.t 1]⟩,
    ⟨6, some 9, some (6, true), .e .call [] [], [.f 335, .t 7, .t 8]⟩,
    ⟨7, some 10, some (6, true), .p (.un .not), [.t 9]⟩,
    ⟨8, some 11, none, .p .pick, [.t 6, .t 10, .c (.bool false)]⟩,
    ⟨9, some 2, none, .p .mov, [.t 11]⟩])
   (.ret)),
  [.tmp 2]⟩
/- loop.example/g00641/spec.l1In -/
def g98 : GL.Fn := ⟨.seq (.reg 0 [⟨0, some 6, none, .p .mov, [.c (.bool false)]⟩])
   (.seq (.reg 0 [⟨0, some 7, none, .p .mov, [.t 0]⟩,
    ⟨1, some 8, none, .p .mov, [.t 1]⟩,
    ⟨2, some 9, none, .p (.bin .geq), [.t 7, .t 8]⟩,
    ⟨3, some 10, none, .p .mov, [.t 9]⟩,
    ⟨4, some 11, some (10, true), .p .mov, [.t 0]⟩,
    ⟨5, some 12, some (10, true), .p .mov, [.t 2]⟩,
    ⟨6, some 13, some (10, true), .p (.bin .leq), [.t 11, .t 12]⟩,
    ⟨7, some 14, none, .p .pick, [.t 10, .t 13, .c (.bool false)]⟩,
    ⟨8, some 6, none, .p .mov, [.t 14]⟩])
   (.ret)),
  [.tmp 6]⟩
/- slices.Clone[[]int,int] -/
def g389 : GL.Fn := ⟨.seq (.reg 0 [⟨0, some 2, none, .p .mov, [.c (.nils)]⟩])
   (.seq (.seq (.reg 0 [⟨0, some 3, none, .p .mov, [.t 0]⟩,
    ⟨1, some 4, none, .p (.isNil false), [.t 3]⟩])
   (.cond (.t 4) (.seq (.reg 0 [⟨0, some 2, none, .p .mov, [.c (.nils)]⟩])
   (.ret))
   (.skip)))
   (.seq (.reg 0 [⟨0, some 5, none, .e (.new (.lit 1)) [] [], []⟩,
    ⟨1, some 6, none, .p .mov, [.t 0]⟩,
    ⟨2, some 7, none, .e (.append 1 8) [] [], [.t 5, .t 6]⟩,
    ⟨3, some 2, none, .p .mov, [.t 7]⟩])
   (.ret))),
  [.tmp 2]⟩
/- slices.Grow[[]int,int] -/
def g436 : GL.Fn := ⟨.seq (.reg 0 [⟨0, some 4, none, .p .mov, [.c (.nils)]⟩])
   (.seq (.seq (.reg 0 [⟨0, some 5, none, .p .mov, [.t 1]⟩,
    ⟨1, some 6, none, .p (.bin .lss), [.t 5, .c (.int .i64 0)]⟩])
   (.cond (.t 6) (.reg 0 [⟨0, some 7, none, .p .bad, []⟩,
    ⟨1, none, none, .p .bad, []⟩])
   (.skip)))
   (.seq (.seq (.reg 0 [⟨0, some 8, none, .p .mov, [.t 1]⟩,
    ⟨1, some 9, none, .p .mov, [.t 0]⟩,
    ⟨2, some 10, none, .p .cap, [.t 9]⟩,
    ⟨3, some 11, none, .p .mov, [.t 0]⟩,
    ⟨4, some 12, none, .p .len, [.t 11]⟩,
    ⟨5, some 13, none, .p (.bin .sub), [.t 10, .t 12]⟩,
    ⟨6, some 14, none, .p (.bin .sub), [.t 8, .t 13]⟩,
    ⟨7, some 1, none, .p .mov, [.t 14]⟩])
   (.seq (.reg 0 [⟨0, some 15, none, .p .mov, [.t 1]⟩,
    ⟨1, some 16, none, .p (.bin .gtr), [.t 15, .c (.int .i64 0)]⟩])
   (.cond (.t 16) (.reg 0 [⟨0, some 17, none, .p .mov, [.t 0]⟩,
    ⟨1, some 18, none, .p .mov, [.t 0]⟩,
    ⟨2, some 19, none, .p .cap, [.t 18]⟩,
    ⟨3, some 20, none, .p (.slice 1 false true false), [.t 17, .t 19]⟩,
    ⟨4, some 21, none, .p .mov, [.t 1]⟩,
    ⟨5, some 22, none, .e (.appendZ 1 8 [.int .i64 0]) [] [], [.t 20, .t 21]⟩,
    ⟨6, some 23, none, .p .mov, [.t 0]⟩,
    ⟨7, some 24, none, .p .len, [.t 23]⟩,
    ⟨8, some 25, none, .p (.slice 1 false true false), [.t 22, .t 24]⟩,
    ⟨9, some 0, none, .p .mov, [.t 25]⟩])
   (.skip))))
   (.seq (.reg 0 [⟨0, some 26, none, .p .mov, [.t 0]⟩,
    ⟨1, some 4, none, .p .mov, [.t 26]⟩])
   (.ret)))),
  [.tmp 4]⟩
/- loop.example/g00641/impl.group -/
def g560 : GL.Fn := ⟨.seq (.reg 0 [⟨0, some 2, none, .e (.new (.box 1)) [] [], [.t 0]⟩,
    ⟨1, some 3, none, .e (.new (.box 1)) [] [], [.t 1]⟩,
    ⟨2, some 4, none, .p .mov, [.c (.nils)]⟩])
   (.seq (.reg 0 [⟨0, some 5, none, .r (.load false 1) false, [.t 2]⟩,
    ⟨1, some 6, none, .r (.load false 1) false, [.t 3]⟩,
    ⟨2, some 7, none, .e .call [] [], [.f 545, .t 5, .t 6]⟩,
    ⟨3, some 8, none, .p (.mkFn 576), [.t 2, .t 3]⟩,
    ⟨4, some 9, none, .e .call [] [], [.f 397, .t 7, .t 8]⟩,
    ⟨5, some 4, none, .p .mov, [.t 9]⟩])
   (.ret)),
  [.tmp 4]⟩
/- slices.IndexFunc[[][]int,[]int] -/
def g395_0 : GL.Code := .seq (.reg 0 [⟨0, some 9, none, .p (.bin .lss), [.t 8, .t 7]⟩])
   (.seq (.cond (.t 9) (.skip)
   (.exit 0))
   (.seq (.block 1 (.seq (.reg 0 [⟨0, some 10, none, .p .mov, [.t 8]⟩,
    ⟨1, some 5, none, .p .mov, [.t 10]⟩])
   (.seq (.reg 0 [⟨0, some 11, none, .p .mov, [.t 1]⟩,
    ⟨1, some 12, none, .p .mov, [.t 0]⟩,
    ⟨2, some 13, none, .p .mov, [.t 5]⟩,
    ⟨3, some 14, none, .p (.idx 1), [.t 12, .t 13]⟩,
    ⟨4, some 15, none, .r (.load false 1) false, [.t 14]⟩,
    ⟨5, some 16, none, .e .call [] [], [.t 11, .t 15]⟩])
   (.cond (.t 16) (.seq (.reg 0 [⟨0, some 17, none, .p .mov, [.t 5]⟩,
    ⟨1, some 4, none, .p .mov, [.t 17]⟩])
   (.ret))
   (.skip)))))
   (.reg 0 [⟨0, some 18, none, .p (.bin .add), [.t 8, .c (.int .i64 1)]⟩,
    ⟨1, some 8, none, .p .mov, [.t 18]⟩])))
def g395 : GL.Fn := ⟨.seq (.reg 0 [⟨0, some 4, none, .p .mov, [.c (.int .i64 0)]⟩])
   (.seq (.seq (.reg 0 [⟨0, some 6, none, .p .mov, [.t 0]⟩,
    ⟨1, some 7, none, .p .len, [.t 6]⟩,
    ⟨2, some 8, none, .p .mov, [.c (.int .i64 0)]⟩])
   (.block 0 (.loop g395_0)))
   (.seq (.reg 0 [⟨0, some 4, none, .p .mov, [.c (.int .i64 (-1))]⟩])
   (.ret))),
  [.tmp 4]⟩
/- loop.example/g00641/impl.groups$1 -/
def g574 : GL.Fn := ⟨.seq (.reg 0 [⟨0, some 4, none, .p .mov, [.c (.bool false)]⟩])
   (.seq (.reg 0 [⟨0, some 5, none, .r (.load false 1) false, [.t 1]⟩,
    ⟨1, some 6, none, .p .mov, [.t 0]⟩,
    ⟨4, some 9, none, .r (.load false 1) true, [.t 2]⟩,
    ⟨5, some 10, none, .p .mov, [.t 0]⟩,
    ⟨6, some 11, none, .p (.idx 1), [.t 10, .c (.int .i64 0)]⟩,
    ⟨7, some 12, none, .r (.load false 1) true, [.t 11]⟩,
    ⟨2, some 7, none, .e (.new (.lit 1)) [4, 7] [], [.t 5, .t 6]⟩,
    ⟨3, some 8, none, .e .call [4, 7] [], [.f 429, .t 7]⟩,
    ⟨8, some 13, none, .e .call [] [], [.f 545, .t 9, .t 12]⟩,
    ⟨9, some 14, none, .e .call [] [], [.f 552, .t 8, .t 13]⟩,
    ⟨10, some 4, none, .p .mov, [.t 14]⟩])
   (.ret)),
  [.tmp 4]⟩
/- loop.example/g00641/impl.reach -/
def g545_0 : GL.Code := .seq (.reg 0 [⟨0, some 26, none, .p (.bin .lss), [.t 25, .t 24]⟩])
   (.seq (.cond (.t 26) (.skip)
   (.exit 2))
   (.seq (.block 3 (.seq (.reg 0 [⟨0, some 27, none, .p (.idx 1), [.t 23, .t 25]⟩,
    ⟨1, some 28, none, .r (.load false 1) false, [.t 27]⟩,
    ⟨2, some 8, none, .p .mov, [.t 28]⟩])
   (.seq (.reg 0 [⟨0, some 29, none, .p .mov, [.t 5]⟩,
    ⟨1, some 30, none, .p .mov, [.t 8]⟩,
    ⟨2, some 31, none, .e .call [] [], [.f 301, .t 29, .t 30]⟩,
    ⟨3, some 32, none, .p (.un .not), [.t 31]⟩])
   (.cond (.t 32) (.reg 0 [⟨0, some 33, none, .p .mov, [.t 5]⟩,
    ⟨1, some 34, none, .p .mov, [.t 8]⟩,
    ⟨2, some 35, none, .e (.new (.lit 1)) [] [], [.t 34]⟩,
    ⟨3, some 36, none, .e (.append 1 8) [] [], [.t 33, .t 35]⟩,
    ⟨4, some 5, none, .p .mov, [.t 36]⟩])
   (.skip)))))
   (.reg 0 [⟨0, some 37, none, .p (.bin .add), [.t 25, .c (.int .i64 1)]⟩,
    ⟨1, some 25, none, .p .mov, [.t 37]⟩])))
def g545_1 : GL.Code := .seq (.seq (.reg 0 [⟨0, some 11, none, .p .mov, [.t 6]⟩,
    ⟨1, some 12, none, .p .mov, [.t 5]⟩,
    ⟨2, some 13, none, .p .len, [.t 12]⟩,
    ⟨3, some 14, none, .p (.bin .lss), [.t 11, .t 13]⟩])
   (.cond (.t 14) (.skip)
   (.exit 0)))
   (.seq (.block 1 (.seq (.reg 0 [⟨0, some 17, none, .p .mov, [.t 0]⟩,
    ⟨1, some 18, none, .p .mov, [.t 5]⟩,
    ⟨2, some 19, none, .p .mov, [.t 6]⟩,
    ⟨3, some 20, none, .p (.idx 1), [.t 18, .t 19]⟩,
    ⟨4, some 21, none, .r (.load false 1) false, [.t 20]⟩,
    ⟨5, some 22, none, .p (.idx 1), [.t 17, .t 21]⟩,
    ⟨6, some 23, none, .r (.load false 1) false, [.t 22]⟩,
    ⟨7, some 24, none, .p .len, [.t 23]⟩,
    ⟨8, some 25, none, .p .mov, [.c (.int .i64 0)]⟩])
   (.block 2 (.loop g545_0))))
   (.reg 0 [⟨0, some 15, none, .p .mov, [.t 6]⟩,
    ⟨1, some 16, none, .p (.bin .add), [.t 15, .c (.int .i64 1)]⟩,
    ⟨2, some 6, none, .p .mov, [.t 16]⟩]))
def g545 : GL.Fn := ⟨.seq (.reg 0 [⟨0, some 4, none, .p .mov, [.c (.nils)]⟩])
   (.seq (.reg 0 [⟨0, some 9, none, .p .mov, [.t 1]⟩,
    ⟨1, some 10, none, .e (.new (.lit 1)) [] [], [.t 9]⟩,
    ⟨2, some 5, none, .p .mov, [.t 10]⟩])
   (.seq (.seq (.reg 0 [⟨0, some 6, none, .p .mov, [.c (.int .i64 0)]⟩])
   (.block 0 (.loop g545_1)))
   (.seq (.reg 0 [⟨0, some 38, none, .p .mov, [.t 5]⟩,
    ⟨1, some 39, none, .e .call [] [], [.f 340, .t 38]⟩])
   (.seq (.reg 0 [⟨0, some 40, none, .p .mov, [.t 5]⟩,
    ⟨1, some 4, none, .p .mov, [.t 40]⟩])
   (.ret))))),
  [.tmp 4]⟩
/- slices.Delete[[][]int,[]int] -/
def g575 : GL.Fn := ⟨.seq (.reg 0 [⟨0, some 6, none, .p .mov, [.c (.nils)]⟩])
   (.seq (.reg 0 [⟨0, some 8, none, .p .mov, [.t 0]⟩,
    ⟨1, some 9, none, .p .mov, [.t 1]⟩,
    ⟨2, some 10, none, .p .mov, [.t 2]⟩,
    ⟨3, some 11, none, .p .mov, [.t 0]⟩,
    ⟨4, some 12, none, .p .len, [.t 11]⟩,
    ⟨5, some 13, none, .p (.slice 1 true true true), [.t 8, .t 9, .t 10, .t 12]⟩])
   (.seq (.seq (.reg 0 [⟨0, some 14, none, .p .mov, [.t 1]⟩,
    ⟨1, some 15, none, .p .mov, [.t 2]⟩,
    ⟨2, some 16, none, .p (.bin .eql), [.t 14, .t 15]⟩])
   (.cond (.t 16) (.seq (.reg 0 [⟨0, some 17, none, .p .mov, [.t 0]⟩,
    ⟨1, some 6, none, .p .mov, [.t 17]⟩])
   (.ret))
   (.skip)))
   (.seq (.reg 0 [⟨0, some 18, none, .p .mov, [.t 0]⟩,
    ⟨1, some 19, none, .p .len, [.t 18]⟩,
    ⟨2, some 7, none, .p .mov, [.t 19]⟩])
   (.seq (.reg 0 [⟨0, some 20, none, .p .mov, [.t 0]⟩,
    ⟨1, some 21, none, .p .mov, [.t 1]⟩,
    ⟨2, some 22, none, .p (.slice 1 false true false), [.t 20, .t 21]⟩,
    ⟨3, some 23, none, .p .mov, [.t 0]⟩,
    ⟨4, some 24, none, .p .mov, [.t 2]⟩,
    ⟨5, some 25, none, .p (.slice 1 true false false), [.t 23, .t 24]⟩,
    ⟨6, some 26, none, .e (.append 1 24) [] [], [.t 22, .t 25]⟩,
    ⟨7, some 0, none, .p .mov, [.t 26]⟩])
   (.seq (.reg 0 [⟨0, some 27, none, .p .mov, [.t 0]⟩,
    ⟨1, some 28, none, .p .mov, [.t 0]⟩,
    ⟨2, some 29, none, .p .len, [.t 28]⟩,
    ⟨3, some 30, none, .p .mov, [.t 7]⟩,
    ⟨4, some 31, none, .r (.sliceX 1) false, [.t 27, .t 29, .t 30]⟩,
    ⟨5, none, none, .e (.clear 1 [.nils]) [] [], [.t 31]⟩])
   (.seq (.reg 0 [⟨0, some 32, none, .p .mov, [.t 0]⟩,
    ⟨1, some 6, none, .p .mov, [.t 32]⟩])
   (.ret))))))),
  [.tmp 6]⟩
/- slices.Equal[[]int,int] -/
def g386_0 : GL.Code := .seq (.reg 0 [⟨0, some 14, none, .p (.bin .lss), [.t 13, .t 12]⟩])
   (.seq (.cond (.t 14) (.skip)
   (.exit 0))
   (.seq (.block 1 (.seq (.reg 0 [⟨0, some 15, none, .p .mov, [.t 13]⟩,
    ⟨1, some 5, none, .p .mov, [.t 15]⟩])
   (.seq (.reg 0 [⟨0, some 16, none, .p .mov, [.t 0]⟩,
    ⟨1, some 17, none, .p .mov, [.t 5]⟩,
    ⟨2, some 18, none, .p (.idx 1), [.t 16, .t 17]⟩,
    ⟨3, some 19, none, .r (.load false 1) false, [.t 18]⟩,
    ⟨4, some 20, none, .p .mov, [.t 1]⟩,
    ⟨5, some 21, none, .p .mov, [.t 5]⟩,
    ⟨6, some 22, none, .p (.idx 1), [.t 20, .t 21]⟩,
    ⟨7, some 23, none, .r (.load false 1) false, [.t 22]⟩,
    ⟨8, some 24, none, .p (.bin .neq), [.t 19, .t 23]⟩])
   (.cond (.t 24) (.seq (.reg 0 [⟨0, some 4, none, .p .mov, [.c (.bool false)]⟩])
   (.ret))
   (.skip)))))
   (.reg 0 [⟨0, some 25, none, .p (.bin .add), [.t 13, .c (.int .i64 1)]⟩,
    ⟨1, some 13, none, .p .mov, [.t 25]⟩])))
def g386 : GL.Fn := ⟨.seq (.reg 0 [⟨0, some 4, none, .p .mov, [.c (.bool false)]⟩])
   (.seq (.seq (.reg 0 [⟨0, some 6, none, .p .mov, [.t 0]⟩,
    ⟨1, some 7, none, .p .len, [.t 6]⟩,
    ⟨2, some 8, none, .p .mov, [.t 1]⟩,
    ⟨3, some 9, none, .p .len, [.t 8]⟩,
    ⟨4, some 10, none, .p (.bin .neq), [.t 7, .t 9]⟩])
   (.cond (.t 10) (.seq (.reg 0 [⟨0, some 4, none, .p .mov, [.c (.bool false)]⟩])
   (.ret))
   (.skip)))
   (.seq (.seq (.reg 0 [⟨0, some 11, none, .p .mov, [.t 0]⟩,
    ⟨1, some 12, none, .p .len, [.t 11]⟩,
    ⟨2, some 13, none, .p .mov, [.c (.int .i64 0)]⟩])
   (.block 0 (.loop g386_0)))
   (.seq (.reg 0 [⟨0, some 4, none, .p .mov, [.c (.bool true)]⟩])
   (.ret)))),
  [.tmp 4]⟩
/- loop.example/g00641/spec.l9Groups -/
def g558_0 : GL.Code := .seq (.reg 0 [⟨0, some 33, none, .p (.bin .lss), [.t 32, .t 31]⟩])
   (.seq (.cond (.t 33) (.skip)
   (.exit 4))
   (.seq (.block 5 (.seq (.reg 0 [⟨0, some 34, none, .p (.idx 1), [.t 30, .t 32]⟩,
    ⟨1, some 35, none, .r (.load false 1) false, [.t 34]⟩,
    ⟨2, some 9, none, .p .mov, [.t 35]⟩])
   (.reg 0 [⟨0, some 36, none, .p .mov, [.t 7]⟩,
    ⟨1, some 37, none, .p .mov, [.t 36]⟩,
    ⟨2, some 38, some (37, true), .p .mov, [.t 4]⟩,
    ⟨3, some 39, some (37, true), .p .mov, [.t 9]⟩,
    ⟨4, some 40, some (37, true), .e .call [] [], [.f 302, .t 38, .t 39]⟩,
    ⟨5, some 41, some (37, true), .p .mov, [.t 40]⟩,
    ⟨6, some 42, some (41, false), .p .mov, [.t 6]⟩,
    ⟨7, some 43, some (41, false), .p .mov, [.t 9]⟩,
    ⟨8, some 44, some (41, false), .e .call [] [], [.f 302, .t 42, .t 43]⟩,
    ⟨9, some 45, some (37, true), .p .pick, [.t 41, .c (.bool true), .t 44]⟩,
    ⟨10, some 46, none, .p .pick, [.t 37, .t 45, .c (.bool false)]⟩,
    ⟨11, some 7, none, .p .mov, [.t 46]⟩])))
   (.reg 0 [⟨0, some 47, none, .p (.bin .add), [.t 32, .c (.int .i64 1)]⟩,
    ⟨1, some 32, none, .p .mov, [.t 47]⟩])))
def g558_1 : GL.Code := .seq (.reg 0 [⟨0, some 56, none, .p (.bin .lss), [.t 55, .t 54]⟩])
   (.seq (.cond (.t 56) (.skip)
   (.exit 6))
   (.seq (.block 7 (.seq (.reg 0 [⟨0, some 57, none, .p (.idx 1), [.t 53, .t 55]⟩,
    ⟨1, some 58, none, .r (.load false 1) false, [.t 57]⟩,
    ⟨2, some 11, none, .p .mov, [.t 58]⟩])
   (.reg 0 [⟨0, some 59, none, .p .mov, [.t 4]⟩,
    ⟨1, some 60, none, .p .mov, [.t 11]⟩,
    ⟨2, some 61, none, .e .call [] [], [.f 410, .t 59, .t 60]⟩,
    ⟨3, some 4, none, .p .mov, [.t 61]⟩])))
   (.reg 0 [⟨0, some 62, none, .p (.bin .add), [.t 55, .c (.int .i64 1)]⟩,
    ⟨1, some 55, none, .p .mov, [.t 62]⟩])))
def g558_2 : GL.Code := .seq (.reg 0 [⟨0, some 20, none, .p (.bin .lss), [.t 19, .t 18]⟩])
   (.seq (.cond (.t 20) (.skip)
   (.exit 2))
   (.seq (.block 3 (.seq (.reg 0 [⟨0, some 21, none, .p .mov, [.t 19]⟩,
    ⟨1, some 5, none, .p .mov, [.t 21]⟩])
   (.seq (.seq (.reg 0 [⟨0, some 22, none, .p .mov, [.t 4]⟩,
    ⟨1, some 23, none, .p .mov, [.t 5]⟩,
    ⟨2, some 24, none, .e .call [] [], [.f 302, .t 22, .t 23]⟩])
   (.cond (.t 24) (.exit 3)
   (.skip)))
   (.seq (.reg 0 [⟨0, some 25, none, .p .mov, [.t 0]⟩,
    ⟨1, some 26, none, .p .mov, [.t 5]⟩,
    ⟨2, some 27, none, .e .call [] [], [.f 562, .t 25, .t 26]⟩,
    ⟨3, some 6, none, .p .mov, [.t 27]⟩])
   (.seq (.reg 0 [⟨0, some 7, none, .p .mov, [.c (.bool true)]⟩])
   (.seq (.seq (.reg 0 [⟨0, some 28, none, .p .mov, [.t 0]⟩,
    ⟨1, some 29, none, .p .mov, [.t 5]⟩,
    ⟨2, some 30, none, .e .call [] [], [.f 547, .t 28, .t 29]⟩,
    ⟨3, some 31, none, .p .len, [.t 30]⟩,
    ⟨4, some 32, none, .p .mov, [.c (.int .i64 0)]⟩])
   (.block 4 (.loop g558_0)))
   (.seq (.reg 0 [⟨0, some 48, none, .p .mov, [.t 7]⟩])
   (.cond (.t 48) (.seq (.reg 0 [⟨0, some 49, none, .p .mov, [.t 3]⟩,
    ⟨1, some 50, none, .p .mov, [.t 6]⟩,
    ⟨2, some 51, none, .e (.new (.lit 1)) [] [], [.t 50]⟩,
    ⟨3, some 52, none, .e (.append 1 24) [] [], [.t 49, .t 51]⟩,
    ⟨4, some 3, none, .p .mov, [.t 52]⟩])
   (.seq (.seq (.reg 0 [⟨0, some 53, none, .p .mov, [.t 6]⟩,
    ⟨1, some 54, none, .p .len, [.t 53]⟩,
    ⟨2, some 55, none, .p .mov, [.c (.int .i64 0)]⟩])
   (.block 6 (.loop g558_1)))
   (.exit 2)))
   (.skip)))))))))
   (.reg 0 [⟨0, some 63, none, .p (.bin .add), [.t 19, .c (.int .i64 1)]⟩,
    ⟨1, some 19, none, .p .mov, [.t 63]⟩])))
def g558_3 : GL.Code := .seq (.seq (.reg 0 [⟨0, some 12, none, .p .mov, [.t 4]⟩,
    ⟨1, some 13, none, .p .len, [.t 12]⟩,
    ⟨2, some 14, none, .p .mov, [.t 0]⟩,
    ⟨3, some 15, none, .p .len, [.t 14]⟩,
    ⟨4, some 16, none, .p (.bin .lss), [.t 13, .t 15]⟩])
   (.cond (.t 16) (.skip)
   (.exit 0)))
   (.block 1 (.seq (.reg 0 [⟨0, some 17, none, .p .mov, [.t 0]⟩,
    ⟨1, some 18, none, .p .len, [.t 17]⟩,
    ⟨2, some 19, none, .p .mov, [.c (.int .i64 0)]⟩])
   (.block 2 (.loop g558_2))))
def g558 : GL.Fn := ⟨.seq (.reg 0 [⟨0, some 2, none, .p .mov, [.c (.nils)]⟩])
   (.seq (.reg 0 [⟨0, some 3, none, .p .mov, [.c (.nils)]⟩])
   (.seq (.reg 0 [⟨0, some 4, none, .p .mov, [.c (.nils)]⟩])
   (.seq (.block 0 (.loop g558_3))
   (.seq (.reg 0 [⟨0, some 64, none, .p .mov, [.t 3]⟩,
    ⟨1, some 2, none, .p .mov, [.t 64]⟩])
   (.ret))))),
  [.tmp 2]⟩
/- loop.example/g00641/spec.l1Same -/
def g356_0 : GL.Code := .seq (.reg 0 [⟨0, some 14, none, .p (.bin .lss), [.t 13, .t 12]⟩])
   (.seq (.cond (.t 14) (.skip)
   (.exit 0))
   (.seq (.block 1 (.seq (.reg 0 [⟨0, some 15, none, .p .mov, [.t 13]⟩,
    ⟨1, some 5, none, .p .mov, [.t 15]⟩])
   (.seq (.reg 0 [⟨0, some 16, none, .p .mov, [.t 0]⟩,
    ⟨1, some 17, none, .p .mov, [.t 5]⟩,
    ⟨2, some 18, none, .p (.idx 1), [.t 16, .t 17]⟩,
    ⟨3, some 19, none, .r (.load false 1) false, [.t 18]⟩,
    ⟨4, some 20, none, .p .mov, [.t 1]⟩,
    ⟨5, some 21, none, .p .mov, [.t 5]⟩,
    ⟨6, some 22, none, .p (.idx 1), [.t 20, .t 21]⟩,
    ⟨7, some 23, none, .r (.load false 1) false, [.t 22]⟩,
    ⟨8, some 24, none, .p (.bin .neq), [.t 19, .t 23]⟩])
   (.cond (.t 24) (.seq (.reg 0 [⟨0, some 4, none, .p .mov, [.c (.bool false)]⟩])
   (.ret))
   (.skip)))))
   (.reg 0 [⟨0, some 25, none, .p (.bin .add), [.t 13, .c (.int .i64 1)]⟩,
    ⟨1, some 13, none, .p .mov, [.t 25]⟩])))
def g356 : GL.Fn := ⟨.seq (.reg 0 [⟨0, some 4, none, .p .mov, [.c (.bool false)]⟩])
   (.seq (.seq (.reg 0 [⟨0, some 6, none, .p .mov, [.t 0]⟩,
    ⟨1, some 7, none, .p .len, [.t 6]⟩,
    ⟨2, some 8, none, .p .mov, [.t 1]⟩,
    ⟨3, some 9, none, .p .len, [.t 8]⟩,
    ⟨4, some 10, none, .p (.bin .neq), [.t 7, .t 9]⟩])
   (.cond (.t 10) (.seq (.reg 0 [⟨0, some 4, none, .p .mov, [.c (.bool false)]⟩])
   (.ret))
   (.skip)))
   (.seq (.seq (.reg 0 [⟨0, some 11, none, .p .mov, [.t 0]⟩,
    ⟨1, some 12, none, .p .len, [.t 11]⟩,
    ⟨2, some 13, none, .p .mov, [.c (.int .i64 0)]⟩])
   (.block 0 (.loop g356_0)))
   (.seq (.reg 0 [⟨0, some 4, none, .p .mov, [.c (.bool true)]⟩])
   (.ret)))),
  [.tmp 4]⟩
/- loop.example/g00641/spec.DoneBy -/
def g588_0 : GL.Code := .seq (.reg 0 [⟨0, some 23, none, .p (.bin .lss), [.t 22, .t 21]⟩])
   (.seq (.cond (.t 23) (.skip)
   (.exit 0))
   (.seq (.block 1 (.seq (.reg 0 [⟨0, some 24, none, .p (.idx 1), [.t 20, .t 22]⟩,
    ⟨1, some 25, none, .r (.load false 1) false, [.t 24]⟩,
    ⟨2, some 9, none, .p .mov, [.t 25]⟩])
   (.seq (.reg 0 [⟨0, some 26, none, .p .mov, [.t 6]⟩,
    ⟨1, some 27, none, .p .mov, [.t 9]⟩,
    ⟨2, some 28, none, .e .call [] [], [.f 410, .t 26, .t 27]⟩,
    ⟨3, some 6, none, .p .mov, [.t 28]⟩])
   (.reg 0 [⟨0, some 29, none, .p .mov, [.t 7]⟩,
    ⟨1, some 30, none, .p .mov, [.t 0]⟩,
    ⟨2, some 31, none, .p .mov, [.t 6]⟩,
    ⟨3, some 32, none, .p .mov, [.t 7]⟩,
    ⟨4, some 33, none, .e .call [] [], [.f 555, .t 30, .t 31, .t 32]⟩,
    ⟨5, some 34, none, .e (.append 1 8) [] [], [.t 29, .t 33]⟩,
    ⟨6, some 7, none, .p .mov, [.t 34]⟩]))))
   (.reg 0 [⟨0, some 35, none, .p (.bin .add), [.t 22, .c (.int .i64 1)]⟩,
    ⟨1, some 22, none, .p .mov, [.t 35]⟩])))
def g588 : GL.Fn := ⟨.seq (.reg 0 [⟨0, some 4, none, .p .mov, [.c (.nils)]⟩,
    ⟨1, some 5, none, .p .mov, [.c (.bool false)]⟩])
   (.seq (.seq (.reg 0 [⟨0, some 10, none, .p .mov, [.t 0]⟩,
    ⟨1, some 11, none, .e .call [] [], [.f 550, .t 10]⟩,
    ⟨2, some 12, none, .p (.un .not), [.t 11]⟩,
    ⟨3, some 13, none, .p .mov, [.t 12]⟩,
    ⟨4, some 14, some (13, false), .p .mov, [.t 0]⟩,
    ⟨5, some 15, some (13, false), .p .len, [.t 14]⟩,
    ⟨6, some 16, some (13, false), .p .mov, [.t 1]⟩,
    ⟨7, some 17, some (13, false), .e .call [] [], [.f 539, .t 15, .t 16]⟩,
    ⟨8, some 18, some (13, false), .p (.un .not), [.t 17]⟩,
    ⟨9, some 19, none, .p .pick, [.t 13, .c (.bool true), .t 18]⟩])
   (.cond (.t 19) (.seq (.reg 0 [⟨0, some 4, none, .p .mov, [.c (.nils)]⟩,
    ⟨1, some 5, none, .p .mov, [.c (.bool false)]⟩])
   (.ret))
   (.skip)))
   (.seq (.reg 0 [⟨0, some 6, none, .p .mov, [.c (.nils)]⟩,
    ⟨1, some 7, none, .p .mov, [.c (.nils)]⟩])
   (.seq (.seq (.reg 0 [⟨0, some 20, none, .p .mov, [.t 1]⟩,
    ⟨1, some 21, none, .p .len, [.t 20]⟩,
    ⟨2, some 22, none, .p .mov, [.c (.int .i64 0)]⟩])
   (.block 0 (.loop g588_0)))
   (.seq (.reg 0 [⟨0, some 36, none, .p .mov, [.t 7]⟩,
    ⟨1, some 4, none, .p .mov, [.t 36]⟩,
    ⟨2, some 5, none, .p .mov, [.c (.bool true)]⟩])
   (.ret))))),
  [.tmp 4, .tmp 5]⟩
/- loop.example/g00641/impl.GoodHeard -/
def g464 : GL.Fn := ⟨.seq (.reg 0 [⟨0, some 1, none, .l (.box 1 3), [.t 0]⟩,
    ⟨1, some 2, none, .p .mov, [.c (.bool false)]⟩])
   (.seq (.reg 0 [⟨0, some 4, none, .p (.faddr 1), [.t 1]⟩,
    ⟨1, some 5, none, .l (.load 1 false 1), [.t 4]⟩,
    ⟨2, some 6, none, .p .len, [.t 5]⟩,
    ⟨3, some 3, none, .e (.new (.alloc [.int .i64 0])) [] [], []⟩,
    ⟨4, none, none, .e (.store 1) [] [], [.t 3, .t 6]⟩])
   (.seq (.reg 0 [⟨0, some 7, none, .p (.faddr 0), [.t 1]⟩,
    ⟨1, some 8, none, .l (.load 1 false 1), [.t 7]⟩,
    ⟨2, some 9, none, .e .call [] [], [.f 318, .t 8]⟩,
    ⟨3, some 10, none, .p .mov, [.t 9]⟩,
    ⟨4, some 11, some (10, true), .r (.load false 1) false, [.t 3]⟩,
    ⟨5, some 12, some (10, true), .p (.bin .leq), [.t 11, .c (.int .i64 8)]⟩,
    ⟨6, some 13, none, .p .pick, [.t 10, .t 12, .c (.bool false)]⟩,
    ⟨7, some 14, none, .p .mov, [.t 13]⟩,
    ⟨8, some 15, some (14, true), .p (.faddr 2), [.t 1]⟩,
    ⟨9, some 16, some (14, true), .l (.load 1 false 1), [.t 15]⟩,
    ⟨10, some 17, some (14, true), .p .len, [.t 16]⟩,
    ⟨11, some 18, some (14, true), .p (.faddr 0), [.t 1]⟩,
    ⟨12, some 19, some (14, true), .l (.load 1 false 1), [.t 18]⟩,
    ⟨13, some 20, some (14, true), .p (.bin .eql), [.t 17, .t 19]⟩,
    ⟨14, some 21, none, .p .pick, [.t 14, .t 20, .c (.bool false)]⟩,
    ⟨15, some 22, none, .p .mov, [.t 21]⟩,
    ⟨16, some 23, some (22, true), .p (.faddr 1), [.t 1]⟩,
    ⟨17, some 24, some (22, true), .l (.load 1 false 1), [.t 23]⟩,
    ⟨18, some 25, some (22, true), .e .call [] [], [.f 530, .t 24, .f 531]⟩,
    ⟨19, some 26, some (22, true), .p (.un .not), [.t 25]⟩,
    ⟨20, some 27, none, .p .pick, [.t 22, .t 26, .c (.bool false)]⟩,
    ⟨21, some 28, none, .p .mov, [.t 27]⟩,
    ⟨22, some 29, some (28, true), .p (.faddr 2), [.t 1]⟩,
    ⟨23, some 30, some (28, true), .l (.load 1 false 1), [.t 29]⟩,
    ⟨24, some 31, some (28, true), .p (.mkFn 532), [.t 3]⟩,
    ⟨25, some 32, some (28, true), .e .call [] [], [.f 335, .t 30, .t 31]⟩,
    ⟨26, some 33, some (28, true), .p (.un .not), [.t 32]⟩,
    ⟨27, some 34, none, .p .pick, [.t 28, .t 33, .c (.bool false)]⟩,
    ⟨28, some 2, none, .p .mov, [.t 34]⟩])
   (.ret))),
  [.tmp 2]⟩
/- (loop.example/g00641/impl.Heard).isGroup -/
def g525 : GL.Fn := ⟨.seq (.reg 0 [⟨0, some 2, none, .l (.box 2 3), [.t 0]⟩,
    ⟨1, some 4, none, .p .mov, [.c (.bool false)]⟩])
   (.seq (.reg 0 [⟨0, some 5, none, .p (.faddr 0), [.t 2]⟩,
    ⟨1, some 6, none, .l (.load 2 false 1), [.t 5]⟩,
    ⟨2, some 7, none, .p .mov, [.t 1]⟩,
    ⟨3, some 8, none, .e .call [] [], [.f 314, .t 6, .t 7]⟩,
    ⟨4, some 9, none, .p .mov, [.t 8]⟩,
    ⟨5, some 10, some (9, true), .p .mov, [.t 1]⟩,
    ⟨6, some 11, some (9, true), .p .len, [.t 10]⟩,
    ⟨7, some 12, some (9, true), .p (.faddr 0), [.t 2]⟩,
    ⟨8, some 13, some (9, true), .l (.load 2 false 1), [.t 12]⟩,
    ⟨9, some 14, some (9, true), .e .call [] [], [.f 322, .t 13]⟩,
    ⟨10, some 15, some (9, true), .p (.bin .geq), [.t 11, .t 14]⟩,
    ⟨11, some 16, none, .p .pick, [.t 9, .t 15, .c (.bool false)]⟩,
    ⟨12, some 4, none, .p .mov, [.t 16]⟩])
   (.ret)),
  [.tmp 4]⟩
/- (loop.example/g00641/impl.Heard).allOf -/
def g526_0 : GL.Code := .seq (.reg 0 [⟨0, some 14, none, .p (.bin .lss), [.t 13, .t 12]⟩])
   (.seq (.cond (.t 14) (.skip)
   (.exit 0))
   (.seq (.block 1 (.seq (.reg 0 [⟨0, some 15, none, .p (.idx 1), [.t 11, .t 13]⟩,
    ⟨1, some 16, none, .r (.load false 1) false, [.t 15]⟩,
    ⟨2, some 9, none, .p .mov, [.t 16]⟩])
   (.reg 0 [⟨0, some 17, none, .p .mov, [.t 7]⟩,
    ⟨1, some 18, none, .l (.load 3 true 3), [.t 3]⟩,
    ⟨2, some 19, none, .p .mov, [.t 9]⟩,
    ⟨3, some 20, none, .p .mov, [.t 1]⟩,
    ⟨4, some 21, none, .e .call [] [], [.f 519, .t 18, .t 19, .t 20]⟩,
    ⟨5, some 22, none, .e .call [] [], [.f 412, .t 17, .t 21]⟩,
    ⟨6, some 7, none, .p .mov, [.t 22]⟩])))
   (.reg 0 [⟨0, some 23, none, .p (.bin .add), [.t 13, .c (.int .i64 1)]⟩,
    ⟨1, some 13, none, .p .mov, [.t 23]⟩])))
def g526 : GL.Fn := ⟨.seq (.reg 0 [⟨0, some 3, none, .l (.box 3 3), [.t 0]⟩,
    ⟨1, some 6, none, .p .mov, [.c (.nils)]⟩])
   (.seq (.reg 0 [⟨0, some 10, none, .e (.new (.lit 1)) [] [], []⟩,
    ⟨1, some 7, none, .p .mov, [.t 10]⟩])
   (.seq (.seq (.reg 0 [⟨0, some 11, none, .p .mov, [.t 2]⟩,
    ⟨1, some 12, none, .p .len, [.t 11]⟩,
    ⟨2, some 13, none, .p .mov, [.c (.int .i64 0)]⟩])
   (.block 0 (.loop g526_0)))
   (.seq (.reg 0 [⟨0, some 24, none, .p .mov, [.t 7]⟩,
    ⟨1, some 6, none, .p .mov, [.t 24]⟩])
   (.ret)))),
  [.tmp 6]⟩
/- loop.example/g00641/spec.GoodHeard -/
def g465_0 : GL.Code := .seq (.reg 0 [⟨0, some 32, none, .p (.bin .lss), [.t 31, .t 30]⟩])
   (.seq (.cond (.t 32) (.skip)
   (.exit 0))
   (.seq (.block 1 (.seq (.reg 0 [⟨0, some 33, none, .p (.idx 2), [.t 29, .t 31]⟩,
    ⟨1, some 34, none, .r (.load true 2) false, [.t 33]⟩,
    ⟨2, some 5, none, .l (.alloc 5 [.int .i64 0, .bool false]), []⟩,
    ⟨3, none, none, .l (.store 5 2), [.t 5, .t 34]⟩])
   (.seq (.reg 0 [⟨0, some 35, none, .l (.load 5 true 2), [.t 5]⟩,
    ⟨1, some 36, none, .e .call [] [], [.f 533, .t 35]⟩,
    ⟨2, some 37, none, .p (.un .not), [.t 36]⟩])
   (.cond (.t 37) (.seq (.reg 0 [⟨0, some 2, none, .p .mov, [.c (.bool false)]⟩])
   (.ret))
   (.skip)))))
   (.reg 0 [⟨0, some 38, none, .p (.bin .add), [.t 31, .c (.int .i64 1)]⟩,
    ⟨1, some 31, none, .p .mov, [.t 38]⟩])))
def g465_1 : GL.Code := .seq (.seq (.reg 0 [⟨0, some 57, none, .p .mov, [.t 8]⟩,
    ⟨1, some 58, none, .p .mov, [.t 3]⟩,
    ⟨2, some 59, none, .p (.bin .lss), [.t 57, .t 58]⟩])
   (.cond (.t 59) (.skip)
   (.exit 4)))
   (.seq (.block 5 (.seq (.reg 0 [⟨0, some 62, none, .p .mov, [.t 7]⟩,
    ⟨1, some 63, none, .p .mov, [.t 8]⟩,
    ⟨2, some 64, none, .e .call [] [], [.f 302, .t 62, .t 63]⟩,
    ⟨3, some 65, none, .p (.un .not), [.t 64]⟩])
   (.cond (.t 65) (.seq (.reg 0 [⟨0, some 2, none, .p .mov, [.c (.bool false)]⟩])
   (.ret))
   (.skip))))
   (.reg 0 [⟨0, some 60, none, .p .mov, [.t 8]⟩,
    ⟨1, some 61, none, .p (.bin .add), [.t 60, .c (.int .i64 1)]⟩,
    ⟨2, some 8, none, .p .mov, [.t 61]⟩]))
def g465_2 : GL.Code := .seq (.reg 0 [⟨0, some 43, none, .p (.bin .lss), [.t 42, .t 41]⟩])
   (.seq (.cond (.t 43) (.skip)
   (.exit 2))
   (.seq (.block 3 (.seq (.reg 0 [⟨0, some 44, none, .p (.idx 1), [.t 40, .t 42]⟩,
    ⟨1, some 45, none, .r (.load false 1) false, [.t 44]⟩,
    ⟨2, some 7, none, .p .mov, [.t 45]⟩])
   (.seq (.seq (.reg 0 [⟨0, some 46, none, .p .mov, [.t 7]⟩,
    ⟨1, some 47, none, .p .len, [.t 46]⟩,
    ⟨2, some 48, none, .p .mov, [.t 3]⟩,
    ⟨3, some 49, none, .p (.bin .neq), [.t 47, .t 48]⟩,
    ⟨4, some 50, none, .p .mov, [.t 49]⟩,
    ⟨5, some 51, some (50, false), .p .mov, [.t 7]⟩,
    ⟨6, some 52, some (50, false), .p .mov, [.t 3]⟩,
    ⟨7, some 53, some (50, false), .p (.bin .sub), [.t 52, .c (.int .i64 1)]⟩,
    ⟨8, some 54, some (50, false), .e .call [] [], [.f 94, .t 51, .c (.int .i64 0), .t 53]⟩,
    ⟨9, some 55, some (50, false), .p (.un .not), [.t 54]⟩,
    ⟨10, some 56, none, .p .pick, [.t 50, .c (.bool true), .t 55]⟩])
   (.cond (.t 56) (.seq (.reg 0 [⟨0, some 2, none, .p .mov, [.c (.bool false)]⟩])
   (.ret))
   (.skip)))
   (.seq (.reg 0 [⟨0, some 8, none, .p .mov, [.c (.int .i64 0)]⟩])
   (.block 4 (.loop g465_1))))))
   (.reg 0 [⟨0, some 66, none, .p (.bin .add), [.t 42, .c (.int .i64 1)]⟩,
    ⟨1, some 42, none, .p .mov, [.t 66]⟩])))
def g465 : GL.Fn := ⟨.seq (.reg 0 [⟨0, some 1, none, .l (.box 1 3), [.t 0]⟩,
    ⟨1, some 2, none, .p .mov, [.c (.bool false)]⟩])
   (.seq (.reg 0 [⟨0, some 9, none, .p (.faddr 1), [.t 1]⟩,
    ⟨1, some 10, none, .l (.load 1 false 1), [.t 9]⟩,
    ⟨2, some 11, none, .p .len, [.t 10]⟩,
    ⟨3, some 3, none, .p .mov, [.t 11]⟩])
   (.seq (.seq (.reg 0 [⟨0, some 12, none, .p (.faddr 0), [.t 1]⟩,
    ⟨1, some 13, none, .l (.load 1 false 1), [.t 12]⟩,
    ⟨2, some 14, none, .e .call [] [], [.f 321, .t 13]⟩,
    ⟨3, some 15, none, .p (.un .not), [.t 14]⟩,
    ⟨4, some 16, none, .p .mov, [.t 15]⟩,
    ⟨5, some 17, some (16, false), .p .mov, [.t 3]⟩,
    ⟨6, some 18, some (16, false), .p (.bin .gtr), [.t 17, .c (.int .i64 8)]⟩,
    ⟨7, some 19, none, .p .pick, [.t 16, .c (.bool true), .t 18]⟩,
    ⟨8, some 20, none, .p .mov, [.t 19]⟩,
    ⟨9, some 21, some (20, false), .p (.faddr 2), [.t 1]⟩,
    ⟨10, some 22, some (20, false), .l (.load 1 false 1), [.t 21]⟩,
    ⟨11, some 23, some (20, false), .p .len, [.t 22]⟩,
    ⟨12, some 24, some (20, false), .p (.faddr 0), [.t 1]⟩,
    ⟨13, some 25, some (20, false), .l (.load 1 false 1), [.t 24]⟩,
    ⟨14, some 26, some (20, false), .p (.bin .neq), [.t 23, .t 25]⟩,
    ⟨15, some 27, none, .p .pick, [.t 20, .c (.bool true), .t 26]⟩])
   (.cond (.t 27) (.seq (.reg 0 [⟨0, some 2, none, .p .mov, [.c (.bool false)]⟩])
   (.ret))
   (.skip)))
   (.seq (.seq (.reg 0 [⟨0, some 28, none, .p (.faddr 1), [.t 1]⟩,
    ⟨1, some 29, none, .l (.load 1 false 1), [.t 28]⟩,
    ⟨2, some 30, none, .p .len, [.t 29]⟩,
    ⟨3, some 31, none, .p .mov, [.c (.int .i64 0)]⟩])
   (.block 0 (.loop g465_0)))
   (.seq (.seq (.reg 0 [⟨0, some 39, none, .p (.faddr 2), [.t 1]⟩,
    ⟨1, some 40, none, .l (.load 1 false 1), [.t 39]⟩,
    ⟨2, some 41, none, .p .len, [.t 40]⟩,
    ⟨3, some 42, none, .p .mov, [.c (.int .i64 0)]⟩])
   (.block 2 (.loop g465_2)))
   (.seq (.reg 0 [⟨0, some 2, none, .p .mov, [.c (.bool true)]⟩])
   (.ret)))))),
  [.tmp 2]⟩
/- loop.example/g00641/spec.l13Group -/
def g522 : GL.Fn := ⟨.seq (.reg 0 [⟨0, some 2, none, .l (.box 2 3), [.t 0]⟩,
    ⟨1, some 4, none, .p .mov, [.c (.bool false)]⟩])
   (.seq (.reg 0 [⟨0, some 5, none, .p .mov, [.t 1]⟩,
    ⟨1, some 6, none, .p (.faddr 0), [.t 2]⟩,
    ⟨2, some 7, none, .l (.load 2 false 1), [.t 6]⟩,
    ⟨3, some 8, none, .p (.bin .sub), [.t 7, .c (.int .i64 1)]⟩,
    ⟨4, some 9, none, .e .call [] [], [.f 337, .t 5, .c (.int .i64 0), .t 8]⟩,
    ⟨5, some 10, none, .p .mov, [.t 9]⟩,
    ⟨6, some 11, some (10, true), .p .mov, [.t 1]⟩,
    ⟨7, some 12, some (10, true), .p .len, [.t 11]⟩,
    ⟨8, some 13, some (10, true), .p (.faddr 0), [.t 2]⟩,
    ⟨9, some 14, some (10, true), .l (.load 2 false 1), [.t 13]⟩,
    ⟨10, some 15, some (10, true), .e .call [] [], [.f 333, .t 14]⟩,
    ⟨11, some 16, some (10, true), .p (.bin .geq), [.t 12, .t 15]⟩,
    ⟨12, some 17, none, .p .pick, [.t 10, .t 16, .c (.bool false)]⟩,
    ⟨13, some 4, none, .p .mov, [.t 17]⟩])
   (.ret)),
  [.tmp 4]⟩
/- loop.example/g00641/spec.l13Of -/
def g527_0 : GL.Code := .seq (.reg 0 [⟨0, some 24, none, .p (.bin .lss), [.t 23, .t 22]⟩])
   (.seq (.cond (.t 24) (.skip)
   (.exit 2))
   (.seq (.block 3 (.seq (.reg 0 [⟨0, some 25, none, .p (.idx 1), [.t 21, .t 23]⟩,
    ⟨1, some 26, none, .r (.load false 1) false, [.t 25]⟩,
    ⟨2, some 11, none, .p .mov, [.t 26]⟩])
   (.reg 0 [⟨0, some 27, none, .p .mov, [.t 7]⟩,
    ⟨1, some 28, none, .p .mov, [.t 11]⟩,
    ⟨2, some 29, none, .e .call [] [], [.f 410, .t 27, .t 28]⟩,
    ⟨3, some 7, none, .p .mov, [.t 29]⟩])))
   (.reg 0 [⟨0, some 30, none, .p (.bin .add), [.t 23, .c (.int .i64 1)]⟩,
    ⟨1, some 23, none, .p .mov, [.t 30]⟩])))
def g527_1 : GL.Code := .seq (.reg 0 [⟨0, some 15, none, .p (.bin .lss), [.t 14, .t 13]⟩])
   (.seq (.cond (.t 15) (.skip)
   (.exit 0))
   (.seq (.block 1 (.seq (.reg 0 [⟨0, some 16, none, .p (.idx 1), [.t 12, .t 14]⟩,
    ⟨1, some 17, none, .r (.load false 1) false, [.t 16]⟩,
    ⟨2, some 9, none, .p .mov, [.t 17]⟩])
   (.seq (.reg 0 [⟨0, some 18, none, .l (.load 3 true 3), [.t 3]⟩,
    ⟨1, some 19, none, .p .mov, [.t 9]⟩,
    ⟨2, some 20, none, .p .mov, [.t 1]⟩,
    ⟨3, some 21, none, .e .call [] [], [.f 516, .t 18, .t 19, .t 20]⟩,
    ⟨4, some 22, none, .p .len, [.t 21]⟩,
    ⟨5, some 23, none, .p .mov, [.c (.int .i64 0)]⟩])
   (.block 2 (.loop g527_0)))))
   (.reg 0 [⟨0, some 31, none, .p (.bin .add), [.t 14, .c (.int .i64 1)]⟩,
    ⟨1, some 14, none, .p .mov, [.t 31]⟩])))
def g527 : GL.Fn := ⟨.seq (.reg 0 [⟨0, some 3, none, .l (.box 3 3), [.t 0]⟩,
    ⟨1, some 6, none, .p .mov, [.c (.nils)]⟩])
   (.seq (.reg 0 [⟨0, some 7, none, .p .mov, [.c (.nils)]⟩])
   (.seq (.seq (.reg 0 [⟨0, some 12, none, .p .mov, [.t 2]⟩,
    ⟨1, some 13, none, .p .len, [.t 12]⟩,
    ⟨2, some 14, none, .p .mov, [.c (.int .i64 0)]⟩])
   (.block 0 (.loop g527_1)))
   (.seq (.reg 0 [⟨0, some 32, none, .p .mov, [.t 7]⟩,
    ⟨1, some 6, none, .p .mov, [.t 32]⟩])
   (.ret)))),
  [.tmp 6]⟩
/- loop.example/g00641/impl.isRising -/
def g385_0 : GL.Code := .seq (.reg 0 [⟨0, some 12, none, .p (.bin .lss), [.t 11, .t 10]⟩])
   (.seq (.cond (.t 12) (.skip)
   (.exit 0))
   (.seq (.block 1 (.seq (.reg 0 [⟨0, some 13, none, .p .mov, [.t 11]⟩,
    ⟨1, some 14, none, .p (.idx 1), [.t 9, .t 11]⟩,
    ⟨2, some 15, none, .r (.load false 1) false, [.t 14]⟩,
    ⟨3, some 7, none, .p .mov, [.t 13]⟩,
    ⟨4, some 8, none, .p .mov, [.t 15]⟩])
   (.seq (.reg 0 [⟨0, some 16, none, .p .mov, [.t 8]⟩,
    ⟨1, some 17, none, .p .mov, [.t 1]⟩,
    ⟨2, some 18, none, .p .mov, [.t 2]⟩,
    ⟨3, some 19, none, .e .call [] [], [.f 107, .t 16, .t 17, .t 18]⟩,
    ⟨4, some 20, none, .p (.un .not), [.t 19]⟩,
    ⟨5, some 21, none, .p .mov, [.t 20]⟩,
    ⟨6, some 22, some (21, false), .p .mov, [.t 7]⟩,
    ⟨7, some 23, some (21, false), .p (.bin .gtr), [.t 22, .c (.int .i64 0)]⟩,
    ⟨8, some 24, some (21, false), .p .mov, [.t 23]⟩,
    ⟨9, some 25, some (24, true), .p .mov, [.t 0]⟩,
    ⟨10, some 26, some (24, true), .p .mov, [.t 7]⟩,
    ⟨11, some 27, some (24, true), .p (.bin .sub), [.t 26, .c (.int .i64 1)]⟩,
    ⟨12, some 28, some (24, true), .p (.idx 1), [.t 25, .t 27]⟩,
    ⟨13, some 29, some (24, true), .r (.load false 1) false, [.t 28]⟩,
    ⟨14, some 30, some (24, true), .p .mov, [.t 8]⟩,
    ⟨15, some 31, some (24, true), .p (.bin .geq), [.t 29, .t 30]⟩,
    ⟨16, some 32, some (21, false), .p .pick, [.t 24, .t 31, .c (.bool false)]⟩,
    ⟨17, some 33, none, .p .pick, [.t 21, .c (.bool true), .t 32]⟩])
   (.cond (.t 33) (.seq (.reg 0 [⟨0, some 6, none, .p .mov, [.c (.bool false)]⟩])
   (.ret))
   (.skip)))))
   (.reg 0 [⟨0, some 34, none, .p (.bin .add), [.t 11, .c (.int .i64 1)]⟩,
    ⟨1, some 11, none, .p .mov, [.t 34]⟩])))
def g385 : GL.Fn := ⟨.seq (.reg 0 [⟨0, some 6, none, .p .mov, [.c (.bool false)]⟩])
   (.seq (.seq (.reg 0 [⟨0, some 9, none, .p .mov, [.t 0]⟩,
    ⟨1, some 10, none, .p .len, [.t 9]⟩,
    ⟨2, some 11, none, .p .mov, [.c (.int .i64 0)]⟩])
   (.block 0 (.loop g385_0)))
   (.seq (.reg 0 [⟨0, some 6, none, .p .mov, [.c (.bool true)]⟩])
   (.ret))),
  [.tmp 6]⟩
/- loop.example/g00641/impl.within -/
def g107 : GL.Fn := ⟨.seq (.reg 0 [⟨0, some 6, none, .p .mov, [.c (.bool false)]⟩])
   (.seq (.reg 0 [⟨0, some 7, none, .p .mov, [.t 0]⟩,
    ⟨1, some 8, none, .p .mov, [.t 1]⟩,
    ⟨2, some 9, none, .p (.bin .geq), [.t 7, .t 8]⟩,
    ⟨3, some 10, none, .p .mov, [.t 9]⟩,
    ⟨4, some 11, some (10, true), .p .mov, [.t 0]⟩,
    ⟨5, some 12, some (10, true), .p .mov, [.t 2]⟩,
    ⟨6, some 13, some (10, true), .p (.bin .leq), [.t 11, .t 12]⟩,
    ⟨7, some 14, none, .p .pick, [.t 10, .t 13, .c (.bool false)]⟩,
    ⟨8, some 6, none, .p .mov, [.t 14]⟩])
   (.ret)),
  [.tmp 6]⟩
/- loop.example/g00641/impl.doneBy -/
def g604_0 : GL.Code := .seq (.reg 0 [⟨0, some 14, none, .p (.bin .lss), [.t 13, .t 12]⟩])
   (.seq (.cond (.t 14) (.skip)
   (.exit 0))
   (.seq (.block 1 (.seq (.reg 0 [⟨0, some 15, none, .p (.idx 1), [.t 11, .t 13]⟩,
    ⟨1, some 16, none, .r (.load false 1) false, [.t 15]⟩,
    ⟨2, some 8, none, .p .mov, [.t 16]⟩])
   (.seq (.reg 0 [⟨0, some 17, none, .p .mov, [.t 5]⟩,
    ⟨1, some 18, none, .p .mov, [.t 8]⟩,
    ⟨2, some 19, none, .e (.new (.lit 1)) [] [], [.t 18]⟩,
    ⟨3, some 20, none, .e .call [] [], [.f 412, .t 17, .t 19]⟩,
    ⟨4, some 5, none, .p .mov, [.t 20]⟩])
   (.reg 0 [⟨0, some 21, none, .p .mov, [.t 6]⟩,
    ⟨1, some 22, none, .p .mov, [.t 0]⟩,
    ⟨2, some 23, none, .p .mov, [.t 5]⟩,
    ⟨3, some 24, none, .p .mov, [.t 6]⟩,
    ⟨4, some 25, none, .e .call [] [], [.f 553, .t 22, .t 23, .t 24]⟩,
    ⟨5, some 26, none, .e (.append 1 8) [] [], [.t 21, .t 25]⟩,
    ⟨6, some 6, none, .p .mov, [.t 26]⟩]))))
   (.reg 0 [⟨0, some 27, none, .p (.bin .add), [.t 13, .c (.int .i64 1)]⟩,
    ⟨1, some 13, none, .p .mov, [.t 27]⟩])))
def g604 : GL.Fn := ⟨.seq (.reg 0 [⟨0, some 4, none, .p .mov, [.c (.nils)]⟩])
   (.seq (.reg 0 [⟨0, some 9, none, .e (.new (.lit 1)) [] [], []⟩,
    ⟨1, some 10, none, .e (.new (.lit 1)) [] [], []⟩,
    ⟨2, some 5, none, .p .mov, [.t 9]⟩,
    ⟨3, some 6, none, .p .mov, [.t 10]⟩])
   (.seq (.seq (.reg 0 [⟨0, some 11, none, .p .mov, [.t 1]⟩,
    ⟨1, some 12, none, .p .len, [.t 11]⟩,
    ⟨2, some 13, none, .p .mov, [.c (.int .i64 0)]⟩])
   (.block 0 (.loop g604_0)))
   (.seq (.reg 0 [⟨0, some 28, none, .p .mov, [.t 6]⟩,
    ⟨1, some 4, none, .p .mov, [.t 28]⟩])
   (.ret)))),
  [.tmp 4]⟩
/- (*loop.example/g00641/spec.l1Cur).heard -/
def g528_0 : GL.Code := .seq (.seq (.reg 0 [⟨0, some 20, none, .p .mov, [.t 5]⟩,
    ⟨1, some 21, none, .p .mov, [.t 4]⟩,
    ⟨2, some 22, none, .p (.bin .lss), [.t 20, .t 21]⟩])
   (.cond (.t 22) (.skip)
   (.exit 0)))
   (.seq (.block 1 (.reg 0 [⟨0, some 25, none, .p (.faddr 1), [.t 3]⟩,
    ⟨1, some 26, none, .l (.load 3 false 1), [.t 25]⟩,
    ⟨2, some 27, none, .p .mov, [.t 0]⟩,
    ⟨3, some 28, none, .e .call [] [], [.f 91, .t 27, .c (.int .i64 3)]⟩,
    ⟨4, some 29, none, .p .mov, [.t 0]⟩,
    ⟨5, some 30, none, .e .call [] [], [.f 92, .t 29, .c (.int .i64 2)]⟩,
    ⟨6, some 31, none, .p (.build [.int .i64 0, .bool false] [(0, 1), (1, 1)]), [.t 28, .t 30]⟩,
    ⟨7, some 32, none, .e (.new (.lit 2)) [] [], [.t 31]⟩,
    ⟨8, some 33, none, .e (.append 2 16) [] [], [.t 26, .t 32]⟩,
    ⟨9, some 34, none, .p (.faddr 1), [.t 3]⟩,
    ⟨10, none, none, .l (.store 3 1), [.t 34, .t 33]⟩]))
   (.reg 0 [⟨0, some 23, none, .p .mov, [.t 5]⟩,
    ⟨1, some 24, none, .p (.bin .add), [.t 23, .c (.int .i64 1)]⟩,
    ⟨2, some 5, none, .p .mov, [.t 24]⟩]))
def g528_1 : GL.Code := .seq (.seq (.reg 0 [⟨0, some 38, none, .p .mov, [.t 7]⟩,
    ⟨1, some 39, none, .p (.faddr 0), [.t 3]⟩,
    ⟨2, some 40, none, .l (.load 3 false 1), [.t 39]⟩,
    ⟨3, some 41, none, .p (.bin .lss), [.t 38, .t 40]⟩])
   (.cond (.t 41) (.skip)
   (.exit 2)))
   (.seq (.block 3 (.seq (.reg 0 [⟨0, some 44, none, .e (.new (.lit 1)) [] [], []⟩,
    ⟨1, some 45, none, .p .mov, [.t 6]⟩,
    ⟨2, some 46, none, .e (.append 1 8) [] [], [.t 44, .t 45]⟩,
    ⟨3, some 8, none, .p .mov, [.t 46]⟩])
   (.seq (.seq (.reg 0 [⟨0, some 47, none, .p .mov, [.t 0]⟩,
    ⟨1, some 48, none, .e .call [] [], [.f 92, .t 47, .c (.int .i64 3)]⟩,
    ⟨2, some 49, none, .p (.un .not), [.t 48]⟩])
   (.cond (.t 49) (.reg 0 [⟨0, some 50, none, .p .mov, [.t 0]⟩,
    ⟨1, some 51, none, .p .mov, [.t 4]⟩,
    ⟨2, some 52, none, .e .call [] [], [.f 567, .t 50, .t 51]⟩,
    ⟨3, some 8, none, .p .mov, [.t 52]⟩])
   (.skip)))
   (.reg 0 [⟨0, some 53, none, .p (.faddr 2), [.t 3]⟩,
    ⟨1, some 54, none, .l (.load 3 false 1), [.t 53]⟩,
    ⟨2, some 55, none, .p .mov, [.t 8]⟩,
    ⟨3, some 56, none, .e (.new (.lit 1)) [] [], [.t 55]⟩,
    ⟨4, some 57, none, .e (.append 1 24) [] [], [.t 54, .t 56]⟩,
    ⟨5, some 58, none, .p (.faddr 2), [.t 3]⟩,
    ⟨6, none, none, .l (.store 3 1), [.t 58, .t 57]⟩]))))
   (.reg 0 [⟨0, some 42, none, .p .mov, [.t 7]⟩,
    ⟨1, some 43, none, .p (.bin .add), [.t 42, .c (.int .i64 1)]⟩,
    ⟨2, some 7, none, .p .mov, [.t 43]⟩]))
def g528 : GL.Fn := ⟨.seq (.reg 0 [⟨0, some 2, none, .l (.alloc 2 [.int .i64 0, .nils, .nils]), []⟩])
   (.seq (.reg 0 [⟨0, some 9, none, .p .mov, [.t 0]⟩,
    ⟨1, some 10, none, .e (.new (.lit 1)) [] [], [.c (.int .i64 3), .c (.int .i64 3), .c (.int .i64 5)]⟩,
    ⟨2, some 11, none, .e .call [] [], [.f 93, .t 9, .t 10]⟩,
    ⟨3, some 12, none, .p (.build [.int .i64 0, .nils, .nils] [(0, 1)]), [.t 11]⟩,
    ⟨4, some 3, none, .l (.alloc 3 [.int .i64 0, .nils, .nils]), []⟩,
    ⟨5, none, none, .l (.store 3 3), [.t 3, .t 12]⟩])
   (.seq (.reg 0 [⟨0, some 13, none, .p .mov, [.t 0]⟩,
    ⟨1, some 14, none, .e .call [] [], [.f 91, .t 13, .c (.int .i64 7)]⟩,
    ⟨2, some 4, none, .p .mov, [.t 14]⟩])
   (.seq (.seq (.reg 0 [⟨0, some 15, none, .p .mov, [.t 0]⟩,
    ⟨1, some 16, none, .e .call [] [], [.f 92, .t 15, .c (.int .i64 20)]⟩])
   (.cond (.t 16) (.reg 0 [⟨0, some 17, none, .p .mov, [.t 0]⟩,
    ⟨1, some 18, none, .e .call [] [], [.f 91, .t 17, .c (.int .i64 2)]⟩,
    ⟨2, some 19, none, .p (.bin .add), [.c (.int .i64 8), .t 18]⟩,
    ⟨3, some 4, none, .p .mov, [.t 19]⟩])
   (.skip)))
   (.seq (.seq (.reg 0 [⟨0, some 5, none, .p .mov, [.c (.int .i64 0)]⟩])
   (.block 0 (.loop g528_0)))
   (.seq (.reg 0 [⟨0, some 35, none, .p .mov, [.t 0]⟩,
    ⟨1, some 36, none, .p .mov, [.t 4]⟩,
    ⟨2, some 37, none, .e .call [] [], [.f 567, .t 35, .t 36]⟩,
    ⟨3, some 6, none, .p .mov, [.t 37]⟩])
   (.seq (.seq (.reg 0 [⟨0, some 7, none, .p .mov, [.c (.int .i64 0)]⟩])
   (.block 2 (.loop g528_1)))
   (.seq (.seq (.reg 0 [⟨0, some 59, none, .p .mov, [.t 4]⟩,
    ⟨1, some 60, none, .p (.bin .gtr), [.t 59, .c (.int .i64 0)]⟩,
    ⟨2, some 61, none, .p .mov, [.t 60]⟩,
    ⟨3, some 62, some (61, true), .p .mov, [.t 0]⟩,
    ⟨4, some 63, some (61, true), .e .call [] [], [.f 92, .t 62, .c (.int .i64 30)]⟩,
    ⟨5, some 64, none, .p .pick, [.t 61, .t 63, .c (.bool false)]⟩])
   (.cond (.t 64) (.reg 0 [⟨0, some 65, none, .p (.faddr 2), [.t 3]⟩,
    ⟨1, some 66, none, .l (.load 3 false 1), [.t 65]⟩,
    ⟨2, some 67, none, .p (.idx 1), [.t 66, .c (.int .i64 0)]⟩,
    ⟨3, some 68, none, .r (.load false 1) true, [.t 67]⟩,
    ⟨4, some 69, none, .p .mov, [.t 0]⟩,
    ⟨5, some 70, none, .p .mov, [.t 4]⟩,
    ⟨6, some 71, none, .p (.bin .add), [.t 70, .c (.int .i64 2)]⟩,
    ⟨7, some 72, none, .e .call [3] [], [.f 91, .t 69, .t 71]⟩,
    ⟨8, some 73, none, .p (.bin .sub), [.t 72, .c (.int .i64 1)]⟩,
    ⟨9, some 74, none, .p (.idx 1), [.t 68, .c (.int .i64 0)]⟩,
    ⟨10, none, none, .e (.store 1) [] [], [.t 74, .t 73]⟩])
   (.skip)))
   (.seq (.reg 0 [⟨0, some 75, none, .l (.load 3 true 3), [.t 3]⟩,
    ⟨1, none, none, .l (.store 2 3), [.t 2, .t 75]⟩])
   (.ret))))))))),
  [.cellL 2 2 true 3]⟩
/- (*loop.example/g00641/spec.l1Cur).group -/
def g529 : GL.Fn := ⟨.seq (.reg 0 [⟨0, some 4, none, .p .mov, [.c (.nils)]⟩])
   (.seq (.reg 0 [⟨0, some 8, none, .p .mov, [.t 1]⟩,
    ⟨1, some 9, none, .p .mov, [.t 1]⟩,
    ⟨2, some 10, none, .p (.bin .quo), [.t 9, .c (.int .i64 2)]⟩,
    ⟨3, some 11, none, .p (.bin .add), [.t 10, .c (.int .i64 1)]⟩,
    ⟨4, some 12, none, .p .mov, [.t 0]⟩,
    ⟨5, some 13, none, .p .mov, [.t 1]⟩,
    ⟨6, some 14, none, .p (.bin .quo), [.t 13, .c (.int .i64 2)]⟩,
    ⟨7, some 15, none, .p (.bin .add), [.t 14, .c (.int .i64 1)]⟩,
    ⟨8, some 16, none, .e .call [] [], [.f 91, .t 12, .t 15]⟩,
    ⟨9, some 17, none, .p (.bin .add), [.t 11, .t 16]⟩,
    ⟨10, some 18, none, .p .mov, [.t 0]⟩,
    ⟨11, some 19, none, .p .mov, [.t 1]⟩,
    ⟨12, some 20, none, .e .call [] [], [.f 91, .t 18, .t 19]⟩,
    ⟨13, some 21, none, .e .call [] [], [.f 568, .t 8, .t 17, .t 20]⟩,
    ⟨14, some 7, none, .p .mov, [.t 21]⟩,
    ⟨15, some 22, none, .p (.extract 0), [.t 7]⟩,
    ⟨16, some 23, none, .p (.extract 1), [.t 7]⟩,
    ⟨17, some 5, none, .p .mov, [.t 22]⟩,
    ⟨18, some 6, none, .p .mov, [.t 23]⟩])
   (.seq (.reg 0 [⟨0, some 24, none, .p .mov, [.t 5]⟩,
    ⟨1, some 4, none, .p .mov, [.t 24]⟩])
   (.ret))),
  [.tmp 4]⟩
/- loop.example/g00641/spec.l1Has -/
def g302_0 : GL.Code := .seq (.reg 0 [⟨0, some 10, none, .p (.bin .lss), [.t 9, .t 8]⟩])
   (.seq (.cond (.t 10) (.skip)
   (.exit 0))
   (.seq (.block 1 (.seq (.reg 0 [⟨0, some 11, none, .p (.idx 1), [.t 7, .t 9]⟩,
    ⟨1, some 12, none, .r (.load false 1) false, [.t 11]⟩,
    ⟨2, some 6, none, .p .mov, [.t 12]⟩])
   (.seq (.reg 0 [⟨0, some 13, none, .p .mov, [.t 6]⟩,
    ⟨1, some 14, none, .p .mov, [.t 1]⟩,
    ⟨2, some 15, none, .p (.bin .eql), [.t 13, .t 14]⟩])
   (.cond (.t 15) (.seq (.reg 0 [⟨0, some 4, none, .p .mov, [.c (.bool true)]⟩])
   (.ret))
   (.skip)))))
   (.reg 0 [⟨0, some 16, none, .p (.bin .add), [.t 9, .c (.int .i64 1)]⟩,
    ⟨1, some 9, none, .p .mov, [.t 16]⟩])))
def g302 : GL.Fn := ⟨.seq (.reg 0 [⟨0, some 4, none, .p .mov, [.c (.bool false)]⟩])
   (.seq (.seq (.reg 0 [⟨0, some 7, none, .p .mov, [.t 0]⟩,
    ⟨1, some 8, none, .p .len, [.t 7]⟩,
    ⟨2, some 9, none, .p .mov, [.c (.int .i64 0)]⟩])
   (.block 0 (.loop g302_0)))
   (.seq (.reg 0 [⟨0, some 4, none, .p .mov, [.c (.bool false)]⟩])
   (.ret))),
  [.tmp 4]⟩
/- (*loop.example/g00641/spec.l1Cur).next -/
def g140 : GL.Fn := ⟨.seq (.reg 0 [⟨0, some 2, none, .p .mov, [.c (.int .i64 0)]⟩])
   (.seq (.reg 0 [⟨0, some 3, none, .p .mov, [.c (.int .i64 0)]⟩])
   (.seq (.seq (.reg 0 [⟨0, some 4, none, .p .mov, [.t 0]⟩,
    ⟨1, some 5, none, .p .nilCheck, [.t 4]⟩,
    ⟨2, some 6, none, .p (.faddr 1), [.t 5]⟩,
    ⟨3, some 7, none, .r (.load false 1) false, [.t 6]⟩,
    ⟨4, some 8, none, .p .mov, [.t 0]⟩,
    ⟨5, some 9, none, .p .nilCheck, [.t 8]⟩,
    ⟨6, some 10, none, .p (.faddr 0), [.t 9]⟩,
    ⟨7, some 11, none, .r (.load false 1) false, [.t 10]⟩,
    ⟨8, some 12, none, .p .len, [.t 11]⟩,
    ⟨9, some 13, none, .p (.bin .lss), [.t 7, .t 12]⟩])
   (.cond (.t 13) (.reg 0 [⟨0, some 14, none, .p .mov, [.t 0]⟩,
    ⟨1, some 15, none, .p .nilCheck, [.t 14]⟩,
    ⟨2, some 16, none, .p (.faddr 0), [.t 15]⟩,
    ⟨3, some 17, none, .r (.load false 1) false, [.t 16]⟩,
    ⟨4, some 18, none, .p .mov, [.t 0]⟩,
    ⟨5, some 19, none, .p .nilCheck, [.t 18]⟩,
    ⟨6, some 20, none, .p (.faddr 1), [.t 19]⟩,
    ⟨7, some 21, none, .r (.load false 1) false, [.t 20]⟩,
    ⟨8, some 22, none, .p (.idx 1), [.t 17, .t 21]⟩,
    ⟨9, some 23, none, .r (.load false 1) false, [.t 22]⟩,
    ⟨10, some 24, none, .p (.conv .i64), [.t 23]⟩,
    ⟨11, some 3, none, .p .mov, [.t 24]⟩])
   (.skip)))
   (.seq (.reg 0 [⟨0, some 25, none, .p .mov, [.t 0]⟩,
    ⟨1, some 26, none, .p .nilCheck, [.t 25]⟩,
    ⟨2, some 27, none, .p (.faddr 1), [.t 26]⟩,
    ⟨3, some 28, none, .r (.load false 1) false, [.t 27]⟩,
    ⟨4, some 29, none, .p (.bin .add), [.t 28, .c (.int .i64 1)]⟩,
    ⟨5, some 30, none, .p .nilCheck, [.t 25]⟩,
    ⟨6, some 31, none, .p (.faddr 1), [.t 30]⟩,
    ⟨7, none, none, .e (.store 1) [] [], [.t 31, .t 29]⟩])
   (.seq (.reg 0 [⟨0, some 32, none, .p .mov, [.t 0]⟩,
    ⟨1, some 33, none, .p .mov, [.t 0]⟩,
    ⟨2, some 34, none, .p .nilCheck, [.t 33]⟩,
    ⟨3, some 35, none, .p (.faddr 2), [.t 34]⟩,
    ⟨4, some 36, none, .r (.load false 1) false, [.t 35]⟩,
    ⟨5, some 37, none, .p (.bin .mul), [.t 36, .c (.int .u64 6364136223846793005)]⟩,
    ⟨6, some 38, none, .p .mov, [.t 3]⟩,
    ⟨7, some 39, none, .p (.conv .u64), [.t 38]⟩,
    ⟨8, some 40, none, .p (.bin .add), [.t 37, .t 39]⟩,
    ⟨9, some 41, none, .p (.bin .add), [.t 40, .c (.int .u64 1442695040888963407)]⟩,
    ⟨10, some 42, none, .p .nilCheck, [.t 32]⟩,
    ⟨11, some 43, none, .p (.faddr 2), [.t 42]⟩,
    ⟨12, none, none, .e (.store 1) [] [], [.t 43, .t 41]⟩])
   (.seq (.seq (.reg 0 [⟨0, some 44, none, .p .mov, [.t 0]⟩,
    ⟨1, some 45, none, .p .nilCheck, [.t 44]⟩,
    ⟨2, some 46, none, .p (.faddr 1), [.t 45]⟩,
    ⟨3, some 47, none, .r (.load false 1) false, [.t 46]⟩,
    ⟨4, some 48, none, .p .mov, [.t 0]⟩,
    ⟨5, some 49, none, .p .nilCheck, [.t 48]⟩,
    ⟨6, some 50, none, .p (.faddr 0), [.t 49]⟩,
    ⟨7, some 51, none, .r (.load false 1) false, [.t 50]⟩,
    ⟨8, some 52, none, .p .len, [.t 51]⟩,
    ⟨9, some 53, none, .p (.bin .leq), [.t 47, .t 52]⟩])
   (.cond (.t 53) (.seq (.reg 0 [⟨0, some 54, none, .p .mov, [.t 3]⟩,
    ⟨1, some 2, none, .p .mov, [.t 54]⟩])
   (.ret))
   (.skip)))
   (.seq (.reg 0 [⟨0, some 55, none, .p .mov, [.t 0]⟩,
    ⟨1, some 56, none, .p .nilCheck, [.t 55]⟩,
    ⟨2, some 57, none, .p (.faddr 2), [.t 56]⟩,
    ⟨3, some 58, none, .r (.load false 1) false, [.t 57]⟩,
    ⟨4, some 59, none, .p (.bin .shr), [.t 58, .c (.int .u64 40)]⟩,
    ⟨5, some 60, none, .p (.bin .and), [.t 59, .c (.int .u64 255)]⟩,
    ⟨6, some 61, none, .p (.conv .i64), [.t 60]⟩,
    ⟨7, some 2, none, .p .mov, [.t 61]⟩])
   (.ret))))))),
  [.tmp 2]⟩
/- (*loop.example/g00641/spec.l1Cur).among -/
def g93 : GL.Fn := ⟨.seq (.reg 0 [⟨0, some 4, none, .p .mov, [.c (.int .i64 0)]⟩])
   (.seq (.reg 0 [⟨0, some 5, none, .p .mov, [.t 1]⟩,
    ⟨1, some 6, none, .p .mov, [.t 0]⟩,
    ⟨2, some 7, none, .p .mov, [.t 1]⟩,
    ⟨3, some 8, none, .p .len, [.t 7]⟩,
    ⟨4, some 9, none, .e .call [] [], [.f 91, .t 6, .t 8]⟩,
    ⟨5, some 10, none, .p (.idx 1), [.t 5, .t 9]⟩,
    ⟨6, some 11, none, .r (.load false 1) false, [.t 10]⟩,
    ⟨7, some 4, none, .p .mov, [.t 11]⟩])
   (.ret)),
  [.tmp 4]⟩
/- loop.example/g00641/spec.GoodLinks -/
def g550_0 : GL.Code := .seq (.reg 0 [⟨0, some 8, none, .p (.bin .lss), [.t 7, .t 6]⟩])
   (.seq (.cond (.t 8) (.skip)
   (.exit 0))
   (.seq (.block 1 (.seq (.reg 0 [⟨0, some 9, none, .p (.idx 1), [.t 5, .t 7]⟩,
    ⟨1, some 10, none, .r (.load false 1) false, [.t 9]⟩,
    ⟨2, some 4, none, .p .mov, [.t 10]⟩])
   (.seq (.reg 0 [⟨0, some 11, none, .p .mov, [.t 4]⟩,
    ⟨1, some 12, none, .p .mov, [.t 0]⟩,
    ⟨2, some 13, none, .p .len, [.t 12]⟩,
    ⟨3, some 14, none, .p (.bin .sub), [.t 13, .c (.int .i64 1)]⟩,
    ⟨4, some 15, none, .e .call [] [], [.f 337, .t 11, .c (.int .i64 0), .t 14]⟩,
    ⟨5, some 16, none, .p (.un .not), [.t 15]⟩])
   (.cond (.t 16) (.seq (.reg 0 [⟨0, some 2, none, .p .mov, [.c (.bool false)]⟩])
   (.ret))
   (.skip)))))
   (.reg 0 [⟨0, some 17, none, .p (.bin .add), [.t 7, .c (.int .i64 1)]⟩,
    ⟨1, some 7, none, .p .mov, [.t 17]⟩])))
def g550 : GL.Fn := ⟨.seq (.reg 0 [⟨0, some 2, none, .p .mov, [.c (.bool false)]⟩])
   (.seq (.seq (.reg 0 [⟨0, some 5, none, .p .mov, [.t 0]⟩,
    ⟨1, some 6, none, .p .len, [.t 5]⟩,
    ⟨2, some 7, none, .p .mov, [.c (.int .i64 0)]⟩])
   (.block 0 (.loop g550_0)))
   (.seq (.reg 0 [⟨0, some 18, none, .p .mov, [.t 0]⟩,
    ⟨1, some 19, none, .p .len, [.t 18]⟩,
    ⟨2, some 20, none, .p (.bin .leq), [.t 19, .c (.int .i64 12)]⟩,
    ⟨3, some 2, none, .p .mov, [.t 20]⟩])
   (.ret))),
  [.tmp 2]⟩
/- slices.ContainsFunc[[]int,int] -/
def g304 : GL.Fn := ⟨.seq (.reg 0 [⟨0, some 4, none, .p .mov, [.c (.bool false)]⟩])
   (.seq (.reg 0 [⟨0, some 5, none, .p .mov, [.t 0]⟩,
    ⟨1, some 6, none, .p .mov, [.t 1]⟩,
    ⟨2, some 7, none, .e .call [] [], [.f 391, .t 5, .t 6]⟩,
    ⟨3, some 8, none, .p (.bin .geq), [.t 7, .c (.int .i64 0)]⟩,
    ⟨4, some 4, none, .p .mov, [.t 8]⟩])
   (.ret)),
  [.tmp 4]⟩
/- loop.example/g00641/impl.together -/
def g412 : GL.Fn := ⟨.seq (.reg 0 [⟨0, some 4, none, .p .mov, [.c (.nils)]⟩])
   (.seq (.reg 0 [⟨0, some 6, none, .p .mov, [.t 0]⟩,
    ⟨1, some 7, none, .p .mov, [.t 1]⟩,
    ⟨2, some 8, none, .e (.new (.lit 1)) [] [], [.t 6, .t 7]⟩,
    ⟨3, some 9, none, .e .call [] [], [.f 429, .t 8]⟩,
    ⟨4, some 5, none, .p .mov, [.t 9]⟩])
   (.seq (.reg 0 [⟨0, some 10, none, .p .mov, [.t 5]⟩,
    ⟨1, some 11, none, .e .call [] [], [.f 340, .t 10]⟩])
   (.seq (.reg 0 [⟨0, some 12, none, .p .mov, [.t 5]⟩,
    ⟨1, some 13, none, .e .call [] [], [.f 430, .t 12]⟩,
    ⟨2, some 4, none, .p .mov, [.t 13]⟩])
   (.ret)))),
  [.tmp 4]⟩
/- loop.example/g00641/impl.hasAll$1 -/
def g572 : GL.Fn := ⟨.seq (.reg 0 [⟨0, some 3, none, .p .mov, [.c (.bool false)]⟩])
   (.seq (.reg 0 [⟨0, some 4, none, .r (.load false 1) false, [.t 1]⟩,
    ⟨1, some 5, none, .p .mov, [.t 0]⟩,
    ⟨2, some 6, none, .e .call [] [], [.f 301, .t 4, .t 5]⟩,
    ⟨3, some 7, none, .p (.un .not), [.t 6]⟩,
    ⟨4, some 3, none, .p .mov, [.t 7]⟩])
   (.ret)),
  [.tmp 3]⟩
/- slices.Contains[[]int,int] -/
def g301 : GL.Fn := ⟨.seq (.reg 0 [⟨0, some 4, none, .p .mov, [.c (.bool false)]⟩])
   (.seq (.reg 0 [⟨0, some 5, none, .p .mov, [.t 0]⟩,
    ⟨1, some 6, none, .p .mov, [.t 1]⟩,
    ⟨2, some 7, none, .e .call [] [], [.f 390, .t 5, .t 6]⟩,
    ⟨3, some 8, none, .p (.bin .geq), [.t 7, .c (.int .i64 0)]⟩,
    ⟨4, some 4, none, .p .mov, [.t 8]⟩])
   (.ret)),
  [.tmp 4]⟩
/- loop.example/g00641/spec.l1All -/
def g94_0 : GL.Code := .seq (.reg 0 [⟨0, some 12, none, .p (.bin .lss), [.t 11, .t 10]⟩])
   (.seq (.cond (.t 12) (.skip)
   (.exit 0))
   (.seq (.block 1 (.seq (.reg 0 [⟨0, some 13, none, .p (.idx 1), [.t 9, .t 11]⟩,
    ⟨1, some 14, none, .r (.load false 1) false, [.t 13]⟩,
    ⟨2, some 8, none, .p .mov, [.t 14]⟩])
   (.seq (.reg 0 [⟨0, some 15, none, .p .mov, [.t 8]⟩,
    ⟨1, some 16, none, .p .mov, [.t 1]⟩,
    ⟨2, some 17, none, .p .mov, [.t 2]⟩,
    ⟨3, some 18, none, .e .call [] [], [.f 98, .t 15, .t 16, .t 17]⟩,
    ⟨4, some 19, none, .p (.un .not), [.t 18]⟩])
   (.cond (.t 19) (.seq (.reg 0 [⟨0, some 6, none, .p .mov, [.c (.bool false)]⟩])
   (.ret))
   (.skip)))))
   (.reg 0 [⟨0, some 20, none, .p (.bin .add), [.t 11, .c (.int .i64 1)]⟩,
    ⟨1, some 11, none, .p .mov, [.t 20]⟩])))
def g94 : GL.Fn := ⟨.seq (.reg 0 [⟨0, some 6, none, .p .mov, [.c (.bool false)]⟩])
   (.seq (.seq (.reg 0 [⟨0, some 9, none, .p .mov, [.t 0]⟩,
    ⟨1, some 10, none, .p .len, [.t 9]⟩,
    ⟨2, some 11, none, .p .mov, [.c (.int .i64 0)]⟩])
   (.block 0 (.loop g94_0)))
   (.seq (.reg 0 [⟨0, some 6, none, .p .mov, [.c (.bool true)]⟩])
   (.ret))),
  [.tmp 6]⟩
/- loop.example/g00641/spec.l1Put -/
def g410_0 : GL.Code := .seq (.seq (.reg 0 [⟨0, some 7, none, .p .mov, [.t 5]⟩,
    ⟨1, some 8, none, .p .mov, [.t 0]⟩,
    ⟨2, some 9, none, .p .len, [.t 8]⟩,
    ⟨3, some 10, none, .p (.bin .lss), [.t 7, .t 9]⟩,
    ⟨4, some 11, none, .p .mov, [.t 10]⟩,
    ⟨5, some 12, some (11, true), .p .mov, [.t 0]⟩,
    ⟨6, some 13, some (11, true), .p .mov, [.t 5]⟩,
    ⟨7, some 14, some (11, true), .p (.idx 1), [.t 12, .t 13]⟩,
    ⟨8, some 15, some (11, true), .r (.load false 1) false, [.t 14]⟩,
    ⟨9, some 16, some (11, true), .p .mov, [.t 1]⟩,
    ⟨10, some 17, some (11, true), .p (.bin .lss), [.t 15, .t 16]⟩,
    ⟨11, some 18, none, .p .pick, [.t 11, .t 17, .c (.bool false)]⟩])
   (.cond (.t 18) (.skip)
   (.exit 0)))
   (.block 1 (.reg 0 [⟨0, some 19, none, .p .mov, [.t 5]⟩,
    ⟨1, some 20, none, .p (.bin .add), [.t 19, .c (.int .i64 1)]⟩,
    ⟨2, some 5, none, .p .mov, [.t 20]⟩]))
def g410 : GL.Fn := ⟨.seq (.reg 0 [⟨0, some 4, none, .p .mov, [.c (.nils)]⟩])
   (.seq (.reg 0 [⟨0, some 5, none, .p .mov, [.c (.int .i64 0)]⟩])
   (.seq (.block 0 (.loop g410_0))
   (.seq (.seq (.reg 0 [⟨0, some 21, none, .p .mov, [.t 5]⟩,
    ⟨1, some 22, none, .p .mov, [.t 0]⟩,
    ⟨2, some 23, none, .p .len, [.t 22]⟩,
    ⟨3, some 24, none, .p (.bin .lss), [.t 21, .t 23]⟩,
    ⟨4, some 25, none, .p .mov, [.t 24]⟩,
    ⟨5, some 26, some (25, true), .p .mov, [.t 0]⟩,
    ⟨6, some 27, some (25, true), .p .mov, [.t 5]⟩,
    ⟨7, some 28, some (25, true), .p (.idx 1), [.t 26, .t 27]⟩,
    ⟨8, some 29, some (25, true), .r (.load false 1) false, [.t 28]⟩,
    ⟨9, some 30, some (25, true), .p .mov, [.t 1]⟩,
    ⟨10, some 31, some (25, true), .p (.bin .eql), [.t 29, .t 30]⟩,
    ⟨11, some 32, none, .p .pick, [.t 25, .t 31, .c (.bool false)]⟩])
   (.cond (.t 32) (.seq (.reg 0 [⟨0, some 33, none, .p .mov, [.t 0]⟩,
    ⟨1, some 4, none, .p .mov, [.t 33]⟩])
   (.ret))
   (.skip)))
   (.seq (.reg 0 [⟨0, some 34, none, .e (.new (.lit 1)) [] [], []⟩,
    ⟨1, some 35, none, .p .mov, [.t 0]⟩,
    ⟨2, some 36, none, .p .mov, [.t 5]⟩,
    ⟨3, some 37, none, .p (.slice 1 false true false), [.t 35, .t 36]⟩,
    ⟨4, some 38, none, .e (.append 1 8) [] [], [.t 34, .t 37]⟩,
    ⟨5, some 6, none, .p .mov, [.t 38]⟩])
   (.seq (.reg 0 [⟨0, some 39, none, .p .mov, [.t 6]⟩,
    ⟨1, some 40, none, .p .mov, [.t 1]⟩,
    ⟨2, some 41, none, .e (.new (.lit 1)) [] [], [.t 40]⟩,
    ⟨3, some 42, none, .e (.append 1 8) [] [], [.t 39, .t 41]⟩,
    ⟨4, some 6, none, .p .mov, [.t 42]⟩])
   (.seq (.reg 0 [⟨0, some 43, none, .p .mov, [.t 6]⟩,
    ⟨1, some 44, none, .p .mov, [.t 0]⟩,
    ⟨2, some 45, none, .p .mov, [.t 5]⟩,
    ⟨3, some 46, none, .p (.slice 1 true false false), [.t 44, .t 45]⟩,
    ⟨4, some 47, none, .e (.append 1 8) [] [], [.t 43, .t 46]⟩,
    ⟨5, some 4, none, .p .mov, [.t 47]⟩])
   (.ret))))))),
  [.tmp 4]⟩
/- slices.ContainsFunc[[][]int,[]int] -/
def g335 : GL.Fn := ⟨.seq (.reg 0 [⟨0, some 4, none, .p .mov, [.c (.bool false)]⟩])
   (.seq (.reg 0 [⟨0, some 5, none, .p .mov, [.t 0]⟩,
    ⟨1, some 6, none, .p .mov, [.t 1]⟩,
    ⟨2, some 7, none, .e .call [] [], [.f 395, .t 5, .t 6]⟩,
    ⟨3, some 8, none, .p (.bin .geq), [.t 7, .c (.int .i64 0)]⟩,
    ⟨4, some 4, none, .p .mov, [.t 8]⟩])
   (.ret)),
  [.tmp 4]⟩
/- loop.example/g00641/impl.GoodLinks$1 -/
def g559 : GL.Fn := ⟨.seq (.reg 0 [⟨0, some 3, none, .p .mov, [.c (.bool false)]⟩])
   (.seq (.reg 0 [⟨0, some 4, none, .p .mov, [.t 0]⟩,
    ⟨1, some 5, none, .r (.load false 1) false, [.t 1]⟩,
    ⟨2, some 6, none, .p .len, [.t 5]⟩,
    ⟨3, some 7, none, .p (.bin .sub), [.t 6, .c (.int .i64 1)]⟩,
    ⟨4, some 8, none, .e .call [] [], [.f 385, .t 4, .c (.int .i64 0), .t 7]⟩,
    ⟨5, some 9, none, .p (.un .not), [.t 8]⟩,
    ⟨6, some 3, none, .p .mov, [.t 9]⟩])
   (.ret)),
  [.tmp 3]⟩
/- loop.example/g00641/spec.l9Group -/
def g562_0 : GL.Code := .seq (.reg 0 [⟨0, some 13, none, .p (.bin .lss), [.t 12, .t 11]⟩])
   (.seq (.cond (.t 13) (.skip)
   (.exit 0))
   (.seq (.block 1 (.seq (.reg 0 [⟨0, some 14, none, .p (.idx 1), [.t 10, .t 12]⟩,
    ⟨1, some 15, none, .r (.load false 1) false, [.t 14]⟩,
    ⟨2, some 7, none, .p .mov, [.t 15]⟩])
   (.seq (.reg 0 [⟨0, some 16, none, .p .mov, [.t 0]⟩,
    ⟨1, some 17, none, .p .mov, [.t 7]⟩,
    ⟨2, some 18, none, .e .call [] [], [.f 547, .t 16, .t 17]⟩,
    ⟨3, some 19, none, .p .mov, [.t 1]⟩,
    ⟨4, some 20, none, .e .call [] [], [.f 302, .t 18, .t 19]⟩])
   (.cond (.t 20) (.reg 0 [⟨0, some 21, none, .p .mov, [.t 5]⟩,
    ⟨1, some 22, none, .p .mov, [.t 7]⟩,
    ⟨2, some 23, none, .e (.new (.lit 1)) [] [], [.t 22]⟩,
    ⟨3, some 24, none, .e (.append 1 8) [] [], [.t 21, .t 23]⟩,
    ⟨4, some 5, none, .p .mov, [.t 24]⟩])
   (.skip)))))
   (.reg 0 [⟨0, some 25, none, .p (.bin .add), [.t 12, .c (.int .i64 1)]⟩,
    ⟨1, some 12, none, .p .mov, [.t 25]⟩])))
def g562 : GL.Fn := ⟨.seq (.reg 0 [⟨0, some 4, none, .p .mov, [.c (.nils)]⟩])
   (.seq (.reg 0 [⟨0, some 5, none, .p .mov, [.c (.nils)]⟩])
   (.seq (.seq (.reg 0 [⟨0, some 8, none, .p .mov, [.t 0]⟩,
    ⟨1, some 9, none, .p .mov, [.t 1]⟩,
    ⟨2, some 10, none, .e .call [] [], [.f 547, .t 8, .t 9]⟩,
    ⟨3, some 11, none, .p .len, [.t 10]⟩,
    ⟨4, some 12, none, .p .mov, [.c (.int .i64 0)]⟩])
   (.block 0 (.loop g562_0)))
   (.seq (.reg 0 [⟨0, some 26, none, .p .mov, [.t 5]⟩,
    ⟨1, some 4, none, .p .mov, [.t 26]⟩])
   (.ret)))),
  [.tmp 4]⟩
/- slices.DeleteFunc[[]int,int] -/
def g397_0 : GL.Code := .seq (.seq (.reg 0 [⟨0, some 16, none, .p .mov, [.t 6]⟩,
    ⟨1, some 17, none, .p .mov, [.t 0]⟩,
    ⟨2, some 18, none, .p .len, [.t 17]⟩,
    ⟨3, some 19, none, .p (.bin .lss), [.t 16, .t 18]⟩])
   (.cond (.t 19) (.skip)
   (.exit 0)))
   (.seq (.block 1 (.seq (.reg 0 [⟨0, some 22, none, .p .mov, [.t 0]⟩,
    ⟨1, some 23, none, .p .mov, [.t 6]⟩,
    ⟨2, some 24, none, .p (.idx 1), [.t 22, .t 23]⟩,
    ⟨3, some 25, none, .r (.load false 1) false, [.t 24]⟩,
    ⟨4, some 7, none, .p .mov, [.t 25]⟩])
   (.seq (.reg 0 [⟨0, some 26, none, .p .mov, [.t 1]⟩,
    ⟨1, some 27, none, .p .mov, [.t 7]⟩,
    ⟨2, some 28, none, .e .call [] [], [.t 26, .t 27]⟩,
    ⟨3, some 29, none, .p (.un .not), [.t 28]⟩])
   (.cond (.t 29) (.seq (.reg 0 [⟨0, some 30, none, .p .mov, [.t 0]⟩,
    ⟨1, some 31, none, .p .mov, [.t 5]⟩,
    ⟨2, some 32, none, .p .mov, [.t 7]⟩,
    ⟨3, some 33, none, .p (.idx 1), [.t 30, .t 31]⟩,
    ⟨4, none, none, .e (.store 1) [] [], [.t 33, .t 32]⟩])
   (.reg 0 [⟨0, some 34, none, .p .mov, [.t 5]⟩,
    ⟨1, some 35, none, .p (.bin .add), [.t 34, .c (.int .i64 1)]⟩,
    ⟨2, some 5, none, .p .mov, [.t 35]⟩]))
   (.skip)))))
   (.reg 0 [⟨0, some 20, none, .p .mov, [.t 6]⟩,
    ⟨1, some 21, none, .p (.bin .add), [.t 20, .c (.int .i64 1)]⟩,
    ⟨2, some 6, none, .p .mov, [.t 21]⟩]))
def g397 : GL.Fn := ⟨.seq (.reg 0 [⟨0, some 4, none, .p .mov, [.c (.nils)]⟩])
   (.seq (.reg 0 [⟨0, some 8, none, .p .mov, [.t 0]⟩,
    ⟨1, some 9, none, .p .mov, [.t 1]⟩,
    ⟨2, some 10, none, .e .call [] [], [.f 391, .t 8, .t 9]⟩,
    ⟨3, some 5, none, .p .mov, [.t 10]⟩])
   (.seq (.seq (.reg 0 [⟨0, some 11, none, .p .mov, [.t 5]⟩,
    ⟨1, some 12, none, .p (.bin .eql), [.t 11, .c (.int .i64 (-1))]⟩])
   (.cond (.t 12) (.seq (.reg 0 [⟨0, some 13, none, .p .mov, [.t 0]⟩,
    ⟨1, some 4, none, .p .mov, [.t 13]⟩])
   (.ret))
   (.skip)))
   (.seq (.seq (.reg 0 [⟨0, some 14, none, .p .mov, [.t 5]⟩,
    ⟨1, some 15, none, .p (.bin .add), [.t 14, .c (.int .i64 1)]⟩,
    ⟨2, some 6, none, .p .mov, [.t 15]⟩])
   (.block 0 (.loop g397_0)))
   (.seq (.reg 0 [⟨0, some 36, none, .p .mov, [.t 0]⟩,
    ⟨1, some 37, none, .p .mov, [.t 5]⟩,
    ⟨2, some 38, none, .p (.slice 1 true false false), [.t 36, .t 37]⟩,
    ⟨3, none, none, .e (.clear 1 [.int .i64 0]) [] [], [.t 38]⟩])
   (.seq (.reg 0 [⟨0, some 39, none, .p .mov, [.t 0]⟩,
    ⟨1, some 40, none, .p .mov, [.t 5]⟩,
    ⟨2, some 41, none, .p (.slice 1 false true false), [.t 39, .t 40]⟩,
    ⟨3, some 4, none, .p .mov, [.t 41]⟩])
   (.ret)))))),
  [.tmp 4]⟩
/- loop.example/g00641/impl.group$1 -/
def g576 : GL.Fn := ⟨.seq (.reg 0 [⟨0, some 4, none, .p .mov, [.c (.bool false)]⟩])
   (.seq (.reg 0 [⟨0, some 5, none, .r (.load false 1) false, [.t 1]⟩,
    ⟨1, some 6, none, .p .mov, [.t 0]⟩,
    ⟨3, some 8, none, .r (.load false 1) true, [.t 2]⟩,
    ⟨2, some 7, none, .e .call [3] [], [.f 545, .t 5, .t 6]⟩,
    ⟨4, some 9, none, .e .call [] [], [.f 301, .t 7, .t 8]⟩,
    ⟨5, some 10, none, .p (.un .not), [.t 9]⟩,
    ⟨6, some 4, none, .p .mov, [.t 10]⟩])
   (.ret)),
  [.tmp 4]⟩
/- loop.example/g00641/spec.l9Reach -/
def g547_0 : GL.Code := .seq (.reg 0 [⟨0, some 28, none, .p (.bin .lss), [.t 27, .t 26]⟩])
   (.seq (.cond (.t 28) (.skip)
   (.exit 2))
   (.seq (.block 3 (.seq (.reg 0 [⟨0, some 29, none, .p (.idx 1), [.t 25, .t 27]⟩,
    ⟨1, some 30, none, .r (.load false 1) false, [.t 29]⟩,
    ⟨2, some 9, none, .p .mov, [.t 30]⟩])
   (.seq (.reg 0 [⟨0, some 31, none, .p .mov, [.t 5]⟩,
    ⟨1, some 32, none, .p .mov, [.t 9]⟩,
    ⟨2, some 33, none, .e .call [] [], [.f 302, .t 31, .t 32]⟩,
    ⟨3, some 34, none, .p (.un .not), [.t 33]⟩])
   (.cond (.t 34) (.seq (.reg 0 [⟨0, some 35, none, .p .mov, [.t 5]⟩,
    ⟨1, some 36, none, .p .mov, [.t 9]⟩,
    ⟨2, some 37, none, .e .call [] [], [.f 410, .t 35, .t 36]⟩,
    ⟨3, some 5, none, .p .mov, [.t 37]⟩])
   (.reg 0 [⟨0, some 38, none, .p .mov, [.t 6]⟩,
    ⟨1, some 39, none, .p .mov, [.t 9]⟩,
    ⟨2, some 40, none, .e (.new (.lit 1)) [] [], [.t 39]⟩,
    ⟨3, some 41, none, .e (.append 1 8) [] [], [.t 38, .t 40]⟩,
    ⟨4, some 6, none, .p .mov, [.t 41]⟩]))
   (.skip)))))
   (.reg 0 [⟨0, some 42, none, .p (.bin .add), [.t 27, .c (.int .i64 1)]⟩,
    ⟨1, some 27, none, .p .mov, [.t 42]⟩])))
def g547_1 : GL.Code := .seq (.seq (.reg 0 [⟨0, some 14, none, .p .mov, [.t 6]⟩,
    ⟨1, some 15, none, .p .len, [.t 14]⟩,
    ⟨2, some 16, none, .p (.bin .gtr), [.t 15, .c (.int .i64 0)]⟩])
   (.cond (.t 16) (.skip)
   (.exit 0)))
   (.block 1 (.seq (.reg 0 [⟨0, some 17, none, .p .mov, [.t 6]⟩,
    ⟨1, some 18, none, .p (.idx 1), [.t 17, .c (.int .i64 0)]⟩,
    ⟨2, some 19, none, .r (.load false 1) false, [.t 18]⟩,
    ⟨3, some 7, none, .p .mov, [.t 19]⟩])
   (.seq (.reg 0 [⟨0, some 20, none, .p .mov, [.t 6]⟩,
    ⟨1, some 21, none, .p (.slice 1 true false false), [.t 20, .c (.int .i64 1)]⟩,
    ⟨2, some 6, none, .p .mov, [.t 21]⟩])
   (.seq (.reg 0 [⟨0, some 22, none, .p .mov, [.t 0]⟩,
    ⟨1, some 23, none, .p .mov, [.t 7]⟩,
    ⟨2, some 24, none, .p (.idx 1), [.t 22, .t 23]⟩,
    ⟨3, some 25, none, .r (.load false 1) false, [.t 24]⟩,
    ⟨4, some 26, none, .p .len, [.t 25]⟩,
    ⟨5, some 27, none, .p .mov, [.c (.int .i64 0)]⟩])
   (.block 2 (.loop g547_0))))))
def g547 : GL.Fn := ⟨.seq (.reg 0 [⟨0, some 4, none, .p .mov, [.c (.nils)]⟩])
   (.seq (.reg 0 [⟨0, some 10, none, .p .mov, [.t 1]⟩,
    ⟨1, some 11, none, .e (.new (.lit 1)) [] [], [.t 10]⟩,
    ⟨2, some 5, none, .p .mov, [.t 11]⟩])
   (.seq (.reg 0 [⟨0, some 12, none, .p .mov, [.t 1]⟩,
    ⟨1, some 13, none, .e (.new (.lit 1)) [] [], [.t 12]⟩,
    ⟨2, some 6, none, .p .mov, [.t 13]⟩])
   (.seq (.block 0 (.loop g547_1))
   (.seq (.reg 0 [⟨0, some 43, none, .p .mov, [.t 5]⟩,
    ⟨1, some 4, none, .p .mov, [.t 43]⟩])
   (.ret))))),
  [.tmp 4]⟩
/- loop.example/g00641/spec.l14Next -/
def g555_0 : GL.Code := .seq (.reg 0 [⟨0, some 18, none, .p (.bin .lss), [.t 17, .t 16]⟩])
   (.seq (.cond (.t 18) (.skip)
   (.exit 0))
   (.seq (.block 1 (.seq (.reg 0 [⟨0, some 19, none, .p (.idx 1), [.t 15, .t 17]⟩,
    ⟨1, some 20, none, .r (.load false 1) false, [.t 19]⟩,
    ⟨2, some 10, none, .p .mov, [.t 20]⟩])
   (.seq (.reg 0 [⟨0, some 21, none, .p .mov, [.t 7]⟩,
    ⟨1, some 22, none, .p .mov, [.t 10]⟩,
    ⟨2, some 23, none, .e .call [] [], [.f 302, .t 21, .t 22]⟩,
    ⟨3, some 24, none, .p .mov, [.t 23]⟩,
    ⟨4, some 25, some (24, true), .p .mov, [.t 2]⟩,
    ⟨5, some 26, some (24, true), .p .mov, [.t 10]⟩,
    ⟨6, some 27, some (24, true), .e .call [] [], [.f 302, .t 25, .t 26]⟩,
    ⟨7, some 28, some (24, true), .p (.un .not), [.t 27]⟩,
    ⟨8, some 29, none, .p .pick, [.t 24, .t 28, .c (.bool false)]⟩])
   (.cond (.t 29) (.reg 0 [⟨0, some 30, none, .p .mov, [.t 8]⟩,
    ⟨1, some 31, none, .p .mov, [.t 10]⟩,
    ⟨2, some 32, none, .e (.new (.lit 1)) [] [], [.t 31]⟩,
    ⟨3, some 33, none, .e (.append 1 8) [] [], [.t 30, .t 32]⟩,
    ⟨4, some 8, none, .p .mov, [.t 33]⟩])
   (.skip)))))
   (.reg 0 [⟨0, some 34, none, .p (.bin .add), [.t 17, .c (.int .i64 1)]⟩,
    ⟨1, some 17, none, .p .mov, [.t 34]⟩])))
def g555 : GL.Fn := ⟨.seq (.reg 0 [⟨0, some 6, none, .p .mov, [.c (.nils)]⟩])
   (.seq (.reg 0 [⟨0, some 11, none, .p .mov, [.t 0]⟩,
    ⟨1, some 12, none, .p .mov, [.t 1]⟩,
    ⟨2, some 13, none, .e .call [] [], [.f 551, .t 11, .t 12]⟩,
    ⟨3, some 7, none, .p .mov, [.t 13]⟩])
   (.seq (.reg 0 [⟨0, some 8, none, .p .mov, [.c (.nils)]⟩])
   (.seq (.seq (.reg 0 [⟨0, some 14, none, .p .mov, [.t 0]⟩,
    ⟨1, some 15, none, .e .call [] [], [.f 573, .t 14]⟩,
    ⟨2, some 16, none, .p .len, [.t 15]⟩,
    ⟨3, some 17, none, .p .mov, [.c (.int .i64 0)]⟩])
   (.block 0 (.loop g555_0)))
   (.seq (.reg 0 [⟨0, some 35, none, .p .mov, [.t 8]⟩,
    ⟨1, some 6, none, .p .mov, [.t 35]⟩])
   (.ret))))),
  [.tmp 6]⟩
/- loop.example/g00641/impl.isMany -/
def g318 : GL.Fn := ⟨.seq (.reg 0 [⟨0, some 2, none, .p .mov, [.c (.bool false)]⟩])
   (.seq (.reg 0 [⟨0, some 3, none, .p .mov, [.t 0]⟩,
    ⟨1, some 4, none, .e .call [] [], [.f 107, .t 3, .c (.int .i64 3), .c (.int .i64 9)]⟩,
    ⟨2, some 5, none, .p .mov, [.t 4]⟩,
    ⟨3, some 6, some (5, true), .p .mov, [.t 0]⟩,
    ⟨4, some 7, some (5, true), .p (.bin .rem), [.t 6, .c (.int .i64 2)]⟩,
    ⟨5, some 8, some (5, true), .p (.bin .eql), [.t 7, .c (.int .i64 1)]⟩,
    ⟨6, some 9, none, .p .pick, [.t 5, .t 8, .c (.bool false)]⟩,
    ⟨7, some 2, none, .p .mov, [.t 9]⟩])
   (.ret)),
  [.tmp 2]⟩
/- slices.ContainsFunc[[]loop.example/g00641/impl.Deed,loop.example/g00641/impl.Deed] -/
def g530 : GL.Fn := ⟨.seq (.reg 0 [⟨0, some 4, none, .p .mov, [.c (.bool false)]⟩])
   (.seq (.reg 0 [⟨0, some 5, none, .p .mov, [.t 0]⟩,
    ⟨1, some 6, none, .p .mov, [.t 1]⟩,
    ⟨2, some 7, none, .e .call [] [], [.f 569, .t 5, .t 6]⟩,
    ⟨3, some 8, none, .p (.bin .geq), [.t 7, .c (.int .i64 0)]⟩,
    ⟨4, some 4, none, .p .mov, [.t 8]⟩])
   (.ret)),
  [.tmp 4]⟩
/- loop.example/g00641/impl.GoodHeard$1 -/
def g531 : GL.Fn := ⟨.seq (.reg 0 [⟨0, some 1, none, .l (.box 1 2), [.t 0]⟩,
    ⟨1, some 2, none, .p .mov, [.c (.bool false)]⟩])
   (.seq (.reg 0 [⟨0, some 3, none, .l (.load 1 true 2), [.t 1]⟩,
    ⟨1, some 4, none, .e .call [] [], [.f 538, .t 3]⟩,
    ⟨2, some 5, none, .p (.un .not), [.t 4]⟩,
    ⟨3, some 2, none, .p .mov, [.t 5]⟩])
   (.ret)),
  [.tmp 2]⟩
/- loop.example/g00641/impl.isDeed -/
def g538 : GL.Fn := ⟨.seq (.reg 0 [⟨0, some 1, none, .l (.box 1 2), [.t 0]⟩,
    ⟨1, some 2, none, .p .mov, [.c (.bool false)]⟩])
   (.seq (.reg 0 [⟨0, some 3, none, .p (.faddr 0), [.t 1]⟩,
    ⟨1, some 4, none, .l (.load 1 false 1), [.t 3]⟩,
    ⟨2, some 5, none, .e .call [] [], [.f 107, .t 4, .c (.int .i64 0), .c (.int .i64 9)]⟩,
    ⟨3, some 2, none, .p .mov, [.t 5]⟩])
   (.ret)),
  [.tmp 2]⟩
/- loop.example/g00641/impl.GoodHeard$2 -/
def g532 : GL.Fn := ⟨.seq (.reg 0 [⟨0, some 3, none, .p .mov, [.c (.bool false)]⟩])
   (.seq (.reg 0 [⟨0, some 4, none, .p .mov, [.t 0]⟩,
    ⟨1, some 5, none, .p .len, [.t 4]⟩,
    ⟨2, some 6, none, .r (.load false 1) false, [.t 1]⟩,
    ⟨3, some 7, none, .p (.bin .neq), [.t 5, .t 6]⟩,
    ⟨4, some 8, none, .p .mov, [.t 7]⟩,
    ⟨5, some 9, some (8, false), .p .mov, [.t 0]⟩,
    ⟨6, some 10, some (8, false), .r (.load false 1) false, [.t 1]⟩,
    ⟨7, some 11, some (8, false), .e .call [] [], [.f 541, .t 9, .t 10]⟩,
    ⟨8, some 12, some (8, false), .p (.un .not), [.t 11]⟩,
    ⟨9, some 13, none, .p .pick, [.t 8, .c (.bool true), .t 12]⟩,
    ⟨10, some 3, none, .p .mov, [.t 13]⟩])
   (.ret)),
  [.tmp 3]⟩
/- loop.example/g00641/impl.arePlaces -/
def g314 : GL.Fn := ⟨.seq (.reg 0 [⟨0, some 4, none, .p .mov, [.c (.bool false)]⟩])
   (.seq (.reg 0 [⟨0, some 5, none, .p .mov, [.t 0]⟩,
    ⟨1, some 6, none, .e .call [] [], [.f 318, .t 5]⟩,
    ⟨2, some 7, none, .p .mov, [.t 6]⟩,
    ⟨3, some 8, some (7, true), .p .mov, [.t 1]⟩,
    ⟨4, some 9, some (7, true), .p .mov, [.t 0]⟩,
    ⟨5, some 10, some (7, true), .p (.bin .sub), [.t 9, .c (.int .i64 1)]⟩,
    ⟨6, some 11, some (7, true), .e .call [] [], [.f 385, .t 8, .c (.int .i64 0), .t 10]⟩,
    ⟨7, some 12, none, .p .pick, [.t 7, .t 11, .c (.bool false)]⟩,
    ⟨8, some 4, none, .p .mov, [.t 12]⟩])
   (.ret)),
  [.tmp 4]⟩
/- loop.example/g00641/impl.slow -/
def g322 : GL.Fn := ⟨.seq (.reg 0 [⟨0, some 2, none, .p .mov, [.c (.int .i64 0)]⟩])
   (.seq (.reg 0 [⟨0, some 3, none, .p .mov, [.t 0]⟩,
    ⟨1, some 4, none, .p (.bin .quo), [.t 3, .c (.int .i64 2)]⟩,
    ⟨2, some 5, none, .p (.bin .add), [.t 4, .c (.int .i64 1)]⟩,
    ⟨3, some 2, none, .p .mov, [.t 5]⟩])
   (.ret)),
  [.tmp 2]⟩
/- (loop.example/g00641/impl.Heard).deps -/
def g519_0 : GL.Code := .seq (.reg 0 [⟨0, some 18, none, .p (.bin .lss), [.t 17, .t 16]⟩])
   (.seq (.cond (.t 18) (.skip)
   (.exit 0))
   (.seq (.block 1 (.seq (.reg 0 [⟨0, some 19, none, .p (.idx 1), [.t 15, .t 17]⟩,
    ⟨1, some 20, none, .r (.load false 1) false, [.t 19]⟩,
    ⟨2, some 9, none, .p .mov, [.t 20]⟩])
   (.seq (.seq (.reg 0 [⟨0, some 21, none, .p .mov, [.t 9]⟩,
    ⟨1, some 22, none, .p .mov, [.t 2]⟩,
    ⟨2, some 23, none, .p (.bin .eql), [.t 21, .t 22]⟩])
   (.cond (.t 23) (.exit 0)
   (.skip)))
   (.seq (.reg 0 [⟨0, some 24, none, .p (.faddr 1), [.t 3]⟩,
    ⟨1, some 25, none, .l (.load 3 false 1), [.t 24]⟩,
    ⟨2, some 26, none, .p .mov, [.t 9]⟩,
    ⟨3, some 27, none, .p (.idx 2), [.t 25, .t 26]⟩,
    ⟨4, some 28, none, .r (.load true 2) false, [.t 27]⟩,
    ⟨5, some 29, none, .p (.faddr 1), [.t 3]⟩,
    ⟨6, some 30, none, .l (.load 3 false 1), [.t 29]⟩,
    ⟨7, some 31, none, .p .mov, [.t 2]⟩,
    ⟨8, some 32, none, .p (.idx 2), [.t 30, .t 31]⟩,
    ⟨9, some 33, none, .r (.load true 2) false, [.t 32]⟩,
    ⟨10, some 34, none, .e .call [] [], [.f 535, .t 28, .t 33]⟩])
   (.cond (.t 34) (.reg 0 [⟨0, some 35, none, .p .mov, [.t 7]⟩,
    ⟨1, some 36, none, .p .mov, [.t 9]⟩,
    ⟨2, some 37, none, .e (.new (.lit 1)) [] [], [.t 36]⟩,
    ⟨3, some 38, none, .e (.append 1 8) [] [], [.t 35, .t 37]⟩,
    ⟨4, some 7, none, .p .mov, [.t 38]⟩])
   (.skip))))))
   (.reg 0 [⟨0, some 39, none, .p (.bin .add), [.t 17, .c (.int .i64 1)]⟩,
    ⟨1, some 17, none, .p .mov, [.t 39]⟩])))
def g519 : GL.Fn := ⟨.seq (.reg 0 [⟨0, some 3, none, .l (.box 3 3), [.t 0]⟩,
    ⟨1, some 6, none, .p .mov, [.c (.nils)]⟩])
   (.seq (.reg 0 [⟨0, some 10, none, .e (.new (.lit 1)) [] [], []⟩,
    ⟨1, some 7, none, .p .mov, [.t 10]⟩])
   (.seq (.seq (.reg 0 [⟨0, some 11, none, .p (.faddr 2), [.t 3]⟩,
    ⟨1, some 12, none, .l (.load 3 false 1), [.t 11]⟩,
    ⟨2, some 13, none, .p .mov, [.t 1]⟩,
    ⟨3, some 14, none, .p (.idx 1), [.t 12, .t 13]⟩,
    ⟨4, some 15, none, .r (.load false 1) false, [.t 14]⟩,
    ⟨5, some 16, none, .p .len, [.t 15]⟩,
    ⟨6, some 17, none, .p .mov, [.c (.int .i64 0)]⟩])
   (.block 0 (.loop g519_0)))
   (.seq (.reg 0 [⟨0, some 40, none, .p .mov, [.t 7]⟩,
    ⟨1, some 41, none, .e .call [] [], [.f 340, .t 40]⟩])
   (.seq (.reg 0 [⟨0, some 42, none, .p .mov, [.t 7]⟩,
    ⟨1, some 6, none, .p .mov, [.t 42]⟩])
   (.ret))))),
  [.tmp 6]⟩
/- loop.example/g00641/spec.l11Places -/
def g321 : GL.Fn := ⟨.seq (.reg 0 [⟨0, some 2, none, .p .mov, [.c (.bool false)]⟩])
   (.seq (.reg 0 [⟨0, some 3, none, .p .mov, [.t 0]⟩,
    ⟨1, some 4, none, .e .call [] [], [.f 98, .t 3, .c (.int .i64 3), .c (.int .i64 9)]⟩,
    ⟨2, some 5, none, .p .mov, [.t 4]⟩,
    ⟨3, some 6, some (5, true), .p .mov, [.t 0]⟩,
    ⟨4, some 7, some (5, true), .p (.bin .rem), [.t 6, .c (.int .i64 2)]⟩,
    ⟨5, some 8, some (5, true), .p (.bin .eql), [.t 7, .c (.int .i64 1)]⟩,
    ⟨6, some 9, none, .p .pick, [.t 5, .t 8, .c (.bool false)]⟩,
    ⟨7, some 2, none, .p .mov, [.t 9]⟩])
   (.ret)),
  [.tmp 2]⟩
/- loop.example/g00641/spec.l13Deed -/
def g533 : GL.Fn := ⟨.seq (.reg 0 [⟨0, some 1, none, .l (.box 1 2), [.t 0]⟩,
    ⟨1, some 2, none, .p .mov, [.c (.bool false)]⟩])
   (.seq (.reg 0 [⟨0, some 3, none, .p (.faddr 0), [.t 1]⟩,
    ⟨1, some 4, none, .l (.load 1 false 1), [.t 3]⟩,
    ⟨2, some 5, none, .e .call [] [], [.f 98, .t 4, .c (.int .i64 0), .c (.int .i64 9)]⟩,
    ⟨3, some 2, none, .p .mov, [.t 5]⟩])
   (.ret)),
  [.tmp 2]⟩
/- loop.example/g00641/spec.l1Rising -/
def g337_0 : GL.Code := .seq (.reg 0 [⟨0, some 12, none, .p (.bin .lss), [.t 11, .t 10]⟩])
   (.seq (.cond (.t 12) (.skip)
   (.exit 0))
   (.seq (.block 1 (.seq (.reg 0 [⟨0, some 13, none, .p .mov, [.t 11]⟩,
    ⟨1, some 14, none, .p (.idx 1), [.t 9, .t 11]⟩,
    ⟨2, some 15, none, .r (.load false 1) false, [.t 14]⟩,
    ⟨3, some 7, none, .p .mov, [.t 13]⟩,
    ⟨4, some 8, none, .p .mov, [.t 15]⟩])
   (.seq (.reg 0 [⟨0, some 16, none, .p .mov, [.t 8]⟩,
    ⟨1, some 17, none, .p .mov, [.t 1]⟩,
    ⟨2, some 18, none, .p .mov, [.t 2]⟩,
    ⟨3, some 19, none, .e .call [] [], [.f 98, .t 16, .t 17, .t 18]⟩,
    ⟨4, some 20, none, .p (.un .not), [.t 19]⟩,
    ⟨5, some 21, none, .p .mov, [.t 20]⟩,
    ⟨6, some 22, some (21, false), .p .mov, [.t 7]⟩,
    ⟨7, some 23, some (21, false), .p (.bin .gtr), [.t 22, .c (.int .i64 0)]⟩,
    ⟨8, some 24, some (21, false), .p .mov, [.t 23]⟩,
    ⟨9, some 25, some (24, true), .p .mov, [.t 0]⟩,
    ⟨10, some 26, some (24, true), .p .mov, [.t 7]⟩,
    ⟨11, some 27, some (24, true), .p (.bin .sub), [.t 26, .c (.int .i64 1)]⟩,
    ⟨12, some 28, some (24, true), .p (.idx 1), [.t 25, .t 27]⟩,
    ⟨13, some 29, some (24, true), .r (.load false 1) false, [.t 28]⟩,
    ⟨14, some 30, some (24, true), .p .mov, [.t 8]⟩,
    ⟨15, some 31, some (24, true), .p (.bin .geq), [.t 29, .t 30]⟩,
    ⟨16, some 32, some (21, false), .p .pick, [.t 24, .t 31, .c (.bool false)]⟩,
    ⟨17, some 33, none, .p .pick, [.t 21, .c (.bool true), .t 32]⟩])
   (.cond (.t 33) (.seq (.reg 0 [⟨0, some 6, none, .p .mov, [.c (.bool false)]⟩])
   (.ret))
   (.skip)))))
   (.reg 0 [⟨0, some 34, none, .p (.bin .add), [.t 11, .c (.int .i64 1)]⟩,
    ⟨1, some 11, none, .p .mov, [.t 34]⟩])))
def g337 : GL.Fn := ⟨.seq (.reg 0 [⟨0, some 6, none, .p .mov, [.c (.bool false)]⟩])
   (.seq (.seq (.reg 0 [⟨0, some 9, none, .p .mov, [.t 0]⟩,
    ⟨1, some 10, none, .p .len, [.t 9]⟩,
    ⟨2, some 11, none, .p .mov, [.c (.int .i64 0)]⟩])
   (.block 0 (.loop g337_0)))
   (.seq (.reg 0 [⟨0, some 6, none, .p .mov, [.c (.bool true)]⟩])
   (.ret))),
  [.tmp 6]⟩
/- loop.example/g00641/spec.l11Slow -/
def g333 : GL.Fn := ⟨.seq (.reg 0 [⟨0, some 2, none, .p .mov, [.c (.int .i64 0)]⟩])
   (.seq (.reg 0 [⟨0, some 3, none, .p .mov, [.t 0]⟩,
    ⟨1, some 4, none, .p (.bin .quo), [.t 3, .c (.int .i64 2)]⟩,
    ⟨2, some 5, none, .p (.bin .add), [.t 4, .c (.int .i64 1)]⟩,
    ⟨3, some 2, none, .p .mov, [.t 5]⟩])
   (.ret)),
  [.tmp 2]⟩
/- loop.example/g00641/spec.l13At -/
def g516_0 : GL.Code := .seq (.reg 0 [⟨0, some 17, none, .p (.bin .lss), [.t 16, .t 15]⟩])
   (.seq (.cond (.t 17) (.skip)
   (.exit 0))
   (.seq (.block 1 (.seq (.reg 0 [⟨0, some 18, none, .p (.idx 1), [.t 14, .t 16]⟩,
    ⟨1, some 19, none, .r (.load false 1) false, [.t 18]⟩,
    ⟨2, some 9, none, .p .mov, [.t 19]⟩])
   (.seq (.seq (.reg 0 [⟨0, some 20, none, .p .mov, [.t 9]⟩,
    ⟨1, some 21, none, .p .mov, [.t 2]⟩,
    ⟨2, some 22, none, .p (.bin .eql), [.t 20, .t 21]⟩])
   (.cond (.t 22) (.exit 0)
   (.skip)))
   (.seq (.reg 0 [⟨0, some 23, none, .p (.faddr 1), [.t 3]⟩,
    ⟨1, some 24, none, .l (.load 3 false 1), [.t 23]⟩,
    ⟨2, some 25, none, .p .mov, [.t 9]⟩,
    ⟨3, some 26, none, .p (.idx 2), [.t 24, .t 25]⟩,
    ⟨4, some 27, none, .r (.load true 2) false, [.t 26]⟩,
    ⟨5, some 28, none, .p (.faddr 1), [.t 3]⟩,
    ⟨6, some 29, none, .l (.load 3 false 1), [.t 28]⟩,
    ⟨7, some 30, none, .p .mov, [.t 2]⟩,
    ⟨8, some 31, none, .p (.idx 2), [.t 29, .t 30]⟩,
    ⟨9, some 32, none, .r (.load true 2) false, [.t 31]⟩,
    ⟨10, some 33, none, .e .call [] [], [.f 537, .t 27, .t 32]⟩])
   (.cond (.t 33) (.reg 0 [⟨0, some 34, none, .p .mov, [.t 7]⟩,
    ⟨1, some 35, none, .p .mov, [.t 9]⟩,
    ⟨2, some 36, none, .e .call [] [], [.f 410, .t 34, .t 35]⟩,
    ⟨3, some 7, none, .p .mov, [.t 36]⟩])
   (.skip))))))
   (.reg 0 [⟨0, some 37, none, .p (.bin .add), [.t 16, .c (.int .i64 1)]⟩,
    ⟨1, some 16, none, .p .mov, [.t 37]⟩])))
def g516 : GL.Fn := ⟨.seq (.reg 0 [⟨0, some 3, none, .l (.box 3 3), [.t 0]⟩,
    ⟨1, some 6, none, .p .mov, [.c (.nils)]⟩])
   (.seq (.reg 0 [⟨0, some 7, none, .p .mov, [.c (.nils)]⟩])
   (.seq (.seq (.reg 0 [⟨0, some 10, none, .p (.faddr 2), [.t 3]⟩,
    ⟨1, some 11, none, .l (.load 3 false 1), [.t 10]⟩,
    ⟨2, some 12, none, .p .mov, [.t 1]⟩,
    ⟨3, some 13, none, .p (.idx 1), [.t 11, .t 12]⟩,
    ⟨4, some 14, none, .r (.load false 1) false, [.t 13]⟩,
    ⟨5, some 15, none, .p .len, [.t 14]⟩,
    ⟨6, some 16, none, .p .mov, [.c (.int .i64 0)]⟩])
   (.block 0 (.loop g516_0)))
   (.seq (.reg 0 [⟨0, some 38, none, .p .mov, [.t 7]⟩,
    ⟨1, some 6, none, .p .mov, [.t 38]⟩])
   (.ret)))),
  [.tmp 6]⟩
/- loop.example/g00641/impl.nextDone -/
def g553 : GL.Fn := ⟨.seq (.reg 0 [⟨0, some 6, none, .p .mov, [.c (.nils)]⟩])
   (.seq (.reg 0 [⟨0, some 7, none, .p .mov, [.t 0]⟩,
    ⟨1, some 8, none, .e .call [] [], [.f 557, .t 7]⟩,
    ⟨2, some 9, none, .e .call [] [], [.f 429, .t 8]⟩,
    ⟨3, some 10, none, .p .mov, [.t 0]⟩,
    ⟨4, some 11, none, .p .mov, [.t 1]⟩,
    ⟨5, some 12, none, .e .call [] [], [.f 549, .t 10, .t 11]⟩,
    ⟨6, some 13, none, .e .call [] [], [.f 336, .t 9, .t 12]⟩,
    ⟨7, some 14, none, .p .mov, [.t 2]⟩,
    ⟨8, some 15, none, .e .call [] [], [.f 428, .t 13, .t 14]⟩,
    ⟨9, some 6, none, .p .mov, [.t 15]⟩])
   (.ret)),
  [.tmp 6]⟩
/- loop.example/g00641/spec.GroupBy -/
def g568_0 : GL.Code := .seq (.seq (.reg 0 [⟨0, some 26, none, .p .mov, [.t 9]⟩,
    ⟨1, some 27, none, .p .mov, [.t 1]⟩,
    ⟨2, some 28, none, .p (.bin .lss), [.t 26, .t 27]⟩])
   (.cond (.t 28) (.skip)
   (.exit 0)))
   (.seq (.block 1 (.reg 0 [⟨0, some 31, none, .p .mov, [.t 8]⟩,
    ⟨1, some 32, none, .p .mov, [.t 2]⟩,
    ⟨2, some 33, none, .p .mov, [.t 9]⟩,
    ⟨3, some 34, none, .p (.bin .add), [.t 32, .t 33]⟩,
    ⟨4, some 35, none, .p .mov, [.t 0]⟩,
    ⟨5, some 36, none, .p (.bin .rem), [.t 34, .t 35]⟩,
    ⟨6, some 37, none, .e .call [] [], [.f 410, .t 31, .t 36]⟩,
    ⟨7, some 8, none, .p .mov, [.t 37]⟩]))
   (.reg 0 [⟨0, some 29, none, .p .mov, [.t 9]⟩,
    ⟨1, some 30, none, .p (.bin .add), [.t 29, .c (.int .i64 1)]⟩,
    ⟨2, some 9, none, .p .mov, [.t 30]⟩]))
def g568 : GL.Fn := ⟨.seq (.reg 0 [⟨0, some 6, none, .p .mov, [.c (.nils)]⟩,
    ⟨1, some 7, none, .p .mov, [.c (.bool false)]⟩])
   (.seq (.seq (.reg 0 [⟨0, some 10, none, .p .mov, [.t 0]⟩,
    ⟨1, some 11, none, .e .call [] [], [.f 321, .t 10]⟩,
    ⟨2, some 12, none, .p (.un .not), [.t 11]⟩,
    ⟨3, some 13, none, .p .mov, [.t 12]⟩,
    ⟨4, some 14, some (13, false), .p .mov, [.t 1]⟩,
    ⟨5, some 15, some (13, false), .p .mov, [.t 0]⟩,
    ⟨6, some 16, some (13, false), .e .call [] [], [.f 98, .t 14, .c (.int .i64 1), .t 15]⟩,
    ⟨7, some 17, some (13, false), .p (.un .not), [.t 16]⟩,
    ⟨8, some 18, none, .p .pick, [.t 13, .c (.bool true), .t 17]⟩,
    ⟨9, some 19, none, .p .mov, [.t 18]⟩,
    ⟨10, some 20, some (19, false), .p .mov, [.t 2]⟩,
    ⟨11, some 21, some (19, false), .p .mov, [.t 0]⟩,
    ⟨12, some 22, some (19, false), .p (.bin .sub), [.t 21, .c (.int .i64 1)]⟩,
    ⟨13, some 23, some (19, false), .e .call [] [], [.f 98, .t 20, .c (.int .i64 0), .t 22]⟩,
    ⟨14, some 24, some (19, false), .p (.un .not), [.t 23]⟩,
    ⟨15, some 25, none, .p .pick, [.t 19, .c (.bool true), .t 24]⟩])
   (.cond (.t 25) (.seq (.reg 0 [⟨0, some 6, none, .p .mov, [.c (.nils)]⟩,
    ⟨1, some 7, none, .p .mov, [.c (.bool false)]⟩])
   (.ret))
   (.skip)))
   (.seq (.reg 0 [⟨0, some 8, none, .p .mov, [.c (.nils)]⟩])
   (.seq (.seq (.reg 0 [⟨0, some 9, none, .p .mov, [.c (.int .i64 0)]⟩])
   (.block 0 (.loop g568_0)))
   (.seq (.reg 0 [⟨0, some 38, none, .p .mov, [.t 8]⟩,
    ⟨1, some 6, none, .p .mov, [.t 38]⟩,
    ⟨2, some 7, none, .p .mov, [.c (.bool true)]⟩])
   (.ret))))),
  [.tmp 6, .tmp 7]⟩
/- slices.IndexFunc[[]int,int] -/
def g391_0 : GL.Code := .seq (.reg 0 [⟨0, some 9, none, .p (.bin .lss), [.t 8, .t 7]⟩])
   (.seq (.cond (.t 9) (.skip)
   (.exit 0))
   (.seq (.block 1 (.seq (.reg 0 [⟨0, some 10, none, .p .mov, [.t 8]⟩,
    ⟨1, some 5, none, .p .mov, [.t 10]⟩])
   (.seq (.reg 0 [⟨0, some 11, none, .p .mov, [.t 1]⟩,
    ⟨1, some 12, none, .p .mov, [.t 0]⟩,
    ⟨2, some 13, none, .p .mov, [.t 5]⟩,
    ⟨3, some 14, none, .p (.idx 1), [.t 12, .t 13]⟩,
    ⟨4, some 15, none, .r (.load false 1) false, [.t 14]⟩,
    ⟨5, some 16, none, .e .call [] [], [.t 11, .t 15]⟩])
   (.cond (.t 16) (.seq (.reg 0 [⟨0, some 17, none, .p .mov, [.t 5]⟩,
    ⟨1, some 4, none, .p .mov, [.t 17]⟩])
   (.ret))
   (.skip)))))
   (.reg 0 [⟨0, some 18, none, .p (.bin .add), [.t 8, .c (.int .i64 1)]⟩,
    ⟨1, some 8, none, .p .mov, [.t 18]⟩])))
def g391 : GL.Fn := ⟨.seq (.reg 0 [⟨0, some 4, none, .p .mov, [.c (.int .i64 0)]⟩])
   (.seq (.seq (.reg 0 [⟨0, some 6, none, .p .mov, [.t 0]⟩,
    ⟨1, some 7, none, .p .len, [.t 6]⟩,
    ⟨2, some 8, none, .p .mov, [.c (.int .i64 0)]⟩])
   (.block 0 (.loop g391_0)))
   (.seq (.reg 0 [⟨0, some 4, none, .p .mov, [.c (.int .i64 (-1))]⟩])
   (.ret))),
  [.tmp 4]⟩
/- slices.Compact[[]int,int] -/
def g430_0 : GL.Code := .seq (.seq (.reg 0 [⟨0, some 29, none, .p .mov, [.t 5]⟩,
    ⟨1, some 30, none, .p .mov, [.t 4]⟩,
    ⟨2, some 31, none, .p .len, [.t 30]⟩,
    ⟨3, some 32, none, .p (.bin .lss), [.t 29, .t 31]⟩])
   (.cond (.t 32) (.skip)
   (.exit 2)))
   (.seq (.block 3 (.seq (.reg 0 [⟨0, some 35, none, .p .mov, [.t 4]⟩,
    ⟨1, some 36, none, .p .mov, [.t 5]⟩,
    ⟨2, some 37, none, .p (.idx 1), [.t 35, .t 36]⟩,
    ⟨3, some 38, none, .r (.load false 1) false, [.t 37]⟩,
    ⟨4, some 39, none, .p .mov, [.t 4]⟩,
    ⟨5, some 40, none, .p .mov, [.t 5]⟩,
    ⟨6, some 41, none, .p (.bin .sub), [.t 40, .c (.int .i64 1)]⟩,
    ⟨7, some 42, none, .p (.idx 1), [.t 39, .t 41]⟩,
    ⟨8, some 43, none, .r (.load false 1) false, [.t 42]⟩,
    ⟨9, some 44, none, .p (.bin .neq), [.t 38, .t 43]⟩])
   (.cond (.t 44) (.seq (.reg 0 [⟨0, some 45, none, .p .mov, [.t 0]⟩,
    ⟨1, some 46, none, .p .mov, [.t 3]⟩,
    ⟨2, some 47, none, .p .mov, [.t 4]⟩,
    ⟨3, some 48, none, .p .mov, [.t 5]⟩,
    ⟨4, some 49, none, .p (.idx 1), [.t 47, .t 48]⟩,
    ⟨5, some 50, none, .r (.load false 1) false, [.t 49]⟩,
    ⟨6, some 51, none, .p (.idx 1), [.t 45, .t 46]⟩,
    ⟨7, none, none, .e (.store 1) [] [], [.t 51, .t 50]⟩])
   (.reg 0 [⟨0, some 52, none, .p .mov, [.t 3]⟩,
    ⟨1, some 53, none, .p (.bin .add), [.t 52, .c (.int .i64 1)]⟩,
    ⟨2, some 3, none, .p .mov, [.t 53]⟩]))
   (.skip))))
   (.reg 0 [⟨0, some 33, none, .p .mov, [.t 5]⟩,
    ⟨1, some 34, none, .p (.bin .add), [.t 33, .c (.int .i64 1)]⟩,
    ⟨2, some 5, none, .p .mov, [.t 34]⟩]))
def g430_1 : GL.Code := .seq (.seq (.reg 0 [⟨0, some 10, none, .p .mov, [.t 3]⟩,
    ⟨1, some 11, none, .p .mov, [.t 0]⟩,
    ⟨2, some 12, none, .p .len, [.t 11]⟩,
    ⟨3, some 13, none, .p (.bin .lss), [.t 10, .t 12]⟩])
   (.cond (.t 13) (.skip)
   (.exit 0)))
   (.seq (.block 1 (.seq (.reg 0 [⟨0, some 16, none, .p .mov, [.t 0]⟩,
    ⟨1, some 17, none, .p .mov, [.t 3]⟩,
    ⟨2, some 18, none, .p (.idx 1), [.t 16, .t 17]⟩,
    ⟨3, some 19, none, .r (.load false 1) false, [.t 18]⟩,
    ⟨4, some 20, none, .p .mov, [.t 0]⟩,
    ⟨5, some 21, none, .p .mov, [.t 3]⟩,
    ⟨6, some 22, none, .p (.bin .sub), [.t 21, .c (.int .i64 1)]⟩,
    ⟨7, some 23, none, .p (.idx 1), [.t 20, .t 22]⟩,
    ⟨8, some 24, none, .r (.load false 1) false, [.t 23]⟩,
    ⟨9, some 25, none, .p (.bin .eql), [.t 19, .t 24]⟩])
   (.cond (.t 25) (.seq (.reg 0 [⟨0, some 26, none, .p .mov, [.t 0]⟩,
    ⟨1, some 27, none, .p .mov, [.t 3]⟩,
    ⟨2, some 28, none, .p (.slice 1 true false false), [.t 26, .t 27]⟩,
    ⟨3, some 4, none, .p .mov, [.t 28]⟩])
   (.seq (.seq (.reg 0 [⟨0, some 5, none, .p .mov, [.c (.int .i64 1)]⟩])
   (.block 2 (.loop g430_0)))
   (.seq (.reg 0 [⟨0, some 54, none, .p .mov, [.t 0]⟩,
    ⟨1, some 55, none, .p .mov, [.t 3]⟩,
    ⟨2, some 56, none, .p (.slice 1 true false false), [.t 54, .t 55]⟩,
    ⟨3, none, none, .e (.clear 1 [.int .i64 0]) [] [], [.t 56]⟩])
   (.seq (.reg 0 [⟨0, some 57, none, .p .mov, [.t 0]⟩,
    ⟨1, some 58, none, .p .mov, [.t 3]⟩,
    ⟨2, some 59, none, .p (.slice 1 false true false), [.t 57, .t 58]⟩,
    ⟨3, some 2, none, .p .mov, [.t 59]⟩])
   (.ret)))))
   (.skip))))
   (.reg 0 [⟨0, some 14, none, .p .mov, [.t 3]⟩,
    ⟨1, some 15, none, .p (.bin .add), [.t 14, .c (.int .i64 1)]⟩,
    ⟨2, some 3, none, .p .mov, [.t 15]⟩]))
def g430 : GL.Fn := ⟨.seq (.reg 0 [⟨0, some 2, none, .p .mov, [.c (.nils)]⟩])
   (.seq (.seq (.reg 0 [⟨0, some 6, none, .p .mov, [.t 0]⟩,
    ⟨1, some 7, none, .p .len, [.t 6]⟩,
    ⟨2, some 8, none, .p (.bin .lss), [.t 7, .c (.int .i64 2)]⟩])
   (.cond (.t 8) (.seq (.reg 0 [⟨0, some 9, none, .p .mov, [.t 0]⟩,
    ⟨1, some 2, none, .p .mov, [.t 9]⟩])
   (.ret))
   (.skip)))
   (.seq (.seq (.reg 0 [⟨0, some 3, none, .p .mov, [.c (.int .i64 1)]⟩])
   (.block 0 (.loop g430_1)))
   (.seq (.reg 0 [⟨0, some 60, none, .p .mov, [.t 0]⟩,
    ⟨1, some 2, none, .p .mov, [.t 60]⟩])
   (.ret)))),
  [.tmp 2]⟩
/- slices.Index[[]int,int] -/
def g390_0 : GL.Code := .seq (.reg 0 [⟨0, some 9, none, .p (.bin .lss), [.t 8, .t 7]⟩])
   (.seq (.cond (.t 9) (.skip)
   (.exit 0))
   (.seq (.block 1 (.seq (.reg 0 [⟨0, some 10, none, .p .mov, [.t 8]⟩,
    ⟨1, some 5, none, .p .mov, [.t 10]⟩])
   (.seq (.reg 0 [⟨0, some 11, none, .p .mov, [.t 1]⟩,
    ⟨1, some 12, none, .p .mov, [.t 0]⟩,
    ⟨2, some 13, none, .p .mov, [.t 5]⟩,
    ⟨3, some 14, none, .p (.idx 1), [.t 12, .t 13]⟩,
    ⟨4, some 15, none, .r (.load false 1) false, [.t 14]⟩,
    ⟨5, some 16, none, .p (.bin .eql), [.t 11, .t 15]⟩])
   (.cond (.t 16) (.seq (.reg 0 [⟨0, some 17, none, .p .mov, [.t 5]⟩,
    ⟨1, some 4, none, .p .mov, [.t 17]⟩])
   (.ret))
   (.skip)))))
   (.reg 0 [⟨0, some 18, none, .p (.bin .add), [.t 8, .c (.int .i64 1)]⟩,
    ⟨1, some 8, none, .p .mov, [.t 18]⟩])))
def g390 : GL.Fn := ⟨.seq (.reg 0 [⟨0, some 4, none, .p .mov, [.c (.int .i64 0)]⟩])
   (.seq (.seq (.reg 0 [⟨0, some 6, none, .p .mov, [.t 0]⟩,
    ⟨1, some 7, none, .p .len, [.t 6]⟩,
    ⟨2, some 8, none, .p .mov, [.c (.int .i64 0)]⟩])
   (.block 0 (.loop g390_0)))
   (.seq (.reg 0 [⟨0, some 4, none, .p .mov, [.c (.int .i64 (-1))]⟩])
   (.ret))),
  [.tmp 4]⟩
/- loop.example/g00641/spec.l14Ready -/
def g551_0 : GL.Code := .seq (.reg 0 [⟨0, some 11, none, .p (.bin .lss), [.t 10, .t 9]⟩])
   (.seq (.cond (.t 11) (.skip)
   (.exit 0))
   (.seq (.block 1 (.seq (.reg 0 [⟨0, some 12, none, .p (.idx 1), [.t 8, .t 10]⟩,
    ⟨1, some 13, none, .r (.load false 1) false, [.t 12]⟩,
    ⟨2, some 7, none, .p .mov, [.t 13]⟩])
   (.seq (.reg 0 [⟨0, some 14, none, .p .mov, [.t 0]⟩,
    ⟨1, some 15, none, .p .mov, [.t 7]⟩,
    ⟨2, some 16, none, .e .call [] [], [.f 547, .t 14, .t 15]⟩,
    ⟨3, some 17, none, .p .mov, [.t 1]⟩,
    ⟨4, some 18, none, .e .call [] [], [.f 554, .t 16, .t 17]⟩])
   (.cond (.t 18) (.reg 0 [⟨0, some 19, none, .p .mov, [.t 5]⟩,
    ⟨1, some 20, none, .p .mov, [.t 7]⟩,
    ⟨2, some 21, none, .e (.new (.lit 1)) [] [], [.t 20]⟩,
    ⟨3, some 22, none, .e (.append 1 8) [] [], [.t 19, .t 21]⟩,
    ⟨4, some 5, none, .p .mov, [.t 22]⟩])
   (.skip)))))
   (.reg 0 [⟨0, some 23, none, .p (.bin .add), [.t 10, .c (.int .i64 1)]⟩,
    ⟨1, some 10, none, .p .mov, [.t 23]⟩])))
def g551 : GL.Fn := ⟨.seq (.reg 0 [⟨0, some 4, none, .p .mov, [.c (.nils)]⟩])
   (.seq (.reg 0 [⟨0, some 5, none, .p .mov, [.c (.nils)]⟩])
   (.seq (.seq (.reg 0 [⟨0, some 8, none, .p .mov, [.t 1]⟩,
    ⟨1, some 9, none, .p .len, [.t 8]⟩,
    ⟨2, some 10, none, .p .mov, [.c (.int .i64 0)]⟩])
   (.block 0 (.loop g551_0)))
   (.seq (.reg 0 [⟨0, some 24, none, .p .mov, [.t 5]⟩,
    ⟨1, some 4, none, .p .mov, [.t 24]⟩])
   (.ret)))),
  [.tmp 4]⟩
/- slices.IndexFunc[[]loop.example/g00641/impl.Deed,loop.example/g00641/impl.Deed] -/
def g569_0 : GL.Code := .seq (.reg 0 [⟨0, some 9, none, .p (.bin .lss), [.t 8, .t 7]⟩])
   (.seq (.cond (.t 9) (.skip)
   (.exit 0))
   (.seq (.block 1 (.seq (.reg 0 [⟨0, some 10, none, .p .mov, [.t 8]⟩,
    ⟨1, some 5, none, .p .mov, [.t 10]⟩])
   (.seq (.reg 0 [⟨0, some 11, none, .p .mov, [.t 1]⟩,
    ⟨1, some 12, none, .p .mov, [.t 0]⟩,
    ⟨2, some 13, none, .p .mov, [.t 5]⟩,
    ⟨3, some 14, none, .p (.idx 2), [.t 12, .t 13]⟩,
    ⟨4, some 15, none, .r (.load true 2) false, [.t 14]⟩,
    ⟨5, some 16, none, .e .call [] [], [.t 11, .t 15]⟩])
   (.cond (.t 16) (.seq (.reg 0 [⟨0, some 17, none, .p .mov, [.t 5]⟩,
    ⟨1, some 4, none, .p .mov, [.t 17]⟩])
   (.ret))
   (.skip)))))
   (.reg 0 [⟨0, some 18, none, .p (.bin .add), [.t 8, .c (.int .i64 1)]⟩,
    ⟨1, some 8, none, .p .mov, [.t 18]⟩])))
def g569 : GL.Fn := ⟨.seq (.reg 0 [⟨0, some 4, none, .p .mov, [.c (.int .i64 0)]⟩])
   (.seq (.seq (.reg 0 [⟨0, some 6, none, .p .mov, [.t 0]⟩,
    ⟨1, some 7, none, .p .len, [.t 6]⟩,
    ⟨2, some 8, none, .p .mov, [.c (.int .i64 0)]⟩])
   (.block 0 (.loop g569_0)))
   (.seq (.reg 0 [⟨0, some 4, none, .p .mov, [.c (.int .i64 (-1))]⟩])
   (.ret))),
  [.tmp 4]⟩
/- loop.example/g00641/impl.clashing -/
def g535 : GL.Fn := ⟨.seq (.reg 0 [⟨0, some 2, none, .l (.box 2 2), [.t 0]⟩,
    ⟨1, some 3, none, .l (.box 3 2), [.t 1]⟩,
    ⟨2, some 4, none, .p .mov, [.c (.bool false)]⟩])
   (.seq (.reg 0 [⟨0, some 5, none, .p (.faddr 0), [.t 2]⟩,
    ⟨1, some 6, none, .l (.load 2 false 1), [.t 5]⟩,
    ⟨2, some 7, none, .p (.faddr 0), [.t 3]⟩,
    ⟨3, some 8, none, .l (.load 3 false 1), [.t 7]⟩,
    ⟨4, some 9, none, .p (.bin .eql), [.t 6, .t 8]⟩,
    ⟨5, some 10, none, .p .mov, [.t 9]⟩,
    ⟨6, some 11, some (10, true), .p (.faddr 1), [.t 2]⟩,
    ⟨7, some 12, some (10, true), .l (.load 2 false 1), [.t 11]⟩,
    ⟨8, some 13, some (10, true), .p .mov, [.t 12]⟩,
    ⟨9, some 14, some (13, false), .p (.faddr 1), [.t 3]⟩,
    ⟨10, some 15, some (13, false), .l (.load 3 false 1), [.t 14]⟩,
    ⟨11, some 16, some (10, true), .p .pick, [.t 13, .c (.bool true), .t 15]⟩,
    ⟨12, some 17, none, .p .pick, [.t 10, .t 16, .c (.bool false)]⟩,
    ⟨13, some 4, none, .p .mov, [.t 17]⟩])
   (.ret)),
  [.tmp 4]⟩
/- loop.example/g00641/spec.l13Clash -/
def g537 : GL.Fn := ⟨.seq (.reg 0 [⟨0, some 2, none, .l (.box 2 2), [.t 0]⟩,
    ⟨1, some 3, none, .l (.box 3 2), [.t 1]⟩,
    ⟨2, some 4, none, .p .mov, [.c (.bool false)]⟩])
   (.seq (.reg 0 [⟨0, some 5, none, .p (.faddr 0), [.t 2]⟩,
    ⟨1, some 6, none, .l (.load 2 false 1), [.t 5]⟩,
    ⟨2, some 7, none, .p (.faddr 0), [.t 3]⟩,
    ⟨3, some 8, none, .l (.load 3 false 1), [.t 7]⟩,
    ⟨4, some 9, none, .p (.bin .eql), [.t 6, .t 8]⟩,
    ⟨5, some 10, none, .p .mov, [.t 9]⟩,
    ⟨6, some 11, some (10, true), .p (.faddr 1), [.t 2]⟩,
    ⟨7, some 12, some (10, true), .l (.load 2 false 1), [.t 11]⟩,
    ⟨8, some 13, some (10, true), .p .mov, [.t 12]⟩,
    ⟨9, some 14, some (13, false), .p (.faddr 1), [.t 3]⟩,
    ⟨10, some 15, some (13, false), .l (.load 3 false 1), [.t 14]⟩,
    ⟨11, some 16, some (10, true), .p .pick, [.t 13, .c (.bool true), .t 15]⟩,
    ⟨12, some 17, none, .p .pick, [.t 10, .t 16, .c (.bool false)]⟩,
    ⟨13, some 4, none, .p .mov, [.t 17]⟩])
   (.ret)),
  [.tmp 4]⟩
/- loop.example/g00641/impl.without -/
def g428 : GL.Fn := ⟨.seq (.reg 0 [⟨0, some 3, none, .e (.new (.box 1)) [] [], [.t 1]⟩,
    ⟨1, some 4, none, .p .mov, [.c (.nils)]⟩])
   (.seq (.reg 0 [⟨0, some 5, none, .p .mov, [.t 0]⟩,
    ⟨1, some 6, none, .e .call [] [], [.f 389, .t 5]⟩,
    ⟨2, some 7, none, .p (.mkFn 435), [.t 3]⟩,
    ⟨3, some 8, none, .e .call [] [], [.f 397, .t 6, .t 7]⟩,
    ⟨4, some 4, none, .p .mov, [.t 8]⟩])
   (.ret)),
  [.tmp 4]⟩
/- loop.example/g00641/impl.both -/
def g336 : GL.Fn := ⟨.seq (.reg 0 [⟨0, some 3, none, .e (.new (.box 1)) [] [], [.t 1]⟩,
    ⟨1, some 4, none, .p .mov, [.c (.nils)]⟩])
   (.seq (.reg 0 [⟨0, some 5, none, .p .mov, [.t 0]⟩,
    ⟨1, some 6, none, .e .call [] [], [.f 389, .t 5]⟩,
    ⟨2, some 7, none, .p (.mkFn 396), [.t 3]⟩,
    ⟨3, some 8, none, .e .call [] [], [.f 397, .t 6, .t 7]⟩,
    ⟨4, some 4, none, .p .mov, [.t 8]⟩])
   (.ret)),
  [.tmp 4]⟩
/- loop.example/g00641/impl.ready -/
def g549 : GL.Fn := ⟨.seq (.reg 0 [⟨0, some 2, none, .e (.new (.box 1)) [] [], [.t 0]⟩,
    ⟨1, some 3, none, .e (.new (.box 1)) [] [], [.t 1]⟩,
    ⟨2, some 4, none, .p .mov, [.c (.nils)]⟩])
   (.seq (.reg 0 [⟨0, some 5, none, .r (.load false 1) false, [.t 3]⟩,
    ⟨1, some 6, none, .e .call [] [], [.f 389, .t 5]⟩,
    ⟨2, some 7, none, .p (.mkFn 571), [.t 3, .t 2]⟩,
    ⟨3, some 8, none, .e .call [] [], [.f 397, .t 6, .t 7]⟩,
    ⟨4, some 4, none, .p .mov, [.t 8]⟩])
   (.ret)),
  [.tmp 4]⟩
/- loop.example/g00641/impl.without$1 -/
def g435 : GL.Fn := ⟨.seq (.reg 0 [⟨0, some 3, none, .p .mov, [.c (.bool false)]⟩])
   (.seq (.reg 0 [⟨0, some 4, none, .r (.load false 1) false, [.t 1]⟩,
    ⟨1, some 5, none, .p .mov, [.t 0]⟩,
    ⟨2, some 6, none, .e .call [] [], [.f 301, .t 4, .t 5]⟩,
    ⟨3, some 3, none, .p .mov, [.t 6]⟩])
   (.ret)),
  [.tmp 3]⟩
/- loop.example/g00641/impl.both$1 -/
def g396 : GL.Fn := ⟨.seq (.reg 0 [⟨0, some 3, none, .p .mov, [.c (.bool false)]⟩])
   (.seq (.reg 0 [⟨0, some 4, none, .r (.load false 1) false, [.t 1]⟩,
    ⟨1, some 5, none, .p .mov, [.t 0]⟩,
    ⟨2, some 6, none, .e .call [] [], [.f 301, .t 4, .t 5]⟩,
    ⟨3, some 7, none, .p (.un .not), [.t 6]⟩,
    ⟨4, some 3, none, .p .mov, [.t 7]⟩])
   (.ret)),
  [.tmp 3]⟩
/- loop.example/g00641/impl.ready$1 -/
def g571 : GL.Fn := ⟨.seq (.reg 0 [⟨0, some 4, none, .p .mov, [.c (.bool false)]⟩])
   (.seq (.reg 0 [⟨0, some 5, none, .r (.load false 1) true, [.t 1]⟩,
    ⟨1, some 6, none, .r (.load false 1) false, [.t 2]⟩,
    ⟨2, some 7, none, .p .mov, [.t 0]⟩,
    ⟨3, some 8, none, .e .call [0] [], [.f 545, .t 6, .t 7]⟩,
    ⟨4, some 9, none, .e .call [] [], [.f 552, .t 5, .t 8]⟩,
    ⟨5, some 10, none, .p (.un .not), [.t 9]⟩,
    ⟨6, some 4, none, .p .mov, [.t 10]⟩])
   (.ret)),
  [.tmp 4]⟩
end GL
