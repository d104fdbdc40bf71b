import Derived.Test.YtmgbbehacaldlaaGreatGlA
/- GL code of functions. -/
set_option linter.unusedSimpArgs false
set_option linter.unusedVariables false
set_option linter.unnecessarySimpa false
namespace GL
open Go
/- loop.example/g00641/laws.FnPieces -/
def g703 : GL.Fn := ⟨.seq (.reg 0 [⟨0, some 4, none, .p .mov, [.c (.bool false)]⟩])
   (.seq (.seq (.reg 0 [⟨0, some 38, none, .p .mov, [.t 0]⟩,
    ⟨1, some 39, none, .p .len, [.t 38]⟩,
    ⟨2, some 40, none, .p .mov, [.t 1]⟩,
    ⟨3, some 41, none, .p .len, [.t 40]⟩,
    ⟨4, some 42, none, .p (.bin .add), [.t 39, .t 41]⟩,
    ⟨5, some 43, none, .p (.bin .gtr), [.t 42, .c (.int .i64 1048576)]⟩])
   (.cond (.t 43) (.seq (.reg 0 [⟨0, some 4, none, .p .mov, [.c (.bool true)]⟩])
   (.ret))
   (.skip)))
   (.seq (.reg 0 [⟨0, some 45, none, .p .mov, [.t 0]⟩,
    ⟨1, some 46, none, .e .call [] [], [.f 704, .t 45]⟩,
    ⟨2, some 44, none, .p .mov, [.t 46]⟩,
    ⟨3, some 47, none, .p (.extract 0), [.t 44]⟩,
    ⟨4, some 48, none, .p (.extract 1), [.t 44]⟩,
    ⟨5, some 49, none, .p (.extract 2), [.t 44]⟩,
    ⟨6, some 5, none, .p .mov, [.t 47]⟩,
    ⟨7, some 6, none, .p .mov, [.t 48]⟩,
    ⟨8, some 7, none, .p .mov, [.t 49]⟩])
   (.seq (.reg 0 [⟨0, some 51, none, .p .mov, [.t 5]⟩,
    ⟨1, some 52, none, .p .mov, [.t 6]⟩,
    ⟨2, some 53, none, .p .mov, [.t 7]⟩,
    ⟨3, some 54, none, .e .call [] [], [.f 705, .t 51, .t 52, .t 53]⟩,
    ⟨4, some 50, none, .p .mov, [.t 54]⟩,
    ⟨5, some 55, none, .p (.extract 0), [.t 50]⟩,
    ⟨6, some 56, none, .p (.extract 1), [.t 50]⟩,
    ⟨7, some 57, none, .p (.extract 2), [.t 50]⟩,
    ⟨8, some 8, none, .p .mov, [.t 55]⟩,
    ⟨9, some 9, none, .p .mov, [.t 56]⟩,
    ⟨10, some 10, none, .p .mov, [.t 57]⟩])
   (.seq (.reg 0 [⟨0, some 59, none, .p .mov, [.t 5]⟩,
    ⟨1, some 60, none, .p .mov, [.t 6]⟩,
    ⟨2, some 61, none, .p .mov, [.t 7]⟩,
    ⟨3, some 62, none, .e .call [] [], [.f 706, .t 59, .t 60, .t 61]⟩,
    ⟨4, some 58, none, .p .mov, [.t 62]⟩,
    ⟨5, some 63, none, .p (.extract 0), [.t 58]⟩,
    ⟨6, some 64, none, .p (.extract 1), [.t 58]⟩,
    ⟨7, some 65, none, .p (.extract 2), [.t 58]⟩,
    ⟨8, some 11, none, .p .mov, [.t 63]⟩,
    ⟨9, some 12, none, .p .mov, [.t 64]⟩,
    ⟨10, some 13, none, .p .mov, [.t 65]⟩])
   (.seq (.reg 0 [⟨0, some 67, none, .p .mov, [.t 5]⟩,
    ⟨1, some 68, none, .p .mov, [.t 6]⟩,
    ⟨2, some 69, none, .e .call [] [], [.f 579, .t 67, .t 68]⟩,
    ⟨3, some 66, none, .p .mov, [.t 69]⟩,
    ⟨4, some 70, none, .p (.extract 0), [.t 66]⟩,
    ⟨5, some 71, none, .p (.extract 1), [.t 66]⟩,
    ⟨6, some 72, none, .p (.extract 2), [.t 66]⟩,
    ⟨7, some 14, none, .p .mov, [.t 70]⟩,
    ⟨8, some 15, none, .p .mov, [.t 71]⟩,
    ⟨9, some 16, none, .p .mov, [.t 72]⟩])
   (.seq (.reg 0 [⟨0, some 74, none, .p .mov, [.t 5]⟩,
    ⟨1, some 75, none, .p .mov, [.t 6]⟩,
    ⟨2, some 76, none, .e .call [] [], [.f 707, .t 74, .t 75]⟩,
    ⟨3, some 73, none, .p .mov, [.t 76]⟩,
    ⟨4, some 77, none, .p (.extract 0), [.t 73]⟩,
    ⟨5, some 78, none, .p (.extract 1), [.t 73]⟩,
    ⟨6, some 79, none, .p (.extract 2), [.t 73]⟩,
    ⟨7, some 17, none, .p .mov, [.t 77]⟩,
    ⟨8, some 18, none, .p .mov, [.t 78]⟩,
    ⟨9, some 19, none, .p .mov, [.t 79]⟩])
   (.seq (.seq (.reg 0 [⟨0, some 80, none, .p .mov, [.t 10]⟩,
    ⟨1, some 81, none, .p .mov, [.t 13]⟩,
    ⟨2, some 82, none, .p (.eqB true), [.t 80, .t 81]⟩,
    ⟨3, some 83, none, .p .mov, [.t 82]⟩,
    ⟨4, some 84, some (83, false), .p .mov, [.t 8]⟩,
    ⟨5, some 85, some (83, false), .p .mov, [.t 11]⟩,
    ⟨6, some 86, some (83, false), .e .call [] [], [.f 24, .t 84, .t 85]⟩,
    ⟨7, some 87, some (83, false), .p (.un .not), [.t 86]⟩,
    ⟨8, some 88, none, .p .pick, [.t 83, .c (.bool true), .t 87]⟩,
    ⟨9, some 89, none, .p .mov, [.t 88]⟩,
    ⟨10, some 90, some (89, false), .p .mov, [.t 9]⟩,
    ⟨11, some 91, some (89, false), .p .mov, [.t 12]⟩,
    ⟨12, some 92, some (89, false), .e .call [] [], [.f 24, .t 90, .t 91]⟩,
    ⟨13, some 93, some (89, false), .p (.un .not), [.t 92]⟩,
    ⟨14, some 94, none, .p .pick, [.t 89, .c (.bool true), .t 93]⟩,
    ⟨15, some 95, none, .p .mov, [.t 94]⟩,
    ⟨16, some 96, some (95, false), .p .mov, [.t 16]⟩,
    ⟨17, some 97, some (95, false), .p .mov, [.t 19]⟩,
    ⟨18, some 98, some (95, false), .p (.eqB true), [.t 96, .t 97]⟩,
    ⟨19, some 99, none, .p .pick, [.t 95, .c (.bool true), .t 98]⟩,
    ⟨20, some 100, none, .p .mov, [.t 99]⟩,
    ⟨21, some 101, some (100, false), .p .mov, [.t 14]⟩,
    ⟨22, some 102, some (100, false), .p .mov, [.t 17]⟩,
    ⟨23, some 103, some (100, false), .e .call [] [], [.f 24, .t 101, .t 102]⟩,
    ⟨24, some 104, some (100, false), .p (.un .not), [.t 103]⟩,
    ⟨25, some 105, none, .p .pick, [.t 100, .c (.bool true), .t 104]⟩,
    ⟨26, some 106, none, .p .mov, [.t 105]⟩,
    ⟨27, some 107, some (106, false), .p .mov, [.t 15]⟩,
    ⟨28, some 108, some (106, false), .p .mov, [.t 18]⟩,
    ⟨29, some 109, some (106, false), .e .call [] [], [.f 24, .t 107, .t 108]⟩,
    ⟨30, some 110, some (106, false), .p (.un .not), [.t 109]⟩,
    ⟨31, some 111, none, .p .pick, [.t 106, .c (.bool true), .t 110]⟩])
   (.cond (.t 111) (.seq (.reg 0 [⟨0, some 4, none, .p .mov, [.c (.bool false)]⟩])
   (.ret))
   (.skip)))
   (.seq (.seq (.reg 0 [⟨0, some 112, none, .p .mov, [.t 10]⟩,
    ⟨1, some 113, none, .p .mov, [.t 112]⟩,
    ⟨2, some 114, some (113, true), .p .mov, [.t 16]⟩,
    ⟨3, some 115, some (113, true), .p (.un .not), [.t 114]⟩,
    ⟨4, some 116, some (113, true), .p .mov, [.t 115]⟩,
    ⟨5, some 117, some (116, false), .p .mov, [.t 8]⟩,
    ⟨6, some 118, some (116, false), .p .mov, [.t 14]⟩,
    ⟨7, some 119, some (116, false), .e .call [] [], [.f 24, .t 117, .t 118]⟩,
    ⟨8, some 120, some (116, false), .p (.un .not), [.t 119]⟩,
    ⟨9, some 121, some (113, true), .p .pick, [.t 116, .c (.bool true), .t 120]⟩,
    ⟨10, some 122, some (113, true), .p .mov, [.t 121]⟩,
    ⟨11, some 123, some (122, false), .p .mov, [.t 9]⟩,
    ⟨12, some 124, some (122, false), .p .mov, [.t 15]⟩,
    ⟨13, some 125, some (122, false), .e .call [] [], [.f 24, .t 123, .t 124]⟩,
    ⟨14, some 126, some (122, false), .p (.un .not), [.t 125]⟩,
    ⟨15, some 127, some (113, true), .p .pick, [.t 122, .c (.bool true), .t 126]⟩,
    ⟨16, some 128, none, .p .pick, [.t 113, .t 127, .c (.bool false)]⟩])
   (.cond (.t 128) (.seq (.reg 0 [⟨0, some 4, none, .p .mov, [.c (.bool false)]⟩])
   (.ret))
   (.skip)))
   (.seq (.seq (.reg 0 [⟨0, some 129, none, .p .mov, [.t 16]⟩])
   (.cond (.t 129) (.seq (.reg 0 [⟨0, some 131, none, .p .mov, [.t 6]⟩,
    ⟨1, some 132, none, .e .call [] [], [.f 708, .t 131]⟩,
    ⟨2, some 130, none, .p .mov, [.t 132]⟩,
    ⟨3, some 133, none, .p (.extract 0), [.t 130]⟩,
    ⟨4, some 134, none, .p (.extract 1), [.t 130]⟩,
    ⟨5, some 20, none, .p .mov, [.t 133]⟩,
    ⟨6, some 21, none, .p .mov, [.t 134]⟩])
   (.seq (.reg 0 [⟨0, some 136, none, .p .mov, [.t 6]⟩,
    ⟨1, some 137, none, .e .call [] [], [.f 709, .t 136]⟩,
    ⟨2, some 135, none, .p .mov, [.t 137]⟩,
    ⟨3, some 138, none, .p (.extract 0), [.t 135]⟩,
    ⟨4, some 139, none, .p (.extract 1), [.t 135]⟩,
    ⟨5, some 22, none, .p .mov, [.t 138]⟩,
    ⟨6, some 23, none, .p .mov, [.t 139]⟩])
   (.seq (.reg 0 [⟨0, some 141, none, .p .mov, [.t 22]⟩,
    ⟨1, some 142, none, .e .call [] [], [.f 498, .t 141]⟩,
    ⟨2, some 140, none, .p .mov, [.t 142]⟩,
    ⟨3, some 143, none, .p (.extract 0), [.t 140]⟩,
    ⟨4, some 144, none, .p (.extract 1), [.t 140]⟩,
    ⟨5, some 24, none, .p .mov, [.t 143]⟩,
    ⟨6, some 25, none, .p .mov, [.t 144]⟩])
   (.seq (.reg 0 [⟨0, some 146, none, .p .mov, [.t 5]⟩,
    ⟨1, some 147, none, .p .mov, [.t 6]⟩,
    ⟨2, some 148, none, .p .mov, [.t 24]⟩,
    ⟨3, some 149, none, .e .call [] [], [.f 705, .t 146, .t 147, .t 148]⟩,
    ⟨4, some 145, none, .p .mov, [.t 149]⟩,
    ⟨5, some 150, none, .p (.extract 0), [.t 145]⟩,
    ⟨6, some 151, none, .p (.extract 1), [.t 145]⟩,
    ⟨7, some 152, none, .p (.extract 2), [.t 145]⟩,
    ⟨8, some 26, none, .p .mov, [.t 150]⟩,
    ⟨9, some 27, none, .p .mov, [.t 151]⟩,
    ⟨10, some 28, none, .p .mov, [.t 152]⟩])
   (.seq (.reg 0 [⟨0, some 153, none, .p .mov, [.t 21]⟩,
    ⟨1, some 154, none, .p (.un .not), [.t 153]⟩,
    ⟨2, some 155, none, .p .mov, [.t 154]⟩,
    ⟨3, some 156, some (155, false), .p .mov, [.t 23]⟩,
    ⟨4, some 157, some (155, false), .p (.un .not), [.t 156]⟩,
    ⟨5, some 158, none, .p .pick, [.t 155, .c (.bool true), .t 157]⟩,
    ⟨6, some 159, none, .p .mov, [.t 158]⟩,
    ⟨7, some 160, some (159, false), .p .mov, [.t 25]⟩,
    ⟨8, some 161, some (159, false), .p (.un .not), [.t 160]⟩,
    ⟨9, some 162, none, .p .pick, [.t 159, .c (.bool true), .t 161]⟩,
    ⟨10, some 163, none, .p .mov, [.t 162]⟩,
    ⟨11, some 164, some (163, false), .p .mov, [.t 20]⟩,
    ⟨12, some 165, some (163, false), .p .mov, [.t 28]⟩,
    ⟨13, some 166, some (163, false), .p (.eqB true), [.t 164, .t 165]⟩,
    ⟨14, some 167, none, .p .pick, [.t 163, .c (.bool true), .t 166]⟩])
   (.cond (.t 167) (.seq (.reg 0 [⟨0, some 4, none, .p .mov, [.c (.bool false)]⟩])
   (.ret))
   (.skip)))))))
   (.skip)))
   (.seq (.reg 0 [⟨0, some 168, none, .p .mov, [.t 1]⟩,
    ⟨1, some 169, none, .e .call [] [], [.f 710, .t 168]⟩,
    ⟨2, some 29, none, .p .mov, [.t 169]⟩])
   (.seq (.reg 0 [⟨0, some 171, none, .p .mov, [.t 29]⟩,
    ⟨1, some 172, none, .e .call [] [], [.f 708, .t 171]⟩,
    ⟨2, some 170, none, .p .mov, [.t 172]⟩,
    ⟨3, some 173, none, .p (.extract 0), [.t 170]⟩,
    ⟨4, some 174, none, .p (.extract 1), [.t 170]⟩,
    ⟨5, some 30, none, .p .mov, [.t 173]⟩,
    ⟨6, some 31, none, .p .mov, [.t 174]⟩])
   (.seq (.reg 0 [⟨0, some 176, none, .p .mov, [.t 29]⟩,
    ⟨1, some 177, none, .e .call [] [], [.f 711, .t 176]⟩,
    ⟨2, some 175, none, .p .mov, [.t 177]⟩,
    ⟨3, some 178, none, .p (.extract 0), [.t 175]⟩,
    ⟨4, some 179, none, .p (.extract 1), [.t 175]⟩,
    ⟨5, some 32, none, .p .mov, [.t 178]⟩,
    ⟨6, some 33, none, .p .mov, [.t 179]⟩])
   (.seq (.reg 0 [⟨0, some 181, none, .p .mov, [.t 29]⟩,
    ⟨1, some 182, none, .e .call [] [], [.f 709, .t 181]⟩,
    ⟨2, some 180, none, .p .mov, [.t 182]⟩,
    ⟨3, some 183, none, .p (.extract 0), [.t 180]⟩,
    ⟨4, some 184, none, .p (.extract 1), [.t 180]⟩,
    ⟨5, some 34, none, .p .mov, [.t 183]⟩,
    ⟨6, some 35, none, .p .mov, [.t 184]⟩])
   (.seq (.reg 0 [⟨0, some 186, none, .p .mov, [.t 29]⟩,
    ⟨1, some 187, none, .e .call [] [], [.f 712, .t 186]⟩,
    ⟨2, some 185, none, .p .mov, [.t 187]⟩,
    ⟨3, some 188, none, .p (.extract 0), [.t 185]⟩,
    ⟨4, some 189, none, .p (.extract 1), [.t 185]⟩,
    ⟨5, some 36, none, .p .mov, [.t 188]⟩,
    ⟨6, some 37, none, .p .mov, [.t 189]⟩])
   (.seq (.reg 0 [⟨0, some 190, none, .p .mov, [.t 31]⟩,
    ⟨1, some 191, none, .p .mov, [.t 33]⟩,
    ⟨2, some 192, none, .p (.eqB false), [.t 190, .t 191]⟩,
    ⟨3, some 193, none, .p .mov, [.t 192]⟩,
    ⟨4, some 194, some (193, true), .p .mov, [.t 30]⟩,
    ⟨5, some 195, some (193, true), .p .mov, [.t 32]⟩,
    ⟨6, some 196, some (193, true), .p (.eqB false), [.t 194, .t 195]⟩,
    ⟨7, some 197, none, .p .pick, [.t 193, .t 196, .c (.bool false)]⟩,
    ⟨8, some 198, none, .p .mov, [.t 197]⟩,
    ⟨9, some 199, some (198, true), .p .mov, [.t 35]⟩,
    ⟨10, some 200, some (198, true), .p .mov, [.t 37]⟩,
    ⟨11, some 201, some (198, true), .p (.eqB false), [.t 199, .t 200]⟩,
    ⟨12, some 202, none, .p .pick, [.t 198, .t 201, .c (.bool false)]⟩,
    ⟨13, some 203, none, .p .mov, [.t 202]⟩,
    ⟨14, some 204, some (203, true), .p .mov, [.t 34]⟩,
    ⟨15, some 205, some (203, true), .p .mov, [.t 36]⟩,
    ⟨16, some 206, some (203, true), .e .call [] [], [.f 383, .t 204, .t 205]⟩,
    ⟨17, some 207, none, .p .pick, [.t 203, .t 206, .c (.bool false)]⟩,
    ⟨18, some 208, none, .p .mov, [.t 207]⟩,
    ⟨19, some 209, some (208, true), .p .mov, [.t 29]⟩,
    ⟨20, some 210, some (208, true), .e .call [] [], [.f 597, .t 209]⟩,
    ⟨21, some 211, some (208, true), .p .mov, [.t 29]⟩,
    ⟨22, some 212, some (208, true), .e .call [] [], [.f 601, .t 211]⟩,
    ⟨23, some 213, some (208, true), .p (.eqB false), [.t 210, .t 212]⟩,
    ⟨24, some 214, none, .p .pick, [.t 208, .t 213, .c (.bool false)]⟩,
    ⟨25, some 4, none, .p .mov, [.t 214]⟩])
   (.ret)))))))))))))))),
  [.tmp 4]⟩
/- loop.example/g00641/laws.sameRows -/
def g383_0 : GL.Code := .seq (.reg 0 [⟨0, some 14, none, .p (.bin .lss), [.t 13, .t 12]⟩])
   (.seq (.cond (.t 14) (.skip)
   (.exit 0))
   (.seq (.block 1 (.seq (.reg 0 [⟨0, some 15, none, .p .mov, [.t 13]⟩,
    ⟨1, some 5, none, .p .mov, [.t 15]⟩])
   (.seq (.reg 0 [⟨0, some 16, none, .p .mov, [.t 0]⟩,
    ⟨1, some 17, none, .p .mov, [.t 5]⟩,
    ⟨2, some 18, none, .p (.idx 1), [.t 16, .t 17]⟩,
    ⟨3, some 19, none, .r (.load false 1) false, [.t 18]⟩,
    ⟨4, some 20, none, .p .mov, [.t 1]⟩,
    ⟨5, some 21, none, .p .mov, [.t 5]⟩,
    ⟨6, some 22, none, .p (.idx 1), [.t 20, .t 21]⟩,
    ⟨7, some 23, none, .r (.load false 1) false, [.t 22]⟩,
    ⟨8, some 24, none, .e .call [] [], [.f 24, .t 19, .t 23]⟩,
    ⟨9, some 25, none, .p (.un .not), [.t 24]⟩])
   (.cond (.t 25) (.seq (.reg 0 [⟨0, some 4, none, .p .mov, [.c (.bool false)]⟩])
   (.ret))
   (.skip)))))
   (.reg 0 [⟨0, some 26, none, .p (.bin .add), [.t 13, .c (.int .i64 1)]⟩,
    ⟨1, some 13, none, .p .mov, [.t 26]⟩])))
def g383 : GL.Fn := ⟨.seq (.reg 0 [⟨0, some 4, none, .p .mov, [.c (.bool false)]⟩])
   (.seq (.seq (.reg 0 [⟨0, some 6, none, .p .mov, [.t 0]⟩,
    ⟨1, some 7, none, .p .len, [.t 6]⟩,
    ⟨2, some 8, none, .p .mov, [.t 1]⟩,
    ⟨3, some 9, none, .p .len, [.t 8]⟩,
    ⟨4, some 10, none, .p (.bin .neq), [.t 7, .t 9]⟩])
   (.cond (.t 10) (.seq (.reg 0 [⟨0, some 4, none, .p .mov, [.c (.bool false)]⟩])
   (.ret))
   (.skip)))
   (.seq (.seq (.reg 0 [⟨0, some 11, none, .p .mov, [.t 0]⟩,
    ⟨1, some 12, none, .p .len, [.t 11]⟩,
    ⟨2, some 13, none, .p .mov, [.c (.int .i64 0)]⟩])
   (.block 0 (.loop g383_0)))
   (.seq (.reg 0 [⟨0, some 4, none, .p .mov, [.c (.bool true)]⟩])
   (.ret)))),
  [.tmp 4]⟩
/- loop.example/g00641/laws.sameInts -/
def g24_0 : GL.Code := .seq (.reg 0 [⟨0, some 14, none, .p (.bin .lss), [.t 13, .t 12]⟩])
   (.seq (.cond (.t 14) (.skip)
   (.exit 0))
   (.seq (.block 1 (.seq (.reg 0 [⟨0, some 15, none, .p .mov, [.t 13]⟩,
    ⟨1, some 5, none, .p .mov, [.t 15]⟩])
   (.seq (.reg 0 [⟨0, some 16, none, .p .mov, [.t 0]⟩,
    ⟨1, some 17, none, .p .mov, [.t 5]⟩,
    ⟨2, some 18, none, .p (.idx 1), [.t 16, .t 17]⟩,
    ⟨3, some 19, none, .r (.load false 1) false, [.t 18]⟩,
    ⟨4, some 20, none, .p .mov, [.t 1]⟩,
    ⟨5, some 21, none, .p .mov, [.t 5]⟩,
    ⟨6, some 22, none, .p (.idx 1), [.t 20, .t 21]⟩,
    ⟨7, some 23, none, .r (.load false 1) false, [.t 22]⟩,
    ⟨8, some 24, none, .p (.bin .neq), [.t 19, .t 23]⟩])
   (.cond (.t 24) (.seq (.reg 0 [⟨0, some 4, none, .p .mov, [.c (.bool false)]⟩])
   (.ret))
   (.skip)))))
   (.reg 0 [⟨0, some 25, none, .p (.bin .add), [.t 13, .c (.int .i64 1)]⟩,
    ⟨1, some 13, none, .p .mov, [.t 25]⟩])))
def g24 : GL.Fn := ⟨.seq (.reg 0 [⟨0, some 4, none, .p .mov, [.c (.bool false)]⟩])
   (.seq (.seq (.reg 0 [⟨0, some 6, none, .p .mov, [.t 0]⟩,
    ⟨1, some 7, none, .p .len, [.t 6]⟩,
    ⟨2, some 8, none, .p .mov, [.t 1]⟩,
    ⟨3, some 9, none, .p .len, [.t 8]⟩,
    ⟨4, some 10, none, .p (.bin .neq), [.t 7, .t 9]⟩])
   (.cond (.t 10) (.seq (.reg 0 [⟨0, some 4, none, .p .mov, [.c (.bool false)]⟩])
   (.ret))
   (.skip)))
   (.seq (.seq (.reg 0 [⟨0, some 11, none, .p .mov, [.t 0]⟩,
    ⟨1, some 12, none, .p .len, [.t 11]⟩,
    ⟨2, some 13, none, .p .mov, [.c (.int .i64 0)]⟩])
   (.block 0 (.loop g24_0)))
   (.seq (.reg 0 [⟨0, some 4, none, .p .mov, [.c (.bool true)]⟩])
   (.ret)))),
  [.tmp 4]⟩
/- loop.example/g00641/spec.DrawRunPieces -/
def g704 : GL.Fn := ⟨.seq (.reg 0 [⟨0, some 2, none, .p .mov, [.c (.nils)]⟩,
    ⟨1, some 3, none, .p .mov, [.c (.nils)]⟩,
    ⟨2, some 4, none, .p .mov, [.c (.nils)]⟩])
   (.seq (.reg 0 [⟨0, some 13, none, .p .mov, [.t 0]⟩,
    ⟨1, some 14, none, .p (.build [.nils, .int .i64 0, .int .u64 0] [(0, 1)]), [.t 13]⟩,
    ⟨2, some 15, none, .e (.new (.box 3)) [] [], [.t 14]⟩,
    ⟨3, some 5, none, .p .mov, [.t 15]⟩])
   (.seq (.reg 0 [⟨0, some 16, none, .p .mov, [.t 5]⟩,
    ⟨1, some 17, none, .e .call [] [], [.f 594, .t 16]⟩,
    ⟨2, some 6, none, .p .mov, [.t 17]⟩])
   (.seq (.reg 0 [⟨0, some 18, none, .p .mov, [.t 5]⟩,
    ⟨1, some 19, none, .e .call [] [], [.f 595, .t 18]⟩,
    ⟨2, some 7, none, .p .mov, [.t 19]⟩])
   (.seq (.reg 0 [⟨0, some 20, none, .p .mov, [.t 5]⟩,
    ⟨1, some 21, none, .e .call [] [], [.f 567, .t 20, .c (.int .i64 3)]⟩,
    ⟨2, some 8, none, .p .mov, [.t 21]⟩])
   (.seq (.seq (.reg 0 [⟨0, some 23, none, .p .mov, [.t 7]⟩,
    ⟨1, some 24, none, .e .call [] [], [.f 712, .t 23]⟩,
    ⟨2, some 22, none, .p .mov, [.t 24]⟩,
    ⟨3, some 25, none, .p (.extract 0), [.t 22]⟩,
    ⟨4, some 26, none, .p (.extract 1), [.t 22]⟩,
    ⟨5, some 9, none, .p .mov, [.t 25]⟩,
    ⟨6, some 10, none, .p .mov, [.t 26]⟩])
   (.seq (.reg 0 [⟨0, some 27, none, .p .mov, [.t 10]⟩,
    ⟨1, some 28, none, .p .mov, [.t 27]⟩,
    ⟨2, some 29, some (28, true), .p .mov, [.t 5]⟩,
    ⟨3, some 30, some (28, true), .e .call [] [], [.f 92, .t 29, .c (.int .i64 2)]⟩,
    ⟨4, some 31, none, .p .pick, [.t 28, .t 30, .c (.bool false)]⟩])
   (.cond (.t 31) (.seq (.reg 0 [⟨0, some 33, none, .p .mov, [.t 9]⟩,
    ⟨1, some 34, none, .e .call [] [], [.f 499, .t 33]⟩,
    ⟨2, some 32, none, .p .mov, [.t 34]⟩,
    ⟨3, some 35, none, .p (.extract 0), [.t 32]⟩,
    ⟨4, some 36, none, .p (.extract 1), [.t 32]⟩,
    ⟨5, some 11, none, .p .mov, [.t 35]⟩,
    ⟨6, some 12, none, .p .mov, [.t 36]⟩])
   (.seq (.reg 0 [⟨0, some 37, none, .p .mov, [.t 12]⟩])
   (.cond (.t 37) (.reg 0 [⟨0, some 38, none, .p .mov, [.t 11]⟩,
    ⟨1, some 8, none, .p .mov, [.t 38]⟩])
   (.skip))))
   (.skip))))
   (.seq (.reg 0 [⟨0, some 39, none, .p .mov, [.t 6]⟩,
    ⟨1, some 40, none, .p .mov, [.t 7]⟩,
    ⟨2, some 41, none, .p .mov, [.t 8]⟩,
    ⟨3, some 2, none, .p .mov, [.t 39]⟩,
    ⟨4, some 3, none, .p .mov, [.t 40]⟩,
    ⟨5, some 4, none, .p .mov, [.t 41]⟩])
   (.ret))))))),
  [.tmp 2, .tmp 3, .tmp 4]⟩
/- loop.example/g00641/impl.RunPieces -/
def g705_0 : GL.Code := .seq (.reg 0 [⟨0, some 42, none, .p (.bin .lss), [.t 41, .t 40]⟩])
   (.seq (.cond (.t 42) (.skip)
   (.exit 0))
   (.seq (.block 1 (.seq (.reg 0 [⟨0, some 43, none, .p .mov, [.t 41]⟩,
    ⟨1, some 44, none, .p (.idx 1), [.t 39, .t 41]⟩,
    ⟨2, some 45, none, .r (.load false 1) false, [.t 44]⟩,
    ⟨3, some 12, none, .p .mov, [.t 43]⟩,
    ⟨4, some 13, none, .p .mov, [.t 45]⟩])
   (.seq (.seq (.reg 0 [⟨0, some 46, none, .p .mov, [.t 2]⟩,
    ⟨1, some 47, none, .p .mov, [.t 12]⟩,
    ⟨2, some 48, none, .p (.slice 1 false true false), [.t 46, .t 47]⟩,
    ⟨3, some 49, none, .p .mov, [.t 9]⟩,
    ⟨4, some 50, none, .p .mov, [.t 13]⟩,
    ⟨5, some 51, none, .p (.idx 1), [.t 49, .t 50]⟩,
    ⟨6, some 52, none, .r (.load false 1) false, [.t 51]⟩,
    ⟨7, some 53, none, .e .call [] [], [.f 552, .t 48, .t 52]⟩,
    ⟨8, some 54, none, .p (.un .not), [.t 53]⟩])
   (.cond (.t 54) (.seq (.reg 0 [⟨0, some 6, none, .p .mov, [.c (.nils)]⟩,
    ⟨1, some 7, none, .p .mov, [.c (.nils)]⟩,
    ⟨2, some 8, none, .p .mov, [.c (.bool false)]⟩])
   (.ret))
   (.skip)))
   (.reg 0 [⟨0, some 55, none, .p .mov, [.t 11]⟩,
    ⟨1, some 56, none, .p .mov, [.t 10]⟩,
    ⟨2, some 57, none, .p .mov, [.t 13]⟩,
    ⟨3, some 58, none, .p (.idx 1), [.t 56, .t 57]⟩,
    ⟨4, some 59, none, .r (.load false 1) false, [.t 58]⟩,
    ⟨5, some 60, none, .e (.append 1 8) [] [], [.t 55, .t 59]⟩,
    ⟨6, some 11, none, .p .mov, [.t 60]⟩]))))
   (.reg 0 [⟨0, some 61, none, .p (.bin .add), [.t 41, .c (.int .i64 1)]⟩,
    ⟨1, some 41, none, .p .mov, [.t 61]⟩])))
def g705 : GL.Fn := ⟨.seq (.reg 0 [⟨0, some 6, none, .p .mov, [.c (.nils)]⟩,
    ⟨1, some 7, none, .p .mov, [.c (.nils)]⟩,
    ⟨2, some 8, none, .p .mov, [.c (.bool false)]⟩])
   (.seq (.seq (.reg 0 [⟨0, some 16, none, .p .mov, [.t 0]⟩,
    ⟨1, some 17, none, .e .call [] [], [.f 596, .t 16]⟩,
    ⟨2, some 18, none, .p (.un .not), [.t 17]⟩,
    ⟨3, some 19, none, .p .mov, [.t 18]⟩,
    ⟨4, some 20, some (19, false), .p .mov, [.t 1]⟩,
    ⟨5, some 21, some (19, false), .e .call [] [], [.f 597, .t 20]⟩,
    ⟨6, some 22, some (19, false), .p (.un .not), [.t 21]⟩,
    ⟨7, some 23, none, .p .pick, [.t 19, .c (.bool true), .t 22]⟩,
    ⟨8, some 24, none, .p .mov, [.t 23]⟩,
    ⟨9, some 25, some (24, false), .p .mov, [.t 2]⟩,
    ⟨10, some 26, some (24, false), .p .len, [.t 25]⟩,
    ⟨11, some 27, some (24, false), .p (.bin .neq), [.t 26, .c (.int .i64 3)]⟩,
    ⟨12, some 28, none, .p .pick, [.t 24, .c (.bool true), .t 27]⟩,
    ⟨13, some 29, none, .p .mov, [.t 28]⟩,
    ⟨14, some 30, some (29, false), .p .mov, [.t 2]⟩,
    ⟨15, some 31, some (29, false), .e .call [] [], [.f 541, .t 30, .c (.int .i64 3)]⟩,
    ⟨16, some 32, some (29, false), .p (.un .not), [.t 31]⟩,
    ⟨17, some 33, none, .p .pick, [.t 29, .c (.bool true), .t 32]⟩])
   (.cond (.t 33) (.seq (.reg 0 [⟨0, some 6, none, .p .mov, [.c (.nils)]⟩,
    ⟨1, some 7, none, .p .mov, [.c (.nils)]⟩,
    ⟨2, some 8, none, .p .mov, [.c (.bool false)]⟩])
   (.ret))
   (.skip)))
   (.seq (.reg 0 [⟨0, some 34, none, .p .mov, [.t 1]⟩,
    ⟨1, some 35, none, .e .call [] [], [.f 766, .t 34]⟩,
    ⟨2, some 36, none, .p .mov, [.t 1]⟩,
    ⟨3, some 37, none, .e .call [] [], [.f 603, .t 36]⟩,
    ⟨4, some 38, none, .e (.new (.lit 1)) [] [], []⟩,
    ⟨5, some 9, none, .p .mov, [.t 35]⟩,
    ⟨6, some 10, none, .p .mov, [.t 37]⟩,
    ⟨7, some 11, none, .p .mov, [.t 38]⟩])
   (.seq (.seq (.reg 0 [⟨0, some 39, none, .p .mov, [.t 2]⟩,
    ⟨1, some 40, none, .p .len, [.t 39]⟩,
    ⟨2, some 41, none, .p .mov, [.c (.int .i64 0)]⟩])
   (.block 0 (.loop g705_0)))
   (.seq (.reg 0 [⟨0, some 63, none, .p .mov, [.t 0]⟩,
    ⟨1, some 64, none, .p .mov, [.t 1]⟩,
    ⟨2, some 65, none, .p .mov, [.t 11]⟩,
    ⟨3, some 66, none, .e .call [] [], [.f 599, .t 63, .t 64, .t 65]⟩,
    ⟨4, some 62, none, .p .mov, [.t 66]⟩,
    ⟨5, some 67, none, .p (.extract 0), [.t 62]⟩,
    ⟨6, some 68, none, .p (.extract 1), [.t 62]⟩,
    ⟨7, some 14, none, .p .mov, [.t 67]⟩,
    ⟨8, some 15, none, .p .mov, [.t 68]⟩])
   (.seq (.reg 0 [⟨0, some 69, none, .p .mov, [.t 14]⟩,
    ⟨1, some 70, none, .p .mov, [.t 15]⟩,
    ⟨2, some 6, none, .p .mov, [.t 69]⟩,
    ⟨3, some 7, none, .p .mov, [.t 70]⟩,
    ⟨4, some 8, none, .p .mov, [.c (.bool true)]⟩])
   (.ret)))))),
  [.tmp 6, .tmp 7, .tmp 8]⟩
/- loop.example/g00641/spec.RunPieces -/
def g706_0 : GL.Code := .seq (.reg 0 [⟨0, some 41, none, .p (.bin .lss), [.t 40, .t 39]⟩])
   (.seq (.cond (.t 41) (.skip)
   (.exit 0))
   (.seq (.block 1 (.seq (.reg 0 [⟨0, some 42, none, .p .mov, [.t 40]⟩,
    ⟨1, some 43, none, .p (.idx 1), [.t 38, .t 40]⟩,
    ⟨2, some 44, none, .r (.load false 1) false, [.t 43]⟩,
    ⟨3, some 10, none, .p .mov, [.t 42]⟩,
    ⟨4, some 11, none, .p .mov, [.t 44]⟩])
   (.seq (.reg 0 [⟨0, some 45, none, .p .mov, [.t 9]⟩,
    ⟨1, some 46, none, .p .mov, [.t 11]⟩,
    ⟨2, some 47, none, .p (.idx 1), [.t 45, .t 46]⟩,
    ⟨3, some 48, none, .r (.load false 1) false, [.t 47]⟩,
    ⟨4, some 49, none, .p .mov, [.t 2]⟩,
    ⟨5, some 50, none, .p .mov, [.t 10]⟩,
    ⟨6, some 51, none, .p (.slice 1 false true false), [.t 49, .t 50]⟩,
    ⟨7, some 52, none, .e .call [] [], [.f 554, .t 48, .t 51]⟩,
    ⟨8, some 53, none, .p (.un .not), [.t 52]⟩])
   (.cond (.t 53) (.seq (.reg 0 [⟨0, some 6, none, .p .mov, [.c (.nils)]⟩,
    ⟨1, some 7, none, .p .mov, [.c (.nils)]⟩,
    ⟨2, some 8, none, .p .mov, [.c (.bool false)]⟩])
   (.ret))
   (.skip)))))
   (.reg 0 [⟨0, some 54, none, .p (.bin .add), [.t 40, .c (.int .i64 1)]⟩,
    ⟨1, some 40, none, .p .mov, [.t 54]⟩])))
def g706_1 : GL.Code := .seq (.reg 0 [⟨0, some 70, none, .p (.bin .lss), [.t 69, .t 68]⟩])
   (.seq (.cond (.t 70) (.skip)
   (.exit 4))
   (.seq (.block 5 (.seq (.reg 0 [⟨0, some 71, none, .p .mov, [.t 69]⟩,
    ⟨1, some 72, none, .p (.idx 5), [.t 67, .t 69]⟩,
    ⟨2, some 73, none, .r (.load true 5) false, [.t 72]⟩,
    ⟨3, some 17, none, .l (.alloc 17 [.int .i64 0, .int .i64 0, .int .i64 0, .int .i64 0, .int .i64 0]), []⟩,
    ⟨4, some 16, none, .p .mov, [.t 71]⟩,
    ⟨5, none, none, .l (.store 17 5), [.t 17, .t 73]⟩])
   (.seq (.reg 0 [⟨0, some 74, none, .p (.faddr 1), [.t 17]⟩,
    ⟨1, some 75, none, .l (.load 17 false 1), [.t 74]⟩,
    ⟨2, some 76, none, .p .mov, [.t 15]⟩,
    ⟨3, some 77, none, .p (.bin .eql), [.t 75, .t 76]⟩])
   (.cond (.t 77) (.reg 0 [⟨0, some 78, none, .p .mov, [.t 12]⟩,
    ⟨1, some 79, none, .p .mov, [.t 13]⟩,
    ⟨2, some 80, none, .p .mov, [.t 1]⟩,
    ⟨3, some 81, none, .p .mov, [.t 16]⟩,
    ⟨4, some 82, none, .e .call [] [], [.f 769, .t 78, .t 79, .t 80, .t 81]⟩])
   (.skip)))))
   (.reg 0 [⟨0, some 83, none, .p (.bin .add), [.t 69, .c (.int .i64 1)]⟩,
    ⟨1, some 69, none, .p .mov, [.t 83]⟩])))
def g706_2 : GL.Code := .seq (.reg 0 [⟨0, some 64, none, .p (.bin .lss), [.t 63, .t 62]⟩])
   (.seq (.cond (.t 64) (.skip)
   (.exit 2))
   (.seq (.block 3 (.seq (.reg 0 [⟨0, some 65, none, .p (.idx 1), [.t 61, .t 63]⟩,
    ⟨1, some 66, none, .r (.load false 1) false, [.t 65]⟩,
    ⟨2, some 15, none, .p .mov, [.t 66]⟩])
   (.seq (.reg 0 [⟨0, some 67, none, .p .mov, [.t 1]⟩,
    ⟨1, some 68, none, .p .len, [.t 67]⟩,
    ⟨2, some 69, none, .p .mov, [.c (.int .i64 0)]⟩])
   (.block 4 (.loop g706_1)))))
   (.reg 0 [⟨0, some 84, none, .p (.bin .add), [.t 63, .c (.int .i64 1)]⟩,
    ⟨1, some 63, none, .p .mov, [.t 84]⟩])))
def g706 : GL.Fn := ⟨.seq (.reg 0 [⟨0, some 6, none, .p .mov, [.c (.nils)]⟩,
    ⟨1, some 7, none, .p .mov, [.c (.nils)]⟩,
    ⟨2, some 8, none, .p .mov, [.c (.bool false)]⟩])
   (.seq (.seq (.reg 0 [⟨0, some 18, none, .p .mov, [.t 0]⟩,
    ⟨1, some 19, none, .e .call [] [], [.f 767, .t 18]⟩,
    ⟨2, some 20, none, .p (.un .not), [.t 19]⟩,
    ⟨3, some 21, none, .p .mov, [.t 20]⟩,
    ⟨4, some 22, some (21, false), .p .mov, [.t 1]⟩,
    ⟨5, some 23, some (21, false), .e .call [] [], [.f 601, .t 22]⟩,
    ⟨6, some 24, some (21, false), .p (.un .not), [.t 23]⟩,
    ⟨7, some 25, none, .p .pick, [.t 21, .c (.bool true), .t 24]⟩,
    ⟨8, some 26, none, .p .mov, [.t 25]⟩,
    ⟨9, some 27, some (26, false), .p .mov, [.t 2]⟩,
    ⟨10, some 28, some (26, false), .p .len, [.t 27]⟩,
    ⟨11, some 29, some (26, false), .p (.bin .neq), [.t 28, .c (.int .i64 3)]⟩,
    ⟨12, some 30, none, .p .pick, [.t 26, .c (.bool true), .t 29]⟩,
    ⟨13, some 31, none, .p .mov, [.t 30]⟩,
    ⟨14, some 32, some (31, false), .p .mov, [.t 2]⟩,
    ⟨15, some 33, some (31, false), .e .call [] [], [.f 539, .c (.int .i64 3), .t 32]⟩,
    ⟨16, some 34, some (31, false), .p (.un .not), [.t 33]⟩,
    ⟨17, some 35, none, .p .pick, [.t 31, .c (.bool true), .t 34]⟩])
   (.cond (.t 35) (.seq (.reg 0 [⟨0, some 6, none, .p .mov, [.c (.nils)]⟩,
    ⟨1, some 7, none, .p .mov, [.c (.nils)]⟩,
    ⟨2, some 8, none, .p .mov, [.c (.bool false)]⟩])
   (.ret))
   (.skip)))
   (.seq (.reg 0 [⟨0, some 36, none, .p .mov, [.t 1]⟩,
    ⟨1, some 37, none, .e .call [] [], [.f 768, .t 36]⟩,
    ⟨2, some 9, none, .p .mov, [.t 37]⟩])
   (.seq (.seq (.reg 0 [⟨0, some 38, none, .p .mov, [.t 2]⟩,
    ⟨1, some 39, none, .p .len, [.t 38]⟩,
    ⟨2, some 40, none, .p .mov, [.c (.int .i64 0)]⟩])
   (.block 0 (.loop g706_0)))
   (.seq (.reg 0 [⟨0, some 55, none, .e (.new (.lit 1)) [] [], []⟩,
    ⟨1, some 56, none, .p .mov, [.t 0]⟩,
    ⟨2, some 57, none, .e (.append 1 8) [] [], [.t 55, .t 56]⟩,
    ⟨3, some 12, none, .p .mov, [.t 57]⟩])
   (.seq (.reg 0 [⟨0, some 58, none, .p .mov, [.t 1]⟩,
    ⟨1, some 59, none, .p .len, [.t 58]⟩,
    ⟨2, some 60, none, .e (.new (.make 1 8 [.int .i64 0])) [] [], [.t 59, .t 59]⟩,
    ⟨3, some 13, none, .p .mov, [.t 60]⟩])
   (.seq (.seq (.reg 0 [⟨0, some 61, none, .p .mov, [.t 2]⟩,
    ⟨1, some 62, none, .p .len, [.t 61]⟩,
    ⟨2, some 63, none, .p .mov, [.c (.int .i64 0)]⟩])
   (.block 2 (.loop g706_2)))
   (.seq (.reg 0 [⟨0, some 85, none, .p .mov, [.t 12]⟩,
    ⟨1, some 86, none, .p .mov, [.t 13]⟩,
    ⟨2, some 6, none, .p .mov, [.t 85]⟩,
    ⟨3, some 7, none, .p .mov, [.t 86]⟩,
    ⟨4, some 8, none, .p .mov, [.c (.bool true)]⟩])
   (.ret)))))))),
  [.tmp 6, .tmp 7, .tmp 8]⟩
/- loop.example/g00641/impl.RunSteps -/
def g579 : GL.Fn := ⟨.seq (.reg 0 [⟨0, some 4, none, .p .mov, [.c (.nils)]⟩,
    ⟨1, some 5, none, .p .mov, [.c (.nils)]⟩,
    ⟨2, some 6, none, .p .mov, [.c (.bool false)]⟩])
   (.seq (.seq (.reg 0 [⟨0, some 9, none, .p .mov, [.t 0]⟩,
    ⟨1, some 10, none, .e .call [] [], [.f 596, .t 9]⟩,
    ⟨2, some 11, none, .p (.un .not), [.t 10]⟩,
    ⟨3, some 12, none, .p .mov, [.t 11]⟩,
    ⟨4, some 13, some (12, false), .p .mov, [.t 1]⟩,
    ⟨5, some 14, some (12, false), .e .call [] [], [.f 597, .t 13]⟩,
    ⟨6, some 15, some (12, false), .p (.un .not), [.t 14]⟩,
    ⟨7, some 16, none, .p .pick, [.t 12, .c (.bool true), .t 15]⟩])
   (.cond (.t 16) (.seq (.reg 0 [⟨0, some 4, none, .p .mov, [.c (.nils)]⟩,
    ⟨1, some 5, none, .p .mov, [.c (.nils)]⟩,
    ⟨2, some 6, none, .p .mov, [.c (.bool false)]⟩])
   (.ret))
   (.skip)))
   (.seq (.reg 0 [⟨0, some 18, none, .p .mov, [.t 0]⟩,
    ⟨1, some 19, none, .p .mov, [.t 1]⟩,
    ⟨2, some 20, none, .p .mov, [.t 1]⟩,
    ⟨3, some 21, none, .p .len, [.t 20]⟩,
    ⟨4, some 22, none, .e .call [] [], [.f 598, .t 21]⟩,
    ⟨5, some 23, none, .e .call [] [], [.f 599, .t 18, .t 19, .t 22]⟩,
    ⟨6, some 17, none, .p .mov, [.t 23]⟩,
    ⟨7, some 24, none, .p (.extract 0), [.t 17]⟩,
    ⟨8, some 25, none, .p (.extract 1), [.t 17]⟩,
    ⟨9, some 7, none, .p .mov, [.t 24]⟩,
    ⟨10, some 8, none, .p .mov, [.t 25]⟩])
   (.seq (.reg 0 [⟨0, some 26, none, .p .mov, [.t 7]⟩,
    ⟨1, some 27, none, .p .mov, [.t 8]⟩,
    ⟨2, some 4, none, .p .mov, [.t 26]⟩,
    ⟨3, some 5, none, .p .mov, [.t 27]⟩,
    ⟨4, some 6, none, .p .mov, [.c (.bool true)]⟩])
   (.ret)))),
  [.tmp 4, .tmp 5, .tmp 6]⟩
/- loop.example/g00641/spec.RunSteps -/
def g707_0 : GL.Code := .seq (.reg 0 [⟨0, some 27, none, .p (.bin .lss), [.t 26, .t 25]⟩])
   (.seq (.cond (.t 27) (.skip)
   (.exit 0))
   (.seq (.block 1 (.seq (.reg 0 [⟨0, some 28, none, .p .mov, [.t 26]⟩,
    ⟨1, some 9, none, .p .mov, [.t 28]⟩])
   (.reg 0 [⟨0, some 29, none, .p .mov, [.t 7]⟩,
    ⟨1, some 30, none, .p .mov, [.t 8]⟩,
    ⟨2, some 31, none, .p .mov, [.t 1]⟩,
    ⟨3, some 32, none, .p .mov, [.t 9]⟩,
    ⟨4, some 33, none, .e .call [] [], [.f 769, .t 29, .t 30, .t 31, .t 32]⟩])))
   (.reg 0 [⟨0, some 34, none, .p (.bin .add), [.t 26, .c (.int .i64 1)]⟩,
    ⟨1, some 26, none, .p .mov, [.t 34]⟩])))
def g707 : GL.Fn := ⟨.seq (.reg 0 [⟨0, some 4, none, .p .mov, [.c (.nils)]⟩,
    ⟨1, some 5, none, .p .mov, [.c (.nils)]⟩,
    ⟨2, some 6, none, .p .mov, [.c (.bool false)]⟩])
   (.seq (.seq (.reg 0 [⟨0, some 10, none, .p .mov, [.t 0]⟩,
    ⟨1, some 11, none, .e .call [] [], [.f 767, .t 10]⟩,
    ⟨2, some 12, none, .p (.un .not), [.t 11]⟩,
    ⟨3, some 13, none, .p .mov, [.t 12]⟩,
    ⟨4, some 14, some (13, false), .p .mov, [.t 1]⟩,
    ⟨5, some 15, some (13, false), .e .call [] [], [.f 601, .t 14]⟩,
    ⟨6, some 16, some (13, false), .p (.un .not), [.t 15]⟩,
    ⟨7, some 17, none, .p .pick, [.t 13, .c (.bool true), .t 16]⟩])
   (.cond (.t 17) (.seq (.reg 0 [⟨0, some 4, none, .p .mov, [.c (.nils)]⟩,
    ⟨1, some 5, none, .p .mov, [.c (.nils)]⟩,
    ⟨2, some 6, none, .p .mov, [.c (.bool false)]⟩])
   (.ret))
   (.skip)))
   (.seq (.reg 0 [⟨0, some 18, none, .e (.new (.lit 1)) [] [], []⟩,
    ⟨1, some 19, none, .p .mov, [.t 0]⟩,
    ⟨2, some 20, none, .e (.append 1 8) [] [], [.t 18, .t 19]⟩,
    ⟨3, some 7, none, .p .mov, [.t 20]⟩])
   (.seq (.reg 0 [⟨0, some 21, none, .p .mov, [.t 1]⟩,
    ⟨1, some 22, none, .p .len, [.t 21]⟩,
    ⟨2, some 23, none, .e (.new (.make 1 8 [.int .i64 0])) [] [], [.t 22, .t 22]⟩,
    ⟨3, some 8, none, .p .mov, [.t 23]⟩])
   (.seq (.seq (.reg 0 [⟨0, some 24, none, .p .mov, [.t 1]⟩,
    ⟨1, some 25, none, .p .len, [.t 24]⟩,
    ⟨2, some 26, none, .p .mov, [.c (.int .i64 0)]⟩])
   (.block 0 (.loop g707_0)))
   (.seq (.reg 0 [⟨0, some 35, none, .p .mov, [.t 7]⟩,
    ⟨1, some 36, none, .p .mov, [.t 8]⟩,
    ⟨2, some 4, none, .p .mov, [.t 35]⟩,
    ⟨3, some 5, none, .p .mov, [.t 36]⟩,
    ⟨4, some 6, none, .p .mov, [.c (.bool true)]⟩])
   (.ret)))))),
  [.tmp 4, .tmp 5, .tmp 6]⟩
/- loop.example/g00641/impl.CanSplit -/
def g708 : GL.Fn := ⟨.seq (.reg 0 [⟨0, some 2, none, .p .mov, [.c (.bool false)]⟩,
    ⟨1, some 3, none, .p .mov, [.c (.bool false)]⟩])
   (.seq (.seq (.reg 0 [⟨0, some 4, none, .p .mov, [.t 0]⟩,
    ⟨1, some 5, none, .e .call [] [], [.f 597, .t 4]⟩,
    ⟨2, some 6, none, .p (.un .not), [.t 5]⟩])
   (.cond (.t 6) (.seq (.reg 0 [⟨0, some 2, none, .p .mov, [.c (.bool false)]⟩,
    ⟨1, some 3, none, .p .mov, [.c (.bool false)]⟩])
   (.ret))
   (.skip)))
   (.seq (.reg 0 [⟨0, some 7, none, .p .mov, [.t 0]⟩,
    ⟨1, some 8, none, .e .call [] [], [.f 766, .t 7]⟩,
    ⟨2, some 9, none, .e .call [] [], [.f 511, .t 8]⟩,
    ⟨3, some 10, none, .p (.extract 0), [.t 9]⟩,
    ⟨4, some 11, none, .p (.extract 1), [.t 9]⟩,
    ⟨5, some 2, none, .p .mov, [.t 10]⟩,
    ⟨6, some 3, none, .p .mov, [.t 11]⟩])
   (.ret))),
  [.tmp 2, .tmp 3]⟩
/- loop.example/g00641/impl.NeedsOf -/
def g709 : GL.Fn := ⟨.seq (.reg 0 [⟨0, some 2, none, .p .mov, [.c (.nils)]⟩,
    ⟨1, some 3, none, .p .mov, [.c (.bool false)]⟩])
   (.seq (.seq (.reg 0 [⟨0, some 4, none, .p .mov, [.t 0]⟩,
    ⟨1, some 5, none, .e .call [] [], [.f 597, .t 4]⟩,
    ⟨2, some 6, none, .p (.un .not), [.t 5]⟩])
   (.cond (.t 6) (.seq (.reg 0 [⟨0, some 2, none, .p .mov, [.c (.nils)]⟩,
    ⟨1, some 3, none, .p .mov, [.c (.bool false)]⟩])
   (.ret))
   (.skip)))
   (.seq (.reg 0 [⟨0, some 7, none, .p .mov, [.t 0]⟩,
    ⟨1, some 8, none, .e .call [] [], [.f 766, .t 7]⟩,
    ⟨2, some 2, none, .p .mov, [.t 8]⟩,
    ⟨3, some 3, none, .p .mov, [.c (.bool true)]⟩])
   (.ret))),
  [.tmp 2, .tmp 3]⟩
/- loop.example/g00641/impl.OrderBy -/
def g498 : GL.Fn := ⟨.seq (.reg 0 [⟨0, some 2, none, .p .mov, [.c (.nils)]⟩,
    ⟨1, some 3, none, .p .mov, [.c (.bool false)]⟩])
   (.seq (.seq (.reg 0 [⟨0, some 4, none, .p .mov, [.t 0]⟩,
    ⟨1, some 5, none, .e .call [] [], [.f 500, .t 4]⟩,
    ⟨2, some 6, none, .p (.un .not), [.t 5]⟩])
   (.cond (.t 6) (.seq (.reg 0 [⟨0, some 2, none, .p .mov, [.c (.nils)]⟩,
    ⟨1, some 3, none, .p .mov, [.c (.bool false)]⟩])
   (.ret))
   (.skip)))
   (.seq (.reg 0 [⟨0, some 7, none, .p .mov, [.t 0]⟩,
    ⟨1, some 8, none, .e .call [] [], [.f 557, .t 7]⟩,
    ⟨2, some 9, none, .e .call [] [], [.f 429, .t 8]⟩,
    ⟨3, some 2, none, .p .mov, [.t 9]⟩,
    ⟨4, some 3, none, .p .mov, [.c (.bool true)]⟩])
   (.ret))),
  [.tmp 2, .tmp 3]⟩
/- loop.example/g00641/spec.DrawCanSplit -/
def g710 : GL.Fn := ⟨.seq (.reg 0 [⟨0, some 2, none, .p .mov, [.c (.nils)]⟩])
   (.seq (.reg 0 [⟨0, some 3, none, .p .mov, [.t 0]⟩,
    ⟨1, some 4, none, .e .call [] [], [.f 602, .t 3]⟩,
    ⟨2, some 2, none, .p .mov, [.t 4]⟩])
   (.ret)),
  [.tmp 2]⟩
/- loop.example/g00641/spec.CanSplit -/
def g711 : GL.Fn := ⟨.seq (.reg 0 [⟨0, some 2, none, .p .mov, [.c (.bool false)]⟩,
    ⟨1, some 3, none, .p .mov, [.c (.bool false)]⟩])
   (.seq (.seq (.reg 0 [⟨0, some 4, none, .p .mov, [.t 0]⟩,
    ⟨1, some 5, none, .e .call [] [], [.f 601, .t 4]⟩,
    ⟨2, some 6, none, .p (.un .not), [.t 5]⟩])
   (.cond (.t 6) (.seq (.reg 0 [⟨0, some 2, none, .p .mov, [.c (.bool false)]⟩,
    ⟨1, some 3, none, .p .mov, [.c (.bool false)]⟩])
   (.ret))
   (.skip)))
   (.seq (.reg 0 [⟨0, some 7, none, .p .mov, [.t 0]⟩,
    ⟨1, some 8, none, .e .call [] [], [.f 768, .t 7]⟩,
    ⟨2, some 9, none, .e .call [] [], [.f 513, .t 8]⟩,
    ⟨3, some 10, none, .p (.extract 0), [.t 9]⟩,
    ⟨4, some 11, none, .p (.extract 1), [.t 9]⟩,
    ⟨5, some 2, none, .p .mov, [.t 10]⟩,
    ⟨6, some 3, none, .p .mov, [.t 11]⟩])
   (.ret))),
  [.tmp 2, .tmp 3]⟩
/- loop.example/g00641/spec.NeedsOf -/
def g712 : GL.Fn := ⟨.seq (.reg 0 [⟨0, some 2, none, .p .mov, [.c (.nils)]⟩,
    ⟨1, some 3, none, .p .mov, [.c (.bool false)]⟩])
   (.seq (.seq (.reg 0 [⟨0, some 4, none, .p .mov, [.t 0]⟩,
    ⟨1, some 5, none, .e .call [] [], [.f 601, .t 4]⟩,
    ⟨2, some 6, none, .p (.un .not), [.t 5]⟩])
   (.cond (.t 6) (.seq (.reg 0 [⟨0, some 2, none, .p .mov, [.c (.nils)]⟩,
    ⟨1, some 3, none, .p .mov, [.c (.bool false)]⟩])
   (.ret))
   (.skip)))
   (.seq (.reg 0 [⟨0, some 7, none, .p .mov, [.t 0]⟩,
    ⟨1, some 8, none, .e .call [] [], [.f 768, .t 7]⟩,
    ⟨2, some 2, none, .p .mov, [.t 8]⟩,
    ⟨3, some 3, none, .p .mov, [.c (.bool true)]⟩])
   (.ret))),
  [.tmp 2, .tmp 3]⟩
/- loop.example/g00641/impl.GoodSteps -/
def g597_0 : GL.Code := .seq (.reg 0 [⟨0, some 8, none, .p (.bin .lss), [.t 7, .t 6]⟩])
   (.seq (.cond (.t 8) (.skip)
   (.exit 0))
   (.seq (.block 1 (.seq (.reg 0 [⟨0, some 9, none, .p .mov, [.t 7]⟩,
    ⟨1, some 10, none, .p (.idx 5), [.t 5, .t 7]⟩,
    ⟨2, some 11, none, .r (.load true 5) false, [.t 10]⟩,
    ⟨3, some 4, none, .l (.alloc 4 [.int .i64 0, .int .i64 0, .int .i64 0, .int .i64 0, .int .i64 0]), []⟩,
    ⟨4, some 3, none, .p .mov, [.t 9]⟩,
    ⟨5, none, none, .l (.store 4 5), [.t 4, .t 11]⟩])
   (.seq (.reg 0 [⟨0, some 12, none, .l (.load 4 true 5), [.t 4]⟩,
    ⟨1, some 13, none, .p .mov, [.t 3]⟩,
    ⟨2, some 14, none, .e .call [] [], [.f 608, .t 12, .t 13]⟩,
    ⟨3, some 15, none, .p (.un .not), [.t 14]⟩])
   (.cond (.t 15) (.seq (.reg 0 [⟨0, some 2, none, .p .mov, [.c (.bool false)]⟩])
   (.ret))
   (.skip)))))
   (.reg 0 [⟨0, some 16, none, .p (.bin .add), [.t 7, .c (.int .i64 1)]⟩,
    ⟨1, some 7, none, .p .mov, [.t 16]⟩])))
def g597 : GL.Fn := ⟨.seq (.reg 0 [⟨0, some 2, none, .p .mov, [.c (.bool false)]⟩])
   (.seq (.seq (.reg 0 [⟨0, some 5, none, .p .mov, [.t 0]⟩,
    ⟨1, some 6, none, .p .len, [.t 5]⟩,
    ⟨2, some 7, none, .p .mov, [.c (.int .i64 0)]⟩])
   (.block 0 (.loop g597_0)))
   (.seq (.reg 0 [⟨0, some 17, none, .p .mov, [.t 0]⟩,
    ⟨1, some 18, none, .p .len, [.t 17]⟩,
    ⟨2, some 19, none, .p (.bin .leq), [.t 18, .c (.int .i64 10)]⟩,
    ⟨3, some 2, none, .p .mov, [.t 19]⟩])
   (.ret))),
  [.tmp 2]⟩
/- loop.example/g00641/spec.GoodSteps -/
def g601_0 : GL.Code := .seq (.reg 0 [⟨0, some 9, none, .p (.bin .lss), [.t 8, .t 7]⟩])
   (.seq (.cond (.t 9) (.skip)
   (.exit 0))
   (.seq (.block 1 (.seq (.reg 0 [⟨0, some 10, none, .p .mov, [.t 8]⟩,
    ⟨1, some 11, none, .p (.idx 5), [.t 6, .t 8]⟩,
    ⟨2, some 12, none, .r (.load true 5) false, [.t 11]⟩,
    ⟨3, some 4, none, .l (.alloc 4 [.int .i64 0, .int .i64 0, .int .i64 0, .int .i64 0, .int .i64 0]), []⟩,
    ⟨4, some 3, none, .p .mov, [.t 10]⟩,
    ⟨5, none, none, .l (.store 4 5), [.t 4, .t 12]⟩])
   (.seq (.seq (.reg 0 [⟨0, some 13, none, .p (.faddr 1), [.t 4]⟩,
    ⟨1, some 14, none, .l (.load 4 false 1), [.t 13]⟩,
    ⟨2, some 15, none, .e .call [] [], [.f 98, .t 14, .c (.int .i64 0), .c (.int .i64 2)]⟩,
    ⟨3, some 16, none, .p (.un .not), [.t 15]⟩,
    ⟨4, some 17, none, .p .mov, [.t 16]⟩,
    ⟨5, some 18, some (17, false), .p (.faddr 2), [.t 4]⟩,
    ⟨6, some 19, some (17, false), .l (.load 4 false 1), [.t 18]⟩,
    ⟨7, some 20, some (17, false), .e .call [] [], [.f 98, .t 19, .c (.int .i64 0), .c (.int .i64 3)]⟩,
    ⟨8, some 21, some (17, false), .p (.un .not), [.t 20]⟩,
    ⟨9, some 22, none, .p .pick, [.t 17, .c (.bool true), .t 21]⟩,
    ⟨10, some 23, none, .p .mov, [.t 22]⟩,
    ⟨11, some 24, some (23, false), .p (.faddr 4), [.t 4]⟩,
    ⟨12, some 25, some (23, false), .l (.load 4 false 1), [.t 24]⟩,
    ⟨13, some 26, some (23, false), .e .call [] [], [.f 98, .t 25, .c (.int .i64 (-99)), .c (.int .i64 99)]⟩,
    ⟨14, some 27, some (23, false), .p (.un .not), [.t 26]⟩,
    ⟨15, some 28, none, .p .pick, [.t 23, .c (.bool true), .t 27]⟩])
   (.cond (.t 28) (.seq (.reg 0 [⟨0, some 2, none, .p .mov, [.c (.bool false)]⟩])
   (.ret))
   (.skip)))
   (.seq (.reg 0 [⟨0, some 29, none, .p (.faddr 3), [.t 4]⟩,
    ⟨1, some 30, none, .l (.load 4 false 1), [.t 29]⟩,
    ⟨2, some 31, none, .p .mov, [.t 3]⟩,
    ⟨3, some 32, none, .p (.bin .sub), [.t 31, .c (.int .i64 1)]⟩,
    ⟨4, some 33, none, .e .call [] [], [.f 98, .t 30, .c (.int .i64 0), .t 32]⟩,
    ⟨5, some 5, none, .p .mov, [.t 33]⟩])
   (.seq (.seq (.reg 0 [⟨0, some 34, none, .p (.faddr 0), [.t 4]⟩,
    ⟨1, some 35, none, .l (.load 4 false 1), [.t 34]⟩])
   (.block 2 (.seq (.reg 0 [⟨0, some 37, none, .p (.bin .eql), [.t 35, .c (.int .i64 1)]⟩,
    ⟨1, some 36, none, .p .mov, [.t 37]⟩])
   (.cond (.t 36) (.reg 0 [⟨0, some 38, none, .p (.faddr 3), [.t 4]⟩,
    ⟨1, some 39, none, .l (.load 4 false 1), [.t 38]⟩,
    ⟨2, some 40, none, .p (.bin .eql), [.t 39, .c (.int .i64 0)]⟩,
    ⟨3, some 41, none, .p .mov, [.t 40]⟩,
    ⟨4, some 42, some (41, true), .p (.faddr 4), [.t 4]⟩,
    ⟨5, some 43, some (41, true), .l (.load 4 false 1), [.t 42]⟩,
    ⟨6, some 44, some (41, true), .p (.bin .eql), [.t 43, .c (.int .i64 0)]⟩,
    ⟨7, some 45, none, .p .pick, [.t 41, .t 44, .c (.bool false)]⟩,
    ⟨8, some 5, none, .p .mov, [.t 45]⟩])
   (.seq (.reg 0 [⟨0, some 47, none, .p (.bin .eql), [.t 35, .c (.int .i64 2)]⟩,
    ⟨1, some 46, none, .p .mov, [.t 47]⟩])
   (.cond (.t 46) (.reg 0 [⟨0, some 48, none, .p .mov, [.t 5]⟩,
    ⟨1, some 49, none, .p .mov, [.t 48]⟩,
    ⟨2, some 50, some (49, true), .p (.faddr 2), [.t 4]⟩,
    ⟨3, some 51, some (49, true), .l (.load 4 false 1), [.t 50]⟩,
    ⟨4, some 52, some (49, true), .p (.bin .eql), [.t 51, .c (.int .i64 0)]⟩,
    ⟨5, some 53, none, .p .pick, [.t 49, .t 52, .c (.bool false)]⟩,
    ⟨6, some 5, none, .p .mov, [.t 53]⟩])
   (.seq (.reg 0 [⟨0, some 55, none, .p (.bin .eql), [.t 35, .c (.int .i64 3)]⟩,
    ⟨1, some 54, none, .p .mov, [.t 55]⟩])
   (.cond (.t 54) (.reg 0 [⟨0, some 56, none, .p .mov, [.t 5]⟩,
    ⟨1, some 57, none, .p .mov, [.t 56]⟩,
    ⟨2, some 58, some (57, true), .p (.faddr 4), [.t 4]⟩,
    ⟨3, some 59, some (57, true), .l (.load 4 false 1), [.t 58]⟩,
    ⟨4, some 60, some (57, true), .p (.bin .eql), [.t 59, .c (.int .i64 0)]⟩,
    ⟨5, some 61, none, .p .pick, [.t 57, .t 60, .c (.bool false)]⟩,
    ⟨6, some 5, none, .p .mov, [.t 61]⟩])
   (.seq (.reg 0 [⟨0, some 2, none, .p .mov, [.c (.bool false)]⟩])
   (.ret))))))))))
   (.seq (.reg 0 [⟨0, some 62, none, .p .mov, [.t 5]⟩,
    ⟨1, some 63, none, .p (.un .not), [.t 62]⟩])
   (.cond (.t 63) (.seq (.reg 0 [⟨0, some 2, none, .p .mov, [.c (.bool false)]⟩])
   (.ret))
   (.skip))))))))
   (.reg 0 [⟨0, some 64, none, .p (.bin .add), [.t 8, .c (.int .i64 1)]⟩,
    ⟨1, some 8, none, .p .mov, [.t 64]⟩])))
def g601 : GL.Fn := ⟨.seq (.reg 0 [⟨0, some 2, none, .p .mov, [.c (.bool false)]⟩])
   (.seq (.seq (.reg 0 [⟨0, some 6, none, .p .mov, [.t 0]⟩,
    ⟨1, some 7, none, .p .len, [.t 6]⟩,
    ⟨2, some 8, none, .p .mov, [.c (.int .i64 0)]⟩])
   (.block 0 (.loop g601_0)))
   (.seq (.reg 0 [⟨0, some 65, none, .p .mov, [.t 0]⟩,
    ⟨1, some 66, none, .p .len, [.t 65]⟩,
    ⟨2, some 67, none, .p (.bin .leq), [.t 66, .c (.int .i64 10)]⟩,
    ⟨3, some 2, none, .p .mov, [.t 67]⟩])
   (.ret))),
  [.tmp 2]⟩
/- slices.Concat[[]int,int] -/
def g429_0 : GL.Code := .seq (.reg 0 [⟨0, some 12, none, .p (.bin .lss), [.t 11, .t 10]⟩])
   (.seq (.cond (.t 12) (.skip)
   (.exit 0))
   (.seq (.block 1 (.seq (.reg 0 [⟨0, some 13, none, .p (.idx 1), [.t 9, .t 11]⟩,
    ⟨1, some 14, none, .r (.load false 1) false, [.t 13]⟩,
    ⟨2, some 5, none, .p .mov, [.t 14]⟩])
   (.seq (.reg 0 [⟨0, some 15, none, .p .mov, [.t 3]⟩,
    ⟨1, some 16, none, .p .mov, [.t 5]⟩,
    ⟨2, some 17, none, .p .len, [.t 16]⟩,
    ⟨3, some 18, none, .p (.bin .add), [.t 15, .t 17]⟩,
    ⟨4, some 3, none, .p .mov, [.t 18]⟩])
   (.seq (.reg 0 [⟨0, some 19, none, .p .mov, [.t 3]⟩,
    ⟨1, some 20, none, .p (.bin .lss), [.t 19, .c (.int .i64 0)]⟩])
   (.cond (.t 20) (.reg 0 [⟨0, some 21, none, .p .bad, []⟩,
    ⟨1, none, none, .p .bad, []⟩])
   (.skip))))))
   (.reg 0 [⟨0, some 22, none, .p (.bin .add), [.t 11, .c (.int .i64 1)]⟩,
    ⟨1, some 11, none, .p .mov, [.t 22]⟩])))
def g429_1 : GL.Code := .seq (.reg 0 [⟨0, some 28, none, .p (.bin .lss), [.t 27, .t 26]⟩])
   (.seq (.cond (.t 28) (.skip)
   (.exit 2))
   (.seq (.block 3 (.seq (.reg 0 [⟨0, some 29, none, .p (.idx 1), [.t 25, .t 27]⟩,
    ⟨1, some 30, none, .r (.load false 1) false, [.t 29]⟩,
    ⟨2, some 8, none, .p .mov, [.t 30]⟩])
   (.reg 0 [⟨0, some 31, none, .p .mov, [.t 6]⟩,
    ⟨1, some 32, none, .p .mov, [.t 8]⟩,
    ⟨2, some 33, none, .e (.append 1 8) [] [], [.t 31, .t 32]⟩,
    ⟨3, some 6, none, .p .mov, [.t 33]⟩])))
   (.reg 0 [⟨0, some 34, none, .p (.bin .add), [.t 27, .c (.int .i64 1)]⟩,
    ⟨1, some 27, none, .p .mov, [.t 34]⟩])))
def g429 : GL.Fn := ⟨.seq (.reg 0 [⟨0, some 2, none, .p .mov, [.c (.nils)]⟩])
   (.seq (.reg 0 [⟨0, some 3, none, .p .mov, [.c (.int .i64 0)]⟩])
   (.seq (.seq (.reg 0 [⟨0, some 9, none, .p .mov, [.t 0]⟩,
    ⟨1, some 10, none, .p .len, [.t 9]⟩,
    ⟨2, some 11, none, .p .mov, [.c (.int .i64 0)]⟩])
   (.block 0 (.loop g429_0)))
   (.seq (.reg 0 [⟨0, some 23, none, .p .mov, [.t 3]⟩,
    ⟨1, some 24, none, .e .call [] [], [.f 436, .c (.nils), .t 23]⟩,
    ⟨2, some 6, none, .p .mov, [.t 24]⟩])
   (.seq (.seq (.reg 0 [⟨0, some 25, none, .p .mov, [.t 0]⟩,
    ⟨1, some 26, none, .p .len, [.t 25]⟩,
    ⟨2, some 27, none, .p .mov, [.c (.int .i64 0)]⟩])
   (.block 2 (.loop g429_1)))
   (.seq (.reg 0 [⟨0, some 35, none, .p .mov, [.t 6]⟩,
    ⟨1, some 2, none, .p .mov, [.t 35]⟩])
   (.ret)))))),
  [.tmp 2]⟩
/- loop.example/g00641/impl.groups -/
def g557_0 : GL.Code := .seq (.reg 0 [⟨0, some 13, none, .p (.bin .lss), [.t 12, .t 11]⟩])
   (.seq (.cond (.t 13) (.skip)
   (.exit 0))
   (.seq (.block 1 (.seq (.reg 0 [⟨0, some 14, none, .p .mov, [.t 12]⟩,
    ⟨1, some 4, none, .p .mov, [.t 14]⟩])
   (.seq (.reg 0 [⟨0, some 15, none, .r (.load false 1) false, [.t 1]⟩,
    ⟨1, some 16, none, .p .mov, [.t 4]⟩,
    ⟨2, some 17, none, .e .call [] [], [.f 560, .t 15, .t 16]⟩,
    ⟨3, some 5, none, .p .mov, [.t 17]⟩])
   (.seq (.reg 0 [⟨0, some 18, none, .p .mov, [.t 5]⟩,
    ⟨1, some 19, none, .p (.idx 1), [.t 18, .c (.int .i64 0)]⟩,
    ⟨2, some 20, none, .r (.load false 1) false, [.t 19]⟩,
    ⟨3, some 21, none, .p .mov, [.t 4]⟩,
    ⟨4, some 22, none, .p (.bin .eql), [.t 20, .t 21]⟩])
   (.cond (.t 22) (.reg 0 [⟨0, some 23, none, .p .mov, [.t 3]⟩,
    ⟨1, some 24, none, .p .mov, [.t 5]⟩,
    ⟨2, some 25, none, .e (.new (.lit 1)) [] [], [.t 24]⟩,
    ⟨3, some 26, none, .e (.append 1 24) [] [], [.t 23, .t 25]⟩,
    ⟨4, some 3, none, .p .mov, [.t 26]⟩])
   (.skip))))))
   (.reg 0 [⟨0, some 27, none, .p (.bin .add), [.t 12, .c (.int .i64 1)]⟩,
    ⟨1, some 12, none, .p .mov, [.t 27]⟩])))
def g557_1 : GL.Code := .seq (.seq (.reg 0 [⟨0, some 30, none, .p .mov, [.t 3]⟩,
    ⟨1, some 31, none, .p .len, [.t 30]⟩,
    ⟨2, some 32, none, .p (.bin .gtr), [.t 31, .c (.int .i64 0)]⟩])
   (.cond (.t 32) (.skip)
   (.exit 2)))
   (.block 3 (.seq (.reg 0 [⟨0, some 33, none, .p .mov, [.t 3]⟩,
    ⟨1, some 34, none, .p (.mkFn 574), [.t 7, .t 1]⟩,
    ⟨2, some 35, none, .e .call [] [], [.f 395, .t 33, .t 34]⟩,
    ⟨3, some 8, none, .p .mov, [.t 35]⟩])
   (.seq (.reg 0 [⟨0, some 36, none, .p .mov, [.t 6]⟩,
    ⟨1, some 37, none, .p .mov, [.t 3]⟩,
    ⟨2, some 38, none, .p .mov, [.t 8]⟩,
    ⟨3, some 39, none, .p (.idx 1), [.t 37, .t 38]⟩,
    ⟨4, some 40, none, .r (.load false 1) false, [.t 39]⟩,
    ⟨7, some 43, none, .r (.load false 1) true, [.t 7]⟩,
    ⟨8, some 44, none, .p .mov, [.t 3]⟩,
    ⟨9, some 45, none, .p .mov, [.t 8]⟩,
    ⟨10, some 46, none, .p (.idx 1), [.t 44, .t 45]⟩,
    ⟨11, some 47, none, .r (.load false 1) true, [.t 46]⟩,
    ⟨5, some 41, none, .e (.new (.lit 1)) [7, 11] [], [.t 40]⟩,
    ⟨6, some 42, none, .e (.append 1 24) [7, 11] [], [.t 36, .t 41]⟩,
    ⟨12, some 48, none, .e (.append 1 8) [] [], [.t 43, .t 47]⟩,
    ⟨13, some 6, none, .p .mov, [.t 42]⟩,
    ⟨14, none, none, .e (.store 1) [] [], [.t 7, .t 48]⟩])
   (.reg 0 [⟨0, some 49, none, .p .mov, [.t 3]⟩,
    ⟨1, some 50, none, .p .mov, [.t 8]⟩,
    ⟨2, some 51, none, .p .mov, [.t 8]⟩,
    ⟨3, some 52, none, .p (.bin .add), [.t 51, .c (.int .i64 1)]⟩,
    ⟨4, some 53, none, .e .call [] [], [.f 575, .t 49, .t 50, .t 52]⟩,
    ⟨5, some 3, none, .p .mov, [.t 53]⟩]))))
def g557 : GL.Fn := ⟨.seq (.reg 0 [⟨0, some 1, none, .e (.new (.box 1)) [] [], [.t 0]⟩,
    ⟨1, some 2, none, .p .mov, [.c (.nils)]⟩])
   (.seq (.reg 0 [⟨0, some 9, none, .e (.new (.lit 1)) [] [], []⟩,
    ⟨1, some 3, none, .p .mov, [.t 9]⟩])
   (.seq (.seq (.reg 0 [⟨0, some 10, none, .r (.load false 1) false, [.t 1]⟩,
    ⟨1, some 11, none, .p .len, [.t 10]⟩,
    ⟨2, some 12, none, .p .mov, [.c (.int .i64 0)]⟩])
   (.block 0 (.loop g557_0)))
   (.seq (.reg 0 [⟨0, some 28, none, .e (.new (.lit 1)) [] [], []⟩,
    ⟨1, some 29, none, .e (.new (.lit 1)) [] [], []⟩,
    ⟨2, some 7, none, .e (.new (.alloc [.nils])) [] [], []⟩,
    ⟨3, some 6, none, .p .mov, [.t 28]⟩,
    ⟨4, none, none, .e (.store 1) [] [], [.t 7, .t 29]⟩])
   (.seq (.block 2 (.loop g557_1))
   (.seq (.reg 0 [⟨0, some 54, none, .p .mov, [.t 6]⟩,
    ⟨1, some 2, none, .p .mov, [.t 54]⟩])
   (.ret)))))),
  [.tmp 2]⟩
/- loop.example/g00641/impl.areOnce -/
def g541 : GL.Fn := ⟨.seq (.reg 0 [⟨0, some 4, none, .p .mov, [.c (.bool false)]⟩])
   (.seq (.reg 0 [⟨0, some 5, none, .p .mov, [.t 0]⟩,
    ⟨1, some 6, none, .e .call [] [], [.f 406, .t 5]⟩,
    ⟨2, some 7, none, .e .call [] [], [.f 407, .t 6]⟩,
    ⟨3, some 8, none, .p .mov, [.t 1]⟩,
    ⟨4, some 9, none, .p (.bin .sub), [.t 8, .c (.int .i64 1)]⟩,
    ⟨5, some 10, none, .e .call [] [], [.f 385, .t 7, .c (.int .i64 0), .t 9]⟩,
    ⟨6, some 4, none, .p .mov, [.t 10]⟩])
   (.ret)),
  [.tmp 4]⟩
/- (*loop.example/g00641/spec.l1Cur).shuffled -/
def g567_0 : GL.Code := .seq (.seq (.reg 0 [⟨0, some 9, none, .p .mov, [.t 6]⟩,
    ⟨1, some 10, none, .p .mov, [.t 1]⟩,
    ⟨2, some 11, none, .p (.bin .lss), [.t 9, .t 10]⟩])
   (.cond (.t 11) (.skip)
   (.exit 0)))
   (.seq (.block 1 (.seq (.reg 0 [⟨0, some 14, none, .p .mov, [.t 0]⟩,
    ⟨1, some 15, none, .p .mov, [.t 5]⟩,
    ⟨2, some 16, none, .p .len, [.t 15]⟩,
    ⟨3, some 17, none, .p (.bin .add), [.t 16, .c (.int .i64 1)]⟩,
    ⟨4, some 18, none, .e .call [] [], [.f 91, .t 14, .t 17]⟩,
    ⟨5, some 7, none, .p .mov, [.t 18]⟩])
   (.seq (.reg 0 [⟨0, some 19, none, .e (.new (.lit 1)) [] [], []⟩,
    ⟨1, some 20, none, .p .mov, [.t 5]⟩,
    ⟨2, some 21, none, .p .mov, [.t 7]⟩,
    ⟨3, some 22, none, .p (.slice 1 false true false), [.t 20, .t 21]⟩,
    ⟨4, some 23, none, .e (.append 1 8) [] [], [.t 19, .t 22]⟩,
    ⟨5, some 8, none, .p .mov, [.t 23]⟩])
   (.seq (.reg 0 [⟨0, some 24, none, .p .mov, [.t 8]⟩,
    ⟨1, some 25, none, .p .mov, [.t 6]⟩,
    ⟨2, some 26, none, .e (.new (.lit 1)) [] [], [.t 25]⟩,
    ⟨3, some 27, none, .e (.append 1 8) [] [], [.t 24, .t 26]⟩,
    ⟨4, some 8, none, .p .mov, [.t 27]⟩])
   (.reg 0 [⟨0, some 28, none, .p .mov, [.t 8]⟩,
    ⟨1, some 29, none, .p .mov, [.t 5]⟩,
    ⟨2, some 30, none, .p .mov, [.t 7]⟩,
    ⟨3, some 31, none, .p (.slice 1 true false false), [.t 29, .t 30]⟩,
    ⟨4, some 32, none, .e (.append 1 8) [] [], [.t 28, .t 31]⟩,
    ⟨5, some 5, none, .p .mov, [.t 32]⟩])))))
   (.reg 0 [⟨0, some 12, none, .p .mov, [.t 6]⟩,
    ⟨1, some 13, none, .p (.bin .add), [.t 12, .c (.int .i64 1)]⟩,
    ⟨2, some 6, none, .p .mov, [.t 13]⟩]))
def g567 : GL.Fn := ⟨.seq (.reg 0 [⟨0, some 4, none, .p .mov, [.c (.nils)]⟩])
   (.seq (.reg 0 [⟨0, some 5, none, .p .mov, [.c (.nils)]⟩])
   (.seq (.seq (.reg 0 [⟨0, some 6, none, .p .mov, [.c (.int .i64 0)]⟩])
   (.block 0 (.loop g567_0)))
   (.seq (.reg 0 [⟨0, some 33, none, .p .mov, [.t 5]⟩,
    ⟨1, some 4, none, .p .mov, [.t 33]⟩])
   (.ret)))),
  [.tmp 4]⟩
/- (*loop.example/g00641/spec.l1Cur).one -/
def g92 : GL.Fn := ⟨.seq (.reg 0 [⟨0, some 4, none, .p .mov, [.c (.bool false)]⟩])
   (.seq (.reg 0 [⟨0, some 5, none, .p .mov, [.t 0]⟩,
    ⟨1, some 6, none, .p .mov, [.t 1]⟩,
    ⟨2, some 7, none, .e .call [] [], [.f 91, .t 5, .t 6]⟩,
    ⟨3, some 8, none, .p (.bin .eql), [.t 7, .c (.int .i64 0)]⟩,
    ⟨4, some 4, none, .p .mov, [.t 8]⟩])
   (.ret)),
  [.tmp 4]⟩
/- loop.example/g00641/spec.l14Once -/
def g539_0 : GL.Code := .seq (.reg 0 [⟨0, some 10, none, .p (.bin .lss), [.t 9, .t 8]⟩])
   (.seq (.cond (.t 10) (.skip)
   (.exit 0))
   (.seq (.block 1 (.seq (.reg 0 [⟨0, some 11, none, .p .mov, [.t 9]⟩,
    ⟨1, some 12, none, .p (.idx 1), [.t 7, .t 9]⟩,
    ⟨2, some 13, none, .r (.load false 1) false, [.t 12]⟩,
    ⟨3, some 5, none, .p .mov, [.t 11]⟩,
    ⟨4, some 6, none, .p .mov, [.t 13]⟩])
   (.seq (.reg 0 [⟨0, some 14, none, .p .mov, [.t 6]⟩,
    ⟨1, some 15, none, .p .mov, [.t 0]⟩,
    ⟨2, some 16, none, .p (.bin .sub), [.t 15, .c (.int .i64 1)]⟩,
    ⟨3, some 17, none, .e .call [] [], [.f 98, .t 14, .c (.int .i64 0), .t 16]⟩,
    ⟨4, some 18, none, .p (.un .not), [.t 17]⟩,
    ⟨5, some 19, none, .p .mov, [.t 18]⟩,
    ⟨6, some 20, some (19, false), .p .mov, [.t 1]⟩,
    ⟨7, some 21, some (19, false), .p .mov, [.t 5]⟩,
    ⟨8, some 22, some (19, false), .p (.slice 1 false true false), [.t 20, .t 21]⟩,
    ⟨9, some 23, some (19, false), .p .mov, [.t 6]⟩,
    ⟨10, some 24, some (19, false), .e .call [] [], [.f 302, .t 22, .t 23]⟩,
    ⟨11, some 25, none, .p .pick, [.t 19, .c (.bool true), .t 24]⟩])
   (.cond (.t 25) (.seq (.reg 0 [⟨0, some 4, none, .p .mov, [.c (.bool false)]⟩])
   (.ret))
   (.skip)))))
   (.reg 0 [⟨0, some 26, none, .p (.bin .add), [.t 9, .c (.int .i64 1)]⟩,
    ⟨1, some 9, none, .p .mov, [.t 26]⟩])))
def g539 : GL.Fn := ⟨.seq (.reg 0 [⟨0, some 4, none, .p .mov, [.c (.bool false)]⟩])
   (.seq (.seq (.reg 0 [⟨0, some 7, none, .p .mov, [.t 1]⟩,
    ⟨1, some 8, none, .p .len, [.t 7]⟩,
    ⟨2, some 9, none, .p .mov, [.c (.int .i64 0)]⟩])
   (.block 0 (.loop g539_0)))
   (.seq (.reg 0 [⟨0, some 4, none, .p .mov, [.c (.bool true)]⟩])
   (.ret))),
  [.tmp 4]⟩
/- (*loop.example/g00641/spec.l1Cur).pick -/
def g91 : GL.Fn := ⟨.seq (.reg 0 [⟨0, some 4, none, .p .mov, [.c (.int .i64 0)]⟩])
   (.seq (.seq (.reg 0 [⟨0, some 6, none, .p .mov, [.t 1]⟩,
    ⟨1, some 7, none, .p (.bin .leq), [.t 6, .c (.int .i64 1)]⟩])
   (.cond (.t 7) (.seq (.reg 0 [⟨0, some 4, none, .p .mov, [.c (.int .i64 0)]⟩])
   (.ret))
   (.skip)))
   (.seq (.reg 0 [⟨0, some 8, none, .p .mov, [.t 0]⟩,
    ⟨1, some 9, none, .e .call [] [], [.f 140, .t 8]⟩,
    ⟨2, some 5, none, .p .mov, [.t 9]⟩])
   (.seq (.seq (.reg 0 [⟨0, some 10, none, .p .mov, [.t 1]⟩,
    ⟨1, some 11, none, .p (.bin .gtr), [.t 10, .c (.int .i64 200)]⟩])
   (.cond (.t 11) (.reg 0 [⟨0, some 12, none, .p .mov, [.t 5]⟩,
    ⟨1, some 13, none, .p (.bin .mul), [.t 12, .c (.int .i64 256)]⟩,
    ⟨2, some 14, none, .p .mov, [.t 0]⟩,
    ⟨3, some 15, none, .e .call [] [], [.f 140, .t 14]⟩,
    ⟨4, some 16, none, .p (.bin .add), [.t 13, .t 15]⟩,
    ⟨5, some 5, none, .p .mov, [.t 16]⟩])
   (.skip)))
   (.seq (.reg 0 [⟨0, some 17, none, .p .mov, [.t 5]⟩,
    ⟨1, some 18, none, .p .mov, [.t 1]⟩,
    ⟨2, some 19, none, .p (.bin .rem), [.t 17, .t 18]⟩,
    ⟨3, some 4, none, .p .mov, [.t 19]⟩])
   (.ret))))),
  [.tmp 4]⟩
/- (*loop.example/g00641/spec.l1Cur).cellsOf -/
def g594_0 : GL.Code := .seq (.seq (.reg 0 [⟨0, some 5, none, .p .mov, [.t 4]⟩,
    ⟨1, some 6, none, .p (.bin .lss), [.t 5, .c (.int .i64 12)]⟩])
   (.cond (.t 6) (.skip)
   (.exit 0)))
   (.seq (.block 1 (.reg 0 [⟨0, some 9, none, .p .mov, [.t 3]⟩,
    ⟨1, some 10, none, .p .mov, [.t 0]⟩,
    ⟨2, some 11, none, .e .call [] [], [.f 91, .t 10, .c (.int .i64 9)]⟩,
    ⟨3, some 12, none, .e (.new (.lit 1)) [] [], [.t 11]⟩,
    ⟨4, some 13, none, .e (.append 1 8) [] [], [.t 9, .t 12]⟩,
    ⟨5, some 3, none, .p .mov, [.t 13]⟩]))
   (.reg 0 [⟨0, some 7, none, .p .mov, [.t 4]⟩,
    ⟨1, some 8, none, .p (.bin .add), [.t 7, .c (.int .i64 1)]⟩,
    ⟨2, some 4, none, .p .mov, [.t 8]⟩]))
def g594 : GL.Fn := ⟨.seq (.reg 0 [⟨0, some 2, none, .p .mov, [.c (.nils)]⟩])
   (.seq (.reg 0 [⟨0, some 3, none, .p .mov, [.c (.nils)]⟩])
   (.seq (.seq (.reg 0 [⟨0, some 4, none, .p .mov, [.c (.int .i64 0)]⟩])
   (.block 0 (.loop g594_0)))
   (.seq (.seq (.reg 0 [⟨0, some 14, none, .p .mov, [.t 0]⟩,
    ⟨1, some 15, none, .e .call [] [], [.f 92, .t 14, .c (.int .i64 30)]⟩])
   (.cond (.t 15) (.reg 0 [⟨0, some 16, none, .p .mov, [.t 3]⟩,
    ⟨1, some 17, none, .p .mov, [.t 0]⟩,
    ⟨2, some 18, none, .e (.new (.lit 1)) [] [], [.c (.int .i64 (-1000001)), .c (.int .i64 1000000), .c (.int .i64 1000001)]⟩,
    ⟨3, some 19, none, .e .call [] [], [.f 93, .t 17, .t 18]⟩,
    ⟨4, some 20, none, .p (.idx 1), [.t 16, .c (.int .i64 0)]⟩,
    ⟨5, none, none, .e (.store 1) [] [], [.t 20, .t 19]⟩])
   (.skip)))
   (.seq (.reg 0 [⟨0, some 21, none, .p .mov, [.t 3]⟩,
    ⟨1, some 2, none, .p .mov, [.t 21]⟩])
   (.ret))))),
  [.tmp 2]⟩
/- (*loop.example/g00641/spec.l1Cur).steps -/
def g595_0 : GL.Code := .seq (.seq (.reg 0 [⟨0, some 14, none, .p .mov, [.t 5]⟩,
    ⟨1, some 15, none, .p .mov, [.t 4]⟩,
    ⟨2, some 16, none, .p (.bin .lss), [.t 14, .t 15]⟩])
   (.cond (.t 16) (.skip)
   (.exit 0)))
   (.seq (.block 1 (.seq (.reg 0 [⟨0, some 19, none, .p .mov, [.t 0]⟩,
    ⟨1, some 20, none, .e .call [] [], [.f 91, .t 19, .c (.int .i64 3)]⟩,
    ⟨2, some 21, none, .p .mov, [.t 0]⟩,
    ⟨3, some 22, none, .e .call [] [], [.f 91, .t 21, .c (.int .i64 4)]⟩,
    ⟨4, some 23, none, .p (.build [.int .i64 0, .int .i64 0, .int .i64 0, .int .i64 0, .int .i64 0] [(0, 1), (1, 1), (2, 1)]), [.c (.int .i64 1), .t 20, .t 22]⟩,
    ⟨5, some 6, none, .l (.alloc 6 [.int .i64 0, .int .i64 0, .int .i64 0, .int .i64 0, .int .i64 0]), []⟩,
    ⟨6, none, none, .l (.store 6 5), [.t 6, .t 23]⟩])
   (.seq (.seq (.reg 0 [⟨0, some 24, none, .p .mov, [.t 5]⟩,
    ⟨1, some 25, none, .p (.bin .gtr), [.t 24, .c (.int .i64 0)]⟩,
    ⟨2, some 26, none, .p .mov, [.t 25]⟩,
    ⟨3, some 27, some (26, true), .p .mov, [.t 0]⟩,
    ⟨4, some 28, some (26, true), .e .call [] [], [.f 92, .t 27, .c (.int .i64 3)]⟩,
    ⟨5, some 29, some (26, true), .p (.un .not), [.t 28]⟩,
    ⟨6, some 30, none, .p .pick, [.t 26, .t 29, .c (.bool false)]⟩])
   (.cond (.t 30) (.seq (.reg 0 [⟨0, some 31, none, .p .mov, [.t 0]⟩,
    ⟨1, some 32, none, .e .call [] [], [.f 91, .t 31, .c (.int .i64 3)]⟩,
    ⟨2, some 33, none, .p .mov, [.t 0]⟩,
    ⟨3, some 34, none, .p .mov, [.t 5]⟩,
    ⟨4, some 35, none, .e .call [] [], [.f 91, .t 33, .t 34]⟩,
    ⟨5, some 36, none, .p .mov, [.t 0]⟩,
    ⟨6, some 37, none, .e .call [] [], [.f 91, .t 36, .c (.int .i64 20)]⟩,
    ⟨7, some 38, none, .p (.bin .sub), [.t 37, .c (.int .i64 9)]⟩,
    ⟨8, some 39, none, .p (.build [.int .i64 0, .int .i64 0, .int .i64 0, .int .i64 0, .int .i64 0] [(0, 1), (1, 1), (3, 1), (4, 1)]), [.c (.int .i64 2), .t 32, .t 35, .t 38]⟩,
    ⟨9, none, none, .l (.store 6 5), [.t 6, .t 39]⟩])
   (.seq (.seq (.reg 0 [⟨0, some 40, none, .p .mov, [.t 0]⟩,
    ⟨1, some 41, none, .e .call [] [], [.f 92, .t 40, .c (.int .i64 2)]⟩])
   (.cond (.t 41) (.reg 0 [⟨0, some 42, none, .p .mov, [.t 0]⟩,
    ⟨1, some 43, none, .e .call [] [], [.f 91, .t 42, .c (.int .i64 3)]⟩,
    ⟨2, some 44, none, .p .mov, [.t 0]⟩,
    ⟨3, some 45, none, .e .call [] [], [.f 91, .t 44, .c (.int .i64 4)]⟩,
    ⟨4, some 46, none, .p .mov, [.t 0]⟩,
    ⟨5, some 47, none, .p .mov, [.t 5]⟩,
    ⟨6, some 48, none, .e .call [] [], [.f 91, .t 46, .t 47]⟩,
    ⟨7, some 49, none, .p (.build [.int .i64 0, .int .i64 0, .int .i64 0, .int .i64 0, .int .i64 0] [(0, 1), (1, 1), (2, 1), (3, 1)]), [.c (.int .i64 3), .t 43, .t 45, .t 48]⟩,
    ⟨8, none, none, .l (.store 6 5), [.t 6, .t 49]⟩])
   (.skip)))
   (.seq (.reg 0 [⟨0, some 50, none, .p .mov, [.t 0]⟩,
    ⟨1, some 51, none, .e .call [] [], [.f 92, .t 50, .c (.int .i64 2)]⟩,
    ⟨2, some 52, none, .p .mov, [.t 51]⟩,
    ⟨3, some 53, some (52, true), .p .mov, [.t 3]⟩,
    ⟨4, some 54, some (52, true), .p (.faddr 3), [.t 6]⟩,
    ⟨5, some 55, some (52, true), .l (.load 6 false 1), [.t 54]⟩,
    ⟨6, some 56, some (52, true), .p (.idx 5), [.t 53, .t 55]⟩,
    ⟨7, some 57, some (52, true), .p (.faddr 1), [.t 56]⟩,
    ⟨8, some 58, some (52, true), .r (.load false 1) false, [.t 57]⟩,
    ⟨9, some 59, some (52, true), .p (.faddr 1), [.t 6]⟩,
    ⟨10, some 60, some (52, true), .l (.load 6 false 1), [.t 59]⟩,
    ⟨11, some 61, some (52, true), .p (.bin .gtr), [.t 58, .t 60]⟩,
    ⟨12, some 62, none, .p .pick, [.t 52, .t 61, .c (.bool false)]⟩])
   (.cond (.t 62) (.reg 0 [⟨0, some 63, none, .p .mov, [.t 3]⟩,
    ⟨1, some 64, none, .p (.faddr 3), [.t 6]⟩,
    ⟨2, some 65, none, .l (.load 6 false 1), [.t 64]⟩,
    ⟨3, some 66, none, .p (.idx 5), [.t 63, .t 65]⟩,
    ⟨4, some 67, none, .p (.faddr 1), [.t 66]⟩,
    ⟨5, some 68, none, .r (.load false 1) false, [.t 67]⟩,
    ⟨6, some 69, none, .p (.faddr 1), [.t 6]⟩,
    ⟨7, none, none, .l (.store 6 1), [.t 69, .t 68]⟩])
   (.skip)))))
   (.skip)))
   (.reg 0 [⟨0, some 70, none, .p .mov, [.t 3]⟩,
    ⟨1, some 71, none, .l (.load 6 true 5), [.t 6]⟩,
    ⟨2, some 72, none, .e (.new (.lit 5)) [] [], [.t 71]⟩,
    ⟨3, some 73, none, .e (.append 5 40) [] [], [.t 70, .t 72]⟩,
    ⟨4, some 3, none, .p .mov, [.t 73]⟩]))))
   (.reg 0 [⟨0, some 17, none, .p .mov, [.t 5]⟩,
    ⟨1, some 18, none, .p (.bin .add), [.t 17, .c (.int .i64 1)]⟩,
    ⟨2, some 5, none, .p .mov, [.t 18]⟩]))
def g595 : GL.Fn := ⟨.seq (.reg 0 [⟨0, some 2, none, .p .mov, [.c (.nils)]⟩])
   (.seq (.reg 0 [⟨0, some 3, none, .p .mov, [.c (.nils)]⟩])
   (.seq (.reg 0 [⟨0, some 7, none, .p .mov, [.t 0]⟩,
    ⟨1, some 8, none, .e .call [] [], [.f 91, .t 7, .c (.int .i64 8)]⟩,
    ⟨2, some 4, none, .p .mov, [.t 8]⟩])
   (.seq (.seq (.reg 0 [⟨0, some 9, none, .p .mov, [.t 0]⟩,
    ⟨1, some 10, none, .e .call [] [], [.f 92, .t 9, .c (.int .i64 20)]⟩])
   (.cond (.t 10) (.reg 0 [⟨0, some 11, none, .p .mov, [.t 0]⟩,
    ⟨1, some 12, none, .e .call [] [], [.f 91, .t 11, .c (.int .i64 2)]⟩,
    ⟨2, some 13, none, .p (.bin .add), [.c (.int .i64 10), .t 12]⟩,
    ⟨3, some 4, none, .p .mov, [.t 13]⟩])
   (.skip)))
   (.seq (.seq (.reg 0 [⟨0, some 5, none, .p .mov, [.c (.int .i64 0)]⟩])
   (.block 0 (.loop g595_0)))
   (.seq (.seq (.reg 0 [⟨0, some 74, none, .p .mov, [.t 3]⟩,
    ⟨1, some 75, none, .p .len, [.t 74]⟩,
    ⟨2, some 76, none, .p (.bin .gtr), [.t 75, .c (.int .i64 0)]⟩,
    ⟨3, some 77, none, .p .mov, [.t 76]⟩,
    ⟨4, some 78, some (77, true), .p .mov, [.t 0]⟩,
    ⟨5, some 79, some (77, true), .e .call [] [], [.f 92, .t 78, .c (.int .i64 30)]⟩,
    ⟨6, some 80, none, .p .pick, [.t 77, .t 79, .c (.bool false)]⟩])
   (.cond (.t 80) (.reg 0 [⟨0, some 81, none, .p .mov, [.t 3]⟩,
    ⟨1, some 82, none, .p .mov, [.t 0]⟩,
    ⟨2, some 83, none, .e .call [] [], [.f 91, .t 82, .c (.int .i64 5)]⟩,
    ⟨3, some 84, none, .p .mov, [.t 0]⟩,
    ⟨4, some 85, none, .e .call [] [], [.f 91, .t 84, .c (.int .i64 4)]⟩,
    ⟨5, some 86, none, .p .mov, [.t 0]⟩,
    ⟨6, some 87, none, .e (.new (.lit 1)) [] [], [.c (.int .i64 (-100)), .c (.int .i64 0), .c (.int .i64 99)]⟩,
    ⟨7, some 88, none, .e .call [] [], [.f 93, .t 86, .t 87]⟩,
    ⟨8, some 89, none, .p (.build [.int .i64 0, .int .i64 0, .int .i64 0, .int .i64 0, .int .i64 0] [(0, 1), (1, 1), (4, 1)]), [.t 83, .t 85, .t 88]⟩,
    ⟨9, some 90, none, .p (.idx 5), [.t 81, .c (.int .i64 0)]⟩,
    ⟨10, none, none, .e (.store 5) [] [], [.t 90, .t 89]⟩])
   (.skip)))
   (.seq (.reg 0 [⟨0, some 91, none, .p .mov, [.t 3]⟩,
    ⟨1, some 2, none, .p .mov, [.t 91]⟩])
   (.ret))))))),
  [.tmp 2]⟩
/- loop.example/g00641/spec.OrderBy -/
def g499_0 : GL.Code := .seq (.reg 0 [⟨0, some 14, none, .p (.bin .lss), [.t 13, .t 12]⟩])
   (.seq (.cond (.t 14) (.skip)
   (.exit 0))
   (.seq (.block 1 (.seq (.reg 0 [⟨0, some 15, none, .p (.idx 1), [.t 11, .t 13]⟩,
    ⟨1, some 16, none, .r (.load false 1) false, [.t 15]⟩,
    ⟨2, some 6, none, .p .mov, [.t 16]⟩])
   (.reg 0 [⟨0, some 17, none, .p .mov, [.t 4]⟩,
    ⟨1, some 18, none, .p .mov, [.t 6]⟩,
    ⟨2, some 19, none, .e (.append 1 8) [] [], [.t 17, .t 18]⟩,
    ⟨3, some 4, none, .p .mov, [.t 19]⟩])))
   (.reg 0 [⟨0, some 20, none, .p (.bin .add), [.t 13, .c (.int .i64 1)]⟩,
    ⟨1, some 13, none, .p .mov, [.t 20]⟩])))
def g499 : GL.Fn := ⟨.seq (.reg 0 [⟨0, some 2, none, .p .mov, [.c (.nils)]⟩,
    ⟨1, some 3, none, .p .mov, [.c (.bool false)]⟩])
   (.seq (.seq (.reg 0 [⟨0, some 7, none, .p .mov, [.t 0]⟩,
    ⟨1, some 8, none, .e .call [] [], [.f 550, .t 7]⟩,
    ⟨2, some 9, none, .p (.un .not), [.t 8]⟩])
   (.cond (.t 9) (.seq (.reg 0 [⟨0, some 2, none, .p .mov, [.c (.nils)]⟩,
    ⟨1, some 3, none, .p .mov, [.c (.bool false)]⟩])
   (.ret))
   (.skip)))
   (.seq (.reg 0 [⟨0, some 4, none, .p .mov, [.c (.nils)]⟩])
   (.seq (.seq (.reg 0 [⟨0, some 10, none, .p .mov, [.t 0]⟩,
    ⟨1, some 11, none, .e .call [] [], [.f 558, .t 10]⟩,
    ⟨2, some 12, none, .p .len, [.t 11]⟩,
    ⟨3, some 13, none, .p .mov, [.c (.int .i64 0)]⟩])
   (.block 0 (.loop g499_0)))
   (.seq (.reg 0 [⟨0, some 21, none, .p .mov, [.t 4]⟩,
    ⟨1, some 2, none, .p .mov, [.t 21]⟩,
    ⟨2, some 3, none, .p .mov, [.c (.bool true)]⟩])
   (.ret))))),
  [.tmp 2, .tmp 3]⟩
/- loop.example/g00641/impl.isStore -/
def g596 : GL.Fn := ⟨.seq (.reg 0 [⟨0, some 2, none, .p .mov, [.c (.bool false)]⟩])
   (.seq (.reg 0 [⟨0, some 3, none, .p .mov, [.t 0]⟩,
    ⟨1, some 4, none, .p .len, [.t 3]⟩,
    ⟨2, some 5, none, .p (.bin .eql), [.t 4, .c (.int .i64 12)]⟩,
    ⟨3, some 6, none, .p .mov, [.t 5]⟩,
    ⟨4, some 7, some (6, true), .p .mov, [.t 0]⟩,
    ⟨5, some 8, some (6, true), .e .call [] [], [.f 304, .t 7, .f 607]⟩,
    ⟨6, some 9, some (6, true), .p (.un .not), [.t 8]⟩,
    ⟨7, some 10, none, .p .pick, [.t 6, .t 9, .c (.bool false)]⟩,
    ⟨8, some 2, none, .p .mov, [.t 10]⟩])
   (.ret)),
  [.tmp 2]⟩
/- loop.example/g00641/impl.needs -/
def g766_0 : GL.Code := .seq (.reg 0 [⟨0, some 10, none, .p (.bin .lss), [.t 9, .t 8]⟩])
   (.seq (.cond (.t 10) (.skip)
   (.exit 0))
   (.seq (.block 1 (.seq (.reg 0 [⟨0, some 11, none, .p (.idx 5), [.t 7, .t 9]⟩,
    ⟨1, some 12, none, .r (.load true 5) false, [.t 11]⟩,
    ⟨2, some 5, none, .l (.alloc 5 [.int .i64 0, .int .i64 0, .int .i64 0, .int .i64 0, .int .i64 0]), []⟩,
    ⟨3, none, none, .l (.store 5 5), [.t 5, .t 12]⟩])
   (.seq (.reg 0 [⟨0, some 13, none, .p (.faddr 0), [.t 5]⟩,
    ⟨1, some 14, none, .l (.load 5 false 1), [.t 13]⟩,
    ⟨2, some 15, none, .p (.bin .neq), [.t 14, .c (.int .i64 1)]⟩,
    ⟨3, some 16, none, .p .mov, [.t 15]⟩,
    ⟨4, some 17, some (16, true), .p .mov, [.t 0]⟩,
    ⟨5, some 18, some (16, true), .p (.faddr 3), [.t 5]⟩,
    ⟨6, some 19, some (16, true), .l (.load 5 false 1), [.t 18]⟩,
    ⟨7, some 20, some (16, true), .p (.idx 5), [.t 17, .t 19]⟩,
    ⟨8, some 21, some (16, true), .p (.faddr 1), [.t 20]⟩,
    ⟨9, some 22, some (16, true), .r (.load false 1) false, [.t 21]⟩,
    ⟨10, some 23, some (16, true), .p (.faddr 1), [.t 5]⟩,
    ⟨11, some 24, some (16, true), .l (.load 5 false 1), [.t 23]⟩,
    ⟨12, some 25, some (16, true), .p (.bin .neq), [.t 22, .t 24]⟩,
    ⟨13, some 26, none, .p .pick, [.t 16, .t 25, .c (.bool false)]⟩])
   (.cond (.t 26) (.reg 0 [⟨0, some 27, none, .p .mov, [.t 3]⟩,
    ⟨1, some 28, none, .p (.faddr 1), [.t 5]⟩,
    ⟨2, some 29, none, .l (.load 5 false 1), [.t 28]⟩,
    ⟨3, some 30, none, .p .mov, [.t 3]⟩,
    ⟨4, some 31, none, .p (.faddr 1), [.t 5]⟩,
    ⟨5, some 32, none, .l (.load 5 false 1), [.t 31]⟩,
    ⟨6, some 33, none, .p (.idx 1), [.t 30, .t 32]⟩,
    ⟨7, some 34, none, .r (.load false 1) true, [.t 33]⟩,
    ⟨8, some 35, none, .p .mov, [.t 0]⟩,
    ⟨9, some 36, none, .p (.faddr 3), [.t 5]⟩,
    ⟨10, some 37, none, .l (.load 5 false 1), [.t 36]⟩,
    ⟨11, some 38, none, .p (.idx 5), [.t 35, .t 37]⟩,
    ⟨12, some 39, none, .p (.faddr 1), [.t 38]⟩,
    ⟨13, some 40, none, .r (.load false 1) false, [.t 39]⟩,
    ⟨14, some 41, none, .e (.new (.lit 1)) [7] [], [.t 40]⟩,
    ⟨15, some 42, none, .e .call [] [], [.f 412, .t 34, .t 41]⟩,
    ⟨16, some 43, none, .p (.idx 1), [.t 27, .t 29]⟩,
    ⟨17, none, none, .e (.store 1) [] [], [.t 43, .t 42]⟩])
   (.skip)))))
   (.reg 0 [⟨0, some 44, none, .p (.bin .add), [.t 9, .c (.int .i64 1)]⟩,
    ⟨1, some 9, none, .p .mov, [.t 44]⟩])))
def g766 : GL.Fn := ⟨.seq (.reg 0 [⟨0, some 2, none, .p .mov, [.c (.nils)]⟩])
   (.seq (.reg 0 [⟨0, some 6, none, .e (.new (.make 1 24 [.nils])) [] [], [.c (.int .i64 3), .c (.int .i64 3)]⟩,
    ⟨1, some 3, none, .p .mov, [.t 6]⟩])
   (.seq (.seq (.reg 0 [⟨0, some 7, none, .p .mov, [.t 0]⟩,
    ⟨1, some 8, none, .p .len, [.t 7]⟩,
    ⟨2, some 9, none, .p .mov, [.c (.int .i64 0)]⟩])
   (.block 0 (.loop g766_0)))
   (.seq (.reg 0 [⟨0, some 45, none, .p .mov, [.t 3]⟩,
    ⟨1, some 2, none, .p .mov, [.t 45]⟩])
   (.ret)))),
  [.tmp 2]⟩
/- loop.example/g00641/impl.pieces -/
def g603_0 : GL.Code := .seq (.reg 0 [⟨0, some 10, none, .p (.bin .lss), [.t 9, .t 8]⟩])
   (.seq (.cond (.t 10) (.skip)
   (.exit 0))
   (.seq (.block 1 (.seq (.reg 0 [⟨0, some 11, none, .p .mov, [.t 9]⟩,
    ⟨1, some 12, none, .p (.idx 5), [.t 7, .t 9]⟩,
    ⟨2, some 13, none, .r (.load true 5) false, [.t 12]⟩,
    ⟨3, some 5, none, .l (.alloc 5 [.int .i64 0, .int .i64 0, .int .i64 0, .int .i64 0, .int .i64 0]), []⟩,
    ⟨4, some 4, none, .p .mov, [.t 11]⟩,
    ⟨5, none, none, .l (.store 5 5), [.t 5, .t 13]⟩])
   (.reg 0 [⟨0, some 14, none, .p .mov, [.t 3]⟩,
    ⟨1, some 15, none, .p (.faddr 1), [.t 5]⟩,
    ⟨2, some 16, none, .l (.load 5 false 1), [.t 15]⟩,
    ⟨3, some 17, none, .p .mov, [.t 3]⟩,
    ⟨4, some 18, none, .p (.faddr 1), [.t 5]⟩,
    ⟨5, some 19, none, .l (.load 5 false 1), [.t 18]⟩,
    ⟨6, some 20, none, .p (.idx 1), [.t 17, .t 19]⟩,
    ⟨7, some 21, none, .r (.load false 1) true, [.t 20]⟩,
    ⟨8, some 22, none, .p .mov, [.t 4]⟩,
    ⟨9, some 23, none, .e (.new (.lit 1)) [7] [], [.t 22]⟩,
    ⟨10, some 24, none, .e (.append 1 8) [] [], [.t 21, .t 23]⟩,
    ⟨11, some 25, none, .p (.idx 1), [.t 14, .t 16]⟩,
    ⟨12, none, none, .e (.store 1) [] [], [.t 25, .t 24]⟩])))
   (.reg 0 [⟨0, some 26, none, .p (.bin .add), [.t 9, .c (.int .i64 1)]⟩,
    ⟨1, some 9, none, .p .mov, [.t 26]⟩])))
def g603 : GL.Fn := ⟨.seq (.reg 0 [⟨0, some 2, none, .p .mov, [.c (.nils)]⟩])
   (.seq (.reg 0 [⟨0, some 6, none, .e (.new (.make 1 24 [.nils])) [] [], [.c (.int .i64 3), .c (.int .i64 3)]⟩,
    ⟨1, some 3, none, .p .mov, [.t 6]⟩])
   (.seq (.seq (.reg 0 [⟨0, some 7, none, .p .mov, [.t 0]⟩,
    ⟨1, some 8, none, .p .len, [.t 7]⟩,
    ⟨2, some 9, none, .p .mov, [.c (.int .i64 0)]⟩])
   (.block 0 (.loop g603_0)))
   (.seq (.reg 0 [⟨0, some 27, none, .p .mov, [.t 3]⟩,
    ⟨1, some 2, none, .p .mov, [.t 27]⟩])
   (.ret)))),
  [.tmp 2]⟩
/- loop.example/g00641/impl.hasAll -/
def g552 : GL.Fn := ⟨.seq (.reg 0 [⟨0, some 2, none, .e (.new (.box 1)) [] [], [.t 0]⟩,
    ⟨1, some 4, none, .p .mov, [.c (.bool false)]⟩])
   (.seq (.reg 0 [⟨0, some 5, none, .p .mov, [.t 1]⟩,
    ⟨1, some 6, none, .p (.mkFn 572), [.t 2]⟩,
    ⟨2, some 7, none, .e .call [] [], [.f 304, .t 5, .t 6]⟩,
    ⟨3, some 8, none, .p (.un .not), [.t 7]⟩,
    ⟨4, some 4, none, .p .mov, [.t 8]⟩])
   (.ret)),
  [.tmp 4]⟩
/- loop.example/g00641/impl.runAll -/
def g599_0 : GL.Code := .seq (.reg 0 [⟨0, some 20, none, .p (.bin .lss), [.t 19, .t 18]⟩])
   (.seq (.cond (.t 20) (.skip)
   (.exit 0))
   (.seq (.block 1 (.seq (.reg 0 [⟨0, some 21, none, .p (.idx 1), [.t 17, .t 19]⟩,
    ⟨1, some 22, none, .r (.load false 1) false, [.t 21]⟩,
    ⟨2, some 11, none, .p .mov, [.t 22]⟩])
   (.reg 0 [⟨0, some 23, none, .p .mov, [.t 9]⟩,
    ⟨1, some 24, none, .p .mov, [.t 11]⟩,
    ⟨2, some 25, none, .p .mov, [.t 1]⟩,
    ⟨3, some 26, none, .p .mov, [.t 11]⟩,
    ⟨4, some 27, none, .p (.idx 5), [.t 25, .t 26]⟩,
    ⟨5, some 28, none, .r (.load true 5) false, [.t 27]⟩,
    ⟨6, some 29, none, .p .mov, [.t 8]⟩,
    ⟨7, some 30, none, .p .mov, [.t 9]⟩,
    ⟨8, some 31, none, .e .call [] [], [.f 609, .t 28, .t 29, .t 30]⟩,
    ⟨9, some 32, none, .p (.idx 1), [.t 23, .t 24]⟩,
    ⟨10, none, none, .e (.store 1) [] [], [.t 32, .t 31]⟩])))
   (.reg 0 [⟨0, some 33, none, .p (.bin .add), [.t 19, .c (.int .i64 1)]⟩,
    ⟨1, some 19, none, .p .mov, [.t 33]⟩])))
def g599 : GL.Fn := ⟨.seq (.reg 0 [⟨0, some 6, none, .p .mov, [.c (.nils)]⟩,
    ⟨1, some 7, none, .p .mov, [.c (.nils)]⟩])
   (.seq (.reg 1 [⟨0, some 12, none, .p .mov, [.t 0]⟩,
    ⟨1, some 13, none, .e .call [] [0], [.f 389, .t 12]⟩,
    ⟨2, some 14, none, .p .mov, [.t 1]⟩,
    ⟨3, some 15, none, .p .len, [.t 14]⟩,
    ⟨4, some 16, none, .m (.make 1 8 [.int .i64 0]) 0, [.t 15, .t 15]⟩,
    ⟨5, some 8, none, .p .mov, [.t 13]⟩,
    ⟨6, some 9, none, .p .mov, [.t 16]⟩])
   (.seq (.seq (.reg 0 [⟨0, some 17, none, .p .mov, [.t 2]⟩,
    ⟨1, some 18, none, .p .len, [.t 17]⟩,
    ⟨2, some 19, none, .p .mov, [.c (.int .i64 0)]⟩])
   (.block 0 (.loop g599_0)))
   (.seq (.reg 0 [⟨0, some 34, none, .p .mov, [.t 8]⟩,
    ⟨1, some 35, none, .p .mov, [.t 9]⟩,
    ⟨2, some 6, none, .p .mov, [.t 34]⟩,
    ⟨3, some 7, none, .p .mov, [.t 35]⟩])
   (.ret)))),
  [.tmp 6, .tmp 7]⟩
/- loop.example/g00641/spec.l15Store -/
def g767 : GL.Fn := ⟨.seq (.reg 0 [⟨0, some 2, none, .p .mov, [.c (.bool false)]⟩])
   (.seq (.reg 0 [⟨0, some 3, none, .p .mov, [.t 0]⟩,
    ⟨1, some 4, none, .p .len, [.t 3]⟩,
    ⟨2, some 5, none, .p (.bin .eql), [.t 4, .c (.int .i64 12)]⟩,
    ⟨3, some 6, none, .p .mov, [.t 5]⟩,
    ⟨4, some 7, some (6, true), .p .mov, [.t 0]⟩,
    ⟨5, some 8, some (6, true), .e .call [] [], [.f 94, .t 7, .c (.int .i64 (-1000000)), .c (.int .i64 1000000)]⟩,
    ⟨6, some 9, none, .p .pick, [.t 6, .t 8, .c (.bool false)]⟩,
    ⟨7, some 2, none, .p .mov, [.t 9]⟩])
   (.ret)),
  [.tmp 2]⟩
/- loop.example/g00641/spec.l15Needs -/
def g768_0 : GL.Code := .seq (.reg 0 [⟨0, some 10, none, .p (.bin .lss), [.t 9, .t 8]⟩])
   (.seq (.cond (.t 10) (.skip)
   (.exit 0))
   (.seq (.block 1 (.seq (.reg 0 [⟨0, some 11, none, .p (.idx 5), [.t 7, .t 9]⟩,
    ⟨1, some 12, none, .r (.load true 5) false, [.t 11]⟩,
    ⟨2, some 5, none, .l (.alloc 5 [.int .i64 0, .int .i64 0, .int .i64 0, .int .i64 0, .int .i64 0]), []⟩,
    ⟨3, none, none, .l (.store 5 5), [.t 5, .t 12]⟩])
   (.seq (.reg 0 [⟨0, some 13, none, .p (.faddr 0), [.t 5]⟩,
    ⟨1, some 14, none, .l (.load 5 false 1), [.t 13]⟩,
    ⟨2, some 15, none, .p (.bin .neq), [.t 14, .c (.int .i64 1)]⟩,
    ⟨3, some 16, none, .p .mov, [.t 15]⟩,
    ⟨4, some 17, some (16, true), .p .mov, [.t 0]⟩,
    ⟨5, some 18, some (16, true), .p (.faddr 3), [.t 5]⟩,
    ⟨6, some 19, some (16, true), .l (.load 5 false 1), [.t 18]⟩,
    ⟨7, some 20, some (16, true), .p (.idx 5), [.t 17, .t 19]⟩,
    ⟨8, some 21, some (16, true), .p (.faddr 1), [.t 20]⟩,
    ⟨9, some 22, some (16, true), .r (.load false 1) false, [.t 21]⟩,
    ⟨10, some 23, some (16, true), .p (.faddr 1), [.t 5]⟩,
    ⟨11, some 24, some (16, true), .l (.load 5 false 1), [.t 23]⟩,
    ⟨12, some 25, some (16, true), .p (.bin .neq), [.t 22, .t 24]⟩,
    ⟨13, some 26, none, .p .pick, [.t 16, .t 25, .c (.bool false)]⟩])
   (.cond (.t 26) (.reg 0 [⟨0, some 27, none, .p .mov, [.t 3]⟩,
    ⟨1, some 28, none, .p (.faddr 1), [.t 5]⟩,
    ⟨2, some 29, none, .l (.load 5 false 1), [.t 28]⟩,
    ⟨3, some 30, none, .p .mov, [.t 3]⟩,
    ⟨4, some 31, none, .p (.faddr 1), [.t 5]⟩,
    ⟨5, some 32, none, .l (.load 5 false 1), [.t 31]⟩,
    ⟨6, some 33, none, .p (.idx 1), [.t 30, .t 32]⟩,
    ⟨7, some 34, none, .r (.load false 1) false, [.t 33]⟩,
    ⟨8, some 35, none, .p .mov, [.t 0]⟩,
    ⟨9, some 36, none, .p (.faddr 3), [.t 5]⟩,
    ⟨10, some 37, none, .l (.load 5 false 1), [.t 36]⟩,
    ⟨11, some 38, none, .p (.idx 5), [.t 35, .t 37]⟩,
    ⟨12, some 39, none, .p (.faddr 1), [.t 38]⟩,
    ⟨13, some 40, none, .r (.load false 1) false, [.t 39]⟩,
    ⟨14, some 41, none, .e .call [] [], [.f 410, .t 34, .t 40]⟩,
    ⟨15, some 42, none, .p (.idx 1), [.t 27, .t 29]⟩,
    ⟨16, none, none, .e (.store 1) [] [], [.t 42, .t 41]⟩])
   (.skip)))))
   (.reg 0 [⟨0, some 43, none, .p (.bin .add), [.t 9, .c (.int .i64 1)]⟩,
    ⟨1, some 9, none, .p .mov, [.t 43]⟩])))
def g768 : GL.Fn := ⟨.seq (.reg 0 [⟨0, some 2, none, .p .mov, [.c (.nils)]⟩])
   (.seq (.reg 0 [⟨0, some 6, none, .e (.new (.make 1 24 [.nils])) [] [], [.c (.int .i64 3), .c (.int .i64 3)]⟩,
    ⟨1, some 3, none, .p .mov, [.t 6]⟩])
   (.seq (.seq (.reg 0 [⟨0, some 7, none, .p .mov, [.t 0]⟩,
    ⟨1, some 8, none, .p .len, [.t 7]⟩,
    ⟨2, some 9, none, .p .mov, [.c (.int .i64 0)]⟩])
   (.block 0 (.loop g768_0)))
   (.seq (.reg 0 [⟨0, some 44, none, .p .mov, [.t 3]⟩,
    ⟨1, some 2, none, .p .mov, [.t 44]⟩])
   (.ret)))),
  [.tmp 2]⟩
/- loop.example/g00641/spec.l5Sub -/
def g554_0 : GL.Code := .seq (.reg 0 [⟨0, some 10, none, .p (.bin .lss), [.t 9, .t 8]⟩])
   (.seq (.cond (.t 10) (.skip)
   (.exit 0))
   (.seq (.block 1 (.seq (.reg 0 [⟨0, some 11, none, .p (.idx 1), [.t 7, .t 9]⟩,
    ⟨1, some 12, none, .r (.load false 1) false, [.t 11]⟩,
    ⟨2, some 6, none, .p .mov, [.t 12]⟩])
   (.seq (.reg 0 [⟨0, some 13, none, .p .mov, [.t 1]⟩,
    ⟨1, some 14, none, .p .mov, [.t 6]⟩,
    ⟨2, some 15, none, .e .call [] [], [.f 302, .t 13, .t 14]⟩,
    ⟨3, some 16, none, .p (.un .not), [.t 15]⟩])
   (.cond (.t 16) (.seq (.reg 0 [⟨0, some 4, none, .p .mov, [.c (.bool false)]⟩])
   (.ret))
   (.skip)))))
   (.reg 0 [⟨0, some 17, none, .p (.bin .add), [.t 9, .c (.int .i64 1)]⟩,
    ⟨1, some 9, none, .p .mov, [.t 17]⟩])))
def g554 : GL.Fn := ⟨.seq (.reg 0 [⟨0, some 4, none, .p .mov, [.c (.bool false)]⟩])
   (.seq (.seq (.reg 0 [⟨0, some 7, none, .p .mov, [.t 0]⟩,
    ⟨1, some 8, none, .p .len, [.t 7]⟩,
    ⟨2, some 9, none, .p .mov, [.c (.int .i64 0)]⟩])
   (.block 0 (.loop g554_0)))
   (.seq (.reg 0 [⟨0, some 4, none, .p .mov, [.c (.bool true)]⟩])
   (.ret))),
  [.tmp 4]⟩
/- loop.example/g00641/spec.l15Step -/
def g769 : GL.Fn := ⟨.seq (.reg 0 [⟨0, some 10, none, .p .mov, [.t 2]⟩,
    ⟨1, some 11, none, .p .mov, [.t 3]⟩,
    ⟨2, some 12, none, .p (.idx 5), [.t 10, .t 11]⟩,
    ⟨3, some 13, none, .r (.load true 5) false, [.t 12]⟩,
    ⟨4, some 8, none, .l (.alloc 8 [.int .i64 0, .int .i64 0, .int .i64 0, .int .i64 0, .int .i64 0]), []⟩,
    ⟨5, none, none, .l (.store 8 5), [.t 8, .t 13]⟩])
   (.seq (.reg 0 [⟨0, some 14, none, .p (.faddr 1), [.t 8]⟩,
    ⟨1, some 15, none, .l (.load 8 false 1), [.t 14]⟩,
    ⟨2, some 16, none, .p (.bin .mul), [.c (.int .i64 4), .t 15]⟩,
    ⟨3, some 17, none, .p (.faddr 2), [.t 8]⟩,
    ⟨4, some 18, none, .l (.load 8 false 1), [.t 17]⟩,
    ⟨5, some 19, none, .p (.bin .add), [.t 16, .t 18]⟩,
    ⟨6, some 9, none, .p .mov, [.t 19]⟩])
   (.seq (.reg 0 [⟨0, some 20, none, .p (.faddr 0), [.t 8]⟩,
    ⟨1, some 21, none, .l (.load 8 false 1), [.t 20]⟩])
   (.block 0 (.seq (.reg 0 [⟨0, some 39, none, .p (.bin .eql), [.t 21, .c (.int .i64 1)]⟩,
    ⟨1, some 38, none, .p .mov, [.t 39]⟩])
   (.cond (.t 38) (.reg 0 [⟨0, some 40, none, .p .mov, [.t 1]⟩,
    ⟨1, some 41, none, .p .mov, [.t 3]⟩,
    ⟨2, some 42, none, .p .mov, [.t 0]⟩,
    ⟨3, some 43, none, .p .mov, [.t 9]⟩,
    ⟨4, some 44, none, .p (.idx 1), [.t 42, .t 43]⟩,
    ⟨5, some 45, none, .r (.load false 1) false, [.t 44]⟩,
    ⟨6, some 46, none, .p (.idx 1), [.t 40, .t 41]⟩,
    ⟨7, none, none, .e (.store 1) [] [], [.t 46, .t 45]⟩])
   (.seq (.reg 0 [⟨0, some 48, none, .p (.bin .eql), [.t 21, .c (.int .i64 2)]⟩,
    ⟨1, some 47, none, .p .mov, [.t 48]⟩])
   (.cond (.t 47) (.reg 0 [⟨0, some 49, none, .p .mov, [.t 1]⟩,
    ⟨1, some 50, none, .p .mov, [.t 3]⟩,
    ⟨2, some 51, none, .p .mov, [.t 1]⟩,
    ⟨3, some 52, none, .p (.faddr 3), [.t 8]⟩,
    ⟨4, some 53, none, .l (.load 8 false 1), [.t 52]⟩,
    ⟨5, some 54, none, .p (.idx 1), [.t 51, .t 53]⟩,
    ⟨6, some 55, none, .r (.load false 1) false, [.t 54]⟩,
    ⟨7, some 56, none, .p (.faddr 4), [.t 8]⟩,
    ⟨8, some 57, none, .l (.load 8 false 1), [.t 56]⟩,
    ⟨9, some 58, none, .p (.bin .add), [.t 55, .t 57]⟩,
    ⟨10, some 59, none, .p (.bin .rem), [.t 58, .c (.int .i64 1000)]⟩,
    ⟨11, some 60, none, .p (.idx 1), [.t 49, .t 50]⟩,
    ⟨12, none, none, .e (.store 1) [] [], [.t 60, .t 59]⟩])
   (.seq (.reg 0 [⟨0, some 22, none, .p .mov, [.t 0]⟩,
    ⟨1, some 23, none, .p .mov, [.t 9]⟩,
    ⟨2, some 24, none, .p .mov, [.t 1]⟩,
    ⟨3, some 25, none, .p (.faddr 3), [.t 8]⟩,
    ⟨4, some 26, none, .l (.load 8 false 1), [.t 25]⟩,
    ⟨5, some 27, none, .p (.idx 1), [.t 24, .t 26]⟩,
    ⟨6, some 28, none, .r (.load false 1) false, [.t 27]⟩,
    ⟨7, some 29, none, .p (.idx 1), [.t 22, .t 23]⟩,
    ⟨8, none, none, .e (.store 1) [] [], [.t 29, .t 28]⟩])
   (.reg 0 [⟨0, some 30, none, .p .mov, [.t 1]⟩,
    ⟨1, some 31, none, .p .mov, [.t 3]⟩,
    ⟨2, some 32, none, .p .mov, [.t 1]⟩,
    ⟨3, some 33, none, .p (.faddr 3), [.t 8]⟩,
    ⟨4, some 34, none, .l (.load 8 false 1), [.t 33]⟩,
    ⟨5, some 35, none, .p (.idx 1), [.t 32, .t 34]⟩,
    ⟨6, some 36, none, .r (.load false 1) false, [.t 35]⟩,
    ⟨7, some 37, none, .p (.idx 1), [.t 30, .t 31]⟩,
    ⟨8, none, none, .e (.store 1) [] [], [.t 37, .t 36]⟩]))))))))),
  []⟩
/- loop.example/g00641/impl.allColumns -/
def g598_0 : GL.Code := .seq (.reg 0 [⟨0, some 8, none, .p (.bin .lss), [.t 7, .t 6]⟩])
   (.seq (.cond (.t 8) (.skip)
   (.exit 0))
   (.seq (.block 1 (.seq (.reg 0 [⟨0, some 9, none, .p .mov, [.t 7]⟩,
    ⟨1, some 4, none, .p .mov, [.t 9]⟩])
   (.reg 0 [⟨0, some 10, none, .p .mov, [.t 3]⟩,
    ⟨1, some 11, none, .p .mov, [.t 4]⟩,
    ⟨2, some 12, none, .e (.new (.lit 1)) [] [], [.t 11]⟩,
    ⟨3, some 13, none, .e (.append 1 8) [] [], [.t 10, .t 12]⟩,
    ⟨4, some 3, none, .p .mov, [.t 13]⟩])))
   (.reg 0 [⟨0, some 14, none, .p (.bin .add), [.t 7, .c (.int .i64 1)]⟩,
    ⟨1, some 7, none, .p .mov, [.t 14]⟩])))
def g598 : GL.Fn := ⟨.seq (.reg 0 [⟨0, some 2, none, .p .mov, [.c (.nils)]⟩])
   (.seq (.reg 0 [⟨0, some 5, none, .e (.new (.lit 1)) [] [], []⟩,
    ⟨1, some 3, none, .p .mov, [.t 5]⟩])
   (.seq (.seq (.reg 0 [⟨0, some 6, none, .p .mov, [.t 0]⟩,
    ⟨1, some 7, none, .p .mov, [.c (.int .i64 0)]⟩])
   (.block 0 (.loop g598_0)))
   (.seq (.reg 0 [⟨0, some 15, none, .p .mov, [.t 3]⟩,
    ⟨1, some 2, none, .p .mov, [.t 15]⟩])
   (.ret)))),
  [.tmp 2]⟩
/- loop.example/g00641/impl.IsRoundless -/
def g511_0 : GL.Code := .seq (.reg 0 [⟨0, some 12, none, .p (.bin .lss), [.t 11, .t 10]⟩])
   (.seq (.cond (.t 12) (.skip)
   (.exit 0))
   (.seq (.block 1 (.seq (.reg 0 [⟨0, some 13, none, .p .mov, [.t 11]⟩,
    ⟨1, some 14, none, .p (.idx 1), [.t 9, .t 11]⟩,
    ⟨2, some 15, none, .r (.load false 1) false, [.t 14]⟩,
    ⟨3, some 4, none, .p .mov, [.t 13]⟩,
    ⟨4, some 5, none, .p .mov, [.t 15]⟩])
   (.seq (.reg 0 [⟨0, some 16, none, .p .mov, [.t 0]⟩,
    ⟨1, some 17, none, .p .mov, [.t 4]⟩,
    ⟨2, some 18, none, .e .call [] [], [.f 560, .t 16, .t 17]⟩,
    ⟨3, some 19, none, .p .len, [.t 18]⟩,
    ⟨4, some 20, none, .p (.bin .gtr), [.t 19, .c (.int .i64 1)]⟩,
    ⟨5, some 21, none, .p .mov, [.t 20]⟩,
    ⟨6, some 22, some (21, false), .p .mov, [.t 5]⟩,
    ⟨7, some 23, some (21, false), .p .mov, [.t 4]⟩,
    ⟨8, some 24, some (21, false), .e .call [] [], [.f 301, .t 22, .t 23]⟩,
    ⟨9, some 25, none, .p .pick, [.t 21, .c (.bool true), .t 24]⟩])
   (.cond (.t 25) (.seq (.reg 0 [⟨0, some 2, none, .p .mov, [.c (.bool false)]⟩,
    ⟨1, some 3, none, .p .mov, [.c (.bool true)]⟩])
   (.ret))
   (.skip)))))
   (.reg 0 [⟨0, some 26, none, .p (.bin .add), [.t 11, .c (.int .i64 1)]⟩,
    ⟨1, some 11, none, .p .mov, [.t 26]⟩])))
def g511 : GL.Fn := ⟨.seq (.reg 0 [⟨0, some 2, none, .p .mov, [.c (.bool false)]⟩,
    ⟨1, some 3, none, .p .mov, [.c (.bool false)]⟩])
   (.seq (.seq (.reg 0 [⟨0, some 6, none, .p .mov, [.t 0]⟩,
    ⟨1, some 7, none, .e .call [] [], [.f 500, .t 6]⟩,
    ⟨2, some 8, none, .p (.un .not), [.t 7]⟩])
   (.cond (.t 8) (.seq (.reg 0 [⟨0, some 2, none, .p .mov, [.c (.bool false)]⟩,
    ⟨1, some 3, none, .p .mov, [.c (.bool false)]⟩])
   (.ret))
   (.skip)))
   (.seq (.seq (.reg 0 [⟨0, some 9, none, .p .mov, [.t 0]⟩,
    ⟨1, some 10, none, .p .len, [.t 9]⟩,
    ⟨2, some 11, none, .p .mov, [.c (.int .i64 0)]⟩])
   (.block 0 (.loop g511_0)))
   (.seq (.reg 0 [⟨0, some 2, none, .p .mov, [.c (.bool true)]⟩,
    ⟨1, some 3, none, .p .mov, [.c (.bool true)]⟩])
   (.ret)))),
  [.tmp 2, .tmp 3]⟩
/- loop.example/g00641/impl.GoodLinks -/
def g500 : GL.Fn := ⟨.seq (.reg 0 [⟨0, some 1, none, .e (.new (.box 1)) [] [], [.t 0]⟩,
    ⟨1, some 2, none, .p .mov, [.c (.bool false)]⟩])
   (.seq (.reg 0 [⟨0, some 3, none, .r (.load false 1) false, [.t 1]⟩,
    ⟨1, some 4, none, .p .len, [.t 3]⟩,
    ⟨2, some 5, none, .p (.bin .leq), [.t 4, .c (.int .i64 12)]⟩,
    ⟨3, some 6, none, .p .mov, [.t 5]⟩,
    ⟨4, some 7, some (6, true), .r (.load false 1) false, [.t 1]⟩,
    ⟨5, some 8, some (6, true), .p (.mkFn 559), [.t 1]⟩,
    ⟨6, some 9, some (6, true), .e .call [] [], [.f 335, .t 7, .t 8]⟩,
    ⟨7, some 10, some (6, true), .p (.un .not), [.t 9]⟩,
    ⟨8, some 11, none, .p .pick, [.t 6, .t 10, .c (.bool false)]⟩,
    ⟨9, some 2, none, .p .mov, [.t 11]⟩])
   (.ret)),
  [.tmp 2]⟩
/- loop.example/g00641/spec.DrawGoodSteps -/
def g602 : GL.Fn := ⟨.seq (.reg 0 [⟨0, some 2, none, .p .mov, [.c (.nils)]⟩])
   (.seq (.reg 0 [⟨0, some 4, none, .p .mov, [.t 0]⟩,
    ⟨1, some 5, none, .p (.build [.nils, .int .i64 0, .int .u64 0] [(0, 1)]), [.t 4]⟩,
    ⟨2, some 6, none, .e (.new (.box 3)) [] [], [.t 5]⟩,
    ⟨3, some 3, none, .p .mov, [.t 6]⟩])
   (.seq (.reg 0 [⟨0, some 7, none, .p .mov, [.t 3]⟩,
    ⟨1, some 8, none, .e .call [] [], [.f 595, .t 7]⟩,
    ⟨2, some 2, none, .p .mov, [.t 8]⟩])
   (.ret))),
  [.tmp 2]⟩
/- loop.example/g00641/spec.IsRoundless -/
def g513_0 : GL.Code := .seq (.reg 0 [⟨0, some 12, none, .p (.bin .lss), [.t 11, .t 10]⟩])
   (.seq (.cond (.t 12) (.skip)
   (.exit 0))
   (.seq (.block 1 (.seq (.reg 0 [⟨0, some 13, none, .p .mov, [.t 11]⟩,
    ⟨1, some 14, none, .p (.idx 1), [.t 9, .t 11]⟩,
    ⟨2, some 15, none, .r (.load false 1) false, [.t 14]⟩,
    ⟨3, some 4, none, .p .mov, [.t 13]⟩,
    ⟨4, some 5, none, .p .mov, [.t 15]⟩])
   (.seq (.reg 0 [⟨0, some 16, none, .p .mov, [.t 5]⟩,
    ⟨1, some 17, none, .p .mov, [.t 4]⟩,
    ⟨2, some 18, none, .e .call [] [], [.f 302, .t 16, .t 17]⟩,
    ⟨3, some 19, none, .p .mov, [.t 18]⟩,
    ⟨4, some 20, some (19, false), .p .mov, [.t 0]⟩,
    ⟨5, some 21, some (19, false), .p .mov, [.t 4]⟩,
    ⟨6, some 22, some (19, false), .e .call [] [], [.f 562, .t 20, .t 21]⟩,
    ⟨7, some 23, some (19, false), .p .len, [.t 22]⟩,
    ⟨8, some 24, some (19, false), .p (.bin .gtr), [.t 23, .c (.int .i64 1)]⟩,
    ⟨9, some 25, none, .p .pick, [.t 19, .c (.bool true), .t 24]⟩])
   (.cond (.t 25) (.seq (.reg 0 [⟨0, some 2, none, .p .mov, [.c (.bool false)]⟩,
    ⟨1, some 3, none, .p .mov, [.c (.bool true)]⟩])
   (.ret))
   (.skip)))))
   (.reg 0 [⟨0, some 26, none, .p (.bin .add), [.t 11, .c (.int .i64 1)]⟩,
    ⟨1, some 11, none, .p .mov, [.t 26]⟩])))
def g513 : GL.Fn := ⟨.seq (.reg 0 [⟨0, some 2, none, .p .mov, [.c (.bool false)]⟩,
    ⟨1, some 3, none, .p .mov, [.c (.bool false)]⟩])
   (.seq (.seq (.reg 0 [⟨0, some 6, none, .p .mov, [.t 0]⟩,
    ⟨1, some 7, none, .e .call [] [], [.f 550, .t 6]⟩,
    ⟨2, some 8, none, .p (.un .not), [.t 7]⟩])
   (.cond (.t 8) (.seq (.reg 0 [⟨0, some 2, none, .p .mov, [.c (.bool false)]⟩,
    ⟨1, some 3, none, .p .mov, [.c (.bool false)]⟩])
   (.ret))
   (.skip)))
   (.seq (.seq (.reg 0 [⟨0, some 9, none, .p .mov, [.t 0]⟩,
    ⟨1, some 10, none, .p .len, [.t 9]⟩,
    ⟨2, some 11, none, .p .mov, [.c (.int .i64 0)]⟩])
   (.block 0 (.loop g513_0)))
   (.seq (.reg 0 [⟨0, some 2, none, .p .mov, [.c (.bool true)]⟩,
    ⟨1, some 3, none, .p .mov, [.c (.bool true)]⟩])
   (.ret)))),
  [.tmp 2, .tmp 3]⟩
/- loop.example/g00641/impl.isStep -/
def g608 : GL.Fn := ⟨.seq (.reg 0 [⟨0, some 2, none, .l (.box 2 5), [.t 0]⟩,
    ⟨1, some 4, none, .p .mov, [.c (.bool false)]⟩])
   (.seq (.seq (.reg 0 [⟨0, some 5, none, .p (.faddr 1), [.t 2]⟩,
    ⟨1, some 6, none, .l (.load 2 false 1), [.t 5]⟩,
    ⟨2, some 7, none, .e .call [] [], [.f 107, .t 6, .c (.int .i64 0), .c (.int .i64 2)]⟩,
    ⟨3, some 8, none, .p (.un .not), [.t 7]⟩,
    ⟨4, some 9, none, .p .mov, [.t 8]⟩,
    ⟨5, some 10, some (9, false), .p (.faddr 2), [.t 2]⟩,
    ⟨6, some 11, some (9, false), .l (.load 2 false 1), [.t 10]⟩,
    ⟨7, some 12, some (9, false), .e .call [] [], [.f 107, .t 11, .c (.int .i64 0), .c (.int .i64 3)]⟩,
    ⟨8, some 13, some (9, false), .p (.un .not), [.t 12]⟩,
    ⟨9, some 14, none, .p .pick, [.t 9, .c (.bool true), .t 13]⟩])
   (.cond (.t 14) (.seq (.reg 0 [⟨0, some 4, none, .p .mov, [.c (.bool false)]⟩])
   (.ret))
   (.skip)))
   (.seq (.seq (.reg 0 [⟨0, some 15, none, .p (.faddr 0), [.t 2]⟩,
    ⟨1, some 16, none, .l (.load 2 false 1), [.t 15]⟩])
   (.block 0 (.seq (.reg 0 [⟨0, some 18, none, .p (.bin .eql), [.t 16, .c (.int .i64 1)]⟩,
    ⟨1, some 17, none, .p .mov, [.t 18]⟩])
   (.cond (.t 17) (.seq (.reg 0 [⟨0, some 19, none, .p (.faddr 3), [.t 2]⟩,
    ⟨1, some 20, none, .l (.load 2 false 1), [.t 19]⟩,
    ⟨2, some 21, none, .p (.bin .eql), [.t 20, .c (.int .i64 0)]⟩,
    ⟨3, some 22, none, .p .mov, [.t 21]⟩,
    ⟨4, some 23, some (22, true), .p (.faddr 4), [.t 2]⟩,
    ⟨5, some 24, some (22, true), .l (.load 2 false 1), [.t 23]⟩,
    ⟨6, some 25, some (22, true), .p (.bin .eql), [.t 24, .c (.int .i64 0)]⟩,
    ⟨7, some 26, none, .p .pick, [.t 22, .t 25, .c (.bool false)]⟩,
    ⟨8, some 4, none, .p .mov, [.t 26]⟩])
   (.ret))
   (.seq (.reg 0 [⟨0, some 28, none, .p (.bin .eql), [.t 16, .c (.int .i64 2)]⟩,
    ⟨1, some 27, none, .p .mov, [.t 28]⟩])
   (.cond (.t 27) (.seq (.reg 0 [⟨0, some 29, none, .p (.faddr 2), [.t 2]⟩,
    ⟨1, some 30, none, .l (.load 2 false 1), [.t 29]⟩,
    ⟨2, some 31, none, .p (.bin .eql), [.t 30, .c (.int .i64 0)]⟩,
    ⟨3, some 32, none, .p .mov, [.t 31]⟩,
    ⟨4, some 33, some (32, true), .p (.faddr 3), [.t 2]⟩,
    ⟨5, some 34, some (32, true), .l (.load 2 false 1), [.t 33]⟩,
    ⟨6, some 35, some (32, true), .p .mov, [.t 1]⟩,
    ⟨7, some 36, some (32, true), .p (.bin .sub), [.t 35, .c (.int .i64 1)]⟩,
    ⟨8, some 37, some (32, true), .e .call [] [], [.f 107, .t 34, .c (.int .i64 0), .t 36]⟩,
    ⟨9, some 38, none, .p .pick, [.t 32, .t 37, .c (.bool false)]⟩,
    ⟨10, some 39, none, .p .mov, [.t 38]⟩,
    ⟨11, some 40, some (39, true), .p (.faddr 4), [.t 2]⟩,
    ⟨12, some 41, some (39, true), .l (.load 2 false 1), [.t 40]⟩,
    ⟨13, some 42, some (39, true), .e .call [] [], [.f 107, .t 41, .c (.int .i64 (-99)), .c (.int .i64 99)]⟩,
    ⟨14, some 43, none, .p .pick, [.t 39, .t 42, .c (.bool false)]⟩,
    ⟨15, some 4, none, .p .mov, [.t 43]⟩])
   (.ret))
   (.seq (.reg 0 [⟨0, some 45, none, .p (.bin .eql), [.t 16, .c (.int .i64 3)]⟩,
    ⟨1, some 44, none, .p .mov, [.t 45]⟩])
   (.cond (.t 44) (.seq (.reg 0 [⟨0, some 46, none, .p (.faddr 3), [.t 2]⟩,
    ⟨1, some 47, none, .l (.load 2 false 1), [.t 46]⟩,
    ⟨2, some 48, none, .p .mov, [.t 1]⟩,
    ⟨3, some 49, none, .p (.bin .sub), [.t 48, .c (.int .i64 1)]⟩,
    ⟨4, some 50, none, .e .call [] [], [.f 107, .t 47, .c (.int .i64 0), .t 49]⟩,
    ⟨5, some 51, none, .p .mov, [.t 50]⟩,
    ⟨6, some 52, some (51, true), .p (.faddr 4), [.t 2]⟩,
    ⟨7, some 53, some (51, true), .l (.load 2 false 1), [.t 52]⟩,
    ⟨8, some 54, some (51, true), .p (.bin .eql), [.t 53, .c (.int .i64 0)]⟩,
    ⟨9, some 55, none, .p .pick, [.t 51, .t 54, .c (.bool false)]⟩,
    ⟨10, some 4, none, .p .mov, [.t 55]⟩])
   (.ret))
   (.skip)))))))))
   (.seq (.reg 0 [⟨0, some 4, none, .p .mov, [.c (.bool false)]⟩])
   (.ret)))),
  [.tmp 4]⟩
/- loop.example/g00641/spec.l1In -/
def g98 : GL.Fn := ⟨.seq (.reg 0 [⟨0, some 6, none, .p .mov, [.c (.bool false)]⟩])
   (.seq (.reg 0 [⟨0, some 7, none, .p .mov, [.t 0]⟩,
    ⟨1, some 8, none, .p .mov, [.t 1]⟩,
    ⟨2, some 9, none, .p (.bin .geq), [.t 7, .t 8]⟩,
    ⟨3, some 10, none, .p .mov, [.t 9]⟩,
    ⟨4, some 11, some (10, true), .p .mov, [.t 0]⟩,
    ⟨5, some 12, some (10, true), .p .mov, [.t 2]⟩,
    ⟨6, some 13, some (10, true), .p (.bin .leq), [.t 11, .t 12]⟩,
    ⟨7, some 14, none, .p .pick, [.t 10, .t 13, .c (.bool false)]⟩,
    ⟨8, some 6, none, .p .mov, [.t 14]⟩])
   (.ret)),
  [.tmp 6]⟩
/- slices.Clone[[]int,int] -/
def g389 : GL.Fn := ⟨.seq (.reg 0 [⟨0, some 2, none, .p .mov, [.c (.nils)]⟩])
   (.seq (.seq (.reg 0 [⟨0, some 3, none, .p .mov, [.t 0]⟩,
    ⟨1, some 4, none, .p (.isNil false), [.t 3]⟩])
   (.cond (.t 4) (.seq (.reg 0 [⟨0, some 2, none, .p .mov, [.c (.nils)]⟩])
   (.ret))
   (.skip)))
   (.seq (.reg 0 [⟨0, some 5, none, .e (.new (.lit 1)) [] [], []⟩,
    ⟨1, some 6, none, .p .mov, [.t 0]⟩,
    ⟨2, some 7, none, .e (.append 1 8) [] [], [.t 5, .t 6]⟩,
    ⟨3, some 2, none, .p .mov, [.t 7]⟩])
   (.ret))),
  [.tmp 2]⟩
/- slices.Grow[[]int,int] -/
def g436 : GL.Fn := ⟨.seq (.reg 0 [⟨0, some 4, none, .p .mov, [.c (.nils)]⟩])
   (.seq (.seq (.reg 0 [⟨0, some 5, none, .p .mov, [.t 1]⟩,
    ⟨1, some 6, none, .p (.bin .lss), [.t 5, .c (.int .i64 0)]⟩])
   (.cond (.t 6) (.reg 0 [⟨0, some 7, none, .p .bad, []⟩,
    ⟨1, none, none, .p .bad, []⟩])
   (.skip)))
   (.seq (.seq (.reg 0 [⟨0, some 8, none, .p .mov, [.t 1]⟩,
    ⟨1, some 9, none, .p .mov, [.t 0]⟩,
    ⟨2, some 10, none, .p .cap, [.t 9]⟩,
    ⟨3, some 11, none, .p .mov, [.t 0]⟩,
    ⟨4, some 12, none, .p .len, [.t 11]⟩,
    ⟨5, some 13, none, .p (.bin .sub), [.t 10, .t 12]⟩,
    ⟨6, some 14, none, .p (.bin .sub), [.t 8, .t 13]⟩,
    ⟨7, some 1, none, .p .mov, [.t 14]⟩])
   (.seq (.reg 0 [⟨0, some 15, none, .p .mov, [.t 1]⟩,
    ⟨1, some 16, none, .p (.bin .gtr), [.t 15, .c (.int .i64 0)]⟩])
   (.cond (.t 16) (.reg 0 [⟨0, some 17, none, .p .mov, [.t 0]⟩,
    ⟨1, some 18, none, .p .mov, [.t 0]⟩,
    ⟨2, some 19, none, .p .cap, [.t 18]⟩,
    ⟨3, some 20, none, .p (.slice 1 false true false), [.t 17, .t 19]⟩,
    ⟨4, some 21, none, .p .mov, [.t 1]⟩,
    ⟨5, some 22, none, .e (.appendZ 1 8 [.int .i64 0]) [] [], [.t 20, .t 21]⟩,
    ⟨6, some 23, none, .p .mov, [.t 0]⟩,
    ⟨7, some 24, none, .p .len, [.t 23]⟩,
    ⟨8, some 25, none, .p (.slice 1 false true false), [.t 22, .t 24]⟩,
    ⟨9, some 0, none, .p .mov, [.t 25]⟩])
   (.skip))))
   (.seq (.reg 0 [⟨0, some 26, none, .p .mov, [.t 0]⟩,
    ⟨1, some 4, none, .p .mov, [.t 26]⟩])
   (.ret)))),
  [.tmp 4]⟩
/- loop.example/g00641/impl.group -/
def g560 : GL.Fn := ⟨.seq (.reg 0 [⟨0, some 2, none, .e (.new (.box 1)) [] [], [.t 0]⟩,
    ⟨1, some 3, none, .e (.new (.box 1)) [] [], [.t 1]⟩,
    ⟨2, some 4, none, .p .mov, [.c (.nils)]⟩])
   (.seq (.reg 0 [⟨0, some 5, none, .r (.load false 1) false, [.t 2]⟩,
    ⟨1, some 6, none, .r (.load false 1) false, [.t 3]⟩,
    ⟨2, some 7, none, .e .call [] [], [.f 545, .t 5, .t 6]⟩,
    ⟨3, some 8, none, .p (.mkFn 576), [.t 2, .t 3]⟩,
    ⟨4, some 9, none, .e .call [] [], [.f 397, .t 7, .t 8]⟩,
    ⟨5, some 4, none, .p .mov, [.t 9]⟩])
   (.ret)),
  [.tmp 4]⟩
/- slices.IndexFunc[[][]int,[]int] -/
def g395_0 : GL.Code := .seq (.reg 0 [⟨0, some 9, none, .p (.bin .lss), [.t 8, .t 7]⟩])
   (.seq (.cond (.t 9) (.skip)
   (.exit 0))
   (.seq (.block 1 (.seq (.reg 0 [⟨0, some 10, none, .p .mov, [.t 8]⟩,
    ⟨1, some 5, none, .p .mov, [.t 10]⟩])
   (.seq (.reg 0 [⟨0, some 11, none, .p .mov, [.t 1]⟩,
    ⟨1, some 12, none, .p .mov, [.t 0]⟩,
    ⟨2, some 13, none, .p .mov, [.t 5]⟩,
    ⟨3, some 14, none, .p (.idx 1), [.t 12, .t 13]⟩,
    ⟨4, some 15, none, .r (.load false 1) false, [.t 14]⟩,
    ⟨5, some 16, none, .e .call [] [], [.t 11, .t 15]⟩])
   (.cond (.t 16) (.seq (.reg 0 [⟨0, some 17, none, .p .mov, [.t 5]⟩,
    ⟨1, some 4, none, .p .mov, [.t 17]⟩])
   (.ret))
   (.skip)))))
   (.reg 0 [⟨0, some 18, none, .p (.bin .add), [.t 8, .c (.int .i64 1)]⟩,
    ⟨1, some 8, none, .p .mov, [.t 18]⟩])))
def g395 : GL.Fn := ⟨.seq (.reg 0 [⟨0, some 4, none, .p .mov, [.c (.int .i64 0)]⟩])
   (.seq (.seq (.reg 0 [⟨0, some 6, none, .p .mov, [.t 0]⟩,
    ⟨1, some 7, none, .p .len, [.t 6]⟩,
    ⟨2, some 8, none, .p .mov, [.c (.int .i64 0)]⟩])
   (.block 0 (.loop g395_0)))
   (.seq (.reg 0 [⟨0, some 4, none, .p .mov, [.c (.int .i64 (-1))]⟩])
   (.ret))),
  [.tmp 4]⟩
/- loop.example/g00641/impl.groups$1 -/
def g574 : GL.Fn := ⟨.seq (.reg 0 [⟨0, some 4, none, .p .mov, [.c (.bool false)]⟩])
   (.seq (.reg 0 [⟨0, some 5, none, .r (.load false 1) false, [.t 1]⟩,
    ⟨1, some 6, none, .p .mov, [.t 0]⟩,
    ⟨4, some 9, none, .r (.load false 1) true, [.t 2]⟩,
    ⟨5, some 10, none, .p .mov, [.t 0]⟩,
    ⟨6, some 11, none, .p (.idx 1), [.t 10, .c (.int .i64 0)]⟩,
    ⟨7, some 12, none, .r (.load false 1) true, [.t 11]⟩,
    ⟨2, some 7, none, .e (.new (.lit 1)) [4, 7] [], [.t 5, .t 6]⟩,
    ⟨3, some 8, none, .e .call [4, 7] [], [.f 429, .t 7]⟩,
    ⟨8, some 13, none, .e .call [] [], [.f 545, .t 9, .t 12]⟩,
    ⟨9, some 14, none, .e .call [] [], [.f 552, .t 8, .t 13]⟩,
    ⟨10, some 4, none, .p .mov, [.t 14]⟩])
   (.ret)),
  [.tmp 4]⟩
/- loop.example/g00641/impl.reach -/
def g545_0 : GL.Code := .seq (.reg 0 [⟨0, some 26, none, .p (.bin .lss), [.t 25, .t 24]⟩])
   (.seq (.cond (.t 26) (.skip)
   (.exit 2))
   (.seq (.block 3 (.seq (.reg 0 [⟨0, some 27, none, .p (.idx 1), [.t 23, .t 25]⟩,
    ⟨1, some 28, none, .r (.load false 1) false, [.t 27]⟩,
    ⟨2, some 8, none, .p .mov, [.t 28]⟩])
   (.seq (.reg 0 [⟨0, some 29, none, .p .mov, [.t 5]⟩,
    ⟨1, some 30, none, .p .mov, [.t 8]⟩,
    ⟨2, some 31, none, .e .call [] [], [.f 301, .t 29, .t 30]⟩,
    ⟨3, some 32, none, .p (.un .not), [.t 31]⟩])
   (.cond (.t 32) (.reg 0 [⟨0, some 33, none, .p .mov, [.t 5]⟩,
    ⟨1, some 34, none, .p .mov, [.t 8]⟩,
    ⟨2, some 35, none, .e (.new (.lit 1)) [] [], [.t 34]⟩,
    ⟨3, some 36, none, .e (.append 1 8) [] [], [.t 33, .t 35]⟩,
    ⟨4, some 5, none, .p .mov, [.t 36]⟩])
   (.skip)))))
   (.reg 0 [⟨0, some 37, none, .p (.bin .add), [.t 25, .c (.int .i64 1)]⟩,
    ⟨1, some 25, none, .p .mov, [.t 37]⟩])))
def g545_1 : GL.Code := .seq (.seq (.reg 0 [⟨0, some 11, none, .p .mov, [.t 6]⟩,
    ⟨1, some 12, none, .p .mov, [.t 5]⟩,
    ⟨2, some 13, none, .p .len, [.t 12]⟩,
    ⟨3, some 14, none, .p (.bin .lss), [.t 11, .t 13]⟩])
   (.cond (.t 14) (.skip)
   (.exit 0)))
   (.seq (.block 1 (.seq (.reg 0 [⟨0, some 17, none, .p .mov, [.t 0]⟩,
    ⟨1, some 18, none, .p .mov, [.t 5]⟩,
    ⟨2, some 19, none, .p .mov, [.t 6]⟩,
    ⟨3, some 20, none, .p (.idx 1), [.t 18, .t 19]⟩,
    ⟨4, some 21, none, .r (.load false 1) false, [.t 20]⟩,
    ⟨5, some 22, none, .p (.idx 1), [.t 17, .t 21]⟩,
    ⟨6, some 23, none, .r (.load false 1) false, [.t 22]⟩,
    ⟨7, some 24, none, .p .len, [.t 23]⟩,
    ⟨8, some 25, none, .p .mov, [.c (.int .i64 0)]⟩])
   (.block 2 (.loop g545_0))))
   (.reg 0 [⟨0, some 15, none, .p .mov, [.t 6]⟩,
    ⟨1, some 16, none, .p (.bin .add), [.t 15, .c (.int .i64 1)]⟩,
    ⟨2, some 6, none, .p .mov, [.t 16]⟩]))
def g545 : GL.Fn := ⟨.seq (.reg 0 [⟨0, some 4, none, .p .mov, [.c (.nils)]⟩])
   (.seq (.reg 0 [⟨0, some 9, none, .p .mov, [.t 1]⟩,
    ⟨1, some 10, none, .e (.new (.lit 1)) [] [], [.t 9]⟩,
    ⟨2, some 5, none, .p .mov, [.t 10]⟩])
   (.seq (.seq (.reg 0 [⟨0, some 6, none, .p .mov, [.c (.int .i64 0)]⟩])
   (.block 0 (.loop g545_1)))
   (.seq (.reg 0 [⟨0, some 38, none, .p .mov, [.t 5]⟩,
    ⟨1, some 39, none, .e .call [] [], [.f 340, .t 38]⟩])
   (.seq (.reg 0 [⟨0, some 40, none, .p .mov, [.t 5]⟩,
    ⟨1, some 4, none, .p .mov, [.t 40]⟩])
   (.ret))))),
  [.tmp 4]⟩
/- slices.Delete[[][]int,[]int] -/
def g575 : GL.Fn := ⟨.seq (.reg 0 [⟨0, some 6, none, .p .mov, [.c (.nils)]⟩])
   (.seq (.reg 0 [⟨0, some 8, none, .p .mov, [.t 0]⟩,
    ⟨1, some 9, none, .p .mov, [.t 1]⟩,
    ⟨2, some 10, none, .p .mov, [.t 2]⟩,
    ⟨3, some 11, none, .p .mov, [.t 0]⟩,
    ⟨4, some 12, none, .p .len, [.t 11]⟩,
    ⟨5, some 13, none, .p (.slice 1 true true true), [.t 8, .t 9, .t 10, .t 12]⟩])
   (.seq (.seq (.reg 0 [⟨0, some 14, none, .p .mov, [.t 1]⟩,
    ⟨1, some 15, none, .p .mov, [.t 2]⟩,
    ⟨2, some 16, none, .p (.bin .eql), [.t 14, .t 15]⟩])
   (.cond (.t 16) (.seq (.reg 0 [⟨0, some 17, none, .p .mov, [.t 0]⟩,
    ⟨1, some 6, none, .p .mov, [.t 17]⟩])
   (.ret))
   (.skip)))
   (.seq (.reg 0 [⟨0, some 18, none, .p .mov, [.t 0]⟩,
    ⟨1, some 19, none, .p .len, [.t 18]⟩,
    ⟨2, some 7, none, .p .mov, [.t 19]⟩])
   (.seq (.reg 0 [⟨0, some 20, none, .p .mov, [.t 0]⟩,
    ⟨1, some 21, none, .p .mov, [.t 1]⟩,
    ⟨2, some 22, none, .p (.slice 1 false true false), [.t 20, .t 21]⟩,
    ⟨3, some 23, none, .p .mov, [.t 0]⟩,
    ⟨4, some 24, none, .p .mov, [.t 2]⟩,
    ⟨5, some 25, none, .p (.slice 1 true false false), [.t 23, .t 24]⟩,
    ⟨6, some 26, none, .e (.append 1 24) [] [], [.t 22, .t 25]⟩,
    ⟨7, some 0, none, .p .mov, [.t 26]⟩])
   (.seq (.reg 0 [⟨0, some 27, none, .p .mov, [.t 0]⟩,
    ⟨1, some 28, none, .p .mov, [.t 0]⟩,
    ⟨2, some 29, none, .p .len, [.t 28]⟩,
    ⟨3, some 30, none, .p .mov, [.t 7]⟩,
    ⟨4, some 31, none, .r (.sliceX 1) false, [.t 27, .t 29, .t 30]⟩,
    ⟨5, none, none, .e (.clear 1 [.nils]) [] [], [.t 31]⟩])
   (.seq (.reg 0 [⟨0, some 32, none, .p .mov, [.t 0]⟩,
    ⟨1, some 6, none, .p .mov, [.t 32]⟩])
   (.ret))))))),
  [.tmp 6]⟩
/- loop.example/g00641/spec.l9Groups -/
def g558_0 : GL.Code := .seq (.reg 0 [⟨0, some 33, none, .p (.bin .lss), [.t 32, .t 31]⟩])
   (.seq (.cond (.t 33) (.skip)
   (.exit 4))
   (.seq (.block 5 (.seq (.reg 0 [⟨0, some 34, none, .p (.idx 1), [.t 30, .t 32]⟩,
    ⟨1, some 35, none, .r (.load false 1) false, [.t 34]⟩,
    ⟨2, some 9, none, .p .mov, [.t 35]⟩])
   (.reg 0 [⟨0, some 36, none, .p .mov, [.t 7]⟩,
    ⟨1, some 37, none, .p .mov, [.t 36]⟩,
    ⟨2, some 38, some (37, true), .p .mov, [.t 4]⟩,
    ⟨3, some 39, some (37, true), .p .mov, [.t 9]⟩,
    ⟨4, some 40, some (37, true), .e .call [] [], [.f 302, .t 38, .t 39]⟩,
    ⟨5, some 41, some (37, true), .p .mov, [.t 40]⟩,
    ⟨6, some 42, some (41, false), .p .mov, [.t 6]⟩,
    ⟨7, some 43, some (41, false), .p .mov, [.t 9]⟩,
    ⟨8, some 44, some (41, false), .e .call [] [], [.f 302, .t 42, .t 43]⟩,
    ⟨9, some 45, some (37, true), .p .pick, [.t 41, .c (.bool true), .t 44]⟩,
    ⟨10, some 46, none, .p .pick, [.t 37, .t 45, .c (.bool false)]⟩,
    ⟨11, some 7, none, .p .mov, [.t 46]⟩])))
   (.reg 0 [⟨0, some 47, none, .p (.bin .add), [.t 32, .c (.int .i64 1)]⟩,
    ⟨1, some 32, none, .p .mov, [.t 47]⟩])))
def g558_1 : GL.Code := .seq (.reg 0 [⟨0, some 56, none, .p (.bin .lss), [.t 55, .t 54]⟩])
   (.seq (.cond (.t 56) (.skip)
   (.exit 6))
   (.seq (.block 7 (.seq (.reg 0 [⟨0, some 57, none, .p (.idx 1), [.t 53, .t 55]⟩,
    ⟨1, some 58, none, .r (.load false 1) false, [.t 57]⟩,
    ⟨2, some 11, none, .p .mov, [.t 58]⟩])
   (.reg 0 [⟨0, some 59, none, .p .mov, [.t 4]⟩,
    ⟨1, some 60, none, .p .mov, [.t 11]⟩,
    ⟨2, some 61, none, .e .call [] [], [.f 410, .t 59, .t 60]⟩,
    ⟨3, some 4, none, .p .mov, [.t 61]⟩])))
   (.reg 0 [⟨0, some 62, none, .p (.bin .add), [.t 55, .c (.int .i64 1)]⟩,
    ⟨1, some 55, none, .p .mov, [.t 62]⟩])))
def g558_2 : GL.Code := .seq (.reg 0 [⟨0, some 20, none, .p (.bin .lss), [.t 19, .t 18]⟩])
   (.seq (.cond (.t 20) (.skip)
   (.exit 2))
   (.seq (.block 3 (.seq (.reg 0 [⟨0, some 21, none, .p .mov, [.t 19]⟩,
    ⟨1, some 5, none, .p .mov, [.t 21]⟩])
   (.seq (.seq (.reg 0 [⟨0, some 22, none, .p .mov, [.t 4]⟩,
    ⟨1, some 23, none, .p .mov, [.t 5]⟩,
    ⟨2, some 24, none, .e .call [] [], [.f 302, .t 22, .t 23]⟩])
   (.cond (.t 24) (.exit 3)
   (.skip)))
   (.seq (.reg 0 [⟨0, some 25, none, .p .mov, [.t 0]⟩,
    ⟨1, some 26, none, .p .mov, [.t 5]⟩,
    ⟨2, some 27, none, .e .call [] [], [.f 562, .t 25, .t 26]⟩,
    ⟨3, some 6, none, .p .mov, [.t 27]⟩])
   (.seq (.reg 0 [⟨0, some 7, none, .p .mov, [.c (.bool true)]⟩])
   (.seq (.seq (.reg 0 [⟨0, some 28, none, .p .mov, [.t 0]⟩,
    ⟨1, some 29, none, .p .mov, [.t 5]⟩,
    ⟨2, some 30, none, .e .call [] [], [.f 547, .t 28, .t 29]⟩,
    ⟨3, some 31, none, .p .len, [.t 30]⟩,
    ⟨4, some 32, none, .p .mov, [.c (.int .i64 0)]⟩])
   (.block 4 (.loop g558_0)))
   (.seq (.reg 0 [⟨0, some 48, none, .p .mov, [.t 7]⟩])
   (.cond (.t 48) (.seq (.reg 0 [⟨0, some 49, none, .p .mov, [.t 3]⟩,
    ⟨1, some 50, none, .p .mov, [.t 6]⟩,
    ⟨2, some 51, none, .e (.new (.lit 1)) [] [], [.t 50]⟩,
    ⟨3, some 52, none, .e (.append 1 24) [] [], [.t 49, .t 51]⟩,
    ⟨4, some 3, none, .p .mov, [.t 52]⟩])
   (.seq (.seq (.reg 0 [⟨0, some 53, none, .p .mov, [.t 6]⟩,
    ⟨1, some 54, none, .p .len, [.t 53]⟩,
    ⟨2, some 55, none, .p .mov, [.c (.int .i64 0)]⟩])
   (.block 6 (.loop g558_1)))
   (.exit 2)))
   (.skip)))))))))
   (.reg 0 [⟨0, some 63, none, .p (.bin .add), [.t 19, .c (.int .i64 1)]⟩,
    ⟨1, some 19, none, .p .mov, [.t 63]⟩])))
def g558_3 : GL.Code := .seq (.seq (.reg 0 [⟨0, some 12, none, .p .mov, [.t 4]⟩,
    ⟨1, some 13, none, .p .len, [.t 12]⟩,
    ⟨2, some 14, none, .p .mov, [.t 0]⟩,
    ⟨3, some 15, none, .p .len, [.t 14]⟩,
    ⟨4, some 16, none, .p (.bin .lss), [.t 13, .t 15]⟩])
   (.cond (.t 16) (.skip)
   (.exit 0)))
   (.block 1 (.seq (.reg 0 [⟨0, some 17, none, .p .mov, [.t 0]⟩,
    ⟨1, some 18, none, .p .len, [.t 17]⟩,
    ⟨2, some 19, none, .p .mov, [.c (.int .i64 0)]⟩])
   (.block 2 (.loop g558_2))))
def g558 : GL.Fn := ⟨.seq (.reg 0 [⟨0, some 2, none, .p .mov, [.c (.nils)]⟩])
   (.seq (.reg 0 [⟨0, some 3, none, .p .mov, [.c (.nils)]⟩])
   (.seq (.reg 0 [⟨0, some 4, none, .p .mov, [.c (.nils)]⟩])
   (.seq (.block 0 (.loop g558_3))
   (.seq (.reg 0 [⟨0, some 64, none, .p .mov, [.t 3]⟩,
    ⟨1, some 2, none, .p .mov, [.t 64]⟩])
   (.ret))))),
  [.tmp 2]⟩
/- loop.example/g00641/impl.isRising -/
def g385_0 : GL.Code := .seq (.reg 0 [⟨0, some 12, none, .p (.bin .lss), [.t 11, .t 10]⟩])
   (.seq (.cond (.t 12) (.skip)
   (.exit 0))
   (.seq (.block 1 (.seq (.reg 0 [⟨0, some 13, none, .p .mov, [.t 11]⟩,
    ⟨1, some 14, none, .p (.idx 1), [.t 9, .t 11]⟩,
    ⟨2, some 15, none, .r (.load false 1) false, [.t 14]⟩,
    ⟨3, some 7, none, .p .mov, [.t 13]⟩,
    ⟨4, some 8, none, .p .mov, [.t 15]⟩])
   (.seq (.reg 0 [⟨0, some 16, none, .p .mov, [.t 8]⟩,
    ⟨1, some 17, none, .p .mov, [.t 1]⟩,
    ⟨2, some 18, none, .p .mov, [.t 2]⟩,
    ⟨3, some 19, none, .e .call [] [], [.f 107, .t 16, .t 17, .t 18]⟩,
    ⟨4, some 20, none, .p (.un .not), [.t 19]⟩,
    ⟨5, some 21, none, .p .mov, [.t 20]⟩,
    ⟨6, some 22, some (21, false), .p .mov, [.t 7]⟩,
    ⟨7, some 23, some (21, false), .p (.bin .gtr), [.t 22, .c (.int .i64 0)]⟩,
    ⟨8, some 24, some (21, false), .p .mov, [.t 23]⟩,
    ⟨9, some 25, some (24, true), .p .mov, [.t 0]⟩,
    ⟨10, some 26, some (24, true), .p .mov, [.t 7]⟩,
    ⟨11, some 27, some (24, true), .p (.bin .sub), [.t 26, .c (.int .i64 1)]⟩,
    ⟨12, some 28, some (24, true), .p (.idx 1), [.t 25, .t 27]⟩,
    ⟨13, some 29, some (24, true), .r (.load false 1) false, [.t 28]⟩,
    ⟨14, some 30, some (24, true), .p .mov, [.t 8]⟩,
    ⟨15, some 31, some (24, true), .p (.bin .geq), [.t 29, .t 30]⟩,
    ⟨16, some 32, some (21, false), .p .pick, [.t 24, .t 31, .c (.bool false)]⟩,
    ⟨17, some 33, none, .p .pick, [.t 21, .c (.bool true), .t 32]⟩])
   (.cond (.t 33) (.seq (.reg 0 [⟨0, some 6, none, .p .mov, [.c (.bool false)]⟩])
   (.ret))
   (.skip)))))
   (.reg 0 [⟨0, some 34, none, .p (.bin .add), [.t 11, .c (.int .i64 1)]⟩,
    ⟨1, some 11, none, .p .mov, [.t 34]⟩])))
def g385 : GL.Fn := ⟨.seq (.reg 0 [⟨0, some 6, none, .p .mov, [.c (.bool false)]⟩])
   (.seq (.seq (.reg 0 [⟨0, some 9, none, .p .mov, [.t 0]⟩,
    ⟨1, some 10, none, .p .len, [.t 9]⟩,
    ⟨2, some 11, none, .p .mov, [.c (.int .i64 0)]⟩])
   (.block 0 (.loop g385_0)))
   (.seq (.reg 0 [⟨0, some 6, none, .p .mov, [.c (.bool true)]⟩])
   (.ret))),
  [.tmp 6]⟩
/- loop.example/g00641/impl.within -/
def g107 : GL.Fn := ⟨.seq (.reg 0 [⟨0, some 6, none, .p .mov, [.c (.bool false)]⟩])
   (.seq (.reg 0 [⟨0, some 7, none, .p .mov, [.t 0]⟩,
    ⟨1, some 8, none, .p .mov, [.t 1]⟩,
    ⟨2, some 9, none, .p (.bin .geq), [.t 7, .t 8]⟩,
    ⟨3, some 10, none, .p .mov, [.t 9]⟩,
    ⟨4, some 11, some (10, true), .p .mov, [.t 0]⟩,
    ⟨5, some 12, some (10, true), .p .mov, [.t 2]⟩,
    ⟨6, some 13, some (10, true), .p (.bin .leq), [.t 11, .t 12]⟩,
    ⟨7, some 14, none, .p .pick, [.t 10, .t 13, .c (.bool false)]⟩,
    ⟨8, some 6, none, .p .mov, [.t 14]⟩])
   (.ret)),
  [.tmp 6]⟩
/- loop.example/g00641/spec.l1Has -/
def g302_0 : GL.Code := .seq (.reg 0 [⟨0, some 10, none, .p (.bin .lss), [.t 9, .t 8]⟩])
   (.seq (.cond (.t 10) (.skip)
   (.exit 0))
   (.seq (.block 1 (.seq (.reg 0 [⟨0, some 11, none, .p (.idx 1), [.t 7, .t 9]⟩,
    ⟨1, some 12, none, .r (.load false 1) false, [.t 11]⟩,
    ⟨2, some 6, none, .p .mov, [.t 12]⟩])
   (.seq (.reg 0 [⟨0, some 13, none, .p .mov, [.t 6]⟩,
    ⟨1, some 14, none, .p .mov, [.t 1]⟩,
    ⟨2, some 15, none, .p (.bin .eql), [.t 13, .t 14]⟩])
   (.cond (.t 15) (.seq (.reg 0 [⟨0, some 4, none, .p .mov, [.c (.bool true)]⟩])
   (.ret))
   (.skip)))))
   (.reg 0 [⟨0, some 16, none, .p (.bin .add), [.t 9, .c (.int .i64 1)]⟩,
    ⟨1, some 9, none, .p .mov, [.t 16]⟩])))
def g302 : GL.Fn := ⟨.seq (.reg 0 [⟨0, some 4, none, .p .mov, [.c (.bool false)]⟩])
   (.seq (.seq (.reg 0 [⟨0, some 7, none, .p .mov, [.t 0]⟩,
    ⟨1, some 8, none, .p .len, [.t 7]⟩,
    ⟨2, some 9, none, .p .mov, [.c (.int .i64 0)]⟩])
   (.block 0 (.loop g302_0)))
   (.seq (.reg 0 [⟨0, some 4, none, .p .mov, [.c (.bool false)]⟩])
   (.ret))),
  [.tmp 4]⟩
/- (*loop.example/g00641/spec.l1Cur).next -/
def g140 : GL.Fn := ⟨.seq (.reg 0 [⟨0, some 2, none, .p .mov, [.c (.int .i64 0)]⟩])
   (.seq (.reg 0 [⟨0, some 3, none, .p .mov, [.c (.int .i64 0)]⟩])
   (.seq (.seq (.reg 0 [⟨0, some 4, none, .p .mov, [.t 0]⟩,
    ⟨1, some 5, none, .p .nilCheck, [.t 4]⟩,
    ⟨2, some 6, none, .p (.faddr 1), [.t 5]⟩,
    ⟨3, some 7, none, .r (.load false 1) false, [.t 6]⟩,
    ⟨4, some 8, none, .p .mov, [.t 0]⟩,
    ⟨5, some 9, none, .p .nilCheck, [.t 8]⟩,
    ⟨6, some 10, none, .p (.faddr 0), [.t 9]⟩,
    ⟨7, some 11, none, .r (.load false 1) false, [.t 10]⟩,
    ⟨8, some 12, none, .p .len, [.t 11]⟩,
    ⟨9, some 13, none, .p (.bin .lss), [.t 7, .t 12]⟩])
   (.cond (.t 13) (.reg 0 [⟨0, some 14, none, .p .mov, [.t 0]⟩,
    ⟨1, some 15, none, .p .nilCheck, [.t 14]⟩,
    ⟨2, some 16, none, .p (.faddr 0), [.t 15]⟩,
    ⟨3, some 17, none, .r (.load false 1) false, [.t 16]⟩,
    ⟨4, some 18, none, .p .mov, [.t 0]⟩,
    ⟨5, some 19, none, .p .nilCheck, [.t 18]⟩,
    ⟨6, some 20, none, .p (.faddr 1), [.t 19]⟩,
    ⟨7, some 21, none, .r (.load false 1) false, [.t 20]⟩,
    ⟨8, some 22, none, .p (.idx 1), [.t 17, .t 21]⟩,
    ⟨9, some 23, none, .r (.load false 1) false, [.t 22]⟩,
    ⟨10, some 24, none, .p (.conv .i64), [.t 23]⟩,
    ⟨11, some 3, none, .p .mov, [.t 24]⟩])
   (.skip)))
   (.seq (.reg 0 [⟨0, some 25, none, .p .mov, [.t 0]⟩,
    ⟨1, some 26, none, .p .nilCheck, [.t 25]⟩,
    ⟨2, some 27, none, .p (.faddr 1), [.t 26]⟩,
    ⟨3, some 28, none, .r (.load false 1) false, [.t 27]⟩,
    ⟨4, some 29, none, .p (.bin .add), [.t 28, .c (.int .i64 1)]⟩,
    ⟨5, some 30, none, .p .nilCheck, [.t 25]⟩,
    ⟨6, some 31, none, .p (.faddr 1), [.t 30]⟩,
    ⟨7, none, none, .e (.store 1) [] [], [.t 31, .t 29]⟩])
   (.seq (.reg 0 [⟨0, some 32, none, .p .mov, [.t 0]⟩,
    ⟨1, some 33, none, .p .mov, [.t 0]⟩,
    ⟨2, some 34, none, .p .nilCheck, [.t 33]⟩,
    ⟨3, some 35, none, .p (.faddr 2), [.t 34]⟩,
    ⟨4, some 36, none, .r (.load false 1) false, [.t 35]⟩,
    ⟨5, some 37, none, .p (.bin .mul), [.t 36, .c (.int .u64 6364136223846793005)]⟩,
    ⟨6, some 38, none, .p .mov, [.t 3]⟩,
    ⟨7, some 39, none, .p (.conv .u64), [.t 38]⟩,
    ⟨8, some 40, none, .p (.bin .add), [.t 37, .t 39]⟩,
    ⟨9, some 41, none, .p (.bin .add), [.t 40, .c (.int .u64 1442695040888963407)]⟩,
    ⟨10, some 42, none, .p .nilCheck, [.t 32]⟩,
    ⟨11, some 43, none, .p (.faddr 2), [.t 42]⟩,
    ⟨12, none, none, .e (.store 1) [] [], [.t 43, .t 41]⟩])
   (.seq (.seq (.reg 0 [⟨0, some 44, none, .p .mov, [.t 0]⟩,
    ⟨1, some 45, none, .p .nilCheck, [.t 44]⟩,
    ⟨2, some 46, none, .p (.faddr 1), [.t 45]⟩,
    ⟨3, some 47, none, .r (.load false 1) false, [.t 46]⟩,
    ⟨4, some 48, none, .p .mov, [.t 0]⟩,
    ⟨5, some 49, none, .p .nilCheck, [.t 48]⟩,
    ⟨6, some 50, none, .p (.faddr 0), [.t 49]⟩,
    ⟨7, some 51, none, .r (.load false 1) false, [.t 50]⟩,
    ⟨8, some 52, none, .p .len, [.t 51]⟩,
    ⟨9, some 53, none, .p (.bin .leq), [.t 47, .t 52]⟩])
   (.cond (.t 53) (.seq (.reg 0 [⟨0, some 54, none, .p .mov, [.t 3]⟩,
    ⟨1, some 2, none, .p .mov, [.t 54]⟩])
   (.ret))
   (.skip)))
   (.seq (.reg 0 [⟨0, some 55, none, .p .mov, [.t 0]⟩,
    ⟨1, some 56, none, .p .nilCheck, [.t 55]⟩,
    ⟨2, some 57, none, .p (.faddr 2), [.t 56]⟩,
    ⟨3, some 58, none, .r (.load false 1) false, [.t 57]⟩,
    ⟨4, some 59, none, .p (.bin .shr), [.t 58, .c (.int .u64 40)]⟩,
    ⟨5, some 60, none, .p (.bin .and), [.t 59, .c (.int .u64 255)]⟩,
    ⟨6, some 61, none, .p (.conv .i64), [.t 60]⟩,
    ⟨7, some 2, none, .p .mov, [.t 61]⟩])
   (.ret))))))),
  [.tmp 2]⟩
/- (*loop.example/g00641/spec.l1Cur).among -/
def g93 : GL.Fn := ⟨.seq (.reg 0 [⟨0, some 4, none, .p .mov, [.c (.int .i64 0)]⟩])
   (.seq (.reg 0 [⟨0, some 5, none, .p .mov, [.t 1]⟩,
    ⟨1, some 6, none, .p .mov, [.t 0]⟩,
    ⟨2, some 7, none, .p .mov, [.t 1]⟩,
    ⟨3, some 8, none, .p .len, [.t 7]⟩,
    ⟨4, some 9, none, .e .call [] [], [.f 91, .t 6, .t 8]⟩,
    ⟨5, some 10, none, .p (.idx 1), [.t 5, .t 9]⟩,
    ⟨6, some 11, none, .r (.load false 1) false, [.t 10]⟩,
    ⟨7, some 4, none, .p .mov, [.t 11]⟩])
   (.ret)),
  [.tmp 4]⟩
/- loop.example/g00641/spec.GoodLinks -/
def g550_0 : GL.Code := .seq (.reg 0 [⟨0, some 8, none, .p (.bin .lss), [.t 7, .t 6]⟩])
   (.seq (.cond (.t 8) (.skip)
   (.exit 0))
   (.seq (.block 1 (.seq (.reg 0 [⟨0, some 9, none, .p (.idx 1), [.t 5, .t 7]⟩,
    ⟨1, some 10, none, .r (.load false 1) false, [.t 9]⟩,
    ⟨2, some 4, none, .p .mov, [.t 10]⟩])
   (.seq (.reg 0 [⟨0, some 11, none, .p .mov, [.t 4]⟩,
    ⟨1, some 12, none, .p .mov, [.t 0]⟩,
    ⟨2, some 13, none, .p .len, [.t 12]⟩,
    ⟨3, some 14, none, .p (.bin .sub), [.t 13, .c (.int .i64 1)]⟩,
    ⟨4, some 15, none, .e .call [] [], [.f 337, .t 11, .c (.int .i64 0), .t 14]⟩,
    ⟨5, some 16, none, .p (.un .not), [.t 15]⟩])
   (.cond (.t 16) (.seq (.reg 0 [⟨0, some 2, none, .p .mov, [.c (.bool false)]⟩])
   (.ret))
   (.skip)))))
   (.reg 0 [⟨0, some 17, none, .p (.bin .add), [.t 7, .c (.int .i64 1)]⟩,
    ⟨1, some 7, none, .p .mov, [.t 17]⟩])))
def g550 : GL.Fn := ⟨.seq (.reg 0 [⟨0, some 2, none, .p .mov, [.c (.bool false)]⟩])
   (.seq (.seq (.reg 0 [⟨0, some 5, none, .p .mov, [.t 0]⟩,
    ⟨1, some 6, none, .p .len, [.t 5]⟩,
    ⟨2, some 7, none, .p .mov, [.c (.int .i64 0)]⟩])
   (.block 0 (.loop g550_0)))
   (.seq (.reg 0 [⟨0, some 18, none, .p .mov, [.t 0]⟩,
    ⟨1, some 19, none, .p .len, [.t 18]⟩,
    ⟨2, some 20, none, .p (.bin .leq), [.t 19, .c (.int .i64 12)]⟩,
    ⟨3, some 2, none, .p .mov, [.t 20]⟩])
   (.ret))),
  [.tmp 2]⟩
/- slices.ContainsFunc[[]int,int] -/
def g304 : GL.Fn := ⟨.seq (.reg 0 [⟨0, some 4, none, .p .mov, [.c (.bool false)]⟩])
   (.seq (.reg 0 [⟨0, some 5, none, .p .mov, [.t 0]⟩,
    ⟨1, some 6, none, .p .mov, [.t 1]⟩,
    ⟨2, some 7, none, .e .call [] [], [.f 391, .t 5, .t 6]⟩,
    ⟨3, some 8, none, .p (.bin .geq), [.t 7, .c (.int .i64 0)]⟩,
    ⟨4, some 4, none, .p .mov, [.t 8]⟩])
   (.ret)),
  [.tmp 4]⟩
/- loop.example/g00641/impl.isStore$1 -/
def g607 : GL.Fn := ⟨.seq (.reg 0 [⟨0, some 2, none, .p .mov, [.c (.bool false)]⟩])
   (.seq (.reg 0 [⟨0, some 3, none, .p .mov, [.t 0]⟩,
    ⟨1, some 4, none, .e .call [] [], [.f 107, .t 3, .c (.int .i64 (-1000000)), .c (.int .i64 1000000)]⟩,
    ⟨2, some 5, none, .p (.un .not), [.t 4]⟩,
    ⟨3, some 2, none, .p .mov, [.t 5]⟩])
   (.ret)),
  [.tmp 2]⟩
/- loop.example/g00641/impl.together -/
def g412 : GL.Fn := ⟨.seq (.reg 0 [⟨0, some 4, none, .p .mov, [.c (.nils)]⟩])
   (.seq (.reg 0 [⟨0, some 6, none, .p .mov, [.t 0]⟩,
    ⟨1, some 7, none, .p .mov, [.t 1]⟩,
    ⟨2, some 8, none, .e (.new (.lit 1)) [] [], [.t 6, .t 7]⟩,
    ⟨3, some 9, none, .e .call [] [], [.f 429, .t 8]⟩,
    ⟨4, some 5, none, .p .mov, [.t 9]⟩])
   (.seq (.reg 0 [⟨0, some 10, none, .p .mov, [.t 5]⟩,
    ⟨1, some 11, none, .e .call [] [], [.f 340, .t 10]⟩])
   (.seq (.reg 0 [⟨0, some 12, none, .p .mov, [.t 5]⟩,
    ⟨1, some 13, none, .e .call [] [], [.f 430, .t 12]⟩,
    ⟨2, some 4, none, .p .mov, [.t 13]⟩])
   (.ret)))),
  [.tmp 4]⟩
/- loop.example/g00641/impl.hasAll$1 -/
def g572 : GL.Fn := ⟨.seq (.reg 0 [⟨0, some 3, none, .p .mov, [.c (.bool false)]⟩])
   (.seq (.reg 0 [⟨0, some 4, none, .r (.load false 1) false, [.t 1]⟩,
    ⟨1, some 5, none, .p .mov, [.t 0]⟩,
    ⟨2, some 6, none, .e .call [] [], [.f 301, .t 4, .t 5]⟩,
    ⟨3, some 7, none, .p (.un .not), [.t 6]⟩,
    ⟨4, some 3, none, .p .mov, [.t 7]⟩])
   (.ret)),
  [.tmp 3]⟩
/- slices.Contains[[]int,int] -/
def g301 : GL.Fn := ⟨.seq (.reg 0 [⟨0, some 4, none, .p .mov, [.c (.bool false)]⟩])
   (.seq (.reg 0 [⟨0, some 5, none, .p .mov, [.t 0]⟩,
    ⟨1, some 6, none, .p .mov, [.t 1]⟩,
    ⟨2, some 7, none, .e .call [] [], [.f 390, .t 5, .t 6]⟩,
    ⟨3, some 8, none, .p (.bin .geq), [.t 7, .c (.int .i64 0)]⟩,
    ⟨4, some 4, none, .p .mov, [.t 8]⟩])
   (.ret)),
  [.tmp 4]⟩
/- (loop.example/g00641/impl.Step).run -/
def g609 : GL.Fn := ⟨.seq (.reg 0 [⟨0, some 3, none, .l (.box 3 5), [.t 0]⟩,
    ⟨1, some 6, none, .p .mov, [.c (.int .i64 0)]⟩])
   (.seq (.seq (.reg 0 [⟨0, some 7, none, .p (.faddr 0), [.t 3]⟩,
    ⟨1, some 8, none, .l (.load 3 false 1), [.t 7]⟩])
   (.block 0 (.seq (.reg 0 [⟨0, some 10, none, .p (.bin .eql), [.t 8, .c (.int .i64 1)]⟩,
    ⟨1, some 9, none, .p .mov, [.t 10]⟩])
   (.cond (.t 9) (.seq (.reg 0 [⟨0, some 11, none, .p .mov, [.t 1]⟩,
    ⟨1, some 12, none, .l (.load 3 true 5), [.t 3]⟩,
    ⟨2, some 13, none, .e .call [] [], [.f 600, .t 12]⟩,
    ⟨3, some 14, none, .p (.idx 1), [.t 11, .t 13]⟩,
    ⟨4, some 15, none, .r (.load false 1) false, [.t 14]⟩,
    ⟨5, some 6, none, .p .mov, [.t 15]⟩])
   (.ret))
   (.seq (.reg 0 [⟨0, some 17, none, .p (.bin .eql), [.t 8, .c (.int .i64 2)]⟩,
    ⟨1, some 16, none, .p .mov, [.t 17]⟩])
   (.cond (.t 16) (.seq (.reg 0 [⟨0, some 18, none, .p .mov, [.t 2]⟩,
    ⟨1, some 19, none, .p (.faddr 3), [.t 3]⟩,
    ⟨2, some 20, none, .l (.load 3 false 1), [.t 19]⟩,
    ⟨3, some 21, none, .p (.idx 1), [.t 18, .t 20]⟩,
    ⟨4, some 22, none, .r (.load false 1) false, [.t 21]⟩,
    ⟨5, some 23, none, .p (.faddr 4), [.t 3]⟩,
    ⟨6, some 24, none, .l (.load 3 false 1), [.t 23]⟩,
    ⟨7, some 25, none, .p (.bin .add), [.t 22, .t 24]⟩,
    ⟨8, some 26, none, .p (.bin .rem), [.t 25, .c (.int .i64 1000)]⟩,
    ⟨9, some 6, none, .p .mov, [.t 26]⟩])
   (.ret))
   (.skip)))))))
   (.seq (.reg 0 [⟨0, some 27, none, .p .mov, [.t 1]⟩,
    ⟨1, some 28, none, .l (.load 3 true 5), [.t 3]⟩,
    ⟨3, some 30, none, .p .mov, [.t 2]⟩,
    ⟨4, some 31, none, .p (.faddr 3), [.t 3]⟩,
    ⟨5, some 32, none, .l (.load 3 false 1), [.t 31]⟩,
    ⟨6, some 33, none, .p (.idx 1), [.t 30, .t 32]⟩,
    ⟨7, some 34, none, .r (.load false 1) true, [.t 33]⟩,
    ⟨2, some 29, none, .e .call [7] [], [.f 600, .t 28]⟩,
    ⟨8, some 35, none, .p (.idx 1), [.t 27, .t 29]⟩,
    ⟨9, none, none, .e (.store 1) [] [], [.t 35, .t 34]⟩])
   (.seq (.reg 0 [⟨0, some 36, none, .p .mov, [.t 2]⟩,
    ⟨1, some 37, none, .p (.faddr 3), [.t 3]⟩,
    ⟨2, some 38, none, .l (.load 3 false 1), [.t 37]⟩,
    ⟨3, some 39, none, .p (.idx 1), [.t 36, .t 38]⟩,
    ⟨4, some 40, none, .r (.load false 1) false, [.t 39]⟩,
    ⟨5, some 6, none, .p .mov, [.t 40]⟩])
   (.ret)))),
  [.tmp 6]⟩
/- loop.example/g00641/spec.l1All -/
def g94_0 : GL.Code := .seq (.reg 0 [⟨0, some 12, none, .p (.bin .lss), [.t 11, .t 10]⟩])
   (.seq (.cond (.t 12) (.skip)
   (.exit 0))
   (.seq (.block 1 (.seq (.reg 0 [⟨0, some 13, none, .p (.idx 1), [.t 9, .t 11]⟩,
    ⟨1, some 14, none, .r (.load false 1) false, [.t 13]⟩,
    ⟨2, some 8, none, .p .mov, [.t 14]⟩])
   (.seq (.reg 0 [⟨0, some 15, none, .p .mov, [.t 8]⟩,
    ⟨1, some 16, none, .p .mov, [.t 1]⟩,
    ⟨2, some 17, none, .p .mov, [.t 2]⟩,
    ⟨3, some 18, none, .e .call [] [], [.f 98, .t 15, .t 16, .t 17]⟩,
    ⟨4, some 19, none, .p (.un .not), [.t 18]⟩])
   (.cond (.t 19) (.seq (.reg 0 [⟨0, some 6, none, .p .mov, [.c (.bool false)]⟩])
   (.ret))
   (.skip)))))
   (.reg 0 [⟨0, some 20, none, .p (.bin .add), [.t 11, .c (.int .i64 1)]⟩,
    ⟨1, some 11, none, .p .mov, [.t 20]⟩])))
def g94 : GL.Fn := ⟨.seq (.reg 0 [⟨0, some 6, none, .p .mov, [.c (.bool false)]⟩])
   (.seq (.seq (.reg 0 [⟨0, some 9, none, .p .mov, [.t 0]⟩,
    ⟨1, some 10, none, .p .len, [.t 9]⟩,
    ⟨2, some 11, none, .p .mov, [.c (.int .i64 0)]⟩])
   (.block 0 (.loop g94_0)))
   (.seq (.reg 0 [⟨0, some 6, none, .p .mov, [.c (.bool true)]⟩])
   (.ret))),
  [.tmp 6]⟩
/- loop.example/g00641/spec.l1Put -/
def g410_0 : GL.Code := .seq (.seq (.reg 0 [⟨0, some 7, none, .p .mov, [.t 5]⟩,
    ⟨1, some 8, none, .p .mov, [.t 0]⟩,
    ⟨2, some 9, none, .p .len, [.t 8]⟩,
    ⟨3, some 10, none, .p (.bin .lss), [.t 7, .t 9]⟩,
    ⟨4, some 11, none, .p .mov, [.t 10]⟩,
    ⟨5, some 12, some (11, true), .p .mov, [.t 0]⟩,
    ⟨6, some 13, some (11, true), .p .mov, [.t 5]⟩,
    ⟨7, some 14, some (11, true), .p (.idx 1), [.t 12, .t 13]⟩,
    ⟨8, some 15, some (11, true), .r (.load false 1) false, [.t 14]⟩,
    ⟨9, some 16, some (11, true), .p .mov, [.t 1]⟩,
    ⟨10, some 17, some (11, true), .p (.bin .lss), [.t 15, .t 16]⟩,
    ⟨11, some 18, none, .p .pick, [.t 11, .t 17, .c (.bool false)]⟩])
   (.cond (.t 18) (.skip)
   (.exit 0)))
   (.block 1 (.reg 0 [⟨0, some 19, none, .p .mov, [.t 5]⟩,
    ⟨1, some 20, none, .p (.bin .add), [.t 19, .c (.int .i64 1)]⟩,
    ⟨2, some 5, none, .p .mov, [.t 20]⟩]))
def g410 : GL.Fn := ⟨.seq (.reg 0 [⟨0, some 4, none, .p .mov, [.c (.nils)]⟩])
   (.seq (.reg 0 [⟨0, some 5, none, .p .mov, [.c (.int .i64 0)]⟩])
   (.seq (.block 0 (.loop g410_0))
   (.seq (.seq (.reg 0 [⟨0, some 21, none, .p .mov, [.t 5]⟩,
    ⟨1, some 22, none, .p .mov, [.t 0]⟩,
    ⟨2, some 23, none, .p .len, [.t 22]⟩,
    ⟨3, some 24, none, .p (.bin .lss), [.t 21, .t 23]⟩,
    ⟨4, some 25, none, .p .mov, [.t 24]⟩,
    ⟨5, some 26, some (25, true), .p .mov, [.t 0]⟩,
    ⟨6, some 27, some (25, true), .p .mov, [.t 5]⟩,
    ⟨7, some 28, some (25, true), .p (.idx 1), [.t 26, .t 27]⟩,
    ⟨8, some 29, some (25, true), .r (.load false 1) false, [.t 28]⟩,
    ⟨9, some 30, some (25, true), .p .mov, [.t 1]⟩,
    ⟨10, some 31, some (25, true), .p (.bin .eql), [.t 29, .t 30]⟩,
    ⟨11, some 32, none, .p .pick, [.t 25, .t 31, .c (.bool false)]⟩])
   (.cond (.t 32) (.seq (.reg 0 [⟨0, some 33, none, .p .mov, [.t 0]⟩,
    ⟨1, some 4, none, .p .mov, [.t 33]⟩])
   (.ret))
   (.skip)))
   (.seq (.reg 0 [⟨0, some 34, none, .e (.new (.lit 1)) [] [], []⟩,
    ⟨1, some 35, none, .p .mov, [.t 0]⟩,
    ⟨2, some 36, none, .p .mov, [.t 5]⟩,
    ⟨3, some 37, none, .p (.slice 1 false true false), [.t 35, .t 36]⟩,
    ⟨4, some 38, none, .e (.append 1 8) [] [], [.t 34, .t 37]⟩,
    ⟨5, some 6, none, .p .mov, [.t 38]⟩])
   (.seq (.reg 0 [⟨0, some 39, none, .p .mov, [.t 6]⟩,
    ⟨1, some 40, none, .p .mov, [.t 1]⟩,
    ⟨2, some 41, none, .e (.new (.lit 1)) [] [], [.t 40]⟩,
    ⟨3, some 42, none, .e (.append 1 8) [] [], [.t 39, .t 41]⟩,
    ⟨4, some 6, none, .p .mov, [.t 42]⟩])
   (.seq (.reg 0 [⟨0, some 43, none, .p .mov, [.t 6]⟩,
    ⟨1, some 44, none, .p .mov, [.t 0]⟩,
    ⟨2, some 45, none, .p .mov, [.t 5]⟩,
    ⟨3, some 46, none, .p (.slice 1 true false false), [.t 44, .t 45]⟩,
    ⟨4, some 47, none, .e (.append 1 8) [] [], [.t 43, .t 46]⟩,
    ⟨5, some 4, none, .p .mov, [.t 47]⟩])
   (.ret))))))),
  [.tmp 4]⟩
/- slices.ContainsFunc[[][]int,[]int] -/
def g335 : GL.Fn := ⟨.seq (.reg 0 [⟨0, some 4, none, .p .mov, [.c (.bool false)]⟩])
   (.seq (.reg 0 [⟨0, some 5, none, .p .mov, [.t 0]⟩,
    ⟨1, some 6, none, .p .mov, [.t 1]⟩,
    ⟨2, some 7, none, .e .call [] [], [.f 395, .t 5, .t 6]⟩,
    ⟨3, some 8, none, .p (.bin .geq), [.t 7, .c (.int .i64 0)]⟩,
    ⟨4, some 4, none, .p .mov, [.t 8]⟩])
   (.ret)),
  [.tmp 4]⟩
/- loop.example/g00641/impl.GoodLinks$1 -/
def g559 : GL.Fn := ⟨.seq (.reg 0 [⟨0, some 3, none, .p .mov, [.c (.bool false)]⟩])
   (.seq (.reg 0 [⟨0, some 4, none, .p .mov, [.t 0]⟩,
    ⟨1, some 5, none, .r (.load false 1) false, [.t 1]⟩,
    ⟨2, some 6, none, .p .len, [.t 5]⟩,
    ⟨3, some 7, none, .p (.bin .sub), [.t 6, .c (.int .i64 1)]⟩,
    ⟨4, some 8, none, .e .call [] [], [.f 385, .t 4, .c (.int .i64 0), .t 7]⟩,
    ⟨5, some 9, none, .p (.un .not), [.t 8]⟩,
    ⟨6, some 3, none, .p .mov, [.t 9]⟩])
   (.ret)),
  [.tmp 3]⟩
/- loop.example/g00641/spec.l9Group -/
def g562_0 : GL.Code := .seq (.reg 0 [⟨0, some 13, none, .p (.bin .lss), [.t 12, .t 11]⟩])
   (.seq (.cond (.t 13) (.skip)
   (.exit 0))
   (.seq (.block 1 (.seq (.reg 0 [⟨0, some 14, none, .p (.idx 1), [.t 10, .t 12]⟩,
    ⟨1, some 15, none, .r (.load false 1) false, [.t 14]⟩,
    ⟨2, some 7, none, .p .mov, [.t 15]⟩])
   (.seq (.reg 0 [⟨0, some 16, none, .p .mov, [.t 0]⟩,
    ⟨1, some 17, none, .p .mov, [.t 7]⟩,
    ⟨2, some 18, none, .e .call [] [], [.f 547, .t 16, .t 17]⟩,
    ⟨3, some 19, none, .p .mov, [.t 1]⟩,
    ⟨4, some 20, none, .e .call [] [], [.f 302, .t 18, .t 19]⟩])
   (.cond (.t 20) (.reg 0 [⟨0, some 21, none, .p .mov, [.t 5]⟩,
    ⟨1, some 22, none, .p .mov, [.t 7]⟩,
    ⟨2, some 23, none, .e (.new (.lit 1)) [] [], [.t 22]⟩,
    ⟨3, some 24, none, .e (.append 1 8) [] [], [.t 21, .t 23]⟩,
    ⟨4, some 5, none, .p .mov, [.t 24]⟩])
   (.skip)))))
   (.reg 0 [⟨0, some 25, none, .p (.bin .add), [.t 12, .c (.int .i64 1)]⟩,
    ⟨1, some 12, none, .p .mov, [.t 25]⟩])))
def g562 : GL.Fn := ⟨.seq (.reg 0 [⟨0, some 4, none, .p .mov, [.c (.nils)]⟩])
   (.seq (.reg 0 [⟨0, some 5, none, .p .mov, [.c (.nils)]⟩])
   (.seq (.seq (.reg 0 [⟨0, some 8, none, .p .mov, [.t 0]⟩,
    ⟨1, some 9, none, .p .mov, [.t 1]⟩,
    ⟨2, some 10, none, .e .call [] [], [.f 547, .t 8, .t 9]⟩,
    ⟨3, some 11, none, .p .len, [.t 10]⟩,
    ⟨4, some 12, none, .p .mov, [.c (.int .i64 0)]⟩])
   (.block 0 (.loop g562_0)))
   (.seq (.reg 0 [⟨0, some 26, none, .p .mov, [.t 5]⟩,
    ⟨1, some 4, none, .p .mov, [.t 26]⟩])
   (.ret)))),
  [.tmp 4]⟩
/- slices.DeleteFunc[[]int,int] -/
def g397_0 : GL.Code := .seq (.seq (.reg 0 [⟨0, some 16, none, .p .mov, [.t 6]⟩,
    ⟨1, some 17, none, .p .mov, [.t 0]⟩,
    ⟨2, some 18, none, .p .len, [.t 17]⟩,
    ⟨3, some 19, none, .p (.bin .lss), [.t 16, .t 18]⟩])
   (.cond (.t 19) (.skip)
   (.exit 0)))
   (.seq (.block 1 (.seq (.reg 0 [⟨0, some 22, none, .p .mov, [.t 0]⟩,
    ⟨1, some 23, none, .p .mov, [.t 6]⟩,
    ⟨2, some 24, none, .p (.idx 1), [.t 22, .t 23]⟩,
    ⟨3, some 25, none, .r (.load false 1) false, [.t 24]⟩,
    ⟨4, some 7, none, .p .mov, [.t 25]⟩])
   (.seq (.reg 0 [⟨0, some 26, none, .p .mov, [.t 1]⟩,
    ⟨1, some 27, none, .p .mov, [.t 7]⟩,
    ⟨2, some 28, none, .e .call [] [], [.t 26, .t 27]⟩,
    ⟨3, some 29, none, .p (.un .not), [.t 28]⟩])
   (.cond (.t 29) (.seq (.reg 0 [⟨0, some 30, none, .p .mov, [.t 0]⟩,
    ⟨1, some 31, none, .p .mov, [.t 5]⟩,
    ⟨2, some 32, none, .p .mov, [.t 7]⟩,
    ⟨3, some 33, none, .p (.idx 1), [.t 30, .t 31]⟩,
    ⟨4, none, none, .e (.store 1) [] [], [.t 33, .t 32]⟩])
   (.reg 0 [⟨0, some 34, none, .p .mov, [.t 5]⟩,
    ⟨1, some 35, none, .p (.bin .add), [.t 34, .c (.int .i64 1)]⟩,
    ⟨2, some 5, none, .p .mov, [.t 35]⟩]))
   (.skip)))))
   (.reg 0 [⟨0, some 20, none, .p .mov, [.t 6]⟩,
    ⟨1, some 21, none, .p (.bin .add), [.t 20, .c (.int .i64 1)]⟩,
    ⟨2, some 6, none, .p .mov, [.t 21]⟩]))
def g397 : GL.Fn := ⟨.seq (.reg 0 [⟨0, some 4, none, .p .mov, [.c (.nils)]⟩])
   (.seq (.reg 0 [⟨0, some 8, none, .p .mov, [.t 0]⟩,
    ⟨1, some 9, none, .p .mov, [.t 1]⟩,
    ⟨2, some 10, none, .e .call [] [], [.f 391, .t 8, .t 9]⟩,
    ⟨3, some 5, none, .p .mov, [.t 10]⟩])
   (.seq (.seq (.reg 0 [⟨0, some 11, none, .p .mov, [.t 5]⟩,
    ⟨1, some 12, none, .p (.bin .eql), [.t 11, .c (.int .i64 (-1))]⟩])
   (.cond (.t 12) (.seq (.reg 0 [⟨0, some 13, none, .p .mov, [.t 0]⟩,
    ⟨1, some 4, none, .p .mov, [.t 13]⟩])
   (.ret))
   (.skip)))
   (.seq (.seq (.reg 0 [⟨0, some 14, none, .p .mov, [.t 5]⟩,
    ⟨1, some 15, none, .p (.bin .add), [.t 14, .c (.int .i64 1)]⟩,
    ⟨2, some 6, none, .p .mov, [.t 15]⟩])
   (.block 0 (.loop g397_0)))
   (.seq (.reg 0 [⟨0, some 36, none, .p .mov, [.t 0]⟩,
    ⟨1, some 37, none, .p .mov, [.t 5]⟩,
    ⟨2, some 38, none, .p (.slice 1 true false false), [.t 36, .t 37]⟩,
    ⟨3, none, none, .e (.clear 1 [.int .i64 0]) [] [], [.t 38]⟩])
   (.seq (.reg 0 [⟨0, some 39, none, .p .mov, [.t 0]⟩,
    ⟨1, some 40, none, .p .mov, [.t 5]⟩,
    ⟨2, some 41, none, .p (.slice 1 false true false), [.t 39, .t 40]⟩,
    ⟨3, some 4, none, .p .mov, [.t 41]⟩])
   (.ret)))))),
  [.tmp 4]⟩
/- loop.example/g00641/impl.group$1 -/
def g576 : GL.Fn := ⟨.seq (.reg 0 [⟨0, some 4, none, .p .mov, [.c (.bool false)]⟩])
   (.seq (.reg 0 [⟨0, some 5, none, .r (.load false 1) false, [.t 1]⟩,
    ⟨1, some 6, none, .p .mov, [.t 0]⟩,
    ⟨3, some 8, none, .r (.load false 1) true, [.t 2]⟩,
    ⟨2, some 7, none, .e .call [3] [], [.f 545, .t 5, .t 6]⟩,
    ⟨4, some 9, none, .e .call [] [], [.f 301, .t 7, .t 8]⟩,
    ⟨5, some 10, none, .p (.un .not), [.t 9]⟩,
    ⟨6, some 4, none, .p .mov, [.t 10]⟩])
   (.ret)),
  [.tmp 4]⟩
/- loop.example/g00641/spec.l9Reach -/
def g547_0 : GL.Code := .seq (.reg 0 [⟨0, some 28, none, .p (.bin .lss), [.t 27, .t 26]⟩])
   (.seq (.cond (.t 28) (.skip)
   (.exit 2))
   (.seq (.block 3 (.seq (.reg 0 [⟨0, some 29, none, .p (.idx 1), [.t 25, .t 27]⟩,
    ⟨1, some 30, none, .r (.load false 1) false, [.t 29]⟩,
    ⟨2, some 9, none, .p .mov, [.t 30]⟩])
   (.seq (.reg 0 [⟨0, some 31, none, .p .mov, [.t 5]⟩,
    ⟨1, some 32, none, .p .mov, [.t 9]⟩,
    ⟨2, some 33, none, .e .call [] [], [.f 302, .t 31, .t 32]⟩,
    ⟨3, some 34, none, .p (.un .not), [.t 33]⟩])
   (.cond (.t 34) (.seq (.reg 0 [⟨0, some 35, none, .p .mov, [.t 5]⟩,
    ⟨1, some 36, none, .p .mov, [.t 9]⟩,
    ⟨2, some 37, none, .e .call [] [], [.f 410, .t 35, .t 36]⟩,
    ⟨3, some 5, none, .p .mov, [.t 37]⟩])
   (.reg 0 [⟨0, some 38, none, .p .mov, [.t 6]⟩,
    ⟨1, some 39, none, .p .mov, [.t 9]⟩,
    ⟨2, some 40, none, .e (.new (.lit 1)) [] [], [.t 39]⟩,
    ⟨3, some 41, none, .e (.append 1 8) [] [], [.t 38, .t 40]⟩,
    ⟨4, some 6, none, .p .mov, [.t 41]⟩]))
   (.skip)))))
   (.reg 0 [⟨0, some 42, none, .p (.bin .add), [.t 27, .c (.int .i64 1)]⟩,
    ⟨1, some 27, none, .p .mov, [.t 42]⟩])))
def g547_1 : GL.Code := .seq (.seq (.reg 0 [⟨0, some 14, none, .p .mov, [.t 6]⟩,
    ⟨1, some 15, none, .p .len, [.t 14]⟩,
    ⟨2, some 16, none, .p (.bin .gtr), [.t 15, .c (.int .i64 0)]⟩])
   (.cond (.t 16) (.skip)
   (.exit 0)))
   (.block 1 (.seq (.reg 0 [⟨0, some 17, none, .p .mov, [.t 6]⟩,
    ⟨1, some 18, none, .p (.idx 1), [.t 17, .c (.int .i64 0)]⟩,
    ⟨2, some 19, none, .r (.load false 1) false, [.t 18]⟩,
    ⟨3, some 7, none, .p .mov, [.t 19]⟩])
   (.seq (.reg 0 [⟨0, some 20, none, .p .mov, [.t 6]⟩,
    ⟨1, some 21, none, .p (.slice 1 true false false), [.t 20, .c (.int .i64 1)]⟩,
    ⟨2, some 6, none, .p .mov, [.t 21]⟩])
   (.seq (.reg 0 [⟨0, some 22, none, .p .mov, [.t 0]⟩,
    ⟨1, some 23, none, .p .mov, [.t 7]⟩,
    ⟨2, some 24, none, .p (.idx 1), [.t 22, .t 23]⟩,
    ⟨3, some 25, none, .r (.load false 1) false, [.t 24]⟩,
    ⟨4, some 26, none, .p .len, [.t 25]⟩,
    ⟨5, some 27, none, .p .mov, [.c (.int .i64 0)]⟩])
   (.block 2 (.loop g547_0))))))
def g547 : GL.Fn := ⟨.seq (.reg 0 [⟨0, some 4, none, .p .mov, [.c (.nils)]⟩])
   (.seq (.reg 0 [⟨0, some 10, none, .p .mov, [.t 1]⟩,
    ⟨1, some 11, none, .e (.new (.lit 1)) [] [], [.t 10]⟩,
    ⟨2, some 5, none, .p .mov, [.t 11]⟩])
   (.seq (.reg 0 [⟨0, some 12, none, .p .mov, [.t 1]⟩,
    ⟨1, some 13, none, .e (.new (.lit 1)) [] [], [.t 12]⟩,
    ⟨2, some 6, none, .p .mov, [.t 13]⟩])
   (.seq (.block 0 (.loop g547_1))
   (.seq (.reg 0 [⟨0, some 43, none, .p .mov, [.t 5]⟩,
    ⟨1, some 4, none, .p .mov, [.t 43]⟩])
   (.ret))))),
  [.tmp 4]⟩
/- loop.example/g00641/spec.l1Rising -/
def g337_0 : GL.Code := .seq (.reg 0 [⟨0, some 12, none, .p (.bin .lss), [.t 11, .t 10]⟩])
   (.seq (.cond (.t 12) (.skip)
   (.exit 0))
   (.seq (.block 1 (.seq (.reg 0 [⟨0, some 13, none, .p .mov, [.t 11]⟩,
    ⟨1, some 14, none, .p (.idx 1), [.t 9, .t 11]⟩,
    ⟨2, some 15, none, .r (.load false 1) false, [.t 14]⟩,
    ⟨3, some 7, none, .p .mov, [.t 13]⟩,
    ⟨4, some 8, none, .p .mov, [.t 15]⟩])
   (.seq (.reg 0 [⟨0, some 16, none, .p .mov, [.t 8]⟩,
    ⟨1, some 17, none, .p .mov, [.t 1]⟩,
    ⟨2, some 18, none, .p .mov, [.t 2]⟩,
    ⟨3, some 19, none, .e .call [] [], [.f 98, .t 16, .t 17, .t 18]⟩,
    ⟨4, some 20, none, .p (.un .not), [.t 19]⟩,
    ⟨5, some 21, none, .p .mov, [.t 20]⟩,
    ⟨6, some 22, some (21, false), .p .mov, [.t 7]⟩,
    ⟨7, some 23, some (21, false), .p (.bin .gtr), [.t 22, .c (.int .i64 0)]⟩,
    ⟨8, some 24, some (21, false), .p .mov, [.t 23]⟩,
    ⟨9, some 25, some (24, true), .p .mov, [.t 0]⟩,
    ⟨10, some 26, some (24, true), .p .mov, [.t 7]⟩,
    ⟨11, some 27, some (24, true), .p (.bin .sub), [.t 26, .c (.int .i64 1)]⟩,
    ⟨12, some 28, some (24, true), .p (.idx 1), [.t 25, .t 27]⟩,
    ⟨13, some 29, some (24, true), .r (.load false 1) false, [.t 28]⟩,
    ⟨14, some 30, some (24, true), .p .mov, [.t 8]⟩,
    ⟨15, some 31, some (24, true), .p (.bin .geq), [.t 29, .t 30]⟩,
    ⟨16, some 32, some (21, false), .p .pick, [.t 24, .t 31, .c (.bool false)]⟩,
    ⟨17, some 33, none, .p .pick, [.t 21, .c (.bool true), .t 32]⟩])
   (.cond (.t 33) (.seq (.reg 0 [⟨0, some 6, none, .p .mov, [.c (.bool false)]⟩])
   (.ret))
   (.skip)))))
   (.reg 0 [⟨0, some 34, none, .p (.bin .add), [.t 11, .c (.int .i64 1)]⟩,
    ⟨1, some 11, none, .p .mov, [.t 34]⟩])))
def g337 : GL.Fn := ⟨.seq (.reg 0 [⟨0, some 6, none, .p .mov, [.c (.bool false)]⟩])
   (.seq (.seq (.reg 0 [⟨0, some 9, none, .p .mov, [.t 0]⟩,
    ⟨1, some 10, none, .p .len, [.t 9]⟩,
    ⟨2, some 11, none, .p .mov, [.c (.int .i64 0)]⟩])
   (.block 0 (.loop g337_0)))
   (.seq (.reg 0 [⟨0, some 6, none, .p .mov, [.c (.bool true)]⟩])
   (.ret))),
  [.tmp 6]⟩
/- slices.IndexFunc[[]int,int] -/
def g391_0 : GL.Code := .seq (.reg 0 [⟨0, some 9, none, .p (.bin .lss), [.t 8, .t 7]⟩])
   (.seq (.cond (.t 9) (.skip)
   (.exit 0))
   (.seq (.block 1 (.seq (.reg 0 [⟨0, some 10, none, .p .mov, [.t 8]⟩,
    ⟨1, some 5, none, .p .mov, [.t 10]⟩])
   (.seq (.reg 0 [⟨0, some 11, none, .p .mov, [.t 1]⟩,
    ⟨1, some 12, none, .p .mov, [.t 0]⟩,
    ⟨2, some 13, none, .p .mov, [.t 5]⟩,
    ⟨3, some 14, none, .p (.idx 1), [.t 12, .t 13]⟩,
    ⟨4, some 15, none, .r (.load false 1) false, [.t 14]⟩,
    ⟨5, some 16, none, .e .call [] [], [.t 11, .t 15]⟩])
   (.cond (.t 16) (.seq (.reg 0 [⟨0, some 17, none, .p .mov, [.t 5]⟩,
    ⟨1, some 4, none, .p .mov, [.t 17]⟩])
   (.ret))
   (.skip)))))
   (.reg 0 [⟨0, some 18, none, .p (.bin .add), [.t 8, .c (.int .i64 1)]⟩,
    ⟨1, some 8, none, .p .mov, [.t 18]⟩])))
def g391 : GL.Fn := ⟨.seq (.reg 0 [⟨0, some 4, none, .p .mov, [.c (.int .i64 0)]⟩])
   (.seq (.seq (.reg 0 [⟨0, some 6, none, .p .mov, [.t 0]⟩,
    ⟨1, some 7, none, .p .len, [.t 6]⟩,
    ⟨2, some 8, none, .p .mov, [.c (.int .i64 0)]⟩])
   (.block 0 (.loop g391_0)))
   (.seq (.reg 0 [⟨0, some 4, none, .p .mov, [.c (.int .i64 (-1))]⟩])
   (.ret))),
  [.tmp 4]⟩
/- slices.Compact[[]int,int] -/
def g430_0 : GL.Code := .seq (.seq (.reg 0 [⟨0, some 29, none, .p .mov, [.t 5]⟩,
    ⟨1, some 30, none, .p .mov, [.t 4]⟩,
    ⟨2, some 31, none, .p .len, [.t 30]⟩,
    ⟨3, some 32, none, .p (.bin .lss), [.t 29, .t 31]⟩])
   (.cond (.t 32) (.skip)
   (.exit 2)))
   (.seq (.block 3 (.seq (.reg 0 [⟨0, some 35, none, .p .mov, [.t 4]⟩,
    ⟨1, some 36, none, .p .mov, [.t 5]⟩,
    ⟨2, some 37, none, .p (.idx 1), [.t 35, .t 36]⟩,
    ⟨3, some 38, none, .r (.load false 1) false, [.t 37]⟩,
    ⟨4, some 39, none, .p .mov, [.t 4]⟩,
    ⟨5, some 40, none, .p .mov, [.t 5]⟩,
    ⟨6, some 41, none, .p (.bin .sub), [.t 40, .c (.int .i64 1)]⟩,
    ⟨7, some 42, none, .p (.idx 1), [.t 39, .t 41]⟩,
    ⟨8, some 43, none, .r (.load false 1) false, [.t 42]⟩,
    ⟨9, some 44, none, .p (.bin .neq), [.t 38, .t 43]⟩])
   (.cond (.t 44) (.seq (.reg 0 [⟨0, some 45, none, .p .mov, [.t 0]⟩,
    ⟨1, some 46, none, .p .mov, [.t 3]⟩,
    ⟨2, some 47, none, .p .mov, [.t 4]⟩,
    ⟨3, some 48, none, .p .mov, [.t 5]⟩,
    ⟨4, some 49, none, .p (.idx 1), [.t 47, .t 48]⟩,
    ⟨5, some 50, none, .r (.load false 1) false, [.t 49]⟩,
    ⟨6, some 51, none, .p (.idx 1), [.t 45, .t 46]⟩,
    ⟨7, none, none, .e (.store 1) [] [], [.t 51, .t 50]⟩])
   (.reg 0 [⟨0, some 52, none, .p .mov, [.t 3]⟩,
    ⟨1, some 53, none, .p (.bin .add), [.t 52, .c (.int .i64 1)]⟩,
    ⟨2, some 3, none, .p .mov, [.t 53]⟩]))
   (.skip))))
   (.reg 0 [⟨0, some 33, none, .p .mov, [.t 5]⟩,
    ⟨1, some 34, none, .p (.bin .add), [.t 33, .c (.int .i64 1)]⟩,
    ⟨2, some 5, none, .p .mov, [.t 34]⟩]))
def g430_1 : GL.Code := .seq (.seq (.reg 0 [⟨0, some 10, none, .p .mov, [.t 3]⟩,
    ⟨1, some 11, none, .p .mov, [.t 0]⟩,
    ⟨2, some 12, none, .p .len, [.t 11]⟩,
    ⟨3, some 13, none, .p (.bin .lss), [.t 10, .t 12]⟩])
   (.cond (.t 13) (.skip)
   (.exit 0)))
   (.seq (.block 1 (.seq (.reg 0 [⟨0, some 16, none, .p .mov, [.t 0]⟩,
    ⟨1, some 17, none, .p .mov, [.t 3]⟩,
    ⟨2, some 18, none, .p (.idx 1), [.t 16, .t 17]⟩,
    ⟨3, some 19, none, .r (.load false 1) false, [.t 18]⟩,
    ⟨4, some 20, none, .p .mov, [.t 0]⟩,
    ⟨5, some 21, none, .p .mov, [.t 3]⟩,
    ⟨6, some 22, none, .p (.bin .sub), [.t 21, .c (.int .i64 1)]⟩,
    ⟨7, some 23, none, .p (.idx 1), [.t 20, .t 22]⟩,
    ⟨8, some 24, none, .r (.load false 1) false, [.t 23]⟩,
    ⟨9, some 25, none, .p (.bin .eql), [.t 19, .t 24]⟩])
   (.cond (.t 25) (.seq (.reg 0 [⟨0, some 26, none, .p .mov, [.t 0]⟩,
    ⟨1, some 27, none, .p .mov, [.t 3]⟩,
    ⟨2, some 28, none, .p (.slice 1 true false false), [.t 26, .t 27]⟩,
    ⟨3, some 4, none, .p .mov, [.t 28]⟩])
   (.seq (.seq (.reg 0 [⟨0, some 5, none, .p .mov, [.c (.int .i64 1)]⟩])
   (.block 2 (.loop g430_0)))
   (.seq (.reg 0 [⟨0, some 54, none, .p .mov, [.t 0]⟩,
    ⟨1, some 55, none, .p .mov, [.t 3]⟩,
    ⟨2, some 56, none, .p (.slice 1 true false false), [.t 54, .t 55]⟩,
    ⟨3, none, none, .e (.clear 1 [.int .i64 0]) [] [], [.t 56]⟩])
   (.seq (.reg 0 [⟨0, some 57, none, .p .mov, [.t 0]⟩,
    ⟨1, some 58, none, .p .mov, [.t 3]⟩,
    ⟨2, some 59, none, .p (.slice 1 false true false), [.t 57, .t 58]⟩,
    ⟨3, some 2, none, .p .mov, [.t 59]⟩])
   (.ret)))))
   (.skip))))
   (.reg 0 [⟨0, some 14, none, .p .mov, [.t 3]⟩,
    ⟨1, some 15, none, .p (.bin .add), [.t 14, .c (.int .i64 1)]⟩,
    ⟨2, some 3, none, .p .mov, [.t 15]⟩]))
def g430 : GL.Fn := ⟨.seq (.reg 0 [⟨0, some 2, none, .p .mov, [.c (.nils)]⟩])
   (.seq (.seq (.reg 0 [⟨0, some 6, none, .p .mov, [.t 0]⟩,
    ⟨1, some 7, none, .p .len, [.t 6]⟩,
    ⟨2, some 8, none, .p (.bin .lss), [.t 7, .c (.int .i64 2)]⟩])
   (.cond (.t 8) (.seq (.reg 0 [⟨0, some 9, none, .p .mov, [.t 0]⟩,
    ⟨1, some 2, none, .p .mov, [.t 9]⟩])
   (.ret))
   (.skip)))
   (.seq (.seq (.reg 0 [⟨0, some 3, none, .p .mov, [.c (.int .i64 1)]⟩])
   (.block 0 (.loop g430_1)))
   (.seq (.reg 0 [⟨0, some 60, none, .p .mov, [.t 0]⟩,
    ⟨1, some 2, none, .p .mov, [.t 60]⟩])
   (.ret)))),
  [.tmp 2]⟩
/- slices.Index[[]int,int] -/
def g390_0 : GL.Code := .seq (.reg 0 [⟨0, some 9, none, .p (.bin .lss), [.t 8, .t 7]⟩])
   (.seq (.cond (.t 9) (.skip)
   (.exit 0))
   (.seq (.block 1 (.seq (.reg 0 [⟨0, some 10, none, .p .mov, [.t 8]⟩,
    ⟨1, some 5, none, .p .mov, [.t 10]⟩])
   (.seq (.reg 0 [⟨0, some 11, none, .p .mov, [.t 1]⟩,
    ⟨1, some 12, none, .p .mov, [.t 0]⟩,
    ⟨2, some 13, none, .p .mov, [.t 5]⟩,
    ⟨3, some 14, none, .p (.idx 1), [.t 12, .t 13]⟩,
    ⟨4, some 15, none, .r (.load false 1) false, [.t 14]⟩,
    ⟨5, some 16, none, .p (.bin .eql), [.t 11, .t 15]⟩])
   (.cond (.t 16) (.seq (.reg 0 [⟨0, some 17, none, .p .mov, [.t 5]⟩,
    ⟨1, some 4, none, .p .mov, [.t 17]⟩])
   (.ret))
   (.skip)))))
   (.reg 0 [⟨0, some 18, none, .p (.bin .add), [.t 8, .c (.int .i64 1)]⟩,
    ⟨1, some 8, none, .p .mov, [.t 18]⟩])))
def g390 : GL.Fn := ⟨.seq (.reg 0 [⟨0, some 4, none, .p .mov, [.c (.int .i64 0)]⟩])
   (.seq (.seq (.reg 0 [⟨0, some 6, none, .p .mov, [.t 0]⟩,
    ⟨1, some 7, none, .p .len, [.t 6]⟩,
    ⟨2, some 8, none, .p .mov, [.c (.int .i64 0)]⟩])
   (.block 0 (.loop g390_0)))
   (.seq (.reg 0 [⟨0, some 4, none, .p .mov, [.c (.int .i64 (-1))]⟩])
   (.ret))),
  [.tmp 4]⟩
/- (loop.example/g00641/impl.Step).cell -/
def g600 : GL.Fn := ⟨.seq (.reg 0 [⟨0, some 1, none, .l (.box 1 5), [.t 0]⟩,
    ⟨1, some 2, none, .p .mov, [.c (.int .i64 0)]⟩])
   (.seq (.reg 0 [⟨0, some 3, none, .p (.faddr 1), [.t 1]⟩,
    ⟨1, some 4, none, .l (.load 1 false 1), [.t 3]⟩,
    ⟨2, some 5, none, .p (.bin .mul), [.c (.int .i64 4), .t 4]⟩,
    ⟨3, some 6, none, .p (.faddr 2), [.t 1]⟩,
    ⟨4, some 7, none, .l (.load 1 false 1), [.t 6]⟩,
    ⟨5, some 8, none, .p (.bin .add), [.t 5, .t 7]⟩,
    ⟨6, some 2, none, .p .mov, [.t 8]⟩])
   (.ret)),
  [.tmp 2]⟩
end GL
