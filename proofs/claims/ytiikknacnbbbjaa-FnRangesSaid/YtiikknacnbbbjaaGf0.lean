import Derived.Test.YtiikknacnbbbjaaGlA
/- GL code of functions. -/
set_option linter.unusedSimpArgs false
set_option linter.unusedVariables false
namespace GL
open Go
/- loop.example/g00641/laws.FnRanges -/
def g68_0 : GL.Code := .seq (.reg 0 [⟨0, some 182, none, .p (.bin .lss), [.t 181, .t 180]⟩])
   (.seq (.cond (.t 182) (.skip)
   (.exit 2))
   (.seq (.block 3 (.seq (.reg 0 [⟨0, some 183, none, .p .mov, [.t 181]⟩,
    ⟨1, some 32, none, .p .mov, [.t 183]⟩])
   (.seq (.reg 0 [⟨0, some 184, none, .p (.faddr 0), [.t 31]⟩,
    ⟨1, some 185, none, .l (.load 31 false 1), [.t 184]⟩,
    ⟨2, some 186, none, .p .mov, [.t 18]⟩,
    ⟨3, some 187, none, .p (.bin .eql), [.t 185, .t 186]⟩,
    ⟨4, some 188, none, .p .mov, [.t 187]⟩,
    ⟨5, some 189, some (188, true), .p .mov, [.t 32]⟩,
    ⟨6, some 190, some (188, true), .p .mov, [.t 19]⟩,
    ⟨7, some 191, some (188, true), .p (.bin .eql), [.t 189, .t 190]⟩,
    ⟨8, some 192, none, .p .pick, [.t 188, .t 191, .c (.bool false)]⟩,
    ⟨9, some 33, none, .p .mov, [.t 192]⟩])
   (.seq (.reg 0 [⟨0, some 193, none, .p .mov, [.t 33]⟩,
    ⟨1, some 194, none, .p .mov, [.t 193]⟩,
    ⟨2, some 195, some (194, true), .p (.faddr 1), [.t 31]⟩,
    ⟨3, some 196, some (194, true), .l (.load 31 false 1), [.t 195]⟩,
    ⟨4, some 197, some (194, true), .p .mov, [.t 32]⟩,
    ⟨5, some 198, some (194, true), .p (.idx 2), [.t 196, .t 197]⟩,
    ⟨6, some 199, some (194, true), .r (.load true 2) false, [.t 198]⟩,
    ⟨7, some 200, some (194, true), .l (.load 20 true 2), [.t 20]⟩,
    ⟨8, some 201, some (194, true), .p (.eqAgg true [none, some .i64]), [.t 199, .t 200]⟩,
    ⟨9, some 202, none, .p .pick, [.t 194, .t 201, .c (.bool false)]⟩,
    ⟨10, some 203, none, .p .mov, [.t 202]⟩,
    ⟨11, some 204, some (203, false), .p .mov, [.t 33]⟩,
    ⟨12, some 205, some (203, false), .p (.un .not), [.t 204]⟩,
    ⟨13, some 206, some (203, false), .p .mov, [.t 205]⟩,
    ⟨14, some 207, some (206, true), .p (.faddr 1), [.t 31]⟩,
    ⟨15, some 208, some (206, true), .l (.load 31 false 1), [.t 207]⟩,
    ⟨16, some 209, some (206, true), .p .mov, [.t 32]⟩,
    ⟨17, some 210, some (206, true), .p (.idx 2), [.t 208, .t 209]⟩,
    ⟨18, some 211, some (206, true), .r (.load true 2) false, [.t 210]⟩,
    ⟨19, some 212, some (206, true), .p .mov, [.t 17]⟩,
    ⟨20, some 213, some (206, true), .p .mov, [.t 30]⟩,
    ⟨21, some 214, some (206, true), .p (.idx 2), [.t 212, .t 213]⟩,
    ⟨22, some 215, some (206, true), .p (.faddr 1), [.t 214]⟩,
    ⟨23, some 216, some (206, true), .r (.load false 1) false, [.t 215]⟩,
    ⟨24, some 217, some (206, true), .p .mov, [.t 32]⟩,
    ⟨25, some 218, some (206, true), .p (.idx 2), [.t 216, .t 217]⟩,
    ⟨26, some 219, some (206, true), .r (.load true 2) false, [.t 218]⟩,
    ⟨27, some 220, some (206, true), .p (.eqAgg true [none, some .i64]), [.t 211, .t 219]⟩,
    ⟨28, some 221, some (203, false), .p .pick, [.t 206, .t 220, .c (.bool false)]⟩,
    ⟨29, some 222, none, .p .pick, [.t 203, .c (.bool true), .t 221]⟩])
   (.cond (.t 222) (.seq (.reg 0 [⟨0, some 4, none, .p .mov, [.c (.bool false)]⟩])
   (.ret))
   (.skip))))))
   (.reg 0 [⟨0, some 223, none, .p (.bin .add), [.t 181, .c (.int .i64 1)]⟩,
    ⟨1, some 181, none, .p .mov, [.t 223]⟩])))
def g68_1 : GL.Code := .seq (.reg 0 [⟨0, some 174, none, .p (.bin .lss), [.t 173, .t 172]⟩])
   (.seq (.cond (.t 174) (.skip)
   (.exit 0))
   (.seq (.block 1 (.seq (.reg 0 [⟨0, some 175, none, .p .mov, [.t 173]⟩,
    ⟨1, some 176, none, .p (.idx 2), [.t 171, .t 173]⟩,
    ⟨2, some 177, none, .r (.load true 2) false, [.t 176]⟩,
    ⟨3, some 31, none, .l (.alloc 31 [.int .i64 0, .nils]), []⟩,
    ⟨4, some 30, none, .p .mov, [.t 175]⟩,
    ⟨5, none, none, .l (.store 31 2), [.t 31, .t 177]⟩])
   (.seq (.reg 0 [⟨0, some 178, none, .p (.faddr 1), [.t 31]⟩,
    ⟨1, some 179, none, .l (.load 31 false 1), [.t 178]⟩,
    ⟨2, some 180, none, .p .len, [.t 179]⟩,
    ⟨3, some 181, none, .p .mov, [.c (.int .i64 0)]⟩])
   (.block 2 (.loop g68_0)))))
   (.reg 0 [⟨0, some 224, none, .p (.bin .add), [.t 173, .c (.int .i64 1)]⟩,
    ⟨1, some 173, none, .p .mov, [.t 224]⟩])))
def g68 : GL.Fn := ⟨.seq (.reg 0 [⟨0, some 4, none, .p .mov, [.c (.bool false)]⟩])
   (.seq (.seq (.reg 0 [⟨0, some 34, none, .p .mov, [.t 0]⟩,
    ⟨1, some 35, none, .p .len, [.t 34]⟩,
    ⟨2, some 36, none, .p .mov, [.t 1]⟩,
    ⟨3, some 37, none, .p .len, [.t 36]⟩,
    ⟨4, some 38, none, .p (.bin .add), [.t 35, .t 37]⟩,
    ⟨5, some 39, none, .p (.bin .gtr), [.t 38, .c (.int .i64 1048576)]⟩])
   (.cond (.t 39) (.seq (.reg 0 [⟨0, some 4, none, .p .mov, [.c (.bool true)]⟩])
   (.ret))
   (.skip)))
   (.seq (.reg 0 [⟨0, some 41, none, .p .mov, [.t 0]⟩,
    ⟨1, some 42, none, .e .call [] [], [.f 69, .t 41]⟩,
    ⟨2, some 40, none, .p .mov, [.t 42]⟩,
    ⟨3, some 43, none, .p (.extract 0), [.t 40]⟩,
    ⟨4, some 44, none, .p (.extract 1), [.t 40]⟩,
    ⟨5, some 45, none, .p (.extract 2), [.t 40]⟩,
    ⟨6, some 5, none, .p .mov, [.t 43]⟩,
    ⟨7, some 6, none, .p .mov, [.t 44]⟩,
    ⟨8, some 7, none, .p .mov, [.t 45]⟩])
   (.seq (.reg 0 [⟨0, some 47, none, .p .mov, [.t 5]⟩,
    ⟨1, some 48, none, .p .mov, [.t 6]⟩,
    ⟨2, some 49, none, .p .mov, [.t 7]⟩,
    ⟨3, some 50, none, .e .call [] [], [.f 70, .t 47, .t 48, .t 49]⟩,
    ⟨4, some 46, none, .p .mov, [.t 50]⟩,
    ⟨5, some 51, none, .p (.extract 0), [.t 46]⟩,
    ⟨6, some 52, none, .p (.extract 1), [.t 46]⟩,
    ⟨7, some 8, none, .p .mov, [.t 51]⟩,
    ⟨8, some 9, none, .p .mov, [.t 52]⟩])
   (.seq (.reg 0 [⟨0, some 54, none, .p .mov, [.t 5]⟩,
    ⟨1, some 55, none, .p .mov, [.t 6]⟩,
    ⟨2, some 56, none, .p .mov, [.t 7]⟩,
    ⟨3, some 57, none, .e .call [] [], [.f 71, .t 54, .t 55, .t 56]⟩,
    ⟨4, some 53, none, .p .mov, [.t 57]⟩,
    ⟨5, some 58, none, .p (.extract 0), [.t 53]⟩,
    ⟨6, some 59, none, .p (.extract 1), [.t 53]⟩,
    ⟨7, some 10, none, .p .mov, [.t 58]⟩,
    ⟨8, some 11, none, .p .mov, [.t 59]⟩])
   (.seq (.seq (.reg 0 [⟨0, some 60, none, .p .mov, [.t 9]⟩,
    ⟨1, some 61, none, .p .mov, [.t 11]⟩,
    ⟨2, some 62, none, .p (.eqB true), [.t 60, .t 61]⟩,
    ⟨3, some 63, none, .p .mov, [.t 62]⟩,
    ⟨4, some 64, some (63, false), .p .mov, [.t 8]⟩,
    ⟨5, some 65, some (63, false), .p .mov, [.t 10]⟩,
    ⟨6, some 66, some (63, false), .e .call [] [], [.f 61, .t 64, .t 65]⟩,
    ⟨7, some 67, some (63, false), .p (.un .not), [.t 66]⟩,
    ⟨8, some 68, none, .p .pick, [.t 63, .c (.bool true), .t 67]⟩])
   (.cond (.t 68) (.seq (.reg 0 [⟨0, some 4, none, .p .mov, [.c (.bool false)]⟩])
   (.ret))
   (.skip)))
   (.seq (.seq (.reg 0 [⟨0, some 69, none, .p .mov, [.t 9]⟩,
    ⟨1, some 70, none, .p .mov, [.t 69]⟩,
    ⟨2, some 71, some (70, true), .p .mov, [.t 6]⟩,
    ⟨3, some 72, some (70, true), .p .mov, [.t 7]⟩,
    ⟨4, some 73, some (70, true), .p (.bin .leq), [.t 71, .t 72]⟩,
    ⟨5, some 74, none, .p .pick, [.t 70, .t 73, .c (.bool false)]⟩])
   (.cond (.t 74) (.seq (.reg 0 [⟨0, some 75, none, .p .mov, [.t 6]⟩,
    ⟨1, some 76, none, .p .mov, [.t 1]⟩,
    ⟨2, some 77, none, .e .call [] [], [.f 31, .t 76]⟩,
    ⟨3, some 78, none, .p .mov, [.t 7]⟩,
    ⟨4, some 79, none, .p .mov, [.t 6]⟩,
    ⟨5, some 80, none, .p (.bin .sub), [.t 78, .t 79]⟩,
    ⟨6, some 81, none, .p (.bin .add), [.t 80, .c (.int .i64 1)]⟩,
    ⟨7, some 82, none, .p (.bin .rem), [.t 77, .t 81]⟩,
    ⟨8, some 83, none, .p (.bin .add), [.t 75, .t 82]⟩,
    ⟨9, some 12, none, .p .mov, [.t 83]⟩])
   (.seq (.reg 0 [⟨0, some 85, none, .p .mov, [.t 5]⟩,
    ⟨1, some 86, none, .p .mov, [.t 6]⟩,
    ⟨2, some 87, none, .p .mov, [.t 12]⟩,
    ⟨3, some 88, none, .e .call [] [], [.f 70, .t 85, .t 86, .t 87]⟩,
    ⟨4, some 84, none, .p .mov, [.t 88]⟩,
    ⟨5, some 89, none, .p (.extract 0), [.t 84]⟩,
    ⟨6, some 90, none, .p (.extract 1), [.t 84]⟩,
    ⟨7, some 13, none, .p .mov, [.t 89]⟩,
    ⟨8, some 14, none, .p .mov, [.t 90]⟩])
   (.seq (.reg 0 [⟨0, some 92, none, .p .mov, [.t 5]⟩,
    ⟨1, some 93, none, .p .mov, [.t 12]⟩,
    ⟨2, some 94, none, .p (.bin .add), [.t 93, .c (.int .i64 1)]⟩,
    ⟨3, some 95, none, .p .mov, [.t 7]⟩,
    ⟨4, some 96, none, .e .call [] [], [.f 70, .t 92, .t 94, .t 95]⟩,
    ⟨5, some 91, none, .p .mov, [.t 96]⟩,
    ⟨6, some 97, none, .p (.extract 0), [.t 91]⟩,
    ⟨7, some 98, none, .p (.extract 1), [.t 91]⟩,
    ⟨8, some 15, none, .p .mov, [.t 97]⟩,
    ⟨9, some 16, none, .p .mov, [.t 98]⟩])
   (.seq (.reg 0 [⟨0, some 99, none, .p .mov, [.t 14]⟩,
    ⟨1, some 100, none, .p (.un .not), [.t 99]⟩,
    ⟨2, some 101, none, .p .mov, [.t 100]⟩,
    ⟨3, some 102, some (101, false), .p .mov, [.t 16]⟩,
    ⟨4, some 103, some (101, false), .p (.un .not), [.t 102]⟩,
    ⟨5, some 104, none, .p .pick, [.t 101, .c (.bool true), .t 103]⟩,
    ⟨6, some 105, none, .p .mov, [.t 104]⟩,
    ⟨7, some 106, some (105, false), .e (.new (.lit 2)) [] [], []⟩,
    ⟨8, some 107, some (105, false), .p .mov, [.t 13]⟩,
    ⟨9, some 108, some (105, false), .e (.append 2 32) [] [], [.t 106, .t 107]⟩,
    ⟨10, some 109, some (105, false), .p .mov, [.t 15]⟩,
    ⟨11, some 110, some (105, false), .e (.append 2 32) [] [], [.t 108, .t 109]⟩,
    ⟨12, some 111, some (105, false), .p .mov, [.t 8]⟩,
    ⟨13, some 112, some (105, false), .e .call [] [], [.f 61, .t 110, .t 111]⟩,
    ⟨14, some 113, some (105, false), .p (.un .not), [.t 112]⟩,
    ⟨15, some 114, none, .p .pick, [.t 105, .c (.bool true), .t 113]⟩])
   (.cond (.t 114) (.seq (.reg 0 [⟨0, some 4, none, .p .mov, [.c (.bool false)]⟩])
   (.ret))
   (.skip))))))
   (.skip)))
   (.seq (.reg 0 [⟨0, some 116, none, .p .mov, [.t 1]⟩,
    ⟨1, some 117, none, .e .call [] [], [.f 72, .t 116]⟩,
    ⟨2, some 115, none, .p .mov, [.t 117]⟩,
    ⟨3, some 118, none, .p (.extract 0), [.t 115]⟩,
    ⟨4, some 119, none, .p (.extract 1), [.t 115]⟩,
    ⟨5, some 120, none, .p (.extract 2), [.t 115]⟩,
    ⟨6, some 121, none, .p (.extract 3), [.t 115]⟩,
    ⟨7, some 20, none, .l (.alloc 20 [.bool false, .int .i64 0]), []⟩,
    ⟨8, some 17, none, .p .mov, [.t 118]⟩,
    ⟨9, some 18, none, .p .mov, [.t 119]⟩,
    ⟨10, some 19, none, .p .mov, [.t 120]⟩,
    ⟨11, none, none, .l (.store 20 2), [.t 20, .t 121]⟩])
   (.seq (.reg 0 [⟨0, some 123, none, .p .mov, [.t 17]⟩,
    ⟨1, some 124, none, .p .mov, [.t 18]⟩,
    ⟨2, some 125, none, .p .mov, [.t 19]⟩,
    ⟨3, some 126, none, .l (.load 20 true 2), [.t 20]⟩,
    ⟨4, some 127, none, .e .call [] [], [.f 51, .t 123, .t 124, .t 125, .t 126]⟩,
    ⟨5, some 122, none, .p .mov, [.t 127]⟩,
    ⟨6, some 128, none, .p (.extract 0), [.t 122]⟩,
    ⟨7, some 129, none, .p (.extract 1), [.t 122]⟩,
    ⟨8, some 21, none, .p .mov, [.t 128]⟩,
    ⟨9, some 22, none, .p .mov, [.t 129]⟩])
   (.seq (.reg 0 [⟨0, some 131, none, .p .mov, [.t 17]⟩,
    ⟨1, some 132, none, .p .mov, [.t 18]⟩,
    ⟨2, some 133, none, .p .mov, [.t 19]⟩,
    ⟨3, some 134, none, .l (.load 20 true 2), [.t 20]⟩,
    ⟨4, some 135, none, .e .call [] [], [.f 50, .t 131, .t 132, .t 133, .t 134]⟩,
    ⟨5, some 130, none, .p .mov, [.t 135]⟩,
    ⟨6, some 136, none, .p (.extract 0), [.t 130]⟩,
    ⟨7, some 137, none, .p (.extract 1), [.t 130]⟩,
    ⟨8, some 23, none, .p .mov, [.t 136]⟩,
    ⟨9, some 24, none, .p .mov, [.t 137]⟩])
   (.seq (.reg 0 [⟨0, some 138, none, .p .mov, [.t 1]⟩,
    ⟨1, some 139, none, .e .call [] [], [.f 73, .t 138]⟩,
    ⟨2, some 25, none, .p .mov, [.t 139]⟩])
   (.seq (.reg 0 [⟨0, some 141, none, .p .mov, [.t 25]⟩,
    ⟨1, some 142, none, .e .call [] [], [.f 74, .t 141]⟩,
    ⟨2, some 140, none, .p .mov, [.t 142]⟩,
    ⟨3, some 143, none, .p (.extract 0), [.t 140]⟩,
    ⟨4, some 144, none, .p (.extract 1), [.t 140]⟩,
    ⟨5, some 26, none, .p .mov, [.t 143]⟩,
    ⟨6, some 27, none, .p .mov, [.t 144]⟩])
   (.seq (.reg 0 [⟨0, some 146, none, .p .mov, [.t 25]⟩,
    ⟨1, some 147, none, .e .call [] [], [.f 75, .t 146]⟩,
    ⟨2, some 145, none, .p .mov, [.t 147]⟩,
    ⟨3, some 148, none, .p (.extract 0), [.t 145]⟩,
    ⟨4, some 149, none, .p (.extract 1), [.t 145]⟩,
    ⟨5, some 28, none, .p .mov, [.t 148]⟩,
    ⟨6, some 29, none, .p .mov, [.t 149]⟩])
   (.seq (.seq (.reg 0 [⟨0, some 150, none, .p .mov, [.t 22]⟩,
    ⟨1, some 151, none, .p .mov, [.t 24]⟩,
    ⟨2, some 152, none, .p (.eqB true), [.t 150, .t 151]⟩,
    ⟨3, some 153, none, .p .mov, [.t 152]⟩,
    ⟨4, some 154, some (153, false), .p .mov, [.t 21]⟩,
    ⟨5, some 155, some (153, false), .p .mov, [.t 23]⟩,
    ⟨6, some 156, some (153, false), .e .call [] [], [.f 61, .t 154, .t 155]⟩,
    ⟨7, some 157, some (153, false), .p (.un .not), [.t 156]⟩,
    ⟨8, some 158, none, .p .pick, [.t 153, .c (.bool true), .t 157]⟩,
    ⟨9, some 159, none, .p .mov, [.t 158]⟩,
    ⟨10, some 160, some (159, false), .p .mov, [.t 27]⟩,
    ⟨11, some 161, some (159, false), .p .mov, [.t 29]⟩,
    ⟨12, some 162, some (159, false), .p (.eqB true), [.t 160, .t 161]⟩,
    ⟨13, some 163, none, .p .pick, [.t 159, .c (.bool true), .t 162]⟩,
    ⟨14, some 164, none, .p .mov, [.t 163]⟩,
    ⟨15, some 165, some (164, false), .p .mov, [.t 26]⟩,
    ⟨16, some 166, some (164, false), .p .mov, [.t 28]⟩,
    ⟨17, some 167, some (164, false), .e .call [] [], [.f 24, .t 165, .t 166]⟩,
    ⟨18, some 168, some (164, false), .p (.un .not), [.t 167]⟩,
    ⟨19, some 169, none, .p .pick, [.t 164, .c (.bool true), .t 168]⟩])
   (.cond (.t 169) (.seq (.reg 0 [⟨0, some 4, none, .p .mov, [.c (.bool false)]⟩])
   (.ret))
   (.skip)))
   (.seq (.seq (.reg 0 [⟨0, some 170, none, .p .mov, [.t 22]⟩])
   (.cond (.t 170) (.seq (.reg 0 [⟨0, some 171, none, .p .mov, [.t 21]⟩,
    ⟨1, some 172, none, .p .len, [.t 171]⟩,
    ⟨2, some 173, none, .p .mov, [.c (.int .i64 0)]⟩])
   (.block 0 (.loop g68_1)))
   (.skip)))
   (.seq (.reg 0 [⟨0, some 4, none, .p .mov, [.c (.bool true)]⟩])
   (.ret)))))))))))))))),
  [.tmp 4]⟩
/- loop.example/g00641/laws.sameInts -/
def g24_0 : GL.Code := .seq (.reg 0 [⟨0, some 14, none, .p (.bin .lss), [.t 13, .t 12]⟩])
   (.seq (.cond (.t 14) (.skip)
   (.exit 0))
   (.seq (.block 1 (.seq (.reg 0 [⟨0, some 15, none, .p .mov, [.t 13]⟩,
    ⟨1, some 5, none, .p .mov, [.t 15]⟩])
   (.seq (.reg 0 [⟨0, some 16, none, .p .mov, [.t 0]⟩,
    ⟨1, some 17, none, .p .mov, [.t 5]⟩,
    ⟨2, some 18, none, .p (.idx 1), [.t 16, .t 17]⟩,
    ⟨3, some 19, none, .r (.load false 1) false, [.t 18]⟩,
    ⟨4, some 20, none, .p .mov, [.t 1]⟩,
    ⟨5, some 21, none, .p .mov, [.t 5]⟩,
    ⟨6, some 22, none, .p (.idx 1), [.t 20, .t 21]⟩,
    ⟨7, some 23, none, .r (.load false 1) false, [.t 22]⟩,
    ⟨8, some 24, none, .p (.bin .neq), [.t 19, .t 23]⟩])
   (.cond (.t 24) (.seq (.reg 0 [⟨0, some 4, none, .p .mov, [.c (.bool false)]⟩])
   (.ret))
   (.skip)))))
   (.reg 0 [⟨0, some 25, none, .p (.bin .add), [.t 13, .c (.int .i64 1)]⟩,
    ⟨1, some 13, none, .p .mov, [.t 25]⟩])))
def g24 : GL.Fn := ⟨.seq (.reg 0 [⟨0, some 4, none, .p .mov, [.c (.bool false)]⟩])
   (.seq (.seq (.reg 0 [⟨0, some 6, none, .p .mov, [.t 0]⟩,
    ⟨1, some 7, none, .p .len, [.t 6]⟩,
    ⟨2, some 8, none, .p .mov, [.t 1]⟩,
    ⟨3, some 9, none, .p .len, [.t 8]⟩,
    ⟨4, some 10, none, .p (.bin .neq), [.t 7, .t 9]⟩])
   (.cond (.t 10) (.seq (.reg 0 [⟨0, some 4, none, .p .mov, [.c (.bool false)]⟩])
   (.ret))
   (.skip)))
   (.seq (.seq (.reg 0 [⟨0, some 11, none, .p .mov, [.t 0]⟩,
    ⟨1, some 12, none, .p .len, [.t 11]⟩,
    ⟨2, some 13, none, .p .mov, [.c (.int .i64 0)]⟩])
   (.block 0 (.loop g24_0)))
   (.seq (.reg 0 [⟨0, some 4, none, .p .mov, [.c (.bool true)]⟩])
   (.ret)))),
  [.tmp 4]⟩
/- loop.example/g00641/impl.GoodValue -/
def g25 : GL.Fn := ⟨.seq (.reg 0 [⟨0, some 1, none, .l (.box 1 2), [.t 0]⟩,
    ⟨1, some 2, none, .p .mov, [.c (.bool false)]⟩])
   (.seq (.reg 0 [⟨0, some 3, none, .p (.faddr 0), [.t 1]⟩,
    ⟨1, some 4, none, .l (.load 1 false 1), [.t 3]⟩,
    ⟨2, some 5, none, .p .mov, [.t 4]⟩,
    ⟨3, some 6, some (5, true), .p (.faddr 1), [.t 1]⟩,
    ⟨4, some 7, some (5, true), .l (.load 1 false 1), [.t 6]⟩,
    ⟨5, some 8, some (5, true), .p (.bin .eql), [.t 7, .c (.int .i64 0)]⟩,
    ⟨6, some 9, none, .p .pick, [.t 5, .t 8, .c (.bool false)]⟩,
    ⟨7, some 10, none, .p .mov, [.t 9]⟩,
    ⟨8, some 11, some (10, false), .p (.faddr 0), [.t 1]⟩,
    ⟨9, some 12, some (10, false), .l (.load 1 false 1), [.t 11]⟩,
    ⟨10, some 13, some (10, false), .p (.un .not), [.t 12]⟩,
    ⟨11, some 14, some (10, false), .p .mov, [.t 13]⟩,
    ⟨12, some 15, some (14, true), .p (.faddr 1), [.t 1]⟩,
    ⟨13, some 16, some (14, true), .l (.load 1 false 1), [.t 15]⟩,
    ⟨14, some 17, some (14, true), .e .call [] [], [.f 100, .t 16]⟩,
    ⟨15, some 18, some (10, false), .p .pick, [.t 14, .t 17, .c (.bool false)]⟩,
    ⟨16, some 19, none, .p .pick, [.t 10, .c (.bool true), .t 18]⟩,
    ⟨17, some 2, none, .p .mov, [.t 19]⟩])
   (.ret)),
  [.tmp 2]⟩
/- loop.example/g00641/spec.GoodValue -/
def g26 : GL.Fn := ⟨.seq (.reg 0 [⟨0, some 1, none, .l (.box 1 2), [.t 0]⟩,
    ⟨1, some 2, none, .p .mov, [.c (.bool false)]⟩])
   (.seq (.reg 0 [⟨0, some 3, none, .p (.faddr 1), [.t 1]⟩,
    ⟨1, some 4, none, .l (.load 1 false 1), [.t 3]⟩,
    ⟨2, some 5, none, .e .call [] [], [.f 98, .t 4, .c (.int .i64 (-1000)), .c (.int .i64 1000)]⟩,
    ⟨3, some 6, none, .p .mov, [.t 5]⟩,
    ⟨4, some 7, some (6, true), .p (.faddr 0), [.t 1]⟩,
    ⟨5, some 8, some (6, true), .l (.load 1 false 1), [.t 7]⟩,
    ⟨6, some 9, some (6, true), .p (.un .not), [.t 8]⟩,
    ⟨7, some 10, some (6, true), .p .mov, [.t 9]⟩,
    ⟨8, some 11, some (10, false), .p (.faddr 1), [.t 1]⟩,
    ⟨9, some 12, some (10, false), .l (.load 1 false 1), [.t 11]⟩,
    ⟨10, some 13, some (10, false), .p (.bin .eql), [.t 12, .c (.int .i64 0)]⟩,
    ⟨11, some 14, some (6, true), .p .pick, [.t 10, .c (.bool true), .t 13]⟩,
    ⟨12, some 15, none, .p .pick, [.t 6, .t 14, .c (.bool false)]⟩,
    ⟨13, some 2, none, .p .mov, [.t 15]⟩])
   (.ret)),
  [.tmp 2]⟩
/- loop.example/g00641/laws.numberOf -/
def g31_0 : GL.Code := .seq (.reg 0 [⟨0, some 9, none, .p (.bin .lss), [.t 8, .t 7]⟩])
   (.seq (.cond (.t 9) (.skip)
   (.exit 0))
   (.seq (.block 1 (.seq (.reg 0 [⟨0, some 10, none, .p (.idx 1), [.t 6, .t 8]⟩,
    ⟨1, some 11, none, .r (.load false 1) false, [.t 10]⟩,
    ⟨2, some 5, none, .p .mov, [.t 11]⟩])
   (.reg 0 [⟨0, some 12, none, .p .mov, [.t 3]⟩,
    ⟨1, some 13, none, .p (.bin .mul), [.c (.int .i64 31), .t 12]⟩,
    ⟨2, some 14, none, .p .mov, [.t 5]⟩,
    ⟨3, some 15, none, .p (.conv .i64), [.t 14]⟩,
    ⟨4, some 16, none, .p (.bin .add), [.t 13, .t 15]⟩,
    ⟨5, some 17, none, .p (.bin .rem), [.t 16, .c (.int .i64 1000003)]⟩,
    ⟨6, some 3, none, .p .mov, [.t 17]⟩])))
   (.reg 0 [⟨0, some 18, none, .p (.bin .add), [.t 8, .c (.int .i64 1)]⟩,
    ⟨1, some 8, none, .p .mov, [.t 18]⟩])))
def g31 : GL.Fn := ⟨.seq (.reg 0 [⟨0, some 2, none, .p .mov, [.c (.int .i64 0)]⟩])
   (.seq (.reg 0 [⟨0, some 3, none, .p .mov, [.c (.int .i64 0)]⟩])
   (.seq (.seq (.reg 0 [⟨0, some 6, none, .p .mov, [.t 0]⟩,
    ⟨1, some 7, none, .p .len, [.t 6]⟩,
    ⟨2, some 8, none, .p .mov, [.c (.int .i64 0)]⟩])
   (.block 0 (.loop g31_0)))
   (.seq (.reg 0 [⟨0, some 19, none, .p .mov, [.t 3]⟩,
    ⟨1, some 2, none, .p .mov, [.t 19]⟩])
   (.ret)))),
  [.tmp 2]⟩
/- loop.example/g00641/spec.SetColumn -/
def g50 : GL.Fn := ⟨.seq (.reg 0 [⟨0, some 7, none, .l (.box 7 2), [.t 3]⟩,
    ⟨1, some 8, none, .p .mov, [.c (.nils)]⟩,
    ⟨2, some 9, none, .p .mov, [.c (.bool false)]⟩])
   (.seq (.reg 0 [⟨0, some 12, none, .p .mov, [.t 0]⟩,
    ⟨1, some 13, none, .p .mov, [.t 1]⟩,
    ⟨2, some 14, none, .e .call [] [], [.f 110, .t 12, .t 13]⟩,
    ⟨3, some 10, none, .p .mov, [.t 14]⟩])
   (.seq (.seq (.reg 0 [⟨0, some 15, none, .p .mov, [.t 0]⟩,
    ⟨1, some 16, none, .e .call [] [], [.f 63, .t 15]⟩,
    ⟨2, some 17, none, .p (.un .not), [.t 16]⟩,
    ⟨3, some 18, none, .p .mov, [.t 17]⟩,
    ⟨4, some 19, some (18, false), .p .mov, [.t 10]⟩,
    ⟨5, some 20, some (18, false), .p (.bin .lss), [.t 19, .c (.int .i64 0)]⟩,
    ⟨6, some 21, none, .p .pick, [.t 18, .c (.bool true), .t 20]⟩,
    ⟨7, some 22, none, .p .mov, [.t 21]⟩,
    ⟨8, some 23, some (22, false), .p .mov, [.t 2]⟩,
    ⟨9, some 24, some (22, false), .e .call [] [], [.f 98, .t 23, .c (.int .i64 0), .c (.int .i64 2)]⟩,
    ⟨10, some 25, some (22, false), .p (.un .not), [.t 24]⟩,
    ⟨11, some 26, none, .p .pick, [.t 22, .c (.bool true), .t 25]⟩,
    ⟨12, some 27, none, .p .mov, [.t 26]⟩,
    ⟨13, some 28, some (27, false), .l (.load 7 true 2), [.t 7]⟩,
    ⟨14, some 29, some (27, false), .e .call [] [], [.f 26, .t 28]⟩,
    ⟨15, some 30, some (27, false), .p (.un .not), [.t 29]⟩,
    ⟨16, some 31, none, .p .pick, [.t 27, .c (.bool true), .t 30]⟩])
   (.cond (.t 31) (.seq (.reg 0 [⟨0, some 8, none, .p .mov, [.c (.nils)]⟩,
    ⟨1, some 9, none, .p .mov, [.c (.bool false)]⟩])
   (.ret))
   (.skip)))
   (.seq (.reg 0 [⟨0, some 32, none, .p .mov, [.t 0]⟩,
    ⟨1, some 33, none, .e .call [] [], [.f 116, .t 32]⟩,
    ⟨2, some 11, none, .p .mov, [.t 33]⟩])
   (.seq (.reg 0 [⟨0, some 34, none, .p .mov, [.t 11]⟩,
    ⟨1, some 35, none, .p .mov, [.t 10]⟩,
    ⟨2, some 36, none, .p (.idx 2), [.t 34, .t 35]⟩,
    ⟨3, some 37, none, .p (.faddr 1), [.t 36]⟩,
    ⟨4, some 38, none, .r (.load false 1) false, [.t 37]⟩,
    ⟨5, some 39, none, .p .mov, [.t 2]⟩,
    ⟨6, some 40, none, .l (.load 7 true 2), [.t 7]⟩,
    ⟨7, some 41, none, .p (.idx 2), [.t 38, .t 39]⟩,
    ⟨8, none, none, .e (.store 2) [] [], [.t 41, .t 40]⟩])
   (.seq (.reg 0 [⟨0, some 42, none, .p .mov, [.t 11]⟩,
    ⟨1, some 8, none, .p .mov, [.t 42]⟩,
    ⟨2, some 9, none, .p .mov, [.c (.bool true)]⟩])
   (.ret)))))),
  [.tmp 8, .tmp 9]⟩
/- loop.example/g00641/impl.SetColumn -/
def g51 : GL.Fn := ⟨.seq (.reg 0 [⟨0, some 7, none, .l (.box 7 2), [.t 3]⟩,
    ⟨1, some 8, none, .p .mov, [.c (.nils)]⟩,
    ⟨2, some 9, none, .p .mov, [.c (.bool false)]⟩])
   (.seq (.reg 0 [⟨0, some 13, none, .p .mov, [.t 0]⟩,
    ⟨1, some 14, none, .p .mov, [.t 1]⟩,
    ⟨2, some 15, none, .e .call [] [], [.f 64, .t 13, .t 14]⟩,
    ⟨3, some 12, none, .p .mov, [.t 15]⟩,
    ⟨4, some 16, none, .p (.extract 0), [.t 12]⟩,
    ⟨5, some 17, none, .p (.extract 1), [.t 12]⟩,
    ⟨6, some 10, none, .l (.alloc 10 [.int .i64 0, .nils]), []⟩,
    ⟨7, none, none, .l (.store 10 2), [.t 10, .t 16]⟩,
    ⟨8, some 11, none, .p .mov, [.t 17]⟩])
   (.seq (.seq (.reg 0 [⟨0, some 18, none, .p .mov, [.t 11]⟩,
    ⟨1, some 19, none, .p (.un .not), [.t 18]⟩,
    ⟨2, some 20, none, .p .mov, [.t 19]⟩,
    ⟨3, some 21, some (20, false), .p .mov, [.t 2]⟩,
    ⟨4, some 22, some (20, false), .e .call [] [], [.f 107, .t 21, .c (.int .i64 0), .c (.int .i64 2)]⟩,
    ⟨5, some 23, some (20, false), .p (.un .not), [.t 22]⟩,
    ⟨6, some 24, none, .p .pick, [.t 20, .c (.bool true), .t 23]⟩,
    ⟨7, some 25, none, .p .mov, [.t 24]⟩,
    ⟨8, some 26, some (25, false), .l (.load 7 true 2), [.t 7]⟩,
    ⟨9, some 27, some (25, false), .e .call [] [], [.f 25, .t 26]⟩,
    ⟨10, some 28, some (25, false), .p (.un .not), [.t 27]⟩,
    ⟨11, some 29, none, .p .pick, [.t 25, .c (.bool true), .t 28]⟩])
   (.cond (.t 29) (.seq (.reg 0 [⟨0, some 8, none, .p .mov, [.c (.nils)]⟩,
    ⟨1, some 9, none, .p .mov, [.c (.bool false)]⟩])
   (.ret))
   (.skip)))
   (.seq (.reg 0 [⟨0, some 30, none, .p (.faddr 1), [.t 10]⟩,
    ⟨1, some 31, none, .l (.load 10 false 1), [.t 30]⟩,
    ⟨2, some 32, none, .p .mov, [.t 2]⟩,
    ⟨3, some 33, none, .l (.load 7 true 2), [.t 7]⟩,
    ⟨4, some 34, none, .p (.idx 2), [.t 31, .t 32]⟩,
    ⟨5, none, none, .e (.store 2) [] [], [.t 34, .t 33]⟩])
   (.seq (.reg 0 [⟨0, some 35, none, .p .mov, [.t 0]⟩,
    ⟨1, some 36, none, .l (.load 10 true 2), [.t 10]⟩,
    ⟨2, some 37, none, .e .call [] [], [.f 117, .t 35, .t 36]⟩,
    ⟨3, some 38, none, .p (.extract 0), [.t 37]⟩,
    ⟨4, some 39, none, .p (.extract 1), [.t 37]⟩,
    ⟨5, some 8, none, .p .mov, [.t 38]⟩,
    ⟨6, some 9, none, .p .mov, [.t 39]⟩])
   (.ret))))),
  [.tmp 8, .tmp 9]⟩
/- loop.example/g00641/spec.PutRow -/
def g55 : GL.Fn := ⟨.seq (.reg 0 [⟨0, some 3, none, .l (.box 3 2), [.t 1]⟩,
    ⟨1, some 4, none, .p .mov, [.c (.nils)]⟩,
    ⟨2, some 5, none, .p .mov, [.c (.bool false)]⟩])
   (.seq (.seq (.reg 0 [⟨0, some 6, none, .p .mov, [.t 0]⟩,
    ⟨1, some 7, none, .e .call [] [], [.f 63, .t 6]⟩,
    ⟨2, some 8, none, .p (.un .not), [.t 7]⟩,
    ⟨3, some 9, none, .p .mov, [.t 8]⟩,
    ⟨4, some 10, some (9, false), .l (.load 3 true 2), [.t 3]⟩,
    ⟨5, some 11, some (9, false), .e .call [] [], [.f 119, .t 10]⟩,
    ⟨6, some 12, some (9, false), .p (.un .not), [.t 11]⟩,
    ⟨7, some 13, none, .p .pick, [.t 9, .c (.bool true), .t 12]⟩])
   (.cond (.t 13) (.seq (.reg 0 [⟨0, some 4, none, .p .mov, [.c (.nils)]⟩,
    ⟨1, some 5, none, .p .mov, [.c (.bool false)]⟩])
   (.ret))
   (.skip)))
   (.seq (.reg 0 [⟨0, some 14, none, .p .mov, [.t 0]⟩,
    ⟨1, some 15, none, .l (.load 3 true 2), [.t 3]⟩,
    ⟨2, some 16, none, .e .call [] [], [.f 120, .t 14, .t 15]⟩,
    ⟨3, some 17, none, .e .call [] [], [.f 112, .t 16]⟩,
    ⟨4, some 18, none, .p (.extract 0), [.t 17]⟩,
    ⟨5, some 19, none, .p (.extract 1), [.t 17]⟩,
    ⟨6, some 4, none, .p .mov, [.t 18]⟩,
    ⟨7, some 5, none, .p .mov, [.t 19]⟩])
   (.ret))),
  [.tmp 4, .tmp 5]⟩
/- loop.example/g00641/laws.sameTable -/
def g61_0 : GL.Code := .seq (.reg 0 [⟨0, some 14, none, .p (.bin .lss), [.t 13, .t 12]⟩])
   (.seq (.cond (.t 14) (.skip)
   (.exit 0))
   (.seq (.block 1 (.seq (.reg 0 [⟨0, some 15, none, .p .mov, [.t 13]⟩,
    ⟨1, some 5, none, .p .mov, [.t 15]⟩])
   (.seq (.reg 0 [⟨0, some 16, none, .p .mov, [.t 0]⟩,
    ⟨1, some 17, none, .p .mov, [.t 5]⟩,
    ⟨2, some 18, none, .p (.idx 2), [.t 16, .t 17]⟩,
    ⟨3, some 19, none, .r (.load true 2) false, [.t 18]⟩,
    ⟨4, some 20, none, .p .mov, [.t 1]⟩,
    ⟨5, some 21, none, .p .mov, [.t 5]⟩,
    ⟨6, some 22, none, .p (.idx 2), [.t 20, .t 21]⟩,
    ⟨7, some 23, none, .r (.load true 2) false, [.t 22]⟩,
    ⟨8, some 24, none, .e .call [] [], [.f 65, .t 19, .t 23]⟩,
    ⟨9, some 25, none, .p (.un .not), [.t 24]⟩])
   (.cond (.t 25) (.seq (.reg 0 [⟨0, some 4, none, .p .mov, [.c (.bool false)]⟩])
   (.ret))
   (.skip)))))
   (.reg 0 [⟨0, some 26, none, .p (.bin .add), [.t 13, .c (.int .i64 1)]⟩,
    ⟨1, some 13, none, .p .mov, [.t 26]⟩])))
def g61 : GL.Fn := ⟨.seq (.reg 0 [⟨0, some 4, none, .p .mov, [.c (.bool false)]⟩])
   (.seq (.seq (.reg 0 [⟨0, some 6, none, .p .mov, [.t 0]⟩,
    ⟨1, some 7, none, .p .len, [.t 6]⟩,
    ⟨2, some 8, none, .p .mov, [.t 1]⟩,
    ⟨3, some 9, none, .p .len, [.t 8]⟩,
    ⟨4, some 10, none, .p (.bin .neq), [.t 7, .t 9]⟩])
   (.cond (.t 10) (.seq (.reg 0 [⟨0, some 4, none, .p .mov, [.c (.bool false)]⟩])
   (.ret))
   (.skip)))
   (.seq (.seq (.reg 0 [⟨0, some 11, none, .p .mov, [.t 0]⟩,
    ⟨1, some 12, none, .p .len, [.t 11]⟩,
    ⟨2, some 13, none, .p .mov, [.c (.int .i64 0)]⟩])
   (.block 0 (.loop g61_0)))
   (.seq (.reg 0 [⟨0, some 4, none, .p .mov, [.c (.bool true)]⟩])
   (.ret)))),
  [.tmp 4]⟩
/- loop.example/g00641/impl.GoodTable -/
def g62_0 : GL.Code := .seq (.reg 0 [⟨0, some 8, none, .p (.bin .lss), [.t 7, .t 6]⟩])
   (.seq (.cond (.t 8) (.skip)
   (.exit 0))
   (.seq (.block 1 (.seq (.reg 0 [⟨0, some 9, none, .p .mov, [.t 7]⟩,
    ⟨1, some 10, none, .p (.idx 2), [.t 5, .t 7]⟩,
    ⟨2, some 11, none, .r (.load true 2) false, [.t 10]⟩,
    ⟨3, some 4, none, .l (.alloc 4 [.int .i64 0, .nils]), []⟩,
    ⟨4, some 3, none, .p .mov, [.t 9]⟩,
    ⟨5, none, none, .l (.store 4 2), [.t 4, .t 11]⟩])
   (.seq (.reg 0 [⟨0, some 12, none, .l (.load 4 true 2), [.t 4]⟩,
    ⟨1, some 13, none, .e .call [] [], [.f 122, .t 12]⟩,
    ⟨2, some 14, none, .p (.un .not), [.t 13]⟩,
    ⟨3, some 15, none, .p .mov, [.t 14]⟩,
    ⟨4, some 16, some (15, false), .p .mov, [.t 3]⟩,
    ⟨5, some 17, some (15, false), .p (.bin .gtr), [.t 16, .c (.int .i64 0)]⟩,
    ⟨6, some 18, some (15, false), .p .mov, [.t 17]⟩,
    ⟨7, some 19, some (18, true), .p .mov, [.t 0]⟩,
    ⟨8, some 20, some (18, true), .p .mov, [.t 3]⟩,
    ⟨9, some 21, some (18, true), .p (.bin .sub), [.t 20, .c (.int .i64 1)]⟩,
    ⟨10, some 22, some (18, true), .p (.idx 2), [.t 19, .t 21]⟩,
    ⟨11, some 23, some (18, true), .p (.faddr 0), [.t 22]⟩,
    ⟨12, some 24, some (18, true), .r (.load false 1) false, [.t 23]⟩,
    ⟨13, some 25, some (18, true), .p (.faddr 0), [.t 4]⟩,
    ⟨14, some 26, some (18, true), .l (.load 4 false 1), [.t 25]⟩,
    ⟨15, some 27, some (18, true), .p (.bin .geq), [.t 24, .t 26]⟩,
    ⟨16, some 28, some (15, false), .p .pick, [.t 18, .t 27, .c (.bool false)]⟩,
    ⟨17, some 29, none, .p .pick, [.t 15, .c (.bool true), .t 28]⟩])
   (.cond (.t 29) (.seq (.reg 0 [⟨0, some 2, none, .p .mov, [.c (.bool false)]⟩])
   (.ret))
   (.skip)))))
   (.reg 0 [⟨0, some 30, none, .p (.bin .add), [.t 7, .c (.int .i64 1)]⟩,
    ⟨1, some 7, none, .p .mov, [.t 30]⟩])))
def g62 : GL.Fn := ⟨.seq (.reg 0 [⟨0, some 2, none, .p .mov, [.c (.bool false)]⟩])
   (.seq (.seq (.reg 0 [⟨0, some 5, none, .p .mov, [.t 0]⟩,
    ⟨1, some 6, none, .p .len, [.t 5]⟩,
    ⟨2, some 7, none, .p .mov, [.c (.int .i64 0)]⟩])
   (.block 0 (.loop g62_0)))
   (.seq (.reg 0 [⟨0, some 31, none, .p .mov, [.t 0]⟩,
    ⟨1, some 32, none, .p .len, [.t 31]⟩,
    ⟨2, some 33, none, .p (.bin .leq), [.t 32, .c (.int .i64 20)]⟩,
    ⟨3, some 2, none, .p .mov, [.t 33]⟩])
   (.ret))),
  [.tmp 2]⟩
/- loop.example/g00641/spec.GoodTable -/
def g63_0 : GL.Code := .seq (.reg 0 [⟨0, some 8, none, .p (.bin .lss), [.t 7, .t 6]⟩])
   (.seq (.cond (.t 8) (.skip)
   (.exit 0))
   (.seq (.block 1 (.seq (.reg 0 [⟨0, some 9, none, .p .mov, [.t 7]⟩,
    ⟨1, some 10, none, .p (.idx 2), [.t 5, .t 7]⟩,
    ⟨2, some 11, none, .r (.load true 2) false, [.t 10]⟩,
    ⟨3, some 4, none, .l (.alloc 4 [.int .i64 0, .nils]), []⟩,
    ⟨4, some 3, none, .p .mov, [.t 9]⟩,
    ⟨5, none, none, .l (.store 4 2), [.t 4, .t 11]⟩])
   (.seq (.reg 0 [⟨0, some 12, none, .l (.load 4 true 2), [.t 4]⟩,
    ⟨1, some 13, none, .e .call [] [], [.f 119, .t 12]⟩,
    ⟨2, some 14, none, .p (.un .not), [.t 13]⟩,
    ⟨3, some 15, none, .p .mov, [.t 14]⟩,
    ⟨4, some 16, some (15, false), .p .mov, [.t 3]⟩,
    ⟨5, some 17, some (15, false), .p (.bin .gtr), [.t 16, .c (.int .i64 0)]⟩,
    ⟨6, some 18, some (15, false), .p .mov, [.t 17]⟩,
    ⟨7, some 19, some (18, true), .p .mov, [.t 0]⟩,
    ⟨8, some 20, some (18, true), .p .mov, [.t 3]⟩,
    ⟨9, some 21, some (18, true), .p (.bin .sub), [.t 20, .c (.int .i64 1)]⟩,
    ⟨10, some 22, some (18, true), .p (.idx 2), [.t 19, .t 21]⟩,
    ⟨11, some 23, some (18, true), .p (.faddr 0), [.t 22]⟩,
    ⟨12, some 24, some (18, true), .r (.load false 1) false, [.t 23]⟩,
    ⟨13, some 25, some (18, true), .p (.faddr 0), [.t 4]⟩,
    ⟨14, some 26, some (18, true), .l (.load 4 false 1), [.t 25]⟩,
    ⟨15, some 27, some (18, true), .p (.bin .geq), [.t 24, .t 26]⟩,
    ⟨16, some 28, some (15, false), .p .pick, [.t 18, .t 27, .c (.bool false)]⟩,
    ⟨17, some 29, none, .p .pick, [.t 15, .c (.bool true), .t 28]⟩])
   (.cond (.t 29) (.seq (.reg 0 [⟨0, some 2, none, .p .mov, [.c (.bool false)]⟩])
   (.ret))
   (.skip)))))
   (.reg 0 [⟨0, some 30, none, .p (.bin .add), [.t 7, .c (.int .i64 1)]⟩,
    ⟨1, some 7, none, .p .mov, [.t 30]⟩])))
def g63 : GL.Fn := ⟨.seq (.reg 0 [⟨0, some 2, none, .p .mov, [.c (.bool false)]⟩])
   (.seq (.seq (.reg 0 [⟨0, some 5, none, .p .mov, [.t 0]⟩,
    ⟨1, some 6, none, .p .len, [.t 5]⟩,
    ⟨2, some 7, none, .p .mov, [.c (.int .i64 0)]⟩])
   (.block 0 (.loop g63_0)))
   (.seq (.reg 0 [⟨0, some 31, none, .p .mov, [.t 0]⟩,
    ⟨1, some 32, none, .p .len, [.t 31]⟩,
    ⟨2, some 33, none, .p (.bin .leq), [.t 32, .c (.int .i64 20)]⟩,
    ⟨3, some 2, none, .p .mov, [.t 33]⟩])
   (.ret))),
  [.tmp 2]⟩
/- loop.example/g00641/impl.FindRow -/
def g64 : GL.Fn := ⟨.seq (.reg 0 [⟨0, some 4, none, .l (.alloc 4 [.int .i64 0, .nils]), []⟩,
    ⟨1, some 5, none, .p .mov, [.c (.bool false)]⟩])
   (.seq (.seq (.reg 0 [⟨0, some 8, none, .p .mov, [.t 0]⟩,
    ⟨1, some 9, none, .e .call [] [], [.f 62, .t 8]⟩,
    ⟨2, some 10, none, .p (.un .not), [.t 9]⟩,
    ⟨3, some 11, none, .p .mov, [.t 10]⟩,
    ⟨4, some 12, some (11, false), .p .mov, [.t 1]⟩,
    ⟨5, some 13, some (11, false), .e .call [] [], [.f 126, .t 12]⟩,
    ⟨6, some 14, some (11, false), .p (.un .not), [.t 13]⟩,
    ⟨7, some 15, none, .p .pick, [.t 11, .c (.bool true), .t 14]⟩])
   (.cond (.t 15) (.seq (.reg 0 [⟨0, some 16, none, .p (.build [.int .i64 0, .nils] []), []⟩,
    ⟨1, none, none, .l (.store 4 2), [.t 4, .t 16]⟩,
    ⟨2, some 5, none, .p .mov, [.c (.bool false)]⟩])
   (.ret))
   (.skip)))
   (.seq (.reg 0 [⟨0, some 18, none, .p .mov, [.t 0]⟩,
    ⟨1, some 19, none, .p .mov, [.t 1]⟩,
    ⟨2, some 20, none, .e .call [] [], [.f 127, .t 18, .t 19]⟩,
    ⟨3, some 17, none, .p .mov, [.t 20]⟩,
    ⟨4, some 21, none, .p (.extract 0), [.t 17]⟩,
    ⟨5, some 22, none, .p (.extract 1), [.t 17]⟩,
    ⟨6, some 6, none, .p .mov, [.t 21]⟩,
    ⟨7, some 7, none, .p .mov, [.t 22]⟩])
   (.seq (.seq (.reg 0 [⟨0, some 23, none, .p .mov, [.t 7]⟩,
    ⟨1, some 24, none, .p (.un .not), [.t 23]⟩])
   (.cond (.t 24) (.seq (.reg 0 [⟨0, some 25, none, .p (.build [.int .i64 0, .nils] []), []⟩,
    ⟨1, none, none, .l (.store 4 2), [.t 4, .t 25]⟩,
    ⟨2, some 5, none, .p .mov, [.c (.bool false)]⟩])
   (.ret))
   (.skip)))
   (.seq (.reg 0 [⟨0, some 26, none, .p .mov, [.t 0]⟩,
    ⟨1, some 27, none, .p .mov, [.t 6]⟩,
    ⟨2, some 28, none, .p (.idx 2), [.t 26, .t 27]⟩,
    ⟨3, some 29, none, .r (.load true 2) false, [.t 28]⟩,
    ⟨4, some 30, none, .e .call [] [], [.f 128, .t 29]⟩,
    ⟨5, none, none, .l (.store 4 2), [.t 4, .t 30]⟩,
    ⟨6, some 5, none, .p .mov, [.c (.bool true)]⟩])
   (.ret))))),
  [.cellL 4 4 true 2, .tmp 5]⟩
/- loop.example/g00641/laws.sameRow -/
def g65_0 : GL.Code := .seq (.reg 0 [⟨0, some 24, none, .p (.bin .lss), [.t 23, .t 22]⟩])
   (.seq (.cond (.t 24) (.skip)
   (.exit 0))
   (.seq (.block 1 (.seq (.reg 0 [⟨0, some 25, none, .p .mov, [.t 23]⟩,
    ⟨1, some 5, none, .p .mov, [.t 25]⟩])
   (.seq (.reg 0 [⟨0, some 26, none, .p (.faddr 1), [.t 2]⟩,
    ⟨1, some 27, none, .l (.load 2 false 1), [.t 26]⟩,
    ⟨2, some 28, none, .p .mov, [.t 5]⟩,
    ⟨3, some 29, none, .p (.idx 2), [.t 27, .t 28]⟩,
    ⟨4, some 30, none, .r (.load true 2) false, [.t 29]⟩,
    ⟨5, some 31, none, .p (.faddr 1), [.t 3]⟩,
    ⟨6, some 32, none, .l (.load 3 false 1), [.t 31]⟩,
    ⟨7, some 33, none, .p .mov, [.t 5]⟩,
    ⟨8, some 34, none, .p (.idx 2), [.t 32, .t 33]⟩,
    ⟨9, some 35, none, .r (.load true 2) false, [.t 34]⟩,
    ⟨10, some 36, none, .p (.eqAgg true [none, some .i64]), [.t 30, .t 35]⟩])
   (.cond (.t 36) (.seq (.reg 0 [⟨0, some 4, none, .p .mov, [.c (.bool false)]⟩])
   (.ret))
   (.skip)))))
   (.reg 0 [⟨0, some 37, none, .p (.bin .add), [.t 23, .c (.int .i64 1)]⟩,
    ⟨1, some 23, none, .p .mov, [.t 37]⟩])))
def g65 : GL.Fn := ⟨.seq (.reg 0 [⟨0, some 2, none, .l (.box 2 2), [.t 0]⟩,
    ⟨1, some 3, none, .l (.box 3 2), [.t 1]⟩,
    ⟨2, some 4, none, .p .mov, [.c (.bool false)]⟩])
   (.seq (.seq (.reg 0 [⟨0, some 6, none, .p (.faddr 0), [.t 2]⟩,
    ⟨1, some 7, none, .l (.load 2 false 1), [.t 6]⟩,
    ⟨2, some 8, none, .p (.faddr 0), [.t 3]⟩,
    ⟨3, some 9, none, .l (.load 3 false 1), [.t 8]⟩,
    ⟨4, some 10, none, .p (.bin .neq), [.t 7, .t 9]⟩,
    ⟨5, some 11, none, .p .mov, [.t 10]⟩,
    ⟨6, some 12, some (11, false), .p (.faddr 1), [.t 2]⟩,
    ⟨7, some 13, some (11, false), .l (.load 2 false 1), [.t 12]⟩,
    ⟨8, some 14, some (11, false), .p .len, [.t 13]⟩,
    ⟨9, some 15, some (11, false), .p (.faddr 1), [.t 3]⟩,
    ⟨10, some 16, some (11, false), .l (.load 3 false 1), [.t 15]⟩,
    ⟨11, some 17, some (11, false), .p .len, [.t 16]⟩,
    ⟨12, some 18, some (11, false), .p (.bin .neq), [.t 14, .t 17]⟩,
    ⟨13, some 19, none, .p .pick, [.t 11, .c (.bool true), .t 18]⟩])
   (.cond (.t 19) (.seq (.reg 0 [⟨0, some 4, none, .p .mov, [.c (.bool false)]⟩])
   (.ret))
   (.skip)))
   (.seq (.seq (.reg 0 [⟨0, some 20, none, .p (.faddr 1), [.t 2]⟩,
    ⟨1, some 21, none, .l (.load 2 false 1), [.t 20]⟩,
    ⟨2, some 22, none, .p .len, [.t 21]⟩,
    ⟨3, some 23, none, .p .mov, [.c (.int .i64 0)]⟩])
   (.block 0 (.loop g65_0)))
   (.seq (.reg 0 [⟨0, some 4, none, .p .mov, [.c (.bool true)]⟩])
   (.ret)))),
  [.tmp 4]⟩
/- loop.example/g00641/spec.DrawRangeOf -/
def g69 : GL.Fn := ⟨.seq (.reg 0 [⟨0, some 2, none, .p .mov, [.c (.nils)]⟩,
    ⟨1, some 3, none, .p .mov, [.c (.int .i64 0)]⟩,
    ⟨2, some 4, none, .p .mov, [.c (.int .i64 0)]⟩])
   (.seq (.reg 0 [⟨0, some 6, none, .p .mov, [.t 0]⟩,
    ⟨1, some 7, none, .p (.build [.nils, .int .i64 0, .int .u64 0] [(0, 1)]), [.t 6]⟩,
    ⟨2, some 8, none, .e (.new (.box 3)) [] [], [.t 7]⟩,
    ⟨3, some 5, none, .p .mov, [.t 8]⟩])
   (.seq (.reg 0 [⟨0, some 9, none, .p .mov, [.t 5]⟩,
    ⟨1, some 10, none, .e .call [] [], [.f 124, .t 9]⟩,
    ⟨2, some 11, none, .p .mov, [.t 5]⟩,
    ⟨3, some 12, none, .e (.new (.lit 1)) [] [], [.c (.int .i64 (-5)), .c (.int .i64 0), .c (.int .i64 2), .c (.int .i64 4)]⟩,
    ⟨4, some 13, none, .e .call [] [], [.f 93, .t 11, .t 12]⟩,
    ⟨5, some 14, none, .p .mov, [.t 5]⟩,
    ⟨6, some 15, none, .e (.new (.lit 1)) [] [], [.c (.int .i64 (-1)), .c (.int .i64 3), .c (.int .i64 5), .c (.int .i64 999)]⟩,
    ⟨7, some 16, none, .e .call [] [], [.f 93, .t 14, .t 15]⟩,
    ⟨8, some 2, none, .p .mov, [.t 10]⟩,
    ⟨9, some 3, none, .p .mov, [.t 13]⟩,
    ⟨10, some 4, none, .p .mov, [.t 16]⟩])
   (.ret))),
  [.tmp 2, .tmp 3, .tmp 4]⟩
/- loop.example/g00641/impl.RangeOf -/
def g70 : GL.Fn := ⟨.seq (.reg 0 [⟨0, some 4, none, .e (.new (.box 1)) [] [], [.t 1]⟩,
    ⟨1, some 5, none, .e (.new (.box 1)) [] [], [.t 2]⟩,
    ⟨2, some 6, none, .p .mov, [.c (.nils)]⟩,
    ⟨3, some 7, none, .p .mov, [.c (.bool false)]⟩])
   (.seq (.seq (.reg 0 [⟨0, some 8, none, .p .mov, [.t 0]⟩,
    ⟨1, some 9, none, .e .call [] [], [.f 62, .t 8]⟩,
    ⟨2, some 10, none, .p (.un .not), [.t 9]⟩])
   (.cond (.t 10) (.seq (.reg 0 [⟨0, some 6, none, .p .mov, [.c (.nils)]⟩,
    ⟨1, some 7, none, .p .mov, [.c (.bool false)]⟩])
   (.ret))
   (.skip)))
   (.seq (.reg 0 [⟨0, some 11, none, .p .mov, [.t 0]⟩,
    ⟨1, some 12, none, .e .call [] [], [.f 131, .t 11]⟩,
    ⟨2, some 13, none, .p (.mkFn 132), [.t 4, .t 5]⟩,
    ⟨3, some 14, none, .e .call [] [], [.f 133, .t 12, .t 13]⟩,
    ⟨4, some 6, none, .p .mov, [.t 14]⟩,
    ⟨5, some 7, none, .p .mov, [.c (.bool true)]⟩])
   (.ret))),
  [.tmp 6, .tmp 7]⟩
/- loop.example/g00641/spec.RangeOf -/
def g71_0 : GL.Code := .seq (.reg 0 [⟨0, some 17, none, .p (.bin .lss), [.t 16, .t 15]⟩])
   (.seq (.cond (.t 17) (.skip)
   (.exit 0))
   (.seq (.block 1 (.seq (.reg 0 [⟨0, some 18, none, .p (.idx 2), [.t 14, .t 16]⟩,
    ⟨1, some 19, none, .r (.load true 2) false, [.t 18]⟩,
    ⟨2, some 10, none, .l (.alloc 10 [.int .i64 0, .nils]), []⟩,
    ⟨3, none, none, .l (.store 10 2), [.t 10, .t 19]⟩])
   (.seq (.reg 0 [⟨0, some 20, none, .p (.faddr 0), [.t 10]⟩,
    ⟨1, some 21, none, .l (.load 10 false 1), [.t 20]⟩,
    ⟨2, some 22, none, .p .mov, [.t 1]⟩,
    ⟨3, some 23, none, .p .mov, [.t 2]⟩,
    ⟨4, some 24, none, .e .call [] [], [.f 98, .t 21, .t 22, .t 23]⟩])
   (.cond (.t 24) (.reg 0 [⟨0, some 25, none, .p .mov, [.t 8]⟩,
    ⟨1, some 26, none, .l (.load 10 true 2), [.t 10]⟩,
    ⟨2, some 27, none, .e (.new (.lit 2)) [] [], [.t 26]⟩,
    ⟨3, some 28, none, .e (.append 2 32) [] [], [.t 25, .t 27]⟩,
    ⟨4, some 8, none, .p .mov, [.t 28]⟩])
   (.skip)))))
   (.reg 0 [⟨0, some 29, none, .p (.bin .add), [.t 16, .c (.int .i64 1)]⟩,
    ⟨1, some 16, none, .p .mov, [.t 29]⟩])))
def g71 : GL.Fn := ⟨.seq (.reg 0 [⟨0, some 6, none, .p .mov, [.c (.nils)]⟩,
    ⟨1, some 7, none, .p .mov, [.c (.bool false)]⟩])
   (.seq (.seq (.reg 0 [⟨0, some 11, none, .p .mov, [.t 0]⟩,
    ⟨1, some 12, none, .e .call [] [], [.f 63, .t 11]⟩,
    ⟨2, some 13, none, .p (.un .not), [.t 12]⟩])
   (.cond (.t 13) (.seq (.reg 0 [⟨0, some 6, none, .p .mov, [.c (.nils)]⟩,
    ⟨1, some 7, none, .p .mov, [.c (.bool false)]⟩])
   (.ret))
   (.skip)))
   (.seq (.reg 0 [⟨0, some 8, none, .p .mov, [.c (.nils)]⟩])
   (.seq (.seq (.reg 0 [⟨0, some 14, none, .p .mov, [.t 0]⟩,
    ⟨1, some 15, none, .p .len, [.t 14]⟩,
    ⟨2, some 16, none, .p .mov, [.c (.int .i64 0)]⟩])
   (.block 0 (.loop g71_0)))
   (.seq (.reg 0 [⟨0, some 30, none, .p .mov, [.t 8]⟩,
    ⟨1, some 31, none, .e .call [] [], [.f 116, .t 30]⟩,
    ⟨2, some 6, none, .p .mov, [.t 31]⟩,
    ⟨3, some 7, none, .p .mov, [.c (.bool true)]⟩])
   (.ret))))),
  [.tmp 6, .tmp 7]⟩
/- loop.example/g00641/spec.DrawSetColumn -/
def g72 : GL.Fn := ⟨.seq (.reg 0 [⟨0, some 2, none, .p .mov, [.c (.nils)]⟩,
    ⟨1, some 3, none, .p .mov, [.c (.int .i64 0)]⟩,
    ⟨2, some 4, none, .p .mov, [.c (.int .i64 0)]⟩,
    ⟨3, some 5, none, .l (.alloc 5 [.bool false, .int .i64 0]), []⟩])
   (.seq (.reg 0 [⟨0, some 7, none, .p .mov, [.t 0]⟩,
    ⟨1, some 8, none, .p (.build [.nils, .int .i64 0, .int .u64 0] [(0, 1)]), [.t 7]⟩,
    ⟨2, some 9, none, .e (.new (.box 3)) [] [], [.t 8]⟩,
    ⟨3, some 6, none, .p .mov, [.t 9]⟩])
   (.seq (.reg 0 [⟨0, some 10, none, .p .mov, [.t 6]⟩,
    ⟨1, some 11, none, .e .call [] [], [.f 124, .t 10]⟩,
    ⟨2, some 12, none, .p .mov, [.t 6]⟩,
    ⟨3, some 13, none, .e .call [] [], [.f 91, .t 12, .c (.int .i64 8)]⟩,
    ⟨4, some 14, none, .p .mov, [.t 6]⟩,
    ⟨5, some 15, none, .e .call [] [], [.f 91, .t 14, .c (.int .i64 4)]⟩,
    ⟨6, some 16, none, .p .mov, [.t 6]⟩,
    ⟨7, some 17, none, .e .call [] [], [.f 91, .t 16, .c (.int .i64 9)]⟩,
    ⟨8, some 18, none, .p (.bin .quo), [.t 17, .c (.int .i64 8)]⟩,
    ⟨9, some 19, none, .p (.bin .sub), [.t 15, .t 18]⟩,
    ⟨10, some 20, none, .p .mov, [.t 6]⟩,
    ⟨11, some 21, none, .e .call [] [], [.f 95, .t 20]⟩,
    ⟨12, some 2, none, .p .mov, [.t 11]⟩,
    ⟨13, some 3, none, .p .mov, [.t 13]⟩,
    ⟨14, some 4, none, .p .mov, [.t 19]⟩,
    ⟨15, none, none, .l (.store 5 2), [.t 5, .t 21]⟩])
   (.ret))),
  [.tmp 2, .tmp 3, .tmp 4, .cellL 5 5 true 2]⟩
/- loop.example/g00641/spec.DrawKeysOf -/
def g73 : GL.Fn := ⟨.seq (.reg 0 [⟨0, some 2, none, .p .mov, [.c (.nils)]⟩])
   (.seq (.reg 0 [⟨0, some 3, none, .p .mov, [.t 0]⟩,
    ⟨1, some 4, none, .e .call [] [], [.f 134, .t 3]⟩,
    ⟨2, some 2, none, .p .mov, [.t 4]⟩])
   (.ret)),
  [.tmp 2]⟩
/- loop.example/g00641/impl.KeysOf -/
def g74_0 : GL.Code := .seq (.reg 0 [⟨0, some 14, none, .p (.bin .lss), [.t 13, .t 12]⟩])
   (.seq (.cond (.t 14) (.skip)
   (.exit 0))
   (.seq (.block 1 (.seq (.reg 0 [⟨0, some 15, none, .p (.idx 2), [.t 11, .t 13]⟩,
    ⟨1, some 16, none, .r (.load true 2) false, [.t 15]⟩,
    ⟨2, some 6, none, .l (.alloc 6 [.int .i64 0, .nils]), []⟩,
    ⟨3, none, none, .l (.store 6 2), [.t 6, .t 16]⟩])
   (.reg 0 [⟨0, some 17, none, .p .mov, [.t 4]⟩,
    ⟨1, some 18, none, .p (.faddr 0), [.t 6]⟩,
    ⟨2, some 19, none, .l (.load 6 false 1), [.t 18]⟩,
    ⟨3, some 20, none, .e (.new (.lit 1)) [] [], [.t 19]⟩,
    ⟨4, some 21, none, .e (.append 1 8) [] [], [.t 17, .t 20]⟩,
    ⟨5, some 4, none, .p .mov, [.t 21]⟩])))
   (.reg 0 [⟨0, some 22, none, .p (.bin .add), [.t 13, .c (.int .i64 1)]⟩,
    ⟨1, some 13, none, .p .mov, [.t 22]⟩])))
def g74 : GL.Fn := ⟨.seq (.reg 0 [⟨0, some 2, none, .p .mov, [.c (.nils)]⟩,
    ⟨1, some 3, none, .p .mov, [.c (.bool false)]⟩])
   (.seq (.seq (.reg 0 [⟨0, some 7, none, .p .mov, [.t 0]⟩,
    ⟨1, some 8, none, .e .call [] [], [.f 62, .t 7]⟩,
    ⟨2, some 9, none, .p (.un .not), [.t 8]⟩])
   (.cond (.t 9) (.seq (.reg 0 [⟨0, some 2, none, .p .mov, [.c (.nils)]⟩,
    ⟨1, some 3, none, .p .mov, [.c (.bool false)]⟩])
   (.ret))
   (.skip)))
   (.seq (.reg 0 [⟨0, some 10, none, .e (.new (.lit 1)) [] [], []⟩,
    ⟨1, some 4, none, .p .mov, [.t 10]⟩])
   (.seq (.seq (.reg 0 [⟨0, some 11, none, .p .mov, [.t 0]⟩,
    ⟨1, some 12, none, .p .len, [.t 11]⟩,
    ⟨2, some 13, none, .p .mov, [.c (.int .i64 0)]⟩])
   (.block 0 (.loop g74_0)))
   (.seq (.reg 0 [⟨0, some 23, none, .p .mov, [.t 4]⟩,
    ⟨1, some 2, none, .p .mov, [.t 23]⟩,
    ⟨2, some 3, none, .p .mov, [.c (.bool true)]⟩])
   (.ret))))),
  [.tmp 2, .tmp 3]⟩
/- loop.example/g00641/spec.KeysOf -/
def g75_0 : GL.Code := .seq (.reg 0 [⟨0, some 13, none, .p (.bin .lss), [.t 12, .t 11]⟩])
   (.seq (.cond (.t 13) (.skip)
   (.exit 0))
   (.seq (.block 1 (.seq (.reg 0 [⟨0, some 14, none, .p (.idx 2), [.t 10, .t 12]⟩,
    ⟨1, some 15, none, .r (.load true 2) false, [.t 14]⟩,
    ⟨2, some 6, none, .l (.alloc 6 [.int .i64 0, .nils]), []⟩,
    ⟨3, none, none, .l (.store 6 2), [.t 6, .t 15]⟩])
   (.reg 0 [⟨0, some 16, none, .p .mov, [.t 4]⟩,
    ⟨1, some 17, none, .p (.faddr 0), [.t 6]⟩,
    ⟨2, some 18, none, .l (.load 6 false 1), [.t 17]⟩,
    ⟨3, some 19, none, .e (.new (.lit 1)) [] [], [.t 18]⟩,
    ⟨4, some 20, none, .e (.append 1 8) [] [], [.t 16, .t 19]⟩,
    ⟨5, some 4, none, .p .mov, [.t 20]⟩])))
   (.reg 0 [⟨0, some 21, none, .p (.bin .add), [.t 12, .c (.int .i64 1)]⟩,
    ⟨1, some 12, none, .p .mov, [.t 21]⟩])))
def g75 : GL.Fn := ⟨.seq (.reg 0 [⟨0, some 2, none, .p .mov, [.c (.nils)]⟩,
    ⟨1, some 3, none, .p .mov, [.c (.bool false)]⟩])
   (.seq (.seq (.reg 0 [⟨0, some 7, none, .p .mov, [.t 0]⟩,
    ⟨1, some 8, none, .e .call [] [], [.f 63, .t 7]⟩,
    ⟨2, some 9, none, .p (.un .not), [.t 8]⟩])
   (.cond (.t 9) (.seq (.reg 0 [⟨0, some 2, none, .p .mov, [.c (.nils)]⟩,
    ⟨1, some 3, none, .p .mov, [.c (.bool false)]⟩])
   (.ret))
   (.skip)))
   (.seq (.reg 0 [⟨0, some 4, none, .p .mov, [.c (.nils)]⟩])
   (.seq (.seq (.reg 0 [⟨0, some 10, none, .p .mov, [.t 0]⟩,
    ⟨1, some 11, none, .p .len, [.t 10]⟩,
    ⟨2, some 12, none, .p .mov, [.c (.int .i64 0)]⟩])
   (.block 0 (.loop g75_0)))
   (.seq (.reg 0 [⟨0, some 22, none, .p .mov, [.t 4]⟩,
    ⟨1, some 2, none, .p .mov, [.t 22]⟩,
    ⟨2, some 3, none, .p .mov, [.c (.bool true)]⟩])
   (.ret))))),
  [.tmp 2, .tmp 3]⟩
/- (*loop.example/g00641/spec.l1Cur).pick -/
def g91 : GL.Fn := ⟨.seq (.reg 0 [⟨0, some 4, none, .p .mov, [.c (.int .i64 0)]⟩])
   (.seq (.seq (.reg 0 [⟨0, some 6, none, .p .mov, [.t 1]⟩,
    ⟨1, some 7, none, .p (.bin .leq), [.t 6, .c (.int .i64 1)]⟩])
   (.cond (.t 7) (.seq (.reg 0 [⟨0, some 4, none, .p .mov, [.c (.int .i64 0)]⟩])
   (.ret))
   (.skip)))
   (.seq (.reg 0 [⟨0, some 8, none, .p .mov, [.t 0]⟩,
    ⟨1, some 9, none, .e .call [] [], [.f 140, .t 8]⟩,
    ⟨2, some 5, none, .p .mov, [.t 9]⟩])
   (.seq (.seq (.reg 0 [⟨0, some 10, none, .p .mov, [.t 1]⟩,
    ⟨1, some 11, none, .p (.bin .gtr), [.t 10, .c (.int .i64 200)]⟩])
   (.cond (.t 11) (.reg 0 [⟨0, some 12, none, .p .mov, [.t 5]⟩,
    ⟨1, some 13, none, .p (.bin .mul), [.t 12, .c (.int .i64 256)]⟩,
    ⟨2, some 14, none, .p .mov, [.t 0]⟩,
    ⟨3, some 15, none, .e .call [] [], [.f 140, .t 14]⟩,
    ⟨4, some 16, none, .p (.bin .add), [.t 13, .t 15]⟩,
    ⟨5, some 5, none, .p .mov, [.t 16]⟩])
   (.skip)))
   (.seq (.reg 0 [⟨0, some 17, none, .p .mov, [.t 5]⟩,
    ⟨1, some 18, none, .p .mov, [.t 1]⟩,
    ⟨2, some 19, none, .p (.bin .rem), [.t 17, .t 18]⟩,
    ⟨3, some 4, none, .p .mov, [.t 19]⟩])
   (.ret))))),
  [.tmp 4]⟩
/- (*loop.example/g00641/spec.l1Cur).one -/
def g92 : GL.Fn := ⟨.seq (.reg 0 [⟨0, some 4, none, .p .mov, [.c (.bool false)]⟩])
   (.seq (.reg 0 [⟨0, some 5, none, .p .mov, [.t 0]⟩,
    ⟨1, some 6, none, .p .mov, [.t 1]⟩,
    ⟨2, some 7, none, .e .call [] [], [.f 91, .t 5, .t 6]⟩,
    ⟨3, some 8, none, .p (.bin .eql), [.t 7, .c (.int .i64 0)]⟩,
    ⟨4, some 4, none, .p .mov, [.t 8]⟩])
   (.ret)),
  [.tmp 4]⟩
/- (*loop.example/g00641/spec.l1Cur).among -/
def g93 : GL.Fn := ⟨.seq (.reg 0 [⟨0, some 4, none, .p .mov, [.c (.int .i64 0)]⟩])
   (.seq (.reg 0 [⟨0, some 5, none, .p .mov, [.t 1]⟩,
    ⟨1, some 6, none, .p .mov, [.t 0]⟩,
    ⟨2, some 7, none, .p .mov, [.t 1]⟩,
    ⟨3, some 8, none, .p .len, [.t 7]⟩,
    ⟨4, some 9, none, .e .call [] [], [.f 91, .t 6, .t 8]⟩,
    ⟨5, some 10, none, .p (.idx 1), [.t 5, .t 9]⟩,
    ⟨6, some 11, none, .r (.load false 1) false, [.t 10]⟩,
    ⟨7, some 4, none, .p .mov, [.t 11]⟩])
   (.ret)),
  [.tmp 4]⟩
/- (*loop.example/g00641/spec.l1Cur).value -/
def g95 : GL.Fn := ⟨.seq (.reg 0 [⟨0, some 2, none, .l (.alloc 2 [.bool false, .int .i64 0]), []⟩])
   (.seq (.seq (.reg 0 [⟨0, some 3, none, .p .mov, [.t 0]⟩,
    ⟨1, some 4, none, .e .call [] [], [.f 92, .t 3, .c (.int .i64 4)]⟩])
   (.cond (.t 4) (.seq (.reg 0 [⟨0, some 5, none, .p (.build [.bool false, .int .i64 0] [(0, 1)]), [.c (.bool true)]⟩,
    ⟨1, none, none, .l (.store 2 2), [.t 2, .t 5]⟩])
   (.ret))
   (.skip)))
   (.seq (.seq (.reg 0 [⟨0, some 6, none, .p .mov, [.t 0]⟩,
    ⟨1, some 7, none, .e .call [] [], [.f 92, .t 6, .c (.int .i64 30)]⟩])
   (.cond (.t 7) (.seq (.reg 0 [⟨0, some 8, none, .p .mov, [.t 0]⟩,
    ⟨1, some 9, none, .e .call [] [], [.f 92, .t 8, .c (.int .i64 2)]⟩,
    ⟨2, some 10, none, .p .mov, [.t 0]⟩,
    ⟨3, some 11, none, .e (.new (.lit 1)) [] [], [.c (.int .i64 (-1001)), .c (.int .i64 (-1000)), .c (.int .i64 1000), .c (.int .i64 1001)]⟩,
    ⟨4, some 12, none, .e .call [] [], [.f 93, .t 10, .t 11]⟩,
    ⟨5, some 13, none, .p (.build [.bool false, .int .i64 0] [(0, 1), (1, 1)]), [.t 9, .t 12]⟩,
    ⟨6, none, none, .l (.store 2 2), [.t 2, .t 13]⟩])
   (.ret))
   (.skip)))
   (.seq (.reg 0 [⟨0, some 14, none, .p .mov, [.t 0]⟩,
    ⟨1, some 15, none, .e .call [] [], [.f 91, .t 14, .c (.int .i64 6)]⟩,
    ⟨2, some 16, none, .p (.bin .sub), [.t 15, .c (.int .i64 1)]⟩,
    ⟨3, some 17, none, .p (.build [.bool false, .int .i64 0] [(1, 1)]), [.t 16]⟩,
    ⟨4, none, none, .l (.store 2 2), [.t 2, .t 17]⟩])
   (.ret)))),
  [.cellL 2 2 true 2]⟩
/- loop.example/g00641/spec.l1In -/
def g98 : GL.Fn := ⟨.seq (.reg 0 [⟨0, some 6, none, .p .mov, [.c (.bool false)]⟩])
   (.seq (.reg 0 [⟨0, some 7, none, .p .mov, [.t 0]⟩,
    ⟨1, some 8, none, .p .mov, [.t 1]⟩,
    ⟨2, some 9, none, .p (.bin .geq), [.t 7, .t 8]⟩,
    ⟨3, some 10, none, .p .mov, [.t 9]⟩,
    ⟨4, some 11, some (10, true), .p .mov, [.t 0]⟩,
    ⟨5, some 12, some (10, true), .p .mov, [.t 2]⟩,
    ⟨6, some 13, some (10, true), .p (.bin .leq), [.t 11, .t 12]⟩,
    ⟨7, some 14, none, .p .pick, [.t 10, .t 13, .c (.bool false)]⟩,
    ⟨8, some 6, none, .p .mov, [.t 14]⟩])
   (.ret)),
  [.tmp 6]⟩
/- loop.example/g00641/impl.isSmall -/
def g100 : GL.Fn := ⟨.seq (.reg 0 [⟨0, some 2, none, .p .mov, [.c (.bool false)]⟩])
   (.seq (.reg 0 [⟨0, some 3, none, .p .mov, [.t 0]⟩,
    ⟨1, some 4, none, .e .call [] [], [.f 107, .t 3, .c (.int .i64 (-1000)), .c (.int .i64 1000)]⟩,
    ⟨2, some 2, none, .p .mov, [.t 4]⟩])
   (.ret)),
  [.tmp 2]⟩
/- loop.example/g00641/impl.areValues -/
def g102_0 : GL.Code := .seq (.reg 0 [⟨0, some 8, none, .p (.bin .lss), [.t 7, .t 6]⟩])
   (.seq (.cond (.t 8) (.skip)
   (.exit 0))
   (.seq (.block 1 (.seq (.reg 0 [⟨0, some 9, none, .p (.idx 2), [.t 5, .t 7]⟩,
    ⟨1, some 10, none, .r (.load true 2) false, [.t 9]⟩,
    ⟨2, some 4, none, .l (.alloc 4 [.bool false, .int .i64 0]), []⟩,
    ⟨3, none, none, .l (.store 4 2), [.t 4, .t 10]⟩])
   (.seq (.reg 0 [⟨0, some 11, none, .l (.load 4 true 2), [.t 4]⟩,
    ⟨1, some 12, none, .e .call [] [], [.f 25, .t 11]⟩,
    ⟨2, some 13, none, .p (.un .not), [.t 12]⟩])
   (.cond (.t 13) (.seq (.reg 0 [⟨0, some 2, none, .p .mov, [.c (.bool false)]⟩])
   (.ret))
   (.skip)))))
   (.reg 0 [⟨0, some 14, none, .p (.bin .add), [.t 7, .c (.int .i64 1)]⟩,
    ⟨1, some 7, none, .p .mov, [.t 14]⟩])))
def g102 : GL.Fn := ⟨.seq (.reg 0 [⟨0, some 2, none, .p .mov, [.c (.bool false)]⟩])
   (.seq (.seq (.reg 0 [⟨0, some 5, none, .p .mov, [.t 0]⟩,
    ⟨1, some 6, none, .p .len, [.t 5]⟩,
    ⟨2, some 7, none, .p .mov, [.c (.int .i64 0)]⟩])
   (.block 0 (.loop g102_0)))
   (.seq (.reg 0 [⟨0, some 2, none, .p .mov, [.c (.bool true)]⟩])
   (.ret))),
  [.tmp 2]⟩
/- loop.example/g00641/impl.within -/
def g107 : GL.Fn := ⟨.seq (.reg 0 [⟨0, some 6, none, .p .mov, [.c (.bool false)]⟩])
   (.seq (.reg 0 [⟨0, some 7, none, .p .mov, [.t 0]⟩,
    ⟨1, some 8, none, .p .mov, [.t 1]⟩,
    ⟨2, some 9, none, .p (.bin .geq), [.t 7, .t 8]⟩,
    ⟨3, some 10, none, .p .mov, [.t 9]⟩,
    ⟨4, some 11, some (10, true), .p .mov, [.t 0]⟩,
    ⟨5, some 12, some (10, true), .p .mov, [.t 2]⟩,
    ⟨6, some 13, some (10, true), .p (.bin .leq), [.t 11, .t 12]⟩,
    ⟨7, some 14, none, .p .pick, [.t 10, .t 13, .c (.bool false)]⟩,
    ⟨8, some 6, none, .p .mov, [.t 14]⟩])
   (.ret)),
  [.tmp 6]⟩
/- loop.example/g00641/spec.l2Find -/
def g110_0 : GL.Code := .seq (.reg 0 [⟨0, some 10, none, .p (.bin .lss), [.t 9, .t 8]⟩])
   (.seq (.cond (.t 10) (.skip)
   (.exit 0))
   (.seq (.block 1 (.seq (.reg 0 [⟨0, some 11, none, .p .mov, [.t 9]⟩,
    ⟨1, some 12, none, .p (.idx 2), [.t 7, .t 9]⟩,
    ⟨2, some 13, none, .r (.load true 2) false, [.t 12]⟩,
    ⟨3, some 6, none, .l (.alloc 6 [.int .i64 0, .nils]), []⟩,
    ⟨4, some 5, none, .p .mov, [.t 11]⟩,
    ⟨5, none, none, .l (.store 6 2), [.t 6, .t 13]⟩])
   (.seq (.reg 0 [⟨0, some 14, none, .p (.faddr 0), [.t 6]⟩,
    ⟨1, some 15, none, .l (.load 6 false 1), [.t 14]⟩,
    ⟨2, some 16, none, .p .mov, [.t 1]⟩,
    ⟨3, some 17, none, .p (.bin .eql), [.t 15, .t 16]⟩])
   (.cond (.t 17) (.seq (.reg 0 [⟨0, some 18, none, .p .mov, [.t 5]⟩,
    ⟨1, some 4, none, .p .mov, [.t 18]⟩])
   (.ret))
   (.skip)))))
   (.reg 0 [⟨0, some 19, none, .p (.bin .add), [.t 9, .c (.int .i64 1)]⟩,
    ⟨1, some 9, none, .p .mov, [.t 19]⟩])))
def g110 : GL.Fn := ⟨.seq (.reg 0 [⟨0, some 4, none, .p .mov, [.c (.int .i64 0)]⟩])
   (.seq (.seq (.reg 0 [⟨0, some 7, none, .p .mov, [.t 0]⟩,
    ⟨1, some 8, none, .p .len, [.t 7]⟩,
    ⟨2, some 9, none, .p .mov, [.c (.int .i64 0)]⟩])
   (.block 0 (.loop g110_0)))
   (.seq (.reg 0 [⟨0, some 4, none, .p .mov, [.c (.int .i64 (-1))]⟩])
   (.ret))),
  [.tmp 4]⟩
/- loop.example/g00641/spec.l2Tell -/
def g112 : GL.Fn := ⟨.seq (.reg 0 [⟨0, some 2, none, .p .mov, [.c (.nils)]⟩,
    ⟨1, some 3, none, .p .mov, [.c (.bool false)]⟩])
   (.seq (.seq (.reg 0 [⟨0, some 4, none, .p .mov, [.t 0]⟩,
    ⟨1, some 5, none, .e .call [] [], [.f 63, .t 4]⟩,
    ⟨2, some 6, none, .p (.un .not), [.t 5]⟩])
   (.cond (.t 6) (.seq (.reg 0 [⟨0, some 2, none, .p .mov, [.c (.nils)]⟩,
    ⟨1, some 3, none, .p .mov, [.c (.bool false)]⟩])
   (.ret))
   (.skip)))
   (.seq (.reg 0 [⟨0, some 7, none, .p .mov, [.t 0]⟩,
    ⟨1, some 8, none, .e .call [] [], [.f 116, .t 7]⟩,
    ⟨2, some 2, none, .p .mov, [.t 8]⟩,
    ⟨3, some 3, none, .p .mov, [.c (.bool true)]⟩])
   (.ret))),
  [.tmp 2, .tmp 3]⟩
/- loop.example/g00641/spec.l2Drop -/
def g111_0 : GL.Code := .seq (.reg 0 [⟨0, some 11, none, .p (.bin .lss), [.t 10, .t 9]⟩])
   (.seq (.cond (.t 11) (.skip)
   (.exit 0))
   (.seq (.block 1 (.seq (.reg 0 [⟨0, some 12, none, .p (.idx 2), [.t 8, .t 10]⟩,
    ⟨1, some 13, none, .r (.load true 2) false, [.t 12]⟩,
    ⟨2, some 7, none, .l (.alloc 7 [.int .i64 0, .nils]), []⟩,
    ⟨3, none, none, .l (.store 7 2), [.t 7, .t 13]⟩])
   (.seq (.reg 0 [⟨0, some 14, none, .p (.faddr 0), [.t 7]⟩,
    ⟨1, some 15, none, .l (.load 7 false 1), [.t 14]⟩,
    ⟨2, some 16, none, .p .mov, [.t 1]⟩,
    ⟨3, some 17, none, .p (.bin .neq), [.t 15, .t 16]⟩])
   (.cond (.t 17) (.reg 0 [⟨0, some 18, none, .p .mov, [.t 5]⟩,
    ⟨1, some 19, none, .l (.load 7 true 2), [.t 7]⟩,
    ⟨2, some 20, none, .e (.new (.lit 2)) [] [], [.t 19]⟩,
    ⟨3, some 21, none, .e (.append 2 32) [] [], [.t 18, .t 20]⟩,
    ⟨4, some 5, none, .p .mov, [.t 21]⟩])
   (.skip)))))
   (.reg 0 [⟨0, some 22, none, .p (.bin .add), [.t 10, .c (.int .i64 1)]⟩,
    ⟨1, some 10, none, .p .mov, [.t 22]⟩])))
def g111 : GL.Fn := ⟨.seq (.reg 0 [⟨0, some 4, none, .p .mov, [.c (.nils)]⟩])
   (.seq (.reg 0 [⟨0, some 5, none, .p .mov, [.c (.nils)]⟩])
   (.seq (.seq (.reg 0 [⟨0, some 8, none, .p .mov, [.t 0]⟩,
    ⟨1, some 9, none, .p .len, [.t 8]⟩,
    ⟨2, some 10, none, .p .mov, [.c (.int .i64 0)]⟩])
   (.block 0 (.loop g111_0)))
   (.seq (.reg 0 [⟨0, some 23, none, .p .mov, [.t 5]⟩,
    ⟨1, some 4, none, .p .mov, [.t 23]⟩])
   (.ret)))),
  [.tmp 4]⟩
/- loop.example/g00641/spec.l2Own -/
def g116_0 : GL.Code := .seq (.reg 0 [⟨0, some 9, none, .p (.bin .lss), [.t 8, .t 7]⟩])
   (.seq (.cond (.t 9) (.skip)
   (.exit 0))
   (.seq (.block 1 (.seq (.reg 0 [⟨0, some 10, none, .p (.idx 2), [.t 6, .t 8]⟩,
    ⟨1, some 11, none, .r (.load true 2) false, [.t 10]⟩,
    ⟨2, some 5, none, .l (.alloc 5 [.int .i64 0, .nils]), []⟩,
    ⟨3, none, none, .l (.store 5 2), [.t 5, .t 11]⟩])
   (.reg 0 [⟨0, some 12, none, .p .mov, [.t 3]⟩,
    ⟨1, some 13, none, .l (.load 5 true 2), [.t 5]⟩,
    ⟨2, some 14, none, .e .call [] [], [.f 130, .t 13]⟩,
    ⟨3, some 15, none, .e (.new (.lit 2)) [] [], [.t 14]⟩,
    ⟨4, some 16, none, .e (.append 2 32) [] [], [.t 12, .t 15]⟩,
    ⟨5, some 3, none, .p .mov, [.t 16]⟩])))
   (.reg 0 [⟨0, some 17, none, .p (.bin .add), [.t 8, .c (.int .i64 1)]⟩,
    ⟨1, some 8, none, .p .mov, [.t 17]⟩])))
def g116 : GL.Fn := ⟨.seq (.reg 0 [⟨0, some 2, none, .p .mov, [.c (.nils)]⟩])
   (.seq (.reg 0 [⟨0, some 3, none, .p .mov, [.c (.nils)]⟩])
   (.seq (.seq (.reg 0 [⟨0, some 6, none, .p .mov, [.t 0]⟩,
    ⟨1, some 7, none, .p .len, [.t 6]⟩,
    ⟨2, some 8, none, .p .mov, [.c (.int .i64 0)]⟩])
   (.block 0 (.loop g116_0)))
   (.seq (.reg 0 [⟨0, some 18, none, .p .mov, [.t 3]⟩,
    ⟨1, some 2, none, .p .mov, [.t 18]⟩])
   (.ret)))),
  [.tmp 2]⟩
/- loop.example/g00641/impl.put -/
def g117 : GL.Fn := ⟨.seq (.reg 0 [⟨0, some 3, none, .l (.box 3 2), [.t 1]⟩,
    ⟨1, some 4, none, .p .mov, [.c (.nils)]⟩,
    ⟨2, some 5, none, .p .mov, [.c (.bool false)]⟩])
   (.seq (.reg 0 [⟨0, some 9, none, .p .mov, [.t 0]⟩,
    ⟨1, some 10, none, .e .call [] [], [.f 131, .t 9]⟩,
    ⟨2, some 6, none, .p .mov, [.t 10]⟩])
   (.seq (.reg 0 [⟨0, some 12, none, .p .mov, [.t 6]⟩,
    ⟨1, some 13, none, .p (.faddr 0), [.t 3]⟩,
    ⟨2, some 14, none, .l (.load 3 false 1), [.t 13]⟩,
    ⟨3, some 15, none, .e .call [] [], [.f 127, .t 12, .t 14]⟩,
    ⟨4, some 11, none, .p .mov, [.t 15]⟩,
    ⟨5, some 16, none, .p (.extract 0), [.t 11]⟩,
    ⟨6, some 17, none, .p (.extract 1), [.t 11]⟩,
    ⟨7, some 7, none, .p .mov, [.t 16]⟩,
    ⟨8, some 8, none, .p .mov, [.t 17]⟩])
   (.seq (.seq (.reg 0 [⟨0, some 18, none, .p .mov, [.t 8]⟩])
   (.cond (.t 18) (.reg 0 [⟨0, some 19, none, .p .mov, [.t 6]⟩,
    ⟨1, some 20, none, .p .mov, [.t 7]⟩,
    ⟨2, some 21, none, .l (.load 3 true 2), [.t 3]⟩,
    ⟨3, some 22, none, .e .call [] [], [.f 128, .t 21]⟩,
    ⟨4, some 23, none, .p (.idx 2), [.t 19, .t 20]⟩,
    ⟨5, none, none, .e (.store 2) [] [], [.t 23, .t 22]⟩])
   (.reg 0 [⟨0, some 24, none, .p .mov, [.t 6]⟩,
    ⟨1, some 25, none, .p .mov, [.t 7]⟩,
    ⟨2, some 26, none, .l (.load 3 true 2), [.t 3]⟩,
    ⟨3, some 27, none, .e .call [] [], [.f 128, .t 26]⟩,
    ⟨4, some 28, none, .e (.new (.lit 2)) [] [], [.t 27]⟩,
    ⟨5, some 29, none, .e .call [] [], [.f 145, .t 24, .t 25, .t 28]⟩,
    ⟨6, some 6, none, .p .mov, [.t 29]⟩])))
   (.seq (.seq (.reg 0 [⟨0, some 30, none, .p .mov, [.t 6]⟩,
    ⟨1, some 31, none, .p .len, [.t 30]⟩,
    ⟨2, some 32, none, .p (.bin .gtr), [.t 31, .c (.int .i64 20)]⟩])
   (.cond (.t 32) (.seq (.reg 0 [⟨0, some 4, none, .p .mov, [.c (.nils)]⟩,
    ⟨1, some 5, none, .p .mov, [.c (.bool false)]⟩])
   (.ret))
   (.skip)))
   (.seq (.reg 0 [⟨0, some 33, none, .p .mov, [.t 6]⟩,
    ⟨1, some 4, none, .p .mov, [.t 33]⟩,
    ⟨2, some 5, none, .p .mov, [.c (.bool true)]⟩])
   (.ret)))))),
  [.tmp 4, .tmp 5]⟩
/- loop.example/g00641/spec.l2Row -/
def g119_0 : GL.Code := .seq (.reg 0 [⟨0, some 9, none, .p (.bin .lss), [.t 8, .t 7]⟩])
   (.seq (.cond (.t 9) (.skip)
   (.exit 0))
   (.seq (.block 1 (.seq (.reg 0 [⟨0, some 10, none, .p (.idx 2), [.t 6, .t 8]⟩,
    ⟨1, some 11, none, .r (.load true 2) false, [.t 10]⟩,
    ⟨2, some 4, none, .l (.alloc 4 [.bool false, .int .i64 0]), []⟩,
    ⟨3, none, none, .l (.store 4 2), [.t 4, .t 11]⟩])
   (.seq (.reg 0 [⟨0, some 12, none, .l (.load 4 true 2), [.t 4]⟩,
    ⟨1, some 13, none, .e .call [] [], [.f 26, .t 12]⟩,
    ⟨2, some 14, none, .p (.un .not), [.t 13]⟩])
   (.cond (.t 14) (.seq (.reg 0 [⟨0, some 2, none, .p .mov, [.c (.bool false)]⟩])
   (.ret))
   (.skip)))))
   (.reg 0 [⟨0, some 15, none, .p (.bin .add), [.t 8, .c (.int .i64 1)]⟩,
    ⟨1, some 8, none, .p .mov, [.t 15]⟩])))
def g119 : GL.Fn := ⟨.seq (.reg 0 [⟨0, some 1, none, .l (.box 1 2), [.t 0]⟩,
    ⟨1, some 2, none, .p .mov, [.c (.bool false)]⟩])
   (.seq (.seq (.reg 0 [⟨0, some 5, none, .p (.faddr 1), [.t 1]⟩,
    ⟨1, some 6, none, .l (.load 1 false 1), [.t 5]⟩,
    ⟨2, some 7, none, .p .len, [.t 6]⟩,
    ⟨3, some 8, none, .p .mov, [.c (.int .i64 0)]⟩])
   (.block 0 (.loop g119_0)))
   (.seq (.reg 0 [⟨0, some 16, none, .p (.faddr 0), [.t 1]⟩,
    ⟨1, some 17, none, .l (.load 1 false 1), [.t 16]⟩,
    ⟨2, some 18, none, .e .call [] [], [.f 98, .t 17, .c (.int .i64 0), .c (.int .i64 999)]⟩,
    ⟨3, some 19, none, .p .mov, [.t 18]⟩,
    ⟨4, some 20, some (19, true), .p (.faddr 1), [.t 1]⟩,
    ⟨5, some 21, some (19, true), .l (.load 1 false 1), [.t 20]⟩,
    ⟨6, some 22, some (19, true), .p .len, [.t 21]⟩,
    ⟨7, some 23, some (19, true), .p (.bin .eql), [.t 22, .c (.int .i64 3)]⟩,
    ⟨8, some 24, none, .p .pick, [.t 19, .t 23, .c (.bool false)]⟩,
    ⟨9, some 2, none, .p .mov, [.t 24]⟩])
   (.ret))),
  [.tmp 2]⟩
/- loop.example/g00641/spec.l2Put -/
def g120_0 : GL.Code := .seq (.seq (.reg 0 [⟨0, some 11, none, .p .mov, [.t 5]⟩,
    ⟨1, some 12, none, .p .mov, [.t 0]⟩,
    ⟨2, some 13, none, .p .len, [.t 12]⟩,
    ⟨3, some 14, none, .p (.bin .lss), [.t 11, .t 13]⟩,
    ⟨4, some 15, none, .p .mov, [.t 14]⟩,
    ⟨5, some 16, some (15, true), .p .mov, [.t 0]⟩,
    ⟨6, some 17, some (15, true), .p .mov, [.t 5]⟩,
    ⟨7, some 18, some (15, true), .p (.idx 2), [.t 16, .t 17]⟩,
    ⟨8, some 19, some (15, true), .p (.faddr 0), [.t 18]⟩,
    ⟨9, some 20, some (15, true), .r (.load false 1) false, [.t 19]⟩,
    ⟨10, some 21, some (15, true), .p (.faddr 0), [.t 3]⟩,
    ⟨11, some 22, some (15, true), .l (.load 3 false 1), [.t 21]⟩,
    ⟨12, some 23, some (15, true), .p (.bin .lss), [.t 20, .t 22]⟩,
    ⟨13, some 24, none, .p .pick, [.t 15, .t 23, .c (.bool false)]⟩])
   (.cond (.t 24) (.skip)
   (.exit 0)))
   (.block 1 (.reg 0 [⟨0, some 25, none, .p .mov, [.t 5]⟩,
    ⟨1, some 26, none, .p (.bin .add), [.t 25, .c (.int .i64 1)]⟩,
    ⟨2, some 5, none, .p .mov, [.t 26]⟩]))
def g120 : GL.Fn := ⟨.seq (.reg 0 [⟨0, some 3, none, .l (.box 3 2), [.t 1]⟩,
    ⟨1, some 4, none, .p .mov, [.c (.nils)]⟩])
   (.seq (.reg 0 [⟨0, some 7, none, .p .mov, [.t 0]⟩,
    ⟨1, some 8, none, .p (.faddr 0), [.t 3]⟩,
    ⟨2, some 9, none, .l (.load 3 false 1), [.t 8]⟩,
    ⟨3, some 10, none, .e .call [] [], [.f 111, .t 7, .t 9]⟩,
    ⟨4, some 0, none, .p .mov, [.t 10]⟩])
   (.seq (.reg 0 [⟨0, some 5, none, .p .mov, [.c (.int .i64 0)]⟩])
   (.seq (.block 0 (.loop g120_0))
   (.seq (.reg 0 [⟨0, some 27, none, .e (.new (.lit 2)) [] [], []⟩,
    ⟨1, some 28, none, .p .mov, [.t 0]⟩,
    ⟨2, some 29, none, .p .mov, [.t 5]⟩,
    ⟨3, some 30, none, .p (.slice 2 false true false), [.t 28, .t 29]⟩,
    ⟨4, some 31, none, .e (.append 2 32) [] [], [.t 27, .t 30]⟩,
    ⟨5, some 6, none, .p .mov, [.t 31]⟩])
   (.seq (.reg 0 [⟨0, some 32, none, .p .mov, [.t 6]⟩,
    ⟨1, some 33, none, .l (.load 3 true 2), [.t 3]⟩,
    ⟨2, some 34, none, .e (.new (.lit 2)) [] [], [.t 33]⟩,
    ⟨3, some 35, none, .e (.append 2 32) [] [], [.t 32, .t 34]⟩,
    ⟨4, some 6, none, .p .mov, [.t 35]⟩])
   (.seq (.reg 0 [⟨0, some 36, none, .p .mov, [.t 6]⟩,
    ⟨1, some 37, none, .p .mov, [.t 0]⟩,
    ⟨2, some 38, none, .p .mov, [.t 5]⟩,
    ⟨3, some 39, none, .p (.slice 2 true false false), [.t 37, .t 38]⟩,
    ⟨4, some 40, none, .e (.append 2 32) [] [], [.t 36, .t 39]⟩,
    ⟨5, some 4, none, .p .mov, [.t 40]⟩])
   (.ret))))))),
  [.tmp 4]⟩
/- loop.example/g00641/impl.isRow -/
def g122 : GL.Fn := ⟨.seq (.reg 0 [⟨0, some 1, none, .l (.box 1 2), [.t 0]⟩,
    ⟨1, some 2, none, .p .mov, [.c (.bool false)]⟩])
   (.seq (.reg 0 [⟨0, some 3, none, .p (.faddr 0), [.t 1]⟩,
    ⟨1, some 4, none, .l (.load 1 false 1), [.t 3]⟩,
    ⟨2, some 5, none, .e .call [] [], [.f 126, .t 4]⟩,
    ⟨3, some 6, none, .p .mov, [.t 5]⟩,
    ⟨4, some 7, some (6, true), .p (.faddr 1), [.t 1]⟩,
    ⟨5, some 8, some (6, true), .l (.load 1 false 1), [.t 7]⟩,
    ⟨6, some 9, some (6, true), .p .len, [.t 8]⟩,
    ⟨7, some 10, some (6, true), .p (.bin .eql), [.t 9, .c (.int .i64 3)]⟩,
    ⟨8, some 11, none, .p .pick, [.t 6, .t 10, .c (.bool false)]⟩,
    ⟨9, some 12, none, .p .mov, [.t 11]⟩,
    ⟨10, some 13, some (12, true), .p (.faddr 1), [.t 1]⟩,
    ⟨11, some 14, some (12, true), .l (.load 1 false 1), [.t 13]⟩,
    ⟨12, some 15, some (12, true), .e .call [] [], [.f 102, .t 14]⟩,
    ⟨13, some 16, none, .p .pick, [.t 12, .t 15, .c (.bool false)]⟩,
    ⟨14, some 2, none, .p .mov, [.t 16]⟩])
   (.ret)),
  [.tmp 2]⟩
/- (*loop.example/g00641/spec.l1Cur).table -/
def g124_0 : GL.Code := .seq (.seq (.reg 0 [⟨0, some 13, none, .p .mov, [.t 5]⟩,
    ⟨1, some 14, none, .p .mov, [.t 4]⟩,
    ⟨2, some 15, none, .p (.bin .lss), [.t 13, .t 14]⟩])
   (.cond (.t 15) (.skip)
   (.exit 0)))
   (.seq (.block 1 (.seq (.reg 0 [⟨0, some 18, none, .p .mov, [.t 0]⟩,
    ⟨1, some 19, none, .e .call [] [], [.f 125, .t 18]⟩,
    ⟨2, some 6, none, .l (.alloc 6 [.int .i64 0, .nils]), []⟩,
    ⟨3, none, none, .l (.store 6 2), [.t 6, .t 19]⟩])
   (.seq (.seq (.reg 0 [⟨0, some 20, none, .p .mov, [.t 4]⟩,
    ⟨1, some 21, none, .p (.bin .eql), [.t 20, .c (.int .i64 20)]⟩])
   (.cond (.t 21) (.reg 0 [⟨0, some 22, none, .p .mov, [.t 5]⟩,
    ⟨1, some 23, none, .p (.faddr 0), [.t 6]⟩,
    ⟨2, none, none, .l (.store 6 1), [.t 23, .t 22]⟩])
   (.skip)))
   (.seq (.reg 0 [⟨0, some 25, none, .p .mov, [.t 3]⟩,
    ⟨1, some 26, none, .l (.load 6 true 2), [.t 6]⟩,
    ⟨2, some 27, none, .e .call [] [], [.f 55, .t 25, .t 26]⟩,
    ⟨3, some 24, none, .p .mov, [.t 27]⟩,
    ⟨4, some 28, none, .p (.extract 0), [.t 24]⟩,
    ⟨5, some 29, none, .p (.extract 1), [.t 24]⟩,
    ⟨6, some 7, none, .p .mov, [.t 28]⟩,
    ⟨7, some 8, none, .p .mov, [.t 29]⟩])
   (.seq (.reg 0 [⟨0, some 30, none, .p .mov, [.t 8]⟩])
   (.cond (.t 30) (.reg 0 [⟨0, some 31, none, .p .mov, [.t 7]⟩,
    ⟨1, some 3, none, .p .mov, [.t 31]⟩])
   (.skip)))))))
   (.reg 0 [⟨0, some 16, none, .p .mov, [.t 5]⟩,
    ⟨1, some 17, none, .p (.bin .add), [.t 16, .c (.int .i64 1)]⟩,
    ⟨2, some 5, none, .p .mov, [.t 17]⟩]))
def g124 : GL.Fn := ⟨.seq (.reg 0 [⟨0, some 2, none, .p .mov, [.c (.nils)]⟩])
   (.seq (.reg 0 [⟨0, some 3, none, .p .mov, [.c (.nils)]⟩])
   (.seq (.reg 0 [⟨0, some 9, none, .p .mov, [.t 0]⟩,
    ⟨1, some 10, none, .e .call [] [], [.f 91, .t 9, .c (.int .i64 7)]⟩,
    ⟨2, some 4, none, .p .mov, [.t 10]⟩])
   (.seq (.seq (.reg 0 [⟨0, some 11, none, .p .mov, [.t 0]⟩,
    ⟨1, some 12, none, .e .call [] [], [.f 92, .t 11, .c (.int .i64 20)]⟩])
   (.cond (.t 12) (.reg 0 [⟨0, some 4, none, .p .mov, [.c (.int .i64 20)]⟩])
   (.skip)))
   (.seq (.seq (.reg 0 [⟨0, some 5, none, .p .mov, [.c (.int .i64 0)]⟩])
   (.block 0 (.loop g124_0)))
   (.seq (.seq (.reg 0 [⟨0, some 32, none, .p .mov, [.t 3]⟩,
    ⟨1, some 33, none, .p .len, [.t 32]⟩,
    ⟨2, some 34, none, .p (.bin .gtr), [.t 33, .c (.int .i64 0)]⟩,
    ⟨3, some 35, none, .p .mov, [.t 34]⟩,
    ⟨4, some 36, some (35, true), .p .mov, [.t 0]⟩,
    ⟨5, some 37, some (35, true), .e .call [] [], [.f 92, .t 36, .c (.int .i64 30)]⟩,
    ⟨6, some 38, none, .p .pick, [.t 35, .t 37, .c (.bool false)]⟩])
   (.cond (.t 38) (.reg 0 [⟨0, some 39, none, .p .mov, [.t 3]⟩,
    ⟨1, some 40, none, .p .mov, [.t 3]⟩,
    ⟨2, some 41, none, .p .len, [.t 40]⟩,
    ⟨3, some 42, none, .p (.bin .sub), [.t 41, .c (.int .i64 1)]⟩,
    ⟨4, some 43, none, .p .mov, [.t 0]⟩,
    ⟨5, some 44, none, .e (.new (.lit 1)) [] [], [.c (.int .i64 0), .c (.int .i64 999), .c (.int .i64 1000)]⟩,
    ⟨6, some 45, none, .e .call [] [], [.f 93, .t 43, .t 44]⟩,
    ⟨7, some 46, none, .p (.idx 2), [.t 39, .t 42]⟩,
    ⟨8, some 47, none, .p (.faddr 0), [.t 46]⟩,
    ⟨9, none, none, .e (.store 1) [] [], [.t 47, .t 45]⟩])
   (.skip)))
   (.seq (.reg 0 [⟨0, some 48, none, .p .mov, [.t 3]⟩,
    ⟨1, some 2, none, .p .mov, [.t 48]⟩])
   (.ret))))))),
  [.tmp 2]⟩
/- (*loop.example/g00641/spec.l1Cur).row -/
def g125 : GL.Fn := ⟨.seq (.reg 0 [⟨0, some 2, none, .l (.alloc 2 [.int .i64 0, .nils]), []⟩])
   (.seq (.reg 0 [⟨0, some 4, none, .p .mov, [.t 0]⟩,
    ⟨1, some 5, none, .e .call [] [], [.f 91, .t 4, .c (.int .i64 8)]⟩,
    ⟨2, some 6, none, .p .mov, [.t 0]⟩,
    ⟨3, some 7, none, .e .call [] [], [.f 143, .t 6]⟩,
    ⟨4, some 8, none, .p .mov, [.t 0]⟩,
    ⟨5, some 9, none, .e .call [] [], [.f 143, .t 8]⟩,
    ⟨6, some 10, none, .p .mov, [.t 0]⟩,
    ⟨7, some 11, none, .e .call [] [], [.f 143, .t 10]⟩,
    ⟨8, some 12, none, .e (.new (.lit 2)) [] [], [.t 7, .t 9, .t 11]⟩,
    ⟨9, some 13, none, .p (.build [.int .i64 0, .nils] [(0, 1), (1, 1)]), [.t 5, .t 12]⟩,
    ⟨10, some 3, none, .l (.alloc 3 [.int .i64 0, .nils]), []⟩,
    ⟨11, none, none, .l (.store 3 2), [.t 3, .t 13]⟩])
   (.seq (.seq (.reg 0 [⟨0, some 14, none, .p .mov, [.t 0]⟩,
    ⟨1, some 15, none, .e .call [] [], [.f 91, .t 14, .c (.int .i64 40)]⟩])
   (.block 0 (.seq (.reg 0 [⟨0, some 17, none, .p (.bin .eql), [.t 15, .c (.int .i64 0)]⟩,
    ⟨1, some 16, none, .p .mov, [.t 17]⟩])
   (.cond (.t 16) (.reg 0 [⟨0, some 18, none, .p .mov, [.t 0]⟩,
    ⟨1, some 19, none, .e (.new (.lit 1)) [] [], [.c (.int .i64 (-1)), .c (.int .i64 999), .c (.int .i64 1000)]⟩,
    ⟨2, some 20, none, .e .call [] [], [.f 93, .t 18, .t 19]⟩,
    ⟨3, some 21, none, .p (.faddr 0), [.t 3]⟩,
    ⟨4, none, none, .l (.store 3 1), [.t 21, .t 20]⟩])
   (.seq (.reg 0 [⟨0, some 23, none, .p (.bin .eql), [.t 15, .c (.int .i64 1)]⟩,
    ⟨1, some 22, none, .p .mov, [.t 23]⟩])
   (.cond (.t 22) (.reg 0 [⟨0, some 24, none, .p (.faddr 1), [.t 3]⟩,
    ⟨1, some 25, none, .l (.load 3 false 1), [.t 24]⟩,
    ⟨2, some 26, none, .p .mov, [.t 0]⟩,
    ⟨3, some 27, none, .e .call [] [], [.f 95, .t 26]⟩,
    ⟨4, some 28, none, .p (.idx 2), [.t 25, .c (.int .i64 0)]⟩,
    ⟨5, none, none, .e (.store 2) [] [], [.t 28, .t 27]⟩])
   (.seq (.reg 0 [⟨0, some 30, none, .p (.bin .eql), [.t 15, .c (.int .i64 2)]⟩,
    ⟨1, some 29, none, .p .mov, [.t 30]⟩])
   (.cond (.t 29) (.reg 0 [⟨0, some 31, none, .p (.faddr 1), [.t 3]⟩,
    ⟨1, some 32, none, .l (.load 3 false 1), [.t 31]⟩,
    ⟨2, some 33, none, .p (.slice 2 true false false), [.t 32, .c (.int .i64 1)]⟩,
    ⟨3, some 34, none, .p (.faddr 1), [.t 3]⟩,
    ⟨4, none, none, .l (.store 3 1), [.t 34, .t 33]⟩])
   (.skip)))))))))
   (.seq (.reg 0 [⟨0, some 35, none, .l (.load 3 true 2), [.t 3]⟩,
    ⟨1, none, none, .l (.store 2 2), [.t 2, .t 35]⟩])
   (.ret)))),
  [.cellL 2 2 true 2]⟩
/- loop.example/g00641/impl.isKey -/
def g126 : GL.Fn := ⟨.seq (.reg 0 [⟨0, some 2, none, .p .mov, [.c (.bool false)]⟩])
   (.seq (.reg 0 [⟨0, some 3, none, .p .mov, [.t 0]⟩,
    ⟨1, some 4, none, .e .call [] [], [.f 107, .t 3, .c (.int .i64 0), .c (.int .i64 999)]⟩,
    ⟨2, some 2, none, .p .mov, [.t 4]⟩])
   (.ret)),
  [.tmp 2]⟩
/- loop.example/g00641/impl.place -/
def g127 : GL.Fn := ⟨.seq (.reg 0 [⟨0, some 4, none, .p .mov, [.c (.int .i64 0)]⟩,
    ⟨1, some 5, none, .p .mov, [.c (.bool false)]⟩])
   (.seq (.reg 0 [⟨0, some 6, none, .p .mov, [.t 0]⟩,
    ⟨1, some 7, none, .p .mov, [.t 1]⟩,
    ⟨2, some 8, none, .e .call [] [], [.f 147, .t 6, .t 7, .f 148]⟩,
    ⟨3, some 9, none, .p (.extract 0), [.t 8]⟩,
    ⟨4, some 10, none, .p (.extract 1), [.t 8]⟩,
    ⟨5, some 4, none, .p .mov, [.t 9]⟩,
    ⟨6, some 5, none, .p .mov, [.t 10]⟩])
   (.ret)),
  [.tmp 4, .tmp 5]⟩
/- (loop.example/g00641/impl.Row).cloned -/
def g128 : GL.Fn := ⟨.seq (.reg 0 [⟨0, some 1, none, .l (.box 1 2), [.t 0]⟩,
    ⟨1, some 2, none, .l (.alloc 2 [.int .i64 0, .nils]), []⟩])
   (.seq (.reg 0 [⟨0, some 3, none, .p (.faddr 0), [.t 1]⟩,
    ⟨1, some 4, none, .l (.load 1 false 1), [.t 3]⟩,
    ⟨2, some 5, none, .p (.faddr 1), [.t 1]⟩,
    ⟨3, some 6, none, .l (.load 1 false 1), [.t 5]⟩,
    ⟨4, some 7, none, .e .call [] [], [.f 149, .t 6]⟩,
    ⟨5, some 8, none, .p (.build [.int .i64 0, .nils] [(0, 1), (1, 1)]), [.t 4, .t 7]⟩,
    ⟨6, none, none, .l (.store 2 2), [.t 2, .t 8]⟩])
   (.ret)),
  [.cellL 2 2 true 2]⟩
/- loop.example/g00641/spec.l2Copy -/
def g130 : GL.Fn := ⟨.seq (.reg 0 [⟨0, some 1, none, .l (.box 1 2), [.t 0]⟩,
    ⟨1, some 2, none, .l (.alloc 2 [.int .i64 0, .nils]), []⟩])
   (.seq (.reg 0 [⟨0, some 3, none, .p (.faddr 0), [.t 1]⟩,
    ⟨1, some 4, none, .l (.load 1 false 1), [.t 3]⟩,
    ⟨2, some 5, none, .e (.new (.lit 2)) [] [], []⟩,
    ⟨3, some 6, none, .p (.faddr 1), [.t 1]⟩,
    ⟨4, some 7, none, .l (.load 1 false 1), [.t 6]⟩,
    ⟨5, some 8, none, .e (.append 2 16) [] [], [.t 5, .t 7]⟩,
    ⟨6, some 9, none, .p (.build [.int .i64 0, .nils] [(0, 1), (1, 1)]), [.t 4, .t 8]⟩,
    ⟨7, none, none, .l (.store 2 2), [.t 2, .t 9]⟩])
   (.ret)),
  [.cellL 2 2 true 2]⟩
/- slices.DeleteFunc[[]loop.example/g00641/impl.Row,loop.example/g00641/impl.Row] -/
def g133_0 : GL.Code := .seq (.seq (.reg 0 [⟨0, some 16, none, .p .mov, [.t 6]⟩,
    ⟨1, some 17, none, .p .mov, [.t 0]⟩,
    ⟨2, some 18, none, .p .len, [.t 17]⟩,
    ⟨3, some 19, none, .p (.bin .lss), [.t 16, .t 18]⟩])
   (.cond (.t 19) (.skip)
   (.exit 0)))
   (.seq (.block 1 (.seq (.reg 0 [⟨0, some 22, none, .p .mov, [.t 0]⟩,
    ⟨1, some 23, none, .p .mov, [.t 6]⟩,
    ⟨2, some 24, none, .p (.idx 2), [.t 22, .t 23]⟩,
    ⟨3, some 25, none, .r (.load true 2) false, [.t 24]⟩,
    ⟨4, some 7, none, .l (.alloc 7 [.int .i64 0, .nils]), []⟩,
    ⟨5, none, none, .l (.store 7 2), [.t 7, .t 25]⟩])
   (.seq (.reg 0 [⟨0, some 26, none, .p .mov, [.t 1]⟩,
    ⟨1, some 27, none, .l (.load 7 true 2), [.t 7]⟩,
    ⟨2, some 28, none, .e .call [] [], [.t 26, .t 27]⟩,
    ⟨3, some 29, none, .p (.un .not), [.t 28]⟩])
   (.cond (.t 29) (.seq (.reg 0 [⟨0, some 30, none, .p .mov, [.t 0]⟩,
    ⟨1, some 31, none, .p .mov, [.t 5]⟩,
    ⟨2, some 32, none, .l (.load 7 true 2), [.t 7]⟩,
    ⟨3, some 33, none, .p (.idx 2), [.t 30, .t 31]⟩,
    ⟨4, none, none, .e (.store 2) [] [], [.t 33, .t 32]⟩])
   (.reg 0 [⟨0, some 34, none, .p .mov, [.t 5]⟩,
    ⟨1, some 35, none, .p (.bin .add), [.t 34, .c (.int .i64 1)]⟩,
    ⟨2, some 5, none, .p .mov, [.t 35]⟩]))
   (.skip)))))
   (.reg 0 [⟨0, some 20, none, .p .mov, [.t 6]⟩,
    ⟨1, some 21, none, .p (.bin .add), [.t 20, .c (.int .i64 1)]⟩,
    ⟨2, some 6, none, .p .mov, [.t 21]⟩]))
def g133 : GL.Fn := ⟨.seq (.reg 0 [⟨0, some 4, none, .p .mov, [.c (.nils)]⟩])
   (.seq (.reg 0 [⟨0, some 8, none, .p .mov, [.t 0]⟩,
    ⟨1, some 9, none, .p .mov, [.t 1]⟩,
    ⟨2, some 10, none, .e .call [] [], [.f 150, .t 8, .t 9]⟩,
    ⟨3, some 5, none, .p .mov, [.t 10]⟩])
   (.seq (.seq (.reg 0 [⟨0, some 11, none, .p .mov, [.t 5]⟩,
    ⟨1, some 12, none, .p (.bin .eql), [.t 11, .c (.int .i64 (-1))]⟩])
   (.cond (.t 12) (.seq (.reg 0 [⟨0, some 13, none, .p .mov, [.t 0]⟩,
    ⟨1, some 4, none, .p .mov, [.t 13]⟩])
   (.ret))
   (.skip)))
   (.seq (.seq (.reg 0 [⟨0, some 14, none, .p .mov, [.t 5]⟩,
    ⟨1, some 15, none, .p (.bin .add), [.t 14, .c (.int .i64 1)]⟩,
    ⟨2, some 6, none, .p .mov, [.t 15]⟩])
   (.block 0 (.loop g133_0)))
   (.seq (.reg 0 [⟨0, some 36, none, .p .mov, [.t 0]⟩,
    ⟨1, some 37, none, .p .mov, [.t 5]⟩,
    ⟨2, some 38, none, .p (.slice 2 true false false), [.t 36, .t 37]⟩,
    ⟨3, none, none, .e (.clear 2 [.int .i64 0, .nils]) [] [], [.t 38]⟩])
   (.seq (.reg 0 [⟨0, some 39, none, .p .mov, [.t 0]⟩,
    ⟨1, some 40, none, .p .mov, [.t 5]⟩,
    ⟨2, some 41, none, .p (.slice 2 false true false), [.t 39, .t 40]⟩,
    ⟨3, some 4, none, .p .mov, [.t 41]⟩])
   (.ret)))))),
  [.tmp 4]⟩
/- loop.example/g00641/impl.clonedRows -/
def g131_0 : GL.Code := .seq (.reg 0 [⟨0, some 10, none, .p (.bin .lss), [.t 9, .t 8]⟩])
   (.seq (.cond (.t 10) (.skip)
   (.exit 0))
   (.seq (.block 1 (.seq (.reg 0 [⟨0, some 11, none, .p (.idx 2), [.t 7, .t 9]⟩,
    ⟨1, some 12, none, .r (.load true 2) false, [.t 11]⟩,
    ⟨2, some 5, none, .l (.alloc 5 [.int .i64 0, .nils]), []⟩,
    ⟨3, none, none, .l (.store 5 2), [.t 5, .t 12]⟩])
   (.reg 0 [⟨0, some 13, none, .p .mov, [.t 3]⟩,
    ⟨1, some 14, none, .l (.load 5 true 2), [.t 5]⟩,
    ⟨2, some 15, none, .e .call [] [], [.f 128, .t 14]⟩,
    ⟨3, some 16, none, .e (.new (.lit 2)) [] [], [.t 15]⟩,
    ⟨4, some 17, none, .e (.append 2 32) [] [], [.t 13, .t 16]⟩,
    ⟨5, some 3, none, .p .mov, [.t 17]⟩])))
   (.reg 0 [⟨0, some 18, none, .p (.bin .add), [.t 9, .c (.int .i64 1)]⟩,
    ⟨1, some 9, none, .p .mov, [.t 18]⟩])))
def g131 : GL.Fn := ⟨.seq (.reg 0 [⟨0, some 2, none, .p .mov, [.c (.nils)]⟩])
   (.seq (.reg 0 [⟨0, some 6, none, .e (.new (.lit 2)) [] [], []⟩,
    ⟨1, some 3, none, .p .mov, [.t 6]⟩])
   (.seq (.seq (.reg 0 [⟨0, some 7, none, .p .mov, [.t 0]⟩,
    ⟨1, some 8, none, .p .len, [.t 7]⟩,
    ⟨2, some 9, none, .p .mov, [.c (.int .i64 0)]⟩])
   (.block 0 (.loop g131_0)))
   (.seq (.reg 0 [⟨0, some 19, none, .p .mov, [.t 3]⟩,
    ⟨1, some 2, none, .p .mov, [.t 19]⟩])
   (.ret)))),
  [.tmp 2]⟩
/- loop.example/g00641/impl.RangeOf$1 -/
def g132 : GL.Fn := ⟨.seq (.reg 0 [⟨0, some 3, none, .l (.box 3 2), [.t 0]⟩,
    ⟨1, some 4, none, .p .mov, [.c (.bool false)]⟩])
   (.seq (.reg 0 [⟨0, some 5, none, .p (.faddr 0), [.t 3]⟩,
    ⟨1, some 6, none, .l (.load 3 false 1), [.t 5]⟩,
    ⟨2, some 7, none, .r (.load false 1) false, [.t 1]⟩,
    ⟨3, some 8, none, .p (.bin .lss), [.t 6, .t 7]⟩,
    ⟨4, some 9, none, .p .mov, [.t 8]⟩,
    ⟨5, some 10, some (9, false), .p (.faddr 0), [.t 3]⟩,
    ⟨6, some 11, some (9, false), .l (.load 3 false 1), [.t 10]⟩,
    ⟨7, some 12, some (9, false), .r (.load false 1) false, [.t 2]⟩,
    ⟨8, some 13, some (9, false), .p (.bin .gtr), [.t 11, .t 12]⟩,
    ⟨9, some 14, none, .p .pick, [.t 9, .c (.bool true), .t 13]⟩,
    ⟨10, some 4, none, .p .mov, [.t 14]⟩])
   (.ret)),
  [.tmp 4]⟩
/- loop.example/g00641/spec.DrawGoodTable -/
def g134 : GL.Fn := ⟨.seq (.reg 0 [⟨0, some 2, none, .p .mov, [.c (.nils)]⟩])
   (.seq (.reg 0 [⟨0, some 4, none, .p .mov, [.t 0]⟩,
    ⟨1, some 5, none, .p (.build [.nils, .int .i64 0, .int .u64 0] [(0, 1)]), [.t 4]⟩,
    ⟨2, some 6, none, .e (.new (.box 3)) [] [], [.t 5]⟩,
    ⟨3, some 3, none, .p .mov, [.t 6]⟩])
   (.seq (.reg 0 [⟨0, some 7, none, .p .mov, [.t 3]⟩,
    ⟨1, some 8, none, .e .call [] [], [.f 124, .t 7]⟩,
    ⟨2, some 2, none, .p .mov, [.t 8]⟩])
   (.ret))),
  [.tmp 2]⟩
/- (*loop.example/g00641/spec.l1Cur).next -/
def g140 : GL.Fn := ⟨.seq (.reg 0 [⟨0, some 2, none, .p .mov, [.c (.int .i64 0)]⟩])
   (.seq (.reg 0 [⟨0, some 3, none, .p .mov, [.c (.int .i64 0)]⟩])
   (.seq (.seq (.reg 0 [⟨0, some 4, none, .p .mov, [.t 0]⟩,
    ⟨1, some 5, none, .p .nilCheck, [.t 4]⟩,
    ⟨2, some 6, none, .p (.faddr 1), [.t 5]⟩,
    ⟨3, some 7, none, .r (.load false 1) false, [.t 6]⟩,
    ⟨4, some 8, none, .p .mov, [.t 0]⟩,
    ⟨5, some 9, none, .p .nilCheck, [.t 8]⟩,
    ⟨6, some 10, none, .p (.faddr 0), [.t 9]⟩,
    ⟨7, some 11, none, .r (.load false 1) false, [.t 10]⟩,
    ⟨8, some 12, none, .p .len, [.t 11]⟩,
    ⟨9, some 13, none, .p (.bin .lss), [.t 7, .t 12]⟩])
   (.cond (.t 13) (.reg 0 [⟨0, some 14, none, .p .mov, [.t 0]⟩,
    ⟨1, some 15, none, .p .nilCheck, [.t 14]⟩,
    ⟨2, some 16, none, .p (.faddr 0), [.t 15]⟩,
    ⟨3, some 17, none, .r (.load false 1) false, [.t 16]⟩,
    ⟨4, some 18, none, .p .mov, [.t 0]⟩,
    ⟨5, some 19, none, .p .nilCheck, [.t 18]⟩,
    ⟨6, some 20, none, .p (.faddr 1), [.t 19]⟩,
    ⟨7, some 21, none, .r (.load false 1) false, [.t 20]⟩,
    ⟨8, some 22, none, .p (.idx 1), [.t 17, .t 21]⟩,
    ⟨9, some 23, none, .r (.load false 1) false, [.t 22]⟩,
    ⟨10, some 24, none, .p (.conv .i64), [.t 23]⟩,
    ⟨11, some 3, none, .p .mov, [.t 24]⟩])
   (.skip)))
   (.seq (.reg 0 [⟨0, some 25, none, .p .mov, [.t 0]⟩,
    ⟨1, some 26, none, .p .nilCheck, [.t 25]⟩,
    ⟨2, some 27, none, .p (.faddr 1), [.t 26]⟩,
    ⟨3, some 28, none, .r (.load false 1) false, [.t 27]⟩,
    ⟨4, some 29, none, .p (.bin .add), [.t 28, .c (.int .i64 1)]⟩,
    ⟨5, some 30, none, .p .nilCheck, [.t 25]⟩,
    ⟨6, some 31, none, .p (.faddr 1), [.t 30]⟩,
    ⟨7, none, none, .e (.store 1) [] [], [.t 31, .t 29]⟩])
   (.seq (.reg 0 [⟨0, some 32, none, .p .mov, [.t 0]⟩,
    ⟨1, some 33, none, .p .mov, [.t 0]⟩,
    ⟨2, some 34, none, .p .nilCheck, [.t 33]⟩,
    ⟨3, some 35, none, .p (.faddr 2), [.t 34]⟩,
    ⟨4, some 36, none, .r (.load false 1) false, [.t 35]⟩,
    ⟨5, some 37, none, .p (.bin .mul), [.t 36, .c (.int .u64 6364136223846793005)]⟩,
    ⟨6, some 38, none, .p .mov, [.t 3]⟩,
    ⟨7, some 39, none, .p (.conv .u64), [.t 38]⟩,
    ⟨8, some 40, none, .p (.bin .add), [.t 37, .t 39]⟩,
    ⟨9, some 41, none, .p (.bin .add), [.t 40, .c (.int .u64 1442695040888963407)]⟩,
    ⟨10, some 42, none, .p .nilCheck, [.t 32]⟩,
    ⟨11, some 43, none, .p (.faddr 2), [.t 42]⟩,
    ⟨12, none, none, .e (.store 1) [] [], [.t 43, .t 41]⟩])
   (.seq (.seq (.reg 0 [⟨0, some 44, none, .p .mov, [.t 0]⟩,
    ⟨1, some 45, none, .p .nilCheck, [.t 44]⟩,
    ⟨2, some 46, none, .p (.faddr 1), [.t 45]⟩,
    ⟨3, some 47, none, .r (.load false 1) false, [.t 46]⟩,
    ⟨4, some 48, none, .p .mov, [.t 0]⟩,
    ⟨5, some 49, none, .p .nilCheck, [.t 48]⟩,
    ⟨6, some 50, none, .p (.faddr 0), [.t 49]⟩,
    ⟨7, some 51, none, .r (.load false 1) false, [.t 50]⟩,
    ⟨8, some 52, none, .p .len, [.t 51]⟩,
    ⟨9, some 53, none, .p (.bin .leq), [.t 47, .t 52]⟩])
   (.cond (.t 53) (.seq (.reg 0 [⟨0, some 54, none, .p .mov, [.t 3]⟩,
    ⟨1, some 2, none, .p .mov, [.t 54]⟩])
   (.ret))
   (.skip)))
   (.seq (.reg 0 [⟨0, some 55, none, .p .mov, [.t 0]⟩,
    ⟨1, some 56, none, .p .nilCheck, [.t 55]⟩,
    ⟨2, some 57, none, .p (.faddr 2), [.t 56]⟩,
    ⟨3, some 58, none, .r (.load false 1) false, [.t 57]⟩,
    ⟨4, some 59, none, .p (.bin .shr), [.t 58, .c (.int .u64 40)]⟩,
    ⟨5, some 60, none, .p (.bin .and), [.t 59, .c (.int .u64 255)]⟩,
    ⟨6, some 61, none, .p (.conv .i64), [.t 60]⟩,
    ⟨7, some 2, none, .p .mov, [.t 61]⟩])
   (.ret))))))),
  [.tmp 2]⟩
/- (*loop.example/g00641/spec.l1Cur).small -/
def g143 : GL.Fn := ⟨.seq (.reg 0 [⟨0, some 2, none, .l (.alloc 2 [.bool false, .int .i64 0]), []⟩])
   (.seq (.seq (.reg 0 [⟨0, some 3, none, .p .mov, [.t 0]⟩,
    ⟨1, some 4, none, .e .call [] [], [.f 92, .t 3, .c (.int .i64 5)]⟩])
   (.cond (.t 4) (.seq (.reg 0 [⟨0, some 5, none, .p (.build [.bool false, .int .i64 0] [(0, 1)]), [.c (.bool true)]⟩,
    ⟨1, none, none, .l (.store 2 2), [.t 2, .t 5]⟩])
   (.ret))
   (.skip)))
   (.seq (.reg 0 [⟨0, some 6, none, .p .mov, [.t 0]⟩,
    ⟨1, some 7, none, .e .call [] [], [.f 91, .t 6, .c (.int .i64 4)]⟩,
    ⟨2, some 8, none, .p (.build [.bool false, .int .i64 0] [(1, 1)]), [.t 7]⟩,
    ⟨3, none, none, .l (.store 2 2), [.t 2, .t 8]⟩])
   (.ret))),
  [.cellL 2 2 true 2]⟩
/- slices.Insert[[]loop.example/g00641/impl.Row,loop.example/g00641/impl.Row] -/
def g145 : GL.Fn := ⟨.seq (.reg 0 [⟨0, some 6, none, .p .mov, [.c (.nils)]⟩])
   (.seq (.reg 0 [⟨0, some 10, none, .p .mov, [.t 0]⟩,
    ⟨1, some 11, none, .p .mov, [.t 1]⟩,
    ⟨2, some 12, none, .p (.slice 2 true false false), [.t 10, .t 11]⟩])
   (.seq (.reg 0 [⟨0, some 13, none, .p .mov, [.t 2]⟩,
    ⟨1, some 14, none, .p .len, [.t 13]⟩,
    ⟨2, some 7, none, .p .mov, [.t 14]⟩])
   (.seq (.seq (.reg 0 [⟨0, some 15, none, .p .mov, [.t 7]⟩,
    ⟨1, some 16, none, .p (.bin .eql), [.t 15, .c (.int .i64 0)]⟩])
   (.cond (.t 16) (.seq (.reg 0 [⟨0, some 17, none, .p .mov, [.t 0]⟩,
    ⟨1, some 6, none, .p .mov, [.t 17]⟩])
   (.ret))
   (.skip)))
   (.seq (.reg 0 [⟨0, some 18, none, .p .mov, [.t 0]⟩,
    ⟨1, some 19, none, .p .len, [.t 18]⟩,
    ⟨2, some 8, none, .p .mov, [.t 19]⟩])
   (.seq (.seq (.reg 0 [⟨0, some 20, none, .p .mov, [.t 1]⟩,
    ⟨1, some 21, none, .p .mov, [.t 8]⟩,
    ⟨2, some 22, none, .p (.bin .eql), [.t 20, .t 21]⟩])
   (.cond (.t 22) (.seq (.reg 0 [⟨0, some 23, none, .p .mov, [.t 0]⟩,
    ⟨1, some 24, none, .p .mov, [.t 2]⟩,
    ⟨2, some 25, none, .e (.append 2 32) [] [], [.t 23, .t 24]⟩,
    ⟨3, some 6, none, .p .mov, [.t 25]⟩])
   (.ret))
   (.skip)))
   (.seq (.seq (.reg 0 [⟨0, some 26, none, .p .mov, [.t 8]⟩,
    ⟨1, some 27, none, .p .mov, [.t 7]⟩,
    ⟨2, some 28, none, .p (.bin .add), [.t 26, .t 27]⟩,
    ⟨3, some 29, none, .p .mov, [.t 0]⟩,
    ⟨4, some 30, none, .p .cap, [.t 29]⟩,
    ⟨5, some 31, none, .p (.bin .gtr), [.t 28, .t 30]⟩])
   (.cond (.t 31) (.seq (.reg 0 [⟨0, some 32, none, .p .mov, [.t 0]⟩,
    ⟨1, some 33, none, .p .mov, [.t 1]⟩,
    ⟨2, some 34, none, .p (.slice 2 false true false), [.t 32, .t 33]⟩,
    ⟨3, some 35, none, .p .mov, [.t 8]⟩,
    ⟨4, some 36, none, .p .mov, [.t 7]⟩,
    ⟨5, some 37, none, .p (.bin .add), [.t 35, .t 36]⟩,
    ⟨6, some 38, none, .p .mov, [.t 1]⟩,
    ⟨7, some 39, none, .p (.bin .sub), [.t 37, .t 38]⟩,
    ⟨8, some 40, none, .e (.appendZ 2 32 [.int .i64 0, .nils]) [] [], [.t 34, .t 39]⟩,
    ⟨9, some 9, none, .p .mov, [.t 40]⟩])
   (.seq (.reg 0 [⟨0, some 41, none, .p .mov, [.t 9]⟩,
    ⟨1, some 42, none, .p .mov, [.t 1]⟩,
    ⟨2, some 43, none, .p (.slice 2 true false false), [.t 41, .t 42]⟩,
    ⟨3, some 44, none, .p .mov, [.t 2]⟩,
    ⟨4, some 45, none, .e (.copy 2) [] [], [.t 43, .t 44]⟩])
   (.seq (.reg 0 [⟨0, some 46, none, .p .mov, [.t 9]⟩,
    ⟨1, some 47, none, .p .mov, [.t 1]⟩,
    ⟨2, some 48, none, .p .mov, [.t 7]⟩,
    ⟨3, some 49, none, .p (.bin .add), [.t 47, .t 48]⟩,
    ⟨4, some 50, none, .p (.slice 2 true false false), [.t 46, .t 49]⟩,
    ⟨5, some 51, none, .p .mov, [.t 0]⟩,
    ⟨6, some 52, none, .p .mov, [.t 1]⟩,
    ⟨7, some 53, none, .p (.slice 2 true false false), [.t 51, .t 52]⟩,
    ⟨8, some 54, none, .e (.copy 2) [] [], [.t 50, .t 53]⟩])
   (.seq (.reg 0 [⟨0, some 55, none, .p .mov, [.t 9]⟩,
    ⟨1, some 6, none, .p .mov, [.t 55]⟩])
   (.ret)))))
   (.skip)))
   (.seq (.reg 0 [⟨0, some 56, none, .p .mov, [.t 0]⟩,
    ⟨1, some 57, none, .p .mov, [.t 8]⟩,
    ⟨2, some 58, none, .p .mov, [.t 7]⟩,
    ⟨3, some 59, none, .p (.bin .add), [.t 57, .t 58]⟩,
    ⟨4, some 60, none, .p (.slice 2 false true false), [.t 56, .t 59]⟩,
    ⟨5, some 0, none, .p .mov, [.t 60]⟩])
   (.seq (.seq (.reg 0 [⟨0, some 61, none, .p .mov, [.t 2]⟩,
    ⟨1, some 62, none, .p .mov, [.t 0]⟩,
    ⟨2, some 63, none, .p .mov, [.t 1]⟩,
    ⟨3, some 64, none, .p .mov, [.t 7]⟩,
    ⟨4, some 65, none, .p (.bin .add), [.t 63, .t 64]⟩,
    ⟨5, some 66, none, .p (.slice 2 true false false), [.t 62, .t 65]⟩,
    ⟨6, some 67, none, .e .call [] [], [.f 155, .t 61, .t 66]⟩,
    ⟨7, some 68, none, .p (.un .not), [.t 67]⟩])
   (.cond (.t 68) (.seq (.reg 0 [⟨0, some 69, none, .p .mov, [.t 0]⟩,
    ⟨1, some 70, none, .p .mov, [.t 1]⟩,
    ⟨2, some 71, none, .p .mov, [.t 7]⟩,
    ⟨3, some 72, none, .p (.bin .add), [.t 70, .t 71]⟩,
    ⟨4, some 73, none, .p (.slice 2 true false false), [.t 69, .t 72]⟩,
    ⟨5, some 74, none, .p .mov, [.t 0]⟩,
    ⟨6, some 75, none, .p .mov, [.t 1]⟩,
    ⟨7, some 76, none, .p (.slice 2 true false false), [.t 74, .t 75]⟩,
    ⟨8, some 77, none, .e (.copy 2) [] [], [.t 73, .t 76]⟩])
   (.seq (.reg 0 [⟨0, some 78, none, .p .mov, [.t 0]⟩,
    ⟨1, some 79, none, .p .mov, [.t 1]⟩,
    ⟨2, some 80, none, .p (.slice 2 true false false), [.t 78, .t 79]⟩,
    ⟨3, some 81, none, .p .mov, [.t 2]⟩,
    ⟨4, some 82, none, .e (.copy 2) [] [], [.t 80, .t 81]⟩])
   (.seq (.reg 0 [⟨0, some 83, none, .p .mov, [.t 0]⟩,
    ⟨1, some 6, none, .p .mov, [.t 83]⟩])
   (.ret))))
   (.skip)))
   (.seq (.reg 0 [⟨0, some 84, none, .p .mov, [.t 0]⟩,
    ⟨1, some 85, none, .p .mov, [.t 8]⟩,
    ⟨2, some 86, none, .p (.slice 2 true false false), [.t 84, .t 85]⟩,
    ⟨3, some 87, none, .p .mov, [.t 2]⟩,
    ⟨4, some 88, none, .e (.copy 2) [] [], [.t 86, .t 87]⟩])
   (.seq (.reg 0 [⟨0, some 89, none, .p .mov, [.t 0]⟩,
    ⟨1, some 90, none, .p .mov, [.t 1]⟩,
    ⟨2, some 91, none, .p (.slice 2 true false false), [.t 89, .t 90]⟩,
    ⟨3, some 92, none, .p .mov, [.t 7]⟩,
    ⟨4, some 93, none, .e .call [] [], [.f 156, .t 91, .t 92]⟩])
   (.seq (.reg 0 [⟨0, some 94, none, .p .mov, [.t 0]⟩,
    ⟨1, some 6, none, .p .mov, [.t 94]⟩])
   (.ret)))))))))))),
  [.tmp 6]⟩
/- slices.BinarySearchFunc[[]loop.example/g00641/impl.Row,loop.example/g00641/impl.Row,int] -/
def g147_0 : GL.Code := .seq (.seq (.reg 0 [⟨0, some 15, none, .p .mov, [.t 9]⟩,
    ⟨1, some 16, none, .p .mov, [.t 10]⟩,
    ⟨2, some 17, none, .p (.bin .lss), [.t 15, .t 16]⟩])
   (.cond (.t 17) (.skip)
   (.exit 0)))
   (.block 1 (.seq (.reg 0 [⟨0, some 18, none, .p .mov, [.t 9]⟩,
    ⟨1, some 19, none, .p .mov, [.t 10]⟩,
    ⟨2, some 20, none, .p (.bin .add), [.t 18, .t 19]⟩,
    ⟨3, some 21, none, .p (.conv .u64), [.t 20]⟩,
    ⟨4, some 22, none, .p (.bin .shr), [.t 21, .c (.int .u64 1)]⟩,
    ⟨5, some 23, none, .p (.conv .i64), [.t 22]⟩,
    ⟨6, some 11, none, .p .mov, [.t 23]⟩])
   (.seq (.reg 0 [⟨0, some 24, none, .p .mov, [.t 2]⟩,
    ⟨1, some 25, none, .p .mov, [.t 0]⟩,
    ⟨2, some 26, none, .p .mov, [.t 11]⟩,
    ⟨3, some 27, none, .p (.idx 2), [.t 25, .t 26]⟩,
    ⟨4, some 28, none, .r (.load true 2) false, [.t 27]⟩,
    ⟨5, some 29, none, .p .mov, [.t 1]⟩,
    ⟨6, some 30, none, .e .call [] [], [.t 24, .t 28, .t 29]⟩,
    ⟨7, some 31, none, .p (.bin .lss), [.t 30, .c (.int .i64 0)]⟩])
   (.cond (.t 31) (.reg 0 [⟨0, some 32, none, .p .mov, [.t 11]⟩,
    ⟨1, some 33, none, .p (.bin .add), [.t 32, .c (.int .i64 1)]⟩,
    ⟨2, some 9, none, .p .mov, [.t 33]⟩])
   (.reg 0 [⟨0, some 34, none, .p .mov, [.t 11]⟩,
    ⟨1, some 10, none, .p .mov, [.t 34]⟩])))))
def g147 : GL.Fn := ⟨.seq (.reg 0 [⟨0, some 6, none, .p .mov, [.c (.int .i64 0)]⟩,
    ⟨1, some 7, none, .p .mov, [.c (.bool false)]⟩])
   (.seq (.reg 0 [⟨0, some 12, none, .p .mov, [.t 0]⟩,
    ⟨1, some 13, none, .p .len, [.t 12]⟩,
    ⟨2, some 8, none, .p .mov, [.t 13]⟩])
   (.seq (.reg 0 [⟨0, some 14, none, .p .mov, [.t 8]⟩,
    ⟨1, some 9, none, .p .mov, [.c (.int .i64 0)]⟩,
    ⟨2, some 10, none, .p .mov, [.t 14]⟩])
   (.seq (.block 0 (.loop g147_0))
   (.seq (.reg 0 [⟨0, some 35, none, .p .mov, [.t 9]⟩,
    ⟨1, some 36, none, .p .mov, [.t 9]⟩,
    ⟨2, some 37, none, .p .mov, [.t 8]⟩,
    ⟨3, some 38, none, .p (.bin .lss), [.t 36, .t 37]⟩,
    ⟨4, some 39, none, .p .mov, [.t 38]⟩,
    ⟨5, some 40, some (39, true), .p .mov, [.t 2]⟩,
    ⟨6, some 41, some (39, true), .p .mov, [.t 0]⟩,
    ⟨7, some 42, some (39, true), .p .mov, [.t 9]⟩,
    ⟨8, some 43, some (39, true), .p (.idx 2), [.t 41, .t 42]⟩,
    ⟨9, some 44, some (39, true), .r (.load true 2) false, [.t 43]⟩,
    ⟨10, some 45, some (39, true), .p .mov, [.t 1]⟩,
    ⟨11, some 46, some (39, true), .e .call [] [], [.t 40, .t 44, .t 45]⟩,
    ⟨12, some 47, some (39, true), .p (.bin .eql), [.t 46, .c (.int .i64 0)]⟩,
    ⟨13, some 48, none, .p .pick, [.t 39, .t 47, .c (.bool false)]⟩,
    ⟨14, some 6, none, .p .mov, [.t 35]⟩,
    ⟨15, some 7, none, .p .mov, [.t 48]⟩])
   (.ret))))),
  [.tmp 6, .tmp 7]⟩
/- loop.example/g00641/impl.place$1 -/
def g148 : GL.Fn := ⟨.seq (.reg 0 [⟨0, some 2, none, .l (.box 2 2), [.t 0]⟩,
    ⟨1, some 4, none, .p .mov, [.c (.int .i64 0)]⟩])
   (.seq (.reg 0 [⟨0, some 5, none, .p (.faddr 0), [.t 2]⟩,
    ⟨1, some 6, none, .l (.load 2 false 1), [.t 5]⟩,
    ⟨2, some 7, none, .p .mov, [.t 1]⟩,
    ⟨3, some 8, none, .p (.bin .sub), [.t 6, .t 7]⟩,
    ⟨4, some 4, none, .p .mov, [.t 8]⟩])
   (.ret)),
  [.tmp 4]⟩
/- slices.Clone[[]loop.example/g00641/impl.Value,loop.example/g00641/impl.Value] -/
def g149 : GL.Fn := ⟨.seq (.reg 0 [⟨0, some 2, none, .p .mov, [.c (.nils)]⟩])
   (.seq (.seq (.reg 0 [⟨0, some 3, none, .p .mov, [.t 0]⟩,
    ⟨1, some 4, none, .p (.isNil false), [.t 3]⟩])
   (.cond (.t 4) (.seq (.reg 0 [⟨0, some 2, none, .p .mov, [.c (.nils)]⟩])
   (.ret))
   (.skip)))
   (.seq (.reg 0 [⟨0, some 5, none, .e (.new (.lit 2)) [] [], []⟩,
    ⟨1, some 6, none, .p .mov, [.t 0]⟩,
    ⟨2, some 7, none, .e (.append 2 16) [] [], [.t 5, .t 6]⟩,
    ⟨3, some 2, none, .p .mov, [.t 7]⟩])
   (.ret))),
  [.tmp 2]⟩
/- slices.IndexFunc[[]loop.example/g00641/impl.Row,loop.example/g00641/impl.Row] -/
def g150_0 : GL.Code := .seq (.reg 0 [⟨0, some 9, none, .p (.bin .lss), [.t 8, .t 7]⟩])
   (.seq (.cond (.t 9) (.skip)
   (.exit 0))
   (.seq (.block 1 (.seq (.reg 0 [⟨0, some 10, none, .p .mov, [.t 8]⟩,
    ⟨1, some 5, none, .p .mov, [.t 10]⟩])
   (.seq (.reg 0 [⟨0, some 11, none, .p .mov, [.t 1]⟩,
    ⟨1, some 12, none, .p .mov, [.t 0]⟩,
    ⟨2, some 13, none, .p .mov, [.t 5]⟩,
    ⟨3, some 14, none, .p (.idx 2), [.t 12, .t 13]⟩,
    ⟨4, some 15, none, .r (.load true 2) false, [.t 14]⟩,
    ⟨5, some 16, none, .e .call [] [], [.t 11, .t 15]⟩])
   (.cond (.t 16) (.seq (.reg 0 [⟨0, some 17, none, .p .mov, [.t 5]⟩,
    ⟨1, some 4, none, .p .mov, [.t 17]⟩])
   (.ret))
   (.skip)))))
   (.reg 0 [⟨0, some 18, none, .p (.bin .add), [.t 8, .c (.int .i64 1)]⟩,
    ⟨1, some 8, none, .p .mov, [.t 18]⟩])))
def g150 : GL.Fn := ⟨.seq (.reg 0 [⟨0, some 4, none, .p .mov, [.c (.int .i64 0)]⟩])
   (.seq (.seq (.reg 0 [⟨0, some 6, none, .p .mov, [.t 0]⟩,
    ⟨1, some 7, none, .p .len, [.t 6]⟩,
    ⟨2, some 8, none, .p .mov, [.c (.int .i64 0)]⟩])
   (.block 0 (.loop g150_0)))
   (.seq (.reg 0 [⟨0, some 4, none, .p .mov, [.c (.int .i64 (-1))]⟩])
   (.ret))),
  [.tmp 4]⟩
/- slices.rotateRight[loop.example/g00641/impl.Row] -/
def g156 : GL.Fn := ⟨.reg 0 [⟨0, some 4, none, .p .mov, [.t 0]⟩,
    ⟨1, some 5, none, .p .mov, [.t 0]⟩,
    ⟨2, some 6, none, .p .len, [.t 5]⟩,
    ⟨3, some 7, none, .p .mov, [.t 1]⟩,
    ⟨4, some 8, none, .p (.bin .sub), [.t 6, .t 7]⟩,
    ⟨5, some 9, none, .e .call [] [], [.f 161, .t 4, .t 8]⟩],
  []⟩
/- slices.rotateLeft[loop.example/g00641/impl.Row] -/
def g161 : GL.Fn := ⟨.seq (.reg 0 [⟨0, some 4, none, .p .mov, [.t 0]⟩,
    ⟨1, some 5, none, .p .mov, [.t 1]⟩,
    ⟨2, some 6, none, .p (.slice 2 false true false), [.t 4, .t 5]⟩,
    ⟨3, some 7, none, .e .call [] [], [.f 172, .t 6]⟩])
   (.seq (.reg 0 [⟨0, some 8, none, .p .mov, [.t 0]⟩,
    ⟨1, some 9, none, .p .mov, [.t 1]⟩,
    ⟨2, some 10, none, .p (.slice 2 true false false), [.t 8, .t 9]⟩,
    ⟨3, some 11, none, .e .call [] [], [.f 172, .t 10]⟩])
   (.reg 0 [⟨0, some 12, none, .p .mov, [.t 0]⟩,
    ⟨1, some 13, none, .e .call [] [], [.f 172, .t 12]⟩])),
  []⟩
/- slices.Reverse[[]loop.example/g00641/impl.Row,loop.example/g00641/impl.Row] -/
def g172_0 : GL.Code := .seq (.seq (.reg 0 [⟨0, some 7, none, .p .mov, [.t 2]⟩,
    ⟨1, some 8, none, .p .mov, [.t 3]⟩,
    ⟨2, some 9, none, .p (.bin .lss), [.t 7, .t 8]⟩])
   (.cond (.t 9) (.skip)
   (.exit 0)))
   (.seq (.block 1 (.reg 0 [⟨0, some 14, none, .p .mov, [.t 0]⟩,
    ⟨1, some 15, none, .p .mov, [.t 2]⟩,
    ⟨2, some 16, none, .p .mov, [.t 0]⟩,
    ⟨3, some 17, none, .p .mov, [.t 3]⟩,
    ⟨4, some 18, none, .p .mov, [.t 0]⟩,
    ⟨5, some 19, none, .p .mov, [.t 3]⟩,
    ⟨6, some 20, none, .p (.idx 2), [.t 18, .t 19]⟩,
    ⟨7, some 21, none, .r (.load true 2) false, [.t 20]⟩,
    ⟨8, some 22, none, .p .mov, [.t 0]⟩,
    ⟨9, some 23, none, .p .mov, [.t 2]⟩,
    ⟨10, some 24, none, .p (.idx 2), [.t 22, .t 23]⟩,
    ⟨11, some 25, none, .r (.load true 2) false, [.t 24]⟩,
    ⟨12, some 26, none, .p (.idx 2), [.t 14, .t 15]⟩,
    ⟨13, none, none, .e (.store 2) [] [], [.t 26, .t 21]⟩,
    ⟨14, some 27, none, .p (.idx 2), [.t 16, .t 17]⟩,
    ⟨15, none, none, .e (.store 2) [] [], [.t 27, .t 25]⟩]))
   (.reg 0 [⟨0, some 10, none, .p .mov, [.t 2]⟩,
    ⟨1, some 11, none, .p (.bin .add), [.t 10, .c (.int .i64 1)]⟩,
    ⟨2, some 12, none, .p .mov, [.t 3]⟩,
    ⟨3, some 13, none, .p (.bin .sub), [.t 12, .c (.int .i64 1)]⟩,
    ⟨4, some 2, none, .p .mov, [.t 11]⟩,
    ⟨5, some 3, none, .p .mov, [.t 13]⟩]))
def g172 : GL.Fn := ⟨.seq (.reg 0 [⟨0, some 4, none, .p .mov, [.t 0]⟩,
    ⟨1, some 5, none, .p .len, [.t 4]⟩,
    ⟨2, some 6, none, .p (.bin .sub), [.t 5, .c (.int .i64 1)]⟩,
    ⟨3, some 2, none, .p .mov, [.c (.int .i64 0)]⟩,
    ⟨4, some 3, none, .p .mov, [.t 6]⟩])
   (.block 0 (.loop g172_0)),
  []⟩
end GL
