import Derived.Test.YtflbkhbfbcbcoaaGlA
/- GL code of functions. -/
set_option linter.unusedSimpArgs false
set_option linter.unusedVariables false
set_option linter.unnecessarySimpa false
namespace GL
open Go
/- loop.example/g00641/laws.FnApart -/
def g622_0 : GL.Code := .seq (.reg 0 [⟨0, some 84, none, .p (.bin .lss), [.t 83, .t 82]⟩])
   (.seq (.cond (.t 84) (.skip)
   (.exit 0))
   (.seq (.block 1 (.seq (.reg 0 [⟨0, some 85, none, .p (.idx 1), [.t 81, .t 83]⟩,
    ⟨1, some 86, none, .r (.load false 1) false, [.t 85]⟩,
    ⟨2, some 12, none, .p .mov, [.t 86]⟩])
   (.seq (.reg 0 [⟨0, some 88, none, .p .mov, [.t 5]⟩,
    ⟨1, some 89, none, .p .mov, [.t 6]⟩,
    ⟨2, some 90, none, .p .mov, [.t 12]⟩,
    ⟨3, some 91, none, .e .call [] [], [.f 626, .t 88, .t 89, .t 90]⟩,
    ⟨4, some 87, none, .p .mov, [.t 91]⟩,
    ⟨5, some 92, none, .p (.extract 0), [.t 87]⟩,
    ⟨6, some 93, none, .p (.extract 1), [.t 87]⟩,
    ⟨7, some 13, none, .l (.alloc 13 [.nils, .nils]), []⟩,
    ⟨8, none, none, .l (.store 13 2), [.t 13, .t 92]⟩,
    ⟨9, some 14, none, .p .mov, [.t 93]⟩])
   (.seq (.reg 0 [⟨0, some 94, none, .p .mov, [.t 14]⟩])
   (.cond (.t 94) (.seq (.reg 0 [⟨0, some 4, none, .p .mov, [.c (.bool false)]⟩])
   (.ret))
   (.skip))))))
   (.reg 0 [⟨0, some 95, none, .p (.bin .add), [.t 83, .c (.int .i64 1)]⟩,
    ⟨1, some 83, none, .p .mov, [.t 95]⟩])))
def g622_1 : GL.Code := .seq (.reg 0 [⟨0, some 104, none, .p (.bin .lss), [.t 103, .t 102]⟩])
   (.seq (.cond (.t 104) (.skip)
   (.exit 4))
   (.seq (.block 5 (.seq (.reg 0 [⟨0, some 105, none, .p (.idx 1), [.t 101, .t 103]⟩,
    ⟨1, some 106, none, .r (.load false 1) false, [.t 105]⟩,
    ⟨2, some 18, none, .p .mov, [.t 106]⟩])
   (.reg 0 [⟨0, some 107, none, .p .mov, [.t 16]⟩,
    ⟨1, some 108, none, .p .mov, [.t 107]⟩,
    ⟨2, some 109, some (108, false), .p .mov, [.t 18]⟩,
    ⟨3, some 110, some (108, false), .p .mov, [.t 15]⟩,
    ⟨4, some 111, some (108, false), .e .call [] [], [.f 204, .t 109, .t 110]⟩,
    ⟨5, some 112, none, .p .pick, [.t 108, .c (.bool true), .t 111]⟩,
    ⟨6, some 16, none, .p .mov, [.t 112]⟩])))
   (.reg 0 [⟨0, some 113, none, .p (.bin .add), [.t 103, .c (.int .i64 1)]⟩,
    ⟨1, some 103, none, .p .mov, [.t 113]⟩])))
def g622_2 : GL.Code := .seq (.seq (.reg 0 [⟨0, some 96, none, .p .mov, [.t 15]⟩,
    ⟨1, some 97, none, .p .mov, [.t 5]⟩,
    ⟨2, some 98, none, .p (.bin .lss), [.t 96, .t 97]⟩])
   (.cond (.t 98) (.skip)
   (.exit 2)))
   (.seq (.block 3 (.seq (.reg 0 [⟨0, some 16, none, .p .mov, [.c (.bool false)]⟩])
   (.seq (.seq (.reg 0 [⟨0, some 101, none, .p .mov, [.t 7]⟩,
    ⟨1, some 102, none, .p .len, [.t 101]⟩,
    ⟨2, some 103, none, .p .mov, [.c (.int .i64 0)]⟩])
   (.block 4 (.loop g622_1)))
   (.seq (.reg 0 [⟨0, some 114, none, .p .mov, [.t 16]⟩,
    ⟨1, some 115, none, .p (.un .not), [.t 114]⟩])
   (.cond (.t 115) (.seq (.reg 0 [⟨0, some 4, none, .p .mov, [.c (.bool false)]⟩])
   (.ret))
   (.skip))))))
   (.reg 0 [⟨0, some 99, none, .p .mov, [.t 15]⟩,
    ⟨1, some 100, none, .p (.bin .add), [.t 99, .c (.int .i64 1)]⟩,
    ⟨2, some 15, none, .p .mov, [.t 100]⟩]))
def g622 : GL.Fn := ⟨.seq (.reg 0 [⟨0, some 4, none, .p .mov, [.c (.bool false)]⟩])
   (.seq (.seq (.reg 0 [⟨0, some 48, none, .p .mov, [.t 0]⟩,
    ⟨1, some 49, none, .p .len, [.t 48]⟩,
    ⟨2, some 50, none, .p .mov, [.t 1]⟩,
    ⟨3, some 51, none, .p .len, [.t 50]⟩,
    ⟨4, some 52, none, .p (.bin .add), [.t 49, .t 51]⟩,
    ⟨5, some 53, none, .p (.bin .gtr), [.t 52, .c (.int .i64 1048576)]⟩])
   (.cond (.t 53) (.seq (.reg 0 [⟨0, some 4, none, .p .mov, [.c (.bool true)]⟩])
   (.ret))
   (.skip)))
   (.seq (.reg 0 [⟨0, some 55, none, .p .mov, [.t 0]⟩,
    ⟨1, some 56, none, .e .call [] [], [.f 623, .t 55]⟩,
    ⟨2, some 54, none, .p .mov, [.t 56]⟩,
    ⟨3, some 57, none, .p (.extract 0), [.t 54]⟩,
    ⟨4, some 58, none, .p (.extract 1), [.t 54]⟩,
    ⟨5, some 5, none, .p .mov, [.t 57]⟩,
    ⟨6, some 6, none, .p .mov, [.t 58]⟩])
   (.seq (.reg 0 [⟨0, some 60, none, .p .mov, [.t 5]⟩,
    ⟨1, some 61, none, .p .mov, [.t 6]⟩,
    ⟨2, some 62, none, .e .call [] [], [.f 624, .t 60, .t 61]⟩,
    ⟨3, some 59, none, .p .mov, [.t 62]⟩,
    ⟨4, some 63, none, .p (.extract 0), [.t 59]⟩,
    ⟨5, some 64, none, .p (.extract 1), [.t 59]⟩,
    ⟨6, some 7, none, .p .mov, [.t 63]⟩,
    ⟨7, some 8, none, .p .mov, [.t 64]⟩])
   (.seq (.reg 0 [⟨0, some 66, none, .p .mov, [.t 5]⟩,
    ⟨1, some 67, none, .p .mov, [.t 6]⟩,
    ⟨2, some 68, none, .e .call [] [], [.f 625, .t 66, .t 67]⟩,
    ⟨3, some 65, none, .p .mov, [.t 68]⟩,
    ⟨4, some 69, none, .p (.extract 0), [.t 65]⟩,
    ⟨5, some 70, none, .p (.extract 1), [.t 65]⟩,
    ⟨6, some 9, none, .p .mov, [.t 69]⟩,
    ⟨7, some 10, none, .p .mov, [.t 70]⟩])
   (.seq (.seq (.reg 0 [⟨0, some 71, none, .p .mov, [.t 8]⟩,
    ⟨1, some 72, none, .p .mov, [.t 10]⟩,
    ⟨2, some 73, none, .p (.eqB true), [.t 71, .t 72]⟩,
    ⟨3, some 74, none, .p .mov, [.t 73]⟩,
    ⟨4, some 75, some (74, false), .p .mov, [.t 7]⟩,
    ⟨5, some 76, some (74, false), .p .mov, [.t 9]⟩,
    ⟨6, some 77, some (74, false), .e .call [] [], [.f 383, .t 75, .t 76]⟩,
    ⟨7, some 78, some (74, false), .p (.un .not), [.t 77]⟩,
    ⟨8, some 79, none, .p .pick, [.t 74, .c (.bool true), .t 78]⟩])
   (.cond (.t 79) (.seq (.reg 0 [⟨0, some 4, none, .p .mov, [.c (.bool false)]⟩])
   (.ret))
   (.skip)))
   (.seq (.seq (.reg 0 [⟨0, some 80, none, .p .mov, [.t 8]⟩])
   (.cond (.t 80) (.seq (.seq (.reg 0 [⟨0, some 81, none, .p .mov, [.t 7]⟩,
    ⟨1, some 82, none, .p .len, [.t 81]⟩,
    ⟨2, some 83, none, .p .mov, [.c (.int .i64 0)]⟩])
   (.block 0 (.loop g622_0)))
   (.seq (.reg 0 [⟨0, some 15, none, .p .mov, [.c (.int .i64 0)]⟩])
   (.block 2 (.loop g622_2))))
   (.skip)))
   (.seq (.reg 0 [⟨0, some 117, none, .p .mov, [.t 1]⟩,
    ⟨1, some 118, none, .e .call [] [], [.f 627, .t 117]⟩,
    ⟨2, some 116, none, .p .mov, [.t 118]⟩,
    ⟨3, some 119, none, .p (.extract 0), [.t 116]⟩,
    ⟨4, some 120, none, .p (.extract 1), [.t 116]⟩,
    ⟨5, some 121, none, .p (.extract 2), [.t 116]⟩,
    ⟨6, some 19, none, .p .mov, [.t 119]⟩,
    ⟨7, some 20, none, .p .mov, [.t 120]⟩,
    ⟨8, some 21, none, .p .mov, [.t 121]⟩])
   (.seq (.reg 0 [⟨0, some 123, none, .p .mov, [.t 19]⟩,
    ⟨1, some 124, none, .p .mov, [.t 20]⟩,
    ⟨2, some 125, none, .p .mov, [.t 21]⟩,
    ⟨3, some 126, none, .e .call [] [], [.f 626, .t 123, .t 124, .t 125]⟩,
    ⟨4, some 122, none, .p .mov, [.t 126]⟩,
    ⟨5, some 127, none, .p (.extract 0), [.t 122]⟩,
    ⟨6, some 128, none, .p (.extract 1), [.t 122]⟩,
    ⟨7, some 22, none, .l (.alloc 22 [.nils, .nils]), []⟩,
    ⟨8, none, none, .l (.store 22 2), [.t 22, .t 127]⟩,
    ⟨9, some 23, none, .p .mov, [.t 128]⟩])
   (.seq (.reg 0 [⟨0, some 130, none, .p .mov, [.t 19]⟩,
    ⟨1, some 131, none, .p .mov, [.t 20]⟩,
    ⟨2, some 132, none, .p .mov, [.t 21]⟩,
    ⟨3, some 133, none, .e .call [] [], [.f 628, .t 130, .t 131, .t 132]⟩,
    ⟨4, some 129, none, .p .mov, [.t 133]⟩,
    ⟨5, some 134, none, .p (.extract 0), [.t 129]⟩,
    ⟨6, some 135, none, .p (.extract 1), [.t 129]⟩,
    ⟨7, some 24, none, .l (.alloc 24 [.nils, .nils]), []⟩,
    ⟨8, none, none, .l (.store 24 2), [.t 24, .t 134]⟩,
    ⟨9, some 25, none, .p .mov, [.t 135]⟩])
   (.seq (.seq (.reg 0 [⟨0, some 136, none, .p .mov, [.t 23]⟩,
    ⟨1, some 137, none, .p .mov, [.t 25]⟩,
    ⟨2, some 138, none, .p (.eqB true), [.t 136, .t 137]⟩,
    ⟨3, some 139, none, .p .mov, [.t 138]⟩,
    ⟨4, some 140, some (139, false), .p (.faddr 0), [.t 22]⟩,
    ⟨5, some 141, some (139, false), .l (.load 22 false 1), [.t 140]⟩,
    ⟨6, some 142, some (139, false), .p (.faddr 0), [.t 24]⟩,
    ⟨7, some 143, some (139, false), .l (.load 24 false 1), [.t 142]⟩,
    ⟨8, some 144, some (139, false), .e .call [] [], [.f 24, .t 141, .t 143]⟩,
    ⟨9, some 145, some (139, false), .p (.un .not), [.t 144]⟩,
    ⟨10, some 146, none, .p .pick, [.t 139, .c (.bool true), .t 145]⟩,
    ⟨11, some 147, none, .p .mov, [.t 146]⟩,
    ⟨12, some 148, some (147, false), .p (.faddr 1), [.t 22]⟩,
    ⟨13, some 149, some (147, false), .l (.load 22 false 1), [.t 148]⟩,
    ⟨14, some 150, some (147, false), .p (.faddr 1), [.t 24]⟩,
    ⟨15, some 151, some (147, false), .l (.load 24 false 1), [.t 150]⟩,
    ⟨16, some 152, some (147, false), .e .call [] [], [.f 24, .t 149, .t 151]⟩,
    ⟨17, some 153, some (147, false), .p (.un .not), [.t 152]⟩,
    ⟨18, some 154, none, .p .pick, [.t 147, .c (.bool true), .t 153]⟩])
   (.cond (.t 154) (.seq (.reg 0 [⟨0, some 4, none, .p .mov, [.c (.bool false)]⟩])
   (.ret))
   (.skip)))
   (.seq (.seq (.reg 0 [⟨0, some 155, none, .p .mov, [.t 23]⟩])
   (.cond (.t 155) (.seq (.reg 0 [⟨0, some 157, none, .p .mov, [.t 19]⟩,
    ⟨1, some 158, none, .p .mov, [.t 21]⟩,
    ⟨2, some 159, none, .l (.load 22 true 2), [.t 22]⟩,
    ⟨3, some 160, none, .e .call [] [], [.f 629, .t 157, .t 158, .t 159]⟩,
    ⟨4, some 156, none, .p .mov, [.t 160]⟩,
    ⟨5, some 161, none, .p (.extract 0), [.t 156]⟩,
    ⟨6, some 162, none, .p (.extract 1), [.t 156]⟩,
    ⟨7, some 163, none, .p (.extract 2), [.t 156]⟩,
    ⟨8, some 26, none, .p .mov, [.t 161]⟩,
    ⟨9, some 27, none, .p .mov, [.t 162]⟩,
    ⟨10, some 28, none, .p .mov, [.t 163]⟩])
   (.seq (.reg 0 [⟨0, some 165, none, .p .mov, [.t 19]⟩,
    ⟨1, some 166, none, .p .mov, [.t 20]⟩,
    ⟨2, some 167, none, .p .mov, [.t 21]⟩,
    ⟨3, some 168, none, .l (.load 22 true 2), [.t 22]⟩,
    ⟨4, some 169, none, .e .call [] [], [.f 630, .t 165, .t 166, .t 167, .t 168]⟩,
    ⟨5, some 164, none, .p .mov, [.t 169]⟩,
    ⟨6, some 170, none, .p (.extract 0), [.t 164]⟩,
    ⟨7, some 171, none, .p (.extract 1), [.t 164]⟩,
    ⟨8, some 29, none, .p .mov, [.t 170]⟩,
    ⟨9, some 30, none, .p .mov, [.t 171]⟩])
   (.seq (.reg 0 [⟨0, some 172, none, .p .mov, [.t 28]⟩,
    ⟨1, some 173, none, .p (.un .not), [.t 172]⟩,
    ⟨2, some 174, none, .p .mov, [.t 173]⟩,
    ⟨3, some 175, some (174, false), .p .mov, [.t 30]⟩,
    ⟨4, some 176, some (174, false), .p (.un .not), [.t 175]⟩,
    ⟨5, some 177, none, .p .pick, [.t 174, .c (.bool true), .t 176]⟩,
    ⟨6, some 178, none, .p .mov, [.t 177]⟩,
    ⟨7, some 179, some (178, false), .p .mov, [.t 29]⟩,
    ⟨8, some 180, some (178, false), .p (.un .not), [.t 179]⟩,
    ⟨9, some 181, none, .p .pick, [.t 178, .c (.bool true), .t 180]⟩,
    ⟨10, some 182, none, .p .mov, [.t 181]⟩,
    ⟨11, some 183, some (182, false), .p .mov, [.t 26]⟩,
    ⟨12, some 184, some (182, false), .p .len, [.t 183]⟩,
    ⟨13, some 185, some (182, false), .p .mov, [.t 21]⟩,
    ⟨14, some 186, some (182, false), .p .len, [.t 185]⟩,
    ⟨15, some 187, some (182, false), .p (.bin .geq), [.t 184, .t 186]⟩,
    ⟨16, some 188, none, .p .pick, [.t 182, .c (.bool true), .t 187]⟩,
    ⟨17, some 189, none, .p .mov, [.t 188]⟩,
    ⟨18, some 190, some (189, false), .p .mov, [.t 27]⟩,
    ⟨19, some 191, some (189, false), .p .len, [.t 190]⟩,
    ⟨20, some 192, some (189, false), .p .mov, [.t 21]⟩,
    ⟨21, some 193, some (189, false), .p .len, [.t 192]⟩,
    ⟨22, some 194, some (189, false), .p (.bin .geq), [.t 191, .t 193]⟩,
    ⟨23, some 195, none, .p .pick, [.t 189, .c (.bool true), .t 194]⟩])
   (.cond (.t 195) (.seq (.reg 0 [⟨0, some 4, none, .p .mov, [.c (.bool false)]⟩])
   (.ret))
   (.skip)))))
   (.skip)))
   (.seq (.reg 0 [⟨0, some 197, none, .p .mov, [.t 1]⟩,
    ⟨1, some 198, none, .e .call [] [], [.f 631, .t 197]⟩,
    ⟨2, some 196, none, .p .mov, [.t 198]⟩,
    ⟨3, some 199, none, .p (.extract 0), [.t 196]⟩,
    ⟨4, some 200, none, .p (.extract 1), [.t 196]⟩,
    ⟨5, some 201, none, .p (.extract 2), [.t 196]⟩,
    ⟨6, some 33, none, .l (.alloc 33 [.nils, .nils]), []⟩,
    ⟨7, some 31, none, .p .mov, [.t 199]⟩,
    ⟨8, some 32, none, .p .mov, [.t 200]⟩,
    ⟨9, none, none, .l (.store 33 2), [.t 33, .t 201]⟩])
   (.seq (.reg 0 [⟨0, some 203, none, .p .mov, [.t 31]⟩,
    ⟨1, some 204, none, .p .mov, [.t 32]⟩,
    ⟨2, some 205, none, .l (.load 33 true 2), [.t 33]⟩,
    ⟨3, some 206, none, .e .call [] [], [.f 629, .t 203, .t 204, .t 205]⟩,
    ⟨4, some 202, none, .p .mov, [.t 206]⟩,
    ⟨5, some 207, none, .p (.extract 0), [.t 202]⟩,
    ⟨6, some 208, none, .p (.extract 1), [.t 202]⟩,
    ⟨7, some 209, none, .p (.extract 2), [.t 202]⟩,
    ⟨8, some 34, none, .p .mov, [.t 207]⟩,
    ⟨9, some 35, none, .p .mov, [.t 208]⟩,
    ⟨10, some 36, none, .p .mov, [.t 209]⟩])
   (.seq (.reg 0 [⟨0, some 211, none, .p .mov, [.t 31]⟩,
    ⟨1, some 212, none, .p .mov, [.t 32]⟩,
    ⟨2, some 213, none, .l (.load 33 true 2), [.t 33]⟩,
    ⟨3, some 214, none, .e .call [] [], [.f 632, .t 211, .t 212, .t 213]⟩,
    ⟨4, some 210, none, .p .mov, [.t 214]⟩,
    ⟨5, some 215, none, .p (.extract 0), [.t 210]⟩,
    ⟨6, some 216, none, .p (.extract 1), [.t 210]⟩,
    ⟨7, some 217, none, .p (.extract 2), [.t 210]⟩,
    ⟨8, some 37, none, .p .mov, [.t 215]⟩,
    ⟨9, some 38, none, .p .mov, [.t 216]⟩,
    ⟨10, some 39, none, .p .mov, [.t 217]⟩])
   (.seq (.reg 0 [⟨0, some 219, none, .p .mov, [.t 1]⟩,
    ⟨1, some 220, none, .e .call [] [], [.f 633, .t 219]⟩,
    ⟨2, some 218, none, .p .mov, [.t 220]⟩,
    ⟨3, some 221, none, .p (.extract 0), [.t 218]⟩,
    ⟨4, some 222, none, .p (.extract 1), [.t 218]⟩,
    ⟨5, some 223, none, .p (.extract 2), [.t 218]⟩,
    ⟨6, some 224, none, .p (.extract 3), [.t 218]⟩,
    ⟨7, some 43, none, .l (.alloc 43 [.nils, .nils]), []⟩,
    ⟨8, some 40, none, .p .mov, [.t 221]⟩,
    ⟨9, some 41, none, .p .mov, [.t 222]⟩,
    ⟨10, some 42, none, .p .mov, [.t 223]⟩,
    ⟨11, none, none, .l (.store 43 2), [.t 43, .t 224]⟩])
   (.seq (.reg 0 [⟨0, some 226, none, .p .mov, [.t 40]⟩,
    ⟨1, some 227, none, .p .mov, [.t 41]⟩,
    ⟨2, some 228, none, .p .mov, [.t 42]⟩,
    ⟨3, some 229, none, .l (.load 43 true 2), [.t 43]⟩,
    ⟨4, some 230, none, .e .call [] [], [.f 630, .t 226, .t 227, .t 228, .t 229]⟩,
    ⟨5, some 225, none, .p .mov, [.t 230]⟩,
    ⟨6, some 231, none, .p (.extract 0), [.t 225]⟩,
    ⟨7, some 232, none, .p (.extract 1), [.t 225]⟩,
    ⟨8, some 44, none, .p .mov, [.t 231]⟩,
    ⟨9, some 45, none, .p .mov, [.t 232]⟩])
   (.seq (.reg 0 [⟨0, some 234, none, .p .mov, [.t 40]⟩,
    ⟨1, some 235, none, .p .mov, [.t 41]⟩,
    ⟨2, some 236, none, .p .mov, [.t 42]⟩,
    ⟨3, some 237, none, .l (.load 43 true 2), [.t 43]⟩,
    ⟨4, some 238, none, .e .call [] [], [.f 634, .t 234, .t 235, .t 236, .t 237]⟩,
    ⟨5, some 233, none, .p .mov, [.t 238]⟩,
    ⟨6, some 239, none, .p (.extract 0), [.t 233]⟩,
    ⟨7, some 240, none, .p (.extract 1), [.t 233]⟩,
    ⟨8, some 46, none, .p .mov, [.t 239]⟩,
    ⟨9, some 47, none, .p .mov, [.t 240]⟩])
   (.seq (.reg 0 [⟨0, some 241, none, .p .mov, [.t 36]⟩,
    ⟨1, some 242, none, .p .mov, [.t 39]⟩,
    ⟨2, some 243, none, .p (.eqB false), [.t 241, .t 242]⟩,
    ⟨3, some 244, none, .p .mov, [.t 243]⟩,
    ⟨4, some 245, some (244, true), .p .mov, [.t 34]⟩,
    ⟨5, some 246, some (244, true), .p .mov, [.t 37]⟩,
    ⟨6, some 247, some (244, true), .e .call [] [], [.f 24, .t 245, .t 246]⟩,
    ⟨7, some 248, none, .p .pick, [.t 244, .t 247, .c (.bool false)]⟩,
    ⟨8, some 249, none, .p .mov, [.t 248]⟩,
    ⟨9, some 250, some (249, true), .p .mov, [.t 35]⟩,
    ⟨10, some 251, some (249, true), .p .mov, [.t 38]⟩,
    ⟨11, some 252, some (249, true), .e .call [] [], [.f 24, .t 250, .t 251]⟩,
    ⟨12, some 253, none, .p .pick, [.t 249, .t 252, .c (.bool false)]⟩,
    ⟨13, some 254, none, .p .mov, [.t 253]⟩,
    ⟨14, some 255, some (254, true), .p .mov, [.t 45]⟩,
    ⟨15, some 256, some (254, true), .p .mov, [.t 47]⟩,
    ⟨16, some 257, some (254, true), .p (.eqB false), [.t 255, .t 256]⟩,
    ⟨17, some 258, none, .p .pick, [.t 254, .t 257, .c (.bool false)]⟩,
    ⟨18, some 259, none, .p .mov, [.t 258]⟩,
    ⟨19, some 260, some (259, true), .p .mov, [.t 44]⟩,
    ⟨20, some 261, some (259, true), .p .mov, [.t 46]⟩,
    ⟨21, some 262, some (259, true), .p (.eqB false), [.t 260, .t 261]⟩,
    ⟨22, some 263, none, .p .pick, [.t 259, .t 262, .c (.bool false)]⟩,
    ⟨23, some 4, none, .p .mov, [.t 263]⟩])
   (.ret))))))))))))))))))),
  [.tmp 4]⟩
/- loop.example/g00641/spec.DrawSplitAll -/
def g623 : GL.Fn := ⟨.seq (.reg 0 [⟨0, some 2, none, .p .mov, [.c (.int .i64 0)]⟩,
    ⟨1, some 3, none, .p .mov, [.c (.nils)]⟩])
   (.seq (.reg 0 [⟨0, some 4, none, .p .mov, [.t 0]⟩,
    ⟨1, some 5, none, .e .call [] [], [.f 643, .t 4]⟩,
    ⟨2, some 6, none, .p (.extract 0), [.t 5]⟩,
    ⟨3, some 7, none, .p (.extract 1), [.t 5]⟩,
    ⟨4, some 2, none, .p .mov, [.t 6]⟩,
    ⟨5, some 3, none, .p .mov, [.t 7]⟩])
   (.ret)),
  [.tmp 2, .tmp 3]⟩
/- loop.example/g00641/impl.SplitAll -/
def g624_0 : GL.Code := .seq (.seq (.reg 0 [⟨0, some 17, none, .p .mov, [.t 7]⟩,
    ⟨1, some 18, none, .p .mov, [.t 6]⟩,
    ⟨2, some 19, none, .p .len, [.t 18]⟩,
    ⟨3, some 20, none, .p (.bin .lss), [.t 17, .t 19]⟩])
   (.cond (.t 20) (.skip)
   (.exit 0)))
   (.block 1 (.seq (.reg 0 [⟨0, some 22, none, .p .mov, [.t 1]⟩,
    ⟨1, some 23, none, .p .mov, [.t 6]⟩,
    ⟨2, some 24, none, .p .mov, [.t 7]⟩,
    ⟨3, some 25, none, .p (.idx 1), [.t 23, .t 24]⟩,
    ⟨4, some 26, none, .r (.load false 1) false, [.t 25]⟩,
    ⟨5, some 27, none, .e .call [] [], [.f 665, .t 22, .t 26]⟩,
    ⟨6, some 21, none, .p .mov, [.t 27]⟩,
    ⟨7, some 28, none, .p (.extract 0), [.t 21]⟩,
    ⟨8, some 29, none, .p (.extract 1), [.t 21]⟩,
    ⟨9, some 8, none, .l (.alloc 8 [.nils, .nils]), []⟩,
    ⟨10, none, none, .l (.store 8 2), [.t 8, .t 28]⟩,
    ⟨11, some 9, none, .p .mov, [.t 29]⟩])
   (.seq (.seq (.reg 0 [⟨0, some 30, none, .p .mov, [.t 9]⟩,
    ⟨1, some 31, none, .p (.un .not), [.t 30]⟩])
   (.cond (.t 31) (.seq (.reg 0 [⟨0, some 32, none, .p .mov, [.t 7]⟩,
    ⟨1, some 33, none, .p (.bin .add), [.t 32, .c (.int .i64 1)]⟩,
    ⟨2, some 7, none, .p .mov, [.t 33]⟩])
   (.exit 1))
   (.skip)))
   (.reg 0 [⟨0, some 34, none, .p .mov, [.t 6]⟩,
    ⟨1, some 35, none, .p .mov, [.t 7]⟩,
    ⟨2, some 36, none, .p .mov, [.t 7]⟩,
    ⟨3, some 37, none, .p (.bin .add), [.t 36, .c (.int .i64 1)]⟩,
    ⟨4, some 38, none, .p (.faddr 0), [.t 8]⟩,
    ⟨5, some 39, none, .l (.load 8 false 1), [.t 38]⟩,
    ⟨6, some 40, none, .p (.faddr 1), [.t 8]⟩,
    ⟨7, some 41, none, .l (.load 8 false 1), [.t 40]⟩,
    ⟨9, some 43, none, .p .mov, [.t 6]⟩,
    ⟨10, some 44, none, .p .mov, [.t 7]⟩,
    ⟨11, some 45, none, .p (.idx 1), [.t 43, .t 44]⟩,
    ⟨12, some 46, none, .r (.load false 1) true, [.t 45]⟩,
    ⟨8, some 42, none, .e .call [12] [], [.f 412, .t 39, .t 41]⟩,
    ⟨13, some 47, none, .p (.faddr 1), [.t 8]⟩,
    ⟨14, some 48, none, .l (.load 8 false 1), [.t 47]⟩,
    ⟨15, some 49, none, .e .call [] [], [.f 428, .t 46, .t 48]⟩,
    ⟨16, some 50, none, .e (.new (.lit 1)) [] [], [.t 42, .t 49]⟩,
    ⟨17, some 51, none, .e .call [] [], [.f 666, .t 34, .t 35, .t 37, .t 50]⟩,
    ⟨18, some 6, none, .p .mov, [.t 51]⟩]))))
def g624 : GL.Fn := ⟨.seq (.reg 0 [⟨0, some 4, none, .p .mov, [.c (.nils)]⟩,
    ⟨1, some 5, none, .p .mov, [.c (.bool false)]⟩])
   (.seq (.seq (.reg 0 [⟨0, some 10, none, .p .mov, [.t 0]⟩,
    ⟨1, some 11, none, .p .mov, [.t 1]⟩,
    ⟨2, some 12, none, .e .call [] [], [.f 616, .t 10, .t 11]⟩,
    ⟨3, some 13, none, .p (.un .not), [.t 12]⟩])
   (.cond (.t 13) (.seq (.reg 0 [⟨0, some 4, none, .p .mov, [.c (.nils)]⟩,
    ⟨1, some 5, none, .p .mov, [.c (.bool false)]⟩])
   (.ret))
   (.skip)))
   (.seq (.reg 0 [⟨0, some 14, none, .p .mov, [.t 0]⟩,
    ⟨1, some 15, none, .e .call [] [], [.f 598, .t 14]⟩,
    ⟨2, some 16, none, .e (.new (.lit 1)) [] [], [.t 15]⟩,
    ⟨3, some 6, none, .p .mov, [.t 16]⟩])
   (.seq (.seq (.reg 0 [⟨0, some 7, none, .p .mov, [.c (.int .i64 0)]⟩])
   (.block 0 (.loop g624_0)))
   (.seq (.reg 0 [⟨0, some 52, none, .p .mov, [.t 6]⟩,
    ⟨1, some 4, none, .p .mov, [.t 52]⟩,
    ⟨2, some 5, none, .p .mov, [.c (.bool true)]⟩])
   (.ret))))),
  [.tmp 4, .tmp 5]⟩
/- loop.example/g00641/spec.SplitAll -/
def g625_0 : GL.Code := .seq (.seq (.reg 0 [⟨0, some 24, none, .p .mov, [.t 7]⟩,
    ⟨1, some 25, none, .p .mov, [.t 6]⟩,
    ⟨2, some 26, none, .p .len, [.t 25]⟩,
    ⟨3, some 27, none, .p (.bin .lss), [.t 24, .t 26]⟩])
   (.cond (.t 27) (.skip)
   (.exit 0)))
   (.block 1 (.seq (.reg 0 [⟨0, some 29, none, .p .mov, [.t 1]⟩,
    ⟨1, some 30, none, .p .mov, [.t 6]⟩,
    ⟨2, some 31, none, .p .mov, [.t 7]⟩,
    ⟨3, some 32, none, .p (.idx 1), [.t 30, .t 31]⟩,
    ⟨4, some 33, none, .r (.load false 1) false, [.t 32]⟩,
    ⟨5, some 34, none, .e .call [] [], [.f 667, .t 29, .t 33]⟩,
    ⟨6, some 28, none, .p .mov, [.t 34]⟩,
    ⟨7, some 35, none, .p (.extract 0), [.t 28]⟩,
    ⟨8, some 36, none, .p (.extract 1), [.t 28]⟩,
    ⟨9, some 8, none, .l (.alloc 8 [.nils, .nils]), []⟩,
    ⟨10, none, none, .l (.store 8 2), [.t 8, .t 35]⟩,
    ⟨11, some 9, none, .p .mov, [.t 36]⟩])
   (.seq (.seq (.reg 0 [⟨0, some 37, none, .p .mov, [.t 9]⟩,
    ⟨1, some 38, none, .p (.un .not), [.t 37]⟩])
   (.cond (.t 38) (.seq (.reg 0 [⟨0, some 39, none, .p .mov, [.t 7]⟩,
    ⟨1, some 40, none, .p (.bin .add), [.t 39, .c (.int .i64 1)]⟩,
    ⟨2, some 7, none, .p .mov, [.t 40]⟩])
   (.exit 1))
   (.skip)))
   (.seq (.reg 0 [⟨0, some 41, none, .e (.new (.lit 1)) [] [], []⟩,
    ⟨1, some 42, none, .p .mov, [.t 6]⟩,
    ⟨2, some 43, none, .p .mov, [.t 7]⟩,
    ⟨3, some 44, none, .p (.slice 1 false true false), [.t 42, .t 43]⟩,
    ⟨4, some 45, none, .e (.append 1 24) [] [], [.t 41, .t 44]⟩,
    ⟨5, some 10, none, .p .mov, [.t 45]⟩])
   (.seq (.reg 0 [⟨0, some 46, none, .p .mov, [.t 10]⟩,
    ⟨1, some 47, none, .p (.faddr 0), [.t 8]⟩,
    ⟨2, some 48, none, .l (.load 8 false 1), [.t 47]⟩,
    ⟨3, some 49, none, .p (.faddr 1), [.t 8]⟩,
    ⟨4, some 50, none, .l (.load 8 false 1), [.t 49]⟩,
    ⟨6, some 52, none, .p .mov, [.t 6]⟩,
    ⟨7, some 53, none, .p .mov, [.t 7]⟩,
    ⟨8, some 54, none, .p (.idx 1), [.t 52, .t 53]⟩,
    ⟨9, some 55, none, .r (.load false 1) true, [.t 54]⟩,
    ⟨5, some 51, none, .e .call [9] [], [.f 668, .t 48, .t 50]⟩,
    ⟨10, some 56, none, .p (.faddr 1), [.t 8]⟩,
    ⟨11, some 57, none, .l (.load 8 false 1), [.t 56]⟩,
    ⟨12, some 58, none, .e .call [] [], [.f 548, .t 55, .t 57]⟩,
    ⟨13, some 59, none, .e (.new (.lit 1)) [] [], [.t 51, .t 58]⟩,
    ⟨14, some 60, none, .e (.append 1 24) [] [], [.t 46, .t 59]⟩,
    ⟨15, some 10, none, .p .mov, [.t 60]⟩])
   (.reg 0 [⟨0, some 61, none, .p .mov, [.t 10]⟩,
    ⟨1, some 62, none, .p .mov, [.t 6]⟩,
    ⟨2, some 63, none, .p .mov, [.t 7]⟩,
    ⟨3, some 64, none, .p (.bin .add), [.t 63, .c (.int .i64 1)]⟩,
    ⟨4, some 65, none, .p (.slice 1 true false false), [.t 62, .t 64]⟩,
    ⟨5, some 66, none, .e (.append 1 24) [] [], [.t 61, .t 65]⟩,
    ⟨6, some 6, none, .p .mov, [.t 66]⟩]))))))
def g625_1 : GL.Code := .seq (.reg 0 [⟨0, some 70, none, .p (.bin .lss), [.t 69, .t 68]⟩])
   (.seq (.cond (.t 70) (.skip)
   (.exit 2))
   (.seq (.block 3 (.seq (.reg 0 [⟨0, some 71, none, .p (.idx 1), [.t 67, .t 69]⟩,
    ⟨1, some 72, none, .r (.load false 1) false, [.t 71]⟩,
    ⟨2, some 13, none, .p .mov, [.t 72]⟩])
   (.reg 0 [⟨0, some 73, none, .p .mov, [.t 11]⟩,
    ⟨1, some 74, none, .e (.new (.lit 1)) [] [], []⟩,
    ⟨2, some 75, none, .p .mov, [.t 13]⟩,
    ⟨3, some 76, none, .e (.append 1 8) [] [], [.t 74, .t 75]⟩,
    ⟨4, some 77, none, .e (.new (.lit 1)) [] [], [.t 76]⟩,
    ⟨5, some 78, none, .e (.append 1 24) [] [], [.t 73, .t 77]⟩,
    ⟨6, some 11, none, .p .mov, [.t 78]⟩])))
   (.reg 0 [⟨0, some 79, none, .p (.bin .add), [.t 69, .c (.int .i64 1)]⟩,
    ⟨1, some 69, none, .p .mov, [.t 79]⟩])))
def g625 : GL.Fn := ⟨.seq (.reg 0 [⟨0, some 4, none, .p .mov, [.c (.nils)]⟩,
    ⟨1, some 5, none, .p .mov, [.c (.bool false)]⟩])
   (.seq (.seq (.reg 0 [⟨0, some 14, none, .p .mov, [.t 0]⟩,
    ⟨1, some 15, none, .p .mov, [.t 1]⟩,
    ⟨2, some 16, none, .e .call [] [], [.f 647, .t 14, .t 15]⟩,
    ⟨3, some 17, none, .p (.un .not), [.t 16]⟩])
   (.cond (.t 17) (.seq (.reg 0 [⟨0, some 4, none, .p .mov, [.c (.nils)]⟩,
    ⟨1, some 5, none, .p .mov, [.c (.bool false)]⟩])
   (.ret))
   (.skip)))
   (.seq (.reg 0 [⟨0, some 18, none, .p .mov, [.t 0]⟩,
    ⟨1, some 19, none, .p (.conv .u64), [.t 18]⟩,
    ⟨2, some 20, none, .p (.bin .shl), [.c (.int .i64 1), .t 19]⟩,
    ⟨3, some 21, none, .p (.bin .sub), [.t 20, .c (.int .i64 1)]⟩,
    ⟨4, some 22, none, .e .call [] [], [.f 648, .t 21]⟩,
    ⟨5, some 23, none, .e (.new (.lit 1)) [] [], [.t 22]⟩,
    ⟨6, some 6, none, .p .mov, [.t 23]⟩])
   (.seq (.seq (.reg 0 [⟨0, some 7, none, .p .mov, [.c (.int .i64 0)]⟩])
   (.block 0 (.loop g625_0)))
   (.seq (.reg 0 [⟨0, some 11, none, .p .mov, [.c (.nils)]⟩])
   (.seq (.seq (.reg 0 [⟨0, some 67, none, .p .mov, [.t 6]⟩,
    ⟨1, some 68, none, .p .len, [.t 67]⟩,
    ⟨2, some 69, none, .p .mov, [.c (.int .i64 0)]⟩])
   (.block 2 (.loop g625_1)))
   (.seq (.reg 0 [⟨0, some 80, none, .p .mov, [.t 11]⟩,
    ⟨1, some 4, none, .p .mov, [.t 80]⟩,
    ⟨2, some 5, none, .p .mov, [.c (.bool true)]⟩])
   (.ret))))))),
  [.tmp 4, .tmp 5]⟩
/- loop.example/g00641/laws.sameRows -/
def g383_0 : GL.Code := .seq (.reg 0 [⟨0, some 14, none, .p (.bin .lss), [.t 13, .t 12]⟩])
   (.seq (.cond (.t 14) (.skip)
   (.exit 0))
   (.seq (.block 1 (.seq (.reg 0 [⟨0, some 15, none, .p .mov, [.t 13]⟩,
    ⟨1, some 5, none, .p .mov, [.t 15]⟩])
   (.seq (.reg 0 [⟨0, some 16, none, .p .mov, [.t 0]⟩,
    ⟨1, some 17, none, .p .mov, [.t 5]⟩,
    ⟨2, some 18, none, .p (.idx 1), [.t 16, .t 17]⟩,
    ⟨3, some 19, none, .r (.load false 1) false, [.t 18]⟩,
    ⟨4, some 20, none, .p .mov, [.t 1]⟩,
    ⟨5, some 21, none, .p .mov, [.t 5]⟩,
    ⟨6, some 22, none, .p (.idx 1), [.t 20, .t 21]⟩,
    ⟨7, some 23, none, .r (.load false 1) false, [.t 22]⟩,
    ⟨8, some 24, none, .e .call [] [], [.f 24, .t 19, .t 23]⟩,
    ⟨9, some 25, none, .p (.un .not), [.t 24]⟩])
   (.cond (.t 25) (.seq (.reg 0 [⟨0, some 4, none, .p .mov, [.c (.bool false)]⟩])
   (.ret))
   (.skip)))))
   (.reg 0 [⟨0, some 26, none, .p (.bin .add), [.t 13, .c (.int .i64 1)]⟩,
    ⟨1, some 13, none, .p .mov, [.t 26]⟩])))
def g383 : GL.Fn := ⟨.seq (.reg 0 [⟨0, some 4, none, .p .mov, [.c (.bool false)]⟩])
   (.seq (.seq (.reg 0 [⟨0, some 6, none, .p .mov, [.t 0]⟩,
    ⟨1, some 7, none, .p .len, [.t 6]⟩,
    ⟨2, some 8, none, .p .mov, [.t 1]⟩,
    ⟨3, some 9, none, .p .len, [.t 8]⟩,
    ⟨4, some 10, none, .p (.bin .neq), [.t 7, .t 9]⟩])
   (.cond (.t 10) (.seq (.reg 0 [⟨0, some 4, none, .p .mov, [.c (.bool false)]⟩])
   (.ret))
   (.skip)))
   (.seq (.seq (.reg 0 [⟨0, some 11, none, .p .mov, [.t 0]⟩,
    ⟨1, some 12, none, .p .len, [.t 11]⟩,
    ⟨2, some 13, none, .p .mov, [.c (.int .i64 0)]⟩])
   (.block 0 (.loop g383_0)))
   (.seq (.reg 0 [⟨0, some 4, none, .p .mov, [.c (.bool true)]⟩])
   (.ret)))),
  [.tmp 4]⟩
/- loop.example/g00641/impl.BadIn -/
def g626 : GL.Fn := ⟨.seq (.reg 0 [⟨0, some 6, none, .l (.alloc 6 [.nils, .nils]), []⟩,
    ⟨1, some 7, none, .p .mov, [.c (.bool false)]⟩])
   (.seq (.seq (.reg 0 [⟨0, some 8, none, .p .mov, [.t 0]⟩,
    ⟨1, some 9, none, .p .mov, [.t 1]⟩,
    ⟨2, some 10, none, .e .call [] [], [.f 616, .t 8, .t 9]⟩,
    ⟨3, some 11, none, .p (.un .not), [.t 10]⟩,
    ⟨4, some 12, none, .p .mov, [.t 11]⟩,
    ⟨5, some 13, some (12, false), .p .mov, [.t 0]⟩,
    ⟨6, some 14, some (12, false), .p .mov, [.t 2]⟩,
    ⟨7, some 15, some (12, false), .e .call [] [], [.f 655, .t 13, .t 14]⟩,
    ⟨8, some 16, some (12, false), .p (.un .not), [.t 15]⟩,
    ⟨9, some 17, none, .p .pick, [.t 12, .c (.bool true), .t 16]⟩])
   (.cond (.t 17) (.seq (.reg 0 [⟨0, some 18, none, .p (.build [.nils, .nils] []), []⟩,
    ⟨1, none, none, .l (.store 6 2), [.t 6, .t 18]⟩,
    ⟨2, some 7, none, .p .mov, [.c (.bool false)]⟩])
   (.ret))
   (.skip)))
   (.seq (.reg 0 [⟨0, some 19, none, .p .mov, [.t 1]⟩,
    ⟨1, some 20, none, .p .mov, [.t 2]⟩,
    ⟨2, some 21, none, .e .call [] [], [.f 665, .t 19, .t 20]⟩,
    ⟨3, some 22, none, .p (.extract 0), [.t 21]⟩,
    ⟨4, some 23, none, .p (.extract 1), [.t 21]⟩,
    ⟨5, none, none, .l (.store 6 2), [.t 6, .t 22]⟩,
    ⟨6, some 7, none, .p .mov, [.t 23]⟩])
   (.ret))),
  [.cellL 6 6 true 2, .tmp 7]⟩
/- loop.example/g00641/laws.has -/
def g204_0 : GL.Code := .seq (.reg 0 [⟨0, some 10, none, .p (.bin .lss), [.t 9, .t 8]⟩])
   (.seq (.cond (.t 10) (.skip)
   (.exit 0))
   (.seq (.block 1 (.seq (.reg 0 [⟨0, some 11, none, .p (.idx 1), [.t 7, .t 9]⟩,
    ⟨1, some 12, none, .r (.load false 1) false, [.t 11]⟩,
    ⟨2, some 6, none, .p .mov, [.t 12]⟩])
   (.seq (.reg 0 [⟨0, some 13, none, .p .mov, [.t 6]⟩,
    ⟨1, some 14, none, .p .mov, [.t 1]⟩,
    ⟨2, some 15, none, .p (.bin .eql), [.t 13, .t 14]⟩])
   (.cond (.t 15) (.seq (.reg 0 [⟨0, some 4, none, .p .mov, [.c (.bool true)]⟩])
   (.ret))
   (.skip)))))
   (.reg 0 [⟨0, some 16, none, .p (.bin .add), [.t 9, .c (.int .i64 1)]⟩,
    ⟨1, some 9, none, .p .mov, [.t 16]⟩])))
def g204 : GL.Fn := ⟨.seq (.reg 0 [⟨0, some 4, none, .p .mov, [.c (.bool false)]⟩])
   (.seq (.seq (.reg 0 [⟨0, some 7, none, .p .mov, [.t 0]⟩,
    ⟨1, some 8, none, .p .len, [.t 7]⟩,
    ⟨2, some 9, none, .p .mov, [.c (.int .i64 0)]⟩])
   (.block 0 (.loop g204_0)))
   (.seq (.reg 0 [⟨0, some 4, none, .p .mov, [.c (.bool false)]⟩])
   (.ret))),
  [.tmp 4]⟩
/- loop.example/g00641/spec.DrawBadIn -/
def g627 : GL.Fn := ⟨.seq (.reg 0 [⟨0, some 2, none, .p .mov, [.c (.int .i64 0)]⟩,
    ⟨1, some 3, none, .p .mov, [.c (.nils)]⟩,
    ⟨2, some 4, none, .p .mov, [.c (.nils)]⟩])
   (.seq (.reg 0 [⟨0, some 5, none, .p .mov, [.t 0]⟩,
    ⟨1, some 6, none, .e .call [] [], [.f 641, .t 5]⟩,
    ⟨2, some 7, none, .p (.extract 0), [.t 6]⟩,
    ⟨3, some 8, none, .p (.extract 1), [.t 6]⟩,
    ⟨4, some 9, none, .p (.extract 2), [.t 6]⟩,
    ⟨5, some 2, none, .p .mov, [.t 7]⟩,
    ⟨6, some 3, none, .p .mov, [.t 8]⟩,
    ⟨7, some 4, none, .p .mov, [.t 9]⟩])
   (.ret)),
  [.tmp 2, .tmp 3, .tmp 4]⟩
/- loop.example/g00641/spec.BadIn -/
def g628 : GL.Fn := ⟨.seq (.reg 0 [⟨0, some 6, none, .l (.alloc 6 [.nils, .nils]), []⟩,
    ⟨1, some 7, none, .p .mov, [.c (.bool false)]⟩])
   (.seq (.seq (.reg 0 [⟨0, some 8, none, .p .mov, [.t 0]⟩,
    ⟨1, some 9, none, .p .mov, [.t 1]⟩,
    ⟨2, some 10, none, .p .mov, [.t 2]⟩,
    ⟨3, some 11, none, .e .call [] [], [.f 669, .t 8, .t 9, .t 10]⟩,
    ⟨4, some 12, none, .p (.un .not), [.t 11]⟩])
   (.cond (.t 12) (.seq (.reg 0 [⟨0, some 13, none, .p (.build [.nils, .nils] []), []⟩,
    ⟨1, none, none, .l (.store 6 2), [.t 6, .t 13]⟩,
    ⟨2, some 7, none, .p .mov, [.c (.bool false)]⟩])
   (.ret))
   (.skip)))
   (.seq (.reg 0 [⟨0, some 14, none, .p .mov, [.t 1]⟩,
    ⟨1, some 15, none, .p .mov, [.t 2]⟩,
    ⟨2, some 16, none, .e .call [] [], [.f 667, .t 14, .t 15]⟩,
    ⟨3, some 17, none, .p (.extract 0), [.t 16]⟩,
    ⟨4, some 18, none, .p (.extract 1), [.t 16]⟩,
    ⟨5, none, none, .l (.store 6 2), [.t 6, .t 17]⟩,
    ⟨6, some 7, none, .p .mov, [.t 18]⟩])
   (.ret))),
  [.cellL 6 6 true 2, .tmp 7]⟩
/- loop.example/g00641/laws.sameInts -/
def g24_0 : GL.Code := .seq (.reg 0 [⟨0, some 14, none, .p (.bin .lss), [.t 13, .t 12]⟩])
   (.seq (.cond (.t 14) (.skip)
   (.exit 0))
   (.seq (.block 1 (.seq (.reg 0 [⟨0, some 15, none, .p .mov, [.t 13]⟩,
    ⟨1, some 5, none, .p .mov, [.t 15]⟩])
   (.seq (.reg 0 [⟨0, some 16, none, .p .mov, [.t 0]⟩,
    ⟨1, some 17, none, .p .mov, [.t 5]⟩,
    ⟨2, some 18, none, .p (.idx 1), [.t 16, .t 17]⟩,
    ⟨3, some 19, none, .r (.load false 1) false, [.t 18]⟩,
    ⟨4, some 20, none, .p .mov, [.t 1]⟩,
    ⟨5, some 21, none, .p .mov, [.t 5]⟩,
    ⟨6, some 22, none, .p (.idx 1), [.t 20, .t 21]⟩,
    ⟨7, some 23, none, .r (.load false 1) false, [.t 22]⟩,
    ⟨8, some 24, none, .p (.bin .neq), [.t 19, .t 23]⟩])
   (.cond (.t 24) (.seq (.reg 0 [⟨0, some 4, none, .p .mov, [.c (.bool false)]⟩])
   (.ret))
   (.skip)))))
   (.reg 0 [⟨0, some 25, none, .p (.bin .add), [.t 13, .c (.int .i64 1)]⟩,
    ⟨1, some 13, none, .p .mov, [.t 25]⟩])))
def g24 : GL.Fn := ⟨.seq (.reg 0 [⟨0, some 4, none, .p .mov, [.c (.bool false)]⟩])
   (.seq (.seq (.reg 0 [⟨0, some 6, none, .p .mov, [.t 0]⟩,
    ⟨1, some 7, none, .p .len, [.t 6]⟩,
    ⟨2, some 8, none, .p .mov, [.t 1]⟩,
    ⟨3, some 9, none, .p .len, [.t 8]⟩,
    ⟨4, some 10, none, .p (.bin .neq), [.t 7, .t 9]⟩])
   (.cond (.t 10) (.seq (.reg 0 [⟨0, some 4, none, .p .mov, [.c (.bool false)]⟩])
   (.ret))
   (.skip)))
   (.seq (.seq (.reg 0 [⟨0, some 11, none, .p .mov, [.t 0]⟩,
    ⟨1, some 12, none, .p .len, [.t 11]⟩,
    ⟨2, some 13, none, .p .mov, [.c (.int .i64 0)]⟩])
   (.block 0 (.loop g24_0)))
   (.seq (.reg 0 [⟨0, some 4, none, .p .mov, [.c (.bool true)]⟩])
   (.ret)))),
  [.tmp 4]⟩
/- loop.example/g00641/impl.SplitBy -/
def g629 : GL.Fn := ⟨.seq (.reg 0 [⟨0, some 5, none, .l (.box 5 2), [.t 2]⟩,
    ⟨1, some 6, none, .p .mov, [.c (.nils)]⟩,
    ⟨2, some 7, none, .p .mov, [.c (.nils)]⟩,
    ⟨3, some 8, none, .p .mov, [.c (.bool false)]⟩])
   (.seq (.seq (.reg 0 [⟨0, some 9, none, .p .mov, [.t 0]⟩,
    ⟨1, some 10, none, .e .call [] [], [.f 107, .t 9, .c (.int .i64 1), .c (.int .i64 6)]⟩,
    ⟨2, some 11, none, .p (.un .not), [.t 10]⟩,
    ⟨3, some 12, none, .p .mov, [.t 11]⟩,
    ⟨4, some 13, some (12, false), .p .mov, [.t 0]⟩,
    ⟨5, some 14, some (12, false), .p .mov, [.t 1]⟩,
    ⟨6, some 15, some (12, false), .e .call [] [], [.f 655, .t 13, .t 14]⟩,
    ⟨7, some 16, some (12, false), .p (.un .not), [.t 15]⟩,
    ⟨8, some 17, none, .p .pick, [.t 12, .c (.bool true), .t 16]⟩,
    ⟨9, some 18, none, .p .mov, [.t 17]⟩,
    ⟨10, some 19, some (18, false), .p (.faddr 0), [.t 5]⟩,
    ⟨11, some 20, some (18, false), .l (.load 5 false 1), [.t 19]⟩,
    ⟨12, some 21, some (18, false), .p .mov, [.t 1]⟩,
    ⟨13, some 22, some (18, false), .e .call [] [], [.f 660, .t 20, .t 21]⟩,
    ⟨14, some 23, some (18, false), .p (.un .not), [.t 22]⟩,
    ⟨15, some 24, none, .p .pick, [.t 18, .c (.bool true), .t 23]⟩,
    ⟨16, some 25, none, .p .mov, [.t 24]⟩,
    ⟨17, some 26, some (25, false), .p (.faddr 1), [.t 5]⟩,
    ⟨18, some 27, some (25, false), .l (.load 5 false 1), [.t 26]⟩,
    ⟨19, some 28, some (25, false), .p .mov, [.t 1]⟩,
    ⟨20, some 29, some (25, false), .e .call [] [], [.f 660, .t 27, .t 28]⟩,
    ⟨21, some 30, some (25, false), .p (.un .not), [.t 29]⟩,
    ⟨22, some 31, none, .p .pick, [.t 25, .c (.bool true), .t 30]⟩,
    ⟨23, some 32, none, .p .mov, [.t 31]⟩,
    ⟨24, some 33, some (32, false), .p (.faddr 0), [.t 5]⟩,
    ⟨25, some 34, some (32, false), .l (.load 5 false 1), [.t 33]⟩,
    ⟨26, some 35, some (32, false), .p (.faddr 1), [.t 5]⟩,
    ⟨27, some 36, some (32, false), .l (.load 5 false 1), [.t 35]⟩,
    ⟨28, some 37, some (32, false), .e .call [] [], [.f 336, .t 34, .t 36]⟩,
    ⟨29, some 38, some (32, false), .p .len, [.t 37]⟩,
    ⟨30, some 39, some (32, false), .p (.bin .gtr), [.t 38, .c (.int .i64 0)]⟩,
    ⟨31, some 40, none, .p .pick, [.t 32, .c (.bool true), .t 39]⟩])
   (.cond (.t 40) (.seq (.reg 0 [⟨0, some 6, none, .p .mov, [.c (.nils)]⟩,
    ⟨1, some 7, none, .p .mov, [.c (.nils)]⟩,
    ⟨2, some 8, none, .p .mov, [.c (.bool false)]⟩])
   (.ret))
   (.skip)))
   (.seq (.reg 0 [⟨0, some 41, none, .p (.faddr 0), [.t 5]⟩,
    ⟨1, some 42, none, .l (.load 5 false 1), [.t 41]⟩,
    ⟨2, some 43, none, .p (.faddr 1), [.t 5]⟩,
    ⟨3, some 44, none, .l (.load 5 false 1), [.t 43]⟩,
    ⟨4, some 45, none, .e .call [] [], [.f 412, .t 42, .t 44]⟩,
    ⟨5, some 46, none, .p .mov, [.t 1]⟩,
    ⟨6, some 47, none, .p (.faddr 1), [.t 5]⟩,
    ⟨7, some 48, none, .l (.load 5 false 1), [.t 47]⟩,
    ⟨8, some 49, none, .e .call [] [], [.f 428, .t 46, .t 48]⟩,
    ⟨9, some 6, none, .p .mov, [.t 45]⟩,
    ⟨10, some 7, none, .p .mov, [.t 49]⟩,
    ⟨11, some 8, none, .p .mov, [.c (.bool true)]⟩])
   (.ret))),
  [.tmp 6, .tmp 7, .tmp 8]⟩
/- loop.example/g00641/impl.IsKept -/
def g630 : GL.Fn := ⟨.seq (.reg 0 [⟨0, some 7, none, .l (.box 7 2), [.t 3]⟩,
    ⟨1, some 8, none, .p .mov, [.c (.bool false)]⟩,
    ⟨2, some 9, none, .p .mov, [.c (.bool false)]⟩])
   (.seq (.seq (.reg 0 [⟨0, some 10, none, .p .mov, [.t 0]⟩,
    ⟨1, some 11, none, .p .mov, [.t 1]⟩,
    ⟨2, some 12, none, .e .call [] [], [.f 616, .t 10, .t 11]⟩,
    ⟨3, some 13, none, .p (.un .not), [.t 12]⟩,
    ⟨4, some 14, none, .p .mov, [.t 13]⟩,
    ⟨5, some 15, some (14, false), .p .mov, [.t 0]⟩,
    ⟨6, some 16, some (14, false), .p .mov, [.t 2]⟩,
    ⟨7, some 17, some (14, false), .e .call [] [], [.f 655, .t 15, .t 16]⟩,
    ⟨8, some 18, some (14, false), .p (.un .not), [.t 17]⟩,
    ⟨9, some 19, none, .p .pick, [.t 14, .c (.bool true), .t 18]⟩,
    ⟨10, some 20, none, .p .mov, [.t 19]⟩,
    ⟨11, some 21, some (20, false), .p (.faddr 0), [.t 7]⟩,
    ⟨12, some 22, some (20, false), .l (.load 7 false 1), [.t 21]⟩,
    ⟨13, some 23, some (20, false), .p .mov, [.t 2]⟩,
    ⟨14, some 24, some (20, false), .e .call [] [], [.f 660, .t 22, .t 23]⟩,
    ⟨15, some 25, some (20, false), .p (.un .not), [.t 24]⟩,
    ⟨16, some 26, none, .p .pick, [.t 20, .c (.bool true), .t 25]⟩,
    ⟨17, some 27, none, .p .mov, [.t 26]⟩,
    ⟨18, some 28, some (27, false), .p (.faddr 1), [.t 7]⟩,
    ⟨19, some 29, some (27, false), .l (.load 7 false 1), [.t 28]⟩,
    ⟨20, some 30, some (27, false), .p .mov, [.t 2]⟩,
    ⟨21, some 31, some (27, false), .e .call [] [], [.f 660, .t 29, .t 30]⟩,
    ⟨22, some 32, some (27, false), .p (.un .not), [.t 31]⟩,
    ⟨23, some 33, none, .p .pick, [.t 27, .c (.bool true), .t 32]⟩])
   (.cond (.t 33) (.seq (.reg 0 [⟨0, some 8, none, .p .mov, [.c (.bool false)]⟩,
    ⟨1, some 9, none, .p .mov, [.c (.bool false)]⟩])
   (.ret))
   (.skip)))
   (.seq (.reg 0 [⟨0, some 34, none, .p .mov, [.t 1]⟩,
    ⟨1, some 35, none, .l (.load 7 true 2), [.t 7]⟩,
    ⟨2, some 36, none, .e .call [] [], [.f 652, .t 34, .t 35]⟩,
    ⟨3, some 8, none, .p .mov, [.t 36]⟩,
    ⟨4, some 9, none, .p .mov, [.c (.bool true)]⟩])
   (.ret))),
  [.tmp 8, .tmp 9]⟩
/- loop.example/g00641/spec.DrawSplitBy -/
def g631 : GL.Fn := ⟨.seq (.reg 0 [⟨0, some 2, none, .p .mov, [.c (.int .i64 0)]⟩,
    ⟨1, some 3, none, .p .mov, [.c (.nils)]⟩,
    ⟨2, some 4, none, .l (.alloc 4 [.nils, .nils]), []⟩])
   (.seq (.reg 0 [⟨0, some 9, none, .p .mov, [.t 0]⟩,
    ⟨1, some 10, none, .p (.build [.nils, .int .i64 0, .int .u64 0] [(0, 1)]), [.t 9]⟩,
    ⟨2, some 11, none, .e (.new (.box 3)) [] [], [.t 10]⟩,
    ⟨3, some 5, none, .p .mov, [.t 11]⟩])
   (.seq (.reg 0 [⟨0, some 12, none, .p .mov, [.t 5]⟩,
    ⟨1, some 13, none, .e .call [] [], [.f 670, .t 12]⟩,
    ⟨2, some 6, none, .p .mov, [.t 13]⟩])
   (.seq (.reg 0 [⟨0, some 14, none, .p .mov, [.t 5]⟩,
    ⟨1, some 15, none, .p .mov, [.t 6]⟩,
    ⟨2, some 16, none, .e .call [] [], [.f 658, .t 14, .t 15]⟩,
    ⟨3, some 7, none, .p .mov, [.t 16]⟩])
   (.seq (.seq (.reg 0 [⟨0, some 17, none, .p .mov, [.t 5]⟩,
    ⟨1, some 18, none, .e .call [] [], [.f 92, .t 17, .c (.int .i64 2)]⟩])
   (.cond (.t 18) (.reg 0 [⟨0, some 19, none, .p .mov, [.t 6]⟩,
    ⟨1, some 20, none, .p (.conv .u64), [.t 19]⟩,
    ⟨2, some 21, none, .p (.bin .shl), [.c (.int .i64 1), .t 20]⟩,
    ⟨3, some 22, none, .p (.bin .sub), [.t 21, .c (.int .i64 1)]⟩,
    ⟨4, some 23, none, .e .call [] [], [.f 648, .t 22]⟩,
    ⟨5, some 7, none, .p .mov, [.t 23]⟩])
   (.skip)))
   (.seq (.reg 0 [⟨0, some 24, none, .p .mov, [.t 5]⟩,
    ⟨1, some 25, none, .p .mov, [.t 6]⟩,
    ⟨2, some 26, none, .e .call [] [], [.f 658, .t 24, .t 25]⟩,
    ⟨3, some 8, none, .p .mov, [.t 26]⟩])
   (.seq (.reg 0 [⟨0, some 27, none, .p .mov, [.t 6]⟩,
    ⟨1, some 28, none, .p .mov, [.t 7]⟩,
    ⟨2, some 29, none, .p .mov, [.t 8]⟩,
    ⟨3, some 30, none, .p .mov, [.t 5]⟩,
    ⟨4, some 31, none, .p .mov, [.t 6]⟩,
    ⟨5, some 32, none, .e .call [] [], [.f 658, .t 30, .t 31]⟩,
    ⟨6, some 33, none, .p .mov, [.t 8]⟩,
    ⟨7, some 34, none, .e .call [] [], [.f 548, .t 32, .t 33]⟩,
    ⟨8, some 35, none, .p (.build [.nils, .nils] [(0, 1), (1, 1)]), [.t 29, .t 34]⟩,
    ⟨9, some 2, none, .p .mov, [.t 27]⟩,
    ⟨10, some 3, none, .p .mov, [.t 28]⟩,
    ⟨11, none, none, .l (.store 4 2), [.t 4, .t 35]⟩])
   (.ret))))))),
  [.tmp 2, .tmp 3, .cellL 4 4 true 2]⟩
/- loop.example/g00641/spec.SplitBy -/
def g632 : GL.Fn := ⟨.seq (.reg 0 [⟨0, some 5, none, .l (.box 5 2), [.t 2]⟩,
    ⟨1, some 6, none, .p .mov, [.c (.nils)]⟩,
    ⟨2, some 7, none, .p .mov, [.c (.nils)]⟩,
    ⟨3, some 8, none, .p .mov, [.c (.bool false)]⟩])
   (.seq (.seq (.reg 0 [⟨0, some 9, none, .p .mov, [.t 0]⟩,
    ⟨1, some 10, none, .l (.load 5 true 2), [.t 5]⟩,
    ⟨2, some 11, none, .e (.new (.lit 2)) [] [], [.t 10]⟩,
    ⟨3, some 12, none, .p .mov, [.t 1]⟩,
    ⟨4, some 13, none, .e .call [] [], [.f 669, .t 9, .t 11, .t 12]⟩,
    ⟨5, some 14, none, .p (.un .not), [.t 13]⟩,
    ⟨6, some 15, none, .p .mov, [.t 14]⟩,
    ⟨7, some 16, some (15, false), .p (.faddr 0), [.t 5]⟩,
    ⟨8, some 17, some (15, false), .l (.load 5 false 1), [.t 16]⟩,
    ⟨9, some 18, some (15, false), .p .mov, [.t 1]⟩,
    ⟨10, some 19, some (15, false), .e .call [] [], [.f 554, .t 17, .t 18]⟩,
    ⟨11, some 20, some (15, false), .p (.un .not), [.t 19]⟩,
    ⟨12, some 21, none, .p .pick, [.t 15, .c (.bool true), .t 20]⟩,
    ⟨13, some 22, none, .p .mov, [.t 21]⟩,
    ⟨14, some 23, some (22, false), .p (.faddr 1), [.t 5]⟩,
    ⟨15, some 24, some (22, false), .l (.load 5 false 1), [.t 23]⟩,
    ⟨16, some 25, some (22, false), .p .mov, [.t 1]⟩,
    ⟨17, some 26, some (22, false), .e .call [] [], [.f 554, .t 24, .t 25]⟩,
    ⟨18, some 27, some (22, false), .p (.un .not), [.t 26]⟩,
    ⟨19, some 28, none, .p .pick, [.t 22, .c (.bool true), .t 27]⟩,
    ⟨20, some 29, none, .p .mov, [.t 28]⟩,
    ⟨21, some 30, some (29, false), .p (.faddr 0), [.t 5]⟩,
    ⟨22, some 31, some (29, false), .l (.load 5 false 1), [.t 30]⟩,
    ⟨23, some 32, some (29, false), .p (.faddr 1), [.t 5]⟩,
    ⟨24, some 33, some (29, false), .l (.load 5 false 1), [.t 32]⟩,
    ⟨25, some 34, some (29, false), .e .call [] [], [.f 338, .t 31, .t 33]⟩,
    ⟨26, some 35, some (29, false), .p .len, [.t 34]⟩,
    ⟨27, some 36, some (29, false), .p (.bin .gtr), [.t 35, .c (.int .i64 0)]⟩,
    ⟨28, some 37, none, .p .pick, [.t 29, .c (.bool true), .t 36]⟩])
   (.cond (.t 37) (.seq (.reg 0 [⟨0, some 6, none, .p .mov, [.c (.nils)]⟩,
    ⟨1, some 7, none, .p .mov, [.c (.nils)]⟩,
    ⟨2, some 8, none, .p .mov, [.c (.bool false)]⟩])
   (.ret))
   (.skip)))
   (.seq (.reg 0 [⟨0, some 38, none, .p (.faddr 0), [.t 5]⟩,
    ⟨1, some 39, none, .l (.load 5 false 1), [.t 38]⟩,
    ⟨2, some 40, none, .p (.faddr 1), [.t 5]⟩,
    ⟨3, some 41, none, .l (.load 5 false 1), [.t 40]⟩,
    ⟨4, some 42, none, .e .call [] [], [.f 668, .t 39, .t 41]⟩,
    ⟨5, some 43, none, .p .mov, [.t 1]⟩,
    ⟨6, some 44, none, .p (.faddr 1), [.t 5]⟩,
    ⟨7, some 45, none, .l (.load 5 false 1), [.t 44]⟩,
    ⟨8, some 46, none, .e .call [] [], [.f 548, .t 43, .t 45]⟩,
    ⟨9, some 6, none, .p .mov, [.t 42]⟩,
    ⟨10, some 7, none, .p .mov, [.t 46]⟩,
    ⟨11, some 8, none, .p .mov, [.c (.bool true)]⟩])
   (.ret))),
  [.tmp 6, .tmp 7, .tmp 8]⟩
/- loop.example/g00641/spec.DrawIsKept -/
def g633 : GL.Fn := ⟨.seq (.reg 0 [⟨0, some 2, none, .p .mov, [.c (.int .i64 0)]⟩,
    ⟨1, some 3, none, .p .mov, [.c (.nils)]⟩,
    ⟨2, some 4, none, .p .mov, [.c (.nils)]⟩,
    ⟨3, some 5, none, .l (.alloc 5 [.nils, .nils]), []⟩])
   (.seq (.reg 0 [⟨0, some 10, none, .p .mov, [.t 0]⟩,
    ⟨1, some 11, none, .p (.build [.nils, .int .i64 0, .int .u64 0] [(0, 1)]), [.t 10]⟩,
    ⟨2, some 12, none, .e (.new (.box 3)) [] [], [.t 11]⟩,
    ⟨3, some 6, none, .p .mov, [.t 12]⟩])
   (.seq (.reg 0 [⟨0, some 13, none, .p .mov, [.t 6]⟩,
    ⟨1, some 14, none, .e .call [] [], [.f 670, .t 13]⟩,
    ⟨2, some 7, none, .p .mov, [.t 14]⟩])
   (.seq (.reg 0 [⟨0, some 15, none, .p .mov, [.t 6]⟩,
    ⟨1, some 16, none, .p .mov, [.t 7]⟩,
    ⟨2, some 17, none, .e .call [] [], [.f 671, .t 15, .t 16]⟩,
    ⟨3, some 8, none, .p .mov, [.t 17]⟩])
   (.seq (.reg 0 [⟨0, some 18, none, .p .mov, [.t 7]⟩,
    ⟨1, some 19, none, .e .call [] [], [.f 90, .c (.int .i64 0), .t 18]⟩,
    ⟨2, some 20, none, .p (.conv .u64), [.t 19]⟩,
    ⟨3, some 21, none, .p (.bin .shl), [.c (.int .i64 1), .t 20]⟩,
    ⟨4, some 22, none, .p (.bin .sub), [.t 21, .c (.int .i64 1)]⟩,
    ⟨5, some 23, none, .e .call [] [], [.f 648, .t 22]⟩,
    ⟨6, some 9, none, .p .mov, [.t 23]⟩])
   (.seq (.seq (.reg 0 [⟨0, some 24, none, .p .mov, [.t 6]⟩,
    ⟨1, some 25, none, .e .call [] [], [.f 92, .t 24, .c (.int .i64 4)]⟩])
   (.cond (.t 25) (.reg 0 [⟨0, some 26, none, .p .mov, [.t 6]⟩,
    ⟨1, some 27, none, .p .mov, [.t 7]⟩,
    ⟨2, some 28, none, .e .call [] [], [.f 658, .t 26, .t 27]⟩,
    ⟨3, some 9, none, .p .mov, [.t 28]⟩])
   (.skip)))
   (.seq (.reg 0 [⟨0, some 29, none, .p .mov, [.t 7]⟩,
    ⟨1, some 30, none, .p .mov, [.t 8]⟩,
    ⟨2, some 31, none, .p .mov, [.t 9]⟩,
    ⟨3, some 32, none, .p .mov, [.t 6]⟩,
    ⟨4, some 33, none, .p .mov, [.t 7]⟩,
    ⟨5, some 34, none, .e .call [] [], [.f 658, .t 32, .t 33]⟩,
    ⟨6, some 35, none, .p .mov, [.t 6]⟩,
    ⟨7, some 36, none, .p .mov, [.t 7]⟩,
    ⟨8, some 37, none, .e .call [] [], [.f 658, .t 35, .t 36]⟩,
    ⟨9, some 38, none, .p (.build [.nils, .nils] [(0, 1), (1, 1)]), [.t 34, .t 37]⟩,
    ⟨10, some 2, none, .p .mov, [.t 29]⟩,
    ⟨11, some 3, none, .p .mov, [.t 30]⟩,
    ⟨12, some 4, none, .p .mov, [.t 31]⟩,
    ⟨13, none, none, .l (.store 5 2), [.t 5, .t 38]⟩])
   (.ret))))))),
  [.tmp 2, .tmp 3, .tmp 4, .cellL 5 5 true 2]⟩
/- loop.example/g00641/spec.IsKept -/
def g634 : GL.Fn := ⟨.seq (.reg 0 [⟨0, some 7, none, .l (.box 7 2), [.t 3]⟩,
    ⟨1, some 8, none, .p .mov, [.c (.bool false)]⟩,
    ⟨2, some 9, none, .p .mov, [.c (.bool false)]⟩])
   (.seq (.seq (.reg 0 [⟨0, some 10, none, .p .mov, [.t 0]⟩,
    ⟨1, some 11, none, .p .mov, [.t 1]⟩,
    ⟨2, some 12, none, .p .mov, [.t 2]⟩,
    ⟨3, some 13, none, .e .call [] [], [.f 669, .t 10, .t 11, .t 12]⟩,
    ⟨4, some 14, none, .p (.un .not), [.t 13]⟩,
    ⟨5, some 15, none, .p .mov, [.t 14]⟩,
    ⟨6, some 16, some (15, false), .p .mov, [.t 0]⟩,
    ⟨7, some 17, some (15, false), .l (.load 7 true 2), [.t 7]⟩,
    ⟨8, some 18, some (15, false), .e .call [] [], [.f 672, .t 16, .t 17]⟩,
    ⟨9, some 19, some (15, false), .p (.un .not), [.t 18]⟩,
    ⟨10, some 20, none, .p .pick, [.t 15, .c (.bool true), .t 19]⟩,
    ⟨11, some 21, none, .p .mov, [.t 20]⟩,
    ⟨12, some 22, some (21, false), .p (.faddr 0), [.t 7]⟩,
    ⟨13, some 23, some (21, false), .l (.load 7 false 1), [.t 22]⟩,
    ⟨14, some 24, some (21, false), .p .mov, [.t 2]⟩,
    ⟨15, some 25, some (21, false), .e .call [] [], [.f 554, .t 23, .t 24]⟩,
    ⟨16, some 26, some (21, false), .p (.un .not), [.t 25]⟩,
    ⟨17, some 27, none, .p .pick, [.t 21, .c (.bool true), .t 26]⟩,
    ⟨18, some 28, none, .p .mov, [.t 27]⟩,
    ⟨19, some 29, some (28, false), .p (.faddr 1), [.t 7]⟩,
    ⟨20, some 30, some (28, false), .l (.load 7 false 1), [.t 29]⟩,
    ⟨21, some 31, some (28, false), .p .mov, [.t 2]⟩,
    ⟨22, some 32, some (28, false), .e .call [] [], [.f 554, .t 30, .t 31]⟩,
    ⟨23, some 33, some (28, false), .p (.un .not), [.t 32]⟩,
    ⟨24, some 34, none, .p .pick, [.t 28, .c (.bool true), .t 33]⟩])
   (.cond (.t 34) (.seq (.reg 0 [⟨0, some 8, none, .p .mov, [.c (.bool false)]⟩,
    ⟨1, some 9, none, .p .mov, [.c (.bool false)]⟩])
   (.ret))
   (.skip)))
   (.seq (.reg 0 [⟨0, some 35, none, .p (.faddr 1), [.t 7]⟩,
    ⟨1, some 36, none, .l (.load 7 false 1), [.t 35]⟩,
    ⟨2, some 37, none, .p .mov, [.t 1]⟩,
    ⟨3, some 38, none, .p (.faddr 0), [.t 7]⟩,
    ⟨4, some 39, none, .l (.load 7 false 1), [.t 38]⟩,
    ⟨5, some 40, none, .e .call [] [], [.f 649, .t 37, .t 39]⟩,
    ⟨6, some 41, none, .e .call [] [], [.f 554, .t 36, .t 40]⟩,
    ⟨7, some 8, none, .p .mov, [.t 41]⟩,
    ⟨8, some 9, none, .p .mov, [.c (.bool true)]⟩])
   (.ret))),
  [.tmp 8, .tmp 9]⟩
/- (*loop.example/g00641/spec.l1Cur).pick -/
def g91 : GL.Fn := ⟨.seq (.reg 0 [⟨0, some 4, none, .p .mov, [.c (.int .i64 0)]⟩])
   (.seq (.seq (.reg 0 [⟨0, some 6, none, .p .mov, [.t 1]⟩,
    ⟨1, some 7, none, .p (.bin .leq), [.t 6, .c (.int .i64 1)]⟩])
   (.cond (.t 7) (.seq (.reg 0 [⟨0, some 4, none, .p .mov, [.c (.int .i64 0)]⟩])
   (.ret))
   (.skip)))
   (.seq (.reg 0 [⟨0, some 8, none, .p .mov, [.t 0]⟩,
    ⟨1, some 9, none, .e .call [] [], [.f 140, .t 8]⟩,
    ⟨2, some 5, none, .p .mov, [.t 9]⟩])
   (.seq (.seq (.reg 0 [⟨0, some 10, none, .p .mov, [.t 1]⟩,
    ⟨1, some 11, none, .p (.bin .gtr), [.t 10, .c (.int .i64 200)]⟩])
   (.cond (.t 11) (.reg 0 [⟨0, some 12, none, .p .mov, [.t 5]⟩,
    ⟨1, some 13, none, .p (.bin .mul), [.t 12, .c (.int .i64 256)]⟩,
    ⟨2, some 14, none, .p .mov, [.t 0]⟩,
    ⟨3, some 15, none, .e .call [] [], [.f 140, .t 14]⟩,
    ⟨4, some 16, none, .p (.bin .add), [.t 13, .t 15]⟩,
    ⟨5, some 5, none, .p .mov, [.t 16]⟩])
   (.skip)))
   (.seq (.reg 0 [⟨0, some 17, none, .p .mov, [.t 5]⟩,
    ⟨1, some 18, none, .p .mov, [.t 1]⟩,
    ⟨2, some 19, none, .p (.bin .rem), [.t 17, .t 18]⟩,
    ⟨3, some 4, none, .p .mov, [.t 19]⟩])
   (.ret))))),
  [.tmp 4]⟩
/- loop.example/g00641/impl.within -/
def g107 : GL.Fn := ⟨.seq (.reg 0 [⟨0, some 6, none, .p .mov, [.c (.bool false)]⟩])
   (.seq (.reg 0 [⟨0, some 7, none, .p .mov, [.t 0]⟩,
    ⟨1, some 8, none, .p .mov, [.t 1]⟩,
    ⟨2, some 9, none, .p (.bin .geq), [.t 7, .t 8]⟩,
    ⟨3, some 10, none, .p .mov, [.t 9]⟩,
    ⟨4, some 11, some (10, true), .p .mov, [.t 0]⟩,
    ⟨5, some 12, some (10, true), .p .mov, [.t 2]⟩,
    ⟨6, some 13, some (10, true), .p (.bin .leq), [.t 11, .t 12]⟩,
    ⟨7, some 14, none, .p .pick, [.t 10, .t 13, .c (.bool false)]⟩,
    ⟨8, some 6, none, .p .mov, [.t 14]⟩])
   (.ret)),
  [.tmp 6]⟩
/- loop.example/g00641/spec.l1In -/
def g98 : GL.Fn := ⟨.seq (.reg 0 [⟨0, some 6, none, .p .mov, [.c (.bool false)]⟩])
   (.seq (.reg 0 [⟨0, some 7, none, .p .mov, [.t 0]⟩,
    ⟨1, some 8, none, .p .mov, [.t 1]⟩,
    ⟨2, some 9, none, .p (.bin .geq), [.t 7, .t 8]⟩,
    ⟨3, some 10, none, .p .mov, [.t 9]⟩,
    ⟨4, some 11, some (10, true), .p .mov, [.t 0]⟩,
    ⟨5, some 12, some (10, true), .p .mov, [.t 2]⟩,
    ⟨6, some 13, some (10, true), .p (.bin .leq), [.t 11, .t 12]⟩,
    ⟨7, some 14, none, .p .pick, [.t 10, .t 13, .c (.bool false)]⟩,
    ⟨8, some 6, none, .p .mov, [.t 14]⟩])
   (.ret)),
  [.tmp 6]⟩
/- (*loop.example/g00641/spec.l1Cur).one -/
def g92 : GL.Fn := ⟨.seq (.reg 0 [⟨0, some 4, none, .p .mov, [.c (.bool false)]⟩])
   (.seq (.reg 0 [⟨0, some 5, none, .p .mov, [.t 0]⟩,
    ⟨1, some 6, none, .p .mov, [.t 1]⟩,
    ⟨2, some 7, none, .e .call [] [], [.f 91, .t 5, .t 6]⟩,
    ⟨3, some 8, none, .p (.bin .eql), [.t 7, .c (.int .i64 0)]⟩,
    ⟨4, some 4, none, .p .mov, [.t 8]⟩])
   (.ret)),
  [.tmp 4]⟩
/- loop.example/g00641/spec.DrawGoodDeps -/
def g643 : GL.Fn := ⟨.seq (.reg 0 [⟨0, some 2, none, .p .mov, [.c (.int .i64 0)]⟩,
    ⟨1, some 3, none, .p .mov, [.c (.nils)]⟩])
   (.seq (.reg 0 [⟨0, some 6, none, .p .mov, [.t 0]⟩,
    ⟨1, some 7, none, .p (.build [.nils, .int .i64 0, .int .u64 0] [(0, 1)]), [.t 6]⟩,
    ⟨2, some 8, none, .e (.new (.box 3)) [] [], [.t 7]⟩,
    ⟨3, some 4, none, .p .mov, [.t 8]⟩])
   (.seq (.reg 0 [⟨0, some 9, none, .p .mov, [.t 4]⟩,
    ⟨1, some 10, none, .e .call [] [], [.f 670, .t 9]⟩,
    ⟨2, some 5, none, .p .mov, [.t 10]⟩])
   (.seq (.reg 0 [⟨0, some 11, none, .p .mov, [.t 5]⟩,
    ⟨1, some 12, none, .p .mov, [.t 4]⟩,
    ⟨2, some 13, none, .p .mov, [.t 5]⟩,
    ⟨3, some 14, none, .e .call [] [], [.f 671, .t 12, .t 13]⟩,
    ⟨4, some 2, none, .p .mov, [.t 11]⟩,
    ⟨5, some 3, none, .p .mov, [.t 14]⟩])
   (.ret)))),
  [.tmp 2, .tmp 3]⟩
/- loop.example/g00641/impl.GoodDeps -/
def g616 : GL.Fn := ⟨.seq (.reg 0 [⟨0, some 2, none, .e (.new (.box 1)) [] [], [.t 0]⟩,
    ⟨1, some 4, none, .p .mov, [.c (.bool false)]⟩])
   (.seq (.reg 0 [⟨0, some 5, none, .r (.load false 1) false, [.t 2]⟩,
    ⟨1, some 6, none, .e .call [] [], [.f 107, .t 5, .c (.int .i64 1), .c (.int .i64 6)]⟩,
    ⟨2, some 7, none, .p .mov, [.t 6]⟩,
    ⟨3, some 8, some (7, true), .p .mov, [.t 1]⟩,
    ⟨4, some 9, some (7, true), .p .len, [.t 8]⟩,
    ⟨5, some 10, some (7, true), .p (.bin .leq), [.t 9, .c (.int .i64 8)]⟩,
    ⟨6, some 11, none, .p .pick, [.t 7, .t 10, .c (.bool false)]⟩,
    ⟨7, some 12, none, .p .mov, [.t 11]⟩,
    ⟨8, some 13, some (12, true), .p .mov, [.t 1]⟩,
    ⟨9, some 14, some (12, true), .p (.mkFn 653), [.t 2]⟩,
    ⟨10, some 15, some (12, true), .e .call [] [], [.f 654, .t 13, .t 14]⟩,
    ⟨11, some 16, some (12, true), .p (.un .not), [.t 15]⟩,
    ⟨12, some 17, none, .p .pick, [.t 12, .t 16, .c (.bool false)]⟩,
    ⟨13, some 4, none, .p .mov, [.t 17]⟩])
   (.ret)),
  [.tmp 4]⟩
/- loop.example/g00641/impl.allColumns -/
def g598_0 : GL.Code := .seq (.reg 0 [⟨0, some 8, none, .p (.bin .lss), [.t 7, .t 6]⟩])
   (.seq (.cond (.t 8) (.skip)
   (.exit 0))
   (.seq (.block 1 (.seq (.reg 0 [⟨0, some 9, none, .p .mov, [.t 7]⟩,
    ⟨1, some 4, none, .p .mov, [.t 9]⟩])
   (.reg 0 [⟨0, some 10, none, .p .mov, [.t 3]⟩,
    ⟨1, some 11, none, .p .mov, [.t 4]⟩,
    ⟨2, some 12, none, .e (.new (.lit 1)) [] [], [.t 11]⟩,
    ⟨3, some 13, none, .e (.append 1 8) [] [], [.t 10, .t 12]⟩,
    ⟨4, some 3, none, .p .mov, [.t 13]⟩])))
   (.reg 0 [⟨0, some 14, none, .p (.bin .add), [.t 7, .c (.int .i64 1)]⟩,
    ⟨1, some 7, none, .p .mov, [.t 14]⟩])))
def g598 : GL.Fn := ⟨.seq (.reg 0 [⟨0, some 2, none, .p .mov, [.c (.nils)]⟩])
   (.seq (.reg 0 [⟨0, some 5, none, .e (.new (.lit 1)) [] [], []⟩,
    ⟨1, some 3, none, .p .mov, [.t 5]⟩])
   (.seq (.seq (.reg 0 [⟨0, some 6, none, .p .mov, [.t 0]⟩,
    ⟨1, some 7, none, .p .mov, [.c (.int .i64 0)]⟩])
   (.block 0 (.loop g598_0)))
   (.seq (.reg 0 [⟨0, some 15, none, .p .mov, [.t 3]⟩,
    ⟨1, some 2, none, .p .mov, [.t 15]⟩])
   (.ret)))),
  [.tmp 2]⟩
/- loop.example/g00641/impl.badIn -/
def g665_0 : GL.Code := .seq (.reg 0 [⟨0, some 13, none, .p (.bin .lss), [.t 12, .t 11]⟩])
   (.seq (.cond (.t 13) (.skip)
   (.exit 0))
   (.seq (.block 1 (.seq (.reg 0 [⟨0, some 14, none, .p (.idx 1), [.t 10, .t 12]⟩,
    ⟨1, some 15, none, .r (.load false 1) false, [.t 14]⟩,
    ⟨2, some 7, none, .p .mov, [.t 15]⟩])
   (.seq (.reg 0 [⟨0, some 16, none, .p .mov, [.t 1]⟩,
    ⟨1, some 17, none, .p .mov, [.t 0]⟩,
    ⟨2, some 18, none, .p .mov, [.t 7]⟩,
    ⟨3, some 19, none, .e .call [] [], [.f 645, .t 17, .t 18]⟩,
    ⟨4, some 20, none, .e .call [] [], [.f 336, .t 16, .t 19]⟩,
    ⟨5, some 8, none, .p .mov, [.t 20]⟩])
   (.seq (.reg 0 [⟨0, some 21, none, .p .mov, [.t 8]⟩,
    ⟨1, some 22, none, .p .len, [.t 21]⟩,
    ⟨2, some 23, none, .p .mov, [.t 7]⟩,
    ⟨3, some 24, none, .p .len, [.t 23]⟩,
    ⟨4, some 25, none, .p (.bin .gtr), [.t 22, .t 24]⟩,
    ⟨5, some 26, none, .p .mov, [.t 25]⟩,
    ⟨6, some 27, some (26, true), .p .mov, [.t 8]⟩,
    ⟨7, some 28, some (26, true), .p .len, [.t 27]⟩,
    ⟨8, some 29, some (26, true), .p .mov, [.t 1]⟩,
    ⟨9, some 30, some (26, true), .p .len, [.t 29]⟩,
    ⟨10, some 31, some (26, true), .p (.bin .lss), [.t 28, .t 30]⟩,
    ⟨11, some 32, none, .p .pick, [.t 26, .t 31, .c (.bool false)]⟩])
   (.cond (.t 32) (.seq (.reg 0 [⟨0, some 33, none, .p .mov, [.t 7]⟩,
    ⟨1, some 34, none, .p .mov, [.t 8]⟩,
    ⟨2, some 35, none, .p .mov, [.t 7]⟩,
    ⟨3, some 36, none, .e .call [] [], [.f 428, .t 34, .t 35]⟩,
    ⟨4, some 37, none, .p (.build [.nils, .nils] [(0, 1), (1, 1)]), [.t 33, .t 36]⟩,
    ⟨5, none, none, .l (.store 4 2), [.t 4, .t 37]⟩,
    ⟨6, some 5, none, .p .mov, [.c (.bool true)]⟩])
   (.ret))
   (.skip))))))
   (.reg 0 [⟨0, some 38, none, .p (.bin .add), [.t 12, .c (.int .i64 1)]⟩,
    ⟨1, some 12, none, .p .mov, [.t 38]⟩])))
def g665 : GL.Fn := ⟨.seq (.reg 0 [⟨0, some 4, none, .l (.alloc 4 [.nils, .nils]), []⟩,
    ⟨1, some 5, none, .p .mov, [.c (.bool false)]⟩])
   (.seq (.seq (.reg 0 [⟨0, some 9, none, .p .mov, [.t 1]⟩,
    ⟨1, some 10, none, .e .call [] [], [.f 644, .t 9]⟩,
    ⟨2, some 11, none, .p .len, [.t 10]⟩,
    ⟨3, some 12, none, .p .mov, [.c (.int .i64 0)]⟩])
   (.block 0 (.loop g665_0)))
   (.seq (.reg 0 [⟨0, some 39, none, .p (.build [.nils, .nils] []), []⟩,
    ⟨1, none, none, .l (.store 4 2), [.t 4, .t 39]⟩,
    ⟨2, some 5, none, .p .mov, [.c (.bool false)]⟩])
   (.ret))),
  [.cellL 4 4 true 2, .tmp 5]⟩
/- loop.example/g00641/impl.together -/
def g412 : GL.Fn := ⟨.seq (.reg 0 [⟨0, some 4, none, .p .mov, [.c (.nils)]⟩])
   (.seq (.reg 0 [⟨0, some 6, none, .p .mov, [.t 0]⟩,
    ⟨1, some 7, none, .p .mov, [.t 1]⟩,
    ⟨2, some 8, none, .e (.new (.lit 1)) [] [], [.t 6, .t 7]⟩,
    ⟨3, some 9, none, .e .call [] [], [.f 429, .t 8]⟩,
    ⟨4, some 5, none, .p .mov, [.t 9]⟩])
   (.seq (.reg 0 [⟨0, some 10, none, .p .mov, [.t 5]⟩,
    ⟨1, some 11, none, .e .call [] [], [.f 340, .t 10]⟩])
   (.seq (.reg 0 [⟨0, some 12, none, .p .mov, [.t 5]⟩,
    ⟨1, some 13, none, .e .call [] [], [.f 430, .t 12]⟩,
    ⟨2, some 4, none, .p .mov, [.t 13]⟩])
   (.ret)))),
  [.tmp 4]⟩
/- loop.example/g00641/impl.without -/
def g428 : GL.Fn := ⟨.seq (.reg 0 [⟨0, some 3, none, .e (.new (.box 1)) [] [], [.t 1]⟩,
    ⟨1, some 4, none, .p .mov, [.c (.nils)]⟩])
   (.seq (.reg 0 [⟨0, some 5, none, .p .mov, [.t 0]⟩,
    ⟨1, some 6, none, .e .call [] [], [.f 389, .t 5]⟩,
    ⟨2, some 7, none, .p (.mkFn 435), [.t 3]⟩,
    ⟨3, some 8, none, .e .call [] [], [.f 397, .t 6, .t 7]⟩,
    ⟨4, some 4, none, .p .mov, [.t 8]⟩])
   (.ret)),
  [.tmp 4]⟩
/- loop.example/g00641/spec.GoodDeps -/
def g647_0 : GL.Code := .seq (.reg 0 [⟨0, some 18, none, .p (.bin .lss), [.t 17, .t 16]⟩])
   (.seq (.cond (.t 18) (.skip)
   (.exit 0))
   (.seq (.block 1 (.seq (.reg 0 [⟨0, some 19, none, .p (.idx 2), [.t 15, .t 17]⟩,
    ⟨1, some 20, none, .r (.load true 2) false, [.t 19]⟩,
    ⟨2, some 6, none, .l (.alloc 6 [.nils, .nils]), []⟩,
    ⟨3, none, none, .l (.store 6 2), [.t 6, .t 20]⟩])
   (.seq (.reg 0 [⟨0, some 21, none, .p .mov, [.t 0]⟩,
    ⟨1, some 22, none, .l (.load 6 true 2), [.t 6]⟩,
    ⟨2, some 23, none, .e .call [] [], [.f 672, .t 21, .t 22]⟩,
    ⟨3, some 24, none, .p (.un .not), [.t 23]⟩])
   (.cond (.t 24) (.seq (.reg 0 [⟨0, some 4, none, .p .mov, [.c (.bool false)]⟩])
   (.ret))
   (.skip)))))
   (.reg 0 [⟨0, some 25, none, .p (.bin .add), [.t 17, .c (.int .i64 1)]⟩,
    ⟨1, some 17, none, .p .mov, [.t 25]⟩])))
def g647 : GL.Fn := ⟨.seq (.reg 0 [⟨0, some 4, none, .p .mov, [.c (.bool false)]⟩])
   (.seq (.seq (.reg 0 [⟨0, some 7, none, .p .mov, [.t 0]⟩,
    ⟨1, some 8, none, .e .call [] [], [.f 98, .t 7, .c (.int .i64 1), .c (.int .i64 6)]⟩,
    ⟨2, some 9, none, .p (.un .not), [.t 8]⟩,
    ⟨3, some 10, none, .p .mov, [.t 9]⟩,
    ⟨4, some 11, some (10, false), .p .mov, [.t 1]⟩,
    ⟨5, some 12, some (10, false), .p .len, [.t 11]⟩,
    ⟨6, some 13, some (10, false), .p (.bin .gtr), [.t 12, .c (.int .i64 8)]⟩,
    ⟨7, some 14, none, .p .pick, [.t 10, .c (.bool true), .t 13]⟩])
   (.cond (.t 14) (.seq (.reg 0 [⟨0, some 4, none, .p .mov, [.c (.bool false)]⟩])
   (.ret))
   (.skip)))
   (.seq (.seq (.reg 0 [⟨0, some 15, none, .p .mov, [.t 1]⟩,
    ⟨1, some 16, none, .p .len, [.t 15]⟩,
    ⟨2, some 17, none, .p .mov, [.c (.int .i64 0)]⟩])
   (.block 0 (.loop g647_0)))
   (.seq (.reg 0 [⟨0, some 4, none, .p .mov, [.c (.bool true)]⟩])
   (.ret)))),
  [.tmp 4]⟩
/- loop.example/g00641/spec.l5List -/
def g648_0 : GL.Code := .seq (.seq (.reg 0 [⟨0, some 5, none, .p .mov, [.t 0]⟩,
    ⟨1, some 6, none, .p .mov, [.t 4]⟩,
    ⟨2, some 7, none, .p (.conv .u64), [.t 6]⟩,
    ⟨3, some 8, none, .p (.bin .shr), [.t 5, .t 7]⟩,
    ⟨4, some 9, none, .p (.bin .gtr), [.t 8, .c (.int .i64 0)]⟩])
   (.cond (.t 9) (.skip)
   (.exit 0)))
   (.seq (.block 1 (.seq (.reg 0 [⟨0, some 12, none, .p .mov, [.t 0]⟩,
    ⟨1, some 13, none, .p .mov, [.t 4]⟩,
    ⟨2, some 14, none, .p (.conv .u64), [.t 13]⟩,
    ⟨3, some 15, none, .p (.bin .shr), [.t 12, .t 14]⟩,
    ⟨4, some 16, none, .p (.bin .and), [.t 15, .c (.int .i64 1)]⟩,
    ⟨5, some 17, none, .p (.bin .eql), [.t 16, .c (.int .i64 1)]⟩])
   (.cond (.t 17) (.reg 0 [⟨0, some 18, none, .p .mov, [.t 3]⟩,
    ⟨1, some 19, none, .p .mov, [.t 4]⟩,
    ⟨2, some 20, none, .e (.new (.lit 1)) [] [], [.t 19]⟩,
    ⟨3, some 21, none, .e (.append 1 8) [] [], [.t 18, .t 20]⟩,
    ⟨4, some 3, none, .p .mov, [.t 21]⟩])
   (.skip))))
   (.reg 0 [⟨0, some 10, none, .p .mov, [.t 4]⟩,
    ⟨1, some 11, none, .p (.bin .add), [.t 10, .c (.int .i64 1)]⟩,
    ⟨2, some 4, none, .p .mov, [.t 11]⟩]))
def g648 : GL.Fn := ⟨.seq (.reg 0 [⟨0, some 2, none, .p .mov, [.c (.nils)]⟩])
   (.seq (.reg 0 [⟨0, some 3, none, .p .mov, [.c (.nils)]⟩])
   (.seq (.seq (.reg 0 [⟨0, some 4, none, .p .mov, [.c (.int .i64 0)]⟩])
   (.block 0 (.loop g648_0)))
   (.seq (.reg 0 [⟨0, some 22, none, .p .mov, [.t 3]⟩,
    ⟨1, some 2, none, .p .mov, [.t 22]⟩])
   (.ret)))),
  [.tmp 2]⟩
/- loop.example/g00641/spec.l6Bad -/
def g667_0 : GL.Code := .seq (.seq (.reg 0 [⟨0, some 12, none, .p .mov, [.t 7]⟩,
    ⟨1, some 13, none, .p .mov, [.t 6]⟩,
    ⟨2, some 14, none, .p (.bin .leq), [.t 12, .t 13]⟩])
   (.cond (.t 14) (.skip)
   (.exit 0)))
   (.seq (.block 1 (.seq (.seq (.reg 0 [⟨0, some 17, none, .p .mov, [.t 7]⟩,
    ⟨1, some 18, none, .p .mov, [.t 6]⟩,
    ⟨2, some 19, none, .p (.bin .and), [.t 17, .t 18]⟩,
    ⟨3, some 20, none, .p .mov, [.t 7]⟩,
    ⟨4, some 21, none, .p (.bin .neq), [.t 19, .t 20]⟩])
   (.cond (.t 21) (.exit 1)
   (.skip)))
   (.seq (.reg 0 [⟨0, some 22, none, .p .mov, [.t 7]⟩,
    ⟨1, some 23, none, .e .call [] [], [.f 648, .t 22]⟩,
    ⟨2, some 8, none, .p .mov, [.t 23]⟩])
   (.seq (.reg 0 [⟨0, some 24, none, .p .mov, [.t 1]⟩,
    ⟨1, some 25, none, .p .mov, [.t 0]⟩,
    ⟨2, some 26, none, .p .mov, [.t 8]⟩,
    ⟨3, some 27, none, .e .call [] [], [.f 649, .t 25, .t 26]⟩,
    ⟨4, some 28, none, .e .call [] [], [.f 338, .t 24, .t 27]⟩,
    ⟨5, some 9, none, .p .mov, [.t 28]⟩])
   (.seq (.reg 0 [⟨0, some 29, none, .p .mov, [.t 9]⟩,
    ⟨1, some 30, none, .p .len, [.t 29]⟩,
    ⟨2, some 31, none, .p .mov, [.t 8]⟩,
    ⟨3, some 32, none, .p .len, [.t 31]⟩,
    ⟨4, some 33, none, .p (.bin .gtr), [.t 30, .t 32]⟩,
    ⟨5, some 34, none, .p .mov, [.t 33]⟩,
    ⟨6, some 35, some (34, true), .p .mov, [.t 9]⟩,
    ⟨7, some 36, some (34, true), .p .len, [.t 35]⟩,
    ⟨8, some 37, some (34, true), .p .mov, [.t 1]⟩,
    ⟨9, some 38, some (34, true), .p .len, [.t 37]⟩,
    ⟨10, some 39, some (34, true), .p (.bin .lss), [.t 36, .t 38]⟩,
    ⟨11, some 40, none, .p .pick, [.t 34, .t 39, .c (.bool false)]⟩])
   (.cond (.t 40) (.seq (.reg 0 [⟨0, some 41, none, .p .mov, [.t 8]⟩,
    ⟨1, some 42, none, .p .mov, [.t 9]⟩,
    ⟨2, some 43, none, .p .mov, [.t 8]⟩,
    ⟨3, some 44, none, .e .call [] [], [.f 548, .t 42, .t 43]⟩,
    ⟨4, some 45, none, .p (.build [.nils, .nils] [(0, 1), (1, 1)]), [.t 41, .t 44]⟩,
    ⟨5, none, none, .l (.store 4 2), [.t 4, .t 45]⟩,
    ⟨6, some 5, none, .p .mov, [.c (.bool true)]⟩])
   (.ret))
   (.skip)))))))
   (.reg 0 [⟨0, some 15, none, .p .mov, [.t 7]⟩,
    ⟨1, some 16, none, .p (.bin .add), [.t 15, .c (.int .i64 1)]⟩,
    ⟨2, some 7, none, .p .mov, [.t 16]⟩]))
def g667 : GL.Fn := ⟨.seq (.reg 0 [⟨0, some 4, none, .l (.alloc 4 [.nils, .nils]), []⟩,
    ⟨1, some 5, none, .p .mov, [.c (.bool false)]⟩])
   (.seq (.reg 0 [⟨0, some 10, none, .p .mov, [.t 1]⟩,
    ⟨1, some 11, none, .e .call [] [], [.f 684, .t 10]⟩,
    ⟨2, some 6, none, .p .mov, [.t 11]⟩])
   (.seq (.seq (.reg 0 [⟨0, some 7, none, .p .mov, [.c (.int .i64 0)]⟩])
   (.block 0 (.loop g667_0)))
   (.seq (.reg 0 [⟨0, some 46, none, .p (.build [.nils, .nils] []), []⟩,
    ⟨1, none, none, .l (.store 4 2), [.t 4, .t 46]⟩,
    ⟨2, some 5, none, .p .mov, [.c (.bool false)]⟩])
   (.ret)))),
  [.cellL 4 4 true 2, .tmp 5]⟩
/- loop.example/g00641/spec.l6Either -/
def g668_0 : GL.Code := .seq (.reg 0 [⟨0, some 14, none, .p (.bin .lss), [.t 13, .t 12]⟩])
   (.seq (.cond (.t 14) (.skip)
   (.exit 0))
   (.seq (.block 1 (.seq (.reg 0 [⟨0, some 15, none, .p (.idx 1), [.t 11, .t 13]⟩,
    ⟨1, some 16, none, .r (.load false 1) false, [.t 15]⟩,
    ⟨2, some 7, none, .p .mov, [.t 16]⟩])
   (.reg 0 [⟨0, some 17, none, .p .mov, [.t 5]⟩,
    ⟨1, some 18, none, .p .mov, [.t 7]⟩,
    ⟨2, some 19, none, .e .call [] [], [.f 410, .t 17, .t 18]⟩,
    ⟨3, some 5, none, .p .mov, [.t 19]⟩])))
   (.reg 0 [⟨0, some 20, none, .p (.bin .add), [.t 13, .c (.int .i64 1)]⟩,
    ⟨1, some 13, none, .p .mov, [.t 20]⟩])))
def g668 : GL.Fn := ⟨.seq (.reg 0 [⟨0, some 4, none, .p .mov, [.c (.nils)]⟩])
   (.seq (.reg 0 [⟨0, some 8, none, .e (.new (.lit 1)) [] [], []⟩,
    ⟨1, some 9, none, .p .mov, [.t 0]⟩,
    ⟨2, some 10, none, .e (.append 1 8) [] [], [.t 8, .t 9]⟩,
    ⟨3, some 5, none, .p .mov, [.t 10]⟩])
   (.seq (.seq (.reg 0 [⟨0, some 11, none, .p .mov, [.t 1]⟩,
    ⟨1, some 12, none, .p .len, [.t 11]⟩,
    ⟨2, some 13, none, .p .mov, [.c (.int .i64 0)]⟩])
   (.block 0 (.loop g668_0)))
   (.seq (.reg 0 [⟨0, some 21, none, .p .mov, [.t 5]⟩,
    ⟨1, some 4, none, .p .mov, [.t 21]⟩])
   (.ret)))),
  [.tmp 4]⟩
/- loop.example/g00641/spec.l6Less -/
def g548_0 : GL.Code := .seq (.reg 0 [⟨0, some 11, none, .p (.bin .lss), [.t 10, .t 9]⟩])
   (.seq (.cond (.t 11) (.skip)
   (.exit 0))
   (.seq (.block 1 (.seq (.reg 0 [⟨0, some 12, none, .p (.idx 1), [.t 8, .t 10]⟩,
    ⟨1, some 13, none, .r (.load false 1) false, [.t 12]⟩,
    ⟨2, some 7, none, .p .mov, [.t 13]⟩])
   (.seq (.reg 0 [⟨0, some 14, none, .p .mov, [.t 1]⟩,
    ⟨1, some 15, none, .p .mov, [.t 7]⟩,
    ⟨2, some 16, none, .e .call [] [], [.f 302, .t 14, .t 15]⟩,
    ⟨3, some 17, none, .p (.un .not), [.t 16]⟩])
   (.cond (.t 17) (.reg 0 [⟨0, some 18, none, .p .mov, [.t 5]⟩,
    ⟨1, some 19, none, .p .mov, [.t 7]⟩,
    ⟨2, some 20, none, .e (.new (.lit 1)) [] [], [.t 19]⟩,
    ⟨3, some 21, none, .e (.append 1 8) [] [], [.t 18, .t 20]⟩,
    ⟨4, some 5, none, .p .mov, [.t 21]⟩])
   (.skip)))))
   (.reg 0 [⟨0, some 22, none, .p (.bin .add), [.t 10, .c (.int .i64 1)]⟩,
    ⟨1, some 10, none, .p .mov, [.t 22]⟩])))
def g548 : GL.Fn := ⟨.seq (.reg 0 [⟨0, some 4, none, .p .mov, [.c (.nils)]⟩])
   (.seq (.reg 0 [⟨0, some 5, none, .p .mov, [.c (.nils)]⟩])
   (.seq (.seq (.reg 0 [⟨0, some 8, none, .p .mov, [.t 0]⟩,
    ⟨1, some 9, none, .p .len, [.t 8]⟩,
    ⟨2, some 10, none, .p .mov, [.c (.int .i64 0)]⟩])
   (.block 0 (.loop g548_0)))
   (.seq (.reg 0 [⟨0, some 23, none, .p .mov, [.t 5]⟩,
    ⟨1, some 4, none, .p .mov, [.t 23]⟩])
   (.ret)))),
  [.tmp 4]⟩
/- loop.example/g00641/impl.areColumns -/
def g655 : GL.Fn := ⟨.seq (.reg 0 [⟨0, some 4, none, .p .mov, [.c (.bool false)]⟩])
   (.seq (.reg 0 [⟨0, some 5, none, .p .mov, [.t 1]⟩,
    ⟨1, some 6, none, .p .mov, [.t 0]⟩,
    ⟨2, some 7, none, .p (.bin .sub), [.t 6, .c (.int .i64 1)]⟩,
    ⟨3, some 8, none, .e .call [] [], [.f 385, .t 5, .c (.int .i64 0), .t 7]⟩,
    ⟨4, some 4, none, .p .mov, [.t 8]⟩])
   (.ret)),
  [.tmp 4]⟩
/- loop.example/g00641/spec.DrawClosureOf -/
def g641 : GL.Fn := ⟨.seq (.reg 0 [⟨0, some 2, none, .p .mov, [.c (.int .i64 0)]⟩,
    ⟨1, some 3, none, .p .mov, [.c (.nils)]⟩,
    ⟨2, some 4, none, .p .mov, [.c (.nils)]⟩])
   (.seq (.reg 0 [⟨0, some 7, none, .p .mov, [.t 0]⟩,
    ⟨1, some 8, none, .p (.build [.nils, .int .i64 0, .int .u64 0] [(0, 1)]), [.t 7]⟩,
    ⟨2, some 9, none, .e (.new (.box 3)) [] [], [.t 8]⟩,
    ⟨3, some 5, none, .p .mov, [.t 9]⟩])
   (.seq (.reg 0 [⟨0, some 10, none, .p .mov, [.t 5]⟩,
    ⟨1, some 11, none, .e .call [] [], [.f 670, .t 10]⟩,
    ⟨2, some 6, none, .p .mov, [.t 11]⟩])
   (.seq (.reg 0 [⟨0, some 12, none, .p .mov, [.t 6]⟩,
    ⟨1, some 13, none, .p .mov, [.t 5]⟩,
    ⟨2, some 14, none, .p .mov, [.t 6]⟩,
    ⟨3, some 15, none, .e .call [] [], [.f 671, .t 13, .t 14]⟩,
    ⟨4, some 16, none, .p .mov, [.t 5]⟩,
    ⟨5, some 17, none, .p .mov, [.t 6]⟩,
    ⟨6, some 18, none, .e .call [] [], [.f 658, .t 16, .t 17]⟩,
    ⟨7, some 2, none, .p .mov, [.t 12]⟩,
    ⟨8, some 3, none, .p .mov, [.t 15]⟩,
    ⟨9, some 4, none, .p .mov, [.t 18]⟩])
   (.ret)))),
  [.tmp 2, .tmp 3, .tmp 4]⟩
/- loop.example/g00641/spec.l6Part -/
def g669 : GL.Fn := ⟨.seq (.reg 0 [⟨0, some 6, none, .p .mov, [.c (.bool false)]⟩])
   (.seq (.reg 0 [⟨0, some 7, none, .p .mov, [.t 0]⟩,
    ⟨1, some 8, none, .p .mov, [.t 1]⟩,
    ⟨2, some 9, none, .e .call [] [], [.f 647, .t 7, .t 8]⟩,
    ⟨3, some 10, none, .p .mov, [.t 9]⟩,
    ⟨4, some 11, some (10, true), .p .mov, [.t 2]⟩,
    ⟨5, some 12, some (10, true), .p .mov, [.t 0]⟩,
    ⟨6, some 13, some (10, true), .p (.bin .sub), [.t 12, .c (.int .i64 1)]⟩,
    ⟨7, some 14, some (10, true), .e .call [] [], [.f 337, .t 11, .c (.int .i64 0), .t 13]⟩,
    ⟨8, some 15, none, .p .pick, [.t 10, .t 14, .c (.bool false)]⟩,
    ⟨9, some 6, none, .p .mov, [.t 15]⟩])
   (.ret)),
  [.tmp 6]⟩
/- loop.example/g00641/impl.isPart -/
def g660_0 : GL.Code := .seq (.reg 0 [⟨0, some 10, none, .p (.bin .lss), [.t 9, .t 8]⟩])
   (.seq (.cond (.t 10) (.skip)
   (.exit 0))
   (.seq (.block 1 (.seq (.reg 0 [⟨0, some 11, none, .p .mov, [.t 9]⟩,
    ⟨1, some 12, none, .p (.idx 1), [.t 7, .t 9]⟩,
    ⟨2, some 13, none, .r (.load false 1) false, [.t 12]⟩,
    ⟨3, some 5, none, .p .mov, [.t 11]⟩,
    ⟨4, some 6, none, .p .mov, [.t 13]⟩])
   (.seq (.reg 0 [⟨0, some 14, none, .p .mov, [.t 1]⟩,
    ⟨1, some 15, none, .p .mov, [.t 6]⟩,
    ⟨2, some 16, none, .e .call [] [], [.f 301, .t 14, .t 15]⟩,
    ⟨3, some 17, none, .p (.un .not), [.t 16]⟩,
    ⟨4, some 18, none, .p .mov, [.t 17]⟩,
    ⟨5, some 19, some (18, false), .p .mov, [.t 5]⟩,
    ⟨6, some 20, some (18, false), .p (.bin .gtr), [.t 19, .c (.int .i64 0)]⟩,
    ⟨7, some 21, some (18, false), .p .mov, [.t 20]⟩,
    ⟨8, some 22, some (21, true), .p .mov, [.t 0]⟩,
    ⟨9, some 23, some (21, true), .p .mov, [.t 5]⟩,
    ⟨10, some 24, some (21, true), .p (.bin .sub), [.t 23, .c (.int .i64 1)]⟩,
    ⟨11, some 25, some (21, true), .p (.idx 1), [.t 22, .t 24]⟩,
    ⟨12, some 26, some (21, true), .r (.load false 1) false, [.t 25]⟩,
    ⟨13, some 27, some (21, true), .p .mov, [.t 6]⟩,
    ⟨14, some 28, some (21, true), .p (.bin .geq), [.t 26, .t 27]⟩,
    ⟨15, some 29, some (18, false), .p .pick, [.t 21, .t 28, .c (.bool false)]⟩,
    ⟨16, some 30, none, .p .pick, [.t 18, .c (.bool true), .t 29]⟩])
   (.cond (.t 30) (.seq (.reg 0 [⟨0, some 4, none, .p .mov, [.c (.bool false)]⟩])
   (.ret))
   (.skip)))))
   (.reg 0 [⟨0, some 31, none, .p (.bin .add), [.t 9, .c (.int .i64 1)]⟩,
    ⟨1, some 9, none, .p .mov, [.t 31]⟩])))
def g660 : GL.Fn := ⟨.seq (.reg 0 [⟨0, some 4, none, .p .mov, [.c (.bool false)]⟩])
   (.seq (.seq (.reg 0 [⟨0, some 7, none, .p .mov, [.t 0]⟩,
    ⟨1, some 8, none, .p .len, [.t 7]⟩,
    ⟨2, some 9, none, .p .mov, [.c (.int .i64 0)]⟩])
   (.block 0 (.loop g660_0)))
   (.seq (.reg 0 [⟨0, some 4, none, .p .mov, [.c (.bool true)]⟩])
   (.ret))),
  [.tmp 4]⟩
/- loop.example/g00641/impl.both -/
def g336 : GL.Fn := ⟨.seq (.reg 0 [⟨0, some 3, none, .e (.new (.box 1)) [] [], [.t 1]⟩,
    ⟨1, some 4, none, .p .mov, [.c (.nils)]⟩])
   (.seq (.reg 0 [⟨0, some 5, none, .p .mov, [.t 0]⟩,
    ⟨1, some 6, none, .e .call [] [], [.f 389, .t 5]⟩,
    ⟨2, some 7, none, .p (.mkFn 396), [.t 3]⟩,
    ⟨3, some 8, none, .e .call [] [], [.f 397, .t 6, .t 7]⟩,
    ⟨4, some 4, none, .p .mov, [.t 8]⟩])
   (.ret)),
  [.tmp 4]⟩
/- loop.example/g00641/impl.implies -/
def g652 : GL.Fn := ⟨.seq (.reg 0 [⟨0, some 3, none, .l (.box 3 2), [.t 1]⟩,
    ⟨1, some 4, none, .p .mov, [.c (.bool false)]⟩])
   (.seq (.reg 0 [⟨0, some 5, none, .p .mov, [.t 0]⟩,
    ⟨1, some 6, none, .p (.faddr 0), [.t 3]⟩,
    ⟨2, some 7, none, .l (.load 3 false 1), [.t 6]⟩,
    ⟨3, some 8, none, .e .call [] [], [.f 645, .t 5, .t 7]⟩,
    ⟨4, some 9, none, .p (.faddr 1), [.t 3]⟩,
    ⟨5, some 10, none, .l (.load 3 false 1), [.t 9]⟩,
    ⟨6, some 11, none, .e .call [] [], [.f 552, .t 8, .t 10]⟩,
    ⟨7, some 4, none, .p .mov, [.t 11]⟩])
   (.ret)),
  [.tmp 4]⟩
/- (*loop.example/g00641/spec.l1Cur).cols -/
def g670 : GL.Fn := ⟨.seq (.reg 0 [⟨0, some 2, none, .p .mov, [.c (.int .i64 0)]⟩])
   (.seq (.reg 0 [⟨0, some 3, none, .p .mov, [.t 0]⟩,
    ⟨1, some 4, none, .e (.new (.lit 1)) [] [], [.c (.int .i64 0), .c (.int .i64 1), .c (.int .i64 3), .c (.int .i64 4), .c (.int .i64 4), .c (.int .i64 5), .c (.int .i64 6), .c (.int .i64 7)]⟩,
    ⟨2, some 5, none, .e .call [] [], [.f 93, .t 3, .t 4]⟩,
    ⟨3, some 2, none, .p .mov, [.t 5]⟩])
   (.ret)),
  [.tmp 2]⟩
/- (*loop.example/g00641/spec.l1Cur).someCols -/
def g658_0 : GL.Code := .seq (.seq (.reg 0 [⟨0, some 7, none, .p .mov, [.t 6]⟩,
    ⟨1, some 8, none, .p .mov, [.t 1]⟩,
    ⟨2, some 9, none, .p (.bin .lss), [.t 7, .t 8]⟩])
   (.cond (.t 9) (.skip)
   (.exit 0)))
   (.seq (.block 1 (.seq (.reg 0 [⟨0, some 12, none, .p .mov, [.t 0]⟩,
    ⟨1, some 13, none, .e .call [] [], [.f 92, .t 12, .c (.int .i64 3)]⟩])
   (.cond (.t 13) (.reg 0 [⟨0, some 14, none, .p .mov, [.t 5]⟩,
    ⟨1, some 15, none, .p .mov, [.t 6]⟩,
    ⟨2, some 16, none, .e (.new (.lit 1)) [] [], [.t 15]⟩,
    ⟨3, some 17, none, .e (.append 1 8) [] [], [.t 14, .t 16]⟩,
    ⟨4, some 5, none, .p .mov, [.t 17]⟩])
   (.skip))))
   (.reg 0 [⟨0, some 10, none, .p .mov, [.t 6]⟩,
    ⟨1, some 11, none, .p (.bin .add), [.t 10, .c (.int .i64 1)]⟩,
    ⟨2, some 6, none, .p .mov, [.t 11]⟩]))
def g658 : GL.Fn := ⟨.seq (.reg 0 [⟨0, some 4, none, .p .mov, [.c (.nils)]⟩])
   (.seq (.reg 0 [⟨0, some 5, none, .p .mov, [.c (.nils)]⟩])
   (.seq (.seq (.reg 0 [⟨0, some 6, none, .p .mov, [.c (.int .i64 0)]⟩])
   (.block 0 (.loop g658_0)))
   (.seq (.seq (.reg 0 [⟨0, some 18, none, .p .mov, [.t 0]⟩,
    ⟨1, some 19, none, .e .call [] [], [.f 92, .t 18, .c (.int .i64 40)]⟩])
   (.cond (.t 19) (.reg 0 [⟨0, some 20, none, .p .mov, [.t 5]⟩,
    ⟨1, some 21, none, .p .mov, [.t 1]⟩,
    ⟨2, some 22, none, .e (.new (.lit 1)) [] [], [.t 21]⟩,
    ⟨3, some 23, none, .e (.append 1 8) [] [], [.t 20, .t 22]⟩,
    ⟨4, some 5, none, .p .mov, [.t 23]⟩])
   (.skip)))
   (.seq (.reg 0 [⟨0, some 24, none, .p .mov, [.t 5]⟩,
    ⟨1, some 4, none, .p .mov, [.t 24]⟩])
   (.ret))))),
  [.tmp 4]⟩
/- loop.example/g00641/spec.l5Sub -/
def g554_0 : GL.Code := .seq (.reg 0 [⟨0, some 10, none, .p (.bin .lss), [.t 9, .t 8]⟩])
   (.seq (.cond (.t 10) (.skip)
   (.exit 0))
   (.seq (.block 1 (.seq (.reg 0 [⟨0, some 11, none, .p (.idx 1), [.t 7, .t 9]⟩,
    ⟨1, some 12, none, .r (.load false 1) false, [.t 11]⟩,
    ⟨2, some 6, none, .p .mov, [.t 12]⟩])
   (.seq (.reg 0 [⟨0, some 13, none, .p .mov, [.t 1]⟩,
    ⟨1, some 14, none, .p .mov, [.t 6]⟩,
    ⟨2, some 15, none, .e .call [] [], [.f 302, .t 13, .t 14]⟩,
    ⟨3, some 16, none, .p (.un .not), [.t 15]⟩])
   (.cond (.t 16) (.seq (.reg 0 [⟨0, some 4, none, .p .mov, [.c (.bool false)]⟩])
   (.ret))
   (.skip)))))
   (.reg 0 [⟨0, some 17, none, .p (.bin .add), [.t 9, .c (.int .i64 1)]⟩,
    ⟨1, some 9, none, .p .mov, [.t 17]⟩])))
def g554 : GL.Fn := ⟨.seq (.reg 0 [⟨0, some 4, none, .p .mov, [.c (.bool false)]⟩])
   (.seq (.seq (.reg 0 [⟨0, some 7, none, .p .mov, [.t 0]⟩,
    ⟨1, some 8, none, .p .len, [.t 7]⟩,
    ⟨2, some 9, none, .p .mov, [.c (.int .i64 0)]⟩])
   (.block 0 (.loop g554_0)))
   (.seq (.reg 0 [⟨0, some 4, none, .p .mov, [.c (.bool true)]⟩])
   (.ret))),
  [.tmp 4]⟩
/- loop.example/g00641/spec.l6Both -/
def g338_0 : GL.Code := .seq (.reg 0 [⟨0, some 11, none, .p (.bin .lss), [.t 10, .t 9]⟩])
   (.seq (.cond (.t 11) (.skip)
   (.exit 0))
   (.seq (.block 1 (.seq (.reg 0 [⟨0, some 12, none, .p (.idx 1), [.t 8, .t 10]⟩,
    ⟨1, some 13, none, .r (.load false 1) false, [.t 12]⟩,
    ⟨2, some 7, none, .p .mov, [.t 13]⟩])
   (.seq (.reg 0 [⟨0, some 14, none, .p .mov, [.t 1]⟩,
    ⟨1, some 15, none, .p .mov, [.t 7]⟩,
    ⟨2, some 16, none, .e .call [] [], [.f 302, .t 14, .t 15]⟩])
   (.cond (.t 16) (.reg 0 [⟨0, some 17, none, .p .mov, [.t 5]⟩,
    ⟨1, some 18, none, .p .mov, [.t 7]⟩,
    ⟨2, some 19, none, .e (.new (.lit 1)) [] [], [.t 18]⟩,
    ⟨3, some 20, none, .e (.append 1 8) [] [], [.t 17, .t 19]⟩,
    ⟨4, some 5, none, .p .mov, [.t 20]⟩])
   (.skip)))))
   (.reg 0 [⟨0, some 21, none, .p (.bin .add), [.t 10, .c (.int .i64 1)]⟩,
    ⟨1, some 10, none, .p .mov, [.t 21]⟩])))
def g338 : GL.Fn := ⟨.seq (.reg 0 [⟨0, some 4, none, .p .mov, [.c (.nils)]⟩])
   (.seq (.reg 0 [⟨0, some 5, none, .p .mov, [.c (.nils)]⟩])
   (.seq (.seq (.reg 0 [⟨0, some 8, none, .p .mov, [.t 0]⟩,
    ⟨1, some 9, none, .p .len, [.t 8]⟩,
    ⟨2, some 10, none, .p .mov, [.c (.int .i64 0)]⟩])
   (.block 0 (.loop g338_0)))
   (.seq (.reg 0 [⟨0, some 22, none, .p .mov, [.t 5]⟩,
    ⟨1, some 4, none, .p .mov, [.t 22]⟩])
   (.ret)))),
  [.tmp 4]⟩
/- (*loop.example/g00641/spec.l1Cur).deps -/
def g671_0 : GL.Code := .seq (.seq (.reg 0 [⟨0, some 14, none, .p .mov, [.t 6]⟩,
    ⟨1, some 15, none, .p (.bin .gtr), [.t 14, .c (.int .i64 0)]⟩])
   (.cond (.t 15) (.skip)
   (.exit 0)))
   (.seq (.block 1 (.reg 0 [⟨0, some 18, none, .p .mov, [.t 5]⟩,
    ⟨1, some 19, none, .p .mov, [.t 0]⟩,
    ⟨2, some 20, none, .p .mov, [.t 1]⟩,
    ⟨3, some 21, none, .e .call [] [], [.f 658, .t 19, .t 20]⟩,
    ⟨4, some 22, none, .p .mov, [.t 0]⟩,
    ⟨5, some 23, none, .p .mov, [.t 1]⟩,
    ⟨6, some 24, none, .e .call [] [], [.f 658, .t 22, .t 23]⟩,
    ⟨7, some 25, none, .p (.build [.nils, .nils] [(0, 1), (1, 1)]), [.t 21, .t 24]⟩,
    ⟨8, some 26, none, .e (.new (.lit 2)) [] [], [.t 25]⟩,
    ⟨9, some 27, none, .e (.append 2 48) [] [], [.t 18, .t 26]⟩,
    ⟨10, some 5, none, .p .mov, [.t 27]⟩]))
   (.reg 0 [⟨0, some 16, none, .p .mov, [.t 6]⟩,
    ⟨1, some 17, none, .p (.bin .sub), [.t 16, .c (.int .i64 1)]⟩,
    ⟨2, some 6, none, .p .mov, [.t 17]⟩]))
def g671 : GL.Fn := ⟨.seq (.reg 0 [⟨0, some 4, none, .p .mov, [.c (.nils)]⟩])
   (.seq (.reg 0 [⟨0, some 5, none, .p .mov, [.c (.nils)]⟩])
   (.seq (.reg 0 [⟨0, some 7, none, .p .mov, [.t 0]⟩,
    ⟨1, some 8, none, .e .call [] [], [.f 91, .t 7, .c (.int .i64 6)]⟩,
    ⟨2, some 6, none, .p .mov, [.t 8]⟩])
   (.seq (.seq (.reg 0 [⟨0, some 9, none, .p .mov, [.t 0]⟩,
    ⟨1, some 10, none, .e .call [] [], [.f 92, .t 9, .c (.int .i64 20)]⟩])
   (.cond (.t 10) (.reg 0 [⟨0, some 11, none, .p .mov, [.t 0]⟩,
    ⟨1, some 12, none, .e .call [] [], [.f 91, .t 11, .c (.int .i64 2)]⟩,
    ⟨2, some 13, none, .p (.bin .add), [.c (.int .i64 8), .t 12]⟩,
    ⟨3, some 6, none, .p .mov, [.t 13]⟩])
   (.skip)))
   (.seq (.block 0 (.loop g671_0))
   (.seq (.reg 0 [⟨0, some 28, none, .p .mov, [.t 5]⟩,
    ⟨1, some 4, none, .p .mov, [.t 28]⟩])
   (.ret)))))),
  [.tmp 4]⟩
/- loop.example/g00641/spec.l1Most -/
def g90 : GL.Fn := ⟨.seq (.reg 0 [⟨0, some 4, none, .p .mov, [.c (.int .i64 0)]⟩])
   (.seq (.seq (.reg 0 [⟨0, some 5, none, .p .mov, [.t 0]⟩,
    ⟨1, some 6, none, .p .mov, [.t 1]⟩,
    ⟨2, some 7, none, .p (.bin .gtr), [.t 5, .t 6]⟩])
   (.cond (.t 7) (.seq (.reg 0 [⟨0, some 8, none, .p .mov, [.t 0]⟩,
    ⟨1, some 4, none, .p .mov, [.t 8]⟩])
   (.ret))
   (.skip)))
   (.seq (.reg 0 [⟨0, some 9, none, .p .mov, [.t 1]⟩,
    ⟨1, some 4, none, .p .mov, [.t 9]⟩])
   (.ret))),
  [.tmp 4]⟩
/- loop.example/g00641/spec.l5Dep -/
def g672 : GL.Fn := ⟨.seq (.reg 0 [⟨0, some 3, none, .l (.box 3 2), [.t 1]⟩,
    ⟨1, some 4, none, .p .mov, [.c (.bool false)]⟩])
   (.seq (.reg 0 [⟨0, some 5, none, .p (.faddr 0), [.t 3]⟩,
    ⟨1, some 6, none, .l (.load 3 false 1), [.t 5]⟩,
    ⟨2, some 7, none, .p .mov, [.t 0]⟩,
    ⟨3, some 8, none, .p (.bin .sub), [.t 7, .c (.int .i64 1)]⟩,
    ⟨4, some 9, none, .e .call [] [], [.f 337, .t 6, .c (.int .i64 0), .t 8]⟩,
    ⟨5, some 10, none, .p .mov, [.t 9]⟩,
    ⟨6, some 11, some (10, true), .p (.faddr 1), [.t 3]⟩,
    ⟨7, some 12, some (10, true), .l (.load 3 false 1), [.t 11]⟩,
    ⟨8, some 13, some (10, true), .p .mov, [.t 0]⟩,
    ⟨9, some 14, some (10, true), .p (.bin .sub), [.t 13, .c (.int .i64 1)]⟩,
    ⟨10, some 15, some (10, true), .e .call [] [], [.f 337, .t 12, .c (.int .i64 0), .t 14]⟩,
    ⟨11, some 16, none, .p .pick, [.t 10, .t 15, .c (.bool false)]⟩,
    ⟨12, some 4, none, .p .mov, [.t 16]⟩])
   (.ret)),
  [.tmp 4]⟩
/- loop.example/g00641/spec.l5Closure -/
def g649_0 : GL.Code := .seq (.reg 0 [⟨0, some 36, none, .p (.bin .lss), [.t 35, .t 34]⟩])
   (.seq (.cond (.t 36) (.skip)
   (.exit 4))
   (.seq (.block 5 (.seq (.reg 0 [⟨0, some 37, none, .p (.idx 1), [.t 33, .t 35]⟩,
    ⟨1, some 38, none, .r (.load false 1) false, [.t 37]⟩,
    ⟨2, some 10, none, .p .mov, [.t 38]⟩])
   (.reg 0 [⟨0, some 39, none, .p .mov, [.t 5]⟩,
    ⟨1, some 40, none, .p .mov, [.t 10]⟩,
    ⟨2, some 41, none, .e .call [] [], [.f 410, .t 39, .t 40]⟩,
    ⟨3, some 5, none, .p .mov, [.t 41]⟩])))
   (.reg 0 [⟨0, some 42, none, .p (.bin .add), [.t 35, .c (.int .i64 1)]⟩,
    ⟨1, some 35, none, .p .mov, [.t 42]⟩])))
def g649_1 : GL.Code := .seq (.reg 0 [⟨0, some 18, none, .p (.bin .lss), [.t 17, .t 16]⟩])
   (.seq (.cond (.t 18) (.skip)
   (.exit 2))
   (.seq (.block 3 (.seq (.reg 0 [⟨0, some 19, none, .p (.idx 2), [.t 15, .t 17]⟩,
    ⟨1, some 20, none, .r (.load true 2) false, [.t 19]⟩,
    ⟨2, some 8, none, .l (.alloc 8 [.nils, .nils]), []⟩,
    ⟨3, none, none, .l (.store 8 2), [.t 8, .t 20]⟩])
   (.seq (.reg 0 [⟨0, some 21, none, .p (.faddr 0), [.t 8]⟩,
    ⟨1, some 22, none, .l (.load 8 false 1), [.t 21]⟩,
    ⟨2, some 23, none, .p .mov, [.t 5]⟩,
    ⟨3, some 24, none, .e .call [] [], [.f 554, .t 22, .t 23]⟩,
    ⟨4, some 25, none, .p .mov, [.t 24]⟩,
    ⟨5, some 26, some (25, true), .p (.faddr 1), [.t 8]⟩,
    ⟨6, some 27, some (25, true), .l (.load 8 false 1), [.t 26]⟩,
    ⟨7, some 28, some (25, true), .p .mov, [.t 5]⟩,
    ⟨8, some 29, some (25, true), .e .call [] [], [.f 554, .t 27, .t 28]⟩,
    ⟨9, some 30, some (25, true), .p (.un .not), [.t 29]⟩,
    ⟨10, some 31, none, .p .pick, [.t 25, .t 30, .c (.bool false)]⟩])
   (.cond (.t 31) (.seq (.reg 0 [⟨0, some 6, none, .p .mov, [.c (.bool true)]⟩])
   (.seq (.reg 0 [⟨0, some 32, none, .p (.faddr 1), [.t 8]⟩,
    ⟨1, some 33, none, .l (.load 8 false 1), [.t 32]⟩,
    ⟨2, some 34, none, .p .len, [.t 33]⟩,
    ⟨3, some 35, none, .p .mov, [.c (.int .i64 0)]⟩])
   (.block 4 (.loop g649_0))))
   (.skip)))))
   (.reg 0 [⟨0, some 43, none, .p (.bin .add), [.t 17, .c (.int .i64 1)]⟩,
    ⟨1, some 17, none, .p .mov, [.t 43]⟩])))
def g649_2 : GL.Code := .seq (.seq (.reg 0 [⟨0, some 14, none, .p .mov, [.t 6]⟩])
   (.cond (.t 14) (.skip)
   (.exit 0)))
   (.block 1 (.seq (.reg 0 [⟨0, some 6, none, .p .mov, [.c (.bool false)]⟩])
   (.seq (.reg 0 [⟨0, some 15, none, .p .mov, [.t 0]⟩,
    ⟨1, some 16, none, .p .len, [.t 15]⟩,
    ⟨2, some 17, none, .p .mov, [.c (.int .i64 0)]⟩])
   (.block 2 (.loop g649_1)))))
def g649 : GL.Fn := ⟨.seq (.reg 0 [⟨0, some 4, none, .p .mov, [.c (.nils)]⟩])
   (.seq (.reg 0 [⟨0, some 11, none, .e (.new (.lit 1)) [] [], []⟩,
    ⟨1, some 12, none, .p .mov, [.t 1]⟩,
    ⟨2, some 13, none, .e (.append 1 8) [] [], [.t 11, .t 12]⟩,
    ⟨3, some 5, none, .p .mov, [.t 13]⟩])
   (.seq (.seq (.reg 0 [⟨0, some 6, none, .p .mov, [.c (.bool true)]⟩])
   (.block 0 (.loop g649_2)))
   (.seq (.reg 0 [⟨0, some 44, none, .p .mov, [.t 5]⟩,
    ⟨1, some 4, none, .p .mov, [.t 44]⟩])
   (.ret)))),
  [.tmp 4]⟩
/- (*loop.example/g00641/spec.l1Cur).among -/
def g93 : GL.Fn := ⟨.seq (.reg 0 [⟨0, some 4, none, .p .mov, [.c (.int .i64 0)]⟩])
   (.seq (.reg 0 [⟨0, some 5, none, .p .mov, [.t 1]⟩,
    ⟨1, some 6, none, .p .mov, [.t 0]⟩,
    ⟨2, some 7, none, .p .mov, [.t 1]⟩,
    ⟨3, some 8, none, .p .len, [.t 7]⟩,
    ⟨4, some 9, none, .e .call [] [], [.f 91, .t 6, .t 8]⟩,
    ⟨5, some 10, none, .p (.idx 1), [.t 5, .t 9]⟩,
    ⟨6, some 11, none, .r (.load false 1) false, [.t 10]⟩,
    ⟨7, some 4, none, .p .mov, [.t 11]⟩])
   (.ret)),
  [.tmp 4]⟩
/- (*loop.example/g00641/spec.l1Cur).next -/
def g140 : GL.Fn := ⟨.seq (.reg 0 [⟨0, some 2, none, .p .mov, [.c (.int .i64 0)]⟩])
   (.seq (.reg 0 [⟨0, some 3, none, .p .mov, [.c (.int .i64 0)]⟩])
   (.seq (.seq (.reg 0 [⟨0, some 4, none, .p .mov, [.t 0]⟩,
    ⟨1, some 5, none, .p .nilCheck, [.t 4]⟩,
    ⟨2, some 6, none, .p (.faddr 1), [.t 5]⟩,
    ⟨3, some 7, none, .r (.load false 1) false, [.t 6]⟩,
    ⟨4, some 8, none, .p .mov, [.t 0]⟩,
    ⟨5, some 9, none, .p .nilCheck, [.t 8]⟩,
    ⟨6, some 10, none, .p (.faddr 0), [.t 9]⟩,
    ⟨7, some 11, none, .r (.load false 1) false, [.t 10]⟩,
    ⟨8, some 12, none, .p .len, [.t 11]⟩,
    ⟨9, some 13, none, .p (.bin .lss), [.t 7, .t 12]⟩])
   (.cond (.t 13) (.reg 0 [⟨0, some 14, none, .p .mov, [.t 0]⟩,
    ⟨1, some 15, none, .p .nilCheck, [.t 14]⟩,
    ⟨2, some 16, none, .p (.faddr 0), [.t 15]⟩,
    ⟨3, some 17, none, .r (.load false 1) false, [.t 16]⟩,
    ⟨4, some 18, none, .p .mov, [.t 0]⟩,
    ⟨5, some 19, none, .p .nilCheck, [.t 18]⟩,
    ⟨6, some 20, none, .p (.faddr 1), [.t 19]⟩,
    ⟨7, some 21, none, .r (.load false 1) false, [.t 20]⟩,
    ⟨8, some 22, none, .p (.idx 1), [.t 17, .t 21]⟩,
    ⟨9, some 23, none, .r (.load false 1) false, [.t 22]⟩,
    ⟨10, some 24, none, .p (.conv .i64), [.t 23]⟩,
    ⟨11, some 3, none, .p .mov, [.t 24]⟩])
   (.skip)))
   (.seq (.reg 0 [⟨0, some 25, none, .p .mov, [.t 0]⟩,
    ⟨1, some 26, none, .p .nilCheck, [.t 25]⟩,
    ⟨2, some 27, none, .p (.faddr 1), [.t 26]⟩,
    ⟨3, some 28, none, .r (.load false 1) false, [.t 27]⟩,
    ⟨4, some 29, none, .p (.bin .add), [.t 28, .c (.int .i64 1)]⟩,
    ⟨5, some 30, none, .p .nilCheck, [.t 25]⟩,
    ⟨6, some 31, none, .p (.faddr 1), [.t 30]⟩,
    ⟨7, none, none, .e (.store 1) [] [], [.t 31, .t 29]⟩])
   (.seq (.reg 0 [⟨0, some 32, none, .p .mov, [.t 0]⟩,
    ⟨1, some 33, none, .p .mov, [.t 0]⟩,
    ⟨2, some 34, none, .p .nilCheck, [.t 33]⟩,
    ⟨3, some 35, none, .p (.faddr 2), [.t 34]⟩,
    ⟨4, some 36, none, .r (.load false 1) false, [.t 35]⟩,
    ⟨5, some 37, none, .p (.bin .mul), [.t 36, .c (.int .u64 6364136223846793005)]⟩,
    ⟨6, some 38, none, .p .mov, [.t 3]⟩,
    ⟨7, some 39, none, .p (.conv .u64), [.t 38]⟩,
    ⟨8, some 40, none, .p (.bin .add), [.t 37, .t 39]⟩,
    ⟨9, some 41, none, .p (.bin .add), [.t 40, .c (.int .u64 1442695040888963407)]⟩,
    ⟨10, some 42, none, .p .nilCheck, [.t 32]⟩,
    ⟨11, some 43, none, .p (.faddr 2), [.t 42]⟩,
    ⟨12, none, none, .e (.store 1) [] [], [.t 43, .t 41]⟩])
   (.seq (.seq (.reg 0 [⟨0, some 44, none, .p .mov, [.t 0]⟩,
    ⟨1, some 45, none, .p .nilCheck, [.t 44]⟩,
    ⟨2, some 46, none, .p (.faddr 1), [.t 45]⟩,
    ⟨3, some 47, none, .r (.load false 1) false, [.t 46]⟩,
    ⟨4, some 48, none, .p .mov, [.t 0]⟩,
    ⟨5, some 49, none, .p .nilCheck, [.t 48]⟩,
    ⟨6, some 50, none, .p (.faddr 0), [.t 49]⟩,
    ⟨7, some 51, none, .r (.load false 1) false, [.t 50]⟩,
    ⟨8, some 52, none, .p .len, [.t 51]⟩,
    ⟨9, some 53, none, .p (.bin .leq), [.t 47, .t 52]⟩])
   (.cond (.t 53) (.seq (.reg 0 [⟨0, some 54, none, .p .mov, [.t 3]⟩,
    ⟨1, some 2, none, .p .mov, [.t 54]⟩])
   (.ret))
   (.skip)))
   (.seq (.reg 0 [⟨0, some 55, none, .p .mov, [.t 0]⟩,
    ⟨1, some 56, none, .p .nilCheck, [.t 55]⟩,
    ⟨2, some 57, none, .p (.faddr 2), [.t 56]⟩,
    ⟨3, some 58, none, .r (.load false 1) false, [.t 57]⟩,
    ⟨4, some 59, none, .p (.bin .shr), [.t 58, .c (.int .u64 40)]⟩,
    ⟨5, some 60, none, .p (.bin .and), [.t 59, .c (.int .u64 255)]⟩,
    ⟨6, some 61, none, .p (.conv .i64), [.t 60]⟩,
    ⟨7, some 2, none, .p .mov, [.t 61]⟩])
   (.ret))))))),
  [.tmp 2]⟩
/- slices.ContainsFunc[[]loop.example/g00641/impl.Dep,loop.example/g00641/impl.Dep] -/
def g654 : GL.Fn := ⟨.seq (.reg 0 [⟨0, some 4, none, .p .mov, [.c (.bool false)]⟩])
   (.seq (.reg 0 [⟨0, some 5, none, .p .mov, [.t 0]⟩,
    ⟨1, some 6, none, .p .mov, [.t 1]⟩,
    ⟨2, some 7, none, .e .call [] [], [.f 675, .t 5, .t 6]⟩,
    ⟨3, some 8, none, .p (.bin .geq), [.t 7, .c (.int .i64 0)]⟩,
    ⟨4, some 4, none, .p .mov, [.t 8]⟩])
   (.ret)),
  [.tmp 4]⟩
/- loop.example/g00641/impl.GoodDeps$1 -/
def g653 : GL.Fn := ⟨.seq (.reg 0 [⟨0, some 2, none, .l (.box 2 2), [.t 0]⟩,
    ⟨1, some 3, none, .p .mov, [.c (.bool false)]⟩])
   (.seq (.reg 0 [⟨0, some 4, none, .r (.load false 1) false, [.t 1]⟩,
    ⟨1, some 5, none, .l (.load 2 true 2), [.t 2]⟩,
    ⟨2, some 6, none, .e .call [] [], [.f 656, .t 4, .t 5]⟩,
    ⟨3, some 7, none, .p (.un .not), [.t 6]⟩,
    ⟨4, some 3, none, .p .mov, [.t 7]⟩])
   (.ret)),
  [.tmp 3]⟩
/- loop.example/g00641/impl.isDep -/
def g656 : GL.Fn := ⟨.seq (.reg 0 [⟨0, some 3, none, .l (.box 3 2), [.t 1]⟩,
    ⟨1, some 4, none, .p .mov, [.c (.bool false)]⟩])
   (.seq (.reg 0 [⟨0, some 5, none, .p .mov, [.t 0]⟩,
    ⟨1, some 6, none, .p (.faddr 0), [.t 3]⟩,
    ⟨2, some 7, none, .l (.load 3 false 1), [.t 6]⟩,
    ⟨3, some 8, none, .e .call [] [], [.f 655, .t 5, .t 7]⟩,
    ⟨4, some 9, none, .p .mov, [.t 8]⟩,
    ⟨5, some 10, some (9, true), .p .mov, [.t 0]⟩,
    ⟨6, some 11, some (9, true), .p (.faddr 1), [.t 3]⟩,
    ⟨7, some 12, some (9, true), .l (.load 3 false 1), [.t 11]⟩,
    ⟨8, some 13, some (9, true), .e .call [] [], [.f 655, .t 10, .t 12]⟩,
    ⟨9, some 14, none, .p .pick, [.t 9, .t 13, .c (.bool false)]⟩,
    ⟨10, some 4, none, .p .mov, [.t 14]⟩])
   (.ret)),
  [.tmp 4]⟩
/- loop.example/g00641/impl.lists -/
def g644_0 : GL.Code := .seq (.reg 0 [⟨0, some 19, none, .p (.bin .lss), [.t 18, .t 17]⟩])
   (.seq (.cond (.t 19) (.skip)
   (.exit 2))
   (.seq (.block 3 (.seq (.reg 0 [⟨0, some 20, none, .p .mov, [.t 18]⟩,
    ⟨1, some 21, none, .p (.idx 1), [.t 16, .t 18]⟩,
    ⟨2, some 22, none, .r (.load false 1) false, [.t 21]⟩,
    ⟨3, some 6, none, .p .mov, [.t 20]⟩,
    ⟨4, some 7, none, .p .mov, [.t 22]⟩])
   (.seq (.reg 0 [⟨0, some 23, none, .p .mov, [.t 4]⟩,
    ⟨1, some 24, none, .p .mov, [.t 6]⟩,
    ⟨2, some 25, none, .p (.bin .shr), [.t 23, .t 24]⟩,
    ⟨3, some 26, none, .p (.bin .and), [.t 25, .c (.int .i64 1)]⟩,
    ⟨4, some 27, none, .p (.bin .eql), [.t 26, .c (.int .i64 1)]⟩])
   (.cond (.t 27) (.reg 0 [⟨0, some 28, none, .p .mov, [.t 5]⟩,
    ⟨1, some 29, none, .p .mov, [.t 7]⟩,
    ⟨2, some 30, none, .e (.new (.lit 1)) [] [], [.t 29]⟩,
    ⟨3, some 31, none, .e (.append 1 8) [] [], [.t 28, .t 30]⟩,
    ⟨4, some 5, none, .p .mov, [.t 31]⟩])
   (.skip)))))
   (.reg 0 [⟨0, some 32, none, .p (.bin .add), [.t 18, .c (.int .i64 1)]⟩,
    ⟨1, some 18, none, .p .mov, [.t 32]⟩])))
def g644_1 : GL.Code := .seq (.reg 0 [⟨0, some 13, none, .p (.bin .lss), [.t 12, .t 11]⟩])
   (.seq (.cond (.t 13) (.skip)
   (.exit 0))
   (.seq (.block 1 (.seq (.reg 0 [⟨0, some 14, none, .p .mov, [.t 12]⟩,
    ⟨1, some 4, none, .p .mov, [.t 14]⟩])
   (.seq (.reg 0 [⟨0, some 15, none, .e (.new (.lit 1)) [] [], []⟩,
    ⟨1, some 5, none, .p .mov, [.t 15]⟩])
   (.seq (.seq (.reg 0 [⟨0, some 16, none, .p .mov, [.t 0]⟩,
    ⟨1, some 17, none, .p .len, [.t 16]⟩,
    ⟨2, some 18, none, .p .mov, [.c (.int .i64 0)]⟩])
   (.block 2 (.loop g644_0)))
   (.reg 0 [⟨0, some 33, none, .p .mov, [.t 3]⟩,
    ⟨1, some 34, none, .p .mov, [.t 5]⟩,
    ⟨2, some 35, none, .e (.new (.lit 1)) [] [], [.t 34]⟩,
    ⟨3, some 36, none, .e (.append 1 24) [] [], [.t 33, .t 35]⟩,
    ⟨4, some 3, none, .p .mov, [.t 36]⟩])))))
   (.reg 0 [⟨0, some 37, none, .p (.bin .add), [.t 12, .c (.int .i64 1)]⟩,
    ⟨1, some 12, none, .p .mov, [.t 37]⟩])))
def g644 : GL.Fn := ⟨.seq (.reg 0 [⟨0, some 2, none, .p .mov, [.c (.nils)]⟩])
   (.seq (.reg 0 [⟨0, some 8, none, .e (.new (.lit 1)) [] [], []⟩,
    ⟨1, some 3, none, .p .mov, [.t 8]⟩])
   (.seq (.seq (.reg 0 [⟨0, some 9, none, .p .mov, [.t 0]⟩,
    ⟨1, some 10, none, .p .len, [.t 9]⟩,
    ⟨2, some 11, none, .p (.bin .shl), [.c (.int .i64 1), .t 10]⟩,
    ⟨3, some 12, none, .p .mov, [.c (.int .i64 0)]⟩])
   (.block 0 (.loop g644_1)))
   (.seq (.reg 0 [⟨0, some 38, none, .p .mov, [.t 3]⟩,
    ⟨1, some 2, none, .p .mov, [.t 38]⟩])
   (.ret)))),
  [.tmp 2]⟩
/- loop.example/g00641/impl.closure -/
def g645_0 : GL.Code := .seq (.reg 0 [⟨0, some 15, none, .p (.bin .lss), [.t 14, .t 13]⟩])
   (.seq (.cond (.t 15) (.skip)
   (.exit 2))
   (.seq (.block 3 (.seq (.reg 0 [⟨0, some 16, none, .p (.idx 2), [.t 12, .t 14]⟩,
    ⟨1, some 17, none, .r (.load true 2) false, [.t 16]⟩,
    ⟨2, some 8, none, .l (.alloc 8 [.nils, .nils]), []⟩,
    ⟨3, none, none, .l (.store 8 2), [.t 8, .t 17]⟩])
   (.seq (.reg 0 [⟨0, some 18, none, .p .mov, [.t 5]⟩,
    ⟨1, some 19, none, .p (.faddr 0), [.t 8]⟩,
    ⟨2, some 20, none, .l (.load 8 false 1), [.t 19]⟩,
    ⟨3, some 21, none, .e .call [] [], [.f 552, .t 18, .t 20]⟩,
    ⟨4, some 22, none, .p .mov, [.t 21]⟩,
    ⟨5, some 23, some (22, true), .p .mov, [.t 5]⟩,
    ⟨6, some 24, some (22, true), .p (.faddr 1), [.t 8]⟩,
    ⟨7, some 25, some (22, true), .l (.load 8 false 1), [.t 24]⟩,
    ⟨8, some 26, some (22, true), .e .call [] [], [.f 552, .t 23, .t 25]⟩,
    ⟨9, some 27, some (22, true), .p (.un .not), [.t 26]⟩,
    ⟨10, some 28, none, .p .pick, [.t 22, .t 27, .c (.bool false)]⟩])
   (.cond (.t 28) (.reg 0 [⟨0, some 29, none, .p .mov, [.t 5]⟩,
    ⟨1, some 30, none, .p (.faddr 1), [.t 8]⟩,
    ⟨2, some 31, none, .l (.load 8 false 1), [.t 30]⟩,
    ⟨3, some 32, none, .e .call [] [], [.f 412, .t 29, .t 31]⟩,
    ⟨4, some 5, none, .p .mov, [.t 32]⟩,
    ⟨5, some 6, none, .p .mov, [.c (.bool true)]⟩])
   (.skip)))))
   (.reg 0 [⟨0, some 33, none, .p (.bin .add), [.t 14, .c (.int .i64 1)]⟩,
    ⟨1, some 14, none, .p .mov, [.t 33]⟩])))
def g645_1 : GL.Code := .seq (.seq (.reg 0 [⟨0, some 11, none, .p .mov, [.t 6]⟩])
   (.cond (.t 11) (.skip)
   (.exit 0)))
   (.block 1 (.seq (.reg 0 [⟨0, some 6, none, .p .mov, [.c (.bool false)]⟩])
   (.seq (.reg 0 [⟨0, some 12, none, .p .mov, [.t 0]⟩,
    ⟨1, some 13, none, .p .len, [.t 12]⟩,
    ⟨2, some 14, none, .p .mov, [.c (.int .i64 0)]⟩])
   (.block 2 (.loop g645_0)))))
def g645 : GL.Fn := ⟨.seq (.reg 0 [⟨0, some 4, none, .p .mov, [.c (.nils)]⟩])
   (.seq (.reg 0 [⟨0, some 9, none, .p .mov, [.t 1]⟩,
    ⟨1, some 10, none, .e .call [] [], [.f 389, .t 9]⟩,
    ⟨2, some 5, none, .p .mov, [.t 10]⟩])
   (.seq (.seq (.reg 0 [⟨0, some 6, none, .p .mov, [.c (.bool true)]⟩])
   (.block 0 (.loop g645_1)))
   (.seq (.reg 0 [⟨0, some 34, none, .p .mov, [.t 5]⟩,
    ⟨1, some 4, none, .p .mov, [.t 34]⟩])
   (.ret)))),
  [.tmp 4]⟩
/- slices.Concat[[]int,int] -/
def g429_0 : GL.Code := .seq (.reg 0 [⟨0, some 12, none, .p (.bin .lss), [.t 11, .t 10]⟩])
   (.seq (.cond (.t 12) (.skip)
   (.exit 0))
   (.seq (.block 1 (.seq (.reg 0 [⟨0, some 13, none, .p (.idx 1), [.t 9, .t 11]⟩,
    ⟨1, some 14, none, .r (.load false 1) false, [.t 13]⟩,
    ⟨2, some 5, none, .p .mov, [.t 14]⟩])
   (.seq (.reg 0 [⟨0, some 15, none, .p .mov, [.t 3]⟩,
    ⟨1, some 16, none, .p .mov, [.t 5]⟩,
    ⟨2, some 17, none, .p .len, [.t 16]⟩,
    ⟨3, some 18, none, .p (.bin .add), [.t 15, .t 17]⟩,
    ⟨4, some 3, none, .p .mov, [.t 18]⟩])
   (.seq (.reg 0 [⟨0, some 19, none, .p .mov, [.t 3]⟩,
    ⟨1, some 20, none, .p (.bin .lss), [.t 19, .c (.int .i64 0)]⟩])
   (.cond (.t 20) (.reg 0 [⟨0, some 21, none, .p .bad, []⟩,
    ⟨1, none, none, .p .bad, []⟩])
   (.skip))))))
   (.reg 0 [⟨0, some 22, none, .p (.bin .add), [.t 11, .c (.int .i64 1)]⟩,
    ⟨1, some 11, none, .p .mov, [.t 22]⟩])))
def g429_1 : GL.Code := .seq (.reg 0 [⟨0, some 28, none, .p (.bin .lss), [.t 27, .t 26]⟩])
   (.seq (.cond (.t 28) (.skip)
   (.exit 2))
   (.seq (.block 3 (.seq (.reg 0 [⟨0, some 29, none, .p (.idx 1), [.t 25, .t 27]⟩,
    ⟨1, some 30, none, .r (.load false 1) false, [.t 29]⟩,
    ⟨2, some 8, none, .p .mov, [.t 30]⟩])
   (.reg 0 [⟨0, some 31, none, .p .mov, [.t 6]⟩,
    ⟨1, some 32, none, .p .mov, [.t 8]⟩,
    ⟨2, some 33, none, .e (.append 1 8) [] [], [.t 31, .t 32]⟩,
    ⟨3, some 6, none, .p .mov, [.t 33]⟩])))
   (.reg 0 [⟨0, some 34, none, .p (.bin .add), [.t 27, .c (.int .i64 1)]⟩,
    ⟨1, some 27, none, .p .mov, [.t 34]⟩])))
def g429 : GL.Fn := ⟨.seq (.reg 0 [⟨0, some 2, none, .p .mov, [.c (.nils)]⟩])
   (.seq (.reg 0 [⟨0, some 3, none, .p .mov, [.c (.int .i64 0)]⟩])
   (.seq (.seq (.reg 0 [⟨0, some 9, none, .p .mov, [.t 0]⟩,
    ⟨1, some 10, none, .p .len, [.t 9]⟩,
    ⟨2, some 11, none, .p .mov, [.c (.int .i64 0)]⟩])
   (.block 0 (.loop g429_0)))
   (.seq (.reg 0 [⟨0, some 23, none, .p .mov, [.t 3]⟩,
    ⟨1, some 24, none, .e .call [] [], [.f 436, .c (.nils), .t 23]⟩,
    ⟨2, some 6, none, .p .mov, [.t 24]⟩])
   (.seq (.seq (.reg 0 [⟨0, some 25, none, .p .mov, [.t 0]⟩,
    ⟨1, some 26, none, .p .len, [.t 25]⟩,
    ⟨2, some 27, none, .p .mov, [.c (.int .i64 0)]⟩])
   (.block 2 (.loop g429_1)))
   (.seq (.reg 0 [⟨0, some 35, none, .p .mov, [.t 6]⟩,
    ⟨1, some 2, none, .p .mov, [.t 35]⟩])
   (.ret)))))),
  [.tmp 2]⟩
/- slices.Compact[[]int,int] -/
def g430_0 : GL.Code := .seq (.seq (.reg 0 [⟨0, some 29, none, .p .mov, [.t 5]⟩,
    ⟨1, some 30, none, .p .mov, [.t 4]⟩,
    ⟨2, some 31, none, .p .len, [.t 30]⟩,
    ⟨3, some 32, none, .p (.bin .lss), [.t 29, .t 31]⟩])
   (.cond (.t 32) (.skip)
   (.exit 2)))
   (.seq (.block 3 (.seq (.reg 0 [⟨0, some 35, none, .p .mov, [.t 4]⟩,
    ⟨1, some 36, none, .p .mov, [.t 5]⟩,
    ⟨2, some 37, none, .p (.idx 1), [.t 35, .t 36]⟩,
    ⟨3, some 38, none, .r (.load false 1) false, [.t 37]⟩,
    ⟨4, some 39, none, .p .mov, [.t 4]⟩,
    ⟨5, some 40, none, .p .mov, [.t 5]⟩,
    ⟨6, some 41, none, .p (.bin .sub), [.t 40, .c (.int .i64 1)]⟩,
    ⟨7, some 42, none, .p (.idx 1), [.t 39, .t 41]⟩,
    ⟨8, some 43, none, .r (.load false 1) false, [.t 42]⟩,
    ⟨9, some 44, none, .p (.bin .neq), [.t 38, .t 43]⟩])
   (.cond (.t 44) (.seq (.reg 0 [⟨0, some 45, none, .p .mov, [.t 0]⟩,
    ⟨1, some 46, none, .p .mov, [.t 3]⟩,
    ⟨2, some 47, none, .p .mov, [.t 4]⟩,
    ⟨3, some 48, none, .p .mov, [.t 5]⟩,
    ⟨4, some 49, none, .p (.idx 1), [.t 47, .t 48]⟩,
    ⟨5, some 50, none, .r (.load false 1) false, [.t 49]⟩,
    ⟨6, some 51, none, .p (.idx 1), [.t 45, .t 46]⟩,
    ⟨7, none, none, .e (.store 1) [] [], [.t 51, .t 50]⟩])
   (.reg 0 [⟨0, some 52, none, .p .mov, [.t 3]⟩,
    ⟨1, some 53, none, .p (.bin .add), [.t 52, .c (.int .i64 1)]⟩,
    ⟨2, some 3, none, .p .mov, [.t 53]⟩]))
   (.skip))))
   (.reg 0 [⟨0, some 33, none, .p .mov, [.t 5]⟩,
    ⟨1, some 34, none, .p (.bin .add), [.t 33, .c (.int .i64 1)]⟩,
    ⟨2, some 5, none, .p .mov, [.t 34]⟩]))
def g430_1 : GL.Code := .seq (.seq (.reg 0 [⟨0, some 10, none, .p .mov, [.t 3]⟩,
    ⟨1, some 11, none, .p .mov, [.t 0]⟩,
    ⟨2, some 12, none, .p .len, [.t 11]⟩,
    ⟨3, some 13, none, .p (.bin .lss), [.t 10, .t 12]⟩])
   (.cond (.t 13) (.skip)
   (.exit 0)))
   (.seq (.block 1 (.seq (.reg 0 [⟨0, some 16, none, .p .mov, [.t 0]⟩,
    ⟨1, some 17, none, .p .mov, [.t 3]⟩,
    ⟨2, some 18, none, .p (.idx 1), [.t 16, .t 17]⟩,
    ⟨3, some 19, none, .r (.load false 1) false, [.t 18]⟩,
    ⟨4, some 20, none, .p .mov, [.t 0]⟩,
    ⟨5, some 21, none, .p .mov, [.t 3]⟩,
    ⟨6, some 22, none, .p (.bin .sub), [.t 21, .c (.int .i64 1)]⟩,
    ⟨7, some 23, none, .p (.idx 1), [.t 20, .t 22]⟩,
    ⟨8, some 24, none, .r (.load false 1) false, [.t 23]⟩,
    ⟨9, some 25, none, .p (.bin .eql), [.t 19, .t 24]⟩])
   (.cond (.t 25) (.seq (.reg 0 [⟨0, some 26, none, .p .mov, [.t 0]⟩,
    ⟨1, some 27, none, .p .mov, [.t 3]⟩,
    ⟨2, some 28, none, .p (.slice 1 true false false), [.t 26, .t 27]⟩,
    ⟨3, some 4, none, .p .mov, [.t 28]⟩])
   (.seq (.seq (.reg 0 [⟨0, some 5, none, .p .mov, [.c (.int .i64 1)]⟩])
   (.block 2 (.loop g430_0)))
   (.seq (.reg 0 [⟨0, some 54, none, .p .mov, [.t 0]⟩,
    ⟨1, some 55, none, .p .mov, [.t 3]⟩,
    ⟨2, some 56, none, .p (.slice 1 true false false), [.t 54, .t 55]⟩,
    ⟨3, none, none, .e (.clear 1 [.int .i64 0]) [] [], [.t 56]⟩])
   (.seq (.reg 0 [⟨0, some 57, none, .p .mov, [.t 0]⟩,
    ⟨1, some 58, none, .p .mov, [.t 3]⟩,
    ⟨2, some 59, none, .p (.slice 1 false true false), [.t 57, .t 58]⟩,
    ⟨3, some 2, none, .p .mov, [.t 59]⟩])
   (.ret)))))
   (.skip))))
   (.reg 0 [⟨0, some 14, none, .p .mov, [.t 3]⟩,
    ⟨1, some 15, none, .p (.bin .add), [.t 14, .c (.int .i64 1)]⟩,
    ⟨2, some 3, none, .p .mov, [.t 15]⟩]))
def g430 : GL.Fn := ⟨.seq (.reg 0 [⟨0, some 2, none, .p .mov, [.c (.nils)]⟩])
   (.seq (.seq (.reg 0 [⟨0, some 6, none, .p .mov, [.t 0]⟩,
    ⟨1, some 7, none, .p .len, [.t 6]⟩,
    ⟨2, some 8, none, .p (.bin .lss), [.t 7, .c (.int .i64 2)]⟩])
   (.cond (.t 8) (.seq (.reg 0 [⟨0, some 9, none, .p .mov, [.t 0]⟩,
    ⟨1, some 2, none, .p .mov, [.t 9]⟩])
   (.ret))
   (.skip)))
   (.seq (.seq (.reg 0 [⟨0, some 3, none, .p .mov, [.c (.int .i64 1)]⟩])
   (.block 0 (.loop g430_1)))
   (.seq (.reg 0 [⟨0, some 60, none, .p .mov, [.t 0]⟩,
    ⟨1, some 2, none, .p .mov, [.t 60]⟩])
   (.ret)))),
  [.tmp 2]⟩
/- slices.DeleteFunc[[]int,int] -/
def g397_0 : GL.Code := .seq (.seq (.reg 0 [⟨0, some 16, none, .p .mov, [.t 6]⟩,
    ⟨1, some 17, none, .p .mov, [.t 0]⟩,
    ⟨2, some 18, none, .p .len, [.t 17]⟩,
    ⟨3, some 19, none, .p (.bin .lss), [.t 16, .t 18]⟩])
   (.cond (.t 19) (.skip)
   (.exit 0)))
   (.seq (.block 1 (.seq (.reg 0 [⟨0, some 22, none, .p .mov, [.t 0]⟩,
    ⟨1, some 23, none, .p .mov, [.t 6]⟩,
    ⟨2, some 24, none, .p (.idx 1), [.t 22, .t 23]⟩,
    ⟨3, some 25, none, .r (.load false 1) false, [.t 24]⟩,
    ⟨4, some 7, none, .p .mov, [.t 25]⟩])
   (.seq (.reg 0 [⟨0, some 26, none, .p .mov, [.t 1]⟩,
    ⟨1, some 27, none, .p .mov, [.t 7]⟩,
    ⟨2, some 28, none, .e .call [] [], [.t 26, .t 27]⟩,
    ⟨3, some 29, none, .p (.un .not), [.t 28]⟩])
   (.cond (.t 29) (.seq (.reg 0 [⟨0, some 30, none, .p .mov, [.t 0]⟩,
    ⟨1, some 31, none, .p .mov, [.t 5]⟩,
    ⟨2, some 32, none, .p .mov, [.t 7]⟩,
    ⟨3, some 33, none, .p (.idx 1), [.t 30, .t 31]⟩,
    ⟨4, none, none, .e (.store 1) [] [], [.t 33, .t 32]⟩])
   (.reg 0 [⟨0, some 34, none, .p .mov, [.t 5]⟩,
    ⟨1, some 35, none, .p (.bin .add), [.t 34, .c (.int .i64 1)]⟩,
    ⟨2, some 5, none, .p .mov, [.t 35]⟩]))
   (.skip)))))
   (.reg 0 [⟨0, some 20, none, .p .mov, [.t 6]⟩,
    ⟨1, some 21, none, .p (.bin .add), [.t 20, .c (.int .i64 1)]⟩,
    ⟨2, some 6, none, .p .mov, [.t 21]⟩]))
def g397 : GL.Fn := ⟨.seq (.reg 0 [⟨0, some 4, none, .p .mov, [.c (.nils)]⟩])
   (.seq (.reg 0 [⟨0, some 8, none, .p .mov, [.t 0]⟩,
    ⟨1, some 9, none, .p .mov, [.t 1]⟩,
    ⟨2, some 10, none, .e .call [] [], [.f 391, .t 8, .t 9]⟩,
    ⟨3, some 5, none, .p .mov, [.t 10]⟩])
   (.seq (.seq (.reg 0 [⟨0, some 11, none, .p .mov, [.t 5]⟩,
    ⟨1, some 12, none, .p (.bin .eql), [.t 11, .c (.int .i64 (-1))]⟩])
   (.cond (.t 12) (.seq (.reg 0 [⟨0, some 13, none, .p .mov, [.t 0]⟩,
    ⟨1, some 4, none, .p .mov, [.t 13]⟩])
   (.ret))
   (.skip)))
   (.seq (.seq (.reg 0 [⟨0, some 14, none, .p .mov, [.t 5]⟩,
    ⟨1, some 15, none, .p (.bin .add), [.t 14, .c (.int .i64 1)]⟩,
    ⟨2, some 6, none, .p .mov, [.t 15]⟩])
   (.block 0 (.loop g397_0)))
   (.seq (.reg 0 [⟨0, some 36, none, .p .mov, [.t 0]⟩,
    ⟨1, some 37, none, .p .mov, [.t 5]⟩,
    ⟨2, some 38, none, .p (.slice 1 true false false), [.t 36, .t 37]⟩,
    ⟨3, none, none, .e (.clear 1 [.int .i64 0]) [] [], [.t 38]⟩])
   (.seq (.reg 0 [⟨0, some 39, none, .p .mov, [.t 0]⟩,
    ⟨1, some 40, none, .p .mov, [.t 5]⟩,
    ⟨2, some 41, none, .p (.slice 1 false true false), [.t 39, .t 40]⟩,
    ⟨3, some 4, none, .p .mov, [.t 41]⟩])
   (.ret)))))),
  [.tmp 4]⟩
/- slices.Clone[[]int,int] -/
def g389 : GL.Fn := ⟨.seq (.reg 0 [⟨0, some 2, none, .p .mov, [.c (.nils)]⟩])
   (.seq (.seq (.reg 0 [⟨0, some 3, none, .p .mov, [.t 0]⟩,
    ⟨1, some 4, none, .p (.isNil false), [.t 3]⟩])
   (.cond (.t 4) (.seq (.reg 0 [⟨0, some 2, none, .p .mov, [.c (.nils)]⟩])
   (.ret))
   (.skip)))
   (.seq (.reg 0 [⟨0, some 5, none, .e (.new (.lit 1)) [] [], []⟩,
    ⟨1, some 6, none, .p .mov, [.t 0]⟩,
    ⟨2, some 7, none, .e (.append 1 8) [] [], [.t 5, .t 6]⟩,
    ⟨3, some 2, none, .p .mov, [.t 7]⟩])
   (.ret))),
  [.tmp 2]⟩
/- loop.example/g00641/impl.without$1 -/
def g435 : GL.Fn := ⟨.seq (.reg 0 [⟨0, some 3, none, .p .mov, [.c (.bool false)]⟩])
   (.seq (.reg 0 [⟨0, some 4, none, .r (.load false 1) false, [.t 1]⟩,
    ⟨1, some 5, none, .p .mov, [.t 0]⟩,
    ⟨2, some 6, none, .e .call [] [], [.f 301, .t 4, .t 5]⟩,
    ⟨3, some 3, none, .p .mov, [.t 6]⟩])
   (.ret)),
  [.tmp 3]⟩
/- slices.Contains[[]int,int] -/
def g301 : GL.Fn := ⟨.seq (.reg 0 [⟨0, some 4, none, .p .mov, [.c (.bool false)]⟩])
   (.seq (.reg 0 [⟨0, some 5, none, .p .mov, [.t 0]⟩,
    ⟨1, some 6, none, .p .mov, [.t 1]⟩,
    ⟨2, some 7, none, .e .call [] [], [.f 390, .t 5, .t 6]⟩,
    ⟨3, some 8, none, .p (.bin .geq), [.t 7, .c (.int .i64 0)]⟩,
    ⟨4, some 4, none, .p .mov, [.t 8]⟩])
   (.ret)),
  [.tmp 4]⟩
/- loop.example/g00641/spec.l6Number -/
def g684_0 : GL.Code := .seq (.reg 0 [⟨0, some 9, none, .p (.bin .lss), [.t 8, .t 7]⟩])
   (.seq (.cond (.t 9) (.skip)
   (.exit 0))
   (.seq (.block 1 (.seq (.reg 0 [⟨0, some 10, none, .p (.idx 1), [.t 6, .t 8]⟩,
    ⟨1, some 11, none, .r (.load false 1) false, [.t 10]⟩,
    ⟨2, some 5, none, .p .mov, [.t 11]⟩])
   (.reg 0 [⟨0, some 12, none, .p .mov, [.t 3]⟩,
    ⟨1, some 13, none, .p .mov, [.t 5]⟩,
    ⟨2, some 14, none, .p (.conv .u64), [.t 13]⟩,
    ⟨3, some 15, none, .p (.bin .shl), [.c (.int .i64 1), .t 14]⟩,
    ⟨4, some 16, none, .p (.bin .or), [.t 12, .t 15]⟩,
    ⟨5, some 3, none, .p .mov, [.t 16]⟩])))
   (.reg 0 [⟨0, some 17, none, .p (.bin .add), [.t 8, .c (.int .i64 1)]⟩,
    ⟨1, some 8, none, .p .mov, [.t 17]⟩])))
def g684 : GL.Fn := ⟨.seq (.reg 0 [⟨0, some 2, none, .p .mov, [.c (.int .i64 0)]⟩])
   (.seq (.reg 0 [⟨0, some 3, none, .p .mov, [.c (.int .i64 0)]⟩])
   (.seq (.seq (.reg 0 [⟨0, some 6, none, .p .mov, [.t 0]⟩,
    ⟨1, some 7, none, .p .len, [.t 6]⟩,
    ⟨2, some 8, none, .p .mov, [.c (.int .i64 0)]⟩])
   (.block 0 (.loop g684_0)))
   (.seq (.reg 0 [⟨0, some 18, none, .p .mov, [.t 3]⟩,
    ⟨1, some 2, none, .p .mov, [.t 18]⟩])
   (.ret)))),
  [.tmp 2]⟩
/- loop.example/g00641/spec.l1Put -/
def g410_0 : GL.Code := .seq (.seq (.reg 0 [⟨0, some 7, none, .p .mov, [.t 5]⟩,
    ⟨1, some 8, none, .p .mov, [.t 0]⟩,
    ⟨2, some 9, none, .p .len, [.t 8]⟩,
    ⟨3, some 10, none, .p (.bin .lss), [.t 7, .t 9]⟩,
    ⟨4, some 11, none, .p .mov, [.t 10]⟩,
    ⟨5, some 12, some (11, true), .p .mov, [.t 0]⟩,
    ⟨6, some 13, some (11, true), .p .mov, [.t 5]⟩,
    ⟨7, some 14, some (11, true), .p (.idx 1), [.t 12, .t 13]⟩,
    ⟨8, some 15, some (11, true), .r (.load false 1) false, [.t 14]⟩,
    ⟨9, some 16, some (11, true), .p .mov, [.t 1]⟩,
    ⟨10, some 17, some (11, true), .p (.bin .lss), [.t 15, .t 16]⟩,
    ⟨11, some 18, none, .p .pick, [.t 11, .t 17, .c (.bool false)]⟩])
   (.cond (.t 18) (.skip)
   (.exit 0)))
   (.block 1 (.reg 0 [⟨0, some 19, none, .p .mov, [.t 5]⟩,
    ⟨1, some 20, none, .p (.bin .add), [.t 19, .c (.int .i64 1)]⟩,
    ⟨2, some 5, none, .p .mov, [.t 20]⟩]))
def g410 : GL.Fn := ⟨.seq (.reg 0 [⟨0, some 4, none, .p .mov, [.c (.nils)]⟩])
   (.seq (.reg 0 [⟨0, some 5, none, .p .mov, [.c (.int .i64 0)]⟩])
   (.seq (.block 0 (.loop g410_0))
   (.seq (.seq (.reg 0 [⟨0, some 21, none, .p .mov, [.t 5]⟩,
    ⟨1, some 22, none, .p .mov, [.t 0]⟩,
    ⟨2, some 23, none, .p .len, [.t 22]⟩,
    ⟨3, some 24, none, .p (.bin .lss), [.t 21, .t 23]⟩,
    ⟨4, some 25, none, .p .mov, [.t 24]⟩,
    ⟨5, some 26, some (25, true), .p .mov, [.t 0]⟩,
    ⟨6, some 27, some (25, true), .p .mov, [.t 5]⟩,
    ⟨7, some 28, some (25, true), .p (.idx 1), [.t 26, .t 27]⟩,
    ⟨8, some 29, some (25, true), .r (.load false 1) false, [.t 28]⟩,
    ⟨9, some 30, some (25, true), .p .mov, [.t 1]⟩,
    ⟨10, some 31, some (25, true), .p (.bin .eql), [.t 29, .t 30]⟩,
    ⟨11, some 32, none, .p .pick, [.t 25, .t 31, .c (.bool false)]⟩])
   (.cond (.t 32) (.seq (.reg 0 [⟨0, some 33, none, .p .mov, [.t 0]⟩,
    ⟨1, some 4, none, .p .mov, [.t 33]⟩])
   (.ret))
   (.skip)))
   (.seq (.reg 0 [⟨0, some 34, none, .e (.new (.lit 1)) [] [], []⟩,
    ⟨1, some 35, none, .p .mov, [.t 0]⟩,
    ⟨2, some 36, none, .p .mov, [.t 5]⟩,
    ⟨3, some 37, none, .p (.slice 1 false true false), [.t 35, .t 36]⟩,
    ⟨4, some 38, none, .e (.append 1 8) [] [], [.t 34, .t 37]⟩,
    ⟨5, some 6, none, .p .mov, [.t 38]⟩])
   (.seq (.reg 0 [⟨0, some 39, none, .p .mov, [.t 6]⟩,
    ⟨1, some 40, none, .p .mov, [.t 1]⟩,
    ⟨2, some 41, none, .e (.new (.lit 1)) [] [], [.t 40]⟩,
    ⟨3, some 42, none, .e (.append 1 8) [] [], [.t 39, .t 41]⟩,
    ⟨4, some 6, none, .p .mov, [.t 42]⟩])
   (.seq (.reg 0 [⟨0, some 43, none, .p .mov, [.t 6]⟩,
    ⟨1, some 44, none, .p .mov, [.t 0]⟩,
    ⟨2, some 45, none, .p .mov, [.t 5]⟩,
    ⟨3, some 46, none, .p (.slice 1 true false false), [.t 44, .t 45]⟩,
    ⟨4, some 47, none, .e (.append 1 8) [] [], [.t 43, .t 46]⟩,
    ⟨5, some 4, none, .p .mov, [.t 47]⟩])
   (.ret))))))),
  [.tmp 4]⟩
/- loop.example/g00641/spec.l1Has -/
def g302_0 : GL.Code := .seq (.reg 0 [⟨0, some 10, none, .p (.bin .lss), [.t 9, .t 8]⟩])
   (.seq (.cond (.t 10) (.skip)
   (.exit 0))
   (.seq (.block 1 (.seq (.reg 0 [⟨0, some 11, none, .p (.idx 1), [.t 7, .t 9]⟩,
    ⟨1, some 12, none, .r (.load false 1) false, [.t 11]⟩,
    ⟨2, some 6, none, .p .mov, [.t 12]⟩])
   (.seq (.reg 0 [⟨0, some 13, none, .p .mov, [.t 6]⟩,
    ⟨1, some 14, none, .p .mov, [.t 1]⟩,
    ⟨2, some 15, none, .p (.bin .eql), [.t 13, .t 14]⟩])
   (.cond (.t 15) (.seq (.reg 0 [⟨0, some 4, none, .p .mov, [.c (.bool true)]⟩])
   (.ret))
   (.skip)))))
   (.reg 0 [⟨0, some 16, none, .p (.bin .add), [.t 9, .c (.int .i64 1)]⟩,
    ⟨1, some 9, none, .p .mov, [.t 16]⟩])))
def g302 : GL.Fn := ⟨.seq (.reg 0 [⟨0, some 4, none, .p .mov, [.c (.bool false)]⟩])
   (.seq (.seq (.reg 0 [⟨0, some 7, none, .p .mov, [.t 0]⟩,
    ⟨1, some 8, none, .p .len, [.t 7]⟩,
    ⟨2, some 9, none, .p .mov, [.c (.int .i64 0)]⟩])
   (.block 0 (.loop g302_0)))
   (.seq (.reg 0 [⟨0, some 4, none, .p .mov, [.c (.bool false)]⟩])
   (.ret))),
  [.tmp 4]⟩
/- loop.example/g00641/impl.isRising -/
def g385_0 : GL.Code := .seq (.reg 0 [⟨0, some 12, none, .p (.bin .lss), [.t 11, .t 10]⟩])
   (.seq (.cond (.t 12) (.skip)
   (.exit 0))
   (.seq (.block 1 (.seq (.reg 0 [⟨0, some 13, none, .p .mov, [.t 11]⟩,
    ⟨1, some 14, none, .p (.idx 1), [.t 9, .t 11]⟩,
    ⟨2, some 15, none, .r (.load false 1) false, [.t 14]⟩,
    ⟨3, some 7, none, .p .mov, [.t 13]⟩,
    ⟨4, some 8, none, .p .mov, [.t 15]⟩])
   (.seq (.reg 0 [⟨0, some 16, none, .p .mov, [.t 8]⟩,
    ⟨1, some 17, none, .p .mov, [.t 1]⟩,
    ⟨2, some 18, none, .p .mov, [.t 2]⟩,
    ⟨3, some 19, none, .e .call [] [], [.f 107, .t 16, .t 17, .t 18]⟩,
    ⟨4, some 20, none, .p (.un .not), [.t 19]⟩,
    ⟨5, some 21, none, .p .mov, [.t 20]⟩,
    ⟨6, some 22, some (21, false), .p .mov, [.t 7]⟩,
    ⟨7, some 23, some (21, false), .p (.bin .gtr), [.t 22, .c (.int .i64 0)]⟩,
    ⟨8, some 24, some (21, false), .p .mov, [.t 23]⟩,
    ⟨9, some 25, some (24, true), .p .mov, [.t 0]⟩,
    ⟨10, some 26, some (24, true), .p .mov, [.t 7]⟩,
    ⟨11, some 27, some (24, true), .p (.bin .sub), [.t 26, .c (.int .i64 1)]⟩,
    ⟨12, some 28, some (24, true), .p (.idx 1), [.t 25, .t 27]⟩,
    ⟨13, some 29, some (24, true), .r (.load false 1) false, [.t 28]⟩,
    ⟨14, some 30, some (24, true), .p .mov, [.t 8]⟩,
    ⟨15, some 31, some (24, true), .p (.bin .geq), [.t 29, .t 30]⟩,
    ⟨16, some 32, some (21, false), .p .pick, [.t 24, .t 31, .c (.bool false)]⟩,
    ⟨17, some 33, none, .p .pick, [.t 21, .c (.bool true), .t 32]⟩])
   (.cond (.t 33) (.seq (.reg 0 [⟨0, some 6, none, .p .mov, [.c (.bool false)]⟩])
   (.ret))
   (.skip)))))
   (.reg 0 [⟨0, some 34, none, .p (.bin .add), [.t 11, .c (.int .i64 1)]⟩,
    ⟨1, some 11, none, .p .mov, [.t 34]⟩])))
def g385 : GL.Fn := ⟨.seq (.reg 0 [⟨0, some 6, none, .p .mov, [.c (.bool false)]⟩])
   (.seq (.seq (.reg 0 [⟨0, some 9, none, .p .mov, [.t 0]⟩,
    ⟨1, some 10, none, .p .len, [.t 9]⟩,
    ⟨2, some 11, none, .p .mov, [.c (.int .i64 0)]⟩])
   (.block 0 (.loop g385_0)))
   (.seq (.reg 0 [⟨0, some 6, none, .p .mov, [.c (.bool true)]⟩])
   (.ret))),
  [.tmp 6]⟩
/- loop.example/g00641/spec.l1Rising -/
def g337_0 : GL.Code := .seq (.reg 0 [⟨0, some 12, none, .p (.bin .lss), [.t 11, .t 10]⟩])
   (.seq (.cond (.t 12) (.skip)
   (.exit 0))
   (.seq (.block 1 (.seq (.reg 0 [⟨0, some 13, none, .p .mov, [.t 11]⟩,
    ⟨1, some 14, none, .p (.idx 1), [.t 9, .t 11]⟩,
    ⟨2, some 15, none, .r (.load false 1) false, [.t 14]⟩,
    ⟨3, some 7, none, .p .mov, [.t 13]⟩,
    ⟨4, some 8, none, .p .mov, [.t 15]⟩])
   (.seq (.reg 0 [⟨0, some 16, none, .p .mov, [.t 8]⟩,
    ⟨1, some 17, none, .p .mov, [.t 1]⟩,
    ⟨2, some 18, none, .p .mov, [.t 2]⟩,
    ⟨3, some 19, none, .e .call [] [], [.f 98, .t 16, .t 17, .t 18]⟩,
    ⟨4, some 20, none, .p (.un .not), [.t 19]⟩,
    ⟨5, some 21, none, .p .mov, [.t 20]⟩,
    ⟨6, some 22, some (21, false), .p .mov, [.t 7]⟩,
    ⟨7, some 23, some (21, false), .p (.bin .gtr), [.t 22, .c (.int .i64 0)]⟩,
    ⟨8, some 24, some (21, false), .p .mov, [.t 23]⟩,
    ⟨9, some 25, some (24, true), .p .mov, [.t 0]⟩,
    ⟨10, some 26, some (24, true), .p .mov, [.t 7]⟩,
    ⟨11, some 27, some (24, true), .p (.bin .sub), [.t 26, .c (.int .i64 1)]⟩,
    ⟨12, some 28, some (24, true), .p (.idx 1), [.t 25, .t 27]⟩,
    ⟨13, some 29, some (24, true), .r (.load false 1) false, [.t 28]⟩,
    ⟨14, some 30, some (24, true), .p .mov, [.t 8]⟩,
    ⟨15, some 31, some (24, true), .p (.bin .geq), [.t 29, .t 30]⟩,
    ⟨16, some 32, some (21, false), .p .pick, [.t 24, .t 31, .c (.bool false)]⟩,
    ⟨17, some 33, none, .p .pick, [.t 21, .c (.bool true), .t 32]⟩])
   (.cond (.t 33) (.seq (.reg 0 [⟨0, some 6, none, .p .mov, [.c (.bool false)]⟩])
   (.ret))
   (.skip)))))
   (.reg 0 [⟨0, some 34, none, .p (.bin .add), [.t 11, .c (.int .i64 1)]⟩,
    ⟨1, some 11, none, .p .mov, [.t 34]⟩])))
def g337 : GL.Fn := ⟨.seq (.reg 0 [⟨0, some 6, none, .p .mov, [.c (.bool false)]⟩])
   (.seq (.seq (.reg 0 [⟨0, some 9, none, .p .mov, [.t 0]⟩,
    ⟨1, some 10, none, .p .len, [.t 9]⟩,
    ⟨2, some 11, none, .p .mov, [.c (.int .i64 0)]⟩])
   (.block 0 (.loop g337_0)))
   (.seq (.reg 0 [⟨0, some 6, none, .p .mov, [.c (.bool true)]⟩])
   (.ret))),
  [.tmp 6]⟩
/- loop.example/g00641/impl.both$1 -/
def g396 : GL.Fn := ⟨.seq (.reg 0 [⟨0, some 3, none, .p .mov, [.c (.bool false)]⟩])
   (.seq (.reg 0 [⟨0, some 4, none, .r (.load false 1) false, [.t 1]⟩,
    ⟨1, some 5, none, .p .mov, [.t 0]⟩,
    ⟨2, some 6, none, .e .call [] [], [.f 301, .t 4, .t 5]⟩,
    ⟨3, some 7, none, .p (.un .not), [.t 6]⟩,
    ⟨4, some 3, none, .p .mov, [.t 7]⟩])
   (.ret)),
  [.tmp 3]⟩
/- loop.example/g00641/impl.hasAll -/
def g552 : GL.Fn := ⟨.seq (.reg 0 [⟨0, some 2, none, .e (.new (.box 1)) [] [], [.t 0]⟩,
    ⟨1, some 4, none, .p .mov, [.c (.bool false)]⟩])
   (.seq (.reg 0 [⟨0, some 5, none, .p .mov, [.t 1]⟩,
    ⟨1, some 6, none, .p (.mkFn 572), [.t 2]⟩,
    ⟨2, some 7, none, .e .call [] [], [.f 304, .t 5, .t 6]⟩,
    ⟨3, some 8, none, .p (.un .not), [.t 7]⟩,
    ⟨4, some 4, none, .p .mov, [.t 8]⟩])
   (.ret)),
  [.tmp 4]⟩
/- slices.IndexFunc[[]loop.example/g00641/impl.Dep,loop.example/g00641/impl.Dep] -/
def g675_0 : GL.Code := .seq (.reg 0 [⟨0, some 9, none, .p (.bin .lss), [.t 8, .t 7]⟩])
   (.seq (.cond (.t 9) (.skip)
   (.exit 0))
   (.seq (.block 1 (.seq (.reg 0 [⟨0, some 10, none, .p .mov, [.t 8]⟩,
    ⟨1, some 5, none, .p .mov, [.t 10]⟩])
   (.seq (.reg 0 [⟨0, some 11, none, .p .mov, [.t 1]⟩,
    ⟨1, some 12, none, .p .mov, [.t 0]⟩,
    ⟨2, some 13, none, .p .mov, [.t 5]⟩,
    ⟨3, some 14, none, .p (.idx 2), [.t 12, .t 13]⟩,
    ⟨4, some 15, none, .r (.load true 2) false, [.t 14]⟩,
    ⟨5, some 16, none, .e .call [] [], [.t 11, .t 15]⟩])
   (.cond (.t 16) (.seq (.reg 0 [⟨0, some 17, none, .p .mov, [.t 5]⟩,
    ⟨1, some 4, none, .p .mov, [.t 17]⟩])
   (.ret))
   (.skip)))))
   (.reg 0 [⟨0, some 18, none, .p (.bin .add), [.t 8, .c (.int .i64 1)]⟩,
    ⟨1, some 8, none, .p .mov, [.t 18]⟩])))
def g675 : GL.Fn := ⟨.seq (.reg 0 [⟨0, some 4, none, .p .mov, [.c (.int .i64 0)]⟩])
   (.seq (.seq (.reg 0 [⟨0, some 6, none, .p .mov, [.t 0]⟩,
    ⟨1, some 7, none, .p .len, [.t 6]⟩,
    ⟨2, some 8, none, .p .mov, [.c (.int .i64 0)]⟩])
   (.block 0 (.loop g675_0)))
   (.seq (.reg 0 [⟨0, some 4, none, .p .mov, [.c (.int .i64 (-1))]⟩])
   (.ret))),
  [.tmp 4]⟩
/- slices.Grow[[]int,int] -/
def g436 : GL.Fn := ⟨.seq (.reg 0 [⟨0, some 4, none, .p .mov, [.c (.nils)]⟩])
   (.seq (.seq (.reg 0 [⟨0, some 5, none, .p .mov, [.t 1]⟩,
    ⟨1, some 6, none, .p (.bin .lss), [.t 5, .c (.int .i64 0)]⟩])
   (.cond (.t 6) (.reg 0 [⟨0, some 7, none, .p .bad, []⟩,
    ⟨1, none, none, .p .bad, []⟩])
   (.skip)))
   (.seq (.seq (.reg 0 [⟨0, some 8, none, .p .mov, [.t 1]⟩,
    ⟨1, some 9, none, .p .mov, [.t 0]⟩,
    ⟨2, some 10, none, .p .cap, [.t 9]⟩,
    ⟨3, some 11, none, .p .mov, [.t 0]⟩,
    ⟨4, some 12, none, .p .len, [.t 11]⟩,
    ⟨5, some 13, none, .p (.bin .sub), [.t 10, .t 12]⟩,
    ⟨6, some 14, none, .p (.bin .sub), [.t 8, .t 13]⟩,
    ⟨7, some 1, none, .p .mov, [.t 14]⟩])
   (.seq (.reg 0 [⟨0, some 15, none, .p .mov, [.t 1]⟩,
    ⟨1, some 16, none, .p (.bin .gtr), [.t 15, .c (.int .i64 0)]⟩])
   (.cond (.t 16) (.reg 0 [⟨0, some 17, none, .p .mov, [.t 0]⟩,
    ⟨1, some 18, none, .p .mov, [.t 0]⟩,
    ⟨2, some 19, none, .p .cap, [.t 18]⟩,
    ⟨3, some 20, none, .p (.slice 1 false true false), [.t 17, .t 19]⟩,
    ⟨4, some 21, none, .p .mov, [.t 1]⟩,
    ⟨5, some 22, none, .e (.appendZ 1 8 [.int .i64 0]) [] [], [.t 20, .t 21]⟩,
    ⟨6, some 23, none, .p .mov, [.t 0]⟩,
    ⟨7, some 24, none, .p .len, [.t 23]⟩,
    ⟨8, some 25, none, .p (.slice 1 false true false), [.t 22, .t 24]⟩,
    ⟨9, some 0, none, .p .mov, [.t 25]⟩])
   (.skip))))
   (.seq (.reg 0 [⟨0, some 26, none, .p .mov, [.t 0]⟩,
    ⟨1, some 4, none, .p .mov, [.t 26]⟩])
   (.ret)))),
  [.tmp 4]⟩
/- slices.IndexFunc[[]int,int] -/
def g391_0 : GL.Code := .seq (.reg 0 [⟨0, some 9, none, .p (.bin .lss), [.t 8, .t 7]⟩])
   (.seq (.cond (.t 9) (.skip)
   (.exit 0))
   (.seq (.block 1 (.seq (.reg 0 [⟨0, some 10, none, .p .mov, [.t 8]⟩,
    ⟨1, some 5, none, .p .mov, [.t 10]⟩])
   (.seq (.reg 0 [⟨0, some 11, none, .p .mov, [.t 1]⟩,
    ⟨1, some 12, none, .p .mov, [.t 0]⟩,
    ⟨2, some 13, none, .p .mov, [.t 5]⟩,
    ⟨3, some 14, none, .p (.idx 1), [.t 12, .t 13]⟩,
    ⟨4, some 15, none, .r (.load false 1) false, [.t 14]⟩,
    ⟨5, some 16, none, .e .call [] [], [.t 11, .t 15]⟩])
   (.cond (.t 16) (.seq (.reg 0 [⟨0, some 17, none, .p .mov, [.t 5]⟩,
    ⟨1, some 4, none, .p .mov, [.t 17]⟩])
   (.ret))
   (.skip)))))
   (.reg 0 [⟨0, some 18, none, .p (.bin .add), [.t 8, .c (.int .i64 1)]⟩,
    ⟨1, some 8, none, .p .mov, [.t 18]⟩])))
def g391 : GL.Fn := ⟨.seq (.reg 0 [⟨0, some 4, none, .p .mov, [.c (.int .i64 0)]⟩])
   (.seq (.seq (.reg 0 [⟨0, some 6, none, .p .mov, [.t 0]⟩,
    ⟨1, some 7, none, .p .len, [.t 6]⟩,
    ⟨2, some 8, none, .p .mov, [.c (.int .i64 0)]⟩])
   (.block 0 (.loop g391_0)))
   (.seq (.reg 0 [⟨0, some 4, none, .p .mov, [.c (.int .i64 (-1))]⟩])
   (.ret))),
  [.tmp 4]⟩
/- slices.Index[[]int,int] -/
def g390_0 : GL.Code := .seq (.reg 0 [⟨0, some 9, none, .p (.bin .lss), [.t 8, .t 7]⟩])
   (.seq (.cond (.t 9) (.skip)
   (.exit 0))
   (.seq (.block 1 (.seq (.reg 0 [⟨0, some 10, none, .p .mov, [.t 8]⟩,
    ⟨1, some 5, none, .p .mov, [.t 10]⟩])
   (.seq (.reg 0 [⟨0, some 11, none, .p .mov, [.t 1]⟩,
    ⟨1, some 12, none, .p .mov, [.t 0]⟩,
    ⟨2, some 13, none, .p .mov, [.t 5]⟩,
    ⟨3, some 14, none, .p (.idx 1), [.t 12, .t 13]⟩,
    ⟨4, some 15, none, .r (.load false 1) false, [.t 14]⟩,
    ⟨5, some 16, none, .p (.bin .eql), [.t 11, .t 15]⟩])
   (.cond (.t 16) (.seq (.reg 0 [⟨0, some 17, none, .p .mov, [.t 5]⟩,
    ⟨1, some 4, none, .p .mov, [.t 17]⟩])
   (.ret))
   (.skip)))))
   (.reg 0 [⟨0, some 18, none, .p (.bin .add), [.t 8, .c (.int .i64 1)]⟩,
    ⟨1, some 8, none, .p .mov, [.t 18]⟩])))
def g390 : GL.Fn := ⟨.seq (.reg 0 [⟨0, some 4, none, .p .mov, [.c (.int .i64 0)]⟩])
   (.seq (.seq (.reg 0 [⟨0, some 6, none, .p .mov, [.t 0]⟩,
    ⟨1, some 7, none, .p .len, [.t 6]⟩,
    ⟨2, some 8, none, .p .mov, [.c (.int .i64 0)]⟩])
   (.block 0 (.loop g390_0)))
   (.seq (.reg 0 [⟨0, some 4, none, .p .mov, [.c (.int .i64 (-1))]⟩])
   (.ret))),
  [.tmp 4]⟩
/- slices.ContainsFunc[[]int,int] -/
def g304 : GL.Fn := ⟨.seq (.reg 0 [⟨0, some 4, none, .p .mov, [.c (.bool false)]⟩])
   (.seq (.reg 0 [⟨0, some 5, none, .p .mov, [.t 0]⟩,
    ⟨1, some 6, none, .p .mov, [.t 1]⟩,
    ⟨2, some 7, none, .e .call [] [], [.f 391, .t 5, .t 6]⟩,
    ⟨3, some 8, none, .p (.bin .geq), [.t 7, .c (.int .i64 0)]⟩,
    ⟨4, some 4, none, .p .mov, [.t 8]⟩])
   (.ret)),
  [.tmp 4]⟩
/- loop.example/g00641/impl.hasAll$1 -/
def g572 : GL.Fn := ⟨.seq (.reg 0 [⟨0, some 3, none, .p .mov, [.c (.bool false)]⟩])
   (.seq (.reg 0 [⟨0, some 4, none, .r (.load false 1) false, [.t 1]⟩,
    ⟨1, some 5, none, .p .mov, [.t 0]⟩,
    ⟨2, some 6, none, .e .call [] [], [.f 301, .t 4, .t 5]⟩,
    ⟨3, some 7, none, .p (.un .not), [.t 6]⟩,
    ⟨4, some 3, none, .p .mov, [.t 7]⟩])
   (.ret)),
  [.tmp 3]⟩
end GL
