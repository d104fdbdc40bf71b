import Derived.Test.YtkmggfhfefaehaaGreatGlA
/- GL code of functions. -/
set_option linter.unusedSimpArgs false
set_option linter.unusedVariables false
set_option linter.unnecessarySimpa false
namespace GL
open Go
/- loop.example/g00641/laws.FnLossless -/
def g756_0 : GL.Code := .seq (.reg 0 [⟨0, some 101, none, .p (.bin .lss), [.t 100, .t 99]⟩])
   (.seq (.cond (.t 101) (.skip)
   (.exit 0))
   (.seq (.block 1 (.seq (.reg 0 [⟨0, some 102, none, .p .mov, [.t 100]⟩,
    ⟨1, some 19, none, .p .mov, [.t 102]⟩])
   (.seq (.reg 0 [⟨0, some 103, none, .p .mov, [.t 15]⟩,
    ⟨1, some 104, none, .p .mov, [.t 19]⟩,
    ⟨2, some 105, none, .p (.idx 2), [.t 103, .t 104]⟩,
    ⟨3, some 106, none, .r (.load true 2) false, [.t 105]⟩,
    ⟨4, some 107, none, .p .mov, [.t 17]⟩,
    ⟨5, some 108, none, .p .mov, [.t 19]⟩,
    ⟨6, some 109, none, .p (.idx 2), [.t 107, .t 108]⟩,
    ⟨7, some 110, none, .r (.load true 2) false, [.t 109]⟩,
    ⟨8, some 111, none, .e .call [] [], [.f 640, .t 106, .t 110]⟩,
    ⟨9, some 112, none, .p (.un .not), [.t 111]⟩])
   (.cond (.t 112) (.seq (.reg 0 [⟨0, some 4, none, .p .mov, [.c (.bool false)]⟩])
   (.ret))
   (.skip)))))
   (.reg 0 [⟨0, some 113, none, .p (.bin .add), [.t 100, .c (.int .i64 1)]⟩,
    ⟨1, some 100, none, .p .mov, [.t 113]⟩])))
def g756_1 : GL.Code := .seq (.reg 0 [⟨0, some 125, none, .p (.bin .lss), [.t 124, .t 123]⟩])
   (.seq (.cond (.t 125) (.skip)
   (.exit 2))
   (.seq (.block 3 (.seq (.reg 0 [⟨0, some 126, none, .p (.idx 1), [.t 122, .t 124]⟩,
    ⟨1, some 127, none, .r (.load false 1) false, [.t 126]⟩,
    ⟨2, some 22, none, .p .mov, [.t 127]⟩])
   (.seq (.reg 0 [⟨0, some 128, none, .p .mov, [.t 14]⟩,
    ⟨1, some 129, none, .p (.idx 1), [.t 128, .c (.int .i64 1)]⟩,
    ⟨2, some 130, none, .r (.load false 1) false, [.t 129]⟩,
    ⟨3, some 131, none, .p .mov, [.t 22]⟩,
    ⟨4, some 132, none, .e .call [] [], [.f 204, .t 130, .t 131]⟩])
   (.cond (.t 132) (.reg 0 [⟨0, some 133, none, .p .mov, [.t 20]⟩,
    ⟨1, some 134, none, .p .mov, [.t 22]⟩,
    ⟨2, some 135, none, .e (.new (.lit 1)) [] [], [.t 134]⟩,
    ⟨3, some 136, none, .e (.append 1 8) [] [], [.t 133, .t 135]⟩,
    ⟨4, some 20, none, .p .mov, [.t 136]⟩])
   (.skip)))))
   (.reg 0 [⟨0, some 137, none, .p (.bin .add), [.t 124, .c (.int .i64 1)]⟩,
    ⟨1, some 124, none, .p .mov, [.t 137]⟩])))
def g756 : GL.Fn := ⟨.seq (.reg 0 [⟨0, some 4, none, .p .mov, [.c (.bool false)]⟩])
   (.seq (.seq (.reg 0 [⟨0, some 34, none, .p .mov, [.t 0]⟩,
    ⟨1, some 35, none, .p .len, [.t 34]⟩,
    ⟨2, some 36, none, .p .mov, [.t 1]⟩,
    ⟨3, some 37, none, .p .len, [.t 36]⟩,
    ⟨4, some 38, none, .p (.bin .add), [.t 35, .t 37]⟩,
    ⟨5, some 39, none, .p (.bin .gtr), [.t 38, .c (.int .i64 1048576)]⟩])
   (.cond (.t 39) (.seq (.reg 0 [⟨0, some 4, none, .p .mov, [.c (.bool true)]⟩])
   (.ret))
   (.skip)))
   (.seq (.reg 0 [⟨0, some 41, none, .p .mov, [.t 0]⟩,
    ⟨1, some 42, none, .e .call [] [], [.f 757, .t 41]⟩,
    ⟨2, some 40, none, .p .mov, [.t 42]⟩,
    ⟨3, some 43, none, .p (.extract 0), [.t 40]⟩,
    ⟨4, some 44, none, .p (.extract 1), [.t 40]⟩,
    ⟨5, some 45, none, .p (.extract 2), [.t 40]⟩,
    ⟨6, some 46, none, .p (.extract 3), [.t 40]⟩,
    ⟨7, some 5, none, .p .mov, [.t 43]⟩,
    ⟨8, some 6, none, .p .mov, [.t 44]⟩,
    ⟨9, some 7, none, .p .mov, [.t 45]⟩,
    ⟨10, some 8, none, .p .mov, [.t 46]⟩])
   (.seq (.reg 0 [⟨0, some 48, none, .p .mov, [.t 5]⟩,
    ⟨1, some 49, none, .p .mov, [.t 6]⟩,
    ⟨2, some 50, none, .p .mov, [.t 7]⟩,
    ⟨3, some 51, none, .p .mov, [.t 8]⟩,
    ⟨4, some 52, none, .e .call [] [], [.f 758, .t 48, .t 49, .t 50, .t 51]⟩,
    ⟨5, some 47, none, .p .mov, [.t 52]⟩,
    ⟨6, some 53, none, .p (.extract 0), [.t 47]⟩,
    ⟨7, some 54, none, .p (.extract 1), [.t 47]⟩,
    ⟨8, some 9, none, .p .mov, [.t 53]⟩,
    ⟨9, some 10, none, .p .mov, [.t 54]⟩])
   (.seq (.reg 0 [⟨0, some 56, none, .p .mov, [.t 5]⟩,
    ⟨1, some 57, none, .p .mov, [.t 6]⟩,
    ⟨2, some 58, none, .p .mov, [.t 7]⟩,
    ⟨3, some 59, none, .p .mov, [.t 8]⟩,
    ⟨4, some 60, none, .e .call [] [], [.f 759, .t 56, .t 57, .t 58, .t 59]⟩,
    ⟨5, some 55, none, .p .mov, [.t 60]⟩,
    ⟨6, some 61, none, .p (.extract 0), [.t 55]⟩,
    ⟨7, some 62, none, .p (.extract 1), [.t 55]⟩,
    ⟨8, some 11, none, .p .mov, [.t 61]⟩,
    ⟨9, some 12, none, .p .mov, [.t 62]⟩])
   (.seq (.seq (.reg 0 [⟨0, some 63, none, .p .mov, [.t 10]⟩,
    ⟨1, some 64, none, .p .mov, [.t 12]⟩,
    ⟨2, some 65, none, .p (.eqB true), [.t 63, .t 64]⟩,
    ⟨3, some 66, none, .p .mov, [.t 65]⟩,
    ⟨4, some 67, some (66, false), .p .mov, [.t 9]⟩,
    ⟨5, some 68, some (66, false), .p .mov, [.t 11]⟩,
    ⟨6, some 69, some (66, false), .p (.eqB true), [.t 67, .t 68]⟩,
    ⟨7, some 70, none, .p .pick, [.t 66, .c (.bool true), .t 69]⟩])
   (.cond (.t 70) (.seq (.reg 0 [⟨0, some 4, none, .p .mov, [.c (.bool false)]⟩])
   (.ret))
   (.skip)))
   (.seq (.reg 0 [⟨0, some 72, none, .p .mov, [.t 1]⟩,
    ⟨1, some 73, none, .e .call [] [], [.f 760, .t 72]⟩,
    ⟨2, some 71, none, .p .mov, [.t 73]⟩,
    ⟨3, some 74, none, .p (.extract 0), [.t 71]⟩,
    ⟨4, some 75, none, .p (.extract 1), [.t 71]⟩,
    ⟨5, some 13, none, .l (.alloc 13 [.nils, .nils]), []⟩,
    ⟨6, none, none, .l (.store 13 2), [.t 13, .t 74]⟩,
    ⟨7, some 14, none, .p .mov, [.t 75]⟩])
   (.seq (.reg 0 [⟨0, some 77, none, .l (.load 13 true 2), [.t 13]⟩,
    ⟨1, some 78, none, .p .mov, [.t 14]⟩,
    ⟨2, some 79, none, .e .call [] [], [.f 761, .t 77, .t 78]⟩,
    ⟨3, some 76, none, .p .mov, [.t 79]⟩,
    ⟨4, some 80, none, .p (.extract 0), [.t 76]⟩,
    ⟨5, some 81, none, .p (.extract 1), [.t 76]⟩,
    ⟨6, some 15, none, .p .mov, [.t 80]⟩,
    ⟨7, some 16, none, .p .mov, [.t 81]⟩])
   (.seq (.reg 0 [⟨0, some 83, none, .l (.load 13 true 2), [.t 13]⟩,
    ⟨1, some 84, none, .p .mov, [.t 14]⟩,
    ⟨2, some 85, none, .e .call [] [], [.f 762, .t 83, .t 84]⟩,
    ⟨3, some 82, none, .p .mov, [.t 85]⟩,
    ⟨4, some 86, none, .p (.extract 0), [.t 82]⟩,
    ⟨5, some 87, none, .p (.extract 1), [.t 82]⟩,
    ⟨6, some 17, none, .p .mov, [.t 86]⟩,
    ⟨7, some 18, none, .p .mov, [.t 87]⟩])
   (.seq (.seq (.reg 0 [⟨0, some 88, none, .p .mov, [.t 16]⟩,
    ⟨1, some 89, none, .p .mov, [.t 18]⟩,
    ⟨2, some 90, none, .p (.eqB true), [.t 88, .t 89]⟩,
    ⟨3, some 91, none, .p .mov, [.t 90]⟩,
    ⟨4, some 92, some (91, false), .p .mov, [.t 15]⟩,
    ⟨5, some 93, some (91, false), .p .len, [.t 92]⟩,
    ⟨6, some 94, some (91, false), .p .mov, [.t 17]⟩,
    ⟨7, some 95, some (91, false), .p .len, [.t 94]⟩,
    ⟨8, some 96, some (91, false), .p (.bin .neq), [.t 93, .t 95]⟩,
    ⟨9, some 97, none, .p .pick, [.t 91, .c (.bool true), .t 96]⟩])
   (.cond (.t 97) (.seq (.reg 0 [⟨0, some 4, none, .p .mov, [.c (.bool false)]⟩])
   (.ret))
   (.skip)))
   (.seq (.seq (.reg 0 [⟨0, some 98, none, .p .mov, [.t 15]⟩,
    ⟨1, some 99, none, .p .len, [.t 98]⟩,
    ⟨2, some 100, none, .p .mov, [.c (.int .i64 0)]⟩])
   (.block 0 (.loop g756_0)))
   (.seq (.seq (.reg 0 [⟨0, some 114, none, .p .mov, [.t 16]⟩,
    ⟨1, some 115, none, .p .mov, [.t 114]⟩,
    ⟨2, some 116, some (115, true), .p .mov, [.t 14]⟩,
    ⟨3, some 117, some (115, true), .p .len, [.t 116]⟩,
    ⟨4, some 118, some (115, true), .p (.bin .eql), [.t 117, .c (.int .i64 2)]⟩,
    ⟨5, some 119, none, .p .pick, [.t 115, .t 118, .c (.bool false)]⟩])
   (.cond (.t 119) (.seq (.reg 0 [⟨0, some 20, none, .p .mov, [.c (.nils)]⟩])
   (.seq (.seq (.reg 0 [⟨0, some 120, none, .p .mov, [.t 14]⟩,
    ⟨1, some 121, none, .p (.idx 1), [.t 120, .c (.int .i64 0)]⟩,
    ⟨2, some 122, none, .r (.load false 1) false, [.t 121]⟩,
    ⟨3, some 123, none, .p .len, [.t 122]⟩,
    ⟨4, some 124, none, .p .mov, [.c (.int .i64 0)]⟩])
   (.block 2 (.loop g756_1)))
   (.seq (.reg 0 [⟨0, some 139, none, .l (.load 13 true 2), [.t 13]⟩,
    ⟨1, some 140, none, .p .mov, [.t 20]⟩,
    ⟨2, some 141, none, .p .mov, [.t 14]⟩,
    ⟨3, some 142, none, .p (.idx 1), [.t 141, .c (.int .i64 0)]⟩,
    ⟨4, some 143, none, .r (.load false 1) false, [.t 142]⟩,
    ⟨5, some 144, none, .p (.build [.nils, .nils] [(0, 1), (1, 1)]), [.t 140, .t 143]⟩,
    ⟨6, some 145, none, .e .call [] [], [.f 620, .t 139, .t 144]⟩,
    ⟨7, some 138, none, .p .mov, [.t 145]⟩,
    ⟨8, some 146, none, .p (.extract 0), [.t 138]⟩,
    ⟨9, some 147, none, .p (.extract 1), [.t 138]⟩,
    ⟨10, some 23, none, .p .mov, [.t 146]⟩,
    ⟨11, some 24, none, .p .mov, [.t 147]⟩])
   (.seq (.reg 0 [⟨0, some 149, none, .l (.load 13 true 2), [.t 13]⟩,
    ⟨1, some 150, none, .p .mov, [.t 20]⟩,
    ⟨2, some 151, none, .p .mov, [.t 14]⟩,
    ⟨3, some 152, none, .p (.idx 1), [.t 151, .c (.int .i64 1)]⟩,
    ⟨4, some 153, none, .r (.load false 1) false, [.t 152]⟩,
    ⟨5, some 154, none, .p (.build [.nils, .nils] [(0, 1), (1, 1)]), [.t 150, .t 153]⟩,
    ⟨6, some 155, none, .e .call [] [], [.f 620, .t 149, .t 154]⟩,
    ⟨7, some 148, none, .p .mov, [.t 155]⟩,
    ⟨8, some 156, none, .p (.extract 0), [.t 148]⟩,
    ⟨9, some 157, none, .p (.extract 1), [.t 148]⟩,
    ⟨10, some 25, none, .p .mov, [.t 156]⟩,
    ⟨11, some 26, none, .p .mov, [.t 157]⟩])
   (.seq (.reg 0 [⟨0, some 159, none, .p .mov, [.t 15]⟩,
    ⟨1, some 160, none, .e .call [] [], [.f 763, .t 159]⟩,
    ⟨2, some 158, none, .p .mov, [.t 160]⟩,
    ⟨3, some 161, none, .p (.extract 0), [.t 158]⟩,
    ⟨4, some 162, none, .p (.extract 1), [.t 158]⟩,
    ⟨5, some 27, none, .l (.alloc 27 [.nils, .nils]), []⟩,
    ⟨6, none, none, .l (.store 27 2), [.t 27, .t 161]⟩,
    ⟨7, some 28, none, .p .mov, [.t 162]⟩])
   (.seq (.reg 0 [⟨0, some 163, none, .p .mov, [.t 24]⟩,
    ⟨1, some 164, none, .p (.un .not), [.t 163]⟩,
    ⟨2, some 165, none, .p .mov, [.t 164]⟩,
    ⟨3, some 166, some (165, false), .p .mov, [.t 26]⟩,
    ⟨4, some 167, some (165, false), .p (.un .not), [.t 166]⟩,
    ⟨5, some 168, none, .p .pick, [.t 165, .c (.bool true), .t 167]⟩,
    ⟨6, some 169, none, .p .mov, [.t 168]⟩,
    ⟨7, some 170, some (169, false), .p .mov, [.t 28]⟩,
    ⟨8, some 171, some (169, false), .p (.un .not), [.t 170]⟩,
    ⟨9, some 172, none, .p .pick, [.t 169, .c (.bool true), .t 171]⟩,
    ⟨10, some 173, none, .p .mov, [.t 172]⟩,
    ⟨11, some 174, some (173, false), .p .mov, [.t 23]⟩,
    ⟨12, some 175, some (173, false), .p .mov, [.t 174]⟩,
    ⟨13, some 176, some (175, false), .p .mov, [.t 25]⟩,
    ⟨14, some 177, some (173, false), .p .pick, [.t 175, .c (.bool true), .t 176]⟩,
    ⟨15, some 178, some (173, false), .p .mov, [.t 177]⟩,
    ⟨16, some 179, some (178, true), .l (.load 27 true 2), [.t 27]⟩,
    ⟨17, some 180, some (178, true), .l (.load 13 true 2), [.t 13]⟩,
    ⟨18, some 181, some (178, true), .e .call [] [], [.f 640, .t 179, .t 180]⟩,
    ⟨19, some 182, some (178, true), .p (.un .not), [.t 181]⟩,
    ⟨20, some 183, some (173, false), .p .pick, [.t 178, .t 182, .c (.bool false)]⟩,
    ⟨21, some 184, none, .p .pick, [.t 173, .c (.bool true), .t 183]⟩])
   (.cond (.t 184) (.seq (.reg 0 [⟨0, some 4, none, .p .mov, [.c (.bool false)]⟩])
   (.ret))
   (.skip))))))))
   (.skip)))
   (.seq (.reg 0 [⟨0, some 185, none, .p .mov, [.t 1]⟩,
    ⟨1, some 186, none, .e .call [] [], [.f 764, .t 185]⟩,
    ⟨2, some 29, none, .p .mov, [.t 186]⟩])
   (.seq (.reg 0 [⟨0, some 188, none, .p .mov, [.t 29]⟩,
    ⟨1, some 189, none, .e .call [] [], [.f 763, .t 188]⟩,
    ⟨2, some 187, none, .p .mov, [.t 189]⟩,
    ⟨3, some 190, none, .p (.extract 0), [.t 187]⟩,
    ⟨4, some 191, none, .p (.extract 1), [.t 187]⟩,
    ⟨5, some 30, none, .l (.alloc 30 [.nils, .nils]), []⟩,
    ⟨6, none, none, .l (.store 30 2), [.t 30, .t 190]⟩,
    ⟨7, some 31, none, .p .mov, [.t 191]⟩])
   (.seq (.reg 0 [⟨0, some 193, none, .p .mov, [.t 29]⟩,
    ⟨1, some 194, none, .e .call [] [], [.f 765, .t 193]⟩,
    ⟨2, some 192, none, .p .mov, [.t 194]⟩,
    ⟨3, some 195, none, .p (.extract 0), [.t 192]⟩,
    ⟨4, some 196, none, .p (.extract 1), [.t 192]⟩,
    ⟨5, some 32, none, .l (.alloc 32 [.nils, .nils]), []⟩,
    ⟨6, none, none, .l (.store 32 2), [.t 32, .t 195]⟩,
    ⟨7, some 33, none, .p .mov, [.t 196]⟩])
   (.seq (.reg 0 [⟨0, some 197, none, .p .mov, [.t 31]⟩,
    ⟨1, some 198, none, .p .mov, [.t 33]⟩,
    ⟨2, some 199, none, .p (.eqB false), [.t 197, .t 198]⟩,
    ⟨3, some 200, none, .p .mov, [.t 199]⟩,
    ⟨4, some 201, some (200, true), .l (.load 30 true 2), [.t 30]⟩,
    ⟨5, some 202, some (200, true), .l (.load 32 true 2), [.t 32]⟩,
    ⟨6, some 203, some (200, true), .e .call [] [], [.f 640, .t 201, .t 202]⟩,
    ⟨7, some 204, none, .p .pick, [.t 200, .t 203, .c (.bool false)]⟩,
    ⟨8, some 4, none, .p .mov, [.t 204]⟩])
   (.ret)))))))))))))))),
  [.tmp 4]⟩
/- loop.example/g00641/impl.JoinTwo -/
def g736_0 : GL.Code := .seq (.reg 0 [⟨0, some 67, none, .p (.bin .lss), [.t 66, .t 65]⟩])
   (.seq (.cond (.t 67) (.skip)
   (.exit 4))
   (.seq (.block 5 (.seq (.reg 0 [⟨0, some 68, none, .p (.idx 1), [.t 64, .t 66]⟩,
    ⟨1, some 69, none, .r (.load false 1) false, [.t 68]⟩,
    ⟨2, some 15, none, .p .mov, [.t 69]⟩])
   (.seq (.reg 0 [⟨0, some 70, none, .p (.faddr 0), [.t 2]⟩,
    ⟨1, some 71, none, .l (.load 2 false 1), [.t 70]⟩,
    ⟨2, some 72, none, .p .mov, [.t 15]⟩,
    ⟨3, some 73, none, .e .call [] [], [.f 390, .t 71, .t 72]⟩,
    ⟨4, some 16, none, .p .mov, [.t 73]⟩])
   (.seq (.reg 0 [⟨0, some 74, none, .p .mov, [.t 16]⟩,
    ⟨1, some 75, none, .p (.bin .geq), [.t 74, .c (.int .i64 0)]⟩])
   (.cond (.t 75) (.reg 0 [⟨0, some 76, none, .p .mov, [.t 13]⟩,
    ⟨1, some 77, none, .p .mov, [.t 10]⟩,
    ⟨2, some 78, none, .p .mov, [.t 16]⟩,
    ⟨3, some 79, none, .p (.idx 1), [.t 77, .t 78]⟩,
    ⟨4, some 80, none, .r (.load false 1) false, [.t 79]⟩,
    ⟨5, some 81, none, .e (.new (.lit 1)) [] [], [.t 80]⟩,
    ⟨6, some 82, none, .e (.append 1 8) [] [], [.t 76, .t 81]⟩,
    ⟨7, some 13, none, .p .mov, [.t 82]⟩])
   (.reg 0 [⟨0, some 83, none, .p .mov, [.t 13]⟩,
    ⟨1, some 84, none, .p .mov, [.t 12]⟩,
    ⟨2, some 85, none, .p (.faddr 0), [.t 3]⟩,
    ⟨3, some 86, none, .l (.load 3 false 1), [.t 85]⟩,
    ⟨4, some 87, none, .p .mov, [.t 15]⟩,
    ⟨5, some 88, none, .e .call [] [], [.f 390, .t 86, .t 87]⟩,
    ⟨6, some 89, none, .p (.idx 1), [.t 84, .t 88]⟩,
    ⟨7, some 90, none, .r (.load false 1) false, [.t 89]⟩,
    ⟨8, some 91, none, .e (.new (.lit 1)) [] [], [.t 90]⟩,
    ⟨9, some 92, none, .e (.append 1 8) [] [], [.t 83, .t 91]⟩,
    ⟨10, some 13, none, .p .mov, [.t 92]⟩]))))))
   (.reg 0 [⟨0, some 93, none, .p (.bin .add), [.t 66, .c (.int .i64 1)]⟩,
    ⟨1, some 66, none, .p .mov, [.t 93]⟩])))
def g736_1 : GL.Code := .seq (.reg 0 [⟨0, some 48, none, .p (.bin .lss), [.t 47, .t 46]⟩])
   (.seq (.cond (.t 48) (.skip)
   (.exit 2))
   (.seq (.block 3 (.seq (.reg 0 [⟨0, some 49, none, .p (.idx 1), [.t 45, .t 47]⟩,
    ⟨1, some 50, none, .r (.load false 1) false, [.t 49]⟩,
    ⟨2, some 12, none, .p .mov, [.t 50]⟩])
   (.seq (.seq (.reg 0 [⟨0, some 51, none, .p (.faddr 0), [.t 2]⟩,
    ⟨1, some 52, none, .l (.load 2 false 1), [.t 51]⟩,
    ⟨2, some 53, none, .p .mov, [.t 10]⟩,
    ⟨3, some 54, none, .p .mov, [.t 6]⟩,
    ⟨4, some 55, none, .e .call [] [], [.f 661, .t 52, .t 53, .t 54]⟩,
    ⟨5, some 56, none, .p (.faddr 0), [.t 3]⟩,
    ⟨6, some 57, none, .l (.load 3 false 1), [.t 56]⟩,
    ⟨7, some 58, none, .p .mov, [.t 12]⟩,
    ⟨8, some 59, none, .p .mov, [.t 6]⟩,
    ⟨9, some 60, none, .e .call [] [], [.f 661, .t 57, .t 58, .t 59]⟩,
    ⟨10, some 61, none, .e .call [] [], [.f 386, .t 55, .t 60]⟩,
    ⟨11, some 62, none, .p (.un .not), [.t 61]⟩])
   (.cond (.t 62) (.exit 3)
   (.skip)))
   (.seq (.reg 0 [⟨0, some 63, none, .e (.new (.lit 1)) [] [], []⟩,
    ⟨1, some 13, none, .p .mov, [.t 63]⟩])
   (.seq (.seq (.reg 0 [⟨0, some 64, none, .p .mov, [.t 7]⟩,
    ⟨1, some 65, none, .p .len, [.t 64]⟩,
    ⟨2, some 66, none, .p .mov, [.c (.int .i64 0)]⟩])
   (.block 4 (.loop g736_0)))
   (.reg 0 [⟨0, some 94, none, .p .mov, [.t 8]⟩,
    ⟨1, some 95, none, .p .mov, [.t 13]⟩,
    ⟨2, some 96, none, .e (.new (.lit 1)) [] [], [.t 95]⟩,
    ⟨3, some 97, none, .e (.append 1 24) [] [], [.t 94, .t 96]⟩,
    ⟨4, some 8, none, .p .mov, [.t 97]⟩]))))))
   (.reg 0 [⟨0, some 98, none, .p (.bin .add), [.t 47, .c (.int .i64 1)]⟩,
    ⟨1, some 47, none, .p .mov, [.t 98]⟩])))
def g736_2 : GL.Code := .seq (.reg 0 [⟨0, some 41, none, .p (.bin .lss), [.t 40, .t 39]⟩])
   (.seq (.cond (.t 41) (.skip)
   (.exit 0))
   (.seq (.block 1 (.seq (.reg 0 [⟨0, some 42, none, .p (.idx 1), [.t 38, .t 40]⟩,
    ⟨1, some 43, none, .r (.load false 1) false, [.t 42]⟩,
    ⟨2, some 10, none, .p .mov, [.t 43]⟩])
   (.seq (.reg 0 [⟨0, some 44, none, .p (.faddr 1), [.t 3]⟩,
    ⟨1, some 45, none, .l (.load 3 false 1), [.t 44]⟩,
    ⟨2, some 46, none, .p .len, [.t 45]⟩,
    ⟨3, some 47, none, .p .mov, [.c (.int .i64 0)]⟩])
   (.block 2 (.loop g736_1)))))
   (.reg 0 [⟨0, some 99, none, .p (.bin .add), [.t 40, .c (.int .i64 1)]⟩,
    ⟨1, some 40, none, .p .mov, [.t 99]⟩])))
def g736 : GL.Fn := ⟨.seq (.reg 0 [⟨0, some 2, none, .l (.box 2 2), [.t 0]⟩,
    ⟨1, some 3, none, .l (.box 3 2), [.t 1]⟩,
    ⟨2, some 4, none, .l (.alloc 4 [.nils, .nils]), []⟩,
    ⟨3, some 5, none, .p .mov, [.c (.bool false)]⟩])
   (.seq (.seq (.reg 0 [⟨0, some 17, none, .l (.load 2 true 2), [.t 2]⟩,
    ⟨1, some 18, none, .e .call [] [], [.f 659, .t 17]⟩,
    ⟨2, some 19, none, .p (.un .not), [.t 18]⟩,
    ⟨3, some 20, none, .p .mov, [.t 19]⟩,
    ⟨4, some 21, some (20, false), .l (.load 3 true 2), [.t 3]⟩,
    ⟨5, some 22, some (20, false), .e .call [] [], [.f 659, .t 21]⟩,
    ⟨6, some 23, some (20, false), .p (.un .not), [.t 22]⟩,
    ⟨7, some 24, none, .p .pick, [.t 20, .c (.bool true), .t 23]⟩])
   (.cond (.t 24) (.seq (.reg 0 [⟨0, some 25, none, .p (.build [.nils, .nils] []), []⟩,
    ⟨1, none, none, .l (.store 4 2), [.t 4, .t 25]⟩,
    ⟨2, some 5, none, .p .mov, [.c (.bool false)]⟩])
   (.ret))
   (.skip)))
   (.seq (.reg 1 [⟨0, some 26, none, .p (.faddr 0), [.t 2]⟩,
    ⟨1, some 27, none, .l (.load 2 false 1), [.t 26]⟩,
    ⟨2, some 28, none, .p (.faddr 0), [.t 3]⟩,
    ⟨3, some 29, none, .l (.load 3 false 1), [.t 28]⟩,
    ⟨4, some 30, none, .e .call [] [0], [.f 336, .t 27, .t 29]⟩,
    ⟨5, some 31, none, .p (.faddr 0), [.t 2]⟩,
    ⟨6, some 32, none, .l (.load 2 false 1), [.t 31]⟩,
    ⟨7, some 33, none, .p (.faddr 0), [.t 3]⟩,
    ⟨8, some 34, none, .l (.load 3 false 1), [.t 33]⟩,
    ⟨9, some 35, none, .e .call [] [0], [.f 412, .t 32, .t 34]⟩,
    ⟨10, some 36, none, .m (.lit 1) 0, []⟩,
    ⟨11, some 6, none, .p .mov, [.t 30]⟩,
    ⟨12, some 7, none, .p .mov, [.t 35]⟩,
    ⟨13, some 8, none, .p .mov, [.t 36]⟩])
   (.seq (.seq (.reg 0 [⟨0, some 37, none, .p (.faddr 1), [.t 2]⟩,
    ⟨1, some 38, none, .l (.load 2 false 1), [.t 37]⟩,
    ⟨2, some 39, none, .p .len, [.t 38]⟩,
    ⟨3, some 40, none, .p .mov, [.c (.int .i64 0)]⟩])
   (.block 0 (.loop g736_2)))
   (.seq (.reg 0 [⟨0, some 100, none, .p .mov, [.t 7]⟩,
    ⟨1, some 101, none, .p .mov, [.t 8]⟩,
    ⟨2, some 102, none, .e .call [] [], [.f 673, .t 100, .t 101]⟩,
    ⟨3, some 103, none, .p (.extract 0), [.t 102]⟩,
    ⟨4, some 104, none, .p (.extract 1), [.t 102]⟩,
    ⟨5, none, none, .l (.store 4 2), [.t 4, .t 103]⟩,
    ⟨6, some 5, none, .p .mov, [.t 104]⟩])
   (.ret))))),
  [.cellL 4 4 true 2, .tmp 5]⟩
/- loop.example/g00641/spec.JoinTwo -/
def g737_0 : GL.Code := .seq (.reg 0 [⟨0, some 36, none, .p (.bin .lss), [.t 35, .t 34]⟩])
   (.seq (.cond (.t 36) (.skip)
   (.exit 0))
   (.seq (.block 1 (.seq (.reg 0 [⟨0, some 37, none, .p (.idx 1), [.t 33, .t 35]⟩,
    ⟨1, some 38, none, .r (.load false 1) false, [.t 37]⟩,
    ⟨2, some 9, none, .p .mov, [.t 38]⟩])
   (.seq (.seq (.reg 0 [⟨0, some 39, none, .p (.faddr 0), [.t 2]⟩,
    ⟨1, some 40, none, .l (.load 2 false 1), [.t 39]⟩,
    ⟨2, some 41, none, .p .mov, [.t 9]⟩,
    ⟨3, some 42, none, .e .call [] [], [.f 606, .t 40, .t 41]⟩,
    ⟨4, some 43, none, .p (.bin .geq), [.t 42, .c (.int .i64 0)]⟩])
   (.cond (.t 43) (.reg 0 [⟨0, some 44, none, .p .mov, [.t 7]⟩,
    ⟨1, some 45, none, .p .mov, [.t 9]⟩,
    ⟨2, some 46, none, .e (.new (.lit 1)) [] [], [.t 45]⟩,
    ⟨3, some 47, none, .e (.append 1 8) [] [], [.t 44, .t 46]⟩,
    ⟨4, some 7, none, .p .mov, [.t 47]⟩])
   (.skip)))
   (.reg 0 [⟨0, some 48, none, .p .mov, [.t 6]⟩,
    ⟨1, some 49, none, .p .mov, [.t 9]⟩,
    ⟨2, some 50, none, .e .call [] [], [.f 410, .t 48, .t 49]⟩,
    ⟨3, some 6, none, .p .mov, [.t 50]⟩]))))
   (.reg 0 [⟨0, some 51, none, .p (.bin .add), [.t 35, .c (.int .i64 1)]⟩,
    ⟨1, some 35, none, .p .mov, [.t 51]⟩])))
def g737_1 : GL.Code := .seq (.reg 0 [⟨0, some 81, none, .p (.bin .lss), [.t 80, .t 79]⟩])
   (.seq (.cond (.t 81) (.skip)
   (.exit 6))
   (.seq (.block 7 (.seq (.reg 0 [⟨0, some 82, none, .p (.idx 1), [.t 78, .t 80]⟩,
    ⟨1, some 83, none, .r (.load false 1) false, [.t 82]⟩,
    ⟨2, some 17, none, .p .mov, [.t 83]⟩])
   (.seq (.reg 0 [⟨0, some 84, none, .p (.faddr 0), [.t 2]⟩,
    ⟨1, some 85, none, .l (.load 2 false 1), [.t 84]⟩,
    ⟨2, some 86, none, .p .mov, [.t 17]⟩,
    ⟨3, some 87, none, .e .call [] [], [.f 606, .t 85, .t 86]⟩,
    ⟨4, some 18, none, .p .mov, [.t 87]⟩])
   (.seq (.reg 0 [⟨0, some 88, none, .p .mov, [.t 18]⟩,
    ⟨1, some 89, none, .p (.bin .geq), [.t 88, .c (.int .i64 0)]⟩])
   (.cond (.t 89) (.reg 0 [⟨0, some 90, none, .p .mov, [.t 15]⟩,
    ⟨1, some 91, none, .p .mov, [.t 12]⟩,
    ⟨2, some 92, none, .p .mov, [.t 18]⟩,
    ⟨3, some 93, none, .p (.idx 1), [.t 91, .t 92]⟩,
    ⟨4, some 94, none, .r (.load false 1) false, [.t 93]⟩,
    ⟨5, some 95, none, .e (.new (.lit 1)) [] [], [.t 94]⟩,
    ⟨6, some 96, none, .e (.append 1 8) [] [], [.t 90, .t 95]⟩,
    ⟨7, some 15, none, .p .mov, [.t 96]⟩])
   (.reg 0 [⟨0, some 97, none, .p .mov, [.t 15]⟩,
    ⟨1, some 98, none, .p .mov, [.t 14]⟩,
    ⟨2, some 99, none, .p (.faddr 0), [.t 3]⟩,
    ⟨3, some 100, none, .l (.load 3 false 1), [.t 99]⟩,
    ⟨4, some 101, none, .p .mov, [.t 17]⟩,
    ⟨5, some 102, none, .e .call [] [], [.f 606, .t 100, .t 101]⟩,
    ⟨6, some 103, none, .p (.idx 1), [.t 98, .t 102]⟩,
    ⟨7, some 104, none, .r (.load false 1) false, [.t 103]⟩,
    ⟨8, some 105, none, .e (.new (.lit 1)) [] [], [.t 104]⟩,
    ⟨9, some 106, none, .e (.append 1 8) [] [], [.t 97, .t 105]⟩,
    ⟨10, some 15, none, .p .mov, [.t 106]⟩]))))))
   (.reg 0 [⟨0, some 107, none, .p (.bin .add), [.t 80, .c (.int .i64 1)]⟩,
    ⟨1, some 80, none, .p .mov, [.t 107]⟩])))
def g737_2 : GL.Code := .seq (.reg 0 [⟨0, some 63, none, .p (.bin .lss), [.t 62, .t 61]⟩])
   (.seq (.cond (.t 63) (.skip)
   (.exit 4))
   (.seq (.block 5 (.seq (.reg 0 [⟨0, some 64, none, .p (.idx 1), [.t 60, .t 62]⟩,
    ⟨1, some 65, none, .r (.load false 1) false, [.t 64]⟩,
    ⟨2, some 14, none, .p .mov, [.t 65]⟩])
   (.seq (.seq (.reg 0 [⟨0, some 66, none, .p (.faddr 0), [.t 2]⟩,
    ⟨1, some 67, none, .l (.load 2 false 1), [.t 66]⟩,
    ⟨2, some 68, none, .p .mov, [.t 12]⟩,
    ⟨3, some 69, none, .p .mov, [.t 7]⟩,
    ⟨4, some 70, none, .e .call [] [], [.f 679, .t 67, .t 68, .t 69]⟩,
    ⟨5, some 71, none, .p (.faddr 0), [.t 3]⟩,
    ⟨6, some 72, none, .l (.load 3 false 1), [.t 71]⟩,
    ⟨7, some 73, none, .p .mov, [.t 14]⟩,
    ⟨8, some 74, none, .p .mov, [.t 7]⟩,
    ⟨9, some 75, none, .e .call [] [], [.f 679, .t 72, .t 73, .t 74]⟩,
    ⟨10, some 76, none, .e .call [] [], [.f 356, .t 70, .t 75]⟩,
    ⟨11, some 77, none, .p (.un .not), [.t 76]⟩])
   (.cond (.t 77) (.exit 5)
   (.skip)))
   (.seq (.reg 0 [⟨0, some 15, none, .p .mov, [.c (.nils)]⟩])
   (.seq (.seq (.reg 0 [⟨0, some 78, none, .p .mov, [.t 6]⟩,
    ⟨1, some 79, none, .p .len, [.t 78]⟩,
    ⟨2, some 80, none, .p .mov, [.c (.int .i64 0)]⟩])
   (.block 6 (.loop g737_1)))
   (.reg 0 [⟨0, some 108, none, .p .mov, [.t 10]⟩,
    ⟨1, some 109, none, .p .mov, [.t 15]⟩,
    ⟨2, some 110, none, .e .call [] [], [.f 687, .t 108, .t 109]⟩,
    ⟨3, some 10, none, .p .mov, [.t 110]⟩]))))))
   (.reg 0 [⟨0, some 111, none, .p (.bin .add), [.t 62, .c (.int .i64 1)]⟩,
    ⟨1, some 62, none, .p .mov, [.t 111]⟩])))
def g737_3 : GL.Code := .seq (.reg 0 [⟨0, some 56, none, .p (.bin .lss), [.t 55, .t 54]⟩])
   (.seq (.cond (.t 56) (.skip)
   (.exit 2))
   (.seq (.block 3 (.seq (.reg 0 [⟨0, some 57, none, .p (.idx 1), [.t 53, .t 55]⟩,
    ⟨1, some 58, none, .r (.load false 1) false, [.t 57]⟩,
    ⟨2, some 12, none, .p .mov, [.t 58]⟩])
   (.seq (.reg 0 [⟨0, some 59, none, .p (.faddr 1), [.t 3]⟩,
    ⟨1, some 60, none, .l (.load 3 false 1), [.t 59]⟩,
    ⟨2, some 61, none, .p .len, [.t 60]⟩,
    ⟨3, some 62, none, .p .mov, [.c (.int .i64 0)]⟩])
   (.block 4 (.loop g737_2)))))
   (.reg 0 [⟨0, some 112, none, .p (.bin .add), [.t 55, .c (.int .i64 1)]⟩,
    ⟨1, some 55, none, .p .mov, [.t 112]⟩])))
def g737 : GL.Fn := ⟨.seq (.reg 0 [⟨0, some 2, none, .l (.box 2 2), [.t 0]⟩,
    ⟨1, some 3, none, .l (.box 3 2), [.t 1]⟩,
    ⟨2, some 4, none, .l (.alloc 4 [.nils, .nils]), []⟩,
    ⟨3, some 5, none, .p .mov, [.c (.bool false)]⟩])
   (.seq (.seq (.reg 0 [⟨0, some 19, none, .l (.load 2 true 2), [.t 2]⟩,
    ⟨1, some 20, none, .e .call [] [], [.f 662, .t 19]⟩,
    ⟨2, some 21, none, .p (.un .not), [.t 20]⟩,
    ⟨3, some 22, none, .p .mov, [.t 21]⟩,
    ⟨4, some 23, some (22, false), .l (.load 3 true 2), [.t 3]⟩,
    ⟨5, some 24, some (22, false), .e .call [] [], [.f 662, .t 23]⟩,
    ⟨6, some 25, some (22, false), .p (.un .not), [.t 24]⟩,
    ⟨7, some 26, none, .p .pick, [.t 22, .c (.bool true), .t 25]⟩])
   (.cond (.t 26) (.seq (.reg 0 [⟨0, some 27, none, .p (.build [.nils, .nils] []), []⟩,
    ⟨1, none, none, .l (.store 4 2), [.t 4, .t 27]⟩,
    ⟨2, some 5, none, .p .mov, [.c (.bool false)]⟩])
   (.ret))
   (.skip)))
   (.seq (.reg 0 [⟨0, some 28, none, .e (.new (.lit 1)) [] [], []⟩,
    ⟨1, some 29, none, .p (.faddr 0), [.t 2]⟩,
    ⟨2, some 30, none, .l (.load 2 false 1), [.t 29]⟩,
    ⟨3, some 31, none, .e (.append 1 8) [] [], [.t 28, .t 30]⟩,
    ⟨4, some 6, none, .p .mov, [.t 31]⟩])
   (.seq (.reg 0 [⟨0, some 7, none, .p .mov, [.c (.nils)]⟩])
   (.seq (.seq (.reg 0 [⟨0, some 32, none, .p (.faddr 0), [.t 3]⟩,
    ⟨1, some 33, none, .l (.load 3 false 1), [.t 32]⟩,
    ⟨2, some 34, none, .p .len, [.t 33]⟩,
    ⟨3, some 35, none, .p .mov, [.c (.int .i64 0)]⟩])
   (.block 0 (.loop g737_0)))
   (.seq (.reg 0 [⟨0, some 10, none, .p .mov, [.c (.nils)]⟩])
   (.seq (.seq (.reg 0 [⟨0, some 52, none, .p (.faddr 1), [.t 2]⟩,
    ⟨1, some 53, none, .l (.load 2 false 1), [.t 52]⟩,
    ⟨2, some 54, none, .p .len, [.t 53]⟩,
    ⟨3, some 55, none, .p .mov, [.c (.int .i64 0)]⟩])
   (.block 2 (.loop g737_3)))
   (.seq (.reg 0 [⟨0, some 113, none, .p .mov, [.t 6]⟩,
    ⟨1, some 114, none, .p .mov, [.t 10]⟩,
    ⟨2, some 115, none, .e .call [] [], [.f 674, .t 113, .t 114]⟩,
    ⟨3, some 116, none, .p (.extract 0), [.t 115]⟩,
    ⟨4, some 117, none, .p (.extract 1), [.t 115]⟩,
    ⟨5, none, none, .l (.store 4 2), [.t 4, .t 116]⟩,
    ⟨6, some 5, none, .p .mov, [.t 117]⟩])
   (.ret)))))))),
  [.cellL 4 4 true 2, .tmp 5]⟩
/- loop.example/g00641/laws.sameRelation -/
def g640 : GL.Fn := ⟨.seq (.reg 0 [⟨0, some 2, none, .l (.box 2 2), [.t 0]⟩,
    ⟨1, some 3, none, .l (.box 3 2), [.t 1]⟩,
    ⟨2, some 4, none, .p .mov, [.c (.bool false)]⟩])
   (.seq (.reg 0 [⟨0, some 5, none, .p (.faddr 0), [.t 2]⟩,
    ⟨1, some 6, none, .l (.load 2 false 1), [.t 5]⟩,
    ⟨2, some 7, none, .p (.faddr 0), [.t 3]⟩,
    ⟨3, some 8, none, .l (.load 3 false 1), [.t 7]⟩,
    ⟨4, some 9, none, .e .call [] [], [.f 24, .t 6, .t 8]⟩,
    ⟨5, some 10, none, .p .mov, [.t 9]⟩,
    ⟨6, some 11, some (10, true), .p (.faddr 1), [.t 2]⟩,
    ⟨7, some 12, some (10, true), .l (.load 2 false 1), [.t 11]⟩,
    ⟨8, some 13, some (10, true), .p (.faddr 1), [.t 3]⟩,
    ⟨9, some 14, some (10, true), .l (.load 3 false 1), [.t 13]⟩,
    ⟨10, some 15, some (10, true), .e .call [] [], [.f 383, .t 12, .t 14]⟩,
    ⟨11, some 16, none, .p .pick, [.t 10, .t 15, .c (.bool false)]⟩,
    ⟨12, some 4, none, .p .mov, [.t 16]⟩])
   (.ret)),
  [.tmp 4]⟩
/- loop.example/g00641/impl.Project -/
def g739_0 : GL.Code := .seq (.reg 0 [⟨0, some 25, none, .p (.bin .lss), [.t 24, .t 23]⟩])
   (.seq (.cond (.t 25) (.skip)
   (.exit 0))
   (.seq (.block 1 (.seq (.reg 0 [⟨0, some 26, none, .p (.idx 1), [.t 22, .t 24]⟩,
    ⟨1, some 27, none, .r (.load false 1) false, [.t 26]⟩,
    ⟨2, some 8, none, .p .mov, [.t 27]⟩])
   (.reg 0 [⟨0, some 28, none, .p .mov, [.t 6]⟩,
    ⟨1, some 29, none, .p (.faddr 0), [.t 2]⟩,
    ⟨2, some 30, none, .l (.load 2 false 1), [.t 29]⟩,
    ⟨3, some 31, none, .p .mov, [.t 8]⟩,
    ⟨4, some 32, none, .p .mov, [.t 1]⟩,
    ⟨5, some 33, none, .e .call [] [], [.f 661, .t 30, .t 31, .t 32]⟩,
    ⟨6, some 34, none, .e (.new (.lit 1)) [] [], [.t 33]⟩,
    ⟨7, some 35, none, .e (.append 1 24) [] [], [.t 28, .t 34]⟩,
    ⟨8, some 6, none, .p .mov, [.t 35]⟩])))
   (.reg 0 [⟨0, some 36, none, .p (.bin .add), [.t 24, .c (.int .i64 1)]⟩,
    ⟨1, some 24, none, .p .mov, [.t 36]⟩])))
def g739 : GL.Fn := ⟨.seq (.reg 0 [⟨0, some 2, none, .l (.box 2 2), [.t 0]⟩,
    ⟨1, some 4, none, .l (.alloc 4 [.nils, .nils]), []⟩,
    ⟨2, some 5, none, .p .mov, [.c (.bool false)]⟩])
   (.seq (.seq (.reg 0 [⟨0, some 9, none, .l (.load 2 true 2), [.t 2]⟩,
    ⟨1, some 10, none, .e .call [] [], [.f 659, .t 9]⟩,
    ⟨2, some 11, none, .p (.un .not), [.t 10]⟩,
    ⟨3, some 12, none, .p .mov, [.t 11]⟩,
    ⟨4, some 13, some (12, false), .p .mov, [.t 1]⟩,
    ⟨5, some 14, some (12, false), .p (.faddr 0), [.t 2]⟩,
    ⟨6, some 15, some (12, false), .l (.load 2 false 1), [.t 14]⟩,
    ⟨7, some 16, some (12, false), .e .call [] [], [.f 660, .t 13, .t 15]⟩,
    ⟨8, some 17, some (12, false), .p (.un .not), [.t 16]⟩,
    ⟨9, some 18, none, .p .pick, [.t 12, .c (.bool true), .t 17]⟩])
   (.cond (.t 18) (.seq (.reg 0 [⟨0, some 19, none, .p (.build [.nils, .nils] []), []⟩,
    ⟨1, none, none, .l (.store 4 2), [.t 4, .t 19]⟩,
    ⟨2, some 5, none, .p .mov, [.c (.bool false)]⟩])
   (.ret))
   (.skip)))
   (.seq (.reg 0 [⟨0, some 20, none, .e (.new (.lit 1)) [] [], []⟩,
    ⟨1, some 6, none, .p .mov, [.t 20]⟩])
   (.seq (.seq (.reg 0 [⟨0, some 21, none, .p (.faddr 1), [.t 2]⟩,
    ⟨1, some 22, none, .l (.load 2 false 1), [.t 21]⟩,
    ⟨2, some 23, none, .p .len, [.t 22]⟩,
    ⟨3, some 24, none, .p .mov, [.c (.int .i64 0)]⟩])
   (.block 0 (.loop g739_0)))
   (.seq (.reg 0 [⟨0, some 37, none, .p .mov, [.t 1]⟩,
    ⟨1, some 38, none, .p .mov, [.t 6]⟩,
    ⟨2, some 39, none, .e .call [] [], [.f 673, .t 37, .t 38]⟩,
    ⟨3, some 40, none, .p (.extract 0), [.t 39]⟩,
    ⟨4, some 41, none, .p (.extract 1), [.t 39]⟩,
    ⟨5, none, none, .l (.store 4 2), [.t 4, .t 40]⟩,
    ⟨6, some 5, none, .p .mov, [.t 41]⟩])
   (.ret))))),
  [.cellL 4 4 true 2, .tmp 5]⟩
/- loop.example/g00641/impl.GoodRelation -/
def g659_0 : GL.Code := .seq (.reg 0 [⟨0, some 25, none, .p (.bin .lss), [.t 24, .t 23]⟩])
   (.seq (.cond (.t 25) (.skip)
   (.exit 0))
   (.seq (.block 1 (.seq (.reg 0 [⟨0, some 26, none, .p .mov, [.t 24]⟩,
    ⟨1, some 27, none, .p (.idx 1), [.t 22, .t 24]⟩,
    ⟨2, some 28, none, .r (.load false 1) false, [.t 27]⟩,
    ⟨3, some 3, none, .p .mov, [.t 26]⟩,
    ⟨4, some 4, none, .p .mov, [.t 28]⟩])
   (.seq (.seq (.reg 0 [⟨0, some 29, none, .p .mov, [.t 4]⟩,
    ⟨1, some 30, none, .p .len, [.t 29]⟩,
    ⟨2, some 31, none, .p (.faddr 0), [.t 1]⟩,
    ⟨3, some 32, none, .l (.load 1 false 1), [.t 31]⟩,
    ⟨4, some 33, none, .p .len, [.t 32]⟩,
    ⟨5, some 34, none, .p (.bin .neq), [.t 30, .t 33]⟩,
    ⟨6, some 35, none, .p .mov, [.t 34]⟩,
    ⟨7, some 36, some (35, false), .p .mov, [.t 4]⟩,
    ⟨8, some 37, some (35, false), .e .call [] [], [.f 304, .t 36, .f 676]⟩,
    ⟨9, some 38, none, .p .pick, [.t 35, .c (.bool true), .t 37]⟩])
   (.cond (.t 38) (.seq (.reg 0 [⟨0, some 2, none, .p .mov, [.c (.bool false)]⟩])
   (.ret))
   (.skip)))
   (.seq (.reg 0 [⟨0, some 39, none, .p .mov, [.t 3]⟩,
    ⟨1, some 40, none, .p (.bin .gtr), [.t 39, .c (.int .i64 0)]⟩,
    ⟨2, some 41, none, .p .mov, [.t 40]⟩,
    ⟨3, some 42, some (41, true), .p (.faddr 1), [.t 1]⟩,
    ⟨4, some 43, some (41, true), .l (.load 1 false 1), [.t 42]⟩,
    ⟨5, some 44, some (41, true), .p .mov, [.t 3]⟩,
    ⟨6, some 45, some (41, true), .p (.bin .sub), [.t 44, .c (.int .i64 1)]⟩,
    ⟨7, some 46, some (41, true), .p (.idx 1), [.t 43, .t 45]⟩,
    ⟨8, some 47, some (41, true), .r (.load false 1) false, [.t 46]⟩,
    ⟨9, some 48, some (41, true), .p .mov, [.t 4]⟩,
    ⟨10, some 49, some (41, true), .e .call [] [], [.f 677, .t 47, .t 48]⟩,
    ⟨11, some 50, some (41, true), .p (.bin .geq), [.t 49, .c (.int .i64 0)]⟩,
    ⟨12, some 51, none, .p .pick, [.t 41, .t 50, .c (.bool false)]⟩])
   (.cond (.t 51) (.seq (.reg 0 [⟨0, some 2, none, .p .mov, [.c (.bool false)]⟩])
   (.ret))
   (.skip))))))
   (.reg 0 [⟨0, some 52, none, .p (.bin .add), [.t 24, .c (.int .i64 1)]⟩,
    ⟨1, some 24, none, .p .mov, [.t 52]⟩])))
def g659 : GL.Fn := ⟨.seq (.reg 0 [⟨0, some 1, none, .l (.box 1 2), [.t 0]⟩,
    ⟨1, some 2, none, .p .mov, [.c (.bool false)]⟩])
   (.seq (.seq (.reg 0 [⟨0, some 5, none, .p (.faddr 0), [.t 1]⟩,
    ⟨1, some 6, none, .l (.load 1 false 1), [.t 5]⟩,
    ⟨2, some 7, none, .p .len, [.t 6]⟩,
    ⟨3, some 8, none, .p (.bin .gtr), [.t 7, .c (.int .i64 6)]⟩,
    ⟨4, some 9, none, .p .mov, [.t 8]⟩,
    ⟨5, some 10, some (9, false), .p (.faddr 0), [.t 1]⟩,
    ⟨6, some 11, some (9, false), .l (.load 1 false 1), [.t 10]⟩,
    ⟨7, some 12, some (9, false), .e .call [] [], [.f 385, .t 11, .c (.int .i64 0), .c (.int .i64 20)]⟩,
    ⟨8, some 13, some (9, false), .p (.un .not), [.t 12]⟩,
    ⟨9, some 14, none, .p .pick, [.t 9, .c (.bool true), .t 13]⟩,
    ⟨10, some 15, none, .p .mov, [.t 14]⟩,
    ⟨11, some 16, some (15, false), .p (.faddr 1), [.t 1]⟩,
    ⟨12, some 17, some (15, false), .l (.load 1 false 1), [.t 16]⟩,
    ⟨13, some 18, some (15, false), .p .len, [.t 17]⟩,
    ⟨14, some 19, some (15, false), .p (.bin .gtr), [.t 18, .c (.int .i64 60)]⟩,
    ⟨15, some 20, none, .p .pick, [.t 15, .c (.bool true), .t 19]⟩])
   (.cond (.t 20) (.seq (.reg 0 [⟨0, some 2, none, .p .mov, [.c (.bool false)]⟩])
   (.ret))
   (.skip)))
   (.seq (.seq (.reg 0 [⟨0, some 21, none, .p (.faddr 1), [.t 1]⟩,
    ⟨1, some 22, none, .l (.load 1 false 1), [.t 21]⟩,
    ⟨2, some 23, none, .p .len, [.t 22]⟩,
    ⟨3, some 24, none, .p .mov, [.c (.int .i64 0)]⟩])
   (.block 0 (.loop g659_0)))
   (.seq (.reg 0 [⟨0, some 2, none, .p .mov, [.c (.bool true)]⟩])
   (.ret)))),
  [.tmp 2]⟩
/- loop.example/g00641/spec.GoodRelation -/
def g662_0 : GL.Code := .seq (.reg 0 [⟨0, some 25, none, .p (.bin .lss), [.t 24, .t 23]⟩])
   (.seq (.cond (.t 25) (.skip)
   (.exit 0))
   (.seq (.block 1 (.seq (.reg 0 [⟨0, some 26, none, .p .mov, [.t 24]⟩,
    ⟨1, some 27, none, .p (.idx 1), [.t 22, .t 24]⟩,
    ⟨2, some 28, none, .r (.load false 1) false, [.t 27]⟩,
    ⟨3, some 3, none, .p .mov, [.t 26]⟩,
    ⟨4, some 4, none, .p .mov, [.t 28]⟩])
   (.seq (.reg 0 [⟨0, some 29, none, .p .mov, [.t 4]⟩,
    ⟨1, some 30, none, .p .len, [.t 29]⟩,
    ⟨2, some 31, none, .p (.faddr 0), [.t 1]⟩,
    ⟨3, some 32, none, .l (.load 1 false 1), [.t 31]⟩,
    ⟨4, some 33, none, .p .len, [.t 32]⟩,
    ⟨5, some 34, none, .p (.bin .neq), [.t 30, .t 33]⟩,
    ⟨6, some 35, none, .p .mov, [.t 34]⟩,
    ⟨7, some 36, some (35, false), .p .mov, [.t 4]⟩,
    ⟨8, some 37, some (35, false), .e .call [] [], [.f 94, .t 36, .c (.int .i64 (-1000)), .c (.int .i64 1000)]⟩,
    ⟨9, some 38, some (35, false), .p (.un .not), [.t 37]⟩,
    ⟨10, some 39, none, .p .pick, [.t 35, .c (.bool true), .t 38]⟩,
    ⟨11, some 40, none, .p .mov, [.t 39]⟩,
    ⟨12, some 41, some (40, false), .p .mov, [.t 3]⟩,
    ⟨13, some 42, some (40, false), .p (.bin .gtr), [.t 41, .c (.int .i64 0)]⟩,
    ⟨14, some 43, some (40, false), .p .mov, [.t 42]⟩,
    ⟨15, some 44, some (43, true), .p (.faddr 1), [.t 1]⟩,
    ⟨16, some 45, some (43, true), .l (.load 1 false 1), [.t 44]⟩,
    ⟨17, some 46, some (43, true), .p .mov, [.t 3]⟩,
    ⟨18, some 47, some (43, true), .p (.bin .sub), [.t 46, .c (.int .i64 1)]⟩,
    ⟨19, some 48, some (43, true), .p (.idx 1), [.t 45, .t 47]⟩,
    ⟨20, some 49, some (43, true), .r (.load false 1) false, [.t 48]⟩,
    ⟨21, some 50, some (43, true), .p .mov, [.t 4]⟩,
    ⟨22, some 51, some (43, true), .e .call [] [], [.f 678, .t 49, .t 50]⟩,
    ⟨23, some 52, some (43, true), .p (.un .not), [.t 51]⟩,
    ⟨24, some 53, some (40, false), .p .pick, [.t 43, .t 52, .c (.bool false)]⟩,
    ⟨25, some 54, none, .p .pick, [.t 40, .c (.bool true), .t 53]⟩])
   (.cond (.t 54) (.seq (.reg 0 [⟨0, some 2, none, .p .mov, [.c (.bool false)]⟩])
   (.ret))
   (.skip)))))
   (.reg 0 [⟨0, some 55, none, .p (.bin .add), [.t 24, .c (.int .i64 1)]⟩,
    ⟨1, some 24, none, .p .mov, [.t 55]⟩])))
def g662 : GL.Fn := ⟨.seq (.reg 0 [⟨0, some 1, none, .l (.box 1 2), [.t 0]⟩,
    ⟨1, some 2, none, .p .mov, [.c (.bool false)]⟩])
   (.seq (.seq (.reg 0 [⟨0, some 5, none, .p (.faddr 0), [.t 1]⟩,
    ⟨1, some 6, none, .l (.load 1 false 1), [.t 5]⟩,
    ⟨2, some 7, none, .p .len, [.t 6]⟩,
    ⟨3, some 8, none, .p (.bin .gtr), [.t 7, .c (.int .i64 6)]⟩,
    ⟨4, some 9, none, .p .mov, [.t 8]⟩,
    ⟨5, some 10, some (9, false), .p (.faddr 0), [.t 1]⟩,
    ⟨6, some 11, some (9, false), .l (.load 1 false 1), [.t 10]⟩,
    ⟨7, some 12, some (9, false), .e .call [] [], [.f 337, .t 11, .c (.int .i64 0), .c (.int .i64 20)]⟩,
    ⟨8, some 13, some (9, false), .p (.un .not), [.t 12]⟩,
    ⟨9, some 14, none, .p .pick, [.t 9, .c (.bool true), .t 13]⟩,
    ⟨10, some 15, none, .p .mov, [.t 14]⟩,
    ⟨11, some 16, some (15, false), .p (.faddr 1), [.t 1]⟩,
    ⟨12, some 17, some (15, false), .l (.load 1 false 1), [.t 16]⟩,
    ⟨13, some 18, some (15, false), .p .len, [.t 17]⟩,
    ⟨14, some 19, some (15, false), .p (.bin .gtr), [.t 18, .c (.int .i64 60)]⟩,
    ⟨15, some 20, none, .p .pick, [.t 15, .c (.bool true), .t 19]⟩])
   (.cond (.t 20) (.seq (.reg 0 [⟨0, some 2, none, .p .mov, [.c (.bool false)]⟩])
   (.ret))
   (.skip)))
   (.seq (.seq (.reg 0 [⟨0, some 21, none, .p (.faddr 1), [.t 1]⟩,
    ⟨1, some 22, none, .l (.load 1 false 1), [.t 21]⟩,
    ⟨2, some 23, none, .p .len, [.t 22]⟩,
    ⟨3, some 24, none, .p .mov, [.c (.int .i64 0)]⟩])
   (.block 0 (.loop g662_0)))
   (.seq (.reg 0 [⟨0, some 2, none, .p .mov, [.c (.bool true)]⟩])
   (.ret)))),
  [.tmp 2]⟩
/- loop.example/g00641/spec.Project -/
def g752_0 : GL.Code := .seq (.reg 0 [⟨0, some 24, none, .p (.bin .lss), [.t 23, .t 22]⟩])
   (.seq (.cond (.t 24) (.skip)
   (.exit 0))
   (.seq (.block 1 (.seq (.reg 0 [⟨0, some 25, none, .p (.idx 1), [.t 21, .t 23]⟩,
    ⟨1, some 26, none, .r (.load false 1) false, [.t 25]⟩,
    ⟨2, some 8, none, .p .mov, [.t 26]⟩])
   (.reg 0 [⟨0, some 27, none, .p .mov, [.t 6]⟩,
    ⟨1, some 28, none, .p (.faddr 0), [.t 2]⟩,
    ⟨2, some 29, none, .l (.load 2 false 1), [.t 28]⟩,
    ⟨3, some 30, none, .p .mov, [.t 8]⟩,
    ⟨4, some 31, none, .p .mov, [.t 1]⟩,
    ⟨5, some 32, none, .e .call [] [], [.f 679, .t 29, .t 30, .t 31]⟩,
    ⟨6, some 33, none, .e (.new (.lit 1)) [] [], [.t 32]⟩,
    ⟨7, some 34, none, .e (.append 1 24) [] [], [.t 27, .t 33]⟩,
    ⟨8, some 6, none, .p .mov, [.t 34]⟩])))
   (.reg 0 [⟨0, some 35, none, .p (.bin .add), [.t 23, .c (.int .i64 1)]⟩,
    ⟨1, some 23, none, .p .mov, [.t 35]⟩])))
def g752 : GL.Fn := ⟨.seq (.reg 0 [⟨0, some 2, none, .l (.box 2 2), [.t 0]⟩,
    ⟨1, some 4, none, .l (.alloc 4 [.nils, .nils]), []⟩,
    ⟨2, some 5, none, .p .mov, [.c (.bool false)]⟩])
   (.seq (.seq (.reg 0 [⟨0, some 9, none, .l (.load 2 true 2), [.t 2]⟩,
    ⟨1, some 10, none, .e .call [] [], [.f 662, .t 9]⟩,
    ⟨2, some 11, none, .p (.un .not), [.t 10]⟩,
    ⟨3, some 12, none, .p .mov, [.t 11]⟩,
    ⟨4, some 13, some (12, false), .p (.faddr 0), [.t 2]⟩,
    ⟨5, some 14, some (12, false), .l (.load 2 false 1), [.t 13]⟩,
    ⟨6, some 15, some (12, false), .p .mov, [.t 1]⟩,
    ⟨7, some 16, some (12, false), .e .call [] [], [.f 663, .t 14, .t 15]⟩,
    ⟨8, some 17, some (12, false), .p (.un .not), [.t 16]⟩,
    ⟨9, some 18, none, .p .pick, [.t 12, .c (.bool true), .t 17]⟩])
   (.cond (.t 18) (.seq (.reg 0 [⟨0, some 19, none, .p (.build [.nils, .nils] []), []⟩,
    ⟨1, none, none, .l (.store 4 2), [.t 4, .t 19]⟩,
    ⟨2, some 5, none, .p .mov, [.c (.bool false)]⟩])
   (.ret))
   (.skip)))
   (.seq (.reg 0 [⟨0, some 6, none, .p .mov, [.c (.nils)]⟩])
   (.seq (.seq (.reg 0 [⟨0, some 20, none, .p (.faddr 1), [.t 2]⟩,
    ⟨1, some 21, none, .l (.load 2 false 1), [.t 20]⟩,
    ⟨2, some 22, none, .p .len, [.t 21]⟩,
    ⟨3, some 23, none, .p .mov, [.c (.int .i64 0)]⟩])
   (.block 0 (.loop g752_0)))
   (.seq (.reg 0 [⟨0, some 36, none, .p .mov, [.t 1]⟩,
    ⟨1, some 37, none, .p .mov, [.t 6]⟩,
    ⟨2, some 38, none, .e .call [] [], [.f 674, .t 36, .t 37]⟩,
    ⟨3, some 39, none, .p (.extract 0), [.t 38]⟩,
    ⟨4, some 40, none, .p (.extract 1), [.t 38]⟩,
    ⟨5, none, none, .l (.store 4 2), [.t 4, .t 39]⟩,
    ⟨6, some 5, none, .p .mov, [.t 40]⟩])
   (.ret))))),
  [.cellL 4 4 true 2, .tmp 5]⟩
/- loop.example/g00641/spec.DrawIsLossless -/
def g757_0 : GL.Code := .seq (.seq (.reg 0 [⟨0, some 23, none, .p .mov, [.t 11]⟩,
    ⟨1, some 24, none, .p .mov, [.t 7]⟩,
    ⟨2, some 25, none, .p (.bin .lss), [.t 23, .t 24]⟩])
   (.cond (.t 25) (.skip)
   (.exit 0)))
   (.seq (.block 1 (.seq (.reg 0 [⟨0, some 28, none, .p .mov, [.t 9]⟩,
    ⟨1, some 29, none, .p .mov, [.t 11]⟩,
    ⟨2, some 30, none, .e .call [] [], [.f 302, .t 28, .t 29]⟩,
    ⟨3, some 31, none, .p (.un .not), [.t 30]⟩,
    ⟨4, some 32, none, .p .mov, [.t 31]⟩,
    ⟨5, some 33, some (32, false), .p .mov, [.t 6]⟩,
    ⟨6, some 34, some (32, false), .e .call [] [], [.f 92, .t 33, .c (.int .i64 3)]⟩,
    ⟨7, some 35, none, .p .pick, [.t 32, .c (.bool true), .t 34]⟩])
   (.cond (.t 35) (.reg 0 [⟨0, some 36, none, .p .mov, [.t 10]⟩,
    ⟨1, some 37, none, .p .mov, [.t 11]⟩,
    ⟨2, some 38, none, .e (.new (.lit 1)) [] [], [.t 37]⟩,
    ⟨3, some 39, none, .e (.append 1 8) [] [], [.t 36, .t 38]⟩,
    ⟨4, some 10, none, .p .mov, [.t 39]⟩])
   (.skip))))
   (.reg 0 [⟨0, some 26, none, .p .mov, [.t 11]⟩,
    ⟨1, some 27, none, .p (.bin .add), [.t 26, .c (.int .i64 1)]⟩,
    ⟨2, some 11, none, .p .mov, [.t 27]⟩]))
def g757 : GL.Fn := ⟨.seq (.reg 0 [⟨0, some 2, none, .p .mov, [.c (.int .i64 0)]⟩,
    ⟨1, some 3, none, .p .mov, [.c (.nils)]⟩,
    ⟨2, some 4, none, .p .mov, [.c (.nils)]⟩,
    ⟨3, some 5, none, .p .mov, [.c (.nils)]⟩])
   (.seq (.reg 0 [⟨0, some 12, none, .p .mov, [.t 0]⟩,
    ⟨1, some 13, none, .p (.build [.nils, .int .i64 0, .int .u64 0] [(0, 1)]), [.t 12]⟩,
    ⟨2, some 14, none, .e (.new (.box 3)) [] [], [.t 13]⟩,
    ⟨3, some 6, none, .p .mov, [.t 14]⟩])
   (.seq (.reg 0 [⟨0, some 15, none, .p .mov, [.t 6]⟩,
    ⟨1, some 16, none, .e .call [] [], [.f 670, .t 15]⟩,
    ⟨2, some 7, none, .p .mov, [.t 16]⟩])
   (.seq (.reg 0 [⟨0, some 17, none, .p .mov, [.t 6]⟩,
    ⟨1, some 18, none, .p .mov, [.t 7]⟩,
    ⟨2, some 19, none, .e .call [] [], [.f 671, .t 17, .t 18]⟩,
    ⟨3, some 8, none, .p .mov, [.t 19]⟩])
   (.seq (.reg 0 [⟨0, some 20, none, .p .mov, [.t 6]⟩,
    ⟨1, some 21, none, .p .mov, [.t 7]⟩,
    ⟨2, some 22, none, .e .call [] [], [.f 658, .t 20, .t 21]⟩,
    ⟨3, some 9, none, .p .mov, [.t 22]⟩])
   (.seq (.reg 0 [⟨0, some 10, none, .p .mov, [.c (.nils)]⟩])
   (.seq (.seq (.reg 0 [⟨0, some 11, none, .p .mov, [.c (.int .i64 0)]⟩])
   (.block 0 (.loop g757_0)))
   (.seq (.reg 0 [⟨0, some 40, none, .p .mov, [.t 7]⟩,
    ⟨1, some 41, none, .p .mov, [.t 8]⟩,
    ⟨2, some 42, none, .p .mov, [.t 9]⟩,
    ⟨3, some 43, none, .p .mov, [.t 10]⟩,
    ⟨4, some 2, none, .p .mov, [.t 40]⟩,
    ⟨5, some 3, none, .p .mov, [.t 41]⟩,
    ⟨6, some 4, none, .p .mov, [.t 42]⟩,
    ⟨7, some 5, none, .p .mov, [.t 43]⟩])
   (.ret)))))))),
  [.tmp 2, .tmp 3, .tmp 4, .tmp 5]⟩
/- loop.example/g00641/impl.IsLossless -/
def g758 : GL.Fn := ⟨.seq (.reg 0 [⟨0, some 8, none, .p .mov, [.c (.bool false)]⟩,
    ⟨1, some 9, none, .p .mov, [.c (.bool false)]⟩])
   (.seq (.seq (.reg 0 [⟨0, some 11, none, .p .mov, [.t 0]⟩,
    ⟨1, some 12, none, .p .mov, [.t 1]⟩,
    ⟨2, some 13, none, .e .call [] [], [.f 616, .t 11, .t 12]⟩,
    ⟨3, some 14, none, .p (.un .not), [.t 13]⟩,
    ⟨4, some 15, none, .p .mov, [.t 14]⟩,
    ⟨5, some 16, some (15, false), .p .mov, [.t 0]⟩,
    ⟨6, some 17, some (15, false), .p .mov, [.t 2]⟩,
    ⟨7, some 18, some (15, false), .e .call [] [], [.f 655, .t 16, .t 17]⟩,
    ⟨8, some 19, some (15, false), .p (.un .not), [.t 18]⟩,
    ⟨9, some 20, none, .p .pick, [.t 15, .c (.bool true), .t 19]⟩,
    ⟨10, some 21, none, .p .mov, [.t 20]⟩,
    ⟨11, some 22, some (21, false), .p .mov, [.t 0]⟩,
    ⟨12, some 23, some (21, false), .p .mov, [.t 3]⟩,
    ⟨13, some 24, some (21, false), .e .call [] [], [.f 655, .t 22, .t 23]⟩,
    ⟨14, some 25, some (21, false), .p (.un .not), [.t 24]⟩,
    ⟨15, some 26, none, .p .pick, [.t 21, .c (.bool true), .t 25]⟩,
    ⟨16, some 27, none, .p .mov, [.t 26]⟩,
    ⟨17, some 28, some (27, false), .p .mov, [.t 2]⟩,
    ⟨18, some 29, some (27, false), .p .mov, [.t 3]⟩,
    ⟨19, some 30, some (27, false), .e .call [] [], [.f 412, .t 28, .t 29]⟩,
    ⟨20, some 31, some (27, false), .p .len, [.t 30]⟩,
    ⟨21, some 32, some (27, false), .p .mov, [.t 0]⟩,
    ⟨22, some 33, some (27, false), .p (.bin .neq), [.t 31, .t 32]⟩,
    ⟨23, some 34, none, .p .pick, [.t 27, .c (.bool true), .t 33]⟩])
   (.cond (.t 34) (.seq (.reg 0 [⟨0, some 8, none, .p .mov, [.c (.bool false)]⟩,
    ⟨1, some 9, none, .p .mov, [.c (.bool false)]⟩])
   (.ret))
   (.skip)))
   (.seq (.reg 0 [⟨0, some 35, none, .p .mov, [.t 1]⟩,
    ⟨1, some 36, none, .p .mov, [.t 2]⟩,
    ⟨2, some 37, none, .p .mov, [.t 3]⟩,
    ⟨3, some 38, none, .e .call [] [], [.f 336, .t 36, .t 37]⟩,
    ⟨4, some 39, none, .e .call [] [], [.f 645, .t 35, .t 38]⟩,
    ⟨5, some 10, none, .p .mov, [.t 39]⟩])
   (.seq (.reg 0 [⟨0, some 40, none, .p .mov, [.t 10]⟩,
    ⟨1, some 41, none, .p .mov, [.t 2]⟩,
    ⟨2, some 42, none, .e .call [] [], [.f 552, .t 40, .t 41]⟩,
    ⟨3, some 43, none, .p .mov, [.t 42]⟩,
    ⟨4, some 44, some (43, false), .p .mov, [.t 10]⟩,
    ⟨5, some 45, some (43, false), .p .mov, [.t 3]⟩,
    ⟨6, some 46, some (43, false), .e .call [] [], [.f 552, .t 44, .t 45]⟩,
    ⟨7, some 47, none, .p .pick, [.t 43, .c (.bool true), .t 46]⟩,
    ⟨8, some 8, none, .p .mov, [.t 47]⟩,
    ⟨9, some 9, none, .p .mov, [.c (.bool true)]⟩])
   (.ret)))),
  [.tmp 8, .tmp 9]⟩
/- loop.example/g00641/spec.IsLossless -/
def g759 : GL.Fn := ⟨.seq (.reg 0 [⟨0, some 8, none, .p .mov, [.c (.bool false)]⟩,
    ⟨1, some 9, none, .p .mov, [.c (.bool false)]⟩])
   (.seq (.seq (.reg 0 [⟨0, some 11, none, .p .mov, [.t 0]⟩,
    ⟨1, some 12, none, .p .mov, [.t 1]⟩,
    ⟨2, some 13, none, .p .mov, [.t 2]⟩,
    ⟨3, some 14, none, .e .call [] [], [.f 669, .t 11, .t 12, .t 13]⟩,
    ⟨4, some 15, none, .p (.un .not), [.t 14]⟩,
    ⟨5, some 16, none, .p .mov, [.t 15]⟩,
    ⟨6, some 17, some (16, false), .p .mov, [.t 0]⟩,
    ⟨7, some 18, some (16, false), .p .mov, [.t 1]⟩,
    ⟨8, some 19, some (16, false), .p .mov, [.t 3]⟩,
    ⟨9, some 20, some (16, false), .e .call [] [], [.f 669, .t 17, .t 18, .t 19]⟩,
    ⟨10, some 21, some (16, false), .p (.un .not), [.t 20]⟩,
    ⟨11, some 22, none, .p .pick, [.t 16, .c (.bool true), .t 21]⟩,
    ⟨12, some 23, none, .p .mov, [.t 22]⟩,
    ⟨13, some 24, some (23, false), .p .mov, [.t 2]⟩,
    ⟨14, some 25, some (23, false), .p .mov, [.t 3]⟩,
    ⟨15, some 26, some (23, false), .e .call [] [], [.f 668, .t 24, .t 25]⟩,
    ⟨16, some 27, some (23, false), .p .len, [.t 26]⟩,
    ⟨17, some 28, some (23, false), .p .mov, [.t 0]⟩,
    ⟨18, some 29, some (23, false), .p (.bin .neq), [.t 27, .t 28]⟩,
    ⟨19, some 30, none, .p .pick, [.t 23, .c (.bool true), .t 29]⟩])
   (.cond (.t 30) (.seq (.reg 0 [⟨0, some 8, none, .p .mov, [.c (.bool false)]⟩,
    ⟨1, some 9, none, .p .mov, [.c (.bool false)]⟩])
   (.ret))
   (.skip)))
   (.seq (.reg 0 [⟨0, some 31, none, .p .mov, [.t 1]⟩,
    ⟨1, some 32, none, .p .mov, [.t 2]⟩,
    ⟨2, some 33, none, .p .mov, [.t 3]⟩,
    ⟨3, some 34, none, .e .call [] [], [.f 338, .t 32, .t 33]⟩,
    ⟨4, some 35, none, .e .call [] [], [.f 649, .t 31, .t 34]⟩,
    ⟨5, some 10, none, .p .mov, [.t 35]⟩])
   (.seq (.reg 0 [⟨0, some 36, none, .p .mov, [.t 2]⟩,
    ⟨1, some 37, none, .p .mov, [.t 10]⟩,
    ⟨2, some 38, none, .e .call [] [], [.f 554, .t 36, .t 37]⟩,
    ⟨3, some 39, none, .p .mov, [.t 38]⟩,
    ⟨4, some 40, some (39, false), .p .mov, [.t 3]⟩,
    ⟨5, some 41, some (39, false), .p .mov, [.t 10]⟩,
    ⟨6, some 42, some (39, false), .e .call [] [], [.f 554, .t 40, .t 41]⟩,
    ⟨7, some 43, none, .p .pick, [.t 39, .c (.bool true), .t 42]⟩,
    ⟨8, some 8, none, .p .mov, [.t 43]⟩,
    ⟨9, some 9, none, .p .mov, [.c (.bool true)]⟩])
   (.ret)))),
  [.tmp 8, .tmp 9]⟩
/- loop.example/g00641/spec.DrawTakeApart -/
def g760 : GL.Fn := ⟨.seq (.reg 0 [⟨0, some 2, none, .l (.alloc 2 [.nils, .nils]), []⟩,
    ⟨1, some 3, none, .p .mov, [.c (.nils)]⟩])
   (.seq (.reg 0 [⟨0, some 7, none, .p .mov, [.t 0]⟩,
    ⟨1, some 8, none, .p (.build [.nils, .int .i64 0, .int .u64 0] [(0, 1)]), [.t 7]⟩,
    ⟨2, some 9, none, .e (.new (.box 3)) [] [], [.t 8]⟩,
    ⟨3, some 4, none, .p .mov, [.t 9]⟩])
   (.seq (.reg 0 [⟨0, some 10, none, .p .mov, [.t 4]⟩,
    ⟨1, some 11, none, .e (.new (.lit 1)) [] [], [.c (.int .i64 0), .c (.int .i64 1), .c (.int .i64 2)]⟩,
    ⟨2, some 12, none, .e .call [] [], [.f 657, .t 10, .t 11]⟩,
    ⟨3, some 5, none, .l (.alloc 5 [.nils, .nils]), []⟩,
    ⟨4, none, none, .l (.store 5 2), [.t 5, .t 12]⟩])
   (.seq (.reg 0 [⟨0, some 13, none, .e (.new (.lit 1)) [] [], [.c (.int .i64 0), .c (.int .i64 1)]⟩,
    ⟨1, some 14, none, .e (.new (.lit 1)) [] [], [.c (.int .i64 1), .c (.int .i64 2)]⟩,
    ⟨2, some 15, none, .e (.new (.lit 1)) [] [], [.t 13, .t 14]⟩,
    ⟨3, some 16, none, .e (.new (.lit 1)) [] [], [.c (.int .i64 0), .c (.int .i64 1)]⟩,
    ⟨4, some 17, none, .e (.new (.lit 1)) [] [], [.c (.int .i64 0), .c (.int .i64 2)]⟩,
    ⟨5, some 18, none, .e (.new (.lit 1)) [] [], [.t 16, .t 17]⟩,
    ⟨6, some 19, none, .e (.new (.lit 1)) [] [], [.c (.int .i64 0), .c (.int .i64 1), .c (.int .i64 2)]⟩,
    ⟨7, some 20, none, .e (.new (.lit 1)) [] [], [.t 19]⟩,
    ⟨8, some 21, none, .e (.new (.lit 1)) [] [], [.c (.int .i64 0)]⟩,
    ⟨9, some 22, none, .e (.new (.lit 1)) [] [], [.c (.int .i64 1)]⟩,
    ⟨10, some 23, none, .e (.new (.lit 1)) [] [], [.c (.int .i64 2)]⟩,
    ⟨11, some 24, none, .e (.new (.lit 1)) [] [], [.t 21, .t 22, .t 23]⟩,
    ⟨12, some 25, none, .e (.new (.lit 1)) [] [], [.c (.int .i64 3)]⟩,
    ⟨13, some 26, none, .e (.new (.lit 1)) [] [], [.t 25]⟩,
    ⟨14, some 27, none, .e (.new (.lit 1)) [] [], [.t 15, .t 18, .t 20, .t 24, .c (.nils), .t 26]⟩,
    ⟨15, some 6, none, .p .mov, [.t 27]⟩])
   (.seq (.reg 0 [⟨0, some 28, none, .l (.load 5 true 2), [.t 5]⟩,
    ⟨1, some 29, none, .p .mov, [.t 6]⟩,
    ⟨2, some 30, none, .p .mov, [.t 4]⟩,
    ⟨3, some 31, none, .e .call [] [], [.f 91, .t 30, .c (.int .i64 6)]⟩,
    ⟨4, some 32, none, .p (.idx 1), [.t 29, .t 31]⟩,
    ⟨5, some 33, none, .r (.load false 1) false, [.t 32]⟩,
    ⟨6, none, none, .l (.store 2 2), [.t 2, .t 28]⟩,
    ⟨7, some 3, none, .p .mov, [.t 33]⟩])
   (.ret))))),
  [.cellL 2 2 true 2, .tmp 3]⟩
/- loop.example/g00641/impl.TakeApart -/
def g761_0 : GL.Code := .seq (.reg 0 [⟨0, some 19, none, .p (.bin .lss), [.t 18, .t 17]⟩])
   (.seq (.cond (.t 19) (.skip)
   (.exit 0))
   (.seq (.block 1 (.seq (.reg 0 [⟨0, some 20, none, .p (.idx 1), [.t 16, .t 18]⟩,
    ⟨1, some 21, none, .r (.load false 1) false, [.t 20]⟩,
    ⟨2, some 8, none, .p .mov, [.t 21]⟩])
   (.seq (.reg 0 [⟨0, some 23, none, .l (.load 2 true 2), [.t 2]⟩,
    ⟨1, some 24, none, .p .mov, [.t 8]⟩,
    ⟨2, some 25, none, .e .call [] [], [.f 739, .t 23, .t 24]⟩,
    ⟨3, some 22, none, .p .mov, [.t 25]⟩,
    ⟨4, some 26, none, .p (.extract 0), [.t 22]⟩,
    ⟨5, some 27, none, .p (.extract 1), [.t 22]⟩,
    ⟨6, some 9, none, .l (.alloc 9 [.nils, .nils]), []⟩,
    ⟨7, none, none, .l (.store 9 2), [.t 9, .t 26]⟩,
    ⟨8, some 10, none, .p .mov, [.t 27]⟩])
   (.seq (.seq (.reg 0 [⟨0, some 28, none, .p .mov, [.t 10]⟩,
    ⟨1, some 29, none, .p (.un .not), [.t 28]⟩])
   (.cond (.t 29) (.seq (.reg 0 [⟨0, some 4, none, .p .mov, [.c (.nils)]⟩,
    ⟨1, some 5, none, .p .mov, [.c (.bool false)]⟩])
   (.ret))
   (.skip)))
   (.reg 0 [⟨0, some 30, none, .p .mov, [.t 6]⟩,
    ⟨1, some 31, none, .l (.load 9 true 2), [.t 9]⟩,
    ⟨2, some 32, none, .e (.new (.lit 2)) [] [], [.t 31]⟩,
    ⟨3, some 33, none, .e (.append 2 48) [] [], [.t 30, .t 32]⟩,
    ⟨4, some 6, none, .p .mov, [.t 33]⟩])))))
   (.reg 0 [⟨0, some 34, none, .p (.bin .add), [.t 18, .c (.int .i64 1)]⟩,
    ⟨1, some 18, none, .p .mov, [.t 34]⟩])))
def g761 : GL.Fn := ⟨.seq (.reg 0 [⟨0, some 2, none, .l (.box 2 2), [.t 0]⟩,
    ⟨1, some 4, none, .p .mov, [.c (.nils)]⟩,
    ⟨2, some 5, none, .p .mov, [.c (.bool false)]⟩])
   (.seq (.seq (.reg 0 [⟨0, some 11, none, .p .mov, [.t 1]⟩,
    ⟨1, some 12, none, .p .len, [.t 11]⟩,
    ⟨2, some 13, none, .e .call [] [], [.f 107, .t 12, .c (.int .i64 1), .c (.int .i64 10)]⟩,
    ⟨3, some 14, none, .p (.un .not), [.t 13]⟩])
   (.cond (.t 14) (.seq (.reg 0 [⟨0, some 4, none, .p .mov, [.c (.nils)]⟩,
    ⟨1, some 5, none, .p .mov, [.c (.bool false)]⟩])
   (.ret))
   (.skip)))
   (.seq (.reg 0 [⟨0, some 15, none, .e (.new (.lit 2)) [] [], []⟩,
    ⟨1, some 6, none, .p .mov, [.t 15]⟩])
   (.seq (.seq (.reg 0 [⟨0, some 16, none, .p .mov, [.t 1]⟩,
    ⟨1, some 17, none, .p .len, [.t 16]⟩,
    ⟨2, some 18, none, .p .mov, [.c (.int .i64 0)]⟩])
   (.block 0 (.loop g761_0)))
   (.seq (.reg 0 [⟨0, some 35, none, .p .mov, [.t 6]⟩,
    ⟨1, some 4, none, .p .mov, [.t 35]⟩,
    ⟨2, some 5, none, .p .mov, [.c (.bool true)]⟩])
   (.ret))))),
  [.tmp 4, .tmp 5]⟩
/- loop.example/g00641/spec.TakeApart -/
def g762_0 : GL.Code := .seq (.reg 0 [⟨0, some 18, none, .p (.bin .lss), [.t 17, .t 16]⟩])
   (.seq (.cond (.t 18) (.skip)
   (.exit 0))
   (.seq (.block 1 (.seq (.reg 0 [⟨0, some 19, none, .p (.idx 1), [.t 15, .t 17]⟩,
    ⟨1, some 20, none, .r (.load false 1) false, [.t 19]⟩,
    ⟨2, some 8, none, .p .mov, [.t 20]⟩])
   (.seq (.reg 0 [⟨0, some 22, none, .l (.load 2 true 2), [.t 2]⟩,
    ⟨1, some 23, none, .p .mov, [.t 8]⟩,
    ⟨2, some 24, none, .e .call [] [], [.f 752, .t 22, .t 23]⟩,
    ⟨3, some 21, none, .p .mov, [.t 24]⟩,
    ⟨4, some 25, none, .p (.extract 0), [.t 21]⟩,
    ⟨5, some 26, none, .p (.extract 1), [.t 21]⟩,
    ⟨6, some 9, none, .l (.alloc 9 [.nils, .nils]), []⟩,
    ⟨7, none, none, .l (.store 9 2), [.t 9, .t 25]⟩,
    ⟨8, some 10, none, .p .mov, [.t 26]⟩])
   (.seq (.seq (.reg 0 [⟨0, some 27, none, .p .mov, [.t 10]⟩,
    ⟨1, some 28, none, .p (.un .not), [.t 27]⟩])
   (.cond (.t 28) (.seq (.reg 0 [⟨0, some 4, none, .p .mov, [.c (.nils)]⟩,
    ⟨1, some 5, none, .p .mov, [.c (.bool false)]⟩])
   (.ret))
   (.skip)))
   (.reg 0 [⟨0, some 29, none, .p .mov, [.t 6]⟩,
    ⟨1, some 30, none, .l (.load 9 true 2), [.t 9]⟩,
    ⟨2, some 31, none, .e (.new (.lit 2)) [] [], [.t 30]⟩,
    ⟨3, some 32, none, .e (.append 2 48) [] [], [.t 29, .t 31]⟩,
    ⟨4, some 6, none, .p .mov, [.t 32]⟩])))))
   (.reg 0 [⟨0, some 33, none, .p (.bin .add), [.t 17, .c (.int .i64 1)]⟩,
    ⟨1, some 17, none, .p .mov, [.t 33]⟩])))
def g762 : GL.Fn := ⟨.seq (.reg 0 [⟨0, some 2, none, .l (.box 2 2), [.t 0]⟩,
    ⟨1, some 4, none, .p .mov, [.c (.nils)]⟩,
    ⟨2, some 5, none, .p .mov, [.c (.bool false)]⟩])
   (.seq (.seq (.reg 0 [⟨0, some 11, none, .p .mov, [.t 1]⟩,
    ⟨1, some 12, none, .p .len, [.t 11]⟩,
    ⟨2, some 13, none, .e .call [] [], [.f 98, .t 12, .c (.int .i64 1), .c (.int .i64 10)]⟩,
    ⟨3, some 14, none, .p (.un .not), [.t 13]⟩])
   (.cond (.t 14) (.seq (.reg 0 [⟨0, some 4, none, .p .mov, [.c (.nils)]⟩,
    ⟨1, some 5, none, .p .mov, [.c (.bool false)]⟩])
   (.ret))
   (.skip)))
   (.seq (.reg 0 [⟨0, some 6, none, .p .mov, [.c (.nils)]⟩])
   (.seq (.seq (.reg 0 [⟨0, some 15, none, .p .mov, [.t 1]⟩,
    ⟨1, some 16, none, .p .len, [.t 15]⟩,
    ⟨2, some 17, none, .p .mov, [.c (.int .i64 0)]⟩])
   (.block 0 (.loop g762_0)))
   (.seq (.reg 0 [⟨0, some 34, none, .p .mov, [.t 6]⟩,
    ⟨1, some 4, none, .p .mov, [.t 34]⟩,
    ⟨2, some 5, none, .p .mov, [.c (.bool true)]⟩])
   (.ret))))),
  [.tmp 4, .tmp 5]⟩
/- loop.example/g00641/laws.has -/
def g204_0 : GL.Code := .seq (.reg 0 [⟨0, some 10, none, .p (.bin .lss), [.t 9, .t 8]⟩])
   (.seq (.cond (.t 10) (.skip)
   (.exit 0))
   (.seq (.block 1 (.seq (.reg 0 [⟨0, some 11, none, .p (.idx 1), [.t 7, .t 9]⟩,
    ⟨1, some 12, none, .r (.load false 1) false, [.t 11]⟩,
    ⟨2, some 6, none, .p .mov, [.t 12]⟩])
   (.seq (.reg 0 [⟨0, some 13, none, .p .mov, [.t 6]⟩,
    ⟨1, some 14, none, .p .mov, [.t 1]⟩,
    ⟨2, some 15, none, .p (.bin .eql), [.t 13, .t 14]⟩])
   (.cond (.t 15) (.seq (.reg 0 [⟨0, some 4, none, .p .mov, [.c (.bool true)]⟩])
   (.ret))
   (.skip)))))
   (.reg 0 [⟨0, some 16, none, .p (.bin .add), [.t 9, .c (.int .i64 1)]⟩,
    ⟨1, some 9, none, .p .mov, [.t 16]⟩])))
def g204 : GL.Fn := ⟨.seq (.reg 0 [⟨0, some 4, none, .p .mov, [.c (.bool false)]⟩])
   (.seq (.seq (.reg 0 [⟨0, some 7, none, .p .mov, [.t 0]⟩,
    ⟨1, some 8, none, .p .len, [.t 7]⟩,
    ⟨2, some 9, none, .p .mov, [.c (.int .i64 0)]⟩])
   (.block 0 (.loop g204_0)))
   (.seq (.reg 0 [⟨0, some 4, none, .p .mov, [.c (.bool false)]⟩])
   (.ret))),
  [.tmp 4]⟩
/- loop.example/g00641/impl.HoldsIn -/
def g620_0 : GL.Code := .seq (.reg 0 [⟨0, some 43, none, .p (.bin .lss), [.t 42, .t 41]⟩])
   (.seq (.cond (.t 43) (.skip)
   (.exit 2))
   (.seq (.block 3 (.seq (.reg 0 [⟨0, some 44, none, .p (.idx 1), [.t 40, .t 42]⟩,
    ⟨1, some 45, none, .r (.load false 1) false, [.t 44]⟩,
    ⟨2, some 9, none, .p .mov, [.t 45]⟩])
   (.seq (.reg 0 [⟨0, some 46, none, .p (.faddr 0), [.t 2]⟩,
    ⟨1, some 47, none, .l (.load 2 false 1), [.t 46]⟩,
    ⟨2, some 48, none, .p .mov, [.t 7]⟩,
    ⟨3, some 49, none, .p (.faddr 0), [.t 3]⟩,
    ⟨4, some 50, none, .l (.load 3 false 1), [.t 49]⟩,
    ⟨5, some 51, none, .e .call [] [], [.f 661, .t 47, .t 48, .t 50]⟩,
    ⟨6, some 52, none, .p (.faddr 0), [.t 2]⟩,
    ⟨7, some 53, none, .l (.load 2 false 1), [.t 52]⟩,
    ⟨8, some 54, none, .p .mov, [.t 9]⟩,
    ⟨9, some 55, none, .p (.faddr 0), [.t 3]⟩,
    ⟨10, some 56, none, .l (.load 3 false 1), [.t 55]⟩,
    ⟨11, some 57, none, .e .call [] [], [.f 661, .t 53, .t 54, .t 56]⟩,
    ⟨12, some 58, none, .e .call [] [], [.f 386, .t 51, .t 57]⟩,
    ⟨13, some 59, none, .p .mov, [.t 58]⟩,
    ⟨14, some 60, some (59, true), .p (.faddr 0), [.t 2]⟩,
    ⟨15, some 61, some (59, true), .l (.load 2 false 1), [.t 60]⟩,
    ⟨16, some 62, some (59, true), .p .mov, [.t 7]⟩,
    ⟨17, some 63, some (59, true), .p (.faddr 1), [.t 3]⟩,
    ⟨18, some 64, some (59, true), .l (.load 3 false 1), [.t 63]⟩,
    ⟨19, some 65, some (59, true), .e .call [] [], [.f 661, .t 61, .t 62, .t 64]⟩,
    ⟨20, some 66, some (59, true), .p (.faddr 0), [.t 2]⟩,
    ⟨21, some 67, some (59, true), .l (.load 2 false 1), [.t 66]⟩,
    ⟨22, some 68, some (59, true), .p .mov, [.t 9]⟩,
    ⟨23, some 69, some (59, true), .p (.faddr 1), [.t 3]⟩,
    ⟨24, some 70, some (59, true), .l (.load 3 false 1), [.t 69]⟩,
    ⟨25, some 71, some (59, true), .e .call [] [], [.f 661, .t 67, .t 68, .t 70]⟩,
    ⟨26, some 72, some (59, true), .e .call [] [], [.f 386, .t 65, .t 71]⟩,
    ⟨27, some 73, some (59, true), .p (.un .not), [.t 72]⟩,
    ⟨28, some 74, none, .p .pick, [.t 59, .t 73, .c (.bool false)]⟩])
   (.cond (.t 74) (.seq (.reg 0 [⟨0, some 4, none, .p .mov, [.c (.bool false)]⟩,
    ⟨1, some 5, none, .p .mov, [.c (.bool true)]⟩])
   (.ret))
   (.skip)))))
   (.reg 0 [⟨0, some 75, none, .p (.bin .add), [.t 42, .c (.int .i64 1)]⟩,
    ⟨1, some 42, none, .p .mov, [.t 75]⟩])))
def g620_1 : GL.Code := .seq (.reg 0 [⟨0, some 33, none, .p (.bin .lss), [.t 32, .t 31]⟩])
   (.seq (.cond (.t 33) (.skip)
   (.exit 0))
   (.seq (.block 1 (.seq (.reg 0 [⟨0, some 34, none, .p .mov, [.t 32]⟩,
    ⟨1, some 35, none, .p (.idx 1), [.t 30, .t 32]⟩,
    ⟨2, some 36, none, .r (.load false 1) false, [.t 35]⟩,
    ⟨3, some 6, none, .p .mov, [.t 34]⟩,
    ⟨4, some 7, none, .p .mov, [.t 36]⟩])
   (.seq (.reg 0 [⟨0, some 37, none, .p (.faddr 1), [.t 2]⟩,
    ⟨1, some 38, none, .l (.load 2 false 1), [.t 37]⟩,
    ⟨2, some 39, none, .p .mov, [.t 6]⟩,
    ⟨3, some 40, none, .p (.slice 1 false true false), [.t 38, .t 39]⟩,
    ⟨4, some 41, none, .p .len, [.t 40]⟩,
    ⟨5, some 42, none, .p .mov, [.c (.int .i64 0)]⟩])
   (.block 2 (.loop g620_0)))))
   (.reg 0 [⟨0, some 76, none, .p (.bin .add), [.t 32, .c (.int .i64 1)]⟩,
    ⟨1, some 32, none, .p .mov, [.t 76]⟩])))
def g620 : GL.Fn := ⟨.seq (.reg 0 [⟨0, some 2, none, .l (.box 2 2), [.t 0]⟩,
    ⟨1, some 3, none, .l (.box 3 2), [.t 1]⟩,
    ⟨2, some 4, none, .p .mov, [.c (.bool false)]⟩,
    ⟨3, some 5, none, .p .mov, [.c (.bool false)]⟩])
   (.seq (.seq (.reg 0 [⟨0, some 10, none, .l (.load 2 true 2), [.t 2]⟩,
    ⟨1, some 11, none, .e .call [] [], [.f 659, .t 10]⟩,
    ⟨2, some 12, none, .p (.un .not), [.t 11]⟩,
    ⟨3, some 13, none, .p .mov, [.t 12]⟩,
    ⟨4, some 14, some (13, false), .p (.faddr 0), [.t 3]⟩,
    ⟨5, some 15, some (13, false), .l (.load 3 false 1), [.t 14]⟩,
    ⟨6, some 16, some (13, false), .p (.faddr 0), [.t 2]⟩,
    ⟨7, some 17, some (13, false), .l (.load 2 false 1), [.t 16]⟩,
    ⟨8, some 18, some (13, false), .e .call [] [], [.f 660, .t 15, .t 17]⟩,
    ⟨9, some 19, some (13, false), .p (.un .not), [.t 18]⟩,
    ⟨10, some 20, none, .p .pick, [.t 13, .c (.bool true), .t 19]⟩,
    ⟨11, some 21, none, .p .mov, [.t 20]⟩,
    ⟨12, some 22, some (21, false), .p (.faddr 1), [.t 3]⟩,
    ⟨13, some 23, some (21, false), .l (.load 3 false 1), [.t 22]⟩,
    ⟨14, some 24, some (21, false), .p (.faddr 0), [.t 2]⟩,
    ⟨15, some 25, some (21, false), .l (.load 2 false 1), [.t 24]⟩,
    ⟨16, some 26, some (21, false), .e .call [] [], [.f 660, .t 23, .t 25]⟩,
    ⟨17, some 27, some (21, false), .p (.un .not), [.t 26]⟩,
    ⟨18, some 28, none, .p .pick, [.t 21, .c (.bool true), .t 27]⟩])
   (.cond (.t 28) (.seq (.reg 0 [⟨0, some 4, none, .p .mov, [.c (.bool false)]⟩,
    ⟨1, some 5, none, .p .mov, [.c (.bool false)]⟩])
   (.ret))
   (.skip)))
   (.seq (.seq (.reg 0 [⟨0, some 29, none, .p (.faddr 1), [.t 2]⟩,
    ⟨1, some 30, none, .l (.load 2 false 1), [.t 29]⟩,
    ⟨2, some 31, none, .p .len, [.t 30]⟩,
    ⟨3, some 32, none, .p .mov, [.c (.int .i64 0)]⟩])
   (.block 0 (.loop g620_1)))
   (.seq (.reg 0 [⟨0, some 4, none, .p .mov, [.c (.bool true)]⟩,
    ⟨1, some 5, none, .p .mov, [.c (.bool true)]⟩])
   (.ret)))),
  [.tmp 4, .tmp 5]⟩
/- loop.example/g00641/impl.PutTogether -/
def g763_0 : GL.Code := .seq (.reg 0 [⟨0, some 33, none, .p (.bin .lss), [.t 32, .t 31]⟩])
   (.seq (.cond (.t 33) (.skip)
   (.exit 0))
   (.seq (.block 1 (.seq (.reg 0 [⟨0, some 34, none, .p (.idx 2), [.t 30, .t 32]⟩,
    ⟨1, some 35, none, .r (.load true 2) false, [.t 34]⟩,
    ⟨2, some 7, none, .l (.alloc 7 [.nils, .nils]), []⟩,
    ⟨3, none, none, .l (.store 7 2), [.t 7, .t 35]⟩])
   (.seq (.reg 0 [⟨0, some 37, none, .l (.load 4 true 2), [.t 4]⟩,
    ⟨1, some 38, none, .l (.load 7 true 2), [.t 7]⟩,
    ⟨2, some 39, none, .e .call [] [], [.f 736, .t 37, .t 38]⟩,
    ⟨3, some 36, none, .p .mov, [.t 39]⟩,
    ⟨4, some 40, none, .p (.extract 0), [.t 36]⟩,
    ⟨5, some 41, none, .p (.extract 1), [.t 36]⟩,
    ⟨6, none, none, .l (.store 4 2), [.t 4, .t 40]⟩,
    ⟨7, some 5, none, .p .mov, [.t 41]⟩])
   (.seq (.reg 0 [⟨0, some 42, none, .p .mov, [.t 5]⟩,
    ⟨1, some 43, none, .p (.un .not), [.t 42]⟩])
   (.cond (.t 43) (.seq (.reg 0 [⟨0, some 44, none, .p (.build [.nils, .nils] []), []⟩,
    ⟨1, none, none, .l (.store 2 2), [.t 2, .t 44]⟩,
    ⟨2, some 3, none, .p .mov, [.c (.bool false)]⟩])
   (.ret))
   (.skip))))))
   (.reg 0 [⟨0, some 45, none, .p (.bin .add), [.t 32, .c (.int .i64 1)]⟩,
    ⟨1, some 32, none, .p .mov, [.t 45]⟩])))
def g763 : GL.Fn := ⟨.seq (.reg 0 [⟨0, some 2, none, .l (.alloc 2 [.nils, .nils]), []⟩,
    ⟨1, some 3, none, .p .mov, [.c (.bool false)]⟩])
   (.seq (.seq (.reg 0 [⟨0, some 8, none, .p .mov, [.t 0]⟩,
    ⟨1, some 9, none, .p .len, [.t 8]⟩,
    ⟨2, some 10, none, .e .call [] [], [.f 107, .t 9, .c (.int .i64 1), .c (.int .i64 10)]⟩,
    ⟨3, some 11, none, .p (.un .not), [.t 10]⟩,
    ⟨4, some 12, none, .p .mov, [.t 11]⟩,
    ⟨5, some 13, some (12, false), .p .mov, [.t 0]⟩,
    ⟨6, some 14, some (12, false), .e .call [] [], [.f 786, .t 13, .f 787]⟩,
    ⟨7, some 15, none, .p .pick, [.t 12, .c (.bool true), .t 14]⟩])
   (.cond (.t 15) (.seq (.reg 0 [⟨0, some 16, none, .p (.build [.nils, .nils] []), []⟩,
    ⟨1, none, none, .l (.store 2 2), [.t 2, .t 16]⟩,
    ⟨2, some 3, none, .p .mov, [.c (.bool false)]⟩])
   (.ret))
   (.skip)))
   (.seq (.reg 0 [⟨0, some 18, none, .p .mov, [.t 0]⟩,
    ⟨1, some 19, none, .p (.idx 2), [.t 18, .c (.int .i64 0)]⟩,
    ⟨2, some 20, none, .p (.faddr 0), [.t 19]⟩,
    ⟨3, some 21, none, .r (.load false 1) false, [.t 20]⟩,
    ⟨4, some 22, none, .p .mov, [.t 0]⟩,
    ⟨5, some 23, none, .p (.idx 2), [.t 22, .c (.int .i64 0)]⟩,
    ⟨6, some 24, none, .p (.faddr 1), [.t 23]⟩,
    ⟨7, some 25, none, .r (.load false 1) false, [.t 24]⟩,
    ⟨8, some 26, none, .e .call [] [], [.f 673, .t 21, .t 25]⟩,
    ⟨9, some 17, none, .p .mov, [.t 26]⟩,
    ⟨10, some 27, none, .p (.extract 0), [.t 17]⟩,
    ⟨11, some 28, none, .p (.extract 1), [.t 17]⟩,
    ⟨12, some 4, none, .l (.alloc 4 [.nils, .nils]), []⟩,
    ⟨13, none, none, .l (.store 4 2), [.t 4, .t 27]⟩,
    ⟨14, some 5, none, .p .mov, [.t 28]⟩])
   (.seq (.seq (.reg 0 [⟨0, some 29, none, .p .mov, [.t 0]⟩,
    ⟨1, some 30, none, .p (.slice 2 true false false), [.t 29, .c (.int .i64 1)]⟩,
    ⟨2, some 31, none, .p .len, [.t 30]⟩,
    ⟨3, some 32, none, .p .mov, [.c (.int .i64 0)]⟩])
   (.block 0 (.loop g763_0)))
   (.seq (.reg 0 [⟨0, some 46, none, .l (.load 4 true 2), [.t 4]⟩,
    ⟨1, some 47, none, .p .mov, [.t 5]⟩,
    ⟨2, none, none, .l (.store 2 2), [.t 2, .t 46]⟩,
    ⟨3, some 3, none, .p .mov, [.t 47]⟩])
   (.ret))))),
  [.cellL 2 2 true 2, .tmp 3]⟩
/- loop.example/g00641/spec.DrawPutTogether -/
def g764 : GL.Fn := ⟨.seq (.reg 0 [⟨0, some 2, none, .p .mov, [.c (.nils)]⟩])
   (.seq (.reg 0 [⟨0, some 8, none, .p .mov, [.t 0]⟩,
    ⟨1, some 9, none, .e .call [] [], [.f 760, .t 8]⟩,
    ⟨2, some 7, none, .p .mov, [.t 9]⟩,
    ⟨3, some 10, none, .p (.extract 0), [.t 7]⟩,
    ⟨4, some 11, none, .p (.extract 1), [.t 7]⟩,
    ⟨5, some 3, none, .l (.alloc 3 [.nils, .nils]), []⟩,
    ⟨6, none, none, .l (.store 3 2), [.t 3, .t 10]⟩,
    ⟨7, some 4, none, .p .mov, [.t 11]⟩])
   (.seq (.reg 0 [⟨0, some 13, none, .l (.load 3 true 2), [.t 3]⟩,
    ⟨1, some 14, none, .p .mov, [.t 4]⟩,
    ⟨2, some 15, none, .e .call [] [], [.f 762, .t 13, .t 14]⟩,
    ⟨3, some 12, none, .p .mov, [.t 15]⟩,
    ⟨4, some 16, none, .p (.extract 0), [.t 12]⟩,
    ⟨5, some 17, none, .p (.extract 1), [.t 12]⟩,
    ⟨6, some 5, none, .p .mov, [.t 16]⟩,
    ⟨7, some 6, none, .p .mov, [.t 17]⟩])
   (.seq (.reg 0 [⟨0, some 18, none, .p .mov, [.t 5]⟩,
    ⟨1, some 2, none, .p .mov, [.t 18]⟩])
   (.ret)))),
  [.tmp 2]⟩
/- loop.example/g00641/spec.PutTogether -/
def g765_0 : GL.Code := .seq (.reg 0 [⟨0, some 20, none, .p (.bin .lss), [.t 19, .t 18]⟩])
   (.seq (.cond (.t 20) (.skip)
   (.exit 0))
   (.seq (.block 1 (.seq (.reg 0 [⟨0, some 21, none, .p (.idx 2), [.t 17, .t 19]⟩,
    ⟨1, some 22, none, .r (.load true 2) false, [.t 21]⟩,
    ⟨2, some 5, none, .l (.alloc 5 [.nils, .nils]), []⟩,
    ⟨3, none, none, .l (.store 5 2), [.t 5, .t 22]⟩])
   (.seq (.reg 0 [⟨0, some 23, none, .l (.load 5 true 2), [.t 5]⟩,
    ⟨1, some 24, none, .e .call [] [], [.f 662, .t 23]⟩,
    ⟨2, some 25, none, .p (.un .not), [.t 24]⟩])
   (.cond (.t 25) (.seq (.reg 0 [⟨0, some 26, none, .p (.build [.nils, .nils] []), []⟩,
    ⟨1, none, none, .l (.store 2 2), [.t 2, .t 26]⟩,
    ⟨2, some 3, none, .p .mov, [.c (.bool false)]⟩])
   (.ret))
   (.skip)))))
   (.reg 0 [⟨0, some 27, none, .p (.bin .add), [.t 19, .c (.int .i64 1)]⟩,
    ⟨1, some 19, none, .p .mov, [.t 27]⟩])))
def g765_1 : GL.Code := .seq (.reg 0 [⟨0, some 44, none, .p (.bin .lss), [.t 43, .t 42]⟩])
   (.seq (.cond (.t 44) (.skip)
   (.exit 2))
   (.seq (.block 3 (.seq (.reg 0 [⟨0, some 45, none, .p (.idx 2), [.t 41, .t 43]⟩,
    ⟨1, some 46, none, .r (.load true 2) false, [.t 45]⟩,
    ⟨2, some 9, none, .l (.alloc 9 [.nils, .nils]), []⟩,
    ⟨3, none, none, .l (.store 9 2), [.t 9, .t 46]⟩])
   (.seq (.reg 0 [⟨0, some 48, none, .l (.load 6 true 2), [.t 6]⟩,
    ⟨1, some 49, none, .l (.load 9 true 2), [.t 9]⟩,
    ⟨2, some 50, none, .e .call [] [], [.f 737, .t 48, .t 49]⟩,
    ⟨3, some 47, none, .p .mov, [.t 50]⟩,
    ⟨4, some 51, none, .p (.extract 0), [.t 47]⟩,
    ⟨5, some 52, none, .p (.extract 1), [.t 47]⟩,
    ⟨6, some 10, none, .l (.alloc 10 [.nils, .nils]), []⟩,
    ⟨7, none, none, .l (.store 10 2), [.t 10, .t 51]⟩,
    ⟨8, some 11, none, .p .mov, [.t 52]⟩])
   (.seq (.seq (.reg 0 [⟨0, some 53, none, .p .mov, [.t 11]⟩,
    ⟨1, some 54, none, .p (.un .not), [.t 53]⟩])
   (.cond (.t 54) (.seq (.reg 0 [⟨0, some 55, none, .p (.build [.nils, .nils] []), []⟩,
    ⟨1, none, none, .l (.store 2 2), [.t 2, .t 55]⟩,
    ⟨2, some 3, none, .p .mov, [.c (.bool false)]⟩])
   (.ret))
   (.skip)))
   (.reg 0 [⟨0, some 56, none, .l (.load 10 true 2), [.t 10]⟩,
    ⟨1, none, none, .l (.store 6 2), [.t 6, .t 56]⟩])))))
   (.reg 0 [⟨0, some 57, none, .p (.bin .add), [.t 43, .c (.int .i64 1)]⟩,
    ⟨1, some 43, none, .p .mov, [.t 57]⟩])))
def g765 : GL.Fn := ⟨.seq (.reg 0 [⟨0, some 2, none, .l (.alloc 2 [.nils, .nils]), []⟩,
    ⟨1, some 3, none, .p .mov, [.c (.bool false)]⟩])
   (.seq (.seq (.reg 0 [⟨0, some 12, none, .p .mov, [.t 0]⟩,
    ⟨1, some 13, none, .p .len, [.t 12]⟩,
    ⟨2, some 14, none, .e .call [] [], [.f 98, .t 13, .c (.int .i64 1), .c (.int .i64 10)]⟩,
    ⟨3, some 15, none, .p (.un .not), [.t 14]⟩])
   (.cond (.t 15) (.seq (.reg 0 [⟨0, some 16, none, .p (.build [.nils, .nils] []), []⟩,
    ⟨1, none, none, .l (.store 2 2), [.t 2, .t 16]⟩,
    ⟨2, some 3, none, .p .mov, [.c (.bool false)]⟩])
   (.ret))
   (.skip)))
   (.seq (.seq (.reg 0 [⟨0, some 17, none, .p .mov, [.t 0]⟩,
    ⟨1, some 18, none, .p .len, [.t 17]⟩,
    ⟨2, some 19, none, .p .mov, [.c (.int .i64 0)]⟩])
   (.block 0 (.loop g765_0)))
   (.seq (.reg 0 [⟨0, some 29, none, .p .mov, [.t 0]⟩,
    ⟨1, some 30, none, .p (.idx 2), [.t 29, .c (.int .i64 0)]⟩,
    ⟨2, some 31, none, .p (.faddr 0), [.t 30]⟩,
    ⟨3, some 32, none, .r (.load false 1) false, [.t 31]⟩,
    ⟨4, some 33, none, .p .mov, [.t 0]⟩,
    ⟨5, some 34, none, .p (.idx 2), [.t 33, .c (.int .i64 0)]⟩,
    ⟨6, some 35, none, .p (.faddr 1), [.t 34]⟩,
    ⟨7, some 36, none, .r (.load false 1) false, [.t 35]⟩,
    ⟨8, some 37, none, .e .call [] [], [.f 674, .t 32, .t 36]⟩,
    ⟨9, some 28, none, .p .mov, [.t 37]⟩,
    ⟨10, some 38, none, .p (.extract 0), [.t 28]⟩,
    ⟨11, some 39, none, .p (.extract 1), [.t 28]⟩,
    ⟨12, some 6, none, .l (.alloc 6 [.nils, .nils]), []⟩,
    ⟨13, none, none, .l (.store 6 2), [.t 6, .t 38]⟩,
    ⟨14, some 7, none, .p .mov, [.t 39]⟩])
   (.seq (.seq (.reg 0 [⟨0, some 40, none, .p .mov, [.t 0]⟩,
    ⟨1, some 41, none, .p (.slice 2 true false false), [.t 40, .c (.int .i64 1)]⟩,
    ⟨2, some 42, none, .p .len, [.t 41]⟩,
    ⟨3, some 43, none, .p .mov, [.c (.int .i64 0)]⟩])
   (.block 2 (.loop g765_1)))
   (.seq (.reg 0 [⟨0, some 58, none, .l (.load 6 true 2), [.t 6]⟩,
    ⟨1, none, none, .l (.store 2 2), [.t 2, .t 58]⟩,
    ⟨2, some 3, none, .p .mov, [.c (.bool true)]⟩])
   (.ret)))))),
  [.cellL 2 2 true 2, .tmp 3]⟩
/- (*loop.example/g00641/spec.l1Cur).relation -/
def g657_0 : GL.Code := .seq (.reg 0 [⟨0, some 19, none, .p (.bin .lss), [.t 18, .t 17]⟩])
   (.seq (.cond (.t 19) (.skip)
   (.exit 2))
   (.seq (.block 3 (.reg 0 [⟨0, some 20, none, .p .mov, [.t 7]⟩,
    ⟨1, some 21, none, .p .mov, [.t 0]⟩,
    ⟨2, some 22, none, .e .call [] [], [.f 91, .t 21, .c (.int .i64 3)]⟩,
    ⟨3, some 23, none, .e (.new (.lit 1)) [] [], [.t 22]⟩,
    ⟨4, some 24, none, .e (.append 1 8) [] [], [.t 20, .t 23]⟩,
    ⟨5, some 7, none, .p .mov, [.t 24]⟩]))
   (.reg 0 [⟨0, some 25, none, .p (.bin .add), [.t 18, .c (.int .i64 1)]⟩,
    ⟨1, some 18, none, .p .mov, [.t 25]⟩])))
def g657_1 : GL.Code := .seq (.seq (.reg 0 [⟨0, some 12, none, .p .mov, [.t 6]⟩,
    ⟨1, some 13, none, .p (.bin .gtr), [.t 12, .c (.int .i64 0)]⟩])
   (.cond (.t 13) (.skip)
   (.exit 0)))
   (.seq (.block 1 (.seq (.reg 0 [⟨0, some 7, none, .p .mov, [.c (.nils)]⟩])
   (.seq (.seq (.reg 0 [⟨0, some 16, none, .p .mov, [.t 1]⟩,
    ⟨1, some 17, none, .p .len, [.t 16]⟩,
    ⟨2, some 18, none, .p .mov, [.c (.int .i64 0)]⟩])
   (.block 2 (.loop g657_0)))
   (.reg 0 [⟨0, some 26, none, .p .mov, [.t 5]⟩,
    ⟨1, some 27, none, .p .mov, [.t 7]⟩,
    ⟨2, some 28, none, .e (.new (.lit 1)) [] [], [.t 27]⟩,
    ⟨3, some 29, none, .e (.append 1 24) [] [], [.t 26, .t 28]⟩,
    ⟨4, some 5, none, .p .mov, [.t 29]⟩]))))
   (.reg 0 [⟨0, some 14, none, .p .mov, [.t 6]⟩,
    ⟨1, some 15, none, .p (.bin .sub), [.t 14, .c (.int .i64 1)]⟩,
    ⟨2, some 6, none, .p .mov, [.t 15]⟩]))
def g657 : GL.Fn := ⟨.seq (.reg 0 [⟨0, some 4, none, .l (.alloc 4 [.nils, .nils]), []⟩])
   (.seq (.reg 0 [⟨0, some 5, none, .p .mov, [.c (.nils)]⟩])
   (.seq (.seq (.reg 0 [⟨0, some 10, none, .p .mov, [.t 0]⟩,
    ⟨1, some 11, none, .e .call [] [], [.f 91, .t 10, .c (.int .i64 8)]⟩,
    ⟨2, some 6, none, .p .mov, [.t 11]⟩])
   (.block 0 (.loop g657_1)))
   (.seq (.reg 0 [⟨0, some 31, none, .p .mov, [.t 1]⟩,
    ⟨1, some 32, none, .p .mov, [.t 5]⟩,
    ⟨2, some 33, none, .e .call [] [], [.f 674, .t 31, .t 32]⟩,
    ⟨3, some 30, none, .p .mov, [.t 33]⟩,
    ⟨4, some 34, none, .p (.extract 0), [.t 30]⟩,
    ⟨5, some 35, none, .p (.extract 1), [.t 30]⟩,
    ⟨6, some 8, none, .l (.alloc 8 [.nils, .nils]), []⟩,
    ⟨7, none, none, .l (.store 8 2), [.t 8, .t 34]⟩,
    ⟨8, some 9, none, .p .mov, [.t 35]⟩])
   (.seq (.seq (.reg 0 [⟨0, some 36, none, .p (.faddr 1), [.t 8]⟩,
    ⟨1, some 37, none, .l (.load 8 false 1), [.t 36]⟩,
    ⟨2, some 38, none, .p .len, [.t 37]⟩,
    ⟨3, some 39, none, .p (.bin .gtr), [.t 38, .c (.int .i64 0)]⟩,
    ⟨4, some 40, none, .p .mov, [.t 39]⟩,
    ⟨5, some 41, some (40, true), .p .mov, [.t 0]⟩,
    ⟨6, some 42, some (40, true), .e .call [] [], [.f 92, .t 41, .c (.int .i64 30)]⟩,
    ⟨7, some 43, none, .p .pick, [.t 40, .t 42, .c (.bool false)]⟩])
   (.cond (.t 43) (.reg 0 [⟨0, some 44, none, .p (.faddr 1), [.t 8]⟩,
    ⟨1, some 45, none, .l (.load 8 false 1), [.t 44]⟩,
    ⟨2, some 46, none, .p (.faddr 1), [.t 8]⟩,
    ⟨3, some 47, none, .l (.load 8 false 1), [.t 46]⟩,
    ⟨4, some 48, none, .p (.idx 1), [.t 47, .c (.int .i64 0)]⟩,
    ⟨5, some 49, none, .r (.load false 1) false, [.t 48]⟩,
    ⟨6, some 50, none, .e (.new (.lit 1)) [] [], [.t 49]⟩,
    ⟨7, some 51, none, .e (.append 1 24) [] [], [.t 45, .t 50]⟩,
    ⟨8, some 52, none, .p (.faddr 1), [.t 8]⟩,
    ⟨9, none, none, .l (.store 8 1), [.t 52, .t 51]⟩])
   (.skip)))
   (.seq (.reg 0 [⟨0, some 53, none, .l (.load 8 true 2), [.t 8]⟩,
    ⟨1, none, none, .l (.store 4 2), [.t 4, .t 53]⟩])
   (.ret)))))),
  [.cellL 4 4 true 2]⟩
/- loop.example/g00641/impl.both -/
def g336 : GL.Fn := ⟨.seq (.reg 0 [⟨0, some 3, none, .e (.new (.box 1)) [] [], [.t 1]⟩,
    ⟨1, some 4, none, .p .mov, [.c (.nils)]⟩])
   (.seq (.reg 0 [⟨0, some 5, none, .p .mov, [.t 0]⟩,
    ⟨1, some 6, none, .e .call [] [], [.f 389, .t 5]⟩,
    ⟨2, some 7, none, .p (.mkFn 396), [.t 3]⟩,
    ⟨3, some 8, none, .e .call [] [], [.f 397, .t 6, .t 7]⟩,
    ⟨4, some 4, none, .p .mov, [.t 8]⟩])
   (.ret)),
  [.tmp 4]⟩
/- loop.example/g00641/impl.together -/
def g412 : GL.Fn := ⟨.seq (.reg 0 [⟨0, some 4, none, .p .mov, [.c (.nils)]⟩])
   (.seq (.reg 0 [⟨0, some 6, none, .p .mov, [.t 0]⟩,
    ⟨1, some 7, none, .p .mov, [.t 1]⟩,
    ⟨2, some 8, none, .e (.new (.lit 1)) [] [], [.t 6, .t 7]⟩,
    ⟨3, some 9, none, .e .call [] [], [.f 429, .t 8]⟩,
    ⟨4, some 5, none, .p .mov, [.t 9]⟩])
   (.seq (.reg 0 [⟨0, some 10, none, .p .mov, [.t 5]⟩,
    ⟨1, some 11, none, .e .call [] [], [.f 340, .t 10]⟩])
   (.seq (.reg 0 [⟨0, some 12, none, .p .mov, [.t 5]⟩,
    ⟨1, some 13, none, .e .call [] [], [.f 430, .t 12]⟩,
    ⟨2, some 4, none, .p .mov, [.t 13]⟩])
   (.ret)))),
  [.tmp 4]⟩
/- slices.Equal[[]int,int] -/
def g386_0 : GL.Code := .seq (.reg 0 [⟨0, some 14, none, .p (.bin .lss), [.t 13, .t 12]⟩])
   (.seq (.cond (.t 14) (.skip)
   (.exit 0))
   (.seq (.block 1 (.seq (.reg 0 [⟨0, some 15, none, .p .mov, [.t 13]⟩,
    ⟨1, some 5, none, .p .mov, [.t 15]⟩])
   (.seq (.reg 0 [⟨0, some 16, none, .p .mov, [.t 0]⟩,
    ⟨1, some 17, none, .p .mov, [.t 5]⟩,
    ⟨2, some 18, none, .p (.idx 1), [.t 16, .t 17]⟩,
    ⟨3, some 19, none, .r (.load false 1) false, [.t 18]⟩,
    ⟨4, some 20, none, .p .mov, [.t 1]⟩,
    ⟨5, some 21, none, .p .mov, [.t 5]⟩,
    ⟨6, some 22, none, .p (.idx 1), [.t 20, .t 21]⟩,
    ⟨7, some 23, none, .r (.load false 1) false, [.t 22]⟩,
    ⟨8, some 24, none, .p (.bin .neq), [.t 19, .t 23]⟩])
   (.cond (.t 24) (.seq (.reg 0 [⟨0, some 4, none, .p .mov, [.c (.bool false)]⟩])
   (.ret))
   (.skip)))))
   (.reg 0 [⟨0, some 25, none, .p (.bin .add), [.t 13, .c (.int .i64 1)]⟩,
    ⟨1, some 13, none, .p .mov, [.t 25]⟩])))
def g386 : GL.Fn := ⟨.seq (.reg 0 [⟨0, some 4, none, .p .mov, [.c (.bool false)]⟩])
   (.seq (.seq (.reg 0 [⟨0, some 6, none, .p .mov, [.t 0]⟩,
    ⟨1, some 7, none, .p .len, [.t 6]⟩,
    ⟨2, some 8, none, .p .mov, [.t 1]⟩,
    ⟨3, some 9, none, .p .len, [.t 8]⟩,
    ⟨4, some 10, none, .p (.bin .neq), [.t 7, .t 9]⟩])
   (.cond (.t 10) (.seq (.reg 0 [⟨0, some 4, none, .p .mov, [.c (.bool false)]⟩])
   (.ret))
   (.skip)))
   (.seq (.seq (.reg 0 [⟨0, some 11, none, .p .mov, [.t 0]⟩,
    ⟨1, some 12, none, .p .len, [.t 11]⟩,
    ⟨2, some 13, none, .p .mov, [.c (.int .i64 0)]⟩])
   (.block 0 (.loop g386_0)))
   (.seq (.reg 0 [⟨0, some 4, none, .p .mov, [.c (.bool true)]⟩])
   (.ret)))),
  [.tmp 4]⟩
/- loop.example/g00641/impl.under -/
def g661_0 : GL.Code := .seq (.reg 0 [⟨0, some 14, none, .p (.bin .lss), [.t 13, .t 12]⟩])
   (.seq (.cond (.t 14) (.skip)
   (.exit 0))
   (.seq (.block 1 (.seq (.reg 0 [⟨0, some 15, none, .p (.idx 1), [.t 11, .t 13]⟩,
    ⟨1, some 16, none, .r (.load false 1) false, [.t 15]⟩,
    ⟨2, some 9, none, .p .mov, [.t 16]⟩])
   (.reg 0 [⟨0, some 17, none, .p .mov, [.t 7]⟩,
    ⟨1, some 18, none, .p .mov, [.t 1]⟩,
    ⟨2, some 19, none, .p .mov, [.t 0]⟩,
    ⟨3, some 20, none, .p .mov, [.t 9]⟩,
    ⟨4, some 21, none, .e .call [] [], [.f 390, .t 19, .t 20]⟩,
    ⟨5, some 22, none, .p (.idx 1), [.t 18, .t 21]⟩,
    ⟨6, some 23, none, .r (.load false 1) false, [.t 22]⟩,
    ⟨7, some 24, none, .e (.new (.lit 1)) [] [], [.t 23]⟩,
    ⟨8, some 25, none, .e (.append 1 8) [] [], [.t 17, .t 24]⟩,
    ⟨9, some 7, none, .p .mov, [.t 25]⟩])))
   (.reg 0 [⟨0, some 26, none, .p (.bin .add), [.t 13, .c (.int .i64 1)]⟩,
    ⟨1, some 13, none, .p .mov, [.t 26]⟩])))
def g661 : GL.Fn := ⟨.seq (.reg 0 [⟨0, some 6, none, .p .mov, [.c (.nils)]⟩])
   (.seq (.reg 0 [⟨0, some 10, none, .e (.new (.lit 1)) [] [], []⟩,
    ⟨1, some 7, none, .p .mov, [.t 10]⟩])
   (.seq (.seq (.reg 0 [⟨0, some 11, none, .p .mov, [.t 2]⟩,
    ⟨1, some 12, none, .p .len, [.t 11]⟩,
    ⟨2, some 13, none, .p .mov, [.c (.int .i64 0)]⟩])
   (.block 0 (.loop g661_0)))
   (.seq (.reg 0 [⟨0, some 27, none, .p .mov, [.t 7]⟩,
    ⟨1, some 6, none, .p .mov, [.t 27]⟩])
   (.ret)))),
  [.tmp 6]⟩
/- slices.Index[[]int,int] -/
def g390_0 : GL.Code := .seq (.reg 0 [⟨0, some 9, none, .p (.bin .lss), [.t 8, .t 7]⟩])
   (.seq (.cond (.t 9) (.skip)
   (.exit 0))
   (.seq (.block 1 (.seq (.reg 0 [⟨0, some 10, none, .p .mov, [.t 8]⟩,
    ⟨1, some 5, none, .p .mov, [.t 10]⟩])
   (.seq (.reg 0 [⟨0, some 11, none, .p .mov, [.t 1]⟩,
    ⟨1, some 12, none, .p .mov, [.t 0]⟩,
    ⟨2, some 13, none, .p .mov, [.t 5]⟩,
    ⟨3, some 14, none, .p (.idx 1), [.t 12, .t 13]⟩,
    ⟨4, some 15, none, .r (.load false 1) false, [.t 14]⟩,
    ⟨5, some 16, none, .p (.bin .eql), [.t 11, .t 15]⟩])
   (.cond (.t 16) (.seq (.reg 0 [⟨0, some 17, none, .p .mov, [.t 5]⟩,
    ⟨1, some 4, none, .p .mov, [.t 17]⟩])
   (.ret))
   (.skip)))))
   (.reg 0 [⟨0, some 18, none, .p (.bin .add), [.t 8, .c (.int .i64 1)]⟩,
    ⟨1, some 8, none, .p .mov, [.t 18]⟩])))
def g390 : GL.Fn := ⟨.seq (.reg 0 [⟨0, some 4, none, .p .mov, [.c (.int .i64 0)]⟩])
   (.seq (.seq (.reg 0 [⟨0, some 6, none, .p .mov, [.t 0]⟩,
    ⟨1, some 7, none, .p .len, [.t 6]⟩,
    ⟨2, some 8, none, .p .mov, [.c (.int .i64 0)]⟩])
   (.block 0 (.loop g390_0)))
   (.seq (.reg 0 [⟨0, some 4, none, .p .mov, [.c (.int .i64 (-1))]⟩])
   (.ret))),
  [.tmp 4]⟩
/- loop.example/g00641/impl.related -/
def g673_0 : GL.Code := .seq (.reg 0 [⟨0, some 15, none, .p (.bin .lss), [.t 14, .t 13]⟩])
   (.seq (.cond (.t 15) (.skip)
   (.exit 0))
   (.seq (.block 1 (.seq (.reg 0 [⟨0, some 16, none, .p (.idx 1), [.t 12, .t 14]⟩,
    ⟨1, some 17, none, .r (.load false 1) false, [.t 16]⟩,
    ⟨2, some 8, none, .p .mov, [.t 17]⟩])
   (.reg 0 [⟨0, some 18, none, .p (.faddr 1), [.t 6]⟩,
    ⟨1, some 19, none, .l (.load 6 false 1), [.t 18]⟩,
    ⟨2, some 20, none, .p .mov, [.t 8]⟩,
    ⟨3, some 21, none, .e .call [] [], [.f 389, .t 20]⟩,
    ⟨4, some 22, none, .e (.new (.lit 1)) [] [], [.t 21]⟩,
    ⟨5, some 23, none, .e (.append 1 24) [] [], [.t 19, .t 22]⟩,
    ⟨6, some 24, none, .p (.faddr 1), [.t 6]⟩,
    ⟨7, none, none, .l (.store 6 1), [.t 24, .t 23]⟩])))
   (.reg 0 [⟨0, some 25, none, .p (.bin .add), [.t 14, .c (.int .i64 1)]⟩,
    ⟨1, some 14, none, .p .mov, [.t 25]⟩])))
def g673 : GL.Fn := ⟨.seq (.reg 0 [⟨0, some 4, none, .l (.alloc 4 [.nils, .nils]), []⟩,
    ⟨1, some 5, none, .p .mov, [.c (.bool false)]⟩])
   (.seq (.reg 0 [⟨0, some 9, none, .p .mov, [.t 0]⟩,
    ⟨1, some 10, none, .e .call [] [], [.f 389, .t 9]⟩,
    ⟨2, some 11, none, .p (.build [.nils, .nils] [(0, 1), (1, 1)]), [.t 10, .c (.nils)]⟩,
    ⟨3, some 6, none, .l (.alloc 6 [.nils, .nils]), []⟩,
    ⟨4, none, none, .l (.store 6 2), [.t 6, .t 11]⟩])
   (.seq (.seq (.reg 0 [⟨0, some 12, none, .p .mov, [.t 1]⟩,
    ⟨1, some 13, none, .p .len, [.t 12]⟩,
    ⟨2, some 14, none, .p .mov, [.c (.int .i64 0)]⟩])
   (.block 0 (.loop g673_0)))
   (.seq (.reg 0 [⟨0, some 26, none, .p (.faddr 1), [.t 6]⟩,
    ⟨1, some 27, none, .l (.load 6 false 1), [.t 26]⟩,
    ⟨2, some 28, none, .e .call [] [], [.f 685, .t 27, .f 677]⟩])
   (.seq (.reg 0 [⟨0, some 29, none, .p (.faddr 1), [.t 6]⟩,
    ⟨1, some 30, none, .l (.load 6 false 1), [.t 29]⟩,
    ⟨2, some 31, none, .e .call [] [], [.f 686, .t 30, .f 386]⟩,
    ⟨3, some 32, none, .p (.faddr 1), [.t 6]⟩,
    ⟨4, none, none, .l (.store 6 1), [.t 32, .t 31]⟩])
   (.seq (.seq (.reg 0 [⟨0, some 33, none, .l (.load 6 true 2), [.t 6]⟩,
    ⟨1, some 34, none, .e .call [] [], [.f 659, .t 33]⟩,
    ⟨2, some 35, none, .p (.un .not), [.t 34]⟩])
   (.cond (.t 35) (.seq (.reg 0 [⟨0, some 36, none, .p (.build [.nils, .nils] []), []⟩,
    ⟨1, none, none, .l (.store 4 2), [.t 4, .t 36]⟩,
    ⟨2, some 5, none, .p .mov, [.c (.bool false)]⟩])
   (.ret))
   (.skip)))
   (.seq (.reg 0 [⟨0, some 37, none, .l (.load 6 true 2), [.t 6]⟩,
    ⟨1, none, none, .l (.store 4 2), [.t 4, .t 37]⟩,
    ⟨2, some 5, none, .p .mov, [.c (.bool true)]⟩])
   (.ret))))))),
  [.cellL 4 4 true 2, .tmp 5]⟩
/- loop.example/g00641/spec.l3At -/
def g606_0 : GL.Code := .seq (.reg 0 [⟨0, some 10, none, .p (.bin .lss), [.t 9, .t 8]⟩])
   (.seq (.cond (.t 10) (.skip)
   (.exit 0))
   (.seq (.block 1 (.seq (.reg 0 [⟨0, some 11, none, .p .mov, [.t 9]⟩,
    ⟨1, some 12, none, .p (.idx 1), [.t 7, .t 9]⟩,
    ⟨2, some 13, none, .r (.load false 1) false, [.t 12]⟩,
    ⟨3, some 5, none, .p .mov, [.t 11]⟩,
    ⟨4, some 6, none, .p .mov, [.t 13]⟩])
   (.seq (.reg 0 [⟨0, some 14, none, .p .mov, [.t 6]⟩,
    ⟨1, some 15, none, .p .mov, [.t 1]⟩,
    ⟨2, some 16, none, .p (.bin .eql), [.t 14, .t 15]⟩])
   (.cond (.t 16) (.seq (.reg 0 [⟨0, some 17, none, .p .mov, [.t 5]⟩,
    ⟨1, some 4, none, .p .mov, [.t 17]⟩])
   (.ret))
   (.skip)))))
   (.reg 0 [⟨0, some 18, none, .p (.bin .add), [.t 9, .c (.int .i64 1)]⟩,
    ⟨1, some 9, none, .p .mov, [.t 18]⟩])))
def g606 : GL.Fn := ⟨.seq (.reg 0 [⟨0, some 4, none, .p .mov, [.c (.int .i64 0)]⟩])
   (.seq (.seq (.reg 0 [⟨0, some 7, none, .p .mov, [.t 0]⟩,
    ⟨1, some 8, none, .p .len, [.t 7]⟩,
    ⟨2, some 9, none, .p .mov, [.c (.int .i64 0)]⟩])
   (.block 0 (.loop g606_0)))
   (.seq (.reg 0 [⟨0, some 4, none, .p .mov, [.c (.int .i64 (-1))]⟩])
   (.ret))),
  [.tmp 4]⟩
/- loop.example/g00641/spec.l1Put -/
def g410_0 : GL.Code := .seq (.seq (.reg 0 [⟨0, some 7, none, .p .mov, [.t 5]⟩,
    ⟨1, some 8, none, .p .mov, [.t 0]⟩,
    ⟨2, some 9, none, .p .len, [.t 8]⟩,
    ⟨3, some 10, none, .p (.bin .lss), [.t 7, .t 9]⟩,
    ⟨4, some 11, none, .p .mov, [.t 10]⟩,
    ⟨5, some 12, some (11, true), .p .mov, [.t 0]⟩,
    ⟨6, some 13, some (11, true), .p .mov, [.t 5]⟩,
    ⟨7, some 14, some (11, true), .p (.idx 1), [.t 12, .t 13]⟩,
    ⟨8, some 15, some (11, true), .r (.load false 1) false, [.t 14]⟩,
    ⟨9, some 16, some (11, true), .p .mov, [.t 1]⟩,
    ⟨10, some 17, some (11, true), .p (.bin .lss), [.t 15, .t 16]⟩,
    ⟨11, some 18, none, .p .pick, [.t 11, .t 17, .c (.bool false)]⟩])
   (.cond (.t 18) (.skip)
   (.exit 0)))
   (.block 1 (.reg 0 [⟨0, some 19, none, .p .mov, [.t 5]⟩,
    ⟨1, some 20, none, .p (.bin .add), [.t 19, .c (.int .i64 1)]⟩,
    ⟨2, some 5, none, .p .mov, [.t 20]⟩]))
def g410 : GL.Fn := ⟨.seq (.reg 0 [⟨0, some 4, none, .p .mov, [.c (.nils)]⟩])
   (.seq (.reg 0 [⟨0, some 5, none, .p .mov, [.c (.int .i64 0)]⟩])
   (.seq (.block 0 (.loop g410_0))
   (.seq (.seq (.reg 0 [⟨0, some 21, none, .p .mov, [.t 5]⟩,
    ⟨1, some 22, none, .p .mov, [.t 0]⟩,
    ⟨2, some 23, none, .p .len, [.t 22]⟩,
    ⟨3, some 24, none, .p (.bin .lss), [.t 21, .t 23]⟩,
    ⟨4, some 25, none, .p .mov, [.t 24]⟩,
    ⟨5, some 26, some (25, true), .p .mov, [.t 0]⟩,
    ⟨6, some 27, some (25, true), .p .mov, [.t 5]⟩,
    ⟨7, some 28, some (25, true), .p (.idx 1), [.t 26, .t 27]⟩,
    ⟨8, some 29, some (25, true), .r (.load false 1) false, [.t 28]⟩,
    ⟨9, some 30, some (25, true), .p .mov, [.t 1]⟩,
    ⟨10, some 31, some (25, true), .p (.bin .eql), [.t 29, .t 30]⟩,
    ⟨11, some 32, none, .p .pick, [.t 25, .t 31, .c (.bool false)]⟩])
   (.cond (.t 32) (.seq (.reg 0 [⟨0, some 33, none, .p .mov, [.t 0]⟩,
    ⟨1, some 4, none, .p .mov, [.t 33]⟩])
   (.ret))
   (.skip)))
   (.seq (.reg 0 [⟨0, some 34, none, .e (.new (.lit 1)) [] [], []⟩,
    ⟨1, some 35, none, .p .mov, [.t 0]⟩,
    ⟨2, some 36, none, .p .mov, [.t 5]⟩,
    ⟨3, some 37, none, .p (.slice 1 false true false), [.t 35, .t 36]⟩,
    ⟨4, some 38, none, .e (.append 1 8) [] [], [.t 34, .t 37]⟩,
    ⟨5, some 6, none, .p .mov, [.t 38]⟩])
   (.seq (.reg 0 [⟨0, some 39, none, .p .mov, [.t 6]⟩,
    ⟨1, some 40, none, .p .mov, [.t 1]⟩,
    ⟨2, some 41, none, .e (.new (.lit 1)) [] [], [.t 40]⟩,
    ⟨3, some 42, none, .e (.append 1 8) [] [], [.t 39, .t 41]⟩,
    ⟨4, some 6, none, .p .mov, [.t 42]⟩])
   (.seq (.reg 0 [⟨0, some 43, none, .p .mov, [.t 6]⟩,
    ⟨1, some 44, none, .p .mov, [.t 0]⟩,
    ⟨2, some 45, none, .p .mov, [.t 5]⟩,
    ⟨3, some 46, none, .p (.slice 1 true false false), [.t 44, .t 45]⟩,
    ⟨4, some 47, none, .e (.append 1 8) [] [], [.t 43, .t 46]⟩,
    ⟨5, some 4, none, .p .mov, [.t 47]⟩])
   (.ret))))))),
  [.tmp 4]⟩
/- loop.example/g00641/spec.l1Same -/
def g356_0 : GL.Code := .seq (.reg 0 [⟨0, some 14, none, .p (.bin .lss), [.t 13, .t 12]⟩])
   (.seq (.cond (.t 14) (.skip)
   (.exit 0))
   (.seq (.block 1 (.seq (.reg 0 [⟨0, some 15, none, .p .mov, [.t 13]⟩,
    ⟨1, some 5, none, .p .mov, [.t 15]⟩])
   (.seq (.reg 0 [⟨0, some 16, none, .p .mov, [.t 0]⟩,
    ⟨1, some 17, none, .p .mov, [.t 5]⟩,
    ⟨2, some 18, none, .p (.idx 1), [.t 16, .t 17]⟩,
    ⟨3, some 19, none, .r (.load false 1) false, [.t 18]⟩,
    ⟨4, some 20, none, .p .mov, [.t 1]⟩,
    ⟨5, some 21, none, .p .mov, [.t 5]⟩,
    ⟨6, some 22, none, .p (.idx 1), [.t 20, .t 21]⟩,
    ⟨7, some 23, none, .r (.load false 1) false, [.t 22]⟩,
    ⟨8, some 24, none, .p (.bin .neq), [.t 19, .t 23]⟩])
   (.cond (.t 24) (.seq (.reg 0 [⟨0, some 4, none, .p .mov, [.c (.bool false)]⟩])
   (.ret))
   (.skip)))))
   (.reg 0 [⟨0, some 25, none, .p (.bin .add), [.t 13, .c (.int .i64 1)]⟩,
    ⟨1, some 13, none, .p .mov, [.t 25]⟩])))
def g356 : GL.Fn := ⟨.seq (.reg 0 [⟨0, some 4, none, .p .mov, [.c (.bool false)]⟩])
   (.seq (.seq (.reg 0 [⟨0, some 6, none, .p .mov, [.t 0]⟩,
    ⟨1, some 7, none, .p .len, [.t 6]⟩,
    ⟨2, some 8, none, .p .mov, [.t 1]⟩,
    ⟨3, some 9, none, .p .len, [.t 8]⟩,
    ⟨4, some 10, none, .p (.bin .neq), [.t 7, .t 9]⟩])
   (.cond (.t 10) (.seq (.reg 0 [⟨0, some 4, none, .p .mov, [.c (.bool false)]⟩])
   (.ret))
   (.skip)))
   (.seq (.seq (.reg 0 [⟨0, some 11, none, .p .mov, [.t 0]⟩,
    ⟨1, some 12, none, .p .len, [.t 11]⟩,
    ⟨2, some 13, none, .p .mov, [.c (.int .i64 0)]⟩])
   (.block 0 (.loop g356_0)))
   (.seq (.reg 0 [⟨0, some 4, none, .p .mov, [.c (.bool true)]⟩])
   (.ret)))),
  [.tmp 4]⟩
/- loop.example/g00641/spec.l3Pick -/
def g679_0 : GL.Code := .seq (.reg 0 [⟨0, some 13, none, .p (.bin .lss), [.t 12, .t 11]⟩])
   (.seq (.cond (.t 13) (.skip)
   (.exit 0))
   (.seq (.block 1 (.seq (.reg 0 [⟨0, some 14, none, .p (.idx 1), [.t 10, .t 12]⟩,
    ⟨1, some 15, none, .r (.load false 1) false, [.t 14]⟩,
    ⟨2, some 9, none, .p .mov, [.t 15]⟩])
   (.reg 0 [⟨0, some 16, none, .p .mov, [.t 7]⟩,
    ⟨1, some 17, none, .p .mov, [.t 1]⟩,
    ⟨2, some 18, none, .p .mov, [.t 0]⟩,
    ⟨3, some 19, none, .p .mov, [.t 9]⟩,
    ⟨4, some 20, none, .e .call [] [], [.f 606, .t 18, .t 19]⟩,
    ⟨5, some 21, none, .p (.idx 1), [.t 17, .t 20]⟩,
    ⟨6, some 22, none, .r (.load false 1) false, [.t 21]⟩,
    ⟨7, some 23, none, .e (.new (.lit 1)) [] [], [.t 22]⟩,
    ⟨8, some 24, none, .e (.append 1 8) [] [], [.t 16, .t 23]⟩,
    ⟨9, some 7, none, .p .mov, [.t 24]⟩])))
   (.reg 0 [⟨0, some 25, none, .p (.bin .add), [.t 12, .c (.int .i64 1)]⟩,
    ⟨1, some 12, none, .p .mov, [.t 25]⟩])))
def g679 : GL.Fn := ⟨.seq (.reg 0 [⟨0, some 6, none, .p .mov, [.c (.nils)]⟩])
   (.seq (.reg 0 [⟨0, some 7, none, .p .mov, [.c (.nils)]⟩])
   (.seq (.seq (.reg 0 [⟨0, some 10, none, .p .mov, [.t 2]⟩,
    ⟨1, some 11, none, .p .len, [.t 10]⟩,
    ⟨2, some 12, none, .p .mov, [.c (.int .i64 0)]⟩])
   (.block 0 (.loop g679_0)))
   (.seq (.reg 0 [⟨0, some 26, none, .p .mov, [.t 7]⟩,
    ⟨1, some 6, none, .p .mov, [.t 26]⟩])
   (.ret)))),
  [.tmp 6]⟩
/- loop.example/g00641/spec.l3Add -/
def g687_0 : GL.Code := .seq (.seq (.reg 0 [⟨0, some 7, none, .p .mov, [.t 5]⟩,
    ⟨1, some 8, none, .p .mov, [.t 0]⟩,
    ⟨2, some 9, none, .p .len, [.t 8]⟩,
    ⟨3, some 10, none, .p (.bin .lss), [.t 7, .t 9]⟩,
    ⟨4, some 11, none, .p .mov, [.t 10]⟩,
    ⟨5, some 12, some (11, true), .p .mov, [.t 0]⟩,
    ⟨6, some 13, some (11, true), .p .mov, [.t 5]⟩,
    ⟨7, some 14, some (11, true), .p (.idx 1), [.t 12, .t 13]⟩,
    ⟨8, some 15, some (11, true), .r (.load false 1) false, [.t 14]⟩,
    ⟨9, some 16, some (11, true), .p .mov, [.t 1]⟩,
    ⟨10, some 17, some (11, true), .e .call [] [], [.f 678, .t 15, .t 16]⟩,
    ⟨11, some 18, none, .p .pick, [.t 11, .t 17, .c (.bool false)]⟩])
   (.cond (.t 18) (.skip)
   (.exit 0)))
   (.block 1 (.reg 0 [⟨0, some 19, none, .p .mov, [.t 5]⟩,
    ⟨1, some 20, none, .p (.bin .add), [.t 19, .c (.int .i64 1)]⟩,
    ⟨2, some 5, none, .p .mov, [.t 20]⟩]))
def g687 : GL.Fn := ⟨.seq (.reg 0 [⟨0, some 4, none, .p .mov, [.c (.nils)]⟩])
   (.seq (.reg 0 [⟨0, some 5, none, .p .mov, [.c (.int .i64 0)]⟩])
   (.seq (.block 0 (.loop g687_0))
   (.seq (.seq (.reg 0 [⟨0, some 21, none, .p .mov, [.t 5]⟩,
    ⟨1, some 22, none, .p .mov, [.t 0]⟩,
    ⟨2, some 23, none, .p .len, [.t 22]⟩,
    ⟨3, some 24, none, .p (.bin .lss), [.t 21, .t 23]⟩,
    ⟨4, some 25, none, .p .mov, [.t 24]⟩,
    ⟨5, some 26, some (25, true), .p .mov, [.t 0]⟩,
    ⟨6, some 27, some (25, true), .p .mov, [.t 5]⟩,
    ⟨7, some 28, some (25, true), .p (.idx 1), [.t 26, .t 27]⟩,
    ⟨8, some 29, some (25, true), .r (.load false 1) false, [.t 28]⟩,
    ⟨9, some 30, some (25, true), .p .mov, [.t 1]⟩,
    ⟨10, some 31, some (25, true), .e .call [] [], [.f 356, .t 29, .t 30]⟩,
    ⟨11, some 32, none, .p .pick, [.t 25, .t 31, .c (.bool false)]⟩])
   (.cond (.t 32) (.seq (.reg 0 [⟨0, some 33, none, .p .mov, [.t 0]⟩,
    ⟨1, some 4, none, .p .mov, [.t 33]⟩])
   (.ret))
   (.skip)))
   (.seq (.reg 0 [⟨0, some 34, none, .e (.new (.lit 1)) [] [], []⟩,
    ⟨1, some 35, none, .p .mov, [.t 0]⟩,
    ⟨2, some 36, none, .p .mov, [.t 5]⟩,
    ⟨3, some 37, none, .p (.slice 1 false true false), [.t 35, .t 36]⟩,
    ⟨4, some 38, none, .e (.append 1 24) [] [], [.t 34, .t 37]⟩,
    ⟨5, some 6, none, .p .mov, [.t 38]⟩])
   (.seq (.reg 0 [⟨0, some 39, none, .p .mov, [.t 6]⟩,
    ⟨1, some 40, none, .e (.new (.lit 1)) [] [], []⟩,
    ⟨2, some 41, none, .p .mov, [.t 1]⟩,
    ⟨3, some 42, none, .e (.append 1 8) [] [], [.t 40, .t 41]⟩,
    ⟨4, some 43, none, .e (.new (.lit 1)) [] [], [.t 42]⟩,
    ⟨5, some 44, none, .e (.append 1 24) [] [], [.t 39, .t 43]⟩,
    ⟨6, some 6, none, .p .mov, [.t 44]⟩])
   (.seq (.reg 0 [⟨0, some 45, none, .p .mov, [.t 6]⟩,
    ⟨1, some 46, none, .p .mov, [.t 0]⟩,
    ⟨2, some 47, none, .p .mov, [.t 5]⟩,
    ⟨3, some 48, none, .p (.slice 1 true false false), [.t 46, .t 47]⟩,
    ⟨4, some 49, none, .e (.append 1 24) [] [], [.t 45, .t 48]⟩,
    ⟨5, some 4, none, .p .mov, [.t 49]⟩])
   (.ret))))))),
  [.tmp 4]⟩
/- loop.example/g00641/spec.l3Tell -/
def g674_0 : GL.Code := .seq (.reg 0 [⟨0, some 16, none, .p (.bin .lss), [.t 15, .t 14]⟩])
   (.seq (.cond (.t 16) (.skip)
   (.exit 0))
   (.seq (.block 1 (.seq (.reg 0 [⟨0, some 17, none, .p (.idx 1), [.t 13, .t 15]⟩,
    ⟨1, some 18, none, .r (.load false 1) false, [.t 17]⟩,
    ⟨2, some 8, none, .p .mov, [.t 18]⟩])
   (.reg 0 [⟨0, some 19, none, .p (.faddr 1), [.t 6]⟩,
    ⟨1, some 20, none, .l (.load 6 false 1), [.t 19]⟩,
    ⟨2, some 21, none, .p .mov, [.t 8]⟩,
    ⟨3, some 22, none, .e .call [] [], [.f 687, .t 20, .t 21]⟩,
    ⟨4, some 23, none, .p (.faddr 1), [.t 6]⟩,
    ⟨5, none, none, .l (.store 6 1), [.t 23, .t 22]⟩])))
   (.reg 0 [⟨0, some 24, none, .p (.bin .add), [.t 15, .c (.int .i64 1)]⟩,
    ⟨1, some 15, none, .p .mov, [.t 24]⟩])))
def g674 : GL.Fn := ⟨.seq (.reg 0 [⟨0, some 4, none, .l (.alloc 4 [.nils, .nils]), []⟩,
    ⟨1, some 5, none, .p .mov, [.c (.bool false)]⟩])
   (.seq (.reg 0 [⟨0, some 9, none, .e (.new (.lit 1)) [] [], []⟩,
    ⟨1, some 10, none, .p .mov, [.t 0]⟩,
    ⟨2, some 11, none, .e (.append 1 8) [] [], [.t 9, .t 10]⟩,
    ⟨3, some 12, none, .p (.build [.nils, .nils] [(0, 1)]), [.t 11]⟩,
    ⟨4, some 6, none, .l (.alloc 6 [.nils, .nils]), []⟩,
    ⟨5, none, none, .l (.store 6 2), [.t 6, .t 12]⟩])
   (.seq (.seq (.reg 0 [⟨0, some 13, none, .p .mov, [.t 1]⟩,
    ⟨1, some 14, none, .p .len, [.t 13]⟩,
    ⟨2, some 15, none, .p .mov, [.c (.int .i64 0)]⟩])
   (.block 0 (.loop g674_0)))
   (.seq (.seq (.reg 0 [⟨0, some 25, none, .l (.load 6 true 2), [.t 6]⟩,
    ⟨1, some 26, none, .e .call [] [], [.f 662, .t 25]⟩,
    ⟨2, some 27, none, .p (.un .not), [.t 26]⟩])
   (.cond (.t 27) (.seq (.reg 0 [⟨0, some 28, none, .p (.build [.nils, .nils] []), []⟩,
    ⟨1, none, none, .l (.store 4 2), [.t 4, .t 28]⟩,
    ⟨2, some 5, none, .p .mov, [.c (.bool false)]⟩])
   (.ret))
   (.skip)))
   (.seq (.reg 0 [⟨0, some 29, none, .l (.load 6 true 2), [.t 6]⟩,
    ⟨1, none, none, .l (.store 4 2), [.t 4, .t 29]⟩,
    ⟨2, some 5, none, .p .mov, [.c (.bool true)]⟩])
   (.ret))))),
  [.cellL 4 4 true 2, .tmp 5]⟩
/- loop.example/g00641/laws.sameInts -/
def g24_0 : GL.Code := .seq (.reg 0 [⟨0, some 14, none, .p (.bin .lss), [.t 13, .t 12]⟩])
   (.seq (.cond (.t 14) (.skip)
   (.exit 0))
   (.seq (.block 1 (.seq (.reg 0 [⟨0, some 15, none, .p .mov, [.t 13]⟩,
    ⟨1, some 5, none, .p .mov, [.t 15]⟩])
   (.seq (.reg 0 [⟨0, some 16, none, .p .mov, [.t 0]⟩,
    ⟨1, some 17, none, .p .mov, [.t 5]⟩,
    ⟨2, some 18, none, .p (.idx 1), [.t 16, .t 17]⟩,
    ⟨3, some 19, none, .r (.load false 1) false, [.t 18]⟩,
    ⟨4, some 20, none, .p .mov, [.t 1]⟩,
    ⟨5, some 21, none, .p .mov, [.t 5]⟩,
    ⟨6, some 22, none, .p (.idx 1), [.t 20, .t 21]⟩,
    ⟨7, some 23, none, .r (.load false 1) false, [.t 22]⟩,
    ⟨8, some 24, none, .p (.bin .neq), [.t 19, .t 23]⟩])
   (.cond (.t 24) (.seq (.reg 0 [⟨0, some 4, none, .p .mov, [.c (.bool false)]⟩])
   (.ret))
   (.skip)))))
   (.reg 0 [⟨0, some 25, none, .p (.bin .add), [.t 13, .c (.int .i64 1)]⟩,
    ⟨1, some 13, none, .p .mov, [.t 25]⟩])))
def g24 : GL.Fn := ⟨.seq (.reg 0 [⟨0, some 4, none, .p .mov, [.c (.bool false)]⟩])
   (.seq (.seq (.reg 0 [⟨0, some 6, none, .p .mov, [.t 0]⟩,
    ⟨1, some 7, none, .p .len, [.t 6]⟩,
    ⟨2, some 8, none, .p .mov, [.t 1]⟩,
    ⟨3, some 9, none, .p .len, [.t 8]⟩,
    ⟨4, some 10, none, .p (.bin .neq), [.t 7, .t 9]⟩])
   (.cond (.t 10) (.seq (.reg 0 [⟨0, some 4, none, .p .mov, [.c (.bool false)]⟩])
   (.ret))
   (.skip)))
   (.seq (.seq (.reg 0 [⟨0, some 11, none, .p .mov, [.t 0]⟩,
    ⟨1, some 12, none, .p .len, [.t 11]⟩,
    ⟨2, some 13, none, .p .mov, [.c (.int .i64 0)]⟩])
   (.block 0 (.loop g24_0)))
   (.seq (.reg 0 [⟨0, some 4, none, .p .mov, [.c (.bool true)]⟩])
   (.ret)))),
  [.tmp 4]⟩
/- loop.example/g00641/laws.sameRows -/
def g383_0 : GL.Code := .seq (.reg 0 [⟨0, some 14, none, .p (.bin .lss), [.t 13, .t 12]⟩])
   (.seq (.cond (.t 14) (.skip)
   (.exit 0))
   (.seq (.block 1 (.seq (.reg 0 [⟨0, some 15, none, .p .mov, [.t 13]⟩,
    ⟨1, some 5, none, .p .mov, [.t 15]⟩])
   (.seq (.reg 0 [⟨0, some 16, none, .p .mov, [.t 0]⟩,
    ⟨1, some 17, none, .p .mov, [.t 5]⟩,
    ⟨2, some 18, none, .p (.idx 1), [.t 16, .t 17]⟩,
    ⟨3, some 19, none, .r (.load false 1) false, [.t 18]⟩,
    ⟨4, some 20, none, .p .mov, [.t 1]⟩,
    ⟨5, some 21, none, .p .mov, [.t 5]⟩,
    ⟨6, some 22, none, .p (.idx 1), [.t 20, .t 21]⟩,
    ⟨7, some 23, none, .r (.load false 1) false, [.t 22]⟩,
    ⟨8, some 24, none, .e .call [] [], [.f 24, .t 19, .t 23]⟩,
    ⟨9, some 25, none, .p (.un .not), [.t 24]⟩])
   (.cond (.t 25) (.seq (.reg 0 [⟨0, some 4, none, .p .mov, [.c (.bool false)]⟩])
   (.ret))
   (.skip)))))
   (.reg 0 [⟨0, some 26, none, .p (.bin .add), [.t 13, .c (.int .i64 1)]⟩,
    ⟨1, some 13, none, .p .mov, [.t 26]⟩])))
def g383 : GL.Fn := ⟨.seq (.reg 0 [⟨0, some 4, none, .p .mov, [.c (.bool false)]⟩])
   (.seq (.seq (.reg 0 [⟨0, some 6, none, .p .mov, [.t 0]⟩,
    ⟨1, some 7, none, .p .len, [.t 6]⟩,
    ⟨2, some 8, none, .p .mov, [.t 1]⟩,
    ⟨3, some 9, none, .p .len, [.t 8]⟩,
    ⟨4, some 10, none, .p (.bin .neq), [.t 7, .t 9]⟩])
   (.cond (.t 10) (.seq (.reg 0 [⟨0, some 4, none, .p .mov, [.c (.bool false)]⟩])
   (.ret))
   (.skip)))
   (.seq (.seq (.reg 0 [⟨0, some 11, none, .p .mov, [.t 0]⟩,
    ⟨1, some 12, none, .p .len, [.t 11]⟩,
    ⟨2, some 13, none, .p .mov, [.c (.int .i64 0)]⟩])
   (.block 0 (.loop g383_0)))
   (.seq (.reg 0 [⟨0, some 4, none, .p .mov, [.c (.bool true)]⟩])
   (.ret)))),
  [.tmp 4]⟩
/- loop.example/g00641/impl.isPart -/
def g660_0 : GL.Code := .seq (.reg 0 [⟨0, some 10, none, .p (.bin .lss), [.t 9, .t 8]⟩])
   (.seq (.cond (.t 10) (.skip)
   (.exit 0))
   (.seq (.block 1 (.seq (.reg 0 [⟨0, some 11, none, .p .mov, [.t 9]⟩,
    ⟨1, some 12, none, .p (.idx 1), [.t 7, .t 9]⟩,
    ⟨2, some 13, none, .r (.load false 1) false, [.t 12]⟩,
    ⟨3, some 5, none, .p .mov, [.t 11]⟩,
    ⟨4, some 6, none, .p .mov, [.t 13]⟩])
   (.seq (.reg 0 [⟨0, some 14, none, .p .mov, [.t 1]⟩,
    ⟨1, some 15, none, .p .mov, [.t 6]⟩,
    ⟨2, some 16, none, .e .call [] [], [.f 301, .t 14, .t 15]⟩,
    ⟨3, some 17, none, .p (.un .not), [.t 16]⟩,
    ⟨4, some 18, none, .p .mov, [.t 17]⟩,
    ⟨5, some 19, some (18, false), .p .mov, [.t 5]⟩,
    ⟨6, some 20, some (18, false), .p (.bin .gtr), [.t 19, .c (.int .i64 0)]⟩,
    ⟨7, some 21, some (18, false), .p .mov, [.t 20]⟩,
    ⟨8, some 22, some (21, true), .p .mov, [.t 0]⟩,
    ⟨9, some 23, some (21, true), .p .mov, [.t 5]⟩,
    ⟨10, some 24, some (21, true), .p (.bin .sub), [.t 23, .c (.int .i64 1)]⟩,
    ⟨11, some 25, some (21, true), .p (.idx 1), [.t 22, .t 24]⟩,
    ⟨12, some 26, some (21, true), .r (.load false 1) false, [.t 25]⟩,
    ⟨13, some 27, some (21, true), .p .mov, [.t 6]⟩,
    ⟨14, some 28, some (21, true), .p (.bin .geq), [.t 26, .t 27]⟩,
    ⟨15, some 29, some (18, false), .p .pick, [.t 21, .t 28, .c (.bool false)]⟩,
    ⟨16, some 30, none, .p .pick, [.t 18, .c (.bool true), .t 29]⟩])
   (.cond (.t 30) (.seq (.reg 0 [⟨0, some 4, none, .p .mov, [.c (.bool false)]⟩])
   (.ret))
   (.skip)))))
   (.reg 0 [⟨0, some 31, none, .p (.bin .add), [.t 9, .c (.int .i64 1)]⟩,
    ⟨1, some 9, none, .p .mov, [.t 31]⟩])))
def g660 : GL.Fn := ⟨.seq (.reg 0 [⟨0, some 4, none, .p .mov, [.c (.bool false)]⟩])
   (.seq (.seq (.reg 0 [⟨0, some 7, none, .p .mov, [.t 0]⟩,
    ⟨1, some 8, none, .p .len, [.t 7]⟩,
    ⟨2, some 9, none, .p .mov, [.c (.int .i64 0)]⟩])
   (.block 0 (.loop g660_0)))
   (.seq (.reg 0 [⟨0, some 4, none, .p .mov, [.c (.bool true)]⟩])
   (.ret))),
  [.tmp 4]⟩
/- loop.example/g00641/impl.isSmall -/
def g100 : GL.Fn := ⟨.seq (.reg 0 [⟨0, some 2, none, .p .mov, [.c (.bool false)]⟩])
   (.seq (.reg 0 [⟨0, some 3, none, .p .mov, [.t 0]⟩,
    ⟨1, some 4, none, .e .call [] [], [.f 107, .t 3, .c (.int .i64 (-1000)), .c (.int .i64 1000)]⟩,
    ⟨2, some 2, none, .p .mov, [.t 4]⟩])
   (.ret)),
  [.tmp 2]⟩
/- (*loop.example/g00641/spec.l1Cur).pick -/
def g91 : GL.Fn := ⟨.seq (.reg 0 [⟨0, some 4, none, .p .mov, [.c (.int .i64 0)]⟩])
   (.seq (.seq (.reg 0 [⟨0, some 6, none, .p .mov, [.t 1]⟩,
    ⟨1, some 7, none, .p (.bin .leq), [.t 6, .c (.int .i64 1)]⟩])
   (.cond (.t 7) (.seq (.reg 0 [⟨0, some 4, none, .p .mov, [.c (.int .i64 0)]⟩])
   (.ret))
   (.skip)))
   (.seq (.reg 0 [⟨0, some 8, none, .p .mov, [.t 0]⟩,
    ⟨1, some 9, none, .e .call [] [], [.f 140, .t 8]⟩,
    ⟨2, some 5, none, .p .mov, [.t 9]⟩])
   (.seq (.seq (.reg 0 [⟨0, some 10, none, .p .mov, [.t 1]⟩,
    ⟨1, some 11, none, .p (.bin .gtr), [.t 10, .c (.int .i64 200)]⟩])
   (.cond (.t 11) (.reg 0 [⟨0, some 12, none, .p .mov, [.t 5]⟩,
    ⟨1, some 13, none, .p (.bin .mul), [.t 12, .c (.int .i64 256)]⟩,
    ⟨2, some 14, none, .p .mov, [.t 0]⟩,
    ⟨3, some 15, none, .e .call [] [], [.f 140, .t 14]⟩,
    ⟨4, some 16, none, .p (.bin .add), [.t 13, .t 15]⟩,
    ⟨5, some 5, none, .p .mov, [.t 16]⟩])
   (.skip)))
   (.seq (.reg 0 [⟨0, some 17, none, .p .mov, [.t 5]⟩,
    ⟨1, some 18, none, .p .mov, [.t 1]⟩,
    ⟨2, some 19, none, .p (.bin .rem), [.t 17, .t 18]⟩,
    ⟨3, some 4, none, .p .mov, [.t 19]⟩])
   (.ret))))),
  [.tmp 4]⟩
/- (*loop.example/g00641/spec.l1Cur).among -/
def g93 : GL.Fn := ⟨.seq (.reg 0 [⟨0, some 4, none, .p .mov, [.c (.int .i64 0)]⟩])
   (.seq (.reg 0 [⟨0, some 5, none, .p .mov, [.t 1]⟩,
    ⟨1, some 6, none, .p .mov, [.t 0]⟩,
    ⟨2, some 7, none, .p .mov, [.t 1]⟩,
    ⟨3, some 8, none, .p .len, [.t 7]⟩,
    ⟨4, some 9, none, .e .call [] [], [.f 91, .t 6, .t 8]⟩,
    ⟨5, some 10, none, .p (.idx 1), [.t 5, .t 9]⟩,
    ⟨6, some 11, none, .r (.load false 1) false, [.t 10]⟩,
    ⟨7, some 4, none, .p .mov, [.t 11]⟩])
   (.ret)),
  [.tmp 4]⟩
/- loop.example/g00641/spec.l1In -/
def g98 : GL.Fn := ⟨.seq (.reg 0 [⟨0, some 6, none, .p .mov, [.c (.bool false)]⟩])
   (.seq (.reg 0 [⟨0, some 7, none, .p .mov, [.t 0]⟩,
    ⟨1, some 8, none, .p .mov, [.t 1]⟩,
    ⟨2, some 9, none, .p (.bin .geq), [.t 7, .t 8]⟩,
    ⟨3, some 10, none, .p .mov, [.t 9]⟩,
    ⟨4, some 11, some (10, true), .p .mov, [.t 0]⟩,
    ⟨5, some 12, some (10, true), .p .mov, [.t 2]⟩,
    ⟨6, some 13, some (10, true), .p (.bin .leq), [.t 11, .t 12]⟩,
    ⟨7, some 14, none, .p .pick, [.t 10, .t 13, .c (.bool false)]⟩,
    ⟨8, some 6, none, .p .mov, [.t 14]⟩])
   (.ret)),
  [.tmp 6]⟩
/- loop.example/g00641/impl.isRising -/
def g385_0 : GL.Code := .seq (.reg 0 [⟨0, some 12, none, .p (.bin .lss), [.t 11, .t 10]⟩])
   (.seq (.cond (.t 12) (.skip)
   (.exit 0))
   (.seq (.block 1 (.seq (.reg 0 [⟨0, some 13, none, .p .mov, [.t 11]⟩,
    ⟨1, some 14, none, .p (.idx 1), [.t 9, .t 11]⟩,
    ⟨2, some 15, none, .r (.load false 1) false, [.t 14]⟩,
    ⟨3, some 7, none, .p .mov, [.t 13]⟩,
    ⟨4, some 8, none, .p .mov, [.t 15]⟩])
   (.seq (.reg 0 [⟨0, some 16, none, .p .mov, [.t 8]⟩,
    ⟨1, some 17, none, .p .mov, [.t 1]⟩,
    ⟨2, some 18, none, .p .mov, [.t 2]⟩,
    ⟨3, some 19, none, .e .call [] [], [.f 107, .t 16, .t 17, .t 18]⟩,
    ⟨4, some 20, none, .p (.un .not), [.t 19]⟩,
    ⟨5, some 21, none, .p .mov, [.t 20]⟩,
    ⟨6, some 22, some (21, false), .p .mov, [.t 7]⟩,
    ⟨7, some 23, some (21, false), .p (.bin .gtr), [.t 22, .c (.int .i64 0)]⟩,
    ⟨8, some 24, some (21, false), .p .mov, [.t 23]⟩,
    ⟨9, some 25, some (24, true), .p .mov, [.t 0]⟩,
    ⟨10, some 26, some (24, true), .p .mov, [.t 7]⟩,
    ⟨11, some 27, some (24, true), .p (.bin .sub), [.t 26, .c (.int .i64 1)]⟩,
    ⟨12, some 28, some (24, true), .p (.idx 1), [.t 25, .t 27]⟩,
    ⟨13, some 29, some (24, true), .r (.load false 1) false, [.t 28]⟩,
    ⟨14, some 30, some (24, true), .p .mov, [.t 8]⟩,
    ⟨15, some 31, some (24, true), .p (.bin .geq), [.t 29, .t 30]⟩,
    ⟨16, some 32, some (21, false), .p .pick, [.t 24, .t 31, .c (.bool false)]⟩,
    ⟨17, some 33, none, .p .pick, [.t 21, .c (.bool true), .t 32]⟩])
   (.cond (.t 33) (.seq (.reg 0 [⟨0, some 6, none, .p .mov, [.c (.bool false)]⟩])
   (.ret))
   (.skip)))))
   (.reg 0 [⟨0, some 34, none, .p (.bin .add), [.t 11, .c (.int .i64 1)]⟩,
    ⟨1, some 11, none, .p .mov, [.t 34]⟩])))
def g385 : GL.Fn := ⟨.seq (.reg 0 [⟨0, some 6, none, .p .mov, [.c (.bool false)]⟩])
   (.seq (.seq (.reg 0 [⟨0, some 9, none, .p .mov, [.t 0]⟩,
    ⟨1, some 10, none, .p .len, [.t 9]⟩,
    ⟨2, some 11, none, .p .mov, [.c (.int .i64 0)]⟩])
   (.block 0 (.loop g385_0)))
   (.seq (.reg 0 [⟨0, some 6, none, .p .mov, [.c (.bool true)]⟩])
   (.ret))),
  [.tmp 6]⟩
/- slices.ContainsFunc[[]int,int] -/
def g304 : GL.Fn := ⟨.seq (.reg 0 [⟨0, some 4, none, .p .mov, [.c (.bool false)]⟩])
   (.seq (.reg 0 [⟨0, some 5, none, .p .mov, [.t 0]⟩,
    ⟨1, some 6, none, .p .mov, [.t 1]⟩,
    ⟨2, some 7, none, .e .call [] [], [.f 391, .t 5, .t 6]⟩,
    ⟨3, some 8, none, .p (.bin .geq), [.t 7, .c (.int .i64 0)]⟩,
    ⟨4, some 4, none, .p .mov, [.t 8]⟩])
   (.ret)),
  [.tmp 4]⟩
/- loop.example/g00641/impl.GoodRelation$1 -/
def g676 : GL.Fn := ⟨.seq (.reg 0 [⟨0, some 2, none, .p .mov, [.c (.bool false)]⟩])
   (.seq (.reg 0 [⟨0, some 3, none, .p .mov, [.t 0]⟩,
    ⟨1, some 4, none, .e .call [] [], [.f 100, .t 3]⟩,
    ⟨2, some 5, none, .p (.un .not), [.t 4]⟩,
    ⟨3, some 2, none, .p .mov, [.t 5]⟩])
   (.ret)),
  [.tmp 2]⟩
/- slices.Compare[[]int,int] -/
def g677_0 : GL.Code := .seq (.reg 0 [⟨0, some 12, none, .p (.bin .lss), [.t 11, .t 10]⟩])
   (.seq (.cond (.t 12) (.skip)
   (.exit 0))
   (.seq (.block 1 (.seq (.reg 0 [⟨0, some 13, none, .p .mov, [.t 11]⟩,
    ⟨1, some 14, none, .p (.idx 1), [.t 9, .t 11]⟩,
    ⟨2, some 15, none, .r (.load false 1) false, [.t 14]⟩,
    ⟨3, some 5, none, .p .mov, [.t 13]⟩,
    ⟨4, some 6, none, .p .mov, [.t 15]⟩])
   (.seq (.seq (.reg 0 [⟨0, some 16, none, .p .mov, [.t 5]⟩,
    ⟨1, some 17, none, .p .mov, [.t 1]⟩,
    ⟨2, some 18, none, .p .len, [.t 17]⟩,
    ⟨3, some 19, none, .p (.bin .geq), [.t 16, .t 18]⟩])
   (.cond (.t 19) (.seq (.reg 0 [⟨0, some 4, none, .p .mov, [.c (.int .i64 1)]⟩])
   (.ret))
   (.skip)))
   (.seq (.reg 0 [⟨0, some 20, none, .p .mov, [.t 1]⟩,
    ⟨1, some 21, none, .p .mov, [.t 5]⟩,
    ⟨2, some 22, none, .p (.idx 1), [.t 20, .t 21]⟩,
    ⟨3, some 23, none, .r (.load false 1) false, [.t 22]⟩,
    ⟨4, some 7, none, .p .mov, [.t 23]⟩])
   (.seq (.reg 0 [⟨0, some 24, none, .p .mov, [.t 6]⟩,
    ⟨1, some 25, none, .p .mov, [.t 7]⟩,
    ⟨2, some 26, none, .e .call [] [], [.f 159, .t 24, .t 25]⟩,
    ⟨3, some 8, none, .p .mov, [.t 26]⟩])
   (.seq (.reg 0 [⟨0, some 27, none, .p .mov, [.t 8]⟩,
    ⟨1, some 28, none, .p (.bin .neq), [.t 27, .c (.int .i64 0)]⟩])
   (.cond (.t 28) (.seq (.reg 0 [⟨0, some 29, none, .p .mov, [.t 8]⟩,
    ⟨1, some 4, none, .p .mov, [.t 29]⟩])
   (.ret))
   (.skip))))))))
   (.reg 0 [⟨0, some 30, none, .p (.bin .add), [.t 11, .c (.int .i64 1)]⟩,
    ⟨1, some 11, none, .p .mov, [.t 30]⟩])))
def g677 : GL.Fn := ⟨.seq (.reg 0 [⟨0, some 4, none, .p .mov, [.c (.int .i64 0)]⟩])
   (.seq (.seq (.reg 0 [⟨0, some 9, none, .p .mov, [.t 0]⟩,
    ⟨1, some 10, none, .p .len, [.t 9]⟩,
    ⟨2, some 11, none, .p .mov, [.c (.int .i64 0)]⟩])
   (.block 0 (.loop g677_0)))
   (.seq (.seq (.reg 0 [⟨0, some 31, none, .p .mov, [.t 0]⟩,
    ⟨1, some 32, none, .p .len, [.t 31]⟩,
    ⟨2, some 33, none, .p .mov, [.t 1]⟩,
    ⟨3, some 34, none, .p .len, [.t 33]⟩,
    ⟨4, some 35, none, .p (.bin .lss), [.t 32, .t 34]⟩])
   (.cond (.t 35) (.seq (.reg 0 [⟨0, some 4, none, .p .mov, [.c (.int .i64 (-1))]⟩])
   (.ret))
   (.skip)))
   (.seq (.reg 0 [⟨0, some 4, none, .p .mov, [.c (.int .i64 0)]⟩])
   (.ret)))),
  [.tmp 4]⟩
/- loop.example/g00641/spec.l1Rising -/
def g337_0 : GL.Code := .seq (.reg 0 [⟨0, some 12, none, .p (.bin .lss), [.t 11, .t 10]⟩])
   (.seq (.cond (.t 12) (.skip)
   (.exit 0))
   (.seq (.block 1 (.seq (.reg 0 [⟨0, some 13, none, .p .mov, [.t 11]⟩,
    ⟨1, some 14, none, .p (.idx 1), [.t 9, .t 11]⟩,
    ⟨2, some 15, none, .r (.load false 1) false, [.t 14]⟩,
    ⟨3, some 7, none, .p .mov, [.t 13]⟩,
    ⟨4, some 8, none, .p .mov, [.t 15]⟩])
   (.seq (.reg 0 [⟨0, some 16, none, .p .mov, [.t 8]⟩,
    ⟨1, some 17, none, .p .mov, [.t 1]⟩,
    ⟨2, some 18, none, .p .mov, [.t 2]⟩,
    ⟨3, some 19, none, .e .call [] [], [.f 98, .t 16, .t 17, .t 18]⟩,
    ⟨4, some 20, none, .p (.un .not), [.t 19]⟩,
    ⟨5, some 21, none, .p .mov, [.t 20]⟩,
    ⟨6, some 22, some (21, false), .p .mov, [.t 7]⟩,
    ⟨7, some 23, some (21, false), .p (.bin .gtr), [.t 22, .c (.int .i64 0)]⟩,
    ⟨8, some 24, some (21, false), .p .mov, [.t 23]⟩,
    ⟨9, some 25, some (24, true), .p .mov, [.t 0]⟩,
    ⟨10, some 26, some (24, true), .p .mov, [.t 7]⟩,
    ⟨11, some 27, some (24, true), .p (.bin .sub), [.t 26, .c (.int .i64 1)]⟩,
    ⟨12, some 28, some (24, true), .p (.idx 1), [.t 25, .t 27]⟩,
    ⟨13, some 29, some (24, true), .r (.load false 1) false, [.t 28]⟩,
    ⟨14, some 30, some (24, true), .p .mov, [.t 8]⟩,
    ⟨15, some 31, some (24, true), .p (.bin .geq), [.t 29, .t 30]⟩,
    ⟨16, some 32, some (21, false), .p .pick, [.t 24, .t 31, .c (.bool false)]⟩,
    ⟨17, some 33, none, .p .pick, [.t 21, .c (.bool true), .t 32]⟩])
   (.cond (.t 33) (.seq (.reg 0 [⟨0, some 6, none, .p .mov, [.c (.bool false)]⟩])
   (.ret))
   (.skip)))))
   (.reg 0 [⟨0, some 34, none, .p (.bin .add), [.t 11, .c (.int .i64 1)]⟩,
    ⟨1, some 11, none, .p .mov, [.t 34]⟩])))
def g337 : GL.Fn := ⟨.seq (.reg 0 [⟨0, some 6, none, .p .mov, [.c (.bool false)]⟩])
   (.seq (.seq (.reg 0 [⟨0, some 9, none, .p .mov, [.t 0]⟩,
    ⟨1, some 10, none, .p .len, [.t 9]⟩,
    ⟨2, some 11, none, .p .mov, [.c (.int .i64 0)]⟩])
   (.block 0 (.loop g337_0)))
   (.seq (.reg 0 [⟨0, some 6, none, .p .mov, [.c (.bool true)]⟩])
   (.ret))),
  [.tmp 6]⟩
/- loop.example/g00641/spec.l1All -/
def g94_0 : GL.Code := .seq (.reg 0 [⟨0, some 12, none, .p (.bin .lss), [.t 11, .t 10]⟩])
   (.seq (.cond (.t 12) (.skip)
   (.exit 0))
   (.seq (.block 1 (.seq (.reg 0 [⟨0, some 13, none, .p (.idx 1), [.t 9, .t 11]⟩,
    ⟨1, some 14, none, .r (.load false 1) false, [.t 13]⟩,
    ⟨2, some 8, none, .p .mov, [.t 14]⟩])
   (.seq (.reg 0 [⟨0, some 15, none, .p .mov, [.t 8]⟩,
    ⟨1, some 16, none, .p .mov, [.t 1]⟩,
    ⟨2, some 17, none, .p .mov, [.t 2]⟩,
    ⟨3, some 18, none, .e .call [] [], [.f 98, .t 15, .t 16, .t 17]⟩,
    ⟨4, some 19, none, .p (.un .not), [.t 18]⟩])
   (.cond (.t 19) (.seq (.reg 0 [⟨0, some 6, none, .p .mov, [.c (.bool false)]⟩])
   (.ret))
   (.skip)))))
   (.reg 0 [⟨0, some 20, none, .p (.bin .add), [.t 11, .c (.int .i64 1)]⟩,
    ⟨1, some 11, none, .p .mov, [.t 20]⟩])))
def g94 : GL.Fn := ⟨.seq (.reg 0 [⟨0, some 6, none, .p .mov, [.c (.bool false)]⟩])
   (.seq (.seq (.reg 0 [⟨0, some 9, none, .p .mov, [.t 0]⟩,
    ⟨1, some 10, none, .p .len, [.t 9]⟩,
    ⟨2, some 11, none, .p .mov, [.c (.int .i64 0)]⟩])
   (.block 0 (.loop g94_0)))
   (.seq (.reg 0 [⟨0, some 6, none, .p .mov, [.c (.bool true)]⟩])
   (.ret))),
  [.tmp 6]⟩
/- loop.example/g00641/spec.l3Less -/
def g678_0 : GL.Code := .seq (.reg 0 [⟨0, some 9, none, .p (.bin .lss), [.t 8, .t 7]⟩])
   (.seq (.cond (.t 9) (.skip)
   (.exit 0))
   (.seq (.block 1 (.seq (.reg 0 [⟨0, some 10, none, .p .mov, [.t 8]⟩,
    ⟨1, some 5, none, .p .mov, [.t 10]⟩])
   (.seq (.reg 0 [⟨0, some 11, none, .p .mov, [.t 0]⟩,
    ⟨1, some 12, none, .p .mov, [.t 5]⟩,
    ⟨2, some 13, none, .p (.idx 1), [.t 11, .t 12]⟩,
    ⟨3, some 14, none, .r (.load false 1) false, [.t 13]⟩,
    ⟨4, some 15, none, .p .mov, [.t 1]⟩,
    ⟨5, some 16, none, .p .mov, [.t 5]⟩,
    ⟨6, some 17, none, .p (.idx 1), [.t 15, .t 16]⟩,
    ⟨7, some 18, none, .r (.load false 1) false, [.t 17]⟩,
    ⟨8, some 19, none, .p (.bin .neq), [.t 14, .t 18]⟩])
   (.cond (.t 19) (.seq (.reg 0 [⟨0, some 20, none, .p .mov, [.t 0]⟩,
    ⟨1, some 21, none, .p .mov, [.t 5]⟩,
    ⟨2, some 22, none, .p (.idx 1), [.t 20, .t 21]⟩,
    ⟨3, some 23, none, .r (.load false 1) false, [.t 22]⟩,
    ⟨4, some 24, none, .p .mov, [.t 1]⟩,
    ⟨5, some 25, none, .p .mov, [.t 5]⟩,
    ⟨6, some 26, none, .p (.idx 1), [.t 24, .t 25]⟩,
    ⟨7, some 27, none, .r (.load false 1) false, [.t 26]⟩,
    ⟨8, some 28, none, .p (.bin .lss), [.t 23, .t 27]⟩,
    ⟨9, some 4, none, .p .mov, [.t 28]⟩])
   (.ret))
   (.skip)))))
   (.reg 0 [⟨0, some 29, none, .p (.bin .add), [.t 8, .c (.int .i64 1)]⟩,
    ⟨1, some 8, none, .p .mov, [.t 29]⟩])))
def g678 : GL.Fn := ⟨.seq (.reg 0 [⟨0, some 4, none, .p .mov, [.c (.bool false)]⟩])
   (.seq (.seq (.reg 0 [⟨0, some 6, none, .p .mov, [.t 0]⟩,
    ⟨1, some 7, none, .p .len, [.t 6]⟩,
    ⟨2, some 8, none, .p .mov, [.c (.int .i64 0)]⟩])
   (.block 0 (.loop g678_0)))
   (.seq (.reg 0 [⟨0, some 4, none, .p .mov, [.c (.bool false)]⟩])
   (.ret))),
  [.tmp 4]⟩
/- (*loop.example/g00641/spec.l1Cur).one -/
def g92 : GL.Fn := ⟨.seq (.reg 0 [⟨0, some 4, none, .p .mov, [.c (.bool false)]⟩])
   (.seq (.reg 0 [⟨0, some 5, none, .p .mov, [.t 0]⟩,
    ⟨1, some 6, none, .p .mov, [.t 1]⟩,
    ⟨2, some 7, none, .e .call [] [], [.f 91, .t 5, .t 6]⟩,
    ⟨3, some 8, none, .p (.bin .eql), [.t 7, .c (.int .i64 0)]⟩,
    ⟨4, some 4, none, .p .mov, [.t 8]⟩])
   (.ret)),
  [.tmp 4]⟩
/- loop.example/g00641/spec.l3Sub -/
def g663_0 : GL.Code := .seq (.reg 0 [⟨0, some 10, none, .p (.bin .lss), [.t 9, .t 8]⟩])
   (.seq (.cond (.t 10) (.skip)
   (.exit 0))
   (.seq (.block 1 (.seq (.reg 0 [⟨0, some 11, none, .p (.idx 1), [.t 7, .t 9]⟩,
    ⟨1, some 12, none, .r (.load false 1) false, [.t 11]⟩,
    ⟨2, some 6, none, .p .mov, [.t 12]⟩])
   (.seq (.reg 0 [⟨0, some 13, none, .p .mov, [.t 0]⟩,
    ⟨1, some 14, none, .p .mov, [.t 6]⟩,
    ⟨2, some 15, none, .e .call [] [], [.f 606, .t 13, .t 14]⟩,
    ⟨3, some 16, none, .p (.bin .lss), [.t 15, .c (.int .i64 0)]⟩])
   (.cond (.t 16) (.seq (.reg 0 [⟨0, some 4, none, .p .mov, [.c (.bool false)]⟩])
   (.ret))
   (.skip)))))
   (.reg 0 [⟨0, some 17, none, .p (.bin .add), [.t 9, .c (.int .i64 1)]⟩,
    ⟨1, some 9, none, .p .mov, [.t 17]⟩])))
def g663 : GL.Fn := ⟨.seq (.reg 0 [⟨0, some 4, none, .p .mov, [.c (.bool false)]⟩])
   (.seq (.seq (.reg 0 [⟨0, some 7, none, .p .mov, [.t 1]⟩,
    ⟨1, some 8, none, .p .len, [.t 7]⟩,
    ⟨2, some 9, none, .p .mov, [.c (.int .i64 0)]⟩])
   (.block 0 (.loop g663_0)))
   (.seq (.reg 0 [⟨0, some 18, none, .p .mov, [.t 1]⟩,
    ⟨1, some 19, none, .e .call [] [], [.f 337, .t 18, .c (.int .i64 0), .c (.int .i64 20)]⟩,
    ⟨2, some 4, none, .p .mov, [.t 19]⟩])
   (.ret))),
  [.tmp 4]⟩
/- slices.Contains[[]int,int] -/
def g301 : GL.Fn := ⟨.seq (.reg 0 [⟨0, some 4, none, .p .mov, [.c (.bool false)]⟩])
   (.seq (.reg 0 [⟨0, some 5, none, .p .mov, [.t 0]⟩,
    ⟨1, some 6, none, .p .mov, [.t 1]⟩,
    ⟨2, some 7, none, .e .call [] [], [.f 390, .t 5, .t 6]⟩,
    ⟨3, some 8, none, .p (.bin .geq), [.t 7, .c (.int .i64 0)]⟩,
    ⟨4, some 4, none, .p .mov, [.t 8]⟩])
   (.ret)),
  [.tmp 4]⟩
/- loop.example/g00641/impl.within -/
def g107 : GL.Fn := ⟨.seq (.reg 0 [⟨0, some 6, none, .p .mov, [.c (.bool false)]⟩])
   (.seq (.reg 0 [⟨0, some 7, none, .p .mov, [.t 0]⟩,
    ⟨1, some 8, none, .p .mov, [.t 1]⟩,
    ⟨2, some 9, none, .p (.bin .geq), [.t 7, .t 8]⟩,
    ⟨3, some 10, none, .p .mov, [.t 9]⟩,
    ⟨4, some 11, some (10, true), .p .mov, [.t 0]⟩,
    ⟨5, some 12, some (10, true), .p .mov, [.t 2]⟩,
    ⟨6, some 13, some (10, true), .p (.bin .leq), [.t 11, .t 12]⟩,
    ⟨7, some 14, none, .p .pick, [.t 10, .t 13, .c (.bool false)]⟩,
    ⟨8, some 6, none, .p .mov, [.t 14]⟩])
   (.ret)),
  [.tmp 6]⟩
/- slices.Clone[[]int,int] -/
def g389 : GL.Fn := ⟨.seq (.reg 0 [⟨0, some 2, none, .p .mov, [.c (.nils)]⟩])
   (.seq (.seq (.reg 0 [⟨0, some 3, none, .p .mov, [.t 0]⟩,
    ⟨1, some 4, none, .p (.isNil false), [.t 3]⟩])
   (.cond (.t 4) (.seq (.reg 0 [⟨0, some 2, none, .p .mov, [.c (.nils)]⟩])
   (.ret))
   (.skip)))
   (.seq (.reg 0 [⟨0, some 5, none, .e (.new (.lit 1)) [] [], []⟩,
    ⟨1, some 6, none, .p .mov, [.t 0]⟩,
    ⟨2, some 7, none, .e (.append 1 8) [] [], [.t 5, .t 6]⟩,
    ⟨3, some 2, none, .p .mov, [.t 7]⟩])
   (.ret))),
  [.tmp 2]⟩
/- (*loop.example/g00641/spec.l1Cur).cols -/
def g670 : GL.Fn := ⟨.seq (.reg 0 [⟨0, some 2, none, .p .mov, [.c (.int .i64 0)]⟩])
   (.seq (.reg 0 [⟨0, some 3, none, .p .mov, [.t 0]⟩,
    ⟨1, some 4, none, .e (.new (.lit 1)) [] [], [.c (.int .i64 0), .c (.int .i64 1), .c (.int .i64 3), .c (.int .i64 4), .c (.int .i64 4), .c (.int .i64 5), .c (.int .i64 6), .c (.int .i64 7)]⟩,
    ⟨2, some 5, none, .e .call [] [], [.f 93, .t 3, .t 4]⟩,
    ⟨3, some 2, none, .p .mov, [.t 5]⟩])
   (.ret)),
  [.tmp 2]⟩
/- (*loop.example/g00641/spec.l1Cur).deps -/
def g671_0 : GL.Code := .seq (.seq (.reg 0 [⟨0, some 14, none, .p .mov, [.t 6]⟩,
    ⟨1, some 15, none, .p (.bin .gtr), [.t 14, .c (.int .i64 0)]⟩])
   (.cond (.t 15) (.skip)
   (.exit 0)))
   (.seq (.block 1 (.reg 0 [⟨0, some 18, none, .p .mov, [.t 5]⟩,
    ⟨1, some 19, none, .p .mov, [.t 0]⟩,
    ⟨2, some 20, none, .p .mov, [.t 1]⟩,
    ⟨3, some 21, none, .e .call [] [], [.f 658, .t 19, .t 20]⟩,
    ⟨4, some 22, none, .p .mov, [.t 0]⟩,
    ⟨5, some 23, none, .p .mov, [.t 1]⟩,
    ⟨6, some 24, none, .e .call [] [], [.f 658, .t 22, .t 23]⟩,
    ⟨7, some 25, none, .p (.build [.nils, .nils] [(0, 1), (1, 1)]), [.t 21, .t 24]⟩,
    ⟨8, some 26, none, .e (.new (.lit 2)) [] [], [.t 25]⟩,
    ⟨9, some 27, none, .e (.append 2 48) [] [], [.t 18, .t 26]⟩,
    ⟨10, some 5, none, .p .mov, [.t 27]⟩]))
   (.reg 0 [⟨0, some 16, none, .p .mov, [.t 6]⟩,
    ⟨1, some 17, none, .p (.bin .sub), [.t 16, .c (.int .i64 1)]⟩,
    ⟨2, some 6, none, .p .mov, [.t 17]⟩]))
def g671 : GL.Fn := ⟨.seq (.reg 0 [⟨0, some 4, none, .p .mov, [.c (.nils)]⟩])
   (.seq (.reg 0 [⟨0, some 5, none, .p .mov, [.c (.nils)]⟩])
   (.seq (.reg 0 [⟨0, some 7, none, .p .mov, [.t 0]⟩,
    ⟨1, some 8, none, .e .call [] [], [.f 91, .t 7, .c (.int .i64 6)]⟩,
    ⟨2, some 6, none, .p .mov, [.t 8]⟩])
   (.seq (.seq (.reg 0 [⟨0, some 9, none, .p .mov, [.t 0]⟩,
    ⟨1, some 10, none, .e .call [] [], [.f 92, .t 9, .c (.int .i64 20)]⟩])
   (.cond (.t 10) (.reg 0 [⟨0, some 11, none, .p .mov, [.t 0]⟩,
    ⟨1, some 12, none, .e .call [] [], [.f 91, .t 11, .c (.int .i64 2)]⟩,
    ⟨2, some 13, none, .p (.bin .add), [.c (.int .i64 8), .t 12]⟩,
    ⟨3, some 6, none, .p .mov, [.t 13]⟩])
   (.skip)))
   (.seq (.block 0 (.loop g671_0))
   (.seq (.reg 0 [⟨0, some 28, none, .p .mov, [.t 5]⟩,
    ⟨1, some 4, none, .p .mov, [.t 28]⟩])
   (.ret)))))),
  [.tmp 4]⟩
/- (*loop.example/g00641/spec.l1Cur).someCols -/
def g658_0 : GL.Code := .seq (.seq (.reg 0 [⟨0, some 7, none, .p .mov, [.t 6]⟩,
    ⟨1, some 8, none, .p .mov, [.t 1]⟩,
    ⟨2, some 9, none, .p (.bin .lss), [.t 7, .t 8]⟩])
   (.cond (.t 9) (.skip)
   (.exit 0)))
   (.seq (.block 1 (.seq (.reg 0 [⟨0, some 12, none, .p .mov, [.t 0]⟩,
    ⟨1, some 13, none, .e .call [] [], [.f 92, .t 12, .c (.int .i64 3)]⟩])
   (.cond (.t 13) (.reg 0 [⟨0, some 14, none, .p .mov, [.t 5]⟩,
    ⟨1, some 15, none, .p .mov, [.t 6]⟩,
    ⟨2, some 16, none, .e (.new (.lit 1)) [] [], [.t 15]⟩,
    ⟨3, some 17, none, .e (.append 1 8) [] [], [.t 14, .t 16]⟩,
    ⟨4, some 5, none, .p .mov, [.t 17]⟩])
   (.skip))))
   (.reg 0 [⟨0, some 10, none, .p .mov, [.t 6]⟩,
    ⟨1, some 11, none, .p (.bin .add), [.t 10, .c (.int .i64 1)]⟩,
    ⟨2, some 6, none, .p .mov, [.t 11]⟩]))
def g658 : GL.Fn := ⟨.seq (.reg 0 [⟨0, some 4, none, .p .mov, [.c (.nils)]⟩])
   (.seq (.reg 0 [⟨0, some 5, none, .p .mov, [.c (.nils)]⟩])
   (.seq (.seq (.reg 0 [⟨0, some 6, none, .p .mov, [.c (.int .i64 0)]⟩])
   (.block 0 (.loop g658_0)))
   (.seq (.seq (.reg 0 [⟨0, some 18, none, .p .mov, [.t 0]⟩,
    ⟨1, some 19, none, .e .call [] [], [.f 92, .t 18, .c (.int .i64 40)]⟩])
   (.cond (.t 19) (.reg 0 [⟨0, some 20, none, .p .mov, [.t 5]⟩,
    ⟨1, some 21, none, .p .mov, [.t 1]⟩,
    ⟨2, some 22, none, .e (.new (.lit 1)) [] [], [.t 21]⟩,
    ⟨3, some 23, none, .e (.append 1 8) [] [], [.t 20, .t 22]⟩,
    ⟨4, some 5, none, .p .mov, [.t 23]⟩])
   (.skip)))
   (.seq (.reg 0 [⟨0, some 24, none, .p .mov, [.t 5]⟩,
    ⟨1, some 4, none, .p .mov, [.t 24]⟩])
   (.ret))))),
  [.tmp 4]⟩
/- loop.example/g00641/spec.l1Has -/
def g302_0 : GL.Code := .seq (.reg 0 [⟨0, some 10, none, .p (.bin .lss), [.t 9, .t 8]⟩])
   (.seq (.cond (.t 10) (.skip)
   (.exit 0))
   (.seq (.block 1 (.seq (.reg 0 [⟨0, some 11, none, .p (.idx 1), [.t 7, .t 9]⟩,
    ⟨1, some 12, none, .r (.load false 1) false, [.t 11]⟩,
    ⟨2, some 6, none, .p .mov, [.t 12]⟩])
   (.seq (.reg 0 [⟨0, some 13, none, .p .mov, [.t 6]⟩,
    ⟨1, some 14, none, .p .mov, [.t 1]⟩,
    ⟨2, some 15, none, .p (.bin .eql), [.t 13, .t 14]⟩])
   (.cond (.t 15) (.seq (.reg 0 [⟨0, some 4, none, .p .mov, [.c (.bool true)]⟩])
   (.ret))
   (.skip)))))
   (.reg 0 [⟨0, some 16, none, .p (.bin .add), [.t 9, .c (.int .i64 1)]⟩,
    ⟨1, some 9, none, .p .mov, [.t 16]⟩])))
def g302 : GL.Fn := ⟨.seq (.reg 0 [⟨0, some 4, none, .p .mov, [.c (.bool false)]⟩])
   (.seq (.seq (.reg 0 [⟨0, some 7, none, .p .mov, [.t 0]⟩,
    ⟨1, some 8, none, .p .len, [.t 7]⟩,
    ⟨2, some 9, none, .p .mov, [.c (.int .i64 0)]⟩])
   (.block 0 (.loop g302_0)))
   (.seq (.reg 0 [⟨0, some 4, none, .p .mov, [.c (.bool false)]⟩])
   (.ret))),
  [.tmp 4]⟩
/- loop.example/g00641/impl.GoodDeps -/
def g616 : GL.Fn := ⟨.seq (.reg 0 [⟨0, some 2, none, .e (.new (.box 1)) [] [], [.t 0]⟩,
    ⟨1, some 4, none, .p .mov, [.c (.bool false)]⟩])
   (.seq (.reg 0 [⟨0, some 5, none, .r (.load false 1) false, [.t 2]⟩,
    ⟨1, some 6, none, .e .call [] [], [.f 107, .t 5, .c (.int .i64 1), .c (.int .i64 6)]⟩,
    ⟨2, some 7, none, .p .mov, [.t 6]⟩,
    ⟨3, some 8, some (7, true), .p .mov, [.t 1]⟩,
    ⟨4, some 9, some (7, true), .p .len, [.t 8]⟩,
    ⟨5, some 10, some (7, true), .p (.bin .leq), [.t 9, .c (.int .i64 8)]⟩,
    ⟨6, some 11, none, .p .pick, [.t 7, .t 10, .c (.bool false)]⟩,
    ⟨7, some 12, none, .p .mov, [.t 11]⟩,
    ⟨8, some 13, some (12, true), .p .mov, [.t 1]⟩,
    ⟨9, some 14, some (12, true), .p (.mkFn 653), [.t 2]⟩,
    ⟨10, some 15, some (12, true), .e .call [] [], [.f 654, .t 13, .t 14]⟩,
    ⟨11, some 16, some (12, true), .p (.un .not), [.t 15]⟩,
    ⟨12, some 17, none, .p .pick, [.t 12, .t 16, .c (.bool false)]⟩,
    ⟨13, some 4, none, .p .mov, [.t 17]⟩])
   (.ret)),
  [.tmp 4]⟩
/- loop.example/g00641/impl.areColumns -/
def g655 : GL.Fn := ⟨.seq (.reg 0 [⟨0, some 4, none, .p .mov, [.c (.bool false)]⟩])
   (.seq (.reg 0 [⟨0, some 5, none, .p .mov, [.t 1]⟩,
    ⟨1, some 6, none, .p .mov, [.t 0]⟩,
    ⟨2, some 7, none, .p (.bin .sub), [.t 6, .c (.int .i64 1)]⟩,
    ⟨3, some 8, none, .e .call [] [], [.f 385, .t 5, .c (.int .i64 0), .t 7]⟩,
    ⟨4, some 4, none, .p .mov, [.t 8]⟩])
   (.ret)),
  [.tmp 4]⟩
/- loop.example/g00641/impl.closure -/
def g645_0 : GL.Code := .seq (.reg 0 [⟨0, some 15, none, .p (.bin .lss), [.t 14, .t 13]⟩])
   (.seq (.cond (.t 15) (.skip)
   (.exit 2))
   (.seq (.block 3 (.seq (.reg 0 [⟨0, some 16, none, .p (.idx 2), [.t 12, .t 14]⟩,
    ⟨1, some 17, none, .r (.load true 2) false, [.t 16]⟩,
    ⟨2, some 8, none, .l (.alloc 8 [.nils, .nils]), []⟩,
    ⟨3, none, none, .l (.store 8 2), [.t 8, .t 17]⟩])
   (.seq (.reg 0 [⟨0, some 18, none, .p .mov, [.t 5]⟩,
    ⟨1, some 19, none, .p (.faddr 0), [.t 8]⟩,
    ⟨2, some 20, none, .l (.load 8 false 1), [.t 19]⟩,
    ⟨3, some 21, none, .e .call [] [], [.f 552, .t 18, .t 20]⟩,
    ⟨4, some 22, none, .p .mov, [.t 21]⟩,
    ⟨5, some 23, some (22, true), .p .mov, [.t 5]⟩,
    ⟨6, some 24, some (22, true), .p (.faddr 1), [.t 8]⟩,
    ⟨7, some 25, some (22, true), .l (.load 8 false 1), [.t 24]⟩,
    ⟨8, some 26, some (22, true), .e .call [] [], [.f 552, .t 23, .t 25]⟩,
    ⟨9, some 27, some (22, true), .p (.un .not), [.t 26]⟩,
    ⟨10, some 28, none, .p .pick, [.t 22, .t 27, .c (.bool false)]⟩])
   (.cond (.t 28) (.reg 0 [⟨0, some 29, none, .p .mov, [.t 5]⟩,
    ⟨1, some 30, none, .p (.faddr 1), [.t 8]⟩,
    ⟨2, some 31, none, .l (.load 8 false 1), [.t 30]⟩,
    ⟨3, some 32, none, .e .call [] [], [.f 412, .t 29, .t 31]⟩,
    ⟨4, some 5, none, .p .mov, [.t 32]⟩,
    ⟨5, some 6, none, .p .mov, [.c (.bool true)]⟩])
   (.skip)))))
   (.reg 0 [⟨0, some 33, none, .p (.bin .add), [.t 14, .c (.int .i64 1)]⟩,
    ⟨1, some 14, none, .p .mov, [.t 33]⟩])))
def g645_1 : GL.Code := .seq (.seq (.reg 0 [⟨0, some 11, none, .p .mov, [.t 6]⟩])
   (.cond (.t 11) (.skip)
   (.exit 0)))
   (.block 1 (.seq (.reg 0 [⟨0, some 6, none, .p .mov, [.c (.bool false)]⟩])
   (.seq (.reg 0 [⟨0, some 12, none, .p .mov, [.t 0]⟩,
    ⟨1, some 13, none, .p .len, [.t 12]⟩,
    ⟨2, some 14, none, .p .mov, [.c (.int .i64 0)]⟩])
   (.block 2 (.loop g645_0)))))
def g645 : GL.Fn := ⟨.seq (.reg 0 [⟨0, some 4, none, .p .mov, [.c (.nils)]⟩])
   (.seq (.reg 0 [⟨0, some 9, none, .p .mov, [.t 1]⟩,
    ⟨1, some 10, none, .e .call [] [], [.f 389, .t 9]⟩,
    ⟨2, some 5, none, .p .mov, [.t 10]⟩])
   (.seq (.seq (.reg 0 [⟨0, some 6, none, .p .mov, [.c (.bool true)]⟩])
   (.block 0 (.loop g645_1)))
   (.seq (.reg 0 [⟨0, some 34, none, .p .mov, [.t 5]⟩,
    ⟨1, some 4, none, .p .mov, [.t 34]⟩])
   (.ret)))),
  [.tmp 4]⟩
/- loop.example/g00641/impl.hasAll -/
def g552 : GL.Fn := ⟨.seq (.reg 0 [⟨0, some 2, none, .e (.new (.box 1)) [] [], [.t 0]⟩,
    ⟨1, some 4, none, .p .mov, [.c (.bool false)]⟩])
   (.seq (.reg 0 [⟨0, some 5, none, .p .mov, [.t 1]⟩,
    ⟨1, some 6, none, .p (.mkFn 572), [.t 2]⟩,
    ⟨2, some 7, none, .e .call [] [], [.f 304, .t 5, .t 6]⟩,
    ⟨3, some 8, none, .p (.un .not), [.t 7]⟩,
    ⟨4, some 4, none, .p .mov, [.t 8]⟩])
   (.ret)),
  [.tmp 4]⟩
/- loop.example/g00641/spec.l6Part -/
def g669 : GL.Fn := ⟨.seq (.reg 0 [⟨0, some 6, none, .p .mov, [.c (.bool false)]⟩])
   (.seq (.reg 0 [⟨0, some 7, none, .p .mov, [.t 0]⟩,
    ⟨1, some 8, none, .p .mov, [.t 1]⟩,
    ⟨2, some 9, none, .e .call [] [], [.f 647, .t 7, .t 8]⟩,
    ⟨3, some 10, none, .p .mov, [.t 9]⟩,
    ⟨4, some 11, some (10, true), .p .mov, [.t 2]⟩,
    ⟨5, some 12, some (10, true), .p .mov, [.t 0]⟩,
    ⟨6, some 13, some (10, true), .p (.bin .sub), [.t 12, .c (.int .i64 1)]⟩,
    ⟨7, some 14, some (10, true), .e .call [] [], [.f 337, .t 11, .c (.int .i64 0), .t 13]⟩,
    ⟨8, some 15, none, .p .pick, [.t 10, .t 14, .c (.bool false)]⟩,
    ⟨9, some 6, none, .p .mov, [.t 15]⟩])
   (.ret)),
  [.tmp 6]⟩
/- loop.example/g00641/spec.l6Either -/
def g668_0 : GL.Code := .seq (.reg 0 [⟨0, some 14, none, .p (.bin .lss), [.t 13, .t 12]⟩])
   (.seq (.cond (.t 14) (.skip)
   (.exit 0))
   (.seq (.block 1 (.seq (.reg 0 [⟨0, some 15, none, .p (.idx 1), [.t 11, .t 13]⟩,
    ⟨1, some 16, none, .r (.load false 1) false, [.t 15]⟩,
    ⟨2, some 7, none, .p .mov, [.t 16]⟩])
   (.reg 0 [⟨0, some 17, none, .p .mov, [.t 5]⟩,
    ⟨1, some 18, none, .p .mov, [.t 7]⟩,
    ⟨2, some 19, none, .e .call [] [], [.f 410, .t 17, .t 18]⟩,
    ⟨3, some 5, none, .p .mov, [.t 19]⟩])))
   (.reg 0 [⟨0, some 20, none, .p (.bin .add), [.t 13, .c (.int .i64 1)]⟩,
    ⟨1, some 13, none, .p .mov, [.t 20]⟩])))
def g668 : GL.Fn := ⟨.seq (.reg 0 [⟨0, some 4, none, .p .mov, [.c (.nils)]⟩])
   (.seq (.reg 0 [⟨0, some 8, none, .e (.new (.lit 1)) [] [], []⟩,
    ⟨1, some 9, none, .p .mov, [.t 0]⟩,
    ⟨2, some 10, none, .e (.append 1 8) [] [], [.t 8, .t 9]⟩,
    ⟨3, some 5, none, .p .mov, [.t 10]⟩])
   (.seq (.seq (.reg 0 [⟨0, some 11, none, .p .mov, [.t 1]⟩,
    ⟨1, some 12, none, .p .len, [.t 11]⟩,
    ⟨2, some 13, none, .p .mov, [.c (.int .i64 0)]⟩])
   (.block 0 (.loop g668_0)))
   (.seq (.reg 0 [⟨0, some 21, none, .p .mov, [.t 5]⟩,
    ⟨1, some 4, none, .p .mov, [.t 21]⟩])
   (.ret)))),
  [.tmp 4]⟩
/- loop.example/g00641/spec.l5Closure -/
def g649_0 : GL.Code := .seq (.reg 0 [⟨0, some 36, none, .p (.bin .lss), [.t 35, .t 34]⟩])
   (.seq (.cond (.t 36) (.skip)
   (.exit 4))
   (.seq (.block 5 (.seq (.reg 0 [⟨0, some 37, none, .p (.idx 1), [.t 33, .t 35]⟩,
    ⟨1, some 38, none, .r (.load false 1) false, [.t 37]⟩,
    ⟨2, some 10, none, .p .mov, [.t 38]⟩])
   (.reg 0 [⟨0, some 39, none, .p .mov, [.t 5]⟩,
    ⟨1, some 40, none, .p .mov, [.t 10]⟩,
    ⟨2, some 41, none, .e .call [] [], [.f 410, .t 39, .t 40]⟩,
    ⟨3, some 5, none, .p .mov, [.t 41]⟩])))
   (.reg 0 [⟨0, some 42, none, .p (.bin .add), [.t 35, .c (.int .i64 1)]⟩,
    ⟨1, some 35, none, .p .mov, [.t 42]⟩])))
def g649_1 : GL.Code := .seq (.reg 0 [⟨0, some 18, none, .p (.bin .lss), [.t 17, .t 16]⟩])
   (.seq (.cond (.t 18) (.skip)
   (.exit 2))
   (.seq (.block 3 (.seq (.reg 0 [⟨0, some 19, none, .p (.idx 2), [.t 15, .t 17]⟩,
    ⟨1, some 20, none, .r (.load true 2) false, [.t 19]⟩,
    ⟨2, some 8, none, .l (.alloc 8 [.nils, .nils]), []⟩,
    ⟨3, none, none, .l (.store 8 2), [.t 8, .t 20]⟩])
   (.seq (.reg 0 [⟨0, some 21, none, .p (.faddr 0), [.t 8]⟩,
    ⟨1, some 22, none, .l (.load 8 false 1), [.t 21]⟩,
    ⟨2, some 23, none, .p .mov, [.t 5]⟩,
    ⟨3, some 24, none, .e .call [] [], [.f 554, .t 22, .t 23]⟩,
    ⟨4, some 25, none, .p .mov, [.t 24]⟩,
    ⟨5, some 26, some (25, true), .p (.faddr 1), [.t 8]⟩,
    ⟨6, some 27, some (25, true), .l (.load 8 false 1), [.t 26]⟩,
    ⟨7, some 28, some (25, true), .p .mov, [.t 5]⟩,
    ⟨8, some 29, some (25, true), .e .call [] [], [.f 554, .t 27, .t 28]⟩,
    ⟨9, some 30, some (25, true), .p (.un .not), [.t 29]⟩,
    ⟨10, some 31, none, .p .pick, [.t 25, .t 30, .c (.bool false)]⟩])
   (.cond (.t 31) (.seq (.reg 0 [⟨0, some 6, none, .p .mov, [.c (.bool true)]⟩])
   (.seq (.reg 0 [⟨0, some 32, none, .p (.faddr 1), [.t 8]⟩,
    ⟨1, some 33, none, .l (.load 8 false 1), [.t 32]⟩,
    ⟨2, some 34, none, .p .len, [.t 33]⟩,
    ⟨3, some 35, none, .p .mov, [.c (.int .i64 0)]⟩])
   (.block 4 (.loop g649_0))))
   (.skip)))))
   (.reg 0 [⟨0, some 43, none, .p (.bin .add), [.t 17, .c (.int .i64 1)]⟩,
    ⟨1, some 17, none, .p .mov, [.t 43]⟩])))
def g649_2 : GL.Code := .seq (.seq (.reg 0 [⟨0, some 14, none, .p .mov, [.t 6]⟩])
   (.cond (.t 14) (.skip)
   (.exit 0)))
   (.block 1 (.seq (.reg 0 [⟨0, some 6, none, .p .mov, [.c (.bool false)]⟩])
   (.seq (.reg 0 [⟨0, some 15, none, .p .mov, [.t 0]⟩,
    ⟨1, some 16, none, .p .len, [.t 15]⟩,
    ⟨2, some 17, none, .p .mov, [.c (.int .i64 0)]⟩])
   (.block 2 (.loop g649_1)))))
def g649 : GL.Fn := ⟨.seq (.reg 0 [⟨0, some 4, none, .p .mov, [.c (.nils)]⟩])
   (.seq (.reg 0 [⟨0, some 11, none, .e (.new (.lit 1)) [] [], []⟩,
    ⟨1, some 12, none, .p .mov, [.t 1]⟩,
    ⟨2, some 13, none, .e (.append 1 8) [] [], [.t 11, .t 12]⟩,
    ⟨3, some 5, none, .p .mov, [.t 13]⟩])
   (.seq (.seq (.reg 0 [⟨0, some 6, none, .p .mov, [.c (.bool true)]⟩])
   (.block 0 (.loop g649_2)))
   (.seq (.reg 0 [⟨0, some 44, none, .p .mov, [.t 5]⟩,
    ⟨1, some 4, none, .p .mov, [.t 44]⟩])
   (.ret)))),
  [.tmp 4]⟩
/- loop.example/g00641/spec.l6Both -/
def g338_0 : GL.Code := .seq (.reg 0 [⟨0, some 11, none, .p (.bin .lss), [.t 10, .t 9]⟩])
   (.seq (.cond (.t 11) (.skip)
   (.exit 0))
   (.seq (.block 1 (.seq (.reg 0 [⟨0, some 12, none, .p (.idx 1), [.t 8, .t 10]⟩,
    ⟨1, some 13, none, .r (.load false 1) false, [.t 12]⟩,
    ⟨2, some 7, none, .p .mov, [.t 13]⟩])
   (.seq (.reg 0 [⟨0, some 14, none, .p .mov, [.t 1]⟩,
    ⟨1, some 15, none, .p .mov, [.t 7]⟩,
    ⟨2, some 16, none, .e .call [] [], [.f 302, .t 14, .t 15]⟩])
   (.cond (.t 16) (.reg 0 [⟨0, some 17, none, .p .mov, [.t 5]⟩,
    ⟨1, some 18, none, .p .mov, [.t 7]⟩,
    ⟨2, some 19, none, .e (.new (.lit 1)) [] [], [.t 18]⟩,
    ⟨3, some 20, none, .e (.append 1 8) [] [], [.t 17, .t 19]⟩,
    ⟨4, some 5, none, .p .mov, [.t 20]⟩])
   (.skip)))))
   (.reg 0 [⟨0, some 21, none, .p (.bin .add), [.t 10, .c (.int .i64 1)]⟩,
    ⟨1, some 10, none, .p .mov, [.t 21]⟩])))
def g338 : GL.Fn := ⟨.seq (.reg 0 [⟨0, some 4, none, .p .mov, [.c (.nils)]⟩])
   (.seq (.reg 0 [⟨0, some 5, none, .p .mov, [.c (.nils)]⟩])
   (.seq (.seq (.reg 0 [⟨0, some 8, none, .p .mov, [.t 0]⟩,
    ⟨1, some 9, none, .p .len, [.t 8]⟩,
    ⟨2, some 10, none, .p .mov, [.c (.int .i64 0)]⟩])
   (.block 0 (.loop g338_0)))
   (.seq (.reg 0 [⟨0, some 22, none, .p .mov, [.t 5]⟩,
    ⟨1, some 4, none, .p .mov, [.t 22]⟩])
   (.ret)))),
  [.tmp 4]⟩
/- loop.example/g00641/spec.l5Sub -/
def g554_0 : GL.Code := .seq (.reg 0 [⟨0, some 10, none, .p (.bin .lss), [.t 9, .t 8]⟩])
   (.seq (.cond (.t 10) (.skip)
   (.exit 0))
   (.seq (.block 1 (.seq (.reg 0 [⟨0, some 11, none, .p (.idx 1), [.t 7, .t 9]⟩,
    ⟨1, some 12, none, .r (.load false 1) false, [.t 11]⟩,
    ⟨2, some 6, none, .p .mov, [.t 12]⟩])
   (.seq (.reg 0 [⟨0, some 13, none, .p .mov, [.t 1]⟩,
    ⟨1, some 14, none, .p .mov, [.t 6]⟩,
    ⟨2, some 15, none, .e .call [] [], [.f 302, .t 13, .t 14]⟩,
    ⟨3, some 16, none, .p (.un .not), [.t 15]⟩])
   (.cond (.t 16) (.seq (.reg 0 [⟨0, some 4, none, .p .mov, [.c (.bool false)]⟩])
   (.ret))
   (.skip)))))
   (.reg 0 [⟨0, some 17, none, .p (.bin .add), [.t 9, .c (.int .i64 1)]⟩,
    ⟨1, some 9, none, .p .mov, [.t 17]⟩])))
def g554 : GL.Fn := ⟨.seq (.reg 0 [⟨0, some 4, none, .p .mov, [.c (.bool false)]⟩])
   (.seq (.seq (.reg 0 [⟨0, some 7, none, .p .mov, [.t 0]⟩,
    ⟨1, some 8, none, .p .len, [.t 7]⟩,
    ⟨2, some 9, none, .p .mov, [.c (.int .i64 0)]⟩])
   (.block 0 (.loop g554_0)))
   (.seq (.reg 0 [⟨0, some 4, none, .p .mov, [.c (.bool true)]⟩])
   (.ret))),
  [.tmp 4]⟩
/- slices.ContainsFunc[[]loop.example/g00641/impl.Relation,loop.example/g00641/impl.Relation] -/
def g786 : GL.Fn := ⟨.seq (.reg 0 [⟨0, some 4, none, .p .mov, [.c (.bool false)]⟩])
   (.seq (.reg 0 [⟨0, some 5, none, .p .mov, [.t 0]⟩,
    ⟨1, some 6, none, .p .mov, [.t 1]⟩,
    ⟨2, some 7, none, .e .call [] [], [.f 790, .t 5, .t 6]⟩,
    ⟨3, some 8, none, .p (.bin .geq), [.t 7, .c (.int .i64 0)]⟩,
    ⟨4, some 4, none, .p .mov, [.t 8]⟩])
   (.ret)),
  [.tmp 4]⟩
/- loop.example/g00641/impl.PutTogether$1 -/
def g787 : GL.Fn := ⟨.seq (.reg 0 [⟨0, some 1, none, .l (.box 1 2), [.t 0]⟩,
    ⟨1, some 2, none, .p .mov, [.c (.bool false)]⟩])
   (.seq (.reg 0 [⟨0, some 3, none, .l (.load 1 true 2), [.t 1]⟩,
    ⟨1, some 4, none, .e .call [] [], [.f 659, .t 3]⟩,
    ⟨2, some 5, none, .p (.un .not), [.t 4]⟩,
    ⟨3, some 2, none, .p .mov, [.t 5]⟩])
   (.ret)),
  [.tmp 2]⟩
/- slices.DeleteFunc[[]int,int] -/
def g397_0 : GL.Code := .seq (.seq (.reg 0 [⟨0, some 16, none, .p .mov, [.t 6]⟩,
    ⟨1, some 17, none, .p .mov, [.t 0]⟩,
    ⟨2, some 18, none, .p .len, [.t 17]⟩,
    ⟨3, some 19, none, .p (.bin .lss), [.t 16, .t 18]⟩])
   (.cond (.t 19) (.skip)
   (.exit 0)))
   (.seq (.block 1 (.seq (.reg 0 [⟨0, some 22, none, .p .mov, [.t 0]⟩,
    ⟨1, some 23, none, .p .mov, [.t 6]⟩,
    ⟨2, some 24, none, .p (.idx 1), [.t 22, .t 23]⟩,
    ⟨3, some 25, none, .r (.load false 1) false, [.t 24]⟩,
    ⟨4, some 7, none, .p .mov, [.t 25]⟩])
   (.seq (.reg 0 [⟨0, some 26, none, .p .mov, [.t 1]⟩,
    ⟨1, some 27, none, .p .mov, [.t 7]⟩,
    ⟨2, some 28, none, .e .call [] [], [.t 26, .t 27]⟩,
    ⟨3, some 29, none, .p (.un .not), [.t 28]⟩])
   (.cond (.t 29) (.seq (.reg 0 [⟨0, some 30, none, .p .mov, [.t 0]⟩,
    ⟨1, some 31, none, .p .mov, [.t 5]⟩,
    ⟨2, some 32, none, .p .mov, [.t 7]⟩,
    ⟨3, some 33, none, .p (.idx 1), [.t 30, .t 31]⟩,
    ⟨4, none, none, .e (.store 1) [] [], [.t 33, .t 32]⟩])
   (.reg 0 [⟨0, some 34, none, .p .mov, [.t 5]⟩,
    ⟨1, some 35, none, .p (.bin .add), [.t 34, .c (.int .i64 1)]⟩,
    ⟨2, some 5, none, .p .mov, [.t 35]⟩]))
   (.skip)))))
   (.reg 0 [⟨0, some 20, none, .p .mov, [.t 6]⟩,
    ⟨1, some 21, none, .p (.bin .add), [.t 20, .c (.int .i64 1)]⟩,
    ⟨2, some 6, none, .p .mov, [.t 21]⟩]))
def g397 : GL.Fn := ⟨.seq (.reg 0 [⟨0, some 4, none, .p .mov, [.c (.nils)]⟩])
   (.seq (.reg 0 [⟨0, some 8, none, .p .mov, [.t 0]⟩,
    ⟨1, some 9, none, .p .mov, [.t 1]⟩,
    ⟨2, some 10, none, .e .call [] [], [.f 391, .t 8, .t 9]⟩,
    ⟨3, some 5, none, .p .mov, [.t 10]⟩])
   (.seq (.seq (.reg 0 [⟨0, some 11, none, .p .mov, [.t 5]⟩,
    ⟨1, some 12, none, .p (.bin .eql), [.t 11, .c (.int .i64 (-1))]⟩])
   (.cond (.t 12) (.seq (.reg 0 [⟨0, some 13, none, .p .mov, [.t 0]⟩,
    ⟨1, some 4, none, .p .mov, [.t 13]⟩])
   (.ret))
   (.skip)))
   (.seq (.seq (.reg 0 [⟨0, some 14, none, .p .mov, [.t 5]⟩,
    ⟨1, some 15, none, .p (.bin .add), [.t 14, .c (.int .i64 1)]⟩,
    ⟨2, some 6, none, .p .mov, [.t 15]⟩])
   (.block 0 (.loop g397_0)))
   (.seq (.reg 0 [⟨0, some 36, none, .p .mov, [.t 0]⟩,
    ⟨1, some 37, none, .p .mov, [.t 5]⟩,
    ⟨2, some 38, none, .p (.slice 1 true false false), [.t 36, .t 37]⟩,
    ⟨3, none, none, .e (.clear 1 [.int .i64 0]) [] [], [.t 38]⟩])
   (.seq (.reg 0 [⟨0, some 39, none, .p .mov, [.t 0]⟩,
    ⟨1, some 40, none, .p .mov, [.t 5]⟩,
    ⟨2, some 41, none, .p (.slice 1 false true false), [.t 39, .t 40]⟩,
    ⟨3, some 4, none, .p .mov, [.t 41]⟩])
   (.ret)))))),
  [.tmp 4]⟩
/- loop.example/g00641/impl.both$1 -/
def g396 : GL.Fn := ⟨.seq (.reg 0 [⟨0, some 3, none, .p .mov, [.c (.bool false)]⟩])
   (.seq (.reg 0 [⟨0, some 4, none, .r (.load false 1) false, [.t 1]⟩,
    ⟨1, some 5, none, .p .mov, [.t 0]⟩,
    ⟨2, some 6, none, .e .call [] [], [.f 301, .t 4, .t 5]⟩,
    ⟨3, some 7, none, .p (.un .not), [.t 6]⟩,
    ⟨4, some 3, none, .p .mov, [.t 7]⟩])
   (.ret)),
  [.tmp 3]⟩
/- slices.Concat[[]int,int] -/
def g429_0 : GL.Code := .seq (.reg 0 [⟨0, some 12, none, .p (.bin .lss), [.t 11, .t 10]⟩])
   (.seq (.cond (.t 12) (.skip)
   (.exit 0))
   (.seq (.block 1 (.seq (.reg 0 [⟨0, some 13, none, .p (.idx 1), [.t 9, .t 11]⟩,
    ⟨1, some 14, none, .r (.load false 1) false, [.t 13]⟩,
    ⟨2, some 5, none, .p .mov, [.t 14]⟩])
   (.seq (.reg 0 [⟨0, some 15, none, .p .mov, [.t 3]⟩,
    ⟨1, some 16, none, .p .mov, [.t 5]⟩,
    ⟨2, some 17, none, .p .len, [.t 16]⟩,
    ⟨3, some 18, none, .p (.bin .add), [.t 15, .t 17]⟩,
    ⟨4, some 3, none, .p .mov, [.t 18]⟩])
   (.seq (.reg 0 [⟨0, some 19, none, .p .mov, [.t 3]⟩,
    ⟨1, some 20, none, .p (.bin .lss), [.t 19, .c (.int .i64 0)]⟩])
   (.cond (.t 20) (.reg 0 [⟨0, some 21, none, .p .bad, []⟩,
    ⟨1, none, none, .p .bad, []⟩])
   (.skip))))))
   (.reg 0 [⟨0, some 22, none, .p (.bin .add), [.t 11, .c (.int .i64 1)]⟩,
    ⟨1, some 11, none, .p .mov, [.t 22]⟩])))
def g429_1 : GL.Code := .seq (.reg 0 [⟨0, some 28, none, .p (.bin .lss), [.t 27, .t 26]⟩])
   (.seq (.cond (.t 28) (.skip)
   (.exit 2))
   (.seq (.block 3 (.seq (.reg 0 [⟨0, some 29, none, .p (.idx 1), [.t 25, .t 27]⟩,
    ⟨1, some 30, none, .r (.load false 1) false, [.t 29]⟩,
    ⟨2, some 8, none, .p .mov, [.t 30]⟩])
   (.reg 0 [⟨0, some 31, none, .p .mov, [.t 6]⟩,
    ⟨1, some 32, none, .p .mov, [.t 8]⟩,
    ⟨2, some 33, none, .e (.append 1 8) [] [], [.t 31, .t 32]⟩,
    ⟨3, some 6, none, .p .mov, [.t 33]⟩])))
   (.reg 0 [⟨0, some 34, none, .p (.bin .add), [.t 27, .c (.int .i64 1)]⟩,
    ⟨1, some 27, none, .p .mov, [.t 34]⟩])))
def g429 : GL.Fn := ⟨.seq (.reg 0 [⟨0, some 2, none, .p .mov, [.c (.nils)]⟩])
   (.seq (.reg 0 [⟨0, some 3, none, .p .mov, [.c (.int .i64 0)]⟩])
   (.seq (.seq (.reg 0 [⟨0, some 9, none, .p .mov, [.t 0]⟩,
    ⟨1, some 10, none, .p .len, [.t 9]⟩,
    ⟨2, some 11, none, .p .mov, [.c (.int .i64 0)]⟩])
   (.block 0 (.loop g429_0)))
   (.seq (.reg 0 [⟨0, some 23, none, .p .mov, [.t 3]⟩,
    ⟨1, some 24, none, .e .call [] [], [.f 436, .c (.nils), .t 23]⟩,
    ⟨2, some 6, none, .p .mov, [.t 24]⟩])
   (.seq (.seq (.reg 0 [⟨0, some 25, none, .p .mov, [.t 0]⟩,
    ⟨1, some 26, none, .p .len, [.t 25]⟩,
    ⟨2, some 27, none, .p .mov, [.c (.int .i64 0)]⟩])
   (.block 2 (.loop g429_1)))
   (.seq (.reg 0 [⟨0, some 35, none, .p .mov, [.t 6]⟩,
    ⟨1, some 2, none, .p .mov, [.t 35]⟩])
   (.ret)))))),
  [.tmp 2]⟩
/- slices.Compact[[]int,int] -/
def g430_0 : GL.Code := .seq (.seq (.reg 0 [⟨0, some 29, none, .p .mov, [.t 5]⟩,
    ⟨1, some 30, none, .p .mov, [.t 4]⟩,
    ⟨2, some 31, none, .p .len, [.t 30]⟩,
    ⟨3, some 32, none, .p (.bin .lss), [.t 29, .t 31]⟩])
   (.cond (.t 32) (.skip)
   (.exit 2)))
   (.seq (.block 3 (.seq (.reg 0 [⟨0, some 35, none, .p .mov, [.t 4]⟩,
    ⟨1, some 36, none, .p .mov, [.t 5]⟩,
    ⟨2, some 37, none, .p (.idx 1), [.t 35, .t 36]⟩,
    ⟨3, some 38, none, .r (.load false 1) false, [.t 37]⟩,
    ⟨4, some 39, none, .p .mov, [.t 4]⟩,
    ⟨5, some 40, none, .p .mov, [.t 5]⟩,
    ⟨6, some 41, none, .p (.bin .sub), [.t 40, .c (.int .i64 1)]⟩,
    ⟨7, some 42, none, .p (.idx 1), [.t 39, .t 41]⟩,
    ⟨8, some 43, none, .r (.load false 1) false, [.t 42]⟩,
    ⟨9, some 44, none, .p (.bin .neq), [.t 38, .t 43]⟩])
   (.cond (.t 44) (.seq (.reg 0 [⟨0, some 45, none, .p .mov, [.t 0]⟩,
    ⟨1, some 46, none, .p .mov, [.t 3]⟩,
    ⟨2, some 47, none, .p .mov, [.t 4]⟩,
    ⟨3, some 48, none, .p .mov, [.t 5]⟩,
    ⟨4, some 49, none, .p (.idx 1), [.t 47, .t 48]⟩,
    ⟨5, some 50, none, .r (.load false 1) false, [.t 49]⟩,
    ⟨6, some 51, none, .p (.idx 1), [.t 45, .t 46]⟩,
    ⟨7, none, none, .e (.store 1) [] [], [.t 51, .t 50]⟩])
   (.reg 0 [⟨0, some 52, none, .p .mov, [.t 3]⟩,
    ⟨1, some 53, none, .p (.bin .add), [.t 52, .c (.int .i64 1)]⟩,
    ⟨2, some 3, none, .p .mov, [.t 53]⟩]))
   (.skip))))
   (.reg 0 [⟨0, some 33, none, .p .mov, [.t 5]⟩,
    ⟨1, some 34, none, .p (.bin .add), [.t 33, .c (.int .i64 1)]⟩,
    ⟨2, some 5, none, .p .mov, [.t 34]⟩]))
def g430_1 : GL.Code := .seq (.seq (.reg 0 [⟨0, some 10, none, .p .mov, [.t 3]⟩,
    ⟨1, some 11, none, .p .mov, [.t 0]⟩,
    ⟨2, some 12, none, .p .len, [.t 11]⟩,
    ⟨3, some 13, none, .p (.bin .lss), [.t 10, .t 12]⟩])
   (.cond (.t 13) (.skip)
   (.exit 0)))
   (.seq (.block 1 (.seq (.reg 0 [⟨0, some 16, none, .p .mov, [.t 0]⟩,
    ⟨1, some 17, none, .p .mov, [.t 3]⟩,
    ⟨2, some 18, none, .p (.idx 1), [.t 16, .t 17]⟩,
    ⟨3, some 19, none, .r (.load false 1) false, [.t 18]⟩,
    ⟨4, some 20, none, .p .mov, [.t 0]⟩,
    ⟨5, some 21, none, .p .mov, [.t 3]⟩,
    ⟨6, some 22, none, .p (.bin .sub), [.t 21, .c (.int .i64 1)]⟩,
    ⟨7, some 23, none, .p (.idx 1), [.t 20, .t 22]⟩,
    ⟨8, some 24, none, .r (.load false 1) false, [.t 23]⟩,
    ⟨9, some 25, none, .p (.bin .eql), [.t 19, .t 24]⟩])
   (.cond (.t 25) (.seq (.reg 0 [⟨0, some 26, none, .p .mov, [.t 0]⟩,
    ⟨1, some 27, none, .p .mov, [.t 3]⟩,
    ⟨2, some 28, none, .p (.slice 1 true false false), [.t 26, .t 27]⟩,
    ⟨3, some 4, none, .p .mov, [.t 28]⟩])
   (.seq (.seq (.reg 0 [⟨0, some 5, none, .p .mov, [.c (.int .i64 1)]⟩])
   (.block 2 (.loop g430_0)))
   (.seq (.reg 0 [⟨0, some 54, none, .p .mov, [.t 0]⟩,
    ⟨1, some 55, none, .p .mov, [.t 3]⟩,
    ⟨2, some 56, none, .p (.slice 1 true false false), [.t 54, .t 55]⟩,
    ⟨3, none, none, .e (.clear 1 [.int .i64 0]) [] [], [.t 56]⟩])
   (.seq (.reg 0 [⟨0, some 57, none, .p .mov, [.t 0]⟩,
    ⟨1, some 58, none, .p .mov, [.t 3]⟩,
    ⟨2, some 59, none, .p (.slice 1 false true false), [.t 57, .t 58]⟩,
    ⟨3, some 2, none, .p .mov, [.t 59]⟩])
   (.ret)))))
   (.skip))))
   (.reg 0 [⟨0, some 14, none, .p .mov, [.t 3]⟩,
    ⟨1, some 15, none, .p (.bin .add), [.t 14, .c (.int .i64 1)]⟩,
    ⟨2, some 3, none, .p .mov, [.t 15]⟩]))
def g430 : GL.Fn := ⟨.seq (.reg 0 [⟨0, some 2, none, .p .mov, [.c (.nils)]⟩])
   (.seq (.seq (.reg 0 [⟨0, some 6, none, .p .mov, [.t 0]⟩,
    ⟨1, some 7, none, .p .len, [.t 6]⟩,
    ⟨2, some 8, none, .p (.bin .lss), [.t 7, .c (.int .i64 2)]⟩])
   (.cond (.t 8) (.seq (.reg 0 [⟨0, some 9, none, .p .mov, [.t 0]⟩,
    ⟨1, some 2, none, .p .mov, [.t 9]⟩])
   (.ret))
   (.skip)))
   (.seq (.seq (.reg 0 [⟨0, some 3, none, .p .mov, [.c (.int .i64 1)]⟩])
   (.block 0 (.loop g430_1)))
   (.seq (.reg 0 [⟨0, some 60, none, .p .mov, [.t 0]⟩,
    ⟨1, some 2, none, .p .mov, [.t 60]⟩])
   (.ret)))),
  [.tmp 2]⟩
/- slices.CompactFunc[[][]int,[]int] -/
def g686_0 : GL.Code := .seq (.seq (.reg 0 [⟨0, some 32, none, .p .mov, [.t 7]⟩,
    ⟨1, some 33, none, .p .mov, [.t 6]⟩,
    ⟨2, some 34, none, .p .len, [.t 33]⟩,
    ⟨3, some 35, none, .p (.bin .lss), [.t 32, .t 34]⟩])
   (.cond (.t 35) (.skip)
   (.exit 2)))
   (.seq (.block 3 (.seq (.reg 0 [⟨0, some 38, none, .p .mov, [.t 1]⟩,
    ⟨1, some 39, none, .p .mov, [.t 6]⟩,
    ⟨2, some 40, none, .p .mov, [.t 7]⟩,
    ⟨3, some 41, none, .p (.idx 1), [.t 39, .t 40]⟩,
    ⟨4, some 42, none, .r (.load false 1) false, [.t 41]⟩,
    ⟨5, some 43, none, .p .mov, [.t 6]⟩,
    ⟨6, some 44, none, .p .mov, [.t 7]⟩,
    ⟨7, some 45, none, .p (.bin .sub), [.t 44, .c (.int .i64 1)]⟩,
    ⟨8, some 46, none, .p (.idx 1), [.t 43, .t 45]⟩,
    ⟨9, some 47, none, .r (.load false 1) false, [.t 46]⟩,
    ⟨10, some 48, none, .e .call [] [], [.t 38, .t 42, .t 47]⟩,
    ⟨11, some 49, none, .p (.un .not), [.t 48]⟩])
   (.cond (.t 49) (.seq (.reg 0 [⟨0, some 50, none, .p .mov, [.t 0]⟩,
    ⟨1, some 51, none, .p .mov, [.t 5]⟩,
    ⟨2, some 52, none, .p .mov, [.t 6]⟩,
    ⟨3, some 53, none, .p .mov, [.t 7]⟩,
    ⟨4, some 54, none, .p (.idx 1), [.t 52, .t 53]⟩,
    ⟨5, some 55, none, .r (.load false 1) false, [.t 54]⟩,
    ⟨6, some 56, none, .p (.idx 1), [.t 50, .t 51]⟩,
    ⟨7, none, none, .e (.store 1) [] [], [.t 56, .t 55]⟩])
   (.reg 0 [⟨0, some 57, none, .p .mov, [.t 5]⟩,
    ⟨1, some 58, none, .p (.bin .add), [.t 57, .c (.int .i64 1)]⟩,
    ⟨2, some 5, none, .p .mov, [.t 58]⟩]))
   (.skip))))
   (.reg 0 [⟨0, some 36, none, .p .mov, [.t 7]⟩,
    ⟨1, some 37, none, .p (.bin .add), [.t 36, .c (.int .i64 1)]⟩,
    ⟨2, some 7, none, .p .mov, [.t 37]⟩]))
def g686_1 : GL.Code := .seq (.seq (.reg 0 [⟨0, some 12, none, .p .mov, [.t 5]⟩,
    ⟨1, some 13, none, .p .mov, [.t 0]⟩,
    ⟨2, some 14, none, .p .len, [.t 13]⟩,
    ⟨3, some 15, none, .p (.bin .lss), [.t 12, .t 14]⟩])
   (.cond (.t 15) (.skip)
   (.exit 0)))
   (.seq (.block 1 (.seq (.reg 0 [⟨0, some 18, none, .p .mov, [.t 1]⟩,
    ⟨1, some 19, none, .p .mov, [.t 0]⟩,
    ⟨2, some 20, none, .p .mov, [.t 5]⟩,
    ⟨3, some 21, none, .p (.idx 1), [.t 19, .t 20]⟩,
    ⟨4, some 22, none, .r (.load false 1) false, [.t 21]⟩,
    ⟨5, some 23, none, .p .mov, [.t 0]⟩,
    ⟨6, some 24, none, .p .mov, [.t 5]⟩,
    ⟨7, some 25, none, .p (.bin .sub), [.t 24, .c (.int .i64 1)]⟩,
    ⟨8, some 26, none, .p (.idx 1), [.t 23, .t 25]⟩,
    ⟨9, some 27, none, .r (.load false 1) false, [.t 26]⟩,
    ⟨10, some 28, none, .e .call [] [], [.t 18, .t 22, .t 27]⟩])
   (.cond (.t 28) (.seq (.reg 0 [⟨0, some 29, none, .p .mov, [.t 0]⟩,
    ⟨1, some 30, none, .p .mov, [.t 5]⟩,
    ⟨2, some 31, none, .p (.slice 1 true false false), [.t 29, .t 30]⟩,
    ⟨3, some 6, none, .p .mov, [.t 31]⟩])
   (.seq (.seq (.reg 0 [⟨0, some 7, none, .p .mov, [.c (.int .i64 1)]⟩])
   (.block 2 (.loop g686_0)))
   (.seq (.reg 0 [⟨0, some 59, none, .p .mov, [.t 0]⟩,
    ⟨1, some 60, none, .p .mov, [.t 5]⟩,
    ⟨2, some 61, none, .p (.slice 1 true false false), [.t 59, .t 60]⟩,
    ⟨3, none, none, .e (.clear 1 [.nils]) [] [], [.t 61]⟩])
   (.seq (.reg 0 [⟨0, some 62, none, .p .mov, [.t 0]⟩,
    ⟨1, some 63, none, .p .mov, [.t 5]⟩,
    ⟨2, some 64, none, .p (.slice 1 false true false), [.t 62, .t 63]⟩,
    ⟨3, some 4, none, .p .mov, [.t 64]⟩])
   (.ret)))))
   (.skip))))
   (.reg 0 [⟨0, some 16, none, .p .mov, [.t 5]⟩,
    ⟨1, some 17, none, .p (.bin .add), [.t 16, .c (.int .i64 1)]⟩,
    ⟨2, some 5, none, .p .mov, [.t 17]⟩]))
def g686 : GL.Fn := ⟨.seq (.reg 0 [⟨0, some 4, none, .p .mov, [.c (.nils)]⟩])
   (.seq (.seq (.reg 0 [⟨0, some 8, none, .p .mov, [.t 0]⟩,
    ⟨1, some 9, none, .p .len, [.t 8]⟩,
    ⟨2, some 10, none, .p (.bin .lss), [.t 9, .c (.int .i64 2)]⟩])
   (.cond (.t 10) (.seq (.reg 0 [⟨0, some 11, none, .p .mov, [.t 0]⟩,
    ⟨1, some 4, none, .p .mov, [.t 11]⟩])
   (.ret))
   (.skip)))
   (.seq (.seq (.reg 0 [⟨0, some 5, none, .p .mov, [.c (.int .i64 1)]⟩])
   (.block 0 (.loop g686_1)))
   (.seq (.reg 0 [⟨0, some 65, none, .p .mov, [.t 0]⟩,
    ⟨1, some 4, none, .p .mov, [.t 65]⟩])
   (.ret)))),
  [.tmp 4]⟩
/- (*loop.example/g00641/spec.l1Cur).next -/
def g140 : GL.Fn := ⟨.seq (.reg 0 [⟨0, some 2, none, .p .mov, [.c (.int .i64 0)]⟩])
   (.seq (.reg 0 [⟨0, some 3, none, .p .mov, [.c (.int .i64 0)]⟩])
   (.seq (.seq (.reg 0 [⟨0, some 4, none, .p .mov, [.t 0]⟩,
    ⟨1, some 5, none, .p .nilCheck, [.t 4]⟩,
    ⟨2, some 6, none, .p (.faddr 1), [.t 5]⟩,
    ⟨3, some 7, none, .r (.load false 1) false, [.t 6]⟩,
    ⟨4, some 8, none, .p .mov, [.t 0]⟩,
    ⟨5, some 9, none, .p .nilCheck, [.t 8]⟩,
    ⟨6, some 10, none, .p (.faddr 0), [.t 9]⟩,
    ⟨7, some 11, none, .r (.load false 1) false, [.t 10]⟩,
    ⟨8, some 12, none, .p .len, [.t 11]⟩,
    ⟨9, some 13, none, .p (.bin .lss), [.t 7, .t 12]⟩])
   (.cond (.t 13) (.reg 0 [⟨0, some 14, none, .p .mov, [.t 0]⟩,
    ⟨1, some 15, none, .p .nilCheck, [.t 14]⟩,
    ⟨2, some 16, none, .p (.faddr 0), [.t 15]⟩,
    ⟨3, some 17, none, .r (.load false 1) false, [.t 16]⟩,
    ⟨4, some 18, none, .p .mov, [.t 0]⟩,
    ⟨5, some 19, none, .p .nilCheck, [.t 18]⟩,
    ⟨6, some 20, none, .p (.faddr 1), [.t 19]⟩,
    ⟨7, some 21, none, .r (.load false 1) false, [.t 20]⟩,
    ⟨8, some 22, none, .p (.idx 1), [.t 17, .t 21]⟩,
    ⟨9, some 23, none, .r (.load false 1) false, [.t 22]⟩,
    ⟨10, some 24, none, .p (.conv .i64), [.t 23]⟩,
    ⟨11, some 3, none, .p .mov, [.t 24]⟩])
   (.skip)))
   (.seq (.reg 0 [⟨0, some 25, none, .p .mov, [.t 0]⟩,
    ⟨1, some 26, none, .p .nilCheck, [.t 25]⟩,
    ⟨2, some 27, none, .p (.faddr 1), [.t 26]⟩,
    ⟨3, some 28, none, .r (.load false 1) false, [.t 27]⟩,
    ⟨4, some 29, none, .p (.bin .add), [.t 28, .c (.int .i64 1)]⟩,
    ⟨5, some 30, none, .p .nilCheck, [.t 25]⟩,
    ⟨6, some 31, none, .p (.faddr 1), [.t 30]⟩,
    ⟨7, none, none, .e (.store 1) [] [], [.t 31, .t 29]⟩])
   (.seq (.reg 0 [⟨0, some 32, none, .p .mov, [.t 0]⟩,
    ⟨1, some 33, none, .p .mov, [.t 0]⟩,
    ⟨2, some 34, none, .p .nilCheck, [.t 33]⟩,
    ⟨3, some 35, none, .p (.faddr 2), [.t 34]⟩,
    ⟨4, some 36, none, .r (.load false 1) false, [.t 35]⟩,
    ⟨5, some 37, none, .p (.bin .mul), [.t 36, .c (.int .u64 6364136223846793005)]⟩,
    ⟨6, some 38, none, .p .mov, [.t 3]⟩,
    ⟨7, some 39, none, .p (.conv .u64), [.t 38]⟩,
    ⟨8, some 40, none, .p (.bin .add), [.t 37, .t 39]⟩,
    ⟨9, some 41, none, .p (.bin .add), [.t 40, .c (.int .u64 1442695040888963407)]⟩,
    ⟨10, some 42, none, .p .nilCheck, [.t 32]⟩,
    ⟨11, some 43, none, .p (.faddr 2), [.t 42]⟩,
    ⟨12, none, none, .e (.store 1) [] [], [.t 43, .t 41]⟩])
   (.seq (.seq (.reg 0 [⟨0, some 44, none, .p .mov, [.t 0]⟩,
    ⟨1, some 45, none, .p .nilCheck, [.t 44]⟩,
    ⟨2, some 46, none, .p (.faddr 1), [.t 45]⟩,
    ⟨3, some 47, none, .r (.load false 1) false, [.t 46]⟩,
    ⟨4, some 48, none, .p .mov, [.t 0]⟩,
    ⟨5, some 49, none, .p .nilCheck, [.t 48]⟩,
    ⟨6, some 50, none, .p (.faddr 0), [.t 49]⟩,
    ⟨7, some 51, none, .r (.load false 1) false, [.t 50]⟩,
    ⟨8, some 52, none, .p .len, [.t 51]⟩,
    ⟨9, some 53, none, .p (.bin .leq), [.t 47, .t 52]⟩])
   (.cond (.t 53) (.seq (.reg 0 [⟨0, some 54, none, .p .mov, [.t 3]⟩,
    ⟨1, some 2, none, .p .mov, [.t 54]⟩])
   (.ret))
   (.skip)))
   (.seq (.reg 0 [⟨0, some 55, none, .p .mov, [.t 0]⟩,
    ⟨1, some 56, none, .p .nilCheck, [.t 55]⟩,
    ⟨2, some 57, none, .p (.faddr 2), [.t 56]⟩,
    ⟨3, some 58, none, .r (.load false 1) false, [.t 57]⟩,
    ⟨4, some 59, none, .p (.bin .shr), [.t 58, .c (.int .u64 40)]⟩,
    ⟨5, some 60, none, .p (.bin .and), [.t 59, .c (.int .u64 255)]⟩,
    ⟨6, some 61, none, .p (.conv .i64), [.t 60]⟩,
    ⟨7, some 2, none, .p .mov, [.t 61]⟩])
   (.ret))))))),
  [.tmp 2]⟩
/- slices.IndexFunc[[]int,int] -/
def g391_0 : GL.Code := .seq (.reg 0 [⟨0, some 9, none, .p (.bin .lss), [.t 8, .t 7]⟩])
   (.seq (.cond (.t 9) (.skip)
   (.exit 0))
   (.seq (.block 1 (.seq (.reg 0 [⟨0, some 10, none, .p .mov, [.t 8]⟩,
    ⟨1, some 5, none, .p .mov, [.t 10]⟩])
   (.seq (.reg 0 [⟨0, some 11, none, .p .mov, [.t 1]⟩,
    ⟨1, some 12, none, .p .mov, [.t 0]⟩,
    ⟨2, some 13, none, .p .mov, [.t 5]⟩,
    ⟨3, some 14, none, .p (.idx 1), [.t 12, .t 13]⟩,
    ⟨4, some 15, none, .r (.load false 1) false, [.t 14]⟩,
    ⟨5, some 16, none, .e .call [] [], [.t 11, .t 15]⟩])
   (.cond (.t 16) (.seq (.reg 0 [⟨0, some 17, none, .p .mov, [.t 5]⟩,
    ⟨1, some 4, none, .p .mov, [.t 17]⟩])
   (.ret))
   (.skip)))))
   (.reg 0 [⟨0, some 18, none, .p (.bin .add), [.t 8, .c (.int .i64 1)]⟩,
    ⟨1, some 8, none, .p .mov, [.t 18]⟩])))
def g391 : GL.Fn := ⟨.seq (.reg 0 [⟨0, some 4, none, .p .mov, [.c (.int .i64 0)]⟩])
   (.seq (.seq (.reg 0 [⟨0, some 6, none, .p .mov, [.t 0]⟩,
    ⟨1, some 7, none, .p .len, [.t 6]⟩,
    ⟨2, some 8, none, .p .mov, [.c (.int .i64 0)]⟩])
   (.block 0 (.loop g391_0)))
   (.seq (.reg 0 [⟨0, some 4, none, .p .mov, [.c (.int .i64 (-1))]⟩])
   (.ret))),
  [.tmp 4]⟩
/- cmp.Compare[int] -/
def g159 : GL.Fn := ⟨.seq (.reg 0 [⟨0, some 4, none, .p .mov, [.c (.int .i64 0)]⟩])
   (.seq (.reg 0 [⟨0, some 7, none, .p .mov, [.t 0]⟩,
    ⟨1, some 8, none, .e .call [] [], [.f 160, .t 7]⟩,
    ⟨2, some 5, none, .p .mov, [.t 8]⟩])
   (.seq (.reg 0 [⟨0, some 9, none, .p .mov, [.t 1]⟩,
    ⟨1, some 10, none, .e .call [] [], [.f 160, .t 9]⟩,
    ⟨2, some 6, none, .p .mov, [.t 10]⟩])
   (.seq (.seq (.reg 0 [⟨0, some 11, none, .p .mov, [.t 5]⟩])
   (.cond (.t 11) (.seq (.seq (.reg 0 [⟨0, some 12, none, .p .mov, [.t 6]⟩])
   (.cond (.t 12) (.seq (.reg 0 [⟨0, some 4, none, .p .mov, [.c (.int .i64 0)]⟩])
   (.ret))
   (.skip)))
   (.seq (.reg 0 [⟨0, some 4, none, .p .mov, [.c (.int .i64 (-1))]⟩])
   (.ret)))
   (.skip)))
   (.seq (.seq (.reg 0 [⟨0, some 13, none, .p .mov, [.t 6]⟩])
   (.cond (.t 13) (.seq (.reg 0 [⟨0, some 4, none, .p .mov, [.c (.int .i64 1)]⟩])
   (.ret))
   (.skip)))
   (.seq (.seq (.reg 0 [⟨0, some 14, none, .p .mov, [.t 0]⟩,
    ⟨1, some 15, none, .p .mov, [.t 1]⟩,
    ⟨2, some 16, none, .p (.bin .lss), [.t 14, .t 15]⟩])
   (.cond (.t 16) (.seq (.reg 0 [⟨0, some 4, none, .p .mov, [.c (.int .i64 (-1))]⟩])
   (.ret))
   (.skip)))
   (.seq (.seq (.reg 0 [⟨0, some 17, none, .p .mov, [.t 0]⟩,
    ⟨1, some 18, none, .p .mov, [.t 1]⟩,
    ⟨2, some 19, none, .p (.bin .gtr), [.t 17, .t 18]⟩])
   (.cond (.t 19) (.seq (.reg 0 [⟨0, some 4, none, .p .mov, [.c (.int .i64 1)]⟩])
   (.ret))
   (.skip)))
   (.seq (.reg 0 [⟨0, some 4, none, .p .mov, [.c (.int .i64 0)]⟩])
   (.ret)))))))),
  [.tmp 4]⟩
/- slices.ContainsFunc[[]loop.example/g00641/impl.Dep,loop.example/g00641/impl.Dep] -/
def g654 : GL.Fn := ⟨.seq (.reg 0 [⟨0, some 4, none, .p .mov, [.c (.bool false)]⟩])
   (.seq (.reg 0 [⟨0, some 5, none, .p .mov, [.t 0]⟩,
    ⟨1, some 6, none, .p .mov, [.t 1]⟩,
    ⟨2, some 7, none, .e .call [] [], [.f 675, .t 5, .t 6]⟩,
    ⟨3, some 8, none, .p (.bin .geq), [.t 7, .c (.int .i64 0)]⟩,
    ⟨4, some 4, none, .p .mov, [.t 8]⟩])
   (.ret)),
  [.tmp 4]⟩
/- loop.example/g00641/impl.GoodDeps$1 -/
def g653 : GL.Fn := ⟨.seq (.reg 0 [⟨0, some 2, none, .l (.box 2 2), [.t 0]⟩,
    ⟨1, some 3, none, .p .mov, [.c (.bool false)]⟩])
   (.seq (.reg 0 [⟨0, some 4, none, .r (.load false 1) false, [.t 1]⟩,
    ⟨1, some 5, none, .l (.load 2 true 2), [.t 2]⟩,
    ⟨2, some 6, none, .e .call [] [], [.f 656, .t 4, .t 5]⟩,
    ⟨3, some 7, none, .p (.un .not), [.t 6]⟩,
    ⟨4, some 3, none, .p .mov, [.t 7]⟩])
   (.ret)),
  [.tmp 3]⟩
/- loop.example/g00641/impl.isDep -/
def g656 : GL.Fn := ⟨.seq (.reg 0 [⟨0, some 3, none, .l (.box 3 2), [.t 1]⟩,
    ⟨1, some 4, none, .p .mov, [.c (.bool false)]⟩])
   (.seq (.reg 0 [⟨0, some 5, none, .p .mov, [.t 0]⟩,
    ⟨1, some 6, none, .p (.faddr 0), [.t 3]⟩,
    ⟨2, some 7, none, .l (.load 3 false 1), [.t 6]⟩,
    ⟨3, some 8, none, .e .call [] [], [.f 655, .t 5, .t 7]⟩,
    ⟨4, some 9, none, .p .mov, [.t 8]⟩,
    ⟨5, some 10, some (9, true), .p .mov, [.t 0]⟩,
    ⟨6, some 11, some (9, true), .p (.faddr 1), [.t 3]⟩,
    ⟨7, some 12, some (9, true), .l (.load 3 false 1), [.t 11]⟩,
    ⟨8, some 13, some (9, true), .e .call [] [], [.f 655, .t 10, .t 12]⟩,
    ⟨9, some 14, none, .p .pick, [.t 9, .t 13, .c (.bool false)]⟩,
    ⟨10, some 4, none, .p .mov, [.t 14]⟩])
   (.ret)),
  [.tmp 4]⟩
/- loop.example/g00641/impl.hasAll$1 -/
def g572 : GL.Fn := ⟨.seq (.reg 0 [⟨0, some 3, none, .p .mov, [.c (.bool false)]⟩])
   (.seq (.reg 0 [⟨0, some 4, none, .r (.load false 1) false, [.t 1]⟩,
    ⟨1, some 5, none, .p .mov, [.t 0]⟩,
    ⟨2, some 6, none, .e .call [] [], [.f 301, .t 4, .t 5]⟩,
    ⟨3, some 7, none, .p (.un .not), [.t 6]⟩,
    ⟨4, some 3, none, .p .mov, [.t 7]⟩])
   (.ret)),
  [.tmp 3]⟩
/- loop.example/g00641/spec.GoodDeps -/
def g647_0 : GL.Code := .seq (.reg 0 [⟨0, some 18, none, .p (.bin .lss), [.t 17, .t 16]⟩])
   (.seq (.cond (.t 18) (.skip)
   (.exit 0))
   (.seq (.block 1 (.seq (.reg 0 [⟨0, some 19, none, .p (.idx 2), [.t 15, .t 17]⟩,
    ⟨1, some 20, none, .r (.load true 2) false, [.t 19]⟩,
    ⟨2, some 6, none, .l (.alloc 6 [.nils, .nils]), []⟩,
    ⟨3, none, none, .l (.store 6 2), [.t 6, .t 20]⟩])
   (.seq (.reg 0 [⟨0, some 21, none, .p .mov, [.t 0]⟩,
    ⟨1, some 22, none, .l (.load 6 true 2), [.t 6]⟩,
    ⟨2, some 23, none, .e .call [] [], [.f 672, .t 21, .t 22]⟩,
    ⟨3, some 24, none, .p (.un .not), [.t 23]⟩])
   (.cond (.t 24) (.seq (.reg 0 [⟨0, some 4, none, .p .mov, [.c (.bool false)]⟩])
   (.ret))
   (.skip)))))
   (.reg 0 [⟨0, some 25, none, .p (.bin .add), [.t 17, .c (.int .i64 1)]⟩,
    ⟨1, some 17, none, .p .mov, [.t 25]⟩])))
def g647 : GL.Fn := ⟨.seq (.reg 0 [⟨0, some 4, none, .p .mov, [.c (.bool false)]⟩])
   (.seq (.seq (.reg 0 [⟨0, some 7, none, .p .mov, [.t 0]⟩,
    ⟨1, some 8, none, .e .call [] [], [.f 98, .t 7, .c (.int .i64 1), .c (.int .i64 6)]⟩,
    ⟨2, some 9, none, .p (.un .not), [.t 8]⟩,
    ⟨3, some 10, none, .p .mov, [.t 9]⟩,
    ⟨4, some 11, some (10, false), .p .mov, [.t 1]⟩,
    ⟨5, some 12, some (10, false), .p .len, [.t 11]⟩,
    ⟨6, some 13, some (10, false), .p (.bin .gtr), [.t 12, .c (.int .i64 8)]⟩,
    ⟨7, some 14, none, .p .pick, [.t 10, .c (.bool true), .t 13]⟩])
   (.cond (.t 14) (.seq (.reg 0 [⟨0, some 4, none, .p .mov, [.c (.bool false)]⟩])
   (.ret))
   (.skip)))
   (.seq (.seq (.reg 0 [⟨0, some 15, none, .p .mov, [.t 1]⟩,
    ⟨1, some 16, none, .p .len, [.t 15]⟩,
    ⟨2, some 17, none, .p .mov, [.c (.int .i64 0)]⟩])
   (.block 0 (.loop g647_0)))
   (.seq (.reg 0 [⟨0, some 4, none, .p .mov, [.c (.bool true)]⟩])
   (.ret)))),
  [.tmp 4]⟩
/- slices.IndexFunc[[]loop.example/g00641/impl.Relation,loop.example/g00641/impl.Relation] -/
def g790_0 : GL.Code := .seq (.reg 0 [⟨0, some 9, none, .p (.bin .lss), [.t 8, .t 7]⟩])
   (.seq (.cond (.t 9) (.skip)
   (.exit 0))
   (.seq (.block 1 (.seq (.reg 0 [⟨0, some 10, none, .p .mov, [.t 8]⟩,
    ⟨1, some 5, none, .p .mov, [.t 10]⟩])
   (.seq (.reg 0 [⟨0, some 11, none, .p .mov, [.t 1]⟩,
    ⟨1, some 12, none, .p .mov, [.t 0]⟩,
    ⟨2, some 13, none, .p .mov, [.t 5]⟩,
    ⟨3, some 14, none, .p (.idx 2), [.t 12, .t 13]⟩,
    ⟨4, some 15, none, .r (.load true 2) false, [.t 14]⟩,
    ⟨5, some 16, none, .e .call [] [], [.t 11, .t 15]⟩])
   (.cond (.t 16) (.seq (.reg 0 [⟨0, some 17, none, .p .mov, [.t 5]⟩,
    ⟨1, some 4, none, .p .mov, [.t 17]⟩])
   (.ret))
   (.skip)))))
   (.reg 0 [⟨0, some 18, none, .p (.bin .add), [.t 8, .c (.int .i64 1)]⟩,
    ⟨1, some 8, none, .p .mov, [.t 18]⟩])))
def g790 : GL.Fn := ⟨.seq (.reg 0 [⟨0, some 4, none, .p .mov, [.c (.int .i64 0)]⟩])
   (.seq (.seq (.reg 0 [⟨0, some 6, none, .p .mov, [.t 0]⟩,
    ⟨1, some 7, none, .p .len, [.t 6]⟩,
    ⟨2, some 8, none, .p .mov, [.c (.int .i64 0)]⟩])
   (.block 0 (.loop g790_0)))
   (.seq (.reg 0 [⟨0, some 4, none, .p .mov, [.c (.int .i64 (-1))]⟩])
   (.ret))),
  [.tmp 4]⟩
/- slices.Grow[[]int,int] -/
def g436 : GL.Fn := ⟨.seq (.reg 0 [⟨0, some 4, none, .p .mov, [.c (.nils)]⟩])
   (.seq (.seq (.reg 0 [⟨0, some 5, none, .p .mov, [.t 1]⟩,
    ⟨1, some 6, none, .p (.bin .lss), [.t 5, .c (.int .i64 0)]⟩])
   (.cond (.t 6) (.reg 0 [⟨0, some 7, none, .p .bad, []⟩,
    ⟨1, none, none, .p .bad, []⟩])
   (.skip)))
   (.seq (.seq (.reg 0 [⟨0, some 8, none, .p .mov, [.t 1]⟩,
    ⟨1, some 9, none, .p .mov, [.t 0]⟩,
    ⟨2, some 10, none, .p .cap, [.t 9]⟩,
    ⟨3, some 11, none, .p .mov, [.t 0]⟩,
    ⟨4, some 12, none, .p .len, [.t 11]⟩,
    ⟨5, some 13, none, .p (.bin .sub), [.t 10, .t 12]⟩,
    ⟨6, some 14, none, .p (.bin .sub), [.t 8, .t 13]⟩,
    ⟨7, some 1, none, .p .mov, [.t 14]⟩])
   (.seq (.reg 0 [⟨0, some 15, none, .p .mov, [.t 1]⟩,
    ⟨1, some 16, none, .p (.bin .gtr), [.t 15, .c (.int .i64 0)]⟩])
   (.cond (.t 16) (.reg 0 [⟨0, some 17, none, .p .mov, [.t 0]⟩,
    ⟨1, some 18, none, .p .mov, [.t 0]⟩,
    ⟨2, some 19, none, .p .cap, [.t 18]⟩,
    ⟨3, some 20, none, .p (.slice 1 false true false), [.t 17, .t 19]⟩,
    ⟨4, some 21, none, .p .mov, [.t 1]⟩,
    ⟨5, some 22, none, .e (.appendZ 1 8 [.int .i64 0]) [] [], [.t 20, .t 21]⟩,
    ⟨6, some 23, none, .p .mov, [.t 0]⟩,
    ⟨7, some 24, none, .p .len, [.t 23]⟩,
    ⟨8, some 25, none, .p (.slice 1 false true false), [.t 22, .t 24]⟩,
    ⟨9, some 0, none, .p .mov, [.t 25]⟩])
   (.skip))))
   (.seq (.reg 0 [⟨0, some 26, none, .p .mov, [.t 0]⟩,
    ⟨1, some 4, none, .p .mov, [.t 26]⟩])
   (.ret)))),
  [.tmp 4]⟩
/- cmp.isNaN[int] -/
def g160 : GL.Fn := ⟨.seq (.reg 0 [⟨0, some 2, none, .p .mov, [.c (.bool false)]⟩])
   (.seq (.reg 0 [⟨0, some 3, none, .p .mov, [.t 0]⟩,
    ⟨1, some 4, none, .p .mov, [.t 0]⟩,
    ⟨2, some 5, none, .p (.bin .neq), [.t 3, .t 4]⟩,
    ⟨3, some 2, none, .p .mov, [.t 5]⟩])
   (.ret)),
  [.tmp 2]⟩
/- slices.IndexFunc[[]loop.example/g00641/impl.Dep,loop.example/g00641/impl.Dep] -/
def g675_0 : GL.Code := .seq (.reg 0 [⟨0, some 9, none, .p (.bin .lss), [.t 8, .t 7]⟩])
   (.seq (.cond (.t 9) (.skip)
   (.exit 0))
   (.seq (.block 1 (.seq (.reg 0 [⟨0, some 10, none, .p .mov, [.t 8]⟩,
    ⟨1, some 5, none, .p .mov, [.t 10]⟩])
   (.seq (.reg 0 [⟨0, some 11, none, .p .mov, [.t 1]⟩,
    ⟨1, some 12, none, .p .mov, [.t 0]⟩,
    ⟨2, some 13, none, .p .mov, [.t 5]⟩,
    ⟨3, some 14, none, .p (.idx 2), [.t 12, .t 13]⟩,
    ⟨4, some 15, none, .r (.load true 2) false, [.t 14]⟩,
    ⟨5, some 16, none, .e .call [] [], [.t 11, .t 15]⟩])
   (.cond (.t 16) (.seq (.reg 0 [⟨0, some 17, none, .p .mov, [.t 5]⟩,
    ⟨1, some 4, none, .p .mov, [.t 17]⟩])
   (.ret))
   (.skip)))))
   (.reg 0 [⟨0, some 18, none, .p (.bin .add), [.t 8, .c (.int .i64 1)]⟩,
    ⟨1, some 8, none, .p .mov, [.t 18]⟩])))
def g675 : GL.Fn := ⟨.seq (.reg 0 [⟨0, some 4, none, .p .mov, [.c (.int .i64 0)]⟩])
   (.seq (.seq (.reg 0 [⟨0, some 6, none, .p .mov, [.t 0]⟩,
    ⟨1, some 7, none, .p .len, [.t 6]⟩,
    ⟨2, some 8, none, .p .mov, [.c (.int .i64 0)]⟩])
   (.block 0 (.loop g675_0)))
   (.seq (.reg 0 [⟨0, some 4, none, .p .mov, [.c (.int .i64 (-1))]⟩])
   (.ret))),
  [.tmp 4]⟩
/- loop.example/g00641/spec.l5Dep -/
def g672 : GL.Fn := ⟨.seq (.reg 0 [⟨0, some 3, none, .l (.box 3 2), [.t 1]⟩,
    ⟨1, some 4, none, .p .mov, [.c (.bool false)]⟩])
   (.seq (.reg 0 [⟨0, some 5, none, .p (.faddr 0), [.t 3]⟩,
    ⟨1, some 6, none, .l (.load 3 false 1), [.t 5]⟩,
    ⟨2, some 7, none, .p .mov, [.t 0]⟩,
    ⟨3, some 8, none, .p (.bin .sub), [.t 7, .c (.int .i64 1)]⟩,
    ⟨4, some 9, none, .e .call [] [], [.f 337, .t 6, .c (.int .i64 0), .t 8]⟩,
    ⟨5, some 10, none, .p .mov, [.t 9]⟩,
    ⟨6, some 11, some (10, true), .p (.faddr 1), [.t 3]⟩,
    ⟨7, some 12, some (10, true), .l (.load 3 false 1), [.t 11]⟩,
    ⟨8, some 13, some (10, true), .p .mov, [.t 0]⟩,
    ⟨9, some 14, some (10, true), .p (.bin .sub), [.t 13, .c (.int .i64 1)]⟩,
    ⟨10, some 15, some (10, true), .e .call [] [], [.f 337, .t 12, .c (.int .i64 0), .t 14]⟩,
    ⟨11, some 16, none, .p .pick, [.t 10, .t 15, .c (.bool false)]⟩,
    ⟨12, some 4, none, .p .mov, [.t 16]⟩])
   (.ret)),
  [.tmp 4]⟩
end GL
