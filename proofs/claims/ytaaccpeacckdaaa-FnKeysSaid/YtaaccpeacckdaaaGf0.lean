import Derived.Test.YtaaccpeacckdaaaGlA
/- GL code of functions. -/
set_option linter.unusedSimpArgs false
set_option linter.unusedVariables false
set_option linter.unnecessarySimpa false
namespace GL
open Go
/- loop.example/g00641/laws.FnKeys -/
def g610_0 : GL.Code := .seq (.reg 0 [⟨0, some 100, none, .p (.bin .lss), [.t 99, .t 98]⟩])
   (.seq (.cond (.t 100) (.skip)
   (.exit 0))
   (.seq (.block 1 (.seq (.reg 0 [⟨0, some 101, none, .p .mov, [.t 99]⟩,
    ⟨1, some 15, none, .p .mov, [.t 101]⟩])
   (.seq (.reg 0 [⟨0, some 102, none, .p .mov, [.t 11]⟩,
    ⟨1, some 103, none, .p .mov, [.t 15]⟩,
    ⟨2, some 104, none, .p (.idx 2), [.t 102, .t 103]⟩,
    ⟨3, some 105, none, .p (.faddr 0), [.t 104]⟩,
    ⟨4, some 106, none, .r (.load false 1) false, [.t 105]⟩,
    ⟨5, some 107, none, .p .mov, [.t 13]⟩,
    ⟨6, some 108, none, .p .mov, [.t 15]⟩,
    ⟨7, some 109, none, .p (.idx 2), [.t 107, .t 108]⟩,
    ⟨8, some 110, none, .p (.faddr 0), [.t 109]⟩,
    ⟨9, some 111, none, .r (.load false 1) false, [.t 110]⟩,
    ⟨10, some 112, none, .e .call [] [], [.f 24, .t 106, .t 111]⟩,
    ⟨11, some 113, none, .p (.un .not), [.t 112]⟩,
    ⟨12, some 114, none, .p .mov, [.t 113]⟩,
    ⟨13, some 115, some (114, false), .p .mov, [.t 11]⟩,
    ⟨14, some 116, some (114, false), .p .mov, [.t 15]⟩,
    ⟨15, some 117, some (114, false), .p (.idx 2), [.t 115, .t 116]⟩,
    ⟨16, some 118, some (114, false), .p (.faddr 1), [.t 117]⟩,
    ⟨17, some 119, some (114, false), .r (.load false 1) false, [.t 118]⟩,
    ⟨18, some 120, some (114, false), .p .mov, [.t 13]⟩,
    ⟨19, some 121, some (114, false), .p .mov, [.t 15]⟩,
    ⟨20, some 122, some (114, false), .p (.idx 2), [.t 120, .t 121]⟩,
    ⟨21, some 123, some (114, false), .p (.faddr 1), [.t 122]⟩,
    ⟨22, some 124, some (114, false), .r (.load false 1) false, [.t 123]⟩,
    ⟨23, some 125, some (114, false), .e .call [] [], [.f 24, .t 119, .t 124]⟩,
    ⟨24, some 126, some (114, false), .p (.un .not), [.t 125]⟩,
    ⟨25, some 127, none, .p .pick, [.t 114, .c (.bool true), .t 126]⟩])
   (.cond (.t 127) (.seq (.reg 0 [⟨0, some 4, none, .p .mov, [.c (.bool false)]⟩])
   (.ret))
   (.skip)))))
   (.reg 0 [⟨0, some 128, none, .p (.bin .add), [.t 99, .c (.int .i64 1)]⟩,
    ⟨1, some 99, none, .p .mov, [.t 128]⟩])))
def g610_1 : GL.Code := .seq (.reg 0 [⟨0, some 157, none, .p (.bin .lss), [.t 156, .t 155]⟩])
   (.seq (.cond (.t 157) (.skip)
   (.exit 4))
   (.seq (.block 5 (.seq (.reg 0 [⟨0, some 158, none, .p .mov, [.t 156]⟩,
    ⟨1, some 20, none, .p .mov, [.t 158]⟩])
   (.seq (.reg 0 [⟨0, some 159, none, .e (.new (.lit 1)) [] [], []⟩,
    ⟨1, some 160, none, .p .mov, [.t 17]⟩,
    ⟨2, some 161, none, .p .mov, [.t 20]⟩,
    ⟨3, some 162, none, .p (.slice 1 false true false), [.t 160, .t 161]⟩,
    ⟨4, some 163, none, .e (.append 1 8) [] [], [.t 159, .t 162]⟩,
    ⟨5, some 164, none, .p .mov, [.t 17]⟩,
    ⟨6, some 165, none, .p .mov, [.t 20]⟩,
    ⟨7, some 166, none, .p (.bin .add), [.t 165, .c (.int .i64 1)]⟩,
    ⟨8, some 167, none, .p (.slice 1 true false false), [.t 164, .t 166]⟩,
    ⟨9, some 168, none, .e (.append 1 8) [] [], [.t 163, .t 167]⟩,
    ⟨10, some 21, none, .p .mov, [.t 168]⟩])
   (.seq (.reg 0 [⟨0, some 170, none, .p .mov, [.t 5]⟩,
    ⟨1, some 171, none, .p .mov, [.t 6]⟩,
    ⟨2, some 172, none, .p .mov, [.t 21]⟩,
    ⟨3, some 173, none, .e .call [] [], [.f 617, .t 170, .t 171, .t 172]⟩,
    ⟨4, some 169, none, .p .mov, [.t 173]⟩,
    ⟨5, some 174, none, .p (.extract 0), [.t 169]⟩,
    ⟨6, some 175, none, .p (.extract 1), [.t 169]⟩,
    ⟨7, some 22, none, .p .mov, [.t 174]⟩,
    ⟨8, some 23, none, .p .mov, [.t 175]⟩])
   (.seq (.reg 0 [⟨0, some 176, none, .p .mov, [.t 23]⟩,
    ⟨1, some 177, none, .p (.un .not), [.t 176]⟩,
    ⟨2, some 178, none, .p .mov, [.t 177]⟩,
    ⟨3, some 179, some (178, false), .p .mov, [.t 22]⟩,
    ⟨4, some 180, some (178, false), .p .len, [.t 179]⟩,
    ⟨5, some 181, some (178, false), .p .mov, [.t 5]⟩,
    ⟨6, some 182, some (178, false), .p (.bin .eql), [.t 180, .t 181]⟩,
    ⟨7, some 183, none, .p .pick, [.t 178, .c (.bool true), .t 182]⟩])
   (.cond (.t 183) (.seq (.reg 0 [⟨0, some 4, none, .p .mov, [.c (.bool false)]⟩])
   (.ret))
   (.skip)))))))
   (.reg 0 [⟨0, some 184, none, .p (.bin .add), [.t 156, .c (.int .i64 1)]⟩,
    ⟨1, some 156, none, .p .mov, [.t 184]⟩])))
def g610_2 : GL.Code := .seq (.reg 0 [⟨0, some 136, none, .p (.bin .lss), [.t 135, .t 134]⟩])
   (.seq (.cond (.t 136) (.skip)
   (.exit 2))
   (.seq (.block 3 (.seq (.reg 0 [⟨0, some 137, none, .p (.idx 1), [.t 133, .t 135]⟩,
    ⟨1, some 138, none, .r (.load false 1) false, [.t 137]⟩,
    ⟨2, some 17, none, .p .mov, [.t 138]⟩])
   (.seq (.reg 0 [⟨0, some 140, none, .p .mov, [.t 5]⟩,
    ⟨1, some 141, none, .p .mov, [.t 6]⟩,
    ⟨2, some 142, none, .p .mov, [.t 17]⟩,
    ⟨3, some 143, none, .e .call [] [], [.f 617, .t 140, .t 141, .t 142]⟩,
    ⟨4, some 139, none, .p .mov, [.t 143]⟩,
    ⟨5, some 144, none, .p (.extract 0), [.t 139]⟩,
    ⟨6, some 145, none, .p (.extract 1), [.t 139]⟩,
    ⟨7, some 18, none, .p .mov, [.t 144]⟩,
    ⟨8, some 19, none, .p .mov, [.t 145]⟩])
   (.seq (.seq (.reg 0 [⟨0, some 146, none, .p .mov, [.t 19]⟩,
    ⟨1, some 147, none, .p (.un .not), [.t 146]⟩,
    ⟨2, some 148, none, .p .mov, [.t 147]⟩,
    ⟨3, some 149, some (148, false), .p .mov, [.t 18]⟩,
    ⟨4, some 150, some (148, false), .p .len, [.t 149]⟩,
    ⟨5, some 151, some (148, false), .p .mov, [.t 5]⟩,
    ⟨6, some 152, some (148, false), .p (.bin .neq), [.t 150, .t 151]⟩,
    ⟨7, some 153, none, .p .pick, [.t 148, .c (.bool true), .t 152]⟩])
   (.cond (.t 153) (.seq (.reg 0 [⟨0, some 4, none, .p .mov, [.c (.bool false)]⟩])
   (.ret))
   (.skip)))
   (.seq (.reg 0 [⟨0, some 154, none, .p .mov, [.t 17]⟩,
    ⟨1, some 155, none, .p .len, [.t 154]⟩,
    ⟨2, some 156, none, .p .mov, [.c (.int .i64 0)]⟩])
   (.block 4 (.loop g610_1)))))))
   (.reg 0 [⟨0, some 185, none, .p (.bin .add), [.t 135, .c (.int .i64 1)]⟩,
    ⟨1, some 135, none, .p .mov, [.t 185]⟩])))
def g610_3 : GL.Code := .seq (.reg 0 [⟨0, some 189, none, .p (.bin .lss), [.t 188, .t 187]⟩])
   (.seq (.cond (.t 189) (.skip)
   (.exit 6))
   (.seq (.block 7 (.seq (.reg 0 [⟨0, some 190, none, .p (.idx 2), [.t 186, .t 188]⟩,
    ⟨1, some 191, none, .r (.load true 2) false, [.t 190]⟩,
    ⟨2, some 25, none, .l (.alloc 25 [.nils, .nils]), []⟩,
    ⟨3, none, none, .l (.store 25 2), [.t 25, .t 191]⟩])
   (.seq (.reg 0 [⟨0, some 193, none, .p .mov, [.t 5]⟩,
    ⟨1, some 194, none, .p .mov, [.t 11]⟩,
    ⟨2, some 195, none, .l (.load 25 true 2), [.t 25]⟩,
    ⟨3, some 196, none, .e .call [] [], [.f 618, .t 193, .t 194, .t 195]⟩,
    ⟨4, some 192, none, .p .mov, [.t 196]⟩,
    ⟨5, some 197, none, .p (.extract 0), [.t 192]⟩,
    ⟨6, some 198, none, .p (.extract 1), [.t 192]⟩,
    ⟨7, some 26, none, .p .mov, [.t 197]⟩,
    ⟨8, some 27, none, .p .mov, [.t 198]⟩])
   (.seq (.reg 0 [⟨0, some 199, none, .p .mov, [.t 27]⟩,
    ⟨1, some 200, none, .p (.un .not), [.t 199]⟩,
    ⟨2, some 201, none, .p .mov, [.t 200]⟩,
    ⟨3, some 202, some (201, false), .p .mov, [.t 26]⟩,
    ⟨4, some 203, some (201, false), .p (.un .not), [.t 202]⟩,
    ⟨5, some 204, none, .p .pick, [.t 201, .c (.bool true), .t 203]⟩])
   (.cond (.t 204) (.seq (.reg 0 [⟨0, some 4, none, .p .mov, [.c (.bool false)]⟩])
   (.ret))
   (.skip))))))
   (.reg 0 [⟨0, some 205, none, .p (.bin .add), [.t 188, .c (.int .i64 1)]⟩,
    ⟨1, some 188, none, .p .mov, [.t 205]⟩])))
def g610 : GL.Fn := ⟨.seq (.reg 0 [⟨0, some 4, none, .p .mov, [.c (.bool false)]⟩])
   (.seq (.seq (.reg 0 [⟨0, some 34, none, .p .mov, [.t 0]⟩,
    ⟨1, some 35, none, .p .len, [.t 34]⟩,
    ⟨2, some 36, none, .p .mov, [.t 1]⟩,
    ⟨3, some 37, none, .p .len, [.t 36]⟩,
    ⟨4, some 38, none, .p (.bin .add), [.t 35, .t 37]⟩,
    ⟨5, some 39, none, .p (.bin .gtr), [.t 38, .c (.int .i64 1048576)]⟩])
   (.cond (.t 39) (.seq (.reg 0 [⟨0, some 4, none, .p .mov, [.c (.bool true)]⟩])
   (.ret))
   (.skip)))
   (.seq (.reg 0 [⟨0, some 41, none, .p .mov, [.t 0]⟩,
    ⟨1, some 42, none, .e .call [] [], [.f 611, .t 41]⟩,
    ⟨2, some 40, none, .p .mov, [.t 42]⟩,
    ⟨3, some 43, none, .p (.extract 0), [.t 40]⟩,
    ⟨4, some 44, none, .p (.extract 1), [.t 40]⟩,
    ⟨5, some 5, none, .p .mov, [.t 43]⟩,
    ⟨6, some 6, none, .p .mov, [.t 44]⟩])
   (.seq (.reg 0 [⟨0, some 46, none, .p .mov, [.t 5]⟩,
    ⟨1, some 47, none, .p .mov, [.t 6]⟩,
    ⟨2, some 48, none, .e .call [] [], [.f 612, .t 46, .t 47]⟩,
    ⟨3, some 45, none, .p .mov, [.t 48]⟩,
    ⟨4, some 49, none, .p (.extract 0), [.t 45]⟩,
    ⟨5, some 50, none, .p (.extract 1), [.t 45]⟩,
    ⟨6, some 7, none, .p .mov, [.t 49]⟩,
    ⟨7, some 8, none, .p .mov, [.t 50]⟩])
   (.seq (.reg 0 [⟨0, some 52, none, .p .mov, [.t 5]⟩,
    ⟨1, some 53, none, .p .mov, [.t 6]⟩,
    ⟨2, some 54, none, .e .call [] [], [.f 613, .t 52, .t 53]⟩,
    ⟨3, some 51, none, .p .mov, [.t 54]⟩,
    ⟨4, some 55, none, .p (.extract 0), [.t 51]⟩,
    ⟨5, some 56, none, .p (.extract 1), [.t 51]⟩,
    ⟨6, some 9, none, .p .mov, [.t 55]⟩,
    ⟨7, some 10, none, .p .mov, [.t 56]⟩])
   (.seq (.reg 0 [⟨0, some 58, none, .p .mov, [.t 5]⟩,
    ⟨1, some 59, none, .p .mov, [.t 6]⟩,
    ⟨2, some 60, none, .e .call [] [], [.f 614, .t 58, .t 59]⟩,
    ⟨3, some 57, none, .p .mov, [.t 60]⟩,
    ⟨4, some 61, none, .p (.extract 0), [.t 57]⟩,
    ⟨5, some 62, none, .p (.extract 1), [.t 57]⟩,
    ⟨6, some 11, none, .p .mov, [.t 61]⟩,
    ⟨7, some 12, none, .p .mov, [.t 62]⟩])
   (.seq (.reg 0 [⟨0, some 64, none, .p .mov, [.t 5]⟩,
    ⟨1, some 65, none, .p .mov, [.t 6]⟩,
    ⟨2, some 66, none, .e .call [] [], [.f 615, .t 64, .t 65]⟩,
    ⟨3, some 63, none, .p .mov, [.t 66]⟩,
    ⟨4, some 67, none, .p (.extract 0), [.t 63]⟩,
    ⟨5, some 68, none, .p (.extract 1), [.t 63]⟩,
    ⟨6, some 13, none, .p .mov, [.t 67]⟩,
    ⟨7, some 14, none, .p .mov, [.t 68]⟩])
   (.seq (.seq (.reg 0 [⟨0, some 69, none, .p .mov, [.t 8]⟩,
    ⟨1, some 70, none, .p .mov, [.t 10]⟩,
    ⟨2, some 71, none, .p (.eqB true), [.t 69, .t 70]⟩,
    ⟨3, some 72, none, .p .mov, [.t 71]⟩,
    ⟨4, some 73, some (72, false), .p .mov, [.t 7]⟩,
    ⟨5, some 74, some (72, false), .p .mov, [.t 9]⟩,
    ⟨6, some 75, some (72, false), .e .call [] [], [.f 383, .t 73, .t 74]⟩,
    ⟨7, some 76, some (72, false), .p (.un .not), [.t 75]⟩,
    ⟨8, some 77, none, .p .pick, [.t 72, .c (.bool true), .t 76]⟩,
    ⟨9, some 78, none, .p .mov, [.t 77]⟩,
    ⟨10, some 79, some (78, false), .p .mov, [.t 12]⟩,
    ⟨11, some 80, some (78, false), .p .mov, [.t 14]⟩,
    ⟨12, some 81, some (78, false), .p (.eqB true), [.t 79, .t 80]⟩,
    ⟨13, some 82, none, .p .pick, [.t 78, .c (.bool true), .t 81]⟩,
    ⟨14, some 83, none, .p .mov, [.t 82]⟩,
    ⟨15, some 84, some (83, false), .p .mov, [.t 11]⟩,
    ⟨16, some 85, some (83, false), .p .len, [.t 84]⟩,
    ⟨17, some 86, some (83, false), .p .mov, [.t 13]⟩,
    ⟨18, some 87, some (83, false), .p .len, [.t 86]⟩,
    ⟨19, some 88, some (83, false), .p (.bin .neq), [.t 85, .t 87]⟩,
    ⟨20, some 89, none, .p .pick, [.t 83, .c (.bool true), .t 88]⟩,
    ⟨21, some 90, none, .p .mov, [.t 89]⟩,
    ⟨22, some 91, some (90, false), .p .mov, [.t 5]⟩,
    ⟨23, some 92, some (90, false), .p .mov, [.t 6]⟩,
    ⟨24, some 93, some (90, false), .e .call [] [], [.f 616, .t 91, .t 92]⟩,
    ⟨25, some 94, some (90, false), .p .mov, [.t 8]⟩,
    ⟨26, some 95, some (90, false), .p (.eqB true), [.t 93, .t 94]⟩,
    ⟨27, some 96, none, .p .pick, [.t 90, .c (.bool true), .t 95]⟩])
   (.cond (.t 96) (.seq (.reg 0 [⟨0, some 4, none, .p .mov, [.c (.bool false)]⟩])
   (.ret))
   (.skip)))
   (.seq (.seq (.reg 0 [⟨0, some 97, none, .p .mov, [.t 11]⟩,
    ⟨1, some 98, none, .p .len, [.t 97]⟩,
    ⟨2, some 99, none, .p .mov, [.c (.int .i64 0)]⟩])
   (.block 0 (.loop g610_0)))
   (.seq (.seq (.reg 0 [⟨0, some 129, none, .p .mov, [.t 8]⟩])
   (.cond (.t 129) (.seq (.seq (.reg 0 [⟨0, some 130, none, .p .mov, [.t 7]⟩,
    ⟨1, some 131, none, .p .len, [.t 130]⟩,
    ⟨2, some 132, none, .p (.bin .eql), [.t 131, .c (.int .i64 0)]⟩])
   (.cond (.t 132) (.seq (.reg 0 [⟨0, some 4, none, .p .mov, [.c (.bool false)]⟩])
   (.ret))
   (.skip)))
   (.seq (.seq (.reg 0 [⟨0, some 133, none, .p .mov, [.t 7]⟩,
    ⟨1, some 134, none, .p .len, [.t 133]⟩,
    ⟨2, some 135, none, .p .mov, [.c (.int .i64 0)]⟩])
   (.block 2 (.loop g610_2)))
   (.seq (.reg 0 [⟨0, some 186, none, .p .mov, [.t 6]⟩,
    ⟨1, some 187, none, .p .len, [.t 186]⟩,
    ⟨2, some 188, none, .p .mov, [.c (.int .i64 0)]⟩])
   (.block 6 (.loop g610_3)))))
   (.skip)))
   (.seq (.reg 0 [⟨0, some 207, none, .p .mov, [.t 1]⟩,
    ⟨1, some 208, none, .e .call [] [], [.f 619, .t 207]⟩,
    ⟨2, some 206, none, .p .mov, [.t 208]⟩,
    ⟨3, some 209, none, .p (.extract 0), [.t 206]⟩,
    ⟨4, some 210, none, .p (.extract 1), [.t 206]⟩,
    ⟨5, some 28, none, .l (.alloc 28 [.nils, .nils]), []⟩,
    ⟨6, some 29, none, .l (.alloc 29 [.nils, .nils]), []⟩,
    ⟨7, none, none, .l (.store 28 2), [.t 28, .t 209]⟩,
    ⟨8, none, none, .l (.store 29 2), [.t 29, .t 210]⟩])
   (.seq (.reg 0 [⟨0, some 212, none, .l (.load 28 true 2), [.t 28]⟩,
    ⟨1, some 213, none, .l (.load 29 true 2), [.t 29]⟩,
    ⟨2, some 214, none, .e .call [] [], [.f 620, .t 212, .t 213]⟩,
    ⟨3, some 211, none, .p .mov, [.t 214]⟩,
    ⟨4, some 215, none, .p (.extract 0), [.t 211]⟩,
    ⟨5, some 216, none, .p (.extract 1), [.t 211]⟩,
    ⟨6, some 30, none, .p .mov, [.t 215]⟩,
    ⟨7, some 31, none, .p .mov, [.t 216]⟩])
   (.seq (.reg 0 [⟨0, some 218, none, .l (.load 28 true 2), [.t 28]⟩,
    ⟨1, some 219, none, .l (.load 29 true 2), [.t 29]⟩,
    ⟨2, some 220, none, .e .call [] [], [.f 621, .t 218, .t 219]⟩,
    ⟨3, some 217, none, .p .mov, [.t 220]⟩,
    ⟨4, some 221, none, .p (.extract 0), [.t 217]⟩,
    ⟨5, some 222, none, .p (.extract 1), [.t 217]⟩,
    ⟨6, some 32, none, .p .mov, [.t 221]⟩,
    ⟨7, some 33, none, .p .mov, [.t 222]⟩])
   (.seq (.reg 0 [⟨0, some 223, none, .p .mov, [.t 31]⟩,
    ⟨1, some 224, none, .p .mov, [.t 33]⟩,
    ⟨2, some 225, none, .p (.eqB false), [.t 223, .t 224]⟩,
    ⟨3, some 226, none, .p .mov, [.t 225]⟩,
    ⟨4, some 227, some (226, true), .p .mov, [.t 30]⟩,
    ⟨5, some 228, some (226, true), .p .mov, [.t 32]⟩,
    ⟨6, some 229, some (226, true), .p (.eqB false), [.t 227, .t 228]⟩,
    ⟨7, some 230, none, .p .pick, [.t 226, .t 229, .c (.bool false)]⟩,
    ⟨8, some 4, none, .p .mov, [.t 230]⟩])
   (.ret)))))))))))))),
  [.tmp 4]⟩
/- loop.example/g00641/impl.Implies -/
def g618 : GL.Fn := ⟨.seq (.reg 0 [⟨0, some 5, none, .l (.box 5 2), [.t 2]⟩,
    ⟨1, some 6, none, .p .mov, [.c (.bool false)]⟩,
    ⟨2, some 7, none, .p .mov, [.c (.bool false)]⟩])
   (.seq (.seq (.reg 0 [⟨0, some 8, none, .p .mov, [.t 0]⟩,
    ⟨1, some 9, none, .p .mov, [.t 1]⟩,
    ⟨2, some 10, none, .e .call [] [], [.f 616, .t 8, .t 9]⟩,
    ⟨3, some 11, none, .p (.un .not), [.t 10]⟩,
    ⟨4, some 12, none, .p .mov, [.t 11]⟩,
    ⟨5, some 13, some (12, false), .p .mov, [.t 0]⟩,
    ⟨6, some 14, some (12, false), .l (.load 5 true 2), [.t 5]⟩,
    ⟨7, some 15, some (12, false), .e .call [] [], [.f 656, .t 13, .t 14]⟩,
    ⟨8, some 16, some (12, false), .p (.un .not), [.t 15]⟩,
    ⟨9, some 17, none, .p .pick, [.t 12, .c (.bool true), .t 16]⟩])
   (.cond (.t 17) (.seq (.reg 0 [⟨0, some 6, none, .p .mov, [.c (.bool false)]⟩,
    ⟨1, some 7, none, .p .mov, [.c (.bool false)]⟩])
   (.ret))
   (.skip)))
   (.seq (.reg 0 [⟨0, some 18, none, .p .mov, [.t 1]⟩,
    ⟨1, some 19, none, .l (.load 5 true 2), [.t 5]⟩,
    ⟨2, some 20, none, .e .call [] [], [.f 652, .t 18, .t 19]⟩,
    ⟨3, some 6, none, .p .mov, [.t 20]⟩,
    ⟨4, some 7, none, .p .mov, [.c (.bool true)]⟩])
   (.ret))),
  [.tmp 6, .tmp 7]⟩
/- loop.example/g00641/impl.HoldsIn -/
def g620_0 : GL.Code := .seq (.reg 0 [⟨0, some 43, none, .p (.bin .lss), [.t 42, .t 41]⟩])
   (.seq (.cond (.t 43) (.skip)
   (.exit 2))
   (.seq (.block 3 (.seq (.reg 0 [⟨0, some 44, none, .p (.idx 1), [.t 40, .t 42]⟩,
    ⟨1, some 45, none, .r (.load false 1) false, [.t 44]⟩,
    ⟨2, some 9, none, .p .mov, [.t 45]⟩])
   (.seq (.reg 0 [⟨0, some 46, none, .p (.faddr 0), [.t 2]⟩,
    ⟨1, some 47, none, .l (.load 2 false 1), [.t 46]⟩,
    ⟨2, some 48, none, .p .mov, [.t 7]⟩,
    ⟨3, some 49, none, .p (.faddr 0), [.t 3]⟩,
    ⟨4, some 50, none, .l (.load 3 false 1), [.t 49]⟩,
    ⟨5, some 51, none, .e .call [] [], [.f 661, .t 47, .t 48, .t 50]⟩,
    ⟨6, some 52, none, .p (.faddr 0), [.t 2]⟩,
    ⟨7, some 53, none, .l (.load 2 false 1), [.t 52]⟩,
    ⟨8, some 54, none, .p .mov, [.t 9]⟩,
    ⟨9, some 55, none, .p (.faddr 0), [.t 3]⟩,
    ⟨10, some 56, none, .l (.load 3 false 1), [.t 55]⟩,
    ⟨11, some 57, none, .e .call [] [], [.f 661, .t 53, .t 54, .t 56]⟩,
    ⟨12, some 58, none, .e .call [] [], [.f 386, .t 51, .t 57]⟩,
    ⟨13, some 59, none, .p .mov, [.t 58]⟩,
    ⟨14, some 60, some (59, true), .p (.faddr 0), [.t 2]⟩,
    ⟨15, some 61, some (59, true), .l (.load 2 false 1), [.t 60]⟩,
    ⟨16, some 62, some (59, true), .p .mov, [.t 7]⟩,
    ⟨17, some 63, some (59, true), .p (.faddr 1), [.t 3]⟩,
    ⟨18, some 64, some (59, true), .l (.load 3 false 1), [.t 63]⟩,
    ⟨19, some 65, some (59, true), .e .call [] [], [.f 661, .t 61, .t 62, .t 64]⟩,
    ⟨20, some 66, some (59, true), .p (.faddr 0), [.t 2]⟩,
    ⟨21, some 67, some (59, true), .l (.load 2 false 1), [.t 66]⟩,
    ⟨22, some 68, some (59, true), .p .mov, [.t 9]⟩,
    ⟨23, some 69, some (59, true), .p (.faddr 1), [.t 3]⟩,
    ⟨24, some 70, some (59, true), .l (.load 3 false 1), [.t 69]⟩,
    ⟨25, some 71, some (59, true), .e .call [] [], [.f 661, .t 67, .t 68, .t 70]⟩,
    ⟨26, some 72, some (59, true), .e .call [] [], [.f 386, .t 65, .t 71]⟩,
    ⟨27, some 73, some (59, true), .p (.un .not), [.t 72]⟩,
    ⟨28, some 74, none, .p .pick, [.t 59, .t 73, .c (.bool false)]⟩])
   (.cond (.t 74) (.seq (.reg 0 [⟨0, some 4, none, .p .mov, [.c (.bool false)]⟩,
    ⟨1, some 5, none, .p .mov, [.c (.bool true)]⟩])
   (.ret))
   (.skip)))))
   (.reg 0 [⟨0, some 75, none, .p (.bin .add), [.t 42, .c (.int .i64 1)]⟩,
    ⟨1, some 42, none, .p .mov, [.t 75]⟩])))
def g620_1 : GL.Code := .seq (.reg 0 [⟨0, some 33, none, .p (.bin .lss), [.t 32, .t 31]⟩])
   (.seq (.cond (.t 33) (.skip)
   (.exit 0))
   (.seq (.block 1 (.seq (.reg 0 [⟨0, some 34, none, .p .mov, [.t 32]⟩,
    ⟨1, some 35, none, .p (.idx 1), [.t 30, .t 32]⟩,
    ⟨2, some 36, none, .r (.load false 1) false, [.t 35]⟩,
    ⟨3, some 6, none, .p .mov, [.t 34]⟩,
    ⟨4, some 7, none, .p .mov, [.t 36]⟩])
   (.seq (.reg 0 [⟨0, some 37, none, .p (.faddr 1), [.t 2]⟩,
    ⟨1, some 38, none, .l (.load 2 false 1), [.t 37]⟩,
    ⟨2, some 39, none, .p .mov, [.t 6]⟩,
    ⟨3, some 40, none, .p (.slice 1 false true false), [.t 38, .t 39]⟩,
    ⟨4, some 41, none, .p .len, [.t 40]⟩,
    ⟨5, some 42, none, .p .mov, [.c (.int .i64 0)]⟩])
   (.block 2 (.loop g620_0)))))
   (.reg 0 [⟨0, some 76, none, .p (.bin .add), [.t 32, .c (.int .i64 1)]⟩,
    ⟨1, some 32, none, .p .mov, [.t 76]⟩])))
def g620 : GL.Fn := ⟨.seq (.reg 0 [⟨0, some 2, none, .l (.box 2 2), [.t 0]⟩,
    ⟨1, some 3, none, .l (.box 3 2), [.t 1]⟩,
    ⟨2, some 4, none, .p .mov, [.c (.bool false)]⟩,
    ⟨3, some 5, none, .p .mov, [.c (.bool false)]⟩])
   (.seq (.seq (.reg 0 [⟨0, some 10, none, .l (.load 2 true 2), [.t 2]⟩,
    ⟨1, some 11, none, .e .call [] [], [.f 659, .t 10]⟩,
    ⟨2, some 12, none, .p (.un .not), [.t 11]⟩,
    ⟨3, some 13, none, .p .mov, [.t 12]⟩,
    ⟨4, some 14, some (13, false), .p (.faddr 0), [.t 3]⟩,
    ⟨5, some 15, some (13, false), .l (.load 3 false 1), [.t 14]⟩,
    ⟨6, some 16, some (13, false), .p (.faddr 0), [.t 2]⟩,
    ⟨7, some 17, some (13, false), .l (.load 2 false 1), [.t 16]⟩,
    ⟨8, some 18, some (13, false), .e .call [] [], [.f 660, .t 15, .t 17]⟩,
    ⟨9, some 19, some (13, false), .p (.un .not), [.t 18]⟩,
    ⟨10, some 20, none, .p .pick, [.t 13, .c (.bool true), .t 19]⟩,
    ⟨11, some 21, none, .p .mov, [.t 20]⟩,
    ⟨12, some 22, some (21, false), .p (.faddr 1), [.t 3]⟩,
    ⟨13, some 23, some (21, false), .l (.load 3 false 1), [.t 22]⟩,
    ⟨14, some 24, some (21, false), .p (.faddr 0), [.t 2]⟩,
    ⟨15, some 25, some (21, false), .l (.load 2 false 1), [.t 24]⟩,
    ⟨16, some 26, some (21, false), .e .call [] [], [.f 660, .t 23, .t 25]⟩,
    ⟨17, some 27, some (21, false), .p (.un .not), [.t 26]⟩,
    ⟨18, some 28, none, .p .pick, [.t 21, .c (.bool true), .t 27]⟩])
   (.cond (.t 28) (.seq (.reg 0 [⟨0, some 4, none, .p .mov, [.c (.bool false)]⟩,
    ⟨1, some 5, none, .p .mov, [.c (.bool false)]⟩])
   (.ret))
   (.skip)))
   (.seq (.seq (.reg 0 [⟨0, some 29, none, .p (.faddr 1), [.t 2]⟩,
    ⟨1, some 30, none, .l (.load 2 false 1), [.t 29]⟩,
    ⟨2, some 31, none, .p .len, [.t 30]⟩,
    ⟨3, some 32, none, .p .mov, [.c (.int .i64 0)]⟩])
   (.block 0 (.loop g620_1)))
   (.seq (.reg 0 [⟨0, some 4, none, .p .mov, [.c (.bool true)]⟩,
    ⟨1, some 5, none, .p .mov, [.c (.bool true)]⟩])
   (.ret)))),
  [.tmp 4, .tmp 5]⟩
/- loop.example/g00641/impl.ClosureOf -/
def g617 : GL.Fn := ⟨.seq (.reg 0 [⟨0, some 6, none, .p .mov, [.c (.nils)]⟩,
    ⟨1, some 7, none, .p .mov, [.c (.bool false)]⟩])
   (.seq (.seq (.reg 0 [⟨0, some 8, none, .p .mov, [.t 0]⟩,
    ⟨1, some 9, none, .p .mov, [.t 1]⟩,
    ⟨2, some 10, none, .e .call [] [], [.f 616, .t 8, .t 9]⟩,
    ⟨3, some 11, none, .p (.un .not), [.t 10]⟩,
    ⟨4, some 12, none, .p .mov, [.t 11]⟩,
    ⟨5, some 13, some (12, false), .p .mov, [.t 0]⟩,
    ⟨6, some 14, some (12, false), .p .mov, [.t 2]⟩,
    ⟨7, some 15, some (12, false), .e .call [] [], [.f 655, .t 13, .t 14]⟩,
    ⟨8, some 16, some (12, false), .p (.un .not), [.t 15]⟩,
    ⟨9, some 17, none, .p .pick, [.t 12, .c (.bool true), .t 16]⟩])
   (.cond (.t 17) (.seq (.reg 0 [⟨0, some 6, none, .p .mov, [.c (.nils)]⟩,
    ⟨1, some 7, none, .p .mov, [.c (.bool false)]⟩])
   (.ret))
   (.skip)))
   (.seq (.reg 0 [⟨0, some 18, none, .p .mov, [.t 1]⟩,
    ⟨1, some 19, none, .p .mov, [.t 2]⟩,
    ⟨2, some 20, none, .e .call [] [], [.f 645, .t 18, .t 19]⟩,
    ⟨3, some 6, none, .p .mov, [.t 20]⟩,
    ⟨4, some 7, none, .p .mov, [.c (.bool true)]⟩])
   (.ret))),
  [.tmp 6, .tmp 7]⟩
/- loop.example/g00641/laws.sameInts -/
def g24_0 : GL.Code := .seq (.reg 0 [⟨0, some 14, none, .p (.bin .lss), [.t 13, .t 12]⟩])
   (.seq (.cond (.t 14) (.skip)
   (.exit 0))
   (.seq (.block 1 (.seq (.reg 0 [⟨0, some 15, none, .p .mov, [.t 13]⟩,
    ⟨1, some 5, none, .p .mov, [.t 15]⟩])
   (.seq (.reg 0 [⟨0, some 16, none, .p .mov, [.t 0]⟩,
    ⟨1, some 17, none, .p .mov, [.t 5]⟩,
    ⟨2, some 18, none, .p (.idx 1), [.t 16, .t 17]⟩,
    ⟨3, some 19, none, .r (.load false 1) false, [.t 18]⟩,
    ⟨4, some 20, none, .p .mov, [.t 1]⟩,
    ⟨5, some 21, none, .p .mov, [.t 5]⟩,
    ⟨6, some 22, none, .p (.idx 1), [.t 20, .t 21]⟩,
    ⟨7, some 23, none, .r (.load false 1) false, [.t 22]⟩,
    ⟨8, some 24, none, .p (.bin .neq), [.t 19, .t 23]⟩])
   (.cond (.t 24) (.seq (.reg 0 [⟨0, some 4, none, .p .mov, [.c (.bool false)]⟩])
   (.ret))
   (.skip)))))
   (.reg 0 [⟨0, some 25, none, .p (.bin .add), [.t 13, .c (.int .i64 1)]⟩,
    ⟨1, some 13, none, .p .mov, [.t 25]⟩])))
def g24 : GL.Fn := ⟨.seq (.reg 0 [⟨0, some 4, none, .p .mov, [.c (.bool false)]⟩])
   (.seq (.seq (.reg 0 [⟨0, some 6, none, .p .mov, [.t 0]⟩,
    ⟨1, some 7, none, .p .len, [.t 6]⟩,
    ⟨2, some 8, none, .p .mov, [.t 1]⟩,
    ⟨3, some 9, none, .p .len, [.t 8]⟩,
    ⟨4, some 10, none, .p (.bin .neq), [.t 7, .t 9]⟩])
   (.cond (.t 10) (.seq (.reg 0 [⟨0, some 4, none, .p .mov, [.c (.bool false)]⟩])
   (.ret))
   (.skip)))
   (.seq (.seq (.reg 0 [⟨0, some 11, none, .p .mov, [.t 0]⟩,
    ⟨1, some 12, none, .p .len, [.t 11]⟩,
    ⟨2, some 13, none, .p .mov, [.c (.int .i64 0)]⟩])
   (.block 0 (.loop g24_0)))
   (.seq (.reg 0 [⟨0, some 4, none, .p .mov, [.c (.bool true)]⟩])
   (.ret)))),
  [.tmp 4]⟩
/- loop.example/g00641/laws.sameRows -/
def g383_0 : GL.Code := .seq (.reg 0 [⟨0, some 14, none, .p (.bin .lss), [.t 13, .t 12]⟩])
   (.seq (.cond (.t 14) (.skip)
   (.exit 0))
   (.seq (.block 1 (.seq (.reg 0 [⟨0, some 15, none, .p .mov, [.t 13]⟩,
    ⟨1, some 5, none, .p .mov, [.t 15]⟩])
   (.seq (.reg 0 [⟨0, some 16, none, .p .mov, [.t 0]⟩,
    ⟨1, some 17, none, .p .mov, [.t 5]⟩,
    ⟨2, some 18, none, .p (.idx 1), [.t 16, .t 17]⟩,
    ⟨3, some 19, none, .r (.load false 1) false, [.t 18]⟩,
    ⟨4, some 20, none, .p .mov, [.t 1]⟩,
    ⟨5, some 21, none, .p .mov, [.t 5]⟩,
    ⟨6, some 22, none, .p (.idx 1), [.t 20, .t 21]⟩,
    ⟨7, some 23, none, .r (.load false 1) false, [.t 22]⟩,
    ⟨8, some 24, none, .e .call [] [], [.f 24, .t 19, .t 23]⟩,
    ⟨9, some 25, none, .p (.un .not), [.t 24]⟩])
   (.cond (.t 25) (.seq (.reg 0 [⟨0, some 4, none, .p .mov, [.c (.bool false)]⟩])
   (.ret))
   (.skip)))))
   (.reg 0 [⟨0, some 26, none, .p (.bin .add), [.t 13, .c (.int .i64 1)]⟩,
    ⟨1, some 13, none, .p .mov, [.t 26]⟩])))
def g383 : GL.Fn := ⟨.seq (.reg 0 [⟨0, some 4, none, .p .mov, [.c (.bool false)]⟩])
   (.seq (.seq (.reg 0 [⟨0, some 6, none, .p .mov, [.t 0]⟩,
    ⟨1, some 7, none, .p .len, [.t 6]⟩,
    ⟨2, some 8, none, .p .mov, [.t 1]⟩,
    ⟨3, some 9, none, .p .len, [.t 8]⟩,
    ⟨4, some 10, none, .p (.bin .neq), [.t 7, .t 9]⟩])
   (.cond (.t 10) (.seq (.reg 0 [⟨0, some 4, none, .p .mov, [.c (.bool false)]⟩])
   (.ret))
   (.skip)))
   (.seq (.seq (.reg 0 [⟨0, some 11, none, .p .mov, [.t 0]⟩,
    ⟨1, some 12, none, .p .len, [.t 11]⟩,
    ⟨2, some 13, none, .p .mov, [.c (.int .i64 0)]⟩])
   (.block 0 (.loop g383_0)))
   (.seq (.reg 0 [⟨0, some 4, none, .p .mov, [.c (.bool true)]⟩])
   (.ret)))),
  [.tmp 4]⟩
/- loop.example/g00641/spec.DrawKeysFor -/
def g611 : GL.Fn := ⟨.seq (.reg 0 [⟨0, some 2, none, .p .mov, [.c (.int .i64 0)]⟩,
    ⟨1, some 3, none, .p .mov, [.c (.nils)]⟩])
   (.seq (.reg 0 [⟨0, some 4, none, .p .mov, [.t 0]⟩,
    ⟨1, some 5, none, .e .call [] [], [.f 643, .t 4]⟩,
    ⟨2, some 6, none, .p (.extract 0), [.t 5]⟩,
    ⟨3, some 7, none, .p (.extract 1), [.t 5]⟩,
    ⟨4, some 2, none, .p .mov, [.t 6]⟩,
    ⟨5, some 3, none, .p .mov, [.t 7]⟩])
   (.ret)),
  [.tmp 2, .tmp 3]⟩
/- loop.example/g00641/impl.KeysFor -/
def g612_0 : GL.Code := .seq (.reg 0 [⟨0, some 20, none, .p (.bin .lss), [.t 19, .t 18]⟩])
   (.seq (.cond (.t 20) (.skip)
   (.exit 0))
   (.seq (.block 1 (.seq (.reg 0 [⟨0, some 21, none, .p (.idx 1), [.t 17, .t 19]⟩,
    ⟨1, some 22, none, .r (.load false 1) false, [.t 21]⟩,
    ⟨2, some 8, none, .e (.new (.alloc [.nils])) [] [], []⟩,
    ⟨3, none, none, .e (.store 1) [] [], [.t 8, .t 22]⟩])
   (.seq (.seq (.reg 0 [⟨0, some 23, none, .r (.load false 1) false, [.t 3]⟩,
    ⟨1, some 24, none, .r (.load false 1) false, [.t 8]⟩,
    ⟨4, some 27, none, .r (.load false 1) true, [.t 2]⟩,
    ⟨2, some 25, none, .e .call [4] [], [.f 645, .t 23, .t 24]⟩,
    ⟨3, some 26, none, .p .len, [.t 25]⟩,
    ⟨5, some 28, none, .p (.bin .lss), [.t 26, .t 27]⟩])
   (.cond (.t 28) (.exit 1)
   (.skip)))
   (.seq (.reg 0 [⟨0, some 29, none, .r (.load false 1) false, [.t 8]⟩,
    ⟨1, some 30, none, .p (.mkFn 646), [.t 3, .t 8, .t 2]⟩,
    ⟨2, some 31, none, .e .call [] [], [.f 304, .t 29, .t 30]⟩,
    ⟨3, some 9, none, .p .mov, [.t 31]⟩])
   (.seq (.reg 0 [⟨0, some 32, none, .p .mov, [.t 9]⟩,
    ⟨1, some 33, none, .p (.un .not), [.t 32]⟩])
   (.cond (.t 33) (.reg 0 [⟨0, some 34, none, .p .mov, [.t 6]⟩,
    ⟨1, some 35, none, .r (.load false 1) false, [.t 8]⟩,
    ⟨2, some 36, none, .e (.new (.lit 1)) [] [], [.t 35]⟩,
    ⟨3, some 37, none, .e (.append 1 24) [] [], [.t 34, .t 36]⟩,
    ⟨4, some 6, none, .p .mov, [.t 37]⟩])
   (.skip)))))))
   (.reg 0 [⟨0, some 38, none, .p (.bin .add), [.t 19, .c (.int .i64 1)]⟩,
    ⟨1, some 19, none, .p .mov, [.t 38]⟩])))
def g612 : GL.Fn := ⟨.seq (.reg 0 [⟨0, some 2, none, .e (.new (.box 1)) [] [], [.t 0]⟩,
    ⟨1, some 3, none, .e (.new (.box 1)) [] [], [.t 1]⟩,
    ⟨2, some 4, none, .p .mov, [.c (.nils)]⟩,
    ⟨3, some 5, none, .p .mov, [.c (.bool false)]⟩])
   (.seq (.seq (.reg 0 [⟨0, some 10, none, .r (.load false 1) false, [.t 2]⟩,
    ⟨1, some 11, none, .r (.load false 1) false, [.t 3]⟩,
    ⟨2, some 12, none, .e .call [] [], [.f 616, .t 10, .t 11]⟩,
    ⟨3, some 13, none, .p (.un .not), [.t 12]⟩])
   (.cond (.t 13) (.seq (.reg 0 [⟨0, some 4, none, .p .mov, [.c (.nils)]⟩,
    ⟨1, some 5, none, .p .mov, [.c (.bool false)]⟩])
   (.ret))
   (.skip)))
   (.seq (.reg 0 [⟨0, some 14, none, .e (.new (.lit 1)) [] [], []⟩,
    ⟨1, some 6, none, .p .mov, [.t 14]⟩])
   (.seq (.seq (.reg 0 [⟨0, some 15, none, .r (.load false 1) false, [.t 2]⟩,
    ⟨1, some 16, none, .e .call [] [], [.f 598, .t 15]⟩,
    ⟨2, some 17, none, .e .call [] [], [.f 644, .t 16]⟩,
    ⟨3, some 18, none, .p .len, [.t 17]⟩,
    ⟨4, some 19, none, .p .mov, [.c (.int .i64 0)]⟩])
   (.block 0 (.loop g612_0)))
   (.seq (.reg 0 [⟨0, some 39, none, .p .mov, [.t 6]⟩,
    ⟨1, some 4, none, .p .mov, [.t 39]⟩,
    ⟨2, some 5, none, .p .mov, [.c (.bool true)]⟩])
   (.ret))))),
  [.tmp 4, .tmp 5]⟩
/- loop.example/g00641/spec.KeysFor -/
def g613_0 : GL.Code := .seq (.reg 0 [⟨0, some 23, none, .p (.bin .lss), [.t 22, .t 21]⟩])
   (.seq (.cond (.t 23) (.skip)
   (.exit 0))
   (.seq (.block 1 (.seq (.reg 0 [⟨0, some 24, none, .p .mov, [.t 22]⟩,
    ⟨1, some 7, none, .p .mov, [.t 24]⟩])
   (.reg 0 [⟨0, some 25, none, .p .mov, [.t 6]⟩,
    ⟨1, some 26, none, .p .mov, [.t 7]⟩,
    ⟨2, some 27, none, .p .mov, [.t 1]⟩,
    ⟨3, some 28, none, .p .mov, [.t 7]⟩,
    ⟨4, some 29, none, .e .call [] [], [.f 648, .t 28]⟩,
    ⟨5, some 30, none, .e .call [] [], [.f 649, .t 27, .t 29]⟩,
    ⟨6, some 31, none, .p .len, [.t 30]⟩,
    ⟨7, some 32, none, .p .mov, [.t 0]⟩,
    ⟨8, some 33, none, .p (.bin .eql), [.t 31, .t 32]⟩,
    ⟨9, some 34, none, .p (.idx 1), [.t 25, .t 26]⟩,
    ⟨10, none, none, .e (.store 1) [] [], [.t 34, .t 33]⟩])))
   (.reg 0 [⟨0, some 35, none, .p (.bin .add), [.t 22, .c (.int .i64 1)]⟩,
    ⟨1, some 22, none, .p .mov, [.t 35]⟩])))
def g613_1 : GL.Code := .seq (.seq (.reg 0 [⟨0, some 43, none, .p .mov, [.t 11]⟩,
    ⟨1, some 44, none, .p .mov, [.t 0]⟩,
    ⟨2, some 45, none, .p (.bin .lss), [.t 43, .t 44]⟩])
   (.cond (.t 45) (.skip)
   (.exit 4)))
   (.seq (.block 5 (.reg 0 [⟨0, some 48, none, .p .mov, [.t 10]⟩,
    ⟨1, some 49, none, .p .mov, [.t 48]⟩,
    ⟨2, some 50, some (49, true), .p .mov, [.t 9]⟩,
    ⟨3, some 51, some (49, true), .p .mov, [.t 11]⟩,
    ⟨4, some 52, some (49, true), .p (.conv .u64), [.t 51]⟩,
    ⟨5, some 53, some (49, true), .p (.bin .shr), [.t 50, .t 52]⟩,
    ⟨6, some 54, some (49, true), .p (.bin .and), [.t 53, .c (.int .i64 1)]⟩,
    ⟨7, some 55, some (49, true), .p (.bin .eql), [.t 54, .c (.int .i64 0)]⟩,
    ⟨8, some 56, some (49, true), .p .mov, [.t 55]⟩,
    ⟨9, some 57, some (56, false), .p .mov, [.t 6]⟩,
    ⟨10, some 58, some (56, false), .p .mov, [.t 9]⟩,
    ⟨11, some 59, some (56, false), .p .mov, [.t 11]⟩,
    ⟨12, some 60, some (56, false), .p (.conv .u64), [.t 59]⟩,
    ⟨13, some 61, some (56, false), .p (.bin .shl), [.c (.int .i64 1), .t 60]⟩,
    ⟨14, some 62, some (56, false), .p (.bin .sub), [.t 58, .t 61]⟩,
    ⟨15, some 63, some (56, false), .p (.idx 1), [.t 57, .t 62]⟩,
    ⟨16, some 64, some (56, false), .r (.load false 1) false, [.t 63]⟩,
    ⟨17, some 65, some (56, false), .p (.un .not), [.t 64]⟩,
    ⟨18, some 66, some (49, true), .p .pick, [.t 56, .c (.bool true), .t 65]⟩,
    ⟨19, some 67, none, .p .pick, [.t 49, .t 66, .c (.bool false)]⟩,
    ⟨20, some 10, none, .p .mov, [.t 67]⟩]))
   (.reg 0 [⟨0, some 46, none, .p .mov, [.t 11]⟩,
    ⟨1, some 47, none, .p (.bin .add), [.t 46, .c (.int .i64 1)]⟩,
    ⟨2, some 11, none, .p .mov, [.t 47]⟩]))
def g613_2 : GL.Code := .seq (.reg 0 [⟨0, some 39, none, .p (.bin .lss), [.t 38, .t 37]⟩])
   (.seq (.cond (.t 39) (.skip)
   (.exit 2))
   (.seq (.block 3 (.seq (.reg 0 [⟨0, some 40, none, .p .mov, [.t 38]⟩,
    ⟨1, some 41, none, .p (.idx 1), [.t 36, .t 38]⟩,
    ⟨2, some 42, none, .r (.load false 1) false, [.t 41]⟩,
    ⟨3, some 9, none, .p .mov, [.t 40]⟩,
    ⟨4, some 10, none, .p .mov, [.t 42]⟩])
   (.seq (.seq (.reg 0 [⟨0, some 11, none, .p .mov, [.c (.int .i64 0)]⟩])
   (.block 4 (.loop g613_1)))
   (.seq (.reg 0 [⟨0, some 68, none, .p .mov, [.t 10]⟩])
   (.cond (.t 68) (.reg 0 [⟨0, some 69, none, .p .mov, [.t 8]⟩,
    ⟨1, some 70, none, .p .mov, [.t 9]⟩,
    ⟨2, some 71, none, .e .call [] [], [.f 648, .t 70]⟩,
    ⟨3, some 72, none, .e (.new (.lit 1)) [] [], [.t 71]⟩,
    ⟨4, some 73, none, .e (.append 1 24) [] [], [.t 69, .t 72]⟩,
    ⟨5, some 8, none, .p .mov, [.t 73]⟩])
   (.skip))))))
   (.reg 0 [⟨0, some 74, none, .p (.bin .add), [.t 38, .c (.int .i64 1)]⟩,
    ⟨1, some 38, none, .p .mov, [.t 74]⟩])))
def g613 : GL.Fn := ⟨.seq (.reg 0 [⟨0, some 4, none, .p .mov, [.c (.nils)]⟩,
    ⟨1, some 5, none, .p .mov, [.c (.bool false)]⟩])
   (.seq (.seq (.reg 0 [⟨0, some 12, none, .p .mov, [.t 0]⟩,
    ⟨1, some 13, none, .p .mov, [.t 1]⟩,
    ⟨2, some 14, none, .e .call [] [], [.f 647, .t 12, .t 13]⟩,
    ⟨3, some 15, none, .p (.un .not), [.t 14]⟩])
   (.cond (.t 15) (.seq (.reg 0 [⟨0, some 4, none, .p .mov, [.c (.nils)]⟩,
    ⟨1, some 5, none, .p .mov, [.c (.bool false)]⟩])
   (.ret))
   (.skip)))
   (.seq (.reg 0 [⟨0, some 16, none, .p .mov, [.t 0]⟩,
    ⟨1, some 17, none, .p (.conv .u64), [.t 16]⟩,
    ⟨2, some 18, none, .p (.bin .shl), [.c (.int .i64 1), .t 17]⟩,
    ⟨3, some 19, none, .e (.new (.make 1 1 [.bool false])) [] [], [.t 18, .t 18]⟩,
    ⟨4, some 6, none, .p .mov, [.t 19]⟩])
   (.seq (.seq (.reg 0 [⟨0, some 20, none, .p .mov, [.t 6]⟩,
    ⟨1, some 21, none, .p .len, [.t 20]⟩,
    ⟨2, some 22, none, .p .mov, [.c (.int .i64 0)]⟩])
   (.block 0 (.loop g613_0)))
   (.seq (.reg 0 [⟨0, some 8, none, .p .mov, [.c (.nils)]⟩])
   (.seq (.seq (.reg 0 [⟨0, some 36, none, .p .mov, [.t 6]⟩,
    ⟨1, some 37, none, .p .len, [.t 36]⟩,
    ⟨2, some 38, none, .p .mov, [.c (.int .i64 0)]⟩])
   (.block 2 (.loop g613_2)))
   (.seq (.reg 0 [⟨0, some 75, none, .p .mov, [.t 8]⟩,
    ⟨1, some 4, none, .p .mov, [.t 75]⟩,
    ⟨2, some 5, none, .p .mov, [.c (.bool true)]⟩])
   (.ret))))))),
  [.tmp 4, .tmp 5]⟩
/- loop.example/g00641/impl.CoverOf -/
def g614_0 : GL.Code := .seq (.seq (.reg 0 [⟨0, some 18, none, .p .mov, [.t 7]⟩,
    ⟨1, some 19, none, .p .mov, [.t 6]⟩,
    ⟨2, some 20, none, .p .len, [.t 19]⟩,
    ⟨3, some 21, none, .p (.bin .lss), [.t 18, .t 20]⟩])
   (.cond (.t 21) (.skip)
   (.exit 0)))
   (.block 1 (.seq (.reg 0 [⟨0, some 22, none, .p .mov, [.t 6]⟩,
    ⟨1, some 23, none, .e .call [] [], [.f 650, .t 22]⟩,
    ⟨2, some 24, none, .p .mov, [.t 7]⟩,
    ⟨3, some 25, none, .p .mov, [.t 7]⟩,
    ⟨4, some 26, none, .p (.bin .add), [.t 25, .c (.int .i64 1)]⟩,
    ⟨5, some 27, none, .e .call [] [], [.f 651, .t 23, .t 24, .t 26]⟩,
    ⟨6, some 8, none, .p .mov, [.t 27]⟩])
   (.seq (.reg 0 [⟨0, some 28, none, .p .mov, [.t 8]⟩,
    ⟨1, some 29, none, .p .mov, [.t 6]⟩,
    ⟨2, some 30, none, .p .mov, [.t 7]⟩,
    ⟨3, some 31, none, .p (.idx 2), [.t 29, .t 30]⟩,
    ⟨4, some 32, none, .r (.load true 2) false, [.t 31]⟩,
    ⟨5, some 33, none, .e .call [] [], [.f 652, .t 28, .t 32]⟩])
   (.cond (.t 33) (.reg 0 [⟨0, some 34, none, .p .mov, [.t 8]⟩,
    ⟨1, some 6, none, .p .mov, [.t 34]⟩])
   (.reg 0 [⟨0, some 35, none, .p .mov, [.t 7]⟩,
    ⟨1, some 36, none, .p (.bin .add), [.t 35, .c (.int .i64 1)]⟩,
    ⟨2, some 7, none, .p .mov, [.t 36]⟩])))))
def g614_1 : GL.Code := .seq (.reg 0 [⟨0, some 41, none, .p (.bin .lss), [.t 40, .t 39]⟩])
   (.seq (.cond (.t 41) (.skip)
   (.exit 2))
   (.seq (.block 3 (.seq (.reg 0 [⟨0, some 42, none, .p (.idx 2), [.t 38, .t 40]⟩,
    ⟨1, some 43, none, .r (.load true 2) false, [.t 42]⟩,
    ⟨2, some 11, none, .l (.alloc 11 [.nils, .nils]), []⟩,
    ⟨3, none, none, .l (.store 11 2), [.t 11, .t 43]⟩])
   (.reg 0 [⟨0, some 44, none, .p .mov, [.t 9]⟩,
    ⟨1, some 45, none, .p (.faddr 0), [.t 11]⟩,
    ⟨2, some 46, none, .l (.load 11 false 1), [.t 45]⟩,
    ⟨3, some 47, none, .e .call [] [], [.f 389, .t 46]⟩,
    ⟨4, some 48, none, .p (.faddr 1), [.t 11]⟩,
    ⟨5, some 49, none, .l (.load 11 false 1), [.t 48]⟩,
    ⟨6, some 50, none, .e .call [] [], [.f 389, .t 49]⟩,
    ⟨7, some 51, none, .p (.build [.nils, .nils] [(0, 1), (1, 1)]), [.t 47, .t 50]⟩,
    ⟨8, some 52, none, .e (.new (.lit 2)) [] [], [.t 51]⟩,
    ⟨9, some 53, none, .e (.append 2 48) [] [], [.t 44, .t 52]⟩,
    ⟨10, some 9, none, .p .mov, [.t 53]⟩])))
   (.reg 0 [⟨0, some 54, none, .p (.bin .add), [.t 40, .c (.int .i64 1)]⟩,
    ⟨1, some 40, none, .p .mov, [.t 54]⟩])))
def g614 : GL.Fn := ⟨.seq (.reg 0 [⟨0, some 4, none, .p .mov, [.c (.nils)]⟩,
    ⟨1, some 5, none, .p .mov, [.c (.bool false)]⟩])
   (.seq (.seq (.reg 0 [⟨0, some 12, none, .p .mov, [.t 0]⟩,
    ⟨1, some 13, none, .p .mov, [.t 1]⟩,
    ⟨2, some 14, none, .e .call [] [], [.f 616, .t 12, .t 13]⟩,
    ⟨3, some 15, none, .p (.un .not), [.t 14]⟩])
   (.cond (.t 15) (.seq (.reg 0 [⟨0, some 4, none, .p .mov, [.c (.nils)]⟩,
    ⟨1, some 5, none, .p .mov, [.c (.bool false)]⟩])
   (.ret))
   (.skip)))
   (.seq (.reg 0 [⟨0, some 16, none, .p .mov, [.t 1]⟩,
    ⟨1, some 17, none, .e .call [] [], [.f 650, .t 16]⟩,
    ⟨2, some 6, none, .p .mov, [.t 17]⟩])
   (.seq (.seq (.reg 0 [⟨0, some 7, none, .p .mov, [.c (.int .i64 0)]⟩])
   (.block 0 (.loop g614_0)))
   (.seq (.reg 0 [⟨0, some 37, none, .e (.new (.lit 2)) [] [], []⟩,
    ⟨1, some 9, none, .p .mov, [.t 37]⟩])
   (.seq (.seq (.reg 0 [⟨0, some 38, none, .p .mov, [.t 6]⟩,
    ⟨1, some 39, none, .p .len, [.t 38]⟩,
    ⟨2, some 40, none, .p .mov, [.c (.int .i64 0)]⟩])
   (.block 2 (.loop g614_1)))
   (.seq (.reg 0 [⟨0, some 55, none, .p .mov, [.t 9]⟩,
    ⟨1, some 4, none, .p .mov, [.t 55]⟩,
    ⟨2, some 5, none, .p .mov, [.c (.bool true)]⟩])
   (.ret))))))),
  [.tmp 4, .tmp 5]⟩
/- loop.example/g00641/spec.CoverOf -/
def g615_0 : GL.Code := .seq (.seq (.reg 0 [⟨0, some 19, none, .p .mov, [.t 7]⟩,
    ⟨1, some 20, none, .p .mov, [.t 6]⟩,
    ⟨2, some 21, none, .p .len, [.t 20]⟩,
    ⟨3, some 22, none, .p (.bin .lss), [.t 19, .t 21]⟩])
   (.cond (.t 22) (.skip)
   (.exit 0)))
   (.block 1 (.seq (.reg 0 [⟨0, some 23, none, .e (.new (.lit 2)) [] [], []⟩,
    ⟨1, some 24, none, .p .mov, [.t 6]⟩,
    ⟨2, some 25, none, .p .mov, [.t 7]⟩,
    ⟨3, some 26, none, .p (.slice 2 false true false), [.t 24, .t 25]⟩,
    ⟨4, some 27, none, .e (.append 2 48) [] [], [.t 23, .t 26]⟩,
    ⟨5, some 28, none, .p .mov, [.t 6]⟩,
    ⟨6, some 29, none, .p .mov, [.t 7]⟩,
    ⟨7, some 30, none, .p (.bin .add), [.t 29, .c (.int .i64 1)]⟩,
    ⟨8, some 31, none, .p (.slice 2 true false false), [.t 28, .t 30]⟩,
    ⟨9, some 32, none, .e (.append 2 48) [] [], [.t 27, .t 31]⟩,
    ⟨10, some 8, none, .p .mov, [.t 32]⟩])
   (.seq (.reg 0 [⟨0, some 33, none, .p .mov, [.t 6]⟩,
    ⟨1, some 34, none, .p .mov, [.t 7]⟩,
    ⟨2, some 35, none, .p (.idx 2), [.t 33, .t 34]⟩,
    ⟨3, some 36, none, .p (.faddr 1), [.t 35]⟩,
    ⟨4, some 37, none, .r (.load false 1) true, [.t 36]⟩,
    ⟨5, some 38, none, .p .mov, [.t 8]⟩,
    ⟨6, some 39, none, .p .mov, [.t 6]⟩,
    ⟨7, some 40, none, .p .mov, [.t 7]⟩,
    ⟨8, some 41, none, .p (.idx 2), [.t 39, .t 40]⟩,
    ⟨9, some 42, none, .p (.faddr 0), [.t 41]⟩,
    ⟨10, some 43, none, .r (.load false 1) false, [.t 42]⟩,
    ⟨11, some 44, none, .e .call [4] [], [.f 649, .t 38, .t 43]⟩,
    ⟨12, some 45, none, .e .call [] [], [.f 554, .t 37, .t 44]⟩])
   (.cond (.t 45) (.reg 0 [⟨0, some 46, none, .p .mov, [.t 8]⟩,
    ⟨1, some 6, none, .p .mov, [.t 46]⟩])
   (.reg 0 [⟨0, some 47, none, .p .mov, [.t 7]⟩,
    ⟨1, some 48, none, .p (.bin .add), [.t 47, .c (.int .i64 1)]⟩,
    ⟨2, some 7, none, .p .mov, [.t 48]⟩])))))
def g615_1 : GL.Code := .seq (.reg 0 [⟨0, some 52, none, .p (.bin .lss), [.t 51, .t 50]⟩])
   (.seq (.cond (.t 52) (.skip)
   (.exit 2))
   (.seq (.block 3 (.seq (.reg 0 [⟨0, some 53, none, .p (.idx 2), [.t 49, .t 51]⟩,
    ⟨1, some 54, none, .r (.load true 2) false, [.t 53]⟩,
    ⟨2, some 11, none, .l (.alloc 11 [.nils, .nils]), []⟩,
    ⟨3, none, none, .l (.store 11 2), [.t 11, .t 54]⟩])
   (.reg 2 [⟨0, some 55, none, .p .mov, [.t 9]⟩,
    ⟨1, some 56, none, .m (.lit 1) 0, []⟩,
    ⟨2, some 57, none, .p (.faddr 0), [.t 11]⟩,
    ⟨3, some 58, none, .l (.load 11 false 1), [.t 57]⟩,
    ⟨4, some 59, none, .e (.append 1 8) [] [1], [.t 56, .t 58]⟩,
    ⟨5, some 60, none, .m (.lit 1) 1, []⟩,
    ⟨6, some 61, none, .p (.faddr 1), [.t 11]⟩,
    ⟨7, some 62, none, .l (.load 11 false 1), [.t 61]⟩,
    ⟨8, some 63, none, .e (.append 1 8) [] [], [.t 60, .t 62]⟩,
    ⟨9, some 64, none, .p (.build [.nils, .nils] [(0, 1), (1, 1)]), [.t 59, .t 63]⟩,
    ⟨10, some 65, none, .e (.new (.lit 2)) [] [], [.t 64]⟩,
    ⟨11, some 66, none, .e (.append 2 48) [] [], [.t 55, .t 65]⟩,
    ⟨12, some 9, none, .p .mov, [.t 66]⟩])))
   (.reg 0 [⟨0, some 67, none, .p (.bin .add), [.t 51, .c (.int .i64 1)]⟩,
    ⟨1, some 51, none, .p .mov, [.t 67]⟩])))
def g615 : GL.Fn := ⟨.seq (.reg 0 [⟨0, some 4, none, .p .mov, [.c (.nils)]⟩,
    ⟨1, some 5, none, .p .mov, [.c (.bool false)]⟩])
   (.seq (.seq (.reg 0 [⟨0, some 12, none, .p .mov, [.t 0]⟩,
    ⟨1, some 13, none, .p .mov, [.t 1]⟩,
    ⟨2, some 14, none, .e .call [] [], [.f 647, .t 12, .t 13]⟩,
    ⟨3, some 15, none, .p (.un .not), [.t 14]⟩])
   (.cond (.t 15) (.seq (.reg 0 [⟨0, some 4, none, .p .mov, [.c (.nils)]⟩,
    ⟨1, some 5, none, .p .mov, [.c (.bool false)]⟩])
   (.ret))
   (.skip)))
   (.seq (.reg 0 [⟨0, some 16, none, .e (.new (.lit 2)) [] [], []⟩,
    ⟨1, some 17, none, .p .mov, [.t 1]⟩,
    ⟨2, some 18, none, .e (.append 2 48) [] [], [.t 16, .t 17]⟩,
    ⟨3, some 6, none, .p .mov, [.t 18]⟩])
   (.seq (.seq (.reg 0 [⟨0, some 7, none, .p .mov, [.c (.int .i64 0)]⟩])
   (.block 0 (.loop g615_0)))
   (.seq (.reg 0 [⟨0, some 9, none, .p .mov, [.c (.nils)]⟩])
   (.seq (.seq (.reg 0 [⟨0, some 49, none, .p .mov, [.t 6]⟩,
    ⟨1, some 50, none, .p .len, [.t 49]⟩,
    ⟨2, some 51, none, .p .mov, [.c (.int .i64 0)]⟩])
   (.block 2 (.loop g615_1)))
   (.seq (.reg 0 [⟨0, some 68, none, .p .mov, [.t 9]⟩,
    ⟨1, some 4, none, .p .mov, [.t 68]⟩,
    ⟨2, some 5, none, .p .mov, [.c (.bool true)]⟩])
   (.ret))))))),
  [.tmp 4, .tmp 5]⟩
/- loop.example/g00641/impl.GoodDeps -/
def g616 : GL.Fn := ⟨.seq (.reg 0 [⟨0, some 2, none, .e (.new (.box 1)) [] [], [.t 0]⟩,
    ⟨1, some 4, none, .p .mov, [.c (.bool false)]⟩])
   (.seq (.reg 0 [⟨0, some 5, none, .r (.load false 1) false, [.t 2]⟩,
    ⟨1, some 6, none, .e .call [] [], [.f 107, .t 5, .c (.int .i64 1), .c (.int .i64 6)]⟩,
    ⟨2, some 7, none, .p .mov, [.t 6]⟩,
    ⟨3, some 8, some (7, true), .p .mov, [.t 1]⟩,
    ⟨4, some 9, some (7, true), .p .len, [.t 8]⟩,
    ⟨5, some 10, some (7, true), .p (.bin .leq), [.t 9, .c (.int .i64 8)]⟩,
    ⟨6, some 11, none, .p .pick, [.t 7, .t 10, .c (.bool false)]⟩,
    ⟨7, some 12, none, .p .mov, [.t 11]⟩,
    ⟨8, some 13, some (12, true), .p .mov, [.t 1]⟩,
    ⟨9, some 14, some (12, true), .p (.mkFn 653), [.t 2]⟩,
    ⟨10, some 15, some (12, true), .e .call [] [], [.f 654, .t 13, .t 14]⟩,
    ⟨11, some 16, some (12, true), .p (.un .not), [.t 15]⟩,
    ⟨12, some 17, none, .p .pick, [.t 12, .t 16, .c (.bool false)]⟩,
    ⟨13, some 4, none, .p .mov, [.t 17]⟩])
   (.ret)),
  [.tmp 4]⟩
/- loop.example/g00641/spec.DrawHoldsIn -/
def g619 : GL.Fn := ⟨.seq (.reg 0 [⟨0, some 2, none, .l (.alloc 2 [.nils, .nils]), []⟩,
    ⟨1, some 3, none, .l (.alloc 3 [.nils, .nils]), []⟩])
   (.seq (.reg 0 [⟨0, some 6, none, .p .mov, [.t 0]⟩,
    ⟨1, some 7, none, .p (.build [.nils, .int .i64 0, .int .u64 0] [(0, 1)]), [.t 6]⟩,
    ⟨2, some 8, none, .e (.new (.box 3)) [] [], [.t 7]⟩,
    ⟨3, some 4, none, .p .mov, [.t 8]⟩])
   (.seq (.reg 0 [⟨0, some 9, none, .p .mov, [.t 4]⟩,
    ⟨1, some 10, none, .e (.new (.lit 1)) [] [], [.c (.int .i64 0), .c (.int .i64 1), .c (.int .i64 2)]⟩,
    ⟨2, some 11, none, .e .call [] [], [.f 657, .t 9, .t 10]⟩,
    ⟨3, some 5, none, .l (.alloc 5 [.nils, .nils]), []⟩,
    ⟨4, none, none, .l (.store 5 2), [.t 5, .t 11]⟩])
   (.seq (.reg 0 [⟨0, some 12, none, .l (.load 5 true 2), [.t 5]⟩,
    ⟨1, some 13, none, .p .mov, [.t 4]⟩,
    ⟨2, some 14, none, .e .call [] [], [.f 658, .t 13, .c (.int .i64 3)]⟩,
    ⟨3, some 15, none, .p .mov, [.t 4]⟩,
    ⟨4, some 16, none, .e .call [] [], [.f 658, .t 15, .c (.int .i64 3)]⟩,
    ⟨5, some 17, none, .p (.build [.nils, .nils] [(0, 1), (1, 1)]), [.t 14, .t 16]⟩,
    ⟨6, none, none, .l (.store 2 2), [.t 2, .t 12]⟩,
    ⟨7, none, none, .l (.store 3 2), [.t 3, .t 17]⟩])
   (.ret)))),
  [.cellL 2 2 true 2, .cellL 3 3 true 2]⟩
/- loop.example/g00641/spec.HoldsIn -/
def g621 : GL.Fn := ⟨.seq (.reg 0 [⟨0, some 2, none, .l (.box 2 2), [.t 0]⟩,
    ⟨1, some 3, none, .l (.box 3 2), [.t 1]⟩,
    ⟨2, some 4, none, .p .mov, [.c (.bool false)]⟩,
    ⟨3, some 5, none, .p .mov, [.c (.bool false)]⟩])
   (.seq (.seq (.reg 0 [⟨0, some 6, none, .l (.load 2 true 2), [.t 2]⟩,
    ⟨1, some 7, none, .e .call [] [], [.f 662, .t 6]⟩,
    ⟨2, some 8, none, .p (.un .not), [.t 7]⟩,
    ⟨3, some 9, none, .p .mov, [.t 8]⟩,
    ⟨4, some 10, some (9, false), .p (.faddr 0), [.t 2]⟩,
    ⟨5, some 11, some (9, false), .l (.load 2 false 1), [.t 10]⟩,
    ⟨6, some 12, some (9, false), .p (.faddr 0), [.t 3]⟩,
    ⟨7, some 13, some (9, false), .l (.load 3 false 1), [.t 12]⟩,
    ⟨8, some 14, some (9, false), .e .call [] [], [.f 663, .t 11, .t 13]⟩,
    ⟨9, some 15, some (9, false), .p (.un .not), [.t 14]⟩,
    ⟨10, some 16, none, .p .pick, [.t 9, .c (.bool true), .t 15]⟩,
    ⟨11, some 17, none, .p .mov, [.t 16]⟩,
    ⟨12, some 18, some (17, false), .p (.faddr 0), [.t 2]⟩,
    ⟨13, some 19, some (17, false), .l (.load 2 false 1), [.t 18]⟩,
    ⟨14, some 20, some (17, false), .p (.faddr 1), [.t 3]⟩,
    ⟨15, some 21, some (17, false), .l (.load 3 false 1), [.t 20]⟩,
    ⟨16, some 22, some (17, false), .e .call [] [], [.f 663, .t 19, .t 21]⟩,
    ⟨17, some 23, some (17, false), .p (.un .not), [.t 22]⟩,
    ⟨18, some 24, none, .p .pick, [.t 17, .c (.bool true), .t 23]⟩])
   (.cond (.t 24) (.seq (.reg 0 [⟨0, some 4, none, .p .mov, [.c (.bool false)]⟩,
    ⟨1, some 5, none, .p .mov, [.c (.bool false)]⟩])
   (.ret))
   (.skip)))
   (.seq (.reg 0 [⟨0, some 25, none, .l (.load 2 true 2), [.t 2]⟩,
    ⟨1, some 26, none, .l (.load 3 true 2), [.t 3]⟩,
    ⟨2, some 27, none, .e .call [] [], [.f 664, .t 25, .t 26]⟩,
    ⟨3, some 4, none, .p .mov, [.t 27]⟩,
    ⟨4, some 5, none, .p .mov, [.c (.bool true)]⟩])
   (.ret))),
  [.tmp 4, .tmp 5]⟩
/- (*loop.example/g00641/spec.l1Cur).pick -/
def g91 : GL.Fn := ⟨.seq (.reg 0 [⟨0, some 4, none, .p .mov, [.c (.int .i64 0)]⟩])
   (.seq (.seq (.reg 0 [⟨0, some 6, none, .p .mov, [.t 1]⟩,
    ⟨1, some 7, none, .p (.bin .leq), [.t 6, .c (.int .i64 1)]⟩])
   (.cond (.t 7) (.seq (.reg 0 [⟨0, some 4, none, .p .mov, [.c (.int .i64 0)]⟩])
   (.ret))
   (.skip)))
   (.seq (.reg 0 [⟨0, some 8, none, .p .mov, [.t 0]⟩,
    ⟨1, some 9, none, .e .call [] [], [.f 140, .t 8]⟩,
    ⟨2, some 5, none, .p .mov, [.t 9]⟩])
   (.seq (.seq (.reg 0 [⟨0, some 10, none, .p .mov, [.t 1]⟩,
    ⟨1, some 11, none, .p (.bin .gtr), [.t 10, .c (.int .i64 200)]⟩])
   (.cond (.t 11) (.reg 0 [⟨0, some 12, none, .p .mov, [.t 5]⟩,
    ⟨1, some 13, none, .p (.bin .mul), [.t 12, .c (.int .i64 256)]⟩,
    ⟨2, some 14, none, .p .mov, [.t 0]⟩,
    ⟨3, some 15, none, .e .call [] [], [.f 140, .t 14]⟩,
    ⟨4, some 16, none, .p (.bin .add), [.t 13, .t 15]⟩,
    ⟨5, some 5, none, .p .mov, [.t 16]⟩])
   (.skip)))
   (.seq (.reg 0 [⟨0, some 17, none, .p .mov, [.t 5]⟩,
    ⟨1, some 18, none, .p .mov, [.t 1]⟩,
    ⟨2, some 19, none, .p (.bin .rem), [.t 17, .t 18]⟩,
    ⟨3, some 4, none, .p .mov, [.t 19]⟩])
   (.ret))))),
  [.tmp 4]⟩
/- loop.example/g00641/impl.within -/
def g107 : GL.Fn := ⟨.seq (.reg 0 [⟨0, some 6, none, .p .mov, [.c (.bool false)]⟩])
   (.seq (.reg 0 [⟨0, some 7, none, .p .mov, [.t 0]⟩,
    ⟨1, some 8, none, .p .mov, [.t 1]⟩,
    ⟨2, some 9, none, .p (.bin .geq), [.t 7, .t 8]⟩,
    ⟨3, some 10, none, .p .mov, [.t 9]⟩,
    ⟨4, some 11, some (10, true), .p .mov, [.t 0]⟩,
    ⟨5, some 12, some (10, true), .p .mov, [.t 2]⟩,
    ⟨6, some 13, some (10, true), .p (.bin .leq), [.t 11, .t 12]⟩,
    ⟨7, some 14, none, .p .pick, [.t 10, .t 13, .c (.bool false)]⟩,
    ⟨8, some 6, none, .p .mov, [.t 14]⟩])
   (.ret)),
  [.tmp 6]⟩
/- loop.example/g00641/impl.isSmall -/
def g100 : GL.Fn := ⟨.seq (.reg 0 [⟨0, some 2, none, .p .mov, [.c (.bool false)]⟩])
   (.seq (.reg 0 [⟨0, some 3, none, .p .mov, [.t 0]⟩,
    ⟨1, some 4, none, .e .call [] [], [.f 107, .t 3, .c (.int .i64 (-1000)), .c (.int .i64 1000)]⟩,
    ⟨2, some 2, none, .p .mov, [.t 4]⟩])
   (.ret)),
  [.tmp 2]⟩
/- loop.example/g00641/spec.l1In -/
def g98 : GL.Fn := ⟨.seq (.reg 0 [⟨0, some 6, none, .p .mov, [.c (.bool false)]⟩])
   (.seq (.reg 0 [⟨0, some 7, none, .p .mov, [.t 0]⟩,
    ⟨1, some 8, none, .p .mov, [.t 1]⟩,
    ⟨2, some 9, none, .p (.bin .geq), [.t 7, .t 8]⟩,
    ⟨3, some 10, none, .p .mov, [.t 9]⟩,
    ⟨4, some 11, some (10, true), .p .mov, [.t 0]⟩,
    ⟨5, some 12, some (10, true), .p .mov, [.t 2]⟩,
    ⟨6, some 13, some (10, true), .p (.bin .leq), [.t 11, .t 12]⟩,
    ⟨7, some 14, none, .p .pick, [.t 10, .t 13, .c (.bool false)]⟩,
    ⟨8, some 6, none, .p .mov, [.t 14]⟩])
   (.ret)),
  [.tmp 6]⟩
/- (*loop.example/g00641/spec.l1Cur).cols -/
def g670 : GL.Fn := ⟨.seq (.reg 0 [⟨0, some 2, none, .p .mov, [.c (.int .i64 0)]⟩])
   (.seq (.reg 0 [⟨0, some 3, none, .p .mov, [.t 0]⟩,
    ⟨1, some 4, none, .e (.new (.lit 1)) [] [], [.c (.int .i64 0), .c (.int .i64 1), .c (.int .i64 3), .c (.int .i64 4), .c (.int .i64 4), .c (.int .i64 5), .c (.int .i64 6), .c (.int .i64 7)]⟩,
    ⟨2, some 5, none, .e .call [] [], [.f 93, .t 3, .t 4]⟩,
    ⟨3, some 2, none, .p .mov, [.t 5]⟩])
   (.ret)),
  [.tmp 2]⟩
/- (*loop.example/g00641/spec.l1Cur).deps -/
def g671_0 : GL.Code := .seq (.seq (.reg 0 [⟨0, some 14, none, .p .mov, [.t 6]⟩,
    ⟨1, some 15, none, .p (.bin .gtr), [.t 14, .c (.int .i64 0)]⟩])
   (.cond (.t 15) (.skip)
   (.exit 0)))
   (.seq (.block 1 (.reg 0 [⟨0, some 18, none, .p .mov, [.t 5]⟩,
    ⟨1, some 19, none, .p .mov, [.t 0]⟩,
    ⟨2, some 20, none, .p .mov, [.t 1]⟩,
    ⟨3, some 21, none, .e .call [] [], [.f 658, .t 19, .t 20]⟩,
    ⟨4, some 22, none, .p .mov, [.t 0]⟩,
    ⟨5, some 23, none, .p .mov, [.t 1]⟩,
    ⟨6, some 24, none, .e .call [] [], [.f 658, .t 22, .t 23]⟩,
    ⟨7, some 25, none, .p (.build [.nils, .nils] [(0, 1), (1, 1)]), [.t 21, .t 24]⟩,
    ⟨8, some 26, none, .e (.new (.lit 2)) [] [], [.t 25]⟩,
    ⟨9, some 27, none, .e (.append 2 48) [] [], [.t 18, .t 26]⟩,
    ⟨10, some 5, none, .p .mov, [.t 27]⟩]))
   (.reg 0 [⟨0, some 16, none, .p .mov, [.t 6]⟩,
    ⟨1, some 17, none, .p (.bin .sub), [.t 16, .c (.int .i64 1)]⟩,
    ⟨2, some 6, none, .p .mov, [.t 17]⟩]))
def g671 : GL.Fn := ⟨.seq (.reg 0 [⟨0, some 4, none, .p .mov, [.c (.nils)]⟩])
   (.seq (.reg 0 [⟨0, some 5, none, .p .mov, [.c (.nils)]⟩])
   (.seq (.reg 0 [⟨0, some 7, none, .p .mov, [.t 0]⟩,
    ⟨1, some 8, none, .e .call [] [], [.f 91, .t 7, .c (.int .i64 6)]⟩,
    ⟨2, some 6, none, .p .mov, [.t 8]⟩])
   (.seq (.seq (.reg 0 [⟨0, some 9, none, .p .mov, [.t 0]⟩,
    ⟨1, some 10, none, .e .call [] [], [.f 92, .t 9, .c (.int .i64 20)]⟩])
   (.cond (.t 10) (.reg 0 [⟨0, some 11, none, .p .mov, [.t 0]⟩,
    ⟨1, some 12, none, .e .call [] [], [.f 91, .t 11, .c (.int .i64 2)]⟩,
    ⟨2, some 13, none, .p (.bin .add), [.c (.int .i64 8), .t 12]⟩,
    ⟨3, some 6, none, .p .mov, [.t 13]⟩])
   (.skip)))
   (.seq (.block 0 (.loop g671_0))
   (.seq (.reg 0 [⟨0, some 28, none, .p .mov, [.t 5]⟩,
    ⟨1, some 4, none, .p .mov, [.t 28]⟩])
   (.ret)))))),
  [.tmp 4]⟩
/- (*loop.example/g00641/spec.l1Cur).someCols -/
def g658_0 : GL.Code := .seq (.seq (.reg 0 [⟨0, some 7, none, .p .mov, [.t 6]⟩,
    ⟨1, some 8, none, .p .mov, [.t 1]⟩,
    ⟨2, some 9, none, .p (.bin .lss), [.t 7, .t 8]⟩])
   (.cond (.t 9) (.skip)
   (.exit 0)))
   (.seq (.block 1 (.seq (.reg 0 [⟨0, some 12, none, .p .mov, [.t 0]⟩,
    ⟨1, some 13, none, .e .call [] [], [.f 92, .t 12, .c (.int .i64 3)]⟩])
   (.cond (.t 13) (.reg 0 [⟨0, some 14, none, .p .mov, [.t 5]⟩,
    ⟨1, some 15, none, .p .mov, [.t 6]⟩,
    ⟨2, some 16, none, .e (.new (.lit 1)) [] [], [.t 15]⟩,
    ⟨3, some 17, none, .e (.append 1 8) [] [], [.t 14, .t 16]⟩,
    ⟨4, some 5, none, .p .mov, [.t 17]⟩])
   (.skip))))
   (.reg 0 [⟨0, some 10, none, .p .mov, [.t 6]⟩,
    ⟨1, some 11, none, .p (.bin .add), [.t 10, .c (.int .i64 1)]⟩,
    ⟨2, some 6, none, .p .mov, [.t 11]⟩]))
def g658 : GL.Fn := ⟨.seq (.reg 0 [⟨0, some 4, none, .p .mov, [.c (.nils)]⟩])
   (.seq (.reg 0 [⟨0, some 5, none, .p .mov, [.c (.nils)]⟩])
   (.seq (.seq (.reg 0 [⟨0, some 6, none, .p .mov, [.c (.int .i64 0)]⟩])
   (.block 0 (.loop g658_0)))
   (.seq (.seq (.reg 0 [⟨0, some 18, none, .p .mov, [.t 0]⟩,
    ⟨1, some 19, none, .e .call [] [], [.f 92, .t 18, .c (.int .i64 40)]⟩])
   (.cond (.t 19) (.reg 0 [⟨0, some 20, none, .p .mov, [.t 5]⟩,
    ⟨1, some 21, none, .p .mov, [.t 1]⟩,
    ⟨2, some 22, none, .e (.new (.lit 1)) [] [], [.t 21]⟩,
    ⟨3, some 23, none, .e (.append 1 8) [] [], [.t 20, .t 22]⟩,
    ⟨4, some 5, none, .p .mov, [.t 23]⟩])
   (.skip)))
   (.seq (.reg 0 [⟨0, some 24, none, .p .mov, [.t 5]⟩,
    ⟨1, some 4, none, .p .mov, [.t 24]⟩])
   (.ret))))),
  [.tmp 4]⟩
/- loop.example/g00641/impl.isDep -/
def g656 : GL.Fn := ⟨.seq (.reg 0 [⟨0, some 3, none, .l (.box 3 2), [.t 1]⟩,
    ⟨1, some 4, none, .p .mov, [.c (.bool false)]⟩])
   (.seq (.reg 0 [⟨0, some 5, none, .p .mov, [.t 0]⟩,
    ⟨1, some 6, none, .p (.faddr 0), [.t 3]⟩,
    ⟨2, some 7, none, .l (.load 3 false 1), [.t 6]⟩,
    ⟨3, some 8, none, .e .call [] [], [.f 655, .t 5, .t 7]⟩,
    ⟨4, some 9, none, .p .mov, [.t 8]⟩,
    ⟨5, some 10, some (9, true), .p .mov, [.t 0]⟩,
    ⟨6, some 11, some (9, true), .p (.faddr 1), [.t 3]⟩,
    ⟨7, some 12, some (9, true), .l (.load 3 false 1), [.t 11]⟩,
    ⟨8, some 13, some (9, true), .e .call [] [], [.f 655, .t 10, .t 12]⟩,
    ⟨9, some 14, none, .p .pick, [.t 9, .t 13, .c (.bool false)]⟩,
    ⟨10, some 4, none, .p .mov, [.t 14]⟩])
   (.ret)),
  [.tmp 4]⟩
/- loop.example/g00641/impl.implies -/
def g652 : GL.Fn := ⟨.seq (.reg 0 [⟨0, some 3, none, .l (.box 3 2), [.t 1]⟩,
    ⟨1, some 4, none, .p .mov, [.c (.bool false)]⟩])
   (.seq (.reg 0 [⟨0, some 5, none, .p .mov, [.t 0]⟩,
    ⟨1, some 6, none, .p (.faddr 0), [.t 3]⟩,
    ⟨2, some 7, none, .l (.load 3 false 1), [.t 6]⟩,
    ⟨3, some 8, none, .e .call [] [], [.f 645, .t 5, .t 7]⟩,
    ⟨4, some 9, none, .p (.faddr 1), [.t 3]⟩,
    ⟨5, some 10, none, .l (.load 3 false 1), [.t 9]⟩,
    ⟨6, some 11, none, .e .call [] [], [.f 552, .t 8, .t 10]⟩,
    ⟨7, some 4, none, .p .mov, [.t 11]⟩])
   (.ret)),
  [.tmp 4]⟩
/- loop.example/g00641/spec.GoodDeps -/
def g647_0 : GL.Code := .seq (.reg 0 [⟨0, some 18, none, .p (.bin .lss), [.t 17, .t 16]⟩])
   (.seq (.cond (.t 18) (.skip)
   (.exit 0))
   (.seq (.block 1 (.seq (.reg 0 [⟨0, some 19, none, .p (.idx 2), [.t 15, .t 17]⟩,
    ⟨1, some 20, none, .r (.load true 2) false, [.t 19]⟩,
    ⟨2, some 6, none, .l (.alloc 6 [.nils, .nils]), []⟩,
    ⟨3, none, none, .l (.store 6 2), [.t 6, .t 20]⟩])
   (.seq (.reg 0 [⟨0, some 21, none, .p .mov, [.t 0]⟩,
    ⟨1, some 22, none, .l (.load 6 true 2), [.t 6]⟩,
    ⟨2, some 23, none, .e .call [] [], [.f 672, .t 21, .t 22]⟩,
    ⟨3, some 24, none, .p (.un .not), [.t 23]⟩])
   (.cond (.t 24) (.seq (.reg 0 [⟨0, some 4, none, .p .mov, [.c (.bool false)]⟩])
   (.ret))
   (.skip)))))
   (.reg 0 [⟨0, some 25, none, .p (.bin .add), [.t 17, .c (.int .i64 1)]⟩,
    ⟨1, some 17, none, .p .mov, [.t 25]⟩])))
def g647 : GL.Fn := ⟨.seq (.reg 0 [⟨0, some 4, none, .p .mov, [.c (.bool false)]⟩])
   (.seq (.seq (.reg 0 [⟨0, some 7, none, .p .mov, [.t 0]⟩,
    ⟨1, some 8, none, .e .call [] [], [.f 98, .t 7, .c (.int .i64 1), .c (.int .i64 6)]⟩,
    ⟨2, some 9, none, .p (.un .not), [.t 8]⟩,
    ⟨3, some 10, none, .p .mov, [.t 9]⟩,
    ⟨4, some 11, some (10, false), .p .mov, [.t 1]⟩,
    ⟨5, some 12, some (10, false), .p .len, [.t 11]⟩,
    ⟨6, some 13, some (10, false), .p (.bin .gtr), [.t 12, .c (.int .i64 8)]⟩,
    ⟨7, some 14, none, .p .pick, [.t 10, .c (.bool true), .t 13]⟩])
   (.cond (.t 14) (.seq (.reg 0 [⟨0, some 4, none, .p .mov, [.c (.bool false)]⟩])
   (.ret))
   (.skip)))
   (.seq (.seq (.reg 0 [⟨0, some 15, none, .p .mov, [.t 1]⟩,
    ⟨1, some 16, none, .p .len, [.t 15]⟩,
    ⟨2, some 17, none, .p .mov, [.c (.int .i64 0)]⟩])
   (.block 0 (.loop g647_0)))
   (.seq (.reg 0 [⟨0, some 4, none, .p .mov, [.c (.bool true)]⟩])
   (.ret)))),
  [.tmp 4]⟩
/- loop.example/g00641/spec.l5Dep -/
def g672 : GL.Fn := ⟨.seq (.reg 0 [⟨0, some 3, none, .l (.box 3 2), [.t 1]⟩,
    ⟨1, some 4, none, .p .mov, [.c (.bool false)]⟩])
   (.seq (.reg 0 [⟨0, some 5, none, .p (.faddr 0), [.t 3]⟩,
    ⟨1, some 6, none, .l (.load 3 false 1), [.t 5]⟩,
    ⟨2, some 7, none, .p .mov, [.t 0]⟩,
    ⟨3, some 8, none, .p (.bin .sub), [.t 7, .c (.int .i64 1)]⟩,
    ⟨4, some 9, none, .e .call [] [], [.f 337, .t 6, .c (.int .i64 0), .t 8]⟩,
    ⟨5, some 10, none, .p .mov, [.t 9]⟩,
    ⟨6, some 11, some (10, true), .p (.faddr 1), [.t 3]⟩,
    ⟨7, some 12, some (10, true), .l (.load 3 false 1), [.t 11]⟩,
    ⟨8, some 13, some (10, true), .p .mov, [.t 0]⟩,
    ⟨9, some 14, some (10, true), .p (.bin .sub), [.t 13, .c (.int .i64 1)]⟩,
    ⟨10, some 15, some (10, true), .e .call [] [], [.f 337, .t 12, .c (.int .i64 0), .t 14]⟩,
    ⟨11, some 16, none, .p .pick, [.t 10, .t 15, .c (.bool false)]⟩,
    ⟨12, some 4, none, .p .mov, [.t 16]⟩])
   (.ret)),
  [.tmp 4]⟩
/- loop.example/g00641/spec.l5Sub -/
def g554_0 : GL.Code := .seq (.reg 0 [⟨0, some 10, none, .p (.bin .lss), [.t 9, .t 8]⟩])
   (.seq (.cond (.t 10) (.skip)
   (.exit 0))
   (.seq (.block 1 (.seq (.reg 0 [⟨0, some 11, none, .p (.idx 1), [.t 7, .t 9]⟩,
    ⟨1, some 12, none, .r (.load false 1) false, [.t 11]⟩,
    ⟨2, some 6, none, .p .mov, [.t 12]⟩])
   (.seq (.reg 0 [⟨0, some 13, none, .p .mov, [.t 1]⟩,
    ⟨1, some 14, none, .p .mov, [.t 6]⟩,
    ⟨2, some 15, none, .e .call [] [], [.f 302, .t 13, .t 14]⟩,
    ⟨3, some 16, none, .p (.un .not), [.t 15]⟩])
   (.cond (.t 16) (.seq (.reg 0 [⟨0, some 4, none, .p .mov, [.c (.bool false)]⟩])
   (.ret))
   (.skip)))))
   (.reg 0 [⟨0, some 17, none, .p (.bin .add), [.t 9, .c (.int .i64 1)]⟩,
    ⟨1, some 9, none, .p .mov, [.t 17]⟩])))
def g554 : GL.Fn := ⟨.seq (.reg 0 [⟨0, some 4, none, .p .mov, [.c (.bool false)]⟩])
   (.seq (.seq (.reg 0 [⟨0, some 7, none, .p .mov, [.t 0]⟩,
    ⟨1, some 8, none, .p .len, [.t 7]⟩,
    ⟨2, some 9, none, .p .mov, [.c (.int .i64 0)]⟩])
   (.block 0 (.loop g554_0)))
   (.seq (.reg 0 [⟨0, some 4, none, .p .mov, [.c (.bool true)]⟩])
   (.ret))),
  [.tmp 4]⟩
/- loop.example/g00641/spec.l5Closure -/
def g649_0 : GL.Code := .seq (.reg 0 [⟨0, some 36, none, .p (.bin .lss), [.t 35, .t 34]⟩])
   (.seq (.cond (.t 36) (.skip)
   (.exit 4))
   (.seq (.block 5 (.seq (.reg 0 [⟨0, some 37, none, .p (.idx 1), [.t 33, .t 35]⟩,
    ⟨1, some 38, none, .r (.load false 1) false, [.t 37]⟩,
    ⟨2, some 10, none, .p .mov, [.t 38]⟩])
   (.reg 0 [⟨0, some 39, none, .p .mov, [.t 5]⟩,
    ⟨1, some 40, none, .p .mov, [.t 10]⟩,
    ⟨2, some 41, none, .e .call [] [], [.f 410, .t 39, .t 40]⟩,
    ⟨3, some 5, none, .p .mov, [.t 41]⟩])))
   (.reg 0 [⟨0, some 42, none, .p (.bin .add), [.t 35, .c (.int .i64 1)]⟩,
    ⟨1, some 35, none, .p .mov, [.t 42]⟩])))
def g649_1 : GL.Code := .seq (.reg 0 [⟨0, some 18, none, .p (.bin .lss), [.t 17, .t 16]⟩])
   (.seq (.cond (.t 18) (.skip)
   (.exit 2))
   (.seq (.block 3 (.seq (.reg 0 [⟨0, some 19, none, .p (.idx 2), [.t 15, .t 17]⟩,
    ⟨1, some 20, none, .r (.load true 2) false, [.t 19]⟩,
    ⟨2, some 8, none, .l (.alloc 8 [.nils, .nils]), []⟩,
    ⟨3, none, none, .l (.store 8 2), [.t 8, .t 20]⟩])
   (.seq (.reg 0 [⟨0, some 21, none, .p (.faddr 0), [.t 8]⟩,
    ⟨1, some 22, none, .l (.load 8 false 1), [.t 21]⟩,
    ⟨2, some 23, none, .p .mov, [.t 5]⟩,
    ⟨3, some 24, none, .e .call [] [], [.f 554, .t 22, .t 23]⟩,
    ⟨4, some 25, none, .p .mov, [.t 24]⟩,
    ⟨5, some 26, some (25, true), .p (.faddr 1), [.t 8]⟩,
    ⟨6, some 27, some (25, true), .l (.load 8 false 1), [.t 26]⟩,
    ⟨7, some 28, some (25, true), .p .mov, [.t 5]⟩,
    ⟨8, some 29, some (25, true), .e .call [] [], [.f 554, .t 27, .t 28]⟩,
    ⟨9, some 30, some (25, true), .p (.un .not), [.t 29]⟩,
    ⟨10, some 31, none, .p .pick, [.t 25, .t 30, .c (.bool false)]⟩])
   (.cond (.t 31) (.seq (.reg 0 [⟨0, some 6, none, .p .mov, [.c (.bool true)]⟩])
   (.seq (.reg 0 [⟨0, some 32, none, .p (.faddr 1), [.t 8]⟩,
    ⟨1, some 33, none, .l (.load 8 false 1), [.t 32]⟩,
    ⟨2, some 34, none, .p .len, [.t 33]⟩,
    ⟨3, some 35, none, .p .mov, [.c (.int .i64 0)]⟩])
   (.block 4 (.loop g649_0))))
   (.skip)))))
   (.reg 0 [⟨0, some 43, none, .p (.bin .add), [.t 17, .c (.int .i64 1)]⟩,
    ⟨1, some 17, none, .p .mov, [.t 43]⟩])))
def g649_2 : GL.Code := .seq (.seq (.reg 0 [⟨0, some 14, none, .p .mov, [.t 6]⟩])
   (.cond (.t 14) (.skip)
   (.exit 0)))
   (.block 1 (.seq (.reg 0 [⟨0, some 6, none, .p .mov, [.c (.bool false)]⟩])
   (.seq (.reg 0 [⟨0, some 15, none, .p .mov, [.t 0]⟩,
    ⟨1, some 16, none, .p .len, [.t 15]⟩,
    ⟨2, some 17, none, .p .mov, [.c (.int .i64 0)]⟩])
   (.block 2 (.loop g649_1)))))
def g649 : GL.Fn := ⟨.seq (.reg 0 [⟨0, some 4, none, .p .mov, [.c (.nils)]⟩])
   (.seq (.reg 0 [⟨0, some 11, none, .e (.new (.lit 1)) [] [], []⟩,
    ⟨1, some 12, none, .p .mov, [.t 1]⟩,
    ⟨2, some 13, none, .e (.append 1 8) [] [], [.t 11, .t 12]⟩,
    ⟨3, some 5, none, .p .mov, [.t 13]⟩])
   (.seq (.seq (.reg 0 [⟨0, some 6, none, .p .mov, [.c (.bool true)]⟩])
   (.block 0 (.loop g649_2)))
   (.seq (.reg 0 [⟨0, some 44, none, .p .mov, [.t 5]⟩,
    ⟨1, some 4, none, .p .mov, [.t 44]⟩])
   (.ret)))),
  [.tmp 4]⟩
/- loop.example/g00641/impl.closure -/
def g645_0 : GL.Code := .seq (.reg 0 [⟨0, some 15, none, .p (.bin .lss), [.t 14, .t 13]⟩])
   (.seq (.cond (.t 15) (.skip)
   (.exit 2))
   (.seq (.block 3 (.seq (.reg 0 [⟨0, some 16, none, .p (.idx 2), [.t 12, .t 14]⟩,
    ⟨1, some 17, none, .r (.load true 2) false, [.t 16]⟩,
    ⟨2, some 8, none, .l (.alloc 8 [.nils, .nils]), []⟩,
    ⟨3, none, none, .l (.store 8 2), [.t 8, .t 17]⟩])
   (.seq (.reg 0 [⟨0, some 18, none, .p .mov, [.t 5]⟩,
    ⟨1, some 19, none, .p (.faddr 0), [.t 8]⟩,
    ⟨2, some 20, none, .l (.load 8 false 1), [.t 19]⟩,
    ⟨3, some 21, none, .e .call [] [], [.f 552, .t 18, .t 20]⟩,
    ⟨4, some 22, none, .p .mov, [.t 21]⟩,
    ⟨5, some 23, some (22, true), .p .mov, [.t 5]⟩,
    ⟨6, some 24, some (22, true), .p (.faddr 1), [.t 8]⟩,
    ⟨7, some 25, some (22, true), .l (.load 8 false 1), [.t 24]⟩,
    ⟨8, some 26, some (22, true), .e .call [] [], [.f 552, .t 23, .t 25]⟩,
    ⟨9, some 27, some (22, true), .p (.un .not), [.t 26]⟩,
    ⟨10, some 28, none, .p .pick, [.t 22, .t 27, .c (.bool false)]⟩])
   (.cond (.t 28) (.reg 0 [⟨0, some 29, none, .p .mov, [.t 5]⟩,
    ⟨1, some 30, none, .p (.faddr 1), [.t 8]⟩,
    ⟨2, some 31, none, .l (.load 8 false 1), [.t 30]⟩,
    ⟨3, some 32, none, .e .call [] [], [.f 412, .t 29, .t 31]⟩,
    ⟨4, some 5, none, .p .mov, [.t 32]⟩,
    ⟨5, some 6, none, .p .mov, [.c (.bool true)]⟩])
   (.skip)))))
   (.reg 0 [⟨0, some 33, none, .p (.bin .add), [.t 14, .c (.int .i64 1)]⟩,
    ⟨1, some 14, none, .p .mov, [.t 33]⟩])))
def g645_1 : GL.Code := .seq (.seq (.reg 0 [⟨0, some 11, none, .p .mov, [.t 6]⟩])
   (.cond (.t 11) (.skip)
   (.exit 0)))
   (.block 1 (.seq (.reg 0 [⟨0, some 6, none, .p .mov, [.c (.bool false)]⟩])
   (.seq (.reg 0 [⟨0, some 12, none, .p .mov, [.t 0]⟩,
    ⟨1, some 13, none, .p .len, [.t 12]⟩,
    ⟨2, some 14, none, .p .mov, [.c (.int .i64 0)]⟩])
   (.block 2 (.loop g645_0)))))
def g645 : GL.Fn := ⟨.seq (.reg 0 [⟨0, some 4, none, .p .mov, [.c (.nils)]⟩])
   (.seq (.reg 0 [⟨0, some 9, none, .p .mov, [.t 1]⟩,
    ⟨1, some 10, none, .e .call [] [], [.f 389, .t 9]⟩,
    ⟨2, some 5, none, .p .mov, [.t 10]⟩])
   (.seq (.seq (.reg 0 [⟨0, some 6, none, .p .mov, [.c (.bool true)]⟩])
   (.block 0 (.loop g645_1)))
   (.seq (.reg 0 [⟨0, some 34, none, .p .mov, [.t 5]⟩,
    ⟨1, some 4, none, .p .mov, [.t 34]⟩])
   (.ret)))),
  [.tmp 4]⟩
/- slices.Contains[[]int,int] -/
def g301 : GL.Fn := ⟨.seq (.reg 0 [⟨0, some 4, none, .p .mov, [.c (.bool false)]⟩])
   (.seq (.reg 0 [⟨0, some 5, none, .p .mov, [.t 0]⟩,
    ⟨1, some 6, none, .p .mov, [.t 1]⟩,
    ⟨2, some 7, none, .e .call [] [], [.f 390, .t 5, .t 6]⟩,
    ⟨3, some 8, none, .p (.bin .geq), [.t 7, .c (.int .i64 0)]⟩,
    ⟨4, some 4, none, .p .mov, [.t 8]⟩])
   (.ret)),
  [.tmp 4]⟩
/- loop.example/g00641/impl.allColumns -/
def g598_0 : GL.Code := .seq (.reg 0 [⟨0, some 8, none, .p (.bin .lss), [.t 7, .t 6]⟩])
   (.seq (.cond (.t 8) (.skip)
   (.exit 0))
   (.seq (.block 1 (.seq (.reg 0 [⟨0, some 9, none, .p .mov, [.t 7]⟩,
    ⟨1, some 4, none, .p .mov, [.t 9]⟩])
   (.reg 0 [⟨0, some 10, none, .p .mov, [.t 3]⟩,
    ⟨1, some 11, none, .p .mov, [.t 4]⟩,
    ⟨2, some 12, none, .e (.new (.lit 1)) [] [], [.t 11]⟩,
    ⟨3, some 13, none, .e (.append 1 8) [] [], [.t 10, .t 12]⟩,
    ⟨4, some 3, none, .p .mov, [.t 13]⟩])))
   (.reg 0 [⟨0, some 14, none, .p (.bin .add), [.t 7, .c (.int .i64 1)]⟩,
    ⟨1, some 7, none, .p .mov, [.t 14]⟩])))
def g598 : GL.Fn := ⟨.seq (.reg 0 [⟨0, some 2, none, .p .mov, [.c (.nils)]⟩])
   (.seq (.reg 0 [⟨0, some 5, none, .e (.new (.lit 1)) [] [], []⟩,
    ⟨1, some 3, none, .p .mov, [.t 5]⟩])
   (.seq (.seq (.reg 0 [⟨0, some 6, none, .p .mov, [.t 0]⟩,
    ⟨1, some 7, none, .p .mov, [.c (.int .i64 0)]⟩])
   (.block 0 (.loop g598_0)))
   (.seq (.reg 0 [⟨0, some 15, none, .p .mov, [.t 3]⟩,
    ⟨1, some 2, none, .p .mov, [.t 15]⟩])
   (.ret)))),
  [.tmp 2]⟩
/- loop.example/g00641/spec.l1Has -/
def g302_0 : GL.Code := .seq (.reg 0 [⟨0, some 10, none, .p (.bin .lss), [.t 9, .t 8]⟩])
   (.seq (.cond (.t 10) (.skip)
   (.exit 0))
   (.seq (.block 1 (.seq (.reg 0 [⟨0, some 11, none, .p (.idx 1), [.t 7, .t 9]⟩,
    ⟨1, some 12, none, .r (.load false 1) false, [.t 11]⟩,
    ⟨2, some 6, none, .p .mov, [.t 12]⟩])
   (.seq (.reg 0 [⟨0, some 13, none, .p .mov, [.t 6]⟩,
    ⟨1, some 14, none, .p .mov, [.t 1]⟩,
    ⟨2, some 15, none, .p (.bin .eql), [.t 13, .t 14]⟩])
   (.cond (.t 15) (.seq (.reg 0 [⟨0, some 4, none, .p .mov, [.c (.bool true)]⟩])
   (.ret))
   (.skip)))))
   (.reg 0 [⟨0, some 16, none, .p (.bin .add), [.t 9, .c (.int .i64 1)]⟩,
    ⟨1, some 9, none, .p .mov, [.t 16]⟩])))
def g302 : GL.Fn := ⟨.seq (.reg 0 [⟨0, some 4, none, .p .mov, [.c (.bool false)]⟩])
   (.seq (.seq (.reg 0 [⟨0, some 7, none, .p .mov, [.t 0]⟩,
    ⟨1, some 8, none, .p .len, [.t 7]⟩,
    ⟨2, some 9, none, .p .mov, [.c (.int .i64 0)]⟩])
   (.block 0 (.loop g302_0)))
   (.seq (.reg 0 [⟨0, some 4, none, .p .mov, [.c (.bool false)]⟩])
   (.ret))),
  [.tmp 4]⟩
/- loop.example/g00641/spec.l3Tell -/
def g674_0 : GL.Code := .seq (.reg 0 [⟨0, some 16, none, .p (.bin .lss), [.t 15, .t 14]⟩])
   (.seq (.cond (.t 16) (.skip)
   (.exit 0))
   (.seq (.block 1 (.seq (.reg 0 [⟨0, some 17, none, .p (.idx 1), [.t 13, .t 15]⟩,
    ⟨1, some 18, none, .r (.load false 1) false, [.t 17]⟩,
    ⟨2, some 8, none, .p .mov, [.t 18]⟩])
   (.reg 0 [⟨0, some 19, none, .p (.faddr 1), [.t 6]⟩,
    ⟨1, some 20, none, .l (.load 6 false 1), [.t 19]⟩,
    ⟨2, some 21, none, .p .mov, [.t 8]⟩,
    ⟨3, some 22, none, .e .call [] [], [.f 687, .t 20, .t 21]⟩,
    ⟨4, some 23, none, .p (.faddr 1), [.t 6]⟩,
    ⟨5, none, none, .l (.store 6 1), [.t 23, .t 22]⟩])))
   (.reg 0 [⟨0, some 24, none, .p (.bin .add), [.t 15, .c (.int .i64 1)]⟩,
    ⟨1, some 15, none, .p .mov, [.t 24]⟩])))
def g674 : GL.Fn := ⟨.seq (.reg 0 [⟨0, some 4, none, .l (.alloc 4 [.nils, .nils]), []⟩,
    ⟨1, some 5, none, .p .mov, [.c (.bool false)]⟩])
   (.seq (.reg 0 [⟨0, some 9, none, .e (.new (.lit 1)) [] [], []⟩,
    ⟨1, some 10, none, .p .mov, [.t 0]⟩,
    ⟨2, some 11, none, .e (.append 1 8) [] [], [.t 9, .t 10]⟩,
    ⟨3, some 12, none, .p (.build [.nils, .nils] [(0, 1)]), [.t 11]⟩,
    ⟨4, some 6, none, .l (.alloc 6 [.nils, .nils]), []⟩,
    ⟨5, none, none, .l (.store 6 2), [.t 6, .t 12]⟩])
   (.seq (.seq (.reg 0 [⟨0, some 13, none, .p .mov, [.t 1]⟩,
    ⟨1, some 14, none, .p .len, [.t 13]⟩,
    ⟨2, some 15, none, .p .mov, [.c (.int .i64 0)]⟩])
   (.block 0 (.loop g674_0)))
   (.seq (.seq (.reg 0 [⟨0, some 25, none, .l (.load 6 true 2), [.t 6]⟩,
    ⟨1, some 26, none, .e .call [] [], [.f 662, .t 25]⟩,
    ⟨2, some 27, none, .p (.un .not), [.t 26]⟩])
   (.cond (.t 27) (.seq (.reg 0 [⟨0, some 28, none, .p (.build [.nils, .nils] []), []⟩,
    ⟨1, none, none, .l (.store 4 2), [.t 4, .t 28]⟩,
    ⟨2, some 5, none, .p .mov, [.c (.bool false)]⟩])
   (.ret))
   (.skip)))
   (.seq (.reg 0 [⟨0, some 29, none, .l (.load 6 true 2), [.t 6]⟩,
    ⟨1, none, none, .l (.store 4 2), [.t 4, .t 29]⟩,
    ⟨2, some 5, none, .p .mov, [.c (.bool true)]⟩])
   (.ret))))),
  [.cellL 4 4 true 2, .tmp 5]⟩
/- loop.example/g00641/impl.GoodRelation -/
def g659_0 : GL.Code := .seq (.reg 0 [⟨0, some 25, none, .p (.bin .lss), [.t 24, .t 23]⟩])
   (.seq (.cond (.t 25) (.skip)
   (.exit 0))
   (.seq (.block 1 (.seq (.reg 0 [⟨0, some 26, none, .p .mov, [.t 24]⟩,
    ⟨1, some 27, none, .p (.idx 1), [.t 22, .t 24]⟩,
    ⟨2, some 28, none, .r (.load false 1) false, [.t 27]⟩,
    ⟨3, some 3, none, .p .mov, [.t 26]⟩,
    ⟨4, some 4, none, .p .mov, [.t 28]⟩])
   (.seq (.seq (.reg 0 [⟨0, some 29, none, .p .mov, [.t 4]⟩,
    ⟨1, some 30, none, .p .len, [.t 29]⟩,
    ⟨2, some 31, none, .p (.faddr 0), [.t 1]⟩,
    ⟨3, some 32, none, .l (.load 1 false 1), [.t 31]⟩,
    ⟨4, some 33, none, .p .len, [.t 32]⟩,
    ⟨5, some 34, none, .p (.bin .neq), [.t 30, .t 33]⟩,
    ⟨6, some 35, none, .p .mov, [.t 34]⟩,
    ⟨7, some 36, some (35, false), .p .mov, [.t 4]⟩,
    ⟨8, some 37, some (35, false), .e .call [] [], [.f 304, .t 36, .f 676]⟩,
    ⟨9, some 38, none, .p .pick, [.t 35, .c (.bool true), .t 37]⟩])
   (.cond (.t 38) (.seq (.reg 0 [⟨0, some 2, none, .p .mov, [.c (.bool false)]⟩])
   (.ret))
   (.skip)))
   (.seq (.reg 0 [⟨0, some 39, none, .p .mov, [.t 3]⟩,
    ⟨1, some 40, none, .p (.bin .gtr), [.t 39, .c (.int .i64 0)]⟩,
    ⟨2, some 41, none, .p .mov, [.t 40]⟩,
    ⟨3, some 42, some (41, true), .p (.faddr 1), [.t 1]⟩,
    ⟨4, some 43, some (41, true), .l (.load 1 false 1), [.t 42]⟩,
    ⟨5, some 44, some (41, true), .p .mov, [.t 3]⟩,
    ⟨6, some 45, some (41, true), .p (.bin .sub), [.t 44, .c (.int .i64 1)]⟩,
    ⟨7, some 46, some (41, true), .p (.idx 1), [.t 43, .t 45]⟩,
    ⟨8, some 47, some (41, true), .r (.load false 1) false, [.t 46]⟩,
    ⟨9, some 48, some (41, true), .p .mov, [.t 4]⟩,
    ⟨10, some 49, some (41, true), .e .call [] [], [.f 677, .t 47, .t 48]⟩,
    ⟨11, some 50, some (41, true), .p (.bin .geq), [.t 49, .c (.int .i64 0)]⟩,
    ⟨12, some 51, none, .p .pick, [.t 41, .t 50, .c (.bool false)]⟩])
   (.cond (.t 51) (.seq (.reg 0 [⟨0, some 2, none, .p .mov, [.c (.bool false)]⟩])
   (.ret))
   (.skip))))))
   (.reg 0 [⟨0, some 52, none, .p (.bin .add), [.t 24, .c (.int .i64 1)]⟩,
    ⟨1, some 24, none, .p .mov, [.t 52]⟩])))
def g659 : GL.Fn := ⟨.seq (.reg 0 [⟨0, some 1, none, .l (.box 1 2), [.t 0]⟩,
    ⟨1, some 2, none, .p .mov, [.c (.bool false)]⟩])
   (.seq (.seq (.reg 0 [⟨0, some 5, none, .p (.faddr 0), [.t 1]⟩,
    ⟨1, some 6, none, .l (.load 1 false 1), [.t 5]⟩,
    ⟨2, some 7, none, .p .len, [.t 6]⟩,
    ⟨3, some 8, none, .p (.bin .gtr), [.t 7, .c (.int .i64 6)]⟩,
    ⟨4, some 9, none, .p .mov, [.t 8]⟩,
    ⟨5, some 10, some (9, false), .p (.faddr 0), [.t 1]⟩,
    ⟨6, some 11, some (9, false), .l (.load 1 false 1), [.t 10]⟩,
    ⟨7, some 12, some (9, false), .e .call [] [], [.f 385, .t 11, .c (.int .i64 0), .c (.int .i64 20)]⟩,
    ⟨8, some 13, some (9, false), .p (.un .not), [.t 12]⟩,
    ⟨9, some 14, none, .p .pick, [.t 9, .c (.bool true), .t 13]⟩,
    ⟨10, some 15, none, .p .mov, [.t 14]⟩,
    ⟨11, some 16, some (15, false), .p (.faddr 1), [.t 1]⟩,
    ⟨12, some 17, some (15, false), .l (.load 1 false 1), [.t 16]⟩,
    ⟨13, some 18, some (15, false), .p .len, [.t 17]⟩,
    ⟨14, some 19, some (15, false), .p (.bin .gtr), [.t 18, .c (.int .i64 60)]⟩,
    ⟨15, some 20, none, .p .pick, [.t 15, .c (.bool true), .t 19]⟩])
   (.cond (.t 20) (.seq (.reg 0 [⟨0, some 2, none, .p .mov, [.c (.bool false)]⟩])
   (.ret))
   (.skip)))
   (.seq (.seq (.reg 0 [⟨0, some 21, none, .p (.faddr 1), [.t 1]⟩,
    ⟨1, some 22, none, .l (.load 1 false 1), [.t 21]⟩,
    ⟨2, some 23, none, .p .len, [.t 22]⟩,
    ⟨3, some 24, none, .p .mov, [.c (.int .i64 0)]⟩])
   (.block 0 (.loop g659_0)))
   (.seq (.reg 0 [⟨0, some 2, none, .p .mov, [.c (.bool true)]⟩])
   (.ret)))),
  [.tmp 2]⟩
/- loop.example/g00641/impl.isPart -/
def g660_0 : GL.Code := .seq (.reg 0 [⟨0, some 10, none, .p (.bin .lss), [.t 9, .t 8]⟩])
   (.seq (.cond (.t 10) (.skip)
   (.exit 0))
   (.seq (.block 1 (.seq (.reg 0 [⟨0, some 11, none, .p .mov, [.t 9]⟩,
    ⟨1, some 12, none, .p (.idx 1), [.t 7, .t 9]⟩,
    ⟨2, some 13, none, .r (.load false 1) false, [.t 12]⟩,
    ⟨3, some 5, none, .p .mov, [.t 11]⟩,
    ⟨4, some 6, none, .p .mov, [.t 13]⟩])
   (.seq (.reg 0 [⟨0, some 14, none, .p .mov, [.t 1]⟩,
    ⟨1, some 15, none, .p .mov, [.t 6]⟩,
    ⟨2, some 16, none, .e .call [] [], [.f 301, .t 14, .t 15]⟩,
    ⟨3, some 17, none, .p (.un .not), [.t 16]⟩,
    ⟨4, some 18, none, .p .mov, [.t 17]⟩,
    ⟨5, some 19, some (18, false), .p .mov, [.t 5]⟩,
    ⟨6, some 20, some (18, false), .p (.bin .gtr), [.t 19, .c (.int .i64 0)]⟩,
    ⟨7, some 21, some (18, false), .p .mov, [.t 20]⟩,
    ⟨8, some 22, some (21, true), .p .mov, [.t 0]⟩,
    ⟨9, some 23, some (21, true), .p .mov, [.t 5]⟩,
    ⟨10, some 24, some (21, true), .p (.bin .sub), [.t 23, .c (.int .i64 1)]⟩,
    ⟨11, some 25, some (21, true), .p (.idx 1), [.t 22, .t 24]⟩,
    ⟨12, some 26, some (21, true), .r (.load false 1) false, [.t 25]⟩,
    ⟨13, some 27, some (21, true), .p .mov, [.t 6]⟩,
    ⟨14, some 28, some (21, true), .p (.bin .geq), [.t 26, .t 27]⟩,
    ⟨15, some 29, some (18, false), .p .pick, [.t 21, .t 28, .c (.bool false)]⟩,
    ⟨16, some 30, none, .p .pick, [.t 18, .c (.bool true), .t 29]⟩])
   (.cond (.t 30) (.seq (.reg 0 [⟨0, some 4, none, .p .mov, [.c (.bool false)]⟩])
   (.ret))
   (.skip)))))
   (.reg 0 [⟨0, some 31, none, .p (.bin .add), [.t 9, .c (.int .i64 1)]⟩,
    ⟨1, some 9, none, .p .mov, [.t 31]⟩])))
def g660 : GL.Fn := ⟨.seq (.reg 0 [⟨0, some 4, none, .p .mov, [.c (.bool false)]⟩])
   (.seq (.seq (.reg 0 [⟨0, some 7, none, .p .mov, [.t 0]⟩,
    ⟨1, some 8, none, .p .len, [.t 7]⟩,
    ⟨2, some 9, none, .p .mov, [.c (.int .i64 0)]⟩])
   (.block 0 (.loop g660_0)))
   (.seq (.reg 0 [⟨0, some 4, none, .p .mov, [.c (.bool true)]⟩])
   (.ret))),
  [.tmp 4]⟩
/- slices.Equal[[]int,int] -/
def g386_0 : GL.Code := .seq (.reg 0 [⟨0, some 14, none, .p (.bin .lss), [.t 13, .t 12]⟩])
   (.seq (.cond (.t 14) (.skip)
   (.exit 0))
   (.seq (.block 1 (.seq (.reg 0 [⟨0, some 15, none, .p .mov, [.t 13]⟩,
    ⟨1, some 5, none, .p .mov, [.t 15]⟩])
   (.seq (.reg 0 [⟨0, some 16, none, .p .mov, [.t 0]⟩,
    ⟨1, some 17, none, .p .mov, [.t 5]⟩,
    ⟨2, some 18, none, .p (.idx 1), [.t 16, .t 17]⟩,
    ⟨3, some 19, none, .r (.load false 1) false, [.t 18]⟩,
    ⟨4, some 20, none, .p .mov, [.t 1]⟩,
    ⟨5, some 21, none, .p .mov, [.t 5]⟩,
    ⟨6, some 22, none, .p (.idx 1), [.t 20, .t 21]⟩,
    ⟨7, some 23, none, .r (.load false 1) false, [.t 22]⟩,
    ⟨8, some 24, none, .p (.bin .neq), [.t 19, .t 23]⟩])
   (.cond (.t 24) (.seq (.reg 0 [⟨0, some 4, none, .p .mov, [.c (.bool false)]⟩])
   (.ret))
   (.skip)))))
   (.reg 0 [⟨0, some 25, none, .p (.bin .add), [.t 13, .c (.int .i64 1)]⟩,
    ⟨1, some 13, none, .p .mov, [.t 25]⟩])))
def g386 : GL.Fn := ⟨.seq (.reg 0 [⟨0, some 4, none, .p .mov, [.c (.bool false)]⟩])
   (.seq (.seq (.reg 0 [⟨0, some 6, none, .p .mov, [.t 0]⟩,
    ⟨1, some 7, none, .p .len, [.t 6]⟩,
    ⟨2, some 8, none, .p .mov, [.t 1]⟩,
    ⟨3, some 9, none, .p .len, [.t 8]⟩,
    ⟨4, some 10, none, .p (.bin .neq), [.t 7, .t 9]⟩])
   (.cond (.t 10) (.seq (.reg 0 [⟨0, some 4, none, .p .mov, [.c (.bool false)]⟩])
   (.ret))
   (.skip)))
   (.seq (.seq (.reg 0 [⟨0, some 11, none, .p .mov, [.t 0]⟩,
    ⟨1, some 12, none, .p .len, [.t 11]⟩,
    ⟨2, some 13, none, .p .mov, [.c (.int .i64 0)]⟩])
   (.block 0 (.loop g386_0)))
   (.seq (.reg 0 [⟨0, some 4, none, .p .mov, [.c (.bool true)]⟩])
   (.ret)))),
  [.tmp 4]⟩
/- loop.example/g00641/impl.under -/
def g661_0 : GL.Code := .seq (.reg 0 [⟨0, some 14, none, .p (.bin .lss), [.t 13, .t 12]⟩])
   (.seq (.cond (.t 14) (.skip)
   (.exit 0))
   (.seq (.block 1 (.seq (.reg 0 [⟨0, some 15, none, .p (.idx 1), [.t 11, .t 13]⟩,
    ⟨1, some 16, none, .r (.load false 1) false, [.t 15]⟩,
    ⟨2, some 9, none, .p .mov, [.t 16]⟩])
   (.reg 0 [⟨0, some 17, none, .p .mov, [.t 7]⟩,
    ⟨1, some 18, none, .p .mov, [.t 1]⟩,
    ⟨2, some 19, none, .p .mov, [.t 0]⟩,
    ⟨3, some 20, none, .p .mov, [.t 9]⟩,
    ⟨4, some 21, none, .e .call [] [], [.f 390, .t 19, .t 20]⟩,
    ⟨5, some 22, none, .p (.idx 1), [.t 18, .t 21]⟩,
    ⟨6, some 23, none, .r (.load false 1) false, [.t 22]⟩,
    ⟨7, some 24, none, .e (.new (.lit 1)) [] [], [.t 23]⟩,
    ⟨8, some 25, none, .e (.append 1 8) [] [], [.t 17, .t 24]⟩,
    ⟨9, some 7, none, .p .mov, [.t 25]⟩])))
   (.reg 0 [⟨0, some 26, none, .p (.bin .add), [.t 13, .c (.int .i64 1)]⟩,
    ⟨1, some 13, none, .p .mov, [.t 26]⟩])))
def g661 : GL.Fn := ⟨.seq (.reg 0 [⟨0, some 6, none, .p .mov, [.c (.nils)]⟩])
   (.seq (.reg 0 [⟨0, some 10, none, .e (.new (.lit 1)) [] [], []⟩,
    ⟨1, some 7, none, .p .mov, [.t 10]⟩])
   (.seq (.seq (.reg 0 [⟨0, some 11, none, .p .mov, [.t 2]⟩,
    ⟨1, some 12, none, .p .len, [.t 11]⟩,
    ⟨2, some 13, none, .p .mov, [.c (.int .i64 0)]⟩])
   (.block 0 (.loop g661_0)))
   (.seq (.reg 0 [⟨0, some 27, none, .p .mov, [.t 7]⟩,
    ⟨1, some 6, none, .p .mov, [.t 27]⟩])
   (.ret)))),
  [.tmp 6]⟩
/- loop.example/g00641/impl.areColumns -/
def g655 : GL.Fn := ⟨.seq (.reg 0 [⟨0, some 4, none, .p .mov, [.c (.bool false)]⟩])
   (.seq (.reg 0 [⟨0, some 5, none, .p .mov, [.t 1]⟩,
    ⟨1, some 6, none, .p .mov, [.t 0]⟩,
    ⟨2, some 7, none, .p (.bin .sub), [.t 6, .c (.int .i64 1)]⟩,
    ⟨3, some 8, none, .e .call [] [], [.f 385, .t 5, .c (.int .i64 0), .t 7]⟩,
    ⟨4, some 4, none, .p .mov, [.t 8]⟩])
   (.ret)),
  [.tmp 4]⟩
/- loop.example/g00641/spec.l1Rising -/
def g337_0 : GL.Code := .seq (.reg 0 [⟨0, some 12, none, .p (.bin .lss), [.t 11, .t 10]⟩])
   (.seq (.cond (.t 12) (.skip)
   (.exit 0))
   (.seq (.block 1 (.seq (.reg 0 [⟨0, some 13, none, .p .mov, [.t 11]⟩,
    ⟨1, some 14, none, .p (.idx 1), [.t 9, .t 11]⟩,
    ⟨2, some 15, none, .r (.load false 1) false, [.t 14]⟩,
    ⟨3, some 7, none, .p .mov, [.t 13]⟩,
    ⟨4, some 8, none, .p .mov, [.t 15]⟩])
   (.seq (.reg 0 [⟨0, some 16, none, .p .mov, [.t 8]⟩,
    ⟨1, some 17, none, .p .mov, [.t 1]⟩,
    ⟨2, some 18, none, .p .mov, [.t 2]⟩,
    ⟨3, some 19, none, .e .call [] [], [.f 98, .t 16, .t 17, .t 18]⟩,
    ⟨4, some 20, none, .p (.un .not), [.t 19]⟩,
    ⟨5, some 21, none, .p .mov, [.t 20]⟩,
    ⟨6, some 22, some (21, false), .p .mov, [.t 7]⟩,
    ⟨7, some 23, some (21, false), .p (.bin .gtr), [.t 22, .c (.int .i64 0)]⟩,
    ⟨8, some 24, some (21, false), .p .mov, [.t 23]⟩,
    ⟨9, some 25, some (24, true), .p .mov, [.t 0]⟩,
    ⟨10, some 26, some (24, true), .p .mov, [.t 7]⟩,
    ⟨11, some 27, some (24, true), .p (.bin .sub), [.t 26, .c (.int .i64 1)]⟩,
    ⟨12, some 28, some (24, true), .p (.idx 1), [.t 25, .t 27]⟩,
    ⟨13, some 29, some (24, true), .r (.load false 1) false, [.t 28]⟩,
    ⟨14, some 30, some (24, true), .p .mov, [.t 8]⟩,
    ⟨15, some 31, some (24, true), .p (.bin .geq), [.t 29, .t 30]⟩,
    ⟨16, some 32, some (21, false), .p .pick, [.t 24, .t 31, .c (.bool false)]⟩,
    ⟨17, some 33, none, .p .pick, [.t 21, .c (.bool true), .t 32]⟩])
   (.cond (.t 33) (.seq (.reg 0 [⟨0, some 6, none, .p .mov, [.c (.bool false)]⟩])
   (.ret))
   (.skip)))))
   (.reg 0 [⟨0, some 34, none, .p (.bin .add), [.t 11, .c (.int .i64 1)]⟩,
    ⟨1, some 11, none, .p .mov, [.t 34]⟩])))
def g337 : GL.Fn := ⟨.seq (.reg 0 [⟨0, some 6, none, .p .mov, [.c (.bool false)]⟩])
   (.seq (.seq (.reg 0 [⟨0, some 9, none, .p .mov, [.t 0]⟩,
    ⟨1, some 10, none, .p .len, [.t 9]⟩,
    ⟨2, some 11, none, .p .mov, [.c (.int .i64 0)]⟩])
   (.block 0 (.loop g337_0)))
   (.seq (.reg 0 [⟨0, some 6, none, .p .mov, [.c (.bool true)]⟩])
   (.ret))),
  [.tmp 6]⟩
/- (*loop.example/g00641/spec.l1Cur).one -/
def g92 : GL.Fn := ⟨.seq (.reg 0 [⟨0, some 4, none, .p .mov, [.c (.bool false)]⟩])
   (.seq (.reg 0 [⟨0, some 5, none, .p .mov, [.t 0]⟩,
    ⟨1, some 6, none, .p .mov, [.t 1]⟩,
    ⟨2, some 7, none, .e .call [] [], [.f 91, .t 5, .t 6]⟩,
    ⟨3, some 8, none, .p (.bin .eql), [.t 7, .c (.int .i64 0)]⟩,
    ⟨4, some 4, none, .p .mov, [.t 8]⟩])
   (.ret)),
  [.tmp 4]⟩
/- loop.example/g00641/spec.DrawGoodDeps -/
def g643 : GL.Fn := ⟨.seq (.reg 0 [⟨0, some 2, none, .p .mov, [.c (.int .i64 0)]⟩,
    ⟨1, some 3, none, .p .mov, [.c (.nils)]⟩])
   (.seq (.reg 0 [⟨0, some 6, none, .p .mov, [.t 0]⟩,
    ⟨1, some 7, none, .p (.build [.nils, .int .i64 0, .int .u64 0] [(0, 1)]), [.t 6]⟩,
    ⟨2, some 8, none, .e (.new (.box 3)) [] [], [.t 7]⟩,
    ⟨3, some 4, none, .p .mov, [.t 8]⟩])
   (.seq (.reg 0 [⟨0, some 9, none, .p .mov, [.t 4]⟩,
    ⟨1, some 10, none, .e .call [] [], [.f 670, .t 9]⟩,
    ⟨2, some 5, none, .p .mov, [.t 10]⟩])
   (.seq (.reg 0 [⟨0, some 11, none, .p .mov, [.t 5]⟩,
    ⟨1, some 12, none, .p .mov, [.t 4]⟩,
    ⟨2, some 13, none, .p .mov, [.t 5]⟩,
    ⟨3, some 14, none, .e .call [] [], [.f 671, .t 12, .t 13]⟩,
    ⟨4, some 2, none, .p .mov, [.t 11]⟩,
    ⟨5, some 3, none, .p .mov, [.t 14]⟩])
   (.ret)))),
  [.tmp 2, .tmp 3]⟩
/- loop.example/g00641/impl.together -/
def g412 : GL.Fn := ⟨.seq (.reg 0 [⟨0, some 4, none, .p .mov, [.c (.nils)]⟩])
   (.seq (.reg 0 [⟨0, some 6, none, .p .mov, [.t 0]⟩,
    ⟨1, some 7, none, .p .mov, [.t 1]⟩,
    ⟨2, some 8, none, .e (.new (.lit 1)) [] [], [.t 6, .t 7]⟩,
    ⟨3, some 9, none, .e .call [] [], [.f 429, .t 8]⟩,
    ⟨4, some 5, none, .p .mov, [.t 9]⟩])
   (.seq (.reg 0 [⟨0, some 10, none, .p .mov, [.t 5]⟩,
    ⟨1, some 11, none, .e .call [] [], [.f 340, .t 10]⟩])
   (.seq (.reg 0 [⟨0, some 12, none, .p .mov, [.t 5]⟩,
    ⟨1, some 13, none, .e .call [] [], [.f 430, .t 12]⟩,
    ⟨2, some 4, none, .p .mov, [.t 13]⟩])
   (.ret)))),
  [.tmp 4]⟩
/- loop.example/g00641/impl.without -/
def g428 : GL.Fn := ⟨.seq (.reg 0 [⟨0, some 3, none, .e (.new (.box 1)) [] [], [.t 1]⟩,
    ⟨1, some 4, none, .p .mov, [.c (.nils)]⟩])
   (.seq (.reg 0 [⟨0, some 5, none, .p .mov, [.t 0]⟩,
    ⟨1, some 6, none, .e .call [] [], [.f 389, .t 5]⟩,
    ⟨2, some 7, none, .p (.mkFn 435), [.t 3]⟩,
    ⟨3, some 8, none, .e .call [] [], [.f 397, .t 6, .t 7]⟩,
    ⟨4, some 4, none, .p .mov, [.t 8]⟩])
   (.ret)),
  [.tmp 4]⟩
/- loop.example/g00641/spec.l5List -/
def g648_0 : GL.Code := .seq (.seq (.reg 0 [⟨0, some 5, none, .p .mov, [.t 0]⟩,
    ⟨1, some 6, none, .p .mov, [.t 4]⟩,
    ⟨2, some 7, none, .p (.conv .u64), [.t 6]⟩,
    ⟨3, some 8, none, .p (.bin .shr), [.t 5, .t 7]⟩,
    ⟨4, some 9, none, .p (.bin .gtr), [.t 8, .c (.int .i64 0)]⟩])
   (.cond (.t 9) (.skip)
   (.exit 0)))
   (.seq (.block 1 (.seq (.reg 0 [⟨0, some 12, none, .p .mov, [.t 0]⟩,
    ⟨1, some 13, none, .p .mov, [.t 4]⟩,
    ⟨2, some 14, none, .p (.conv .u64), [.t 13]⟩,
    ⟨3, some 15, none, .p (.bin .shr), [.t 12, .t 14]⟩,
    ⟨4, some 16, none, .p (.bin .and), [.t 15, .c (.int .i64 1)]⟩,
    ⟨5, some 17, none, .p (.bin .eql), [.t 16, .c (.int .i64 1)]⟩])
   (.cond (.t 17) (.reg 0 [⟨0, some 18, none, .p .mov, [.t 3]⟩,
    ⟨1, some 19, none, .p .mov, [.t 4]⟩,
    ⟨2, some 20, none, .e (.new (.lit 1)) [] [], [.t 19]⟩,
    ⟨3, some 21, none, .e (.append 1 8) [] [], [.t 18, .t 20]⟩,
    ⟨4, some 3, none, .p .mov, [.t 21]⟩])
   (.skip))))
   (.reg 0 [⟨0, some 10, none, .p .mov, [.t 4]⟩,
    ⟨1, some 11, none, .p (.bin .add), [.t 10, .c (.int .i64 1)]⟩,
    ⟨2, some 4, none, .p .mov, [.t 11]⟩]))
def g648 : GL.Fn := ⟨.seq (.reg 0 [⟨0, some 2, none, .p .mov, [.c (.nils)]⟩])
   (.seq (.reg 0 [⟨0, some 3, none, .p .mov, [.c (.nils)]⟩])
   (.seq (.seq (.reg 0 [⟨0, some 4, none, .p .mov, [.c (.int .i64 0)]⟩])
   (.block 0 (.loop g648_0)))
   (.seq (.reg 0 [⟨0, some 22, none, .p .mov, [.t 3]⟩,
    ⟨1, some 2, none, .p .mov, [.t 22]⟩])
   (.ret)))),
  [.tmp 2]⟩
/- loop.example/g00641/impl.lists -/
def g644_0 : GL.Code := .seq (.reg 0 [⟨0, some 19, none, .p (.bin .lss), [.t 18, .t 17]⟩])
   (.seq (.cond (.t 19) (.skip)
   (.exit 2))
   (.seq (.block 3 (.seq (.reg 0 [⟨0, some 20, none, .p .mov, [.t 18]⟩,
    ⟨1, some 21, none, .p (.idx 1), [.t 16, .t 18]⟩,
    ⟨2, some 22, none, .r (.load false 1) false, [.t 21]⟩,
    ⟨3, some 6, none, .p .mov, [.t 20]⟩,
    ⟨4, some 7, none, .p .mov, [.t 22]⟩])
   (.seq (.reg 0 [⟨0, some 23, none, .p .mov, [.t 4]⟩,
    ⟨1, some 24, none, .p .mov, [.t 6]⟩,
    ⟨2, some 25, none, .p (.bin .shr), [.t 23, .t 24]⟩,
    ⟨3, some 26, none, .p (.bin .and), [.t 25, .c (.int .i64 1)]⟩,
    ⟨4, some 27, none, .p (.bin .eql), [.t 26, .c (.int .i64 1)]⟩])
   (.cond (.t 27) (.reg 0 [⟨0, some 28, none, .p .mov, [.t 5]⟩,
    ⟨1, some 29, none, .p .mov, [.t 7]⟩,
    ⟨2, some 30, none, .e (.new (.lit 1)) [] [], [.t 29]⟩,
    ⟨3, some 31, none, .e (.append 1 8) [] [], [.t 28, .t 30]⟩,
    ⟨4, some 5, none, .p .mov, [.t 31]⟩])
   (.skip)))))
   (.reg 0 [⟨0, some 32, none, .p (.bin .add), [.t 18, .c (.int .i64 1)]⟩,
    ⟨1, some 18, none, .p .mov, [.t 32]⟩])))
def g644_1 : GL.Code := .seq (.reg 0 [⟨0, some 13, none, .p (.bin .lss), [.t 12, .t 11]⟩])
   (.seq (.cond (.t 13) (.skip)
   (.exit 0))
   (.seq (.block 1 (.seq (.reg 0 [⟨0, some 14, none, .p .mov, [.t 12]⟩,
    ⟨1, some 4, none, .p .mov, [.t 14]⟩])
   (.seq (.reg 0 [⟨0, some 15, none, .e (.new (.lit 1)) [] [], []⟩,
    ⟨1, some 5, none, .p .mov, [.t 15]⟩])
   (.seq (.seq (.reg 0 [⟨0, some 16, none, .p .mov, [.t 0]⟩,
    ⟨1, some 17, none, .p .len, [.t 16]⟩,
    ⟨2, some 18, none, .p .mov, [.c (.int .i64 0)]⟩])
   (.block 2 (.loop g644_0)))
   (.reg 0 [⟨0, some 33, none, .p .mov, [.t 3]⟩,
    ⟨1, some 34, none, .p .mov, [.t 5]⟩,
    ⟨2, some 35, none, .e (.new (.lit 1)) [] [], [.t 34]⟩,
    ⟨3, some 36, none, .e (.append 1 24) [] [], [.t 33, .t 35]⟩,
    ⟨4, some 3, none, .p .mov, [.t 36]⟩])))))
   (.reg 0 [⟨0, some 37, none, .p (.bin .add), [.t 12, .c (.int .i64 1)]⟩,
    ⟨1, some 12, none, .p .mov, [.t 37]⟩])))
def g644 : GL.Fn := ⟨.seq (.reg 0 [⟨0, some 2, none, .p .mov, [.c (.nils)]⟩])
   (.seq (.reg 0 [⟨0, some 8, none, .e (.new (.lit 1)) [] [], []⟩,
    ⟨1, some 3, none, .p .mov, [.t 8]⟩])
   (.seq (.seq (.reg 0 [⟨0, some 9, none, .p .mov, [.t 0]⟩,
    ⟨1, some 10, none, .p .len, [.t 9]⟩,
    ⟨2, some 11, none, .p (.bin .shl), [.c (.int .i64 1), .t 10]⟩,
    ⟨3, some 12, none, .p .mov, [.c (.int .i64 0)]⟩])
   (.block 0 (.loop g644_1)))
   (.seq (.reg 0 [⟨0, some 38, none, .p .mov, [.t 3]⟩,
    ⟨1, some 2, none, .p .mov, [.t 38]⟩])
   (.ret)))),
  [.tmp 2]⟩
/- slices.ContainsFunc[[]int,int] -/
def g304 : GL.Fn := ⟨.seq (.reg 0 [⟨0, some 4, none, .p .mov, [.c (.bool false)]⟩])
   (.seq (.reg 0 [⟨0, some 5, none, .p .mov, [.t 0]⟩,
    ⟨1, some 6, none, .p .mov, [.t 1]⟩,
    ⟨2, some 7, none, .e .call [] [], [.f 391, .t 5, .t 6]⟩,
    ⟨3, some 8, none, .p (.bin .geq), [.t 7, .c (.int .i64 0)]⟩,
    ⟨4, some 4, none, .p .mov, [.t 8]⟩])
   (.ret)),
  [.tmp 4]⟩
/- loop.example/g00641/impl.KeysFor$1 -/
def g646 : GL.Fn := ⟨.seq (.reg 0 [⟨0, some 5, none, .p .mov, [.c (.bool false)]⟩])
   (.seq (.reg 0 [⟨0, some 6, none, .r (.load false 1) true, [.t 1]⟩,
    ⟨1, some 7, none, .r (.load false 1) true, [.t 2]⟩,
    ⟨2, some 8, none, .p .mov, [.t 0]⟩,
    ⟨7, some 13, none, .r (.load false 1) true, [.t 3]⟩,
    ⟨3, some 9, none, .e (.new (.lit 1)) [0, 1, 7] [], [.t 8]⟩,
    ⟨4, some 10, none, .e .call [0, 7] [], [.f 428, .t 7, .t 9]⟩,
    ⟨5, some 11, none, .e .call [7] [], [.f 645, .t 6, .t 10]⟩,
    ⟨6, some 12, none, .p .len, [.t 11]⟩,
    ⟨8, some 14, none, .p (.bin .eql), [.t 12, .t 13]⟩,
    ⟨9, some 5, none, .p .mov, [.t 14]⟩])
   (.ret)),
  [.tmp 5]⟩
/- slices.Clone[[]loop.example/g00641/impl.Dep,loop.example/g00641/impl.Dep] -/
def g650 : GL.Fn := ⟨.seq (.reg 0 [⟨0, some 2, none, .p .mov, [.c (.nils)]⟩])
   (.seq (.seq (.reg 0 [⟨0, some 3, none, .p .mov, [.t 0]⟩,
    ⟨1, some 4, none, .p (.isNil false), [.t 3]⟩])
   (.cond (.t 4) (.seq (.reg 0 [⟨0, some 2, none, .p .mov, [.c (.nils)]⟩])
   (.ret))
   (.skip)))
   (.seq (.reg 0 [⟨0, some 5, none, .e (.new (.lit 2)) [] [], []⟩,
    ⟨1, some 6, none, .p .mov, [.t 0]⟩,
    ⟨2, some 7, none, .e (.append 2 48) [] [], [.t 5, .t 6]⟩,
    ⟨3, some 2, none, .p .mov, [.t 7]⟩])
   (.ret))),
  [.tmp 2]⟩
/- slices.Delete[[]loop.example/g00641/impl.Dep,loop.example/g00641/impl.Dep] -/
def g651 : GL.Fn := ⟨.seq (.reg 0 [⟨0, some 6, none, .p .mov, [.c (.nils)]⟩])
   (.seq (.reg 0 [⟨0, some 8, none, .p .mov, [.t 0]⟩,
    ⟨1, some 9, none, .p .mov, [.t 1]⟩,
    ⟨2, some 10, none, .p .mov, [.t 2]⟩,
    ⟨3, some 11, none, .p .mov, [.t 0]⟩,
    ⟨4, some 12, none, .p .len, [.t 11]⟩,
    ⟨5, some 13, none, .p (.slice 2 true true true), [.t 8, .t 9, .t 10, .t 12]⟩])
   (.seq (.seq (.reg 0 [⟨0, some 14, none, .p .mov, [.t 1]⟩,
    ⟨1, some 15, none, .p .mov, [.t 2]⟩,
    ⟨2, some 16, none, .p (.bin .eql), [.t 14, .t 15]⟩])
   (.cond (.t 16) (.seq (.reg 0 [⟨0, some 17, none, .p .mov, [.t 0]⟩,
    ⟨1, some 6, none, .p .mov, [.t 17]⟩])
   (.ret))
   (.skip)))
   (.seq (.reg 0 [⟨0, some 18, none, .p .mov, [.t 0]⟩,
    ⟨1, some 19, none, .p .len, [.t 18]⟩,
    ⟨2, some 7, none, .p .mov, [.t 19]⟩])
   (.seq (.reg 0 [⟨0, some 20, none, .p .mov, [.t 0]⟩,
    ⟨1, some 21, none, .p .mov, [.t 1]⟩,
    ⟨2, some 22, none, .p (.slice 2 false true false), [.t 20, .t 21]⟩,
    ⟨3, some 23, none, .p .mov, [.t 0]⟩,
    ⟨4, some 24, none, .p .mov, [.t 2]⟩,
    ⟨5, some 25, none, .p (.slice 2 true false false), [.t 23, .t 24]⟩,
    ⟨6, some 26, none, .e (.append 2 48) [] [], [.t 22, .t 25]⟩,
    ⟨7, some 0, none, .p .mov, [.t 26]⟩])
   (.seq (.reg 0 [⟨0, some 27, none, .p .mov, [.t 0]⟩,
    ⟨1, some 28, none, .p .mov, [.t 0]⟩,
    ⟨2, some 29, none, .p .len, [.t 28]⟩,
    ⟨3, some 30, none, .p .mov, [.t 7]⟩,
    ⟨4, some 31, none, .r (.sliceX 2) false, [.t 27, .t 29, .t 30]⟩,
    ⟨5, none, none, .e (.clear 2 [.nils, .nils]) [] [], [.t 31]⟩])
   (.seq (.reg 0 [⟨0, some 32, none, .p .mov, [.t 0]⟩,
    ⟨1, some 6, none, .p .mov, [.t 32]⟩])
   (.ret))))))),
  [.tmp 6]⟩
/- slices.Clone[[]int,int] -/
def g389 : GL.Fn := ⟨.seq (.reg 0 [⟨0, some 2, none, .p .mov, [.c (.nils)]⟩])
   (.seq (.seq (.reg 0 [⟨0, some 3, none, .p .mov, [.t 0]⟩,
    ⟨1, some 4, none, .p (.isNil false), [.t 3]⟩])
   (.cond (.t 4) (.seq (.reg 0 [⟨0, some 2, none, .p .mov, [.c (.nils)]⟩])
   (.ret))
   (.skip)))
   (.seq (.reg 0 [⟨0, some 5, none, .e (.new (.lit 1)) [] [], []⟩,
    ⟨1, some 6, none, .p .mov, [.t 0]⟩,
    ⟨2, some 7, none, .e (.append 1 8) [] [], [.t 5, .t 6]⟩,
    ⟨3, some 2, none, .p .mov, [.t 7]⟩])
   (.ret))),
  [.tmp 2]⟩
/- slices.ContainsFunc[[]loop.example/g00641/impl.Dep,loop.example/g00641/impl.Dep] -/
def g654 : GL.Fn := ⟨.seq (.reg 0 [⟨0, some 4, none, .p .mov, [.c (.bool false)]⟩])
   (.seq (.reg 0 [⟨0, some 5, none, .p .mov, [.t 0]⟩,
    ⟨1, some 6, none, .p .mov, [.t 1]⟩,
    ⟨2, some 7, none, .e .call [] [], [.f 675, .t 5, .t 6]⟩,
    ⟨3, some 8, none, .p (.bin .geq), [.t 7, .c (.int .i64 0)]⟩,
    ⟨4, some 4, none, .p .mov, [.t 8]⟩])
   (.ret)),
  [.tmp 4]⟩
/- loop.example/g00641/impl.GoodDeps$1 -/
def g653 : GL.Fn := ⟨.seq (.reg 0 [⟨0, some 2, none, .l (.box 2 2), [.t 0]⟩,
    ⟨1, some 3, none, .p .mov, [.c (.bool false)]⟩])
   (.seq (.reg 0 [⟨0, some 4, none, .r (.load false 1) false, [.t 1]⟩,
    ⟨1, some 5, none, .l (.load 2 true 2), [.t 2]⟩,
    ⟨2, some 6, none, .e .call [] [], [.f 656, .t 4, .t 5]⟩,
    ⟨3, some 7, none, .p (.un .not), [.t 6]⟩,
    ⟨4, some 3, none, .p .mov, [.t 7]⟩])
   (.ret)),
  [.tmp 3]⟩
/- (*loop.example/g00641/spec.l1Cur).relation -/
def g657_0 : GL.Code := .seq (.reg 0 [⟨0, some 19, none, .p (.bin .lss), [.t 18, .t 17]⟩])
   (.seq (.cond (.t 19) (.skip)
   (.exit 2))
   (.seq (.block 3 (.reg 0 [⟨0, some 20, none, .p .mov, [.t 7]⟩,
    ⟨1, some 21, none, .p .mov, [.t 0]⟩,
    ⟨2, some 22, none, .e .call [] [], [.f 91, .t 21, .c (.int .i64 3)]⟩,
    ⟨3, some 23, none, .e (.new (.lit 1)) [] [], [.t 22]⟩,
    ⟨4, some 24, none, .e (.append 1 8) [] [], [.t 20, .t 23]⟩,
    ⟨5, some 7, none, .p .mov, [.t 24]⟩]))
   (.reg 0 [⟨0, some 25, none, .p (.bin .add), [.t 18, .c (.int .i64 1)]⟩,
    ⟨1, some 18, none, .p .mov, [.t 25]⟩])))
def g657_1 : GL.Code := .seq (.seq (.reg 0 [⟨0, some 12, none, .p .mov, [.t 6]⟩,
    ⟨1, some 13, none, .p (.bin .gtr), [.t 12, .c (.int .i64 0)]⟩])
   (.cond (.t 13) (.skip)
   (.exit 0)))
   (.seq (.block 1 (.seq (.reg 0 [⟨0, some 7, none, .p .mov, [.c (.nils)]⟩])
   (.seq (.seq (.reg 0 [⟨0, some 16, none, .p .mov, [.t 1]⟩,
    ⟨1, some 17, none, .p .len, [.t 16]⟩,
    ⟨2, some 18, none, .p .mov, [.c (.int .i64 0)]⟩])
   (.block 2 (.loop g657_0)))
   (.reg 0 [⟨0, some 26, none, .p .mov, [.t 5]⟩,
    ⟨1, some 27, none, .p .mov, [.t 7]⟩,
    ⟨2, some 28, none, .e (.new (.lit 1)) [] [], [.t 27]⟩,
    ⟨3, some 29, none, .e (.append 1 24) [] [], [.t 26, .t 28]⟩,
    ⟨4, some 5, none, .p .mov, [.t 29]⟩]))))
   (.reg 0 [⟨0, some 14, none, .p .mov, [.t 6]⟩,
    ⟨1, some 15, none, .p (.bin .sub), [.t 14, .c (.int .i64 1)]⟩,
    ⟨2, some 6, none, .p .mov, [.t 15]⟩]))
def g657 : GL.Fn := ⟨.seq (.reg 0 [⟨0, some 4, none, .l (.alloc 4 [.nils, .nils]), []⟩])
   (.seq (.reg 0 [⟨0, some 5, none, .p .mov, [.c (.nils)]⟩])
   (.seq (.seq (.reg 0 [⟨0, some 10, none, .p .mov, [.t 0]⟩,
    ⟨1, some 11, none, .e .call [] [], [.f 91, .t 10, .c (.int .i64 8)]⟩,
    ⟨2, some 6, none, .p .mov, [.t 11]⟩])
   (.block 0 (.loop g657_1)))
   (.seq (.reg 0 [⟨0, some 31, none, .p .mov, [.t 1]⟩,
    ⟨1, some 32, none, .p .mov, [.t 5]⟩,
    ⟨2, some 33, none, .e .call [] [], [.f 674, .t 31, .t 32]⟩,
    ⟨3, some 30, none, .p .mov, [.t 33]⟩,
    ⟨4, some 34, none, .p (.extract 0), [.t 30]⟩,
    ⟨5, some 35, none, .p (.extract 1), [.t 30]⟩,
    ⟨6, some 8, none, .l (.alloc 8 [.nils, .nils]), []⟩,
    ⟨7, none, none, .l (.store 8 2), [.t 8, .t 34]⟩,
    ⟨8, some 9, none, .p .mov, [.t 35]⟩])
   (.seq (.seq (.reg 0 [⟨0, some 36, none, .p (.faddr 1), [.t 8]⟩,
    ⟨1, some 37, none, .l (.load 8 false 1), [.t 36]⟩,
    ⟨2, some 38, none, .p .len, [.t 37]⟩,
    ⟨3, some 39, none, .p (.bin .gtr), [.t 38, .c (.int .i64 0)]⟩,
    ⟨4, some 40, none, .p .mov, [.t 39]⟩,
    ⟨5, some 41, some (40, true), .p .mov, [.t 0]⟩,
    ⟨6, some 42, some (40, true), .e .call [] [], [.f 92, .t 41, .c (.int .i64 30)]⟩,
    ⟨7, some 43, none, .p .pick, [.t 40, .t 42, .c (.bool false)]⟩])
   (.cond (.t 43) (.reg 0 [⟨0, some 44, none, .p (.faddr 1), [.t 8]⟩,
    ⟨1, some 45, none, .l (.load 8 false 1), [.t 44]⟩,
    ⟨2, some 46, none, .p (.faddr 1), [.t 8]⟩,
    ⟨3, some 47, none, .l (.load 8 false 1), [.t 46]⟩,
    ⟨4, some 48, none, .p (.idx 1), [.t 47, .c (.int .i64 0)]⟩,
    ⟨5, some 49, none, .r (.load false 1) false, [.t 48]⟩,
    ⟨6, some 50, none, .e (.new (.lit 1)) [] [], [.t 49]⟩,
    ⟨7, some 51, none, .e (.append 1 24) [] [], [.t 45, .t 50]⟩,
    ⟨8, some 52, none, .p (.faddr 1), [.t 8]⟩,
    ⟨9, none, none, .l (.store 8 1), [.t 52, .t 51]⟩])
   (.skip)))
   (.seq (.reg 0 [⟨0, some 53, none, .l (.load 8 true 2), [.t 8]⟩,
    ⟨1, none, none, .l (.store 4 2), [.t 4, .t 53]⟩])
   (.ret)))))),
  [.cellL 4 4 true 2]⟩
/- loop.example/g00641/spec.GoodRelation -/
def g662_0 : GL.Code := .seq (.reg 0 [⟨0, some 25, none, .p (.bin .lss), [.t 24, .t 23]⟩])
   (.seq (.cond (.t 25) (.skip)
   (.exit 0))
   (.seq (.block 1 (.seq (.reg 0 [⟨0, some 26, none, .p .mov, [.t 24]⟩,
    ⟨1, some 27, none, .p (.idx 1), [.t 22, .t 24]⟩,
    ⟨2, some 28, none, .r (.load false 1) false, [.t 27]⟩,
    ⟨3, some 3, none, .p .mov, [.t 26]⟩,
    ⟨4, some 4, none, .p .mov, [.t 28]⟩])
   (.seq (.reg 0 [⟨0, some 29, none, .p .mov, [.t 4]⟩,
    ⟨1, some 30, none, .p .len, [.t 29]⟩,
    ⟨2, some 31, none, .p (.faddr 0), [.t 1]⟩,
    ⟨3, some 32, none, .l (.load 1 false 1), [.t 31]⟩,
    ⟨4, some 33, none, .p .len, [.t 32]⟩,
    ⟨5, some 34, none, .p (.bin .neq), [.t 30, .t 33]⟩,
    ⟨6, some 35, none, .p .mov, [.t 34]⟩,
    ⟨7, some 36, some (35, false), .p .mov, [.t 4]⟩,
    ⟨8, some 37, some (35, false), .e .call [] [], [.f 94, .t 36, .c (.int .i64 (-1000)), .c (.int .i64 1000)]⟩,
    ⟨9, some 38, some (35, false), .p (.un .not), [.t 37]⟩,
    ⟨10, some 39, none, .p .pick, [.t 35, .c (.bool true), .t 38]⟩,
    ⟨11, some 40, none, .p .mov, [.t 39]⟩,
    ⟨12, some 41, some (40, false), .p .mov, [.t 3]⟩,
    ⟨13, some 42, some (40, false), .p (.bin .gtr), [.t 41, .c (.int .i64 0)]⟩,
    ⟨14, some 43, some (40, false), .p .mov, [.t 42]⟩,
    ⟨15, some 44, some (43, true), .p (.faddr 1), [.t 1]⟩,
    ⟨16, some 45, some (43, true), .l (.load 1 false 1), [.t 44]⟩,
    ⟨17, some 46, some (43, true), .p .mov, [.t 3]⟩,
    ⟨18, some 47, some (43, true), .p (.bin .sub), [.t 46, .c (.int .i64 1)]⟩,
    ⟨19, some 48, some (43, true), .p (.idx 1), [.t 45, .t 47]⟩,
    ⟨20, some 49, some (43, true), .r (.load false 1) false, [.t 48]⟩,
    ⟨21, some 50, some (43, true), .p .mov, [.t 4]⟩,
    ⟨22, some 51, some (43, true), .e .call [] [], [.f 678, .t 49, .t 50]⟩,
    ⟨23, some 52, some (43, true), .p (.un .not), [.t 51]⟩,
    ⟨24, some 53, some (40, false), .p .pick, [.t 43, .t 52, .c (.bool false)]⟩,
    ⟨25, some 54, none, .p .pick, [.t 40, .c (.bool true), .t 53]⟩])
   (.cond (.t 54) (.seq (.reg 0 [⟨0, some 2, none, .p .mov, [.c (.bool false)]⟩])
   (.ret))
   (.skip)))))
   (.reg 0 [⟨0, some 55, none, .p (.bin .add), [.t 24, .c (.int .i64 1)]⟩,
    ⟨1, some 24, none, .p .mov, [.t 55]⟩])))
def g662 : GL.Fn := ⟨.seq (.reg 0 [⟨0, some 1, none, .l (.box 1 2), [.t 0]⟩,
    ⟨1, some 2, none, .p .mov, [.c (.bool false)]⟩])
   (.seq (.seq (.reg 0 [⟨0, some 5, none, .p (.faddr 0), [.t 1]⟩,
    ⟨1, some 6, none, .l (.load 1 false 1), [.t 5]⟩,
    ⟨2, some 7, none, .p .len, [.t 6]⟩,
    ⟨3, some 8, none, .p (.bin .gtr), [.t 7, .c (.int .i64 6)]⟩,
    ⟨4, some 9, none, .p .mov, [.t 8]⟩,
    ⟨5, some 10, some (9, false), .p (.faddr 0), [.t 1]⟩,
    ⟨6, some 11, some (9, false), .l (.load 1 false 1), [.t 10]⟩,
    ⟨7, some 12, some (9, false), .e .call [] [], [.f 337, .t 11, .c (.int .i64 0), .c (.int .i64 20)]⟩,
    ⟨8, some 13, some (9, false), .p (.un .not), [.t 12]⟩,
    ⟨9, some 14, none, .p .pick, [.t 9, .c (.bool true), .t 13]⟩,
    ⟨10, some 15, none, .p .mov, [.t 14]⟩,
    ⟨11, some 16, some (15, false), .p (.faddr 1), [.t 1]⟩,
    ⟨12, some 17, some (15, false), .l (.load 1 false 1), [.t 16]⟩,
    ⟨13, some 18, some (15, false), .p .len, [.t 17]⟩,
    ⟨14, some 19, some (15, false), .p (.bin .gtr), [.t 18, .c (.int .i64 60)]⟩,
    ⟨15, some 20, none, .p .pick, [.t 15, .c (.bool true), .t 19]⟩])
   (.cond (.t 20) (.seq (.reg 0 [⟨0, some 2, none, .p .mov, [.c (.bool false)]⟩])
   (.ret))
   (.skip)))
   (.seq (.seq (.reg 0 [⟨0, some 21, none, .p (.faddr 1), [.t 1]⟩,
    ⟨1, some 22, none, .l (.load 1 false 1), [.t 21]⟩,
    ⟨2, some 23, none, .p .len, [.t 22]⟩,
    ⟨3, some 24, none, .p .mov, [.c (.int .i64 0)]⟩])
   (.block 0 (.loop g662_0)))
   (.seq (.reg 0 [⟨0, some 2, none, .p .mov, [.c (.bool true)]⟩])
   (.ret)))),
  [.tmp 2]⟩
/- loop.example/g00641/spec.l3Sub -/
def g663_0 : GL.Code := .seq (.reg 0 [⟨0, some 10, none, .p (.bin .lss), [.t 9, .t 8]⟩])
   (.seq (.cond (.t 10) (.skip)
   (.exit 0))
   (.seq (.block 1 (.seq (.reg 0 [⟨0, some 11, none, .p (.idx 1), [.t 7, .t 9]⟩,
    ⟨1, some 12, none, .r (.load false 1) false, [.t 11]⟩,
    ⟨2, some 6, none, .p .mov, [.t 12]⟩])
   (.seq (.reg 0 [⟨0, some 13, none, .p .mov, [.t 0]⟩,
    ⟨1, some 14, none, .p .mov, [.t 6]⟩,
    ⟨2, some 15, none, .e .call [] [], [.f 606, .t 13, .t 14]⟩,
    ⟨3, some 16, none, .p (.bin .lss), [.t 15, .c (.int .i64 0)]⟩])
   (.cond (.t 16) (.seq (.reg 0 [⟨0, some 4, none, .p .mov, [.c (.bool false)]⟩])
   (.ret))
   (.skip)))))
   (.reg 0 [⟨0, some 17, none, .p (.bin .add), [.t 9, .c (.int .i64 1)]⟩,
    ⟨1, some 9, none, .p .mov, [.t 17]⟩])))
def g663 : GL.Fn := ⟨.seq (.reg 0 [⟨0, some 4, none, .p .mov, [.c (.bool false)]⟩])
   (.seq (.seq (.reg 0 [⟨0, some 7, none, .p .mov, [.t 1]⟩,
    ⟨1, some 8, none, .p .len, [.t 7]⟩,
    ⟨2, some 9, none, .p .mov, [.c (.int .i64 0)]⟩])
   (.block 0 (.loop g663_0)))
   (.seq (.reg 0 [⟨0, some 18, none, .p .mov, [.t 1]⟩,
    ⟨1, some 19, none, .e .call [] [], [.f 337, .t 18, .c (.int .i64 0), .c (.int .i64 20)]⟩,
    ⟨2, some 4, none, .p .mov, [.t 19]⟩])
   (.ret))),
  [.tmp 4]⟩
/- loop.example/g00641/spec.l5Holds -/
def g664_0 : GL.Code := .seq (.reg 0 [⟨0, some 23, none, .p (.bin .lss), [.t 22, .t 21]⟩])
   (.seq (.cond (.t 23) (.skip)
   (.exit 2))
   (.seq (.block 3 (.seq (.reg 0 [⟨0, some 24, none, .p (.idx 1), [.t 20, .t 22]⟩,
    ⟨1, some 25, none, .r (.load false 1) false, [.t 24]⟩,
    ⟨2, some 8, none, .p .mov, [.t 25]⟩])
   (.seq (.reg 0 [⟨0, some 26, none, .p (.faddr 0), [.t 2]⟩,
    ⟨1, some 27, none, .l (.load 2 false 1), [.t 26]⟩,
    ⟨2, some 28, none, .p .mov, [.t 6]⟩,
    ⟨3, some 29, none, .p (.faddr 0), [.t 3]⟩,
    ⟨4, some 30, none, .l (.load 3 false 1), [.t 29]⟩,
    ⟨5, some 31, none, .e .call [] [], [.f 679, .t 27, .t 28, .t 30]⟩,
    ⟨6, some 32, none, .p (.faddr 0), [.t 2]⟩,
    ⟨7, some 33, none, .l (.load 2 false 1), [.t 32]⟩,
    ⟨8, some 34, none, .p .mov, [.t 8]⟩,
    ⟨9, some 35, none, .p (.faddr 0), [.t 3]⟩,
    ⟨10, some 36, none, .l (.load 3 false 1), [.t 35]⟩,
    ⟨11, some 37, none, .e .call [] [], [.f 679, .t 33, .t 34, .t 36]⟩,
    ⟨12, some 38, none, .e .call [] [], [.f 356, .t 31, .t 37]⟩,
    ⟨13, some 39, none, .p .mov, [.t 38]⟩,
    ⟨14, some 40, some (39, true), .p (.faddr 0), [.t 2]⟩,
    ⟨15, some 41, some (39, true), .l (.load 2 false 1), [.t 40]⟩,
    ⟨16, some 42, some (39, true), .p .mov, [.t 6]⟩,
    ⟨17, some 43, some (39, true), .p (.faddr 1), [.t 3]⟩,
    ⟨18, some 44, some (39, true), .l (.load 3 false 1), [.t 43]⟩,
    ⟨19, some 45, some (39, true), .e .call [] [], [.f 679, .t 41, .t 42, .t 44]⟩,
    ⟨20, some 46, some (39, true), .p (.faddr 0), [.t 2]⟩,
    ⟨21, some 47, some (39, true), .l (.load 2 false 1), [.t 46]⟩,
    ⟨22, some 48, some (39, true), .p .mov, [.t 8]⟩,
    ⟨23, some 49, some (39, true), .p (.faddr 1), [.t 3]⟩,
    ⟨24, some 50, some (39, true), .l (.load 3 false 1), [.t 49]⟩,
    ⟨25, some 51, some (39, true), .e .call [] [], [.f 679, .t 47, .t 48, .t 50]⟩,
    ⟨26, some 52, some (39, true), .e .call [] [], [.f 356, .t 45, .t 51]⟩,
    ⟨27, some 53, some (39, true), .p (.un .not), [.t 52]⟩,
    ⟨28, some 54, none, .p .pick, [.t 39, .t 53, .c (.bool false)]⟩])
   (.cond (.t 54) (.seq (.reg 0 [⟨0, some 4, none, .p .mov, [.c (.bool false)]⟩])
   (.ret))
   (.skip)))))
   (.reg 0 [⟨0, some 55, none, .p (.bin .add), [.t 22, .c (.int .i64 1)]⟩,
    ⟨1, some 22, none, .p .mov, [.t 55]⟩])))
def g664_1 : GL.Code := .seq (.reg 0 [⟨0, some 13, none, .p (.bin .lss), [.t 12, .t 11]⟩])
   (.seq (.cond (.t 13) (.skip)
   (.exit 0))
   (.seq (.block 1 (.seq (.reg 0 [⟨0, some 14, none, .p .mov, [.t 12]⟩,
    ⟨1, some 15, none, .p (.idx 1), [.t 10, .t 12]⟩,
    ⟨2, some 16, none, .r (.load false 1) false, [.t 15]⟩,
    ⟨3, some 5, none, .p .mov, [.t 14]⟩,
    ⟨4, some 6, none, .p .mov, [.t 16]⟩])
   (.seq (.reg 0 [⟨0, some 17, none, .p (.faddr 1), [.t 2]⟩,
    ⟨1, some 18, none, .l (.load 2 false 1), [.t 17]⟩,
    ⟨2, some 19, none, .p .mov, [.t 5]⟩,
    ⟨3, some 20, none, .p (.slice 1 false true false), [.t 18, .t 19]⟩,
    ⟨4, some 21, none, .p .len, [.t 20]⟩,
    ⟨5, some 22, none, .p .mov, [.c (.int .i64 0)]⟩])
   (.block 2 (.loop g664_0)))))
   (.reg 0 [⟨0, some 56, none, .p (.bin .add), [.t 12, .c (.int .i64 1)]⟩,
    ⟨1, some 12, none, .p .mov, [.t 56]⟩])))
def g664 : GL.Fn := ⟨.seq (.reg 0 [⟨0, some 2, none, .l (.box 2 2), [.t 0]⟩,
    ⟨1, some 3, none, .l (.box 3 2), [.t 1]⟩,
    ⟨2, some 4, none, .p .mov, [.c (.bool false)]⟩])
   (.seq (.seq (.reg 0 [⟨0, some 9, none, .p (.faddr 1), [.t 2]⟩,
    ⟨1, some 10, none, .l (.load 2 false 1), [.t 9]⟩,
    ⟨2, some 11, none, .p .len, [.t 10]⟩,
    ⟨3, some 12, none, .p .mov, [.c (.int .i64 0)]⟩])
   (.block 0 (.loop g664_1)))
   (.seq (.reg 0 [⟨0, some 4, none, .p .mov, [.c (.bool true)]⟩])
   (.ret))),
  [.tmp 4]⟩
/- (*loop.example/g00641/spec.l1Cur).among -/
def g93 : GL.Fn := ⟨.seq (.reg 0 [⟨0, some 4, none, .p .mov, [.c (.int .i64 0)]⟩])
   (.seq (.reg 0 [⟨0, some 5, none, .p .mov, [.t 1]⟩,
    ⟨1, some 6, none, .p .mov, [.t 0]⟩,
    ⟨2, some 7, none, .p .mov, [.t 1]⟩,
    ⟨3, some 8, none, .p .len, [.t 7]⟩,
    ⟨4, some 9, none, .e .call [] [], [.f 91, .t 6, .t 8]⟩,
    ⟨5, some 10, none, .p (.idx 1), [.t 5, .t 9]⟩,
    ⟨6, some 11, none, .r (.load false 1) false, [.t 10]⟩,
    ⟨7, some 4, none, .p .mov, [.t 11]⟩])
   (.ret)),
  [.tmp 4]⟩
/- (*loop.example/g00641/spec.l1Cur).next -/
def g140 : GL.Fn := ⟨.seq (.reg 0 [⟨0, some 2, none, .p .mov, [.c (.int .i64 0)]⟩])
   (.seq (.reg 0 [⟨0, some 3, none, .p .mov, [.c (.int .i64 0)]⟩])
   (.seq (.seq (.reg 0 [⟨0, some 4, none, .p .mov, [.t 0]⟩,
    ⟨1, some 5, none, .p .nilCheck, [.t 4]⟩,
    ⟨2, some 6, none, .p (.faddr 1), [.t 5]⟩,
    ⟨3, some 7, none, .r (.load false 1) false, [.t 6]⟩,
    ⟨4, some 8, none, .p .mov, [.t 0]⟩,
    ⟨5, some 9, none, .p .nilCheck, [.t 8]⟩,
    ⟨6, some 10, none, .p (.faddr 0), [.t 9]⟩,
    ⟨7, some 11, none, .r (.load false 1) false, [.t 10]⟩,
    ⟨8, some 12, none, .p .len, [.t 11]⟩,
    ⟨9, some 13, none, .p (.bin .lss), [.t 7, .t 12]⟩])
   (.cond (.t 13) (.reg 0 [⟨0, some 14, none, .p .mov, [.t 0]⟩,
    ⟨1, some 15, none, .p .nilCheck, [.t 14]⟩,
    ⟨2, some 16, none, .p (.faddr 0), [.t 15]⟩,
    ⟨3, some 17, none, .r (.load false 1) false, [.t 16]⟩,
    ⟨4, some 18, none, .p .mov, [.t 0]⟩,
    ⟨5, some 19, none, .p .nilCheck, [.t 18]⟩,
    ⟨6, some 20, none, .p (.faddr 1), [.t 19]⟩,
    ⟨7, some 21, none, .r (.load false 1) false, [.t 20]⟩,
    ⟨8, some 22, none, .p (.idx 1), [.t 17, .t 21]⟩,
    ⟨9, some 23, none, .r (.load false 1) false, [.t 22]⟩,
    ⟨10, some 24, none, .p (.conv .i64), [.t 23]⟩,
    ⟨11, some 3, none, .p .mov, [.t 24]⟩])
   (.skip)))
   (.seq (.reg 0 [⟨0, some 25, none, .p .mov, [.t 0]⟩,
    ⟨1, some 26, none, .p .nilCheck, [.t 25]⟩,
    ⟨2, some 27, none, .p (.faddr 1), [.t 26]⟩,
    ⟨3, some 28, none, .r (.load false 1) false, [.t 27]⟩,
    ⟨4, some 29, none, .p (.bin .add), [.t 28, .c (.int .i64 1)]⟩,
    ⟨5, some 30, none, .p .nilCheck, [.t 25]⟩,
    ⟨6, some 31, none, .p (.faddr 1), [.t 30]⟩,
    ⟨7, none, none, .e (.store 1) [] [], [.t 31, .t 29]⟩])
   (.seq (.reg 0 [⟨0, some 32, none, .p .mov, [.t 0]⟩,
    ⟨1, some 33, none, .p .mov, [.t 0]⟩,
    ⟨2, some 34, none, .p .nilCheck, [.t 33]⟩,
    ⟨3, some 35, none, .p (.faddr 2), [.t 34]⟩,
    ⟨4, some 36, none, .r (.load false 1) false, [.t 35]⟩,
    ⟨5, some 37, none, .p (.bin .mul), [.t 36, .c (.int .u64 6364136223846793005)]⟩,
    ⟨6, some 38, none, .p .mov, [.t 3]⟩,
    ⟨7, some 39, none, .p (.conv .u64), [.t 38]⟩,
    ⟨8, some 40, none, .p (.bin .add), [.t 37, .t 39]⟩,
    ⟨9, some 41, none, .p (.bin .add), [.t 40, .c (.int .u64 1442695040888963407)]⟩,
    ⟨10, some 42, none, .p .nilCheck, [.t 32]⟩,
    ⟨11, some 43, none, .p (.faddr 2), [.t 42]⟩,
    ⟨12, none, none, .e (.store 1) [] [], [.t 43, .t 41]⟩])
   (.seq (.seq (.reg 0 [⟨0, some 44, none, .p .mov, [.t 0]⟩,
    ⟨1, some 45, none, .p .nilCheck, [.t 44]⟩,
    ⟨2, some 46, none, .p (.faddr 1), [.t 45]⟩,
    ⟨3, some 47, none, .r (.load false 1) false, [.t 46]⟩,
    ⟨4, some 48, none, .p .mov, [.t 0]⟩,
    ⟨5, some 49, none, .p .nilCheck, [.t 48]⟩,
    ⟨6, some 50, none, .p (.faddr 0), [.t 49]⟩,
    ⟨7, some 51, none, .r (.load false 1) false, [.t 50]⟩,
    ⟨8, some 52, none, .p .len, [.t 51]⟩,
    ⟨9, some 53, none, .p (.bin .leq), [.t 47, .t 52]⟩])
   (.cond (.t 53) (.seq (.reg 0 [⟨0, some 54, none, .p .mov, [.t 3]⟩,
    ⟨1, some 2, none, .p .mov, [.t 54]⟩])
   (.ret))
   (.skip)))
   (.seq (.reg 0 [⟨0, some 55, none, .p .mov, [.t 0]⟩,
    ⟨1, some 56, none, .p .nilCheck, [.t 55]⟩,
    ⟨2, some 57, none, .p (.faddr 2), [.t 56]⟩,
    ⟨3, some 58, none, .r (.load false 1) false, [.t 57]⟩,
    ⟨4, some 59, none, .p (.bin .shr), [.t 58, .c (.int .u64 40)]⟩,
    ⟨5, some 60, none, .p (.bin .and), [.t 59, .c (.int .u64 255)]⟩,
    ⟨6, some 61, none, .p (.conv .i64), [.t 60]⟩,
    ⟨7, some 2, none, .p .mov, [.t 61]⟩])
   (.ret))))))),
  [.tmp 2]⟩
/- cmp.Compare[int] -/
def g159 : GL.Fn := ⟨.seq (.reg 0 [⟨0, some 4, none, .p .mov, [.c (.int .i64 0)]⟩])
   (.seq (.reg 0 [⟨0, some 7, none, .p .mov, [.t 0]⟩,
    ⟨1, some 8, none, .e .call [] [], [.f 160, .t 7]⟩,
    ⟨2, some 5, none, .p .mov, [.t 8]⟩])
   (.seq (.reg 0 [⟨0, some 9, none, .p .mov, [.t 1]⟩,
    ⟨1, some 10, none, .e .call [] [], [.f 160, .t 9]⟩,
    ⟨2, some 6, none, .p .mov, [.t 10]⟩])
   (.seq (.seq (.reg 0 [⟨0, some 11, none, .p .mov, [.t 5]⟩])
   (.cond (.t 11) (.seq (.seq (.reg 0 [⟨0, some 12, none, .p .mov, [.t 6]⟩])
   (.cond (.t 12) (.seq (.reg 0 [⟨0, some 4, none, .p .mov, [.c (.int .i64 0)]⟩])
   (.ret))
   (.skip)))
   (.seq (.reg 0 [⟨0, some 4, none, .p .mov, [.c (.int .i64 (-1))]⟩])
   (.ret)))
   (.skip)))
   (.seq (.seq (.reg 0 [⟨0, some 13, none, .p .mov, [.t 6]⟩])
   (.cond (.t 13) (.seq (.reg 0 [⟨0, some 4, none, .p .mov, [.c (.int .i64 1)]⟩])
   (.ret))
   (.skip)))
   (.seq (.seq (.reg 0 [⟨0, some 14, none, .p .mov, [.t 0]⟩,
    ⟨1, some 15, none, .p .mov, [.t 1]⟩,
    ⟨2, some 16, none, .p (.bin .lss), [.t 14, .t 15]⟩])
   (.cond (.t 16) (.seq (.reg 0 [⟨0, some 4, none, .p .mov, [.c (.int .i64 (-1))]⟩])
   (.ret))
   (.skip)))
   (.seq (.seq (.reg 0 [⟨0, some 17, none, .p .mov, [.t 0]⟩,
    ⟨1, some 18, none, .p .mov, [.t 1]⟩,
    ⟨2, some 19, none, .p (.bin .gtr), [.t 17, .t 18]⟩])
   (.cond (.t 19) (.seq (.reg 0 [⟨0, some 4, none, .p .mov, [.c (.int .i64 1)]⟩])
   (.ret))
   (.skip)))
   (.seq (.reg 0 [⟨0, some 4, none, .p .mov, [.c (.int .i64 0)]⟩])
   (.ret)))))))),
  [.tmp 4]⟩
/- loop.example/g00641/impl.hasAll -/
def g552 : GL.Fn := ⟨.seq (.reg 0 [⟨0, some 2, none, .e (.new (.box 1)) [] [], [.t 0]⟩,
    ⟨1, some 4, none, .p .mov, [.c (.bool false)]⟩])
   (.seq (.reg 0 [⟨0, some 5, none, .p .mov, [.t 1]⟩,
    ⟨1, some 6, none, .p (.mkFn 572), [.t 2]⟩,
    ⟨2, some 7, none, .e .call [] [], [.f 304, .t 5, .t 6]⟩,
    ⟨3, some 8, none, .p (.un .not), [.t 7]⟩,
    ⟨4, some 4, none, .p .mov, [.t 8]⟩])
   (.ret)),
  [.tmp 4]⟩
/- loop.example/g00641/spec.l1Put -/
def g410_0 : GL.Code := .seq (.seq (.reg 0 [⟨0, some 7, none, .p .mov, [.t 5]⟩,
    ⟨1, some 8, none, .p .mov, [.t 0]⟩,
    ⟨2, some 9, none, .p .len, [.t 8]⟩,
    ⟨3, some 10, none, .p (.bin .lss), [.t 7, .t 9]⟩,
    ⟨4, some 11, none, .p .mov, [.t 10]⟩,
    ⟨5, some 12, some (11, true), .p .mov, [.t 0]⟩,
    ⟨6, some 13, some (11, true), .p .mov, [.t 5]⟩,
    ⟨7, some 14, some (11, true), .p (.idx 1), [.t 12, .t 13]⟩,
    ⟨8, some 15, some (11, true), .r (.load false 1) false, [.t 14]⟩,
    ⟨9, some 16, some (11, true), .p .mov, [.t 1]⟩,
    ⟨10, some 17, some (11, true), .p (.bin .lss), [.t 15, .t 16]⟩,
    ⟨11, some 18, none, .p .pick, [.t 11, .t 17, .c (.bool false)]⟩])
   (.cond (.t 18) (.skip)
   (.exit 0)))
   (.block 1 (.reg 0 [⟨0, some 19, none, .p .mov, [.t 5]⟩,
    ⟨1, some 20, none, .p (.bin .add), [.t 19, .c (.int .i64 1)]⟩,
    ⟨2, some 5, none, .p .mov, [.t 20]⟩]))
def g410 : GL.Fn := ⟨.seq (.reg 0 [⟨0, some 4, none, .p .mov, [.c (.nils)]⟩])
   (.seq (.reg 0 [⟨0, some 5, none, .p .mov, [.c (.int .i64 0)]⟩])
   (.seq (.block 0 (.loop g410_0))
   (.seq (.seq (.reg 0 [⟨0, some 21, none, .p .mov, [.t 5]⟩,
    ⟨1, some 22, none, .p .mov, [.t 0]⟩,
    ⟨2, some 23, none, .p .len, [.t 22]⟩,
    ⟨3, some 24, none, .p (.bin .lss), [.t 21, .t 23]⟩,
    ⟨4, some 25, none, .p .mov, [.t 24]⟩,
    ⟨5, some 26, some (25, true), .p .mov, [.t 0]⟩,
    ⟨6, some 27, some (25, true), .p .mov, [.t 5]⟩,
    ⟨7, some 28, some (25, true), .p (.idx 1), [.t 26, .t 27]⟩,
    ⟨8, some 29, some (25, true), .r (.load false 1) false, [.t 28]⟩,
    ⟨9, some 30, some (25, true), .p .mov, [.t 1]⟩,
    ⟨10, some 31, some (25, true), .p (.bin .eql), [.t 29, .t 30]⟩,
    ⟨11, some 32, none, .p .pick, [.t 25, .t 31, .c (.bool false)]⟩])
   (.cond (.t 32) (.seq (.reg 0 [⟨0, some 33, none, .p .mov, [.t 0]⟩,
    ⟨1, some 4, none, .p .mov, [.t 33]⟩])
   (.ret))
   (.skip)))
   (.seq (.reg 0 [⟨0, some 34, none, .e (.new (.lit 1)) [] [], []⟩,
    ⟨1, some 35, none, .p .mov, [.t 0]⟩,
    ⟨2, some 36, none, .p .mov, [.t 5]⟩,
    ⟨3, some 37, none, .p (.slice 1 false true false), [.t 35, .t 36]⟩,
    ⟨4, some 38, none, .e (.append 1 8) [] [], [.t 34, .t 37]⟩,
    ⟨5, some 6, none, .p .mov, [.t 38]⟩])
   (.seq (.reg 0 [⟨0, some 39, none, .p .mov, [.t 6]⟩,
    ⟨1, some 40, none, .p .mov, [.t 1]⟩,
    ⟨2, some 41, none, .e (.new (.lit 1)) [] [], [.t 40]⟩,
    ⟨3, some 42, none, .e (.append 1 8) [] [], [.t 39, .t 41]⟩,
    ⟨4, some 6, none, .p .mov, [.t 42]⟩])
   (.seq (.reg 0 [⟨0, some 43, none, .p .mov, [.t 6]⟩,
    ⟨1, some 44, none, .p .mov, [.t 0]⟩,
    ⟨2, some 45, none, .p .mov, [.t 5]⟩,
    ⟨3, some 46, none, .p (.slice 1 true false false), [.t 44, .t 45]⟩,
    ⟨4, some 47, none, .e (.append 1 8) [] [], [.t 43, .t 46]⟩,
    ⟨5, some 4, none, .p .mov, [.t 47]⟩])
   (.ret))))))),
  [.tmp 4]⟩
/- slices.Index[[]int,int] -/
def g390_0 : GL.Code := .seq (.reg 0 [⟨0, some 9, none, .p (.bin .lss), [.t 8, .t 7]⟩])
   (.seq (.cond (.t 9) (.skip)
   (.exit 0))
   (.seq (.block 1 (.seq (.reg 0 [⟨0, some 10, none, .p .mov, [.t 8]⟩,
    ⟨1, some 5, none, .p .mov, [.t 10]⟩])
   (.seq (.reg 0 [⟨0, some 11, none, .p .mov, [.t 1]⟩,
    ⟨1, some 12, none, .p .mov, [.t 0]⟩,
    ⟨2, some 13, none, .p .mov, [.t 5]⟩,
    ⟨3, some 14, none, .p (.idx 1), [.t 12, .t 13]⟩,
    ⟨4, some 15, none, .r (.load false 1) false, [.t 14]⟩,
    ⟨5, some 16, none, .p (.bin .eql), [.t 11, .t 15]⟩])
   (.cond (.t 16) (.seq (.reg 0 [⟨0, some 17, none, .p .mov, [.t 5]⟩,
    ⟨1, some 4, none, .p .mov, [.t 17]⟩])
   (.ret))
   (.skip)))))
   (.reg 0 [⟨0, some 18, none, .p (.bin .add), [.t 8, .c (.int .i64 1)]⟩,
    ⟨1, some 8, none, .p .mov, [.t 18]⟩])))
def g390 : GL.Fn := ⟨.seq (.reg 0 [⟨0, some 4, none, .p .mov, [.c (.int .i64 0)]⟩])
   (.seq (.seq (.reg 0 [⟨0, some 6, none, .p .mov, [.t 0]⟩,
    ⟨1, some 7, none, .p .len, [.t 6]⟩,
    ⟨2, some 8, none, .p .mov, [.c (.int .i64 0)]⟩])
   (.block 0 (.loop g390_0)))
   (.seq (.reg 0 [⟨0, some 4, none, .p .mov, [.c (.int .i64 (-1))]⟩])
   (.ret))),
  [.tmp 4]⟩
/- slices.Compare[[]int,int] -/
def g677_0 : GL.Code := .seq (.reg 0 [⟨0, some 12, none, .p (.bin .lss), [.t 11, .t 10]⟩])
   (.seq (.cond (.t 12) (.skip)
   (.exit 0))
   (.seq (.block 1 (.seq (.reg 0 [⟨0, some 13, none, .p .mov, [.t 11]⟩,
    ⟨1, some 14, none, .p (.idx 1), [.t 9, .t 11]⟩,
    ⟨2, some 15, none, .r (.load false 1) false, [.t 14]⟩,
    ⟨3, some 5, none, .p .mov, [.t 13]⟩,
    ⟨4, some 6, none, .p .mov, [.t 15]⟩])
   (.seq (.seq (.reg 0 [⟨0, some 16, none, .p .mov, [.t 5]⟩,
    ⟨1, some 17, none, .p .mov, [.t 1]⟩,
    ⟨2, some 18, none, .p .len, [.t 17]⟩,
    ⟨3, some 19, none, .p (.bin .geq), [.t 16, .t 18]⟩])
   (.cond (.t 19) (.seq (.reg 0 [⟨0, some 4, none, .p .mov, [.c (.int .i64 1)]⟩])
   (.ret))
   (.skip)))
   (.seq (.reg 0 [⟨0, some 20, none, .p .mov, [.t 1]⟩,
    ⟨1, some 21, none, .p .mov, [.t 5]⟩,
    ⟨2, some 22, none, .p (.idx 1), [.t 20, .t 21]⟩,
    ⟨3, some 23, none, .r (.load false 1) false, [.t 22]⟩,
    ⟨4, some 7, none, .p .mov, [.t 23]⟩])
   (.seq (.reg 0 [⟨0, some 24, none, .p .mov, [.t 6]⟩,
    ⟨1, some 25, none, .p .mov, [.t 7]⟩,
    ⟨2, some 26, none, .e .call [] [], [.f 159, .t 24, .t 25]⟩,
    ⟨3, some 8, none, .p .mov, [.t 26]⟩])
   (.seq (.reg 0 [⟨0, some 27, none, .p .mov, [.t 8]⟩,
    ⟨1, some 28, none, .p (.bin .neq), [.t 27, .c (.int .i64 0)]⟩])
   (.cond (.t 28) (.seq (.reg 0 [⟨0, some 29, none, .p .mov, [.t 8]⟩,
    ⟨1, some 4, none, .p .mov, [.t 29]⟩])
   (.ret))
   (.skip))))))))
   (.reg 0 [⟨0, some 30, none, .p (.bin .add), [.t 11, .c (.int .i64 1)]⟩,
    ⟨1, some 11, none, .p .mov, [.t 30]⟩])))
def g677 : GL.Fn := ⟨.seq (.reg 0 [⟨0, some 4, none, .p .mov, [.c (.int .i64 0)]⟩])
   (.seq (.seq (.reg 0 [⟨0, some 9, none, .p .mov, [.t 0]⟩,
    ⟨1, some 10, none, .p .len, [.t 9]⟩,
    ⟨2, some 11, none, .p .mov, [.c (.int .i64 0)]⟩])
   (.block 0 (.loop g677_0)))
   (.seq (.seq (.reg 0 [⟨0, some 31, none, .p .mov, [.t 0]⟩,
    ⟨1, some 32, none, .p .len, [.t 31]⟩,
    ⟨2, some 33, none, .p .mov, [.t 1]⟩,
    ⟨3, some 34, none, .p .len, [.t 33]⟩,
    ⟨4, some 35, none, .p (.bin .lss), [.t 32, .t 34]⟩])
   (.cond (.t 35) (.seq (.reg 0 [⟨0, some 4, none, .p .mov, [.c (.int .i64 (-1))]⟩])
   (.ret))
   (.skip)))
   (.seq (.reg 0 [⟨0, some 4, none, .p .mov, [.c (.int .i64 0)]⟩])
   (.ret)))),
  [.tmp 4]⟩
/- loop.example/g00641/spec.l3Add -/
def g687_0 : GL.Code := .seq (.seq (.reg 0 [⟨0, some 7, none, .p .mov, [.t 5]⟩,
    ⟨1, some 8, none, .p .mov, [.t 0]⟩,
    ⟨2, some 9, none, .p .len, [.t 8]⟩,
    ⟨3, some 10, none, .p (.bin .lss), [.t 7, .t 9]⟩,
    ⟨4, some 11, none, .p .mov, [.t 10]⟩,
    ⟨5, some 12, some (11, true), .p .mov, [.t 0]⟩,
    ⟨6, some 13, some (11, true), .p .mov, [.t 5]⟩,
    ⟨7, some 14, some (11, true), .p (.idx 1), [.t 12, .t 13]⟩,
    ⟨8, some 15, some (11, true), .r (.load false 1) false, [.t 14]⟩,
    ⟨9, some 16, some (11, true), .p .mov, [.t 1]⟩,
    ⟨10, some 17, some (11, true), .e .call [] [], [.f 678, .t 15, .t 16]⟩,
    ⟨11, some 18, none, .p .pick, [.t 11, .t 17, .c (.bool false)]⟩])
   (.cond (.t 18) (.skip)
   (.exit 0)))
   (.block 1 (.reg 0 [⟨0, some 19, none, .p .mov, [.t 5]⟩,
    ⟨1, some 20, none, .p (.bin .add), [.t 19, .c (.int .i64 1)]⟩,
    ⟨2, some 5, none, .p .mov, [.t 20]⟩]))
def g687 : GL.Fn := ⟨.seq (.reg 0 [⟨0, some 4, none, .p .mov, [.c (.nils)]⟩])
   (.seq (.reg 0 [⟨0, some 5, none, .p .mov, [.c (.int .i64 0)]⟩])
   (.seq (.block 0 (.loop g687_0))
   (.seq (.seq (.reg 0 [⟨0, some 21, none, .p .mov, [.t 5]⟩,
    ⟨1, some 22, none, .p .mov, [.t 0]⟩,
    ⟨2, some 23, none, .p .len, [.t 22]⟩,
    ⟨3, some 24, none, .p (.bin .lss), [.t 21, .t 23]⟩,
    ⟨4, some 25, none, .p .mov, [.t 24]⟩,
    ⟨5, some 26, some (25, true), .p .mov, [.t 0]⟩,
    ⟨6, some 27, some (25, true), .p .mov, [.t 5]⟩,
    ⟨7, some 28, some (25, true), .p (.idx 1), [.t 26, .t 27]⟩,
    ⟨8, some 29, some (25, true), .r (.load false 1) false, [.t 28]⟩,
    ⟨9, some 30, some (25, true), .p .mov, [.t 1]⟩,
    ⟨10, some 31, some (25, true), .e .call [] [], [.f 356, .t 29, .t 30]⟩,
    ⟨11, some 32, none, .p .pick, [.t 25, .t 31, .c (.bool false)]⟩])
   (.cond (.t 32) (.seq (.reg 0 [⟨0, some 33, none, .p .mov, [.t 0]⟩,
    ⟨1, some 4, none, .p .mov, [.t 33]⟩])
   (.ret))
   (.skip)))
   (.seq (.reg 0 [⟨0, some 34, none, .e (.new (.lit 1)) [] [], []⟩,
    ⟨1, some 35, none, .p .mov, [.t 0]⟩,
    ⟨2, some 36, none, .p .mov, [.t 5]⟩,
    ⟨3, some 37, none, .p (.slice 1 false true false), [.t 35, .t 36]⟩,
    ⟨4, some 38, none, .e (.append 1 24) [] [], [.t 34, .t 37]⟩,
    ⟨5, some 6, none, .p .mov, [.t 38]⟩])
   (.seq (.reg 0 [⟨0, some 39, none, .p .mov, [.t 6]⟩,
    ⟨1, some 40, none, .e (.new (.lit 1)) [] [], []⟩,
    ⟨2, some 41, none, .p .mov, [.t 1]⟩,
    ⟨3, some 42, none, .e (.append 1 8) [] [], [.t 40, .t 41]⟩,
    ⟨4, some 43, none, .e (.new (.lit 1)) [] [], [.t 42]⟩,
    ⟨5, some 44, none, .e (.append 1 24) [] [], [.t 39, .t 43]⟩,
    ⟨6, some 6, none, .p .mov, [.t 44]⟩])
   (.seq (.reg 0 [⟨0, some 45, none, .p .mov, [.t 6]⟩,
    ⟨1, some 46, none, .p .mov, [.t 0]⟩,
    ⟨2, some 47, none, .p .mov, [.t 5]⟩,
    ⟨3, some 48, none, .p (.slice 1 true false false), [.t 46, .t 47]⟩,
    ⟨4, some 49, none, .e (.append 1 24) [] [], [.t 45, .t 48]⟩,
    ⟨5, some 4, none, .p .mov, [.t 49]⟩])
   (.ret))))))),
  [.tmp 4]⟩
/- loop.example/g00641/impl.isRising -/
def g385_0 : GL.Code := .seq (.reg 0 [⟨0, some 12, none, .p (.bin .lss), [.t 11, .t 10]⟩])
   (.seq (.cond (.t 12) (.skip)
   (.exit 0))
   (.seq (.block 1 (.seq (.reg 0 [⟨0, some 13, none, .p .mov, [.t 11]⟩,
    ⟨1, some 14, none, .p (.idx 1), [.t 9, .t 11]⟩,
    ⟨2, some 15, none, .r (.load false 1) false, [.t 14]⟩,
    ⟨3, some 7, none, .p .mov, [.t 13]⟩,
    ⟨4, some 8, none, .p .mov, [.t 15]⟩])
   (.seq (.reg 0 [⟨0, some 16, none, .p .mov, [.t 8]⟩,
    ⟨1, some 17, none, .p .mov, [.t 1]⟩,
    ⟨2, some 18, none, .p .mov, [.t 2]⟩,
    ⟨3, some 19, none, .e .call [] [], [.f 107, .t 16, .t 17, .t 18]⟩,
    ⟨4, some 20, none, .p (.un .not), [.t 19]⟩,
    ⟨5, some 21, none, .p .mov, [.t 20]⟩,
    ⟨6, some 22, some (21, false), .p .mov, [.t 7]⟩,
    ⟨7, some 23, some (21, false), .p (.bin .gtr), [.t 22, .c (.int .i64 0)]⟩,
    ⟨8, some 24, some (21, false), .p .mov, [.t 23]⟩,
    ⟨9, some 25, some (24, true), .p .mov, [.t 0]⟩,
    ⟨10, some 26, some (24, true), .p .mov, [.t 7]⟩,
    ⟨11, some 27, some (24, true), .p (.bin .sub), [.t 26, .c (.int .i64 1)]⟩,
    ⟨12, some 28, some (24, true), .p (.idx 1), [.t 25, .t 27]⟩,
    ⟨13, some 29, some (24, true), .r (.load false 1) false, [.t 28]⟩,
    ⟨14, some 30, some (24, true), .p .mov, [.t 8]⟩,
    ⟨15, some 31, some (24, true), .p (.bin .geq), [.t 29, .t 30]⟩,
    ⟨16, some 32, some (21, false), .p .pick, [.t 24, .t 31, .c (.bool false)]⟩,
    ⟨17, some 33, none, .p .pick, [.t 21, .c (.bool true), .t 32]⟩])
   (.cond (.t 33) (.seq (.reg 0 [⟨0, some 6, none, .p .mov, [.c (.bool false)]⟩])
   (.ret))
   (.skip)))))
   (.reg 0 [⟨0, some 34, none, .p (.bin .add), [.t 11, .c (.int .i64 1)]⟩,
    ⟨1, some 11, none, .p .mov, [.t 34]⟩])))
def g385 : GL.Fn := ⟨.seq (.reg 0 [⟨0, some 6, none, .p .mov, [.c (.bool false)]⟩])
   (.seq (.seq (.reg 0 [⟨0, some 9, none, .p .mov, [.t 0]⟩,
    ⟨1, some 10, none, .p .len, [.t 9]⟩,
    ⟨2, some 11, none, .p .mov, [.c (.int .i64 0)]⟩])
   (.block 0 (.loop g385_0)))
   (.seq (.reg 0 [⟨0, some 6, none, .p .mov, [.c (.bool true)]⟩])
   (.ret))),
  [.tmp 6]⟩
/- loop.example/g00641/impl.GoodRelation$1 -/
def g676 : GL.Fn := ⟨.seq (.reg 0 [⟨0, some 2, none, .p .mov, [.c (.bool false)]⟩])
   (.seq (.reg 0 [⟨0, some 3, none, .p .mov, [.t 0]⟩,
    ⟨1, some 4, none, .e .call [] [], [.f 100, .t 3]⟩,
    ⟨2, some 5, none, .p (.un .not), [.t 4]⟩,
    ⟨3, some 2, none, .p .mov, [.t 5]⟩])
   (.ret)),
  [.tmp 2]⟩
/- slices.Concat[[]int,int] -/
def g429_0 : GL.Code := .seq (.reg 0 [⟨0, some 12, none, .p (.bin .lss), [.t 11, .t 10]⟩])
   (.seq (.cond (.t 12) (.skip)
   (.exit 0))
   (.seq (.block 1 (.seq (.reg 0 [⟨0, some 13, none, .p (.idx 1), [.t 9, .t 11]⟩,
    ⟨1, some 14, none, .r (.load false 1) false, [.t 13]⟩,
    ⟨2, some 5, none, .p .mov, [.t 14]⟩])
   (.seq (.reg 0 [⟨0, some 15, none, .p .mov, [.t 3]⟩,
    ⟨1, some 16, none, .p .mov, [.t 5]⟩,
    ⟨2, some 17, none, .p .len, [.t 16]⟩,
    ⟨3, some 18, none, .p (.bin .add), [.t 15, .t 17]⟩,
    ⟨4, some 3, none, .p .mov, [.t 18]⟩])
   (.seq (.reg 0 [⟨0, some 19, none, .p .mov, [.t 3]⟩,
    ⟨1, some 20, none, .p (.bin .lss), [.t 19, .c (.int .i64 0)]⟩])
   (.cond (.t 20) (.reg 0 [⟨0, some 21, none, .p .bad, []⟩,
    ⟨1, none, none, .p .bad, []⟩])
   (.skip))))))
   (.reg 0 [⟨0, some 22, none, .p (.bin .add), [.t 11, .c (.int .i64 1)]⟩,
    ⟨1, some 11, none, .p .mov, [.t 22]⟩])))
def g429_1 : GL.Code := .seq (.reg 0 [⟨0, some 28, none, .p (.bin .lss), [.t 27, .t 26]⟩])
   (.seq (.cond (.t 28) (.skip)
   (.exit 2))
   (.seq (.block 3 (.seq (.reg 0 [⟨0, some 29, none, .p (.idx 1), [.t 25, .t 27]⟩,
    ⟨1, some 30, none, .r (.load false 1) false, [.t 29]⟩,
    ⟨2, some 8, none, .p .mov, [.t 30]⟩])
   (.reg 0 [⟨0, some 31, none, .p .mov, [.t 6]⟩,
    ⟨1, some 32, none, .p .mov, [.t 8]⟩,
    ⟨2, some 33, none, .e (.append 1 8) [] [], [.t 31, .t 32]⟩,
    ⟨3, some 6, none, .p .mov, [.t 33]⟩])))
   (.reg 0 [⟨0, some 34, none, .p (.bin .add), [.t 27, .c (.int .i64 1)]⟩,
    ⟨1, some 27, none, .p .mov, [.t 34]⟩])))
def g429 : GL.Fn := ⟨.seq (.reg 0 [⟨0, some 2, none, .p .mov, [.c (.nils)]⟩])
   (.seq (.reg 0 [⟨0, some 3, none, .p .mov, [.c (.int .i64 0)]⟩])
   (.seq (.seq (.reg 0 [⟨0, some 9, none, .p .mov, [.t 0]⟩,
    ⟨1, some 10, none, .p .len, [.t 9]⟩,
    ⟨2, some 11, none, .p .mov, [.c (.int .i64 0)]⟩])
   (.block 0 (.loop g429_0)))
   (.seq (.reg 0 [⟨0, some 23, none, .p .mov, [.t 3]⟩,
    ⟨1, some 24, none, .e .call [] [], [.f 436, .c (.nils), .t 23]⟩,
    ⟨2, some 6, none, .p .mov, [.t 24]⟩])
   (.seq (.seq (.reg 0 [⟨0, some 25, none, .p .mov, [.t 0]⟩,
    ⟨1, some 26, none, .p .len, [.t 25]⟩,
    ⟨2, some 27, none, .p .mov, [.c (.int .i64 0)]⟩])
   (.block 2 (.loop g429_1)))
   (.seq (.reg 0 [⟨0, some 35, none, .p .mov, [.t 6]⟩,
    ⟨1, some 2, none, .p .mov, [.t 35]⟩])
   (.ret)))))),
  [.tmp 2]⟩
/- slices.Compact[[]int,int] -/
def g430_0 : GL.Code := .seq (.seq (.reg 0 [⟨0, some 29, none, .p .mov, [.t 5]⟩,
    ⟨1, some 30, none, .p .mov, [.t 4]⟩,
    ⟨2, some 31, none, .p .len, [.t 30]⟩,
    ⟨3, some 32, none, .p (.bin .lss), [.t 29, .t 31]⟩])
   (.cond (.t 32) (.skip)
   (.exit 2)))
   (.seq (.block 3 (.seq (.reg 0 [⟨0, some 35, none, .p .mov, [.t 4]⟩,
    ⟨1, some 36, none, .p .mov, [.t 5]⟩,
    ⟨2, some 37, none, .p (.idx 1), [.t 35, .t 36]⟩,
    ⟨3, some 38, none, .r (.load false 1) false, [.t 37]⟩,
    ⟨4, some 39, none, .p .mov, [.t 4]⟩,
    ⟨5, some 40, none, .p .mov, [.t 5]⟩,
    ⟨6, some 41, none, .p (.bin .sub), [.t 40, .c (.int .i64 1)]⟩,
    ⟨7, some 42, none, .p (.idx 1), [.t 39, .t 41]⟩,
    ⟨8, some 43, none, .r (.load false 1) false, [.t 42]⟩,
    ⟨9, some 44, none, .p (.bin .neq), [.t 38, .t 43]⟩])
   (.cond (.t 44) (.seq (.reg 0 [⟨0, some 45, none, .p .mov, [.t 0]⟩,
    ⟨1, some 46, none, .p .mov, [.t 3]⟩,
    ⟨2, some 47, none, .p .mov, [.t 4]⟩,
    ⟨3, some 48, none, .p .mov, [.t 5]⟩,
    ⟨4, some 49, none, .p (.idx 1), [.t 47, .t 48]⟩,
    ⟨5, some 50, none, .r (.load false 1) false, [.t 49]⟩,
    ⟨6, some 51, none, .p (.idx 1), [.t 45, .t 46]⟩,
    ⟨7, none, none, .e (.store 1) [] [], [.t 51, .t 50]⟩])
   (.reg 0 [⟨0, some 52, none, .p .mov, [.t 3]⟩,
    ⟨1, some 53, none, .p (.bin .add), [.t 52, .c (.int .i64 1)]⟩,
    ⟨2, some 3, none, .p .mov, [.t 53]⟩]))
   (.skip))))
   (.reg 0 [⟨0, some 33, none, .p .mov, [.t 5]⟩,
    ⟨1, some 34, none, .p (.bin .add), [.t 33, .c (.int .i64 1)]⟩,
    ⟨2, some 5, none, .p .mov, [.t 34]⟩]))
def g430_1 : GL.Code := .seq (.seq (.reg 0 [⟨0, some 10, none, .p .mov, [.t 3]⟩,
    ⟨1, some 11, none, .p .mov, [.t 0]⟩,
    ⟨2, some 12, none, .p .len, [.t 11]⟩,
    ⟨3, some 13, none, .p (.bin .lss), [.t 10, .t 12]⟩])
   (.cond (.t 13) (.skip)
   (.exit 0)))
   (.seq (.block 1 (.seq (.reg 0 [⟨0, some 16, none, .p .mov, [.t 0]⟩,
    ⟨1, some 17, none, .p .mov, [.t 3]⟩,
    ⟨2, some 18, none, .p (.idx 1), [.t 16, .t 17]⟩,
    ⟨3, some 19, none, .r (.load false 1) false, [.t 18]⟩,
    ⟨4, some 20, none, .p .mov, [.t 0]⟩,
    ⟨5, some 21, none, .p .mov, [.t 3]⟩,
    ⟨6, some 22, none, .p (.bin .sub), [.t 21, .c (.int .i64 1)]⟩,
    ⟨7, some 23, none, .p (.idx 1), [.t 20, .t 22]⟩,
    ⟨8, some 24, none, .r (.load false 1) false, [.t 23]⟩,
    ⟨9, some 25, none, .p (.bin .eql), [.t 19, .t 24]⟩])
   (.cond (.t 25) (.seq (.reg 0 [⟨0, some 26, none, .p .mov, [.t 0]⟩,
    ⟨1, some 27, none, .p .mov, [.t 3]⟩,
    ⟨2, some 28, none, .p (.slice 1 true false false), [.t 26, .t 27]⟩,
    ⟨3, some 4, none, .p .mov, [.t 28]⟩])
   (.seq (.seq (.reg 0 [⟨0, some 5, none, .p .mov, [.c (.int .i64 1)]⟩])
   (.block 2 (.loop g430_0)))
   (.seq (.reg 0 [⟨0, some 54, none, .p .mov, [.t 0]⟩,
    ⟨1, some 55, none, .p .mov, [.t 3]⟩,
    ⟨2, some 56, none, .p (.slice 1 true false false), [.t 54, .t 55]⟩,
    ⟨3, none, none, .e (.clear 1 [.int .i64 0]) [] [], [.t 56]⟩])
   (.seq (.reg 0 [⟨0, some 57, none, .p .mov, [.t 0]⟩,
    ⟨1, some 58, none, .p .mov, [.t 3]⟩,
    ⟨2, some 59, none, .p (.slice 1 false true false), [.t 57, .t 58]⟩,
    ⟨3, some 2, none, .p .mov, [.t 59]⟩])
   (.ret)))))
   (.skip))))
   (.reg 0 [⟨0, some 14, none, .p .mov, [.t 3]⟩,
    ⟨1, some 15, none, .p (.bin .add), [.t 14, .c (.int .i64 1)]⟩,
    ⟨2, some 3, none, .p .mov, [.t 15]⟩]))
def g430 : GL.Fn := ⟨.seq (.reg 0 [⟨0, some 2, none, .p .mov, [.c (.nils)]⟩])
   (.seq (.seq (.reg 0 [⟨0, some 6, none, .p .mov, [.t 0]⟩,
    ⟨1, some 7, none, .p .len, [.t 6]⟩,
    ⟨2, some 8, none, .p (.bin .lss), [.t 7, .c (.int .i64 2)]⟩])
   (.cond (.t 8) (.seq (.reg 0 [⟨0, some 9, none, .p .mov, [.t 0]⟩,
    ⟨1, some 2, none, .p .mov, [.t 9]⟩])
   (.ret))
   (.skip)))
   (.seq (.seq (.reg 0 [⟨0, some 3, none, .p .mov, [.c (.int .i64 1)]⟩])
   (.block 0 (.loop g430_1)))
   (.seq (.reg 0 [⟨0, some 60, none, .p .mov, [.t 0]⟩,
    ⟨1, some 2, none, .p .mov, [.t 60]⟩])
   (.ret)))),
  [.tmp 2]⟩
/- slices.DeleteFunc[[]int,int] -/
def g397_0 : GL.Code := .seq (.seq (.reg 0 [⟨0, some 16, none, .p .mov, [.t 6]⟩,
    ⟨1, some 17, none, .p .mov, [.t 0]⟩,
    ⟨2, some 18, none, .p .len, [.t 17]⟩,
    ⟨3, some 19, none, .p (.bin .lss), [.t 16, .t 18]⟩])
   (.cond (.t 19) (.skip)
   (.exit 0)))
   (.seq (.block 1 (.seq (.reg 0 [⟨0, some 22, none, .p .mov, [.t 0]⟩,
    ⟨1, some 23, none, .p .mov, [.t 6]⟩,
    ⟨2, some 24, none, .p (.idx 1), [.t 22, .t 23]⟩,
    ⟨3, some 25, none, .r (.load false 1) false, [.t 24]⟩,
    ⟨4, some 7, none, .p .mov, [.t 25]⟩])
   (.seq (.reg 0 [⟨0, some 26, none, .p .mov, [.t 1]⟩,
    ⟨1, some 27, none, .p .mov, [.t 7]⟩,
    ⟨2, some 28, none, .e .call [] [], [.t 26, .t 27]⟩,
    ⟨3, some 29, none, .p (.un .not), [.t 28]⟩])
   (.cond (.t 29) (.seq (.reg 0 [⟨0, some 30, none, .p .mov, [.t 0]⟩,
    ⟨1, some 31, none, .p .mov, [.t 5]⟩,
    ⟨2, some 32, none, .p .mov, [.t 7]⟩,
    ⟨3, some 33, none, .p (.idx 1), [.t 30, .t 31]⟩,
    ⟨4, none, none, .e (.store 1) [] [], [.t 33, .t 32]⟩])
   (.reg 0 [⟨0, some 34, none, .p .mov, [.t 5]⟩,
    ⟨1, some 35, none, .p (.bin .add), [.t 34, .c (.int .i64 1)]⟩,
    ⟨2, some 5, none, .p .mov, [.t 35]⟩]))
   (.skip)))))
   (.reg 0 [⟨0, some 20, none, .p .mov, [.t 6]⟩,
    ⟨1, some 21, none, .p (.bin .add), [.t 20, .c (.int .i64 1)]⟩,
    ⟨2, some 6, none, .p .mov, [.t 21]⟩]))
def g397 : GL.Fn := ⟨.seq (.reg 0 [⟨0, some 4, none, .p .mov, [.c (.nils)]⟩])
   (.seq (.reg 0 [⟨0, some 8, none, .p .mov, [.t 0]⟩,
    ⟨1, some 9, none, .p .mov, [.t 1]⟩,
    ⟨2, some 10, none, .e .call [] [], [.f 391, .t 8, .t 9]⟩,
    ⟨3, some 5, none, .p .mov, [.t 10]⟩])
   (.seq (.seq (.reg 0 [⟨0, some 11, none, .p .mov, [.t 5]⟩,
    ⟨1, some 12, none, .p (.bin .eql), [.t 11, .c (.int .i64 (-1))]⟩])
   (.cond (.t 12) (.seq (.reg 0 [⟨0, some 13, none, .p .mov, [.t 0]⟩,
    ⟨1, some 4, none, .p .mov, [.t 13]⟩])
   (.ret))
   (.skip)))
   (.seq (.seq (.reg 0 [⟨0, some 14, none, .p .mov, [.t 5]⟩,
    ⟨1, some 15, none, .p (.bin .add), [.t 14, .c (.int .i64 1)]⟩,
    ⟨2, some 6, none, .p .mov, [.t 15]⟩])
   (.block 0 (.loop g397_0)))
   (.seq (.reg 0 [⟨0, some 36, none, .p .mov, [.t 0]⟩,
    ⟨1, some 37, none, .p .mov, [.t 5]⟩,
    ⟨2, some 38, none, .p (.slice 1 true false false), [.t 36, .t 37]⟩,
    ⟨3, none, none, .e (.clear 1 [.int .i64 0]) [] [], [.t 38]⟩])
   (.seq (.reg 0 [⟨0, some 39, none, .p .mov, [.t 0]⟩,
    ⟨1, some 40, none, .p .mov, [.t 5]⟩,
    ⟨2, some 41, none, .p (.slice 1 false true false), [.t 39, .t 40]⟩,
    ⟨3, some 4, none, .p .mov, [.t 41]⟩])
   (.ret)))))),
  [.tmp 4]⟩
/- loop.example/g00641/impl.without$1 -/
def g435 : GL.Fn := ⟨.seq (.reg 0 [⟨0, some 3, none, .p .mov, [.c (.bool false)]⟩])
   (.seq (.reg 0 [⟨0, some 4, none, .r (.load false 1) false, [.t 1]⟩,
    ⟨1, some 5, none, .p .mov, [.t 0]⟩,
    ⟨2, some 6, none, .e .call [] [], [.f 301, .t 4, .t 5]⟩,
    ⟨3, some 3, none, .p .mov, [.t 6]⟩])
   (.ret)),
  [.tmp 3]⟩
/- slices.IndexFunc[[]int,int] -/
def g391_0 : GL.Code := .seq (.reg 0 [⟨0, some 9, none, .p (.bin .lss), [.t 8, .t 7]⟩])
   (.seq (.cond (.t 9) (.skip)
   (.exit 0))
   (.seq (.block 1 (.seq (.reg 0 [⟨0, some 10, none, .p .mov, [.t 8]⟩,
    ⟨1, some 5, none, .p .mov, [.t 10]⟩])
   (.seq (.reg 0 [⟨0, some 11, none, .p .mov, [.t 1]⟩,
    ⟨1, some 12, none, .p .mov, [.t 0]⟩,
    ⟨2, some 13, none, .p .mov, [.t 5]⟩,
    ⟨3, some 14, none, .p (.idx 1), [.t 12, .t 13]⟩,
    ⟨4, some 15, none, .r (.load false 1) false, [.t 14]⟩,
    ⟨5, some 16, none, .e .call [] [], [.t 11, .t 15]⟩])
   (.cond (.t 16) (.seq (.reg 0 [⟨0, some 17, none, .p .mov, [.t 5]⟩,
    ⟨1, some 4, none, .p .mov, [.t 17]⟩])
   (.ret))
   (.skip)))))
   (.reg 0 [⟨0, some 18, none, .p (.bin .add), [.t 8, .c (.int .i64 1)]⟩,
    ⟨1, some 8, none, .p .mov, [.t 18]⟩])))
def g391 : GL.Fn := ⟨.seq (.reg 0 [⟨0, some 4, none, .p .mov, [.c (.int .i64 0)]⟩])
   (.seq (.seq (.reg 0 [⟨0, some 6, none, .p .mov, [.t 0]⟩,
    ⟨1, some 7, none, .p .len, [.t 6]⟩,
    ⟨2, some 8, none, .p .mov, [.c (.int .i64 0)]⟩])
   (.block 0 (.loop g391_0)))
   (.seq (.reg 0 [⟨0, some 4, none, .p .mov, [.c (.int .i64 (-1))]⟩])
   (.ret))),
  [.tmp 4]⟩
/- slices.IndexFunc[[]loop.example/g00641/impl.Dep,loop.example/g00641/impl.Dep] -/
def g675_0 : GL.Code := .seq (.reg 0 [⟨0, some 9, none, .p (.bin .lss), [.t 8, .t 7]⟩])
   (.seq (.cond (.t 9) (.skip)
   (.exit 0))
   (.seq (.block 1 (.seq (.reg 0 [⟨0, some 10, none, .p .mov, [.t 8]⟩,
    ⟨1, some 5, none, .p .mov, [.t 10]⟩])
   (.seq (.reg 0 [⟨0, some 11, none, .p .mov, [.t 1]⟩,
    ⟨1, some 12, none, .p .mov, [.t 0]⟩,
    ⟨2, some 13, none, .p .mov, [.t 5]⟩,
    ⟨3, some 14, none, .p (.idx 2), [.t 12, .t 13]⟩,
    ⟨4, some 15, none, .r (.load true 2) false, [.t 14]⟩,
    ⟨5, some 16, none, .e .call [] [], [.t 11, .t 15]⟩])
   (.cond (.t 16) (.seq (.reg 0 [⟨0, some 17, none, .p .mov, [.t 5]⟩,
    ⟨1, some 4, none, .p .mov, [.t 17]⟩])
   (.ret))
   (.skip)))))
   (.reg 0 [⟨0, some 18, none, .p (.bin .add), [.t 8, .c (.int .i64 1)]⟩,
    ⟨1, some 8, none, .p .mov, [.t 18]⟩])))
def g675 : GL.Fn := ⟨.seq (.reg 0 [⟨0, some 4, none, .p .mov, [.c (.int .i64 0)]⟩])
   (.seq (.seq (.reg 0 [⟨0, some 6, none, .p .mov, [.t 0]⟩,
    ⟨1, some 7, none, .p .len, [.t 6]⟩,
    ⟨2, some 8, none, .p .mov, [.c (.int .i64 0)]⟩])
   (.block 0 (.loop g675_0)))
   (.seq (.reg 0 [⟨0, some 4, none, .p .mov, [.c (.int .i64 (-1))]⟩])
   (.ret))),
  [.tmp 4]⟩
/- loop.example/g00641/spec.l1All -/
def g94_0 : GL.Code := .seq (.reg 0 [⟨0, some 12, none, .p (.bin .lss), [.t 11, .t 10]⟩])
   (.seq (.cond (.t 12) (.skip)
   (.exit 0))
   (.seq (.block 1 (.seq (.reg 0 [⟨0, some 13, none, .p (.idx 1), [.t 9, .t 11]⟩,
    ⟨1, some 14, none, .r (.load false 1) false, [.t 13]⟩,
    ⟨2, some 8, none, .p .mov, [.t 14]⟩])
   (.seq (.reg 0 [⟨0, some 15, none, .p .mov, [.t 8]⟩,
    ⟨1, some 16, none, .p .mov, [.t 1]⟩,
    ⟨2, some 17, none, .p .mov, [.t 2]⟩,
    ⟨3, some 18, none, .e .call [] [], [.f 98, .t 15, .t 16, .t 17]⟩,
    ⟨4, some 19, none, .p (.un .not), [.t 18]⟩])
   (.cond (.t 19) (.seq (.reg 0 [⟨0, some 6, none, .p .mov, [.c (.bool false)]⟩])
   (.ret))
   (.skip)))))
   (.reg 0 [⟨0, some 20, none, .p (.bin .add), [.t 11, .c (.int .i64 1)]⟩,
    ⟨1, some 11, none, .p .mov, [.t 20]⟩])))
def g94 : GL.Fn := ⟨.seq (.reg 0 [⟨0, some 6, none, .p .mov, [.c (.bool false)]⟩])
   (.seq (.seq (.reg 0 [⟨0, some 9, none, .p .mov, [.t 0]⟩,
    ⟨1, some 10, none, .p .len, [.t 9]⟩,
    ⟨2, some 11, none, .p .mov, [.c (.int .i64 0)]⟩])
   (.block 0 (.loop g94_0)))
   (.seq (.reg 0 [⟨0, some 6, none, .p .mov, [.c (.bool true)]⟩])
   (.ret))),
  [.tmp 6]⟩
/- loop.example/g00641/spec.l3Less -/
def g678_0 : GL.Code := .seq (.reg 0 [⟨0, some 9, none, .p (.bin .lss), [.t 8, .t 7]⟩])
   (.seq (.cond (.t 9) (.skip)
   (.exit 0))
   (.seq (.block 1 (.seq (.reg 0 [⟨0, some 10, none, .p .mov, [.t 8]⟩,
    ⟨1, some 5, none, .p .mov, [.t 10]⟩])
   (.seq (.reg 0 [⟨0, some 11, none, .p .mov, [.t 0]⟩,
    ⟨1, some 12, none, .p .mov, [.t 5]⟩,
    ⟨2, some 13, none, .p (.idx 1), [.t 11, .t 12]⟩,
    ⟨3, some 14, none, .r (.load false 1) false, [.t 13]⟩,
    ⟨4, some 15, none, .p .mov, [.t 1]⟩,
    ⟨5, some 16, none, .p .mov, [.t 5]⟩,
    ⟨6, some 17, none, .p (.idx 1), [.t 15, .t 16]⟩,
    ⟨7, some 18, none, .r (.load false 1) false, [.t 17]⟩,
    ⟨8, some 19, none, .p (.bin .neq), [.t 14, .t 18]⟩])
   (.cond (.t 19) (.seq (.reg 0 [⟨0, some 20, none, .p .mov, [.t 0]⟩,
    ⟨1, some 21, none, .p .mov, [.t 5]⟩,
    ⟨2, some 22, none, .p (.idx 1), [.t 20, .t 21]⟩,
    ⟨3, some 23, none, .r (.load false 1) false, [.t 22]⟩,
    ⟨4, some 24, none, .p .mov, [.t 1]⟩,
    ⟨5, some 25, none, .p .mov, [.t 5]⟩,
    ⟨6, some 26, none, .p (.idx 1), [.t 24, .t 25]⟩,
    ⟨7, some 27, none, .r (.load false 1) false, [.t 26]⟩,
    ⟨8, some 28, none, .p (.bin .lss), [.t 23, .t 27]⟩,
    ⟨9, some 4, none, .p .mov, [.t 28]⟩])
   (.ret))
   (.skip)))))
   (.reg 0 [⟨0, some 29, none, .p (.bin .add), [.t 8, .c (.int .i64 1)]⟩,
    ⟨1, some 8, none, .p .mov, [.t 29]⟩])))
def g678 : GL.Fn := ⟨.seq (.reg 0 [⟨0, some 4, none, .p .mov, [.c (.bool false)]⟩])
   (.seq (.seq (.reg 0 [⟨0, some 6, none, .p .mov, [.t 0]⟩,
    ⟨1, some 7, none, .p .len, [.t 6]⟩,
    ⟨2, some 8, none, .p .mov, [.c (.int .i64 0)]⟩])
   (.block 0 (.loop g678_0)))
   (.seq (.reg 0 [⟨0, some 4, none, .p .mov, [.c (.bool false)]⟩])
   (.ret))),
  [.tmp 4]⟩
/- loop.example/g00641/spec.l3At -/
def g606_0 : GL.Code := .seq (.reg 0 [⟨0, some 10, none, .p (.bin .lss), [.t 9, .t 8]⟩])
   (.seq (.cond (.t 10) (.skip)
   (.exit 0))
   (.seq (.block 1 (.seq (.reg 0 [⟨0, some 11, none, .p .mov, [.t 9]⟩,
    ⟨1, some 12, none, .p (.idx 1), [.t 7, .t 9]⟩,
    ⟨2, some 13, none, .r (.load false 1) false, [.t 12]⟩,
    ⟨3, some 5, none, .p .mov, [.t 11]⟩,
    ⟨4, some 6, none, .p .mov, [.t 13]⟩])
   (.seq (.reg 0 [⟨0, some 14, none, .p .mov, [.t 6]⟩,
    ⟨1, some 15, none, .p .mov, [.t 1]⟩,
    ⟨2, some 16, none, .p (.bin .eql), [.t 14, .t 15]⟩])
   (.cond (.t 16) (.seq (.reg 0 [⟨0, some 17, none, .p .mov, [.t 5]⟩,
    ⟨1, some 4, none, .p .mov, [.t 17]⟩])
   (.ret))
   (.skip)))))
   (.reg 0 [⟨0, some 18, none, .p (.bin .add), [.t 9, .c (.int .i64 1)]⟩,
    ⟨1, some 9, none, .p .mov, [.t 18]⟩])))
def g606 : GL.Fn := ⟨.seq (.reg 0 [⟨0, some 4, none, .p .mov, [.c (.int .i64 0)]⟩])
   (.seq (.seq (.reg 0 [⟨0, some 7, none, .p .mov, [.t 0]⟩,
    ⟨1, some 8, none, .p .len, [.t 7]⟩,
    ⟨2, some 9, none, .p .mov, [.c (.int .i64 0)]⟩])
   (.block 0 (.loop g606_0)))
   (.seq (.reg 0 [⟨0, some 4, none, .p .mov, [.c (.int .i64 (-1))]⟩])
   (.ret))),
  [.tmp 4]⟩
/- loop.example/g00641/spec.l1Same -/
def g356_0 : GL.Code := .seq (.reg 0 [⟨0, some 14, none, .p (.bin .lss), [.t 13, .t 12]⟩])
   (.seq (.cond (.t 14) (.skip)
   (.exit 0))
   (.seq (.block 1 (.seq (.reg 0 [⟨0, some 15, none, .p .mov, [.t 13]⟩,
    ⟨1, some 5, none, .p .mov, [.t 15]⟩])
   (.seq (.reg 0 [⟨0, some 16, none, .p .mov, [.t 0]⟩,
    ⟨1, some 17, none, .p .mov, [.t 5]⟩,
    ⟨2, some 18, none, .p (.idx 1), [.t 16, .t 17]⟩,
    ⟨3, some 19, none, .r (.load false 1) false, [.t 18]⟩,
    ⟨4, some 20, none, .p .mov, [.t 1]⟩,
    ⟨5, some 21, none, .p .mov, [.t 5]⟩,
    ⟨6, some 22, none, .p (.idx 1), [.t 20, .t 21]⟩,
    ⟨7, some 23, none, .r (.load false 1) false, [.t 22]⟩,
    ⟨8, some 24, none, .p (.bin .neq), [.t 19, .t 23]⟩])
   (.cond (.t 24) (.seq (.reg 0 [⟨0, some 4, none, .p .mov, [.c (.bool false)]⟩])
   (.ret))
   (.skip)))))
   (.reg 0 [⟨0, some 25, none, .p (.bin .add), [.t 13, .c (.int .i64 1)]⟩,
    ⟨1, some 13, none, .p .mov, [.t 25]⟩])))
def g356 : GL.Fn := ⟨.seq (.reg 0 [⟨0, some 4, none, .p .mov, [.c (.bool false)]⟩])
   (.seq (.seq (.reg 0 [⟨0, some 6, none, .p .mov, [.t 0]⟩,
    ⟨1, some 7, none, .p .len, [.t 6]⟩,
    ⟨2, some 8, none, .p .mov, [.t 1]⟩,
    ⟨3, some 9, none, .p .len, [.t 8]⟩,
    ⟨4, some 10, none, .p (.bin .neq), [.t 7, .t 9]⟩])
   (.cond (.t 10) (.seq (.reg 0 [⟨0, some 4, none, .p .mov, [.c (.bool false)]⟩])
   (.ret))
   (.skip)))
   (.seq (.seq (.reg 0 [⟨0, some 11, none, .p .mov, [.t 0]⟩,
    ⟨1, some 12, none, .p .len, [.t 11]⟩,
    ⟨2, some 13, none, .p .mov, [.c (.int .i64 0)]⟩])
   (.block 0 (.loop g356_0)))
   (.seq (.reg 0 [⟨0, some 4, none, .p .mov, [.c (.bool true)]⟩])
   (.ret)))),
  [.tmp 4]⟩
/- loop.example/g00641/spec.l3Pick -/
def g679_0 : GL.Code := .seq (.reg 0 [⟨0, some 13, none, .p (.bin .lss), [.t 12, .t 11]⟩])
   (.seq (.cond (.t 13) (.skip)
   (.exit 0))
   (.seq (.block 1 (.seq (.reg 0 [⟨0, some 14, none, .p (.idx 1), [.t 10, .t 12]⟩,
    ⟨1, some 15, none, .r (.load false 1) false, [.t 14]⟩,
    ⟨2, some 9, none, .p .mov, [.t 15]⟩])
   (.reg 0 [⟨0, some 16, none, .p .mov, [.t 7]⟩,
    ⟨1, some 17, none, .p .mov, [.t 1]⟩,
    ⟨2, some 18, none, .p .mov, [.t 0]⟩,
    ⟨3, some 19, none, .p .mov, [.t 9]⟩,
    ⟨4, some 20, none, .e .call [] [], [.f 606, .t 18, .t 19]⟩,
    ⟨5, some 21, none, .p (.idx 1), [.t 17, .t 20]⟩,
    ⟨6, some 22, none, .r (.load false 1) false, [.t 21]⟩,
    ⟨7, some 23, none, .e (.new (.lit 1)) [] [], [.t 22]⟩,
    ⟨8, some 24, none, .e (.append 1 8) [] [], [.t 16, .t 23]⟩,
    ⟨9, some 7, none, .p .mov, [.t 24]⟩])))
   (.reg 0 [⟨0, some 25, none, .p (.bin .add), [.t 12, .c (.int .i64 1)]⟩,
    ⟨1, some 12, none, .p .mov, [.t 25]⟩])))
def g679 : GL.Fn := ⟨.seq (.reg 0 [⟨0, some 6, none, .p .mov, [.c (.nils)]⟩])
   (.seq (.reg 0 [⟨0, some 7, none, .p .mov, [.c (.nils)]⟩])
   (.seq (.seq (.reg 0 [⟨0, some 10, none, .p .mov, [.t 2]⟩,
    ⟨1, some 11, none, .p .len, [.t 10]⟩,
    ⟨2, some 12, none, .p .mov, [.c (.int .i64 0)]⟩])
   (.block 0 (.loop g679_0)))
   (.seq (.reg 0 [⟨0, some 26, none, .p .mov, [.t 7]⟩,
    ⟨1, some 6, none, .p .mov, [.t 26]⟩])
   (.ret)))),
  [.tmp 6]⟩
/- cmp.isNaN[int] -/
def g160 : GL.Fn := ⟨.seq (.reg 0 [⟨0, some 2, none, .p .mov, [.c (.bool false)]⟩])
   (.seq (.reg 0 [⟨0, some 3, none, .p .mov, [.t 0]⟩,
    ⟨1, some 4, none, .p .mov, [.t 0]⟩,
    ⟨2, some 5, none, .p (.bin .neq), [.t 3, .t 4]⟩,
    ⟨3, some 2, none, .p .mov, [.t 5]⟩])
   (.ret)),
  [.tmp 2]⟩
/- loop.example/g00641/impl.hasAll$1 -/
def g572 : GL.Fn := ⟨.seq (.reg 0 [⟨0, some 3, none, .p .mov, [.c (.bool false)]⟩])
   (.seq (.reg 0 [⟨0, some 4, none, .r (.load false 1) false, [.t 1]⟩,
    ⟨1, some 5, none, .p .mov, [.t 0]⟩,
    ⟨2, some 6, none, .e .call [] [], [.f 301, .t 4, .t 5]⟩,
    ⟨3, some 7, none, .p (.un .not), [.t 6]⟩,
    ⟨4, some 3, none, .p .mov, [.t 7]⟩])
   (.ret)),
  [.tmp 3]⟩
/- slices.Grow[[]int,int] -/
def g436 : GL.Fn := ⟨.seq (.reg 0 [⟨0, some 4, none, .p .mov, [.c (.nils)]⟩])
   (.seq (.seq (.reg 0 [⟨0, some 5, none, .p .mov, [.t 1]⟩,
    ⟨1, some 6, none, .p (.bin .lss), [.t 5, .c (.int .i64 0)]⟩])
   (.cond (.t 6) (.reg 0 [⟨0, some 7, none, .p .bad, []⟩,
    ⟨1, none, none, .p .bad, []⟩])
   (.skip)))
   (.seq (.seq (.reg 0 [⟨0, some 8, none, .p .mov, [.t 1]⟩,
    ⟨1, some 9, none, .p .mov, [.t 0]⟩,
    ⟨2, some 10, none, .p .cap, [.t 9]⟩,
    ⟨3, some 11, none, .p .mov, [.t 0]⟩,
    ⟨4, some 12, none, .p .len, [.t 11]⟩,
    ⟨5, some 13, none, .p (.bin .sub), [.t 10, .t 12]⟩,
    ⟨6, some 14, none, .p (.bin .sub), [.t 8, .t 13]⟩,
    ⟨7, some 1, none, .p .mov, [.t 14]⟩])
   (.seq (.reg 0 [⟨0, some 15, none, .p .mov, [.t 1]⟩,
    ⟨1, some 16, none, .p (.bin .gtr), [.t 15, .c (.int .i64 0)]⟩])
   (.cond (.t 16) (.reg 0 [⟨0, some 17, none, .p .mov, [.t 0]⟩,
    ⟨1, some 18, none, .p .mov, [.t 0]⟩,
    ⟨2, some 19, none, .p .cap, [.t 18]⟩,
    ⟨3, some 20, none, .p (.slice 1 false true false), [.t 17, .t 19]⟩,
    ⟨4, some 21, none, .p .mov, [.t 1]⟩,
    ⟨5, some 22, none, .e (.appendZ 1 8 [.int .i64 0]) [] [], [.t 20, .t 21]⟩,
    ⟨6, some 23, none, .p .mov, [.t 0]⟩,
    ⟨7, some 24, none, .p .len, [.t 23]⟩,
    ⟨8, some 25, none, .p (.slice 1 false true false), [.t 22, .t 24]⟩,
    ⟨9, some 0, none, .p .mov, [.t 25]⟩])
   (.skip))))
   (.seq (.reg 0 [⟨0, some 26, none, .p .mov, [.t 0]⟩,
    ⟨1, some 4, none, .p .mov, [.t 26]⟩])
   (.ret)))),
  [.tmp 4]⟩
end GL
