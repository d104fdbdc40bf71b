import Derived.Test.YtmgbbehacaldlaaGlA
/- GL code of functions. -/
set_option linter.unusedSimpArgs false
set_option linter.unusedVariables false
set_option linter.unnecessarySimpa false
namespace GL
open Go
/- loop.example/g00641/laws.FnDone -/
def g585_0 : GL.Code := .seq (.seq (.reg 0 [⟨0, some 100, none, .p .mov, [.t 17]⟩,
    ⟨1, some 101, none, .p (.bin .gtr), [.t 100, .c (.int .i64 0)]⟩,
    ⟨2, some 102, none, .p .mov, [.t 101]⟩,
    ⟨3, some 103, some (102, true), .p .mov, [.t 15]⟩,
    ⟨4, some 104, some (102, true), .p .mov, [.t 17]⟩,
    ⟨5, some 105, some (102, true), .p (.bin .sub), [.t 104, .c (.int .i64 1)]⟩,
    ⟨6, some 106, some (102, true), .p (.idx 1), [.t 103, .t 105]⟩,
    ⟨7, some 107, some (102, true), .r (.load false 1) false, [.t 106]⟩,
    ⟨8, some 108, some (102, true), .p .mov, [.t 15]⟩,
    ⟨9, some 109, some (102, true), .p .mov, [.t 17]⟩,
    ⟨10, some 110, some (102, true), .p (.idx 1), [.t 108, .t 109]⟩,
    ⟨11, some 111, some (102, true), .r (.load false 1) false, [.t 110]⟩,
    ⟨12, some 112, some (102, true), .p (.bin .gtr), [.t 107, .t 111]⟩,
    ⟨13, some 113, none, .p .pick, [.t 102, .t 112, .c (.bool false)]⟩])
   (.cond (.t 113) (.skip)
   (.exit 2)))
   (.seq (.block 3 (.seq (.reg 0 [⟨0, some 116, none, .p .mov, [.t 15]⟩,
    ⟨1, some 117, none, .p .mov, [.t 17]⟩,
    ⟨2, some 118, none, .p (.idx 1), [.t 116, .t 117]⟩,
    ⟨3, some 119, none, .r (.load false 1) false, [.t 118]⟩,
    ⟨4, some 18, none, .p .mov, [.t 119]⟩])
   (.seq (.reg 0 [⟨0, some 120, none, .p .mov, [.t 15]⟩,
    ⟨1, some 121, none, .p .mov, [.t 17]⟩,
    ⟨2, some 122, none, .p .mov, [.t 15]⟩,
    ⟨3, some 123, none, .p .mov, [.t 17]⟩,
    ⟨4, some 124, none, .p (.bin .sub), [.t 123, .c (.int .i64 1)]⟩,
    ⟨5, some 125, none, .p (.idx 1), [.t 122, .t 124]⟩,
    ⟨6, some 126, none, .r (.load false 1) false, [.t 125]⟩,
    ⟨7, some 127, none, .p (.idx 1), [.t 120, .t 121]⟩,
    ⟨8, none, none, .e (.store 1) [] [], [.t 127, .t 126]⟩])
   (.reg 0 [⟨0, some 128, none, .p .mov, [.t 15]⟩,
    ⟨1, some 129, none, .p .mov, [.t 17]⟩,
    ⟨2, some 130, none, .p (.bin .sub), [.t 129, .c (.int .i64 1)]⟩,
    ⟨3, some 131, none, .p .mov, [.t 18]⟩,
    ⟨4, some 132, none, .p (.idx 1), [.t 128, .t 130]⟩,
    ⟨5, none, none, .e (.store 1) [] [], [.t 132, .t 131]⟩]))))
   (.reg 0 [⟨0, some 114, none, .p .mov, [.t 17]⟩,
    ⟨1, some 115, none, .p (.bin .sub), [.t 114, .c (.int .i64 1)]⟩,
    ⟨2, some 17, none, .p .mov, [.t 115]⟩]))
def g585_1 : GL.Code := .seq (.reg 0 [⟨0, some 97, none, .p (.bin .lss), [.t 96, .t 95]⟩])
   (.seq (.cond (.t 97) (.skip)
   (.exit 0))
   (.seq (.block 1 (.seq (.reg 0 [⟨0, some 98, none, .p .mov, [.t 96]⟩,
    ⟨1, some 16, none, .p .mov, [.t 98]⟩])
   (.seq (.reg 0 [⟨0, some 99, none, .p .mov, [.t 16]⟩,
    ⟨1, some 17, none, .p .mov, [.t 99]⟩])
   (.block 2 (.loop g585_0)))))
   (.reg 0 [⟨0, some 133, none, .p (.bin .add), [.t 96, .c (.int .i64 1)]⟩,
    ⟨1, some 96, none, .p .mov, [.t 133]⟩])))
def g585_2 : GL.Code := .seq (.reg 0 [⟨0, some 182, none, .p (.bin .lss), [.t 181, .t 180]⟩])
   (.seq (.cond (.t 182) (.skip)
   (.exit 6))
   (.seq (.block 7 (.seq (.reg 0 [⟨0, some 183, none, .p (.idx 1), [.t 179, .t 181]⟩,
    ⟨1, some 184, none, .r (.load false 1) false, [.t 183]⟩,
    ⟨2, some 27, none, .p .mov, [.t 184]⟩])
   (.seq (.reg 0 [⟨0, some 185, none, .p .mov, [.t 21]⟩,
    ⟨1, some 186, none, .p .len, [.t 185]⟩,
    ⟨2, some 187, none, .p (.bin .lss), [.t 186, .c (.int .i64 60)]⟩])
   (.cond (.t 187) (.reg 0 [⟨0, some 188, none, .p .mov, [.t 21]⟩,
    ⟨1, some 189, none, .p .mov, [.t 23]⟩,
    ⟨2, some 190, none, .p (.bin .mul), [.c (.int .i64 12), .t 189]⟩,
    ⟨3, some 191, none, .p .mov, [.t 27]⟩,
    ⟨4, some 192, none, .p (.bin .add), [.t 190, .t 191]⟩,
    ⟨5, some 193, none, .e (.new (.lit 1)) [] [], [.t 192]⟩,
    ⟨6, some 194, none, .e (.append 1 8) [] [], [.t 188, .t 193]⟩,
    ⟨7, some 21, none, .p .mov, [.t 194]⟩])
   (.skip)))))
   (.reg 0 [⟨0, some 195, none, .p (.bin .add), [.t 181, .c (.int .i64 1)]⟩,
    ⟨1, some 181, none, .p .mov, [.t 195]⟩])))
def g585_3 : GL.Code := .seq (.reg 0 [⟨0, some 156, none, .p (.bin .lss), [.t 155, .t 154]⟩])
   (.seq (.cond (.t 156) (.skip)
   (.exit 4))
   (.seq (.block 5 (.seq (.reg 0 [⟨0, some 157, none, .p .mov, [.t 155]⟩,
    ⟨1, some 158, none, .p (.idx 1), [.t 153, .t 155]⟩,
    ⟨2, some 159, none, .r (.load false 1) false, [.t 158]⟩,
    ⟨3, some 22, none, .p .mov, [.t 157]⟩,
    ⟨4, some 23, none, .p .mov, [.t 159]⟩])
   (.seq (.seq (.reg 0 [⟨0, some 160, none, .p .mov, [.t 19]⟩,
    ⟨1, some 161, none, .p .mov, [.t 23]⟩,
    ⟨2, some 162, none, .e .call [] [], [.f 204, .t 160, .t 161]⟩,
    ⟨3, some 163, none, .p (.un .not), [.t 162]⟩,
    ⟨4, some 164, none, .p .mov, [.t 163]⟩,
    ⟨5, some 165, some (164, false), .p .mov, [.t 7]⟩,
    ⟨6, some 166, some (164, false), .p .mov, [.t 22]⟩,
    ⟨7, some 167, some (164, false), .p (.slice 1 false true false), [.t 165, .t 166]⟩,
    ⟨8, some 168, some (164, false), .p .mov, [.t 23]⟩,
    ⟨9, some 169, some (164, false), .e .call [] [], [.f 204, .t 167, .t 168]⟩,
    ⟨10, some 170, none, .p .pick, [.t 164, .c (.bool true), .t 169]⟩])
   (.cond (.t 170) (.seq (.reg 0 [⟨0, some 4, none, .p .mov, [.c (.bool false)]⟩])
   (.ret))
   (.skip)))
   (.seq (.reg 0 [⟨0, some 172, none, .p .mov, [.t 5]⟩,
    ⟨1, some 173, none, .p .mov, [.t 23]⟩,
    ⟨2, some 174, none, .e .call [] [], [.f 501, .t 172, .t 173]⟩,
    ⟨3, some 171, none, .p .mov, [.t 174]⟩,
    ⟨4, some 175, none, .p (.extract 0), [.t 171]⟩,
    ⟨5, some 176, none, .p (.extract 1), [.t 171]⟩,
    ⟨6, some 24, none, .p .mov, [.t 175]⟩,
    ⟨7, some 25, none, .p .mov, [.t 176]⟩])
   (.seq (.seq (.reg 0 [⟨0, some 177, none, .p .mov, [.t 25]⟩,
    ⟨1, some 178, none, .p (.un .not), [.t 177]⟩])
   (.cond (.t 178) (.seq (.reg 0 [⟨0, some 4, none, .p .mov, [.c (.bool false)]⟩])
   (.ret))
   (.skip)))
   (.seq (.reg 0 [⟨0, some 179, none, .p .mov, [.t 24]⟩,
    ⟨1, some 180, none, .p .len, [.t 179]⟩,
    ⟨2, some 181, none, .p .mov, [.c (.int .i64 0)]⟩])
   (.block 6 (.loop g585_2))))))))
   (.reg 0 [⟨0, some 196, none, .p (.bin .add), [.t 155, .c (.int .i64 1)]⟩,
    ⟨1, some 155, none, .p .mov, [.t 196]⟩])))
def g585 : GL.Fn := ⟨.seq (.reg 0 [⟨0, some 4, none, .p .mov, [.c (.bool false)]⟩])
   (.seq (.seq (.reg 0 [⟨0, some 37, none, .p .mov, [.t 0]⟩,
    ⟨1, some 38, none, .p .len, [.t 37]⟩,
    ⟨2, some 39, none, .p .mov, [.t 1]⟩,
    ⟨3, some 40, none, .p .len, [.t 39]⟩,
    ⟨4, some 41, none, .p (.bin .add), [.t 38, .t 40]⟩,
    ⟨5, some 42, none, .p (.bin .gtr), [.t 41, .c (.int .i64 1048576)]⟩])
   (.cond (.t 42) (.seq (.reg 0 [⟨0, some 4, none, .p .mov, [.c (.bool true)]⟩])
   (.ret))
   (.skip)))
   (.seq (.reg 0 [⟨0, some 44, none, .p .mov, [.t 0]⟩,
    ⟨1, some 45, none, .e .call [] [], [.f 586, .t 44]⟩,
    ⟨2, some 43, none, .p .mov, [.t 45]⟩,
    ⟨3, some 46, none, .p (.extract 0), [.t 43]⟩,
    ⟨4, some 47, none, .p (.extract 1), [.t 43]⟩,
    ⟨5, some 5, none, .p .mov, [.t 46]⟩,
    ⟨6, some 6, none, .p .mov, [.t 47]⟩])
   (.seq (.reg 0 [⟨0, some 49, none, .p .mov, [.t 5]⟩,
    ⟨1, some 50, none, .p .mov, [.t 6]⟩,
    ⟨2, some 51, none, .e .call [] [], [.f 587, .t 49, .t 50]⟩,
    ⟨3, some 48, none, .p .mov, [.t 51]⟩,
    ⟨4, some 52, none, .p (.extract 0), [.t 48]⟩,
    ⟨5, some 53, none, .p (.extract 1), [.t 48]⟩,
    ⟨6, some 7, none, .p .mov, [.t 52]⟩,
    ⟨7, some 8, none, .p .mov, [.t 53]⟩])
   (.seq (.reg 0 [⟨0, some 55, none, .p .mov, [.t 5]⟩,
    ⟨1, some 56, none, .p .mov, [.t 6]⟩,
    ⟨2, some 57, none, .e .call [] [], [.f 588, .t 55, .t 56]⟩,
    ⟨3, some 54, none, .p .mov, [.t 57]⟩,
    ⟨4, some 58, none, .p (.extract 0), [.t 54]⟩,
    ⟨5, some 59, none, .p (.extract 1), [.t 54]⟩,
    ⟨6, some 9, none, .p .mov, [.t 58]⟩,
    ⟨7, some 10, none, .p .mov, [.t 59]⟩])
   (.seq (.reg 0 [⟨0, some 61, none, .p .mov, [.t 5]⟩,
    ⟨1, some 62, none, .e .call [] [], [.f 589, .t 61]⟩,
    ⟨2, some 60, none, .p .mov, [.t 62]⟩,
    ⟨3, some 63, none, .p (.extract 0), [.t 60]⟩,
    ⟨4, some 64, none, .p (.extract 1), [.t 60]⟩,
    ⟨5, some 11, none, .p .mov, [.t 63]⟩,
    ⟨6, some 12, none, .p .mov, [.t 64]⟩])
   (.seq (.reg 0 [⟨0, some 66, none, .p .mov, [.t 5]⟩,
    ⟨1, some 67, none, .e .call [] [], [.f 590, .t 66]⟩,
    ⟨2, some 65, none, .p .mov, [.t 67]⟩,
    ⟨3, some 68, none, .p (.extract 0), [.t 65]⟩,
    ⟨4, some 69, none, .p (.extract 1), [.t 65]⟩,
    ⟨5, some 13, none, .p .mov, [.t 68]⟩,
    ⟨6, some 14, none, .p .mov, [.t 69]⟩])
   (.seq (.seq (.reg 0 [⟨0, some 70, none, .p .mov, [.t 8]⟩,
    ⟨1, some 71, none, .p .mov, [.t 10]⟩,
    ⟨2, some 72, none, .p (.eqB true), [.t 70, .t 71]⟩,
    ⟨3, some 73, none, .p .mov, [.t 72]⟩,
    ⟨4, some 74, some (73, false), .p .mov, [.t 7]⟩,
    ⟨5, some 75, some (73, false), .p .mov, [.t 9]⟩,
    ⟨6, some 76, some (73, false), .e .call [] [], [.f 24, .t 74, .t 75]⟩,
    ⟨7, some 77, some (73, false), .p (.un .not), [.t 76]⟩,
    ⟨8, some 78, none, .p .pick, [.t 73, .c (.bool true), .t 77]⟩,
    ⟨9, some 79, none, .p .mov, [.t 78]⟩,
    ⟨10, some 80, some (79, false), .p .mov, [.t 12]⟩,
    ⟨11, some 81, some (79, false), .p .mov, [.t 14]⟩,
    ⟨12, some 82, some (79, false), .p (.eqB true), [.t 80, .t 81]⟩,
    ⟨13, some 83, none, .p .pick, [.t 79, .c (.bool true), .t 82]⟩,
    ⟨14, some 84, none, .p .mov, [.t 83]⟩,
    ⟨15, some 85, some (84, false), .p .mov, [.t 11]⟩,
    ⟨16, some 86, some (84, false), .p .mov, [.t 13]⟩,
    ⟨17, some 87, some (84, false), .e .call [] [], [.f 24, .t 85, .t 86]⟩,
    ⟨18, some 88, some (84, false), .p (.un .not), [.t 87]⟩,
    ⟨19, some 89, none, .p .pick, [.t 84, .c (.bool true), .t 88]⟩])
   (.cond (.t 89) (.seq (.reg 0 [⟨0, some 4, none, .p .mov, [.c (.bool false)]⟩])
   (.ret))
   (.skip)))
   (.seq (.seq (.reg 0 [⟨0, some 90, none, .p .mov, [.t 8]⟩])
   (.cond (.t 90) (.seq (.reg 0 [⟨0, some 91, none, .e (.new (.lit 1)) [] [], []⟩,
    ⟨1, some 92, none, .p .mov, [.t 6]⟩,
    ⟨2, some 93, none, .e (.append 1 8) [] [], [.t 91, .t 92]⟩,
    ⟨3, some 15, none, .p .mov, [.t 93]⟩])
   (.seq (.seq (.reg 0 [⟨0, some 94, none, .p .mov, [.t 15]⟩,
    ⟨1, some 95, none, .p .len, [.t 94]⟩,
    ⟨2, some 96, none, .p .mov, [.c (.int .i64 0)]⟩])
   (.block 0 (.loop g585_1)))
   (.seq (.reg 0 [⟨0, some 135, none, .p .mov, [.t 5]⟩,
    ⟨1, some 136, none, .p .mov, [.t 15]⟩,
    ⟨2, some 137, none, .e .call [] [], [.f 489, .t 135, .t 136]⟩,
    ⟨3, some 134, none, .p .mov, [.t 137]⟩,
    ⟨4, some 138, none, .p (.extract 0), [.t 134]⟩,
    ⟨5, some 139, none, .p (.extract 1), [.t 134]⟩,
    ⟨6, some 19, none, .p .mov, [.t 138]⟩,
    ⟨7, some 20, none, .p .mov, [.t 139]⟩])
   (.seq (.seq (.reg 0 [⟨0, some 140, none, .p .mov, [.t 12]⟩,
    ⟨1, some 141, none, .p (.un .not), [.t 140]⟩,
    ⟨2, some 142, none, .p .mov, [.t 141]⟩,
    ⟨3, some 143, some (142, false), .p .mov, [.t 20]⟩,
    ⟨4, some 144, some (142, false), .p (.un .not), [.t 143]⟩,
    ⟨5, some 145, none, .p .pick, [.t 142, .c (.bool true), .t 144]⟩,
    ⟨6, some 146, none, .p .mov, [.t 145]⟩,
    ⟨7, some 147, some (146, false), .p .mov, [.t 19]⟩,
    ⟨8, some 148, some (146, false), .p .len, [.t 147]⟩,
    ⟨9, some 149, some (146, false), .p .mov, [.t 7]⟩,
    ⟨10, some 150, some (146, false), .p .len, [.t 149]⟩,
    ⟨11, some 151, some (146, false), .p (.bin .neq), [.t 148, .t 150]⟩,
    ⟨12, some 152, none, .p .pick, [.t 146, .c (.bool true), .t 151]⟩])
   (.cond (.t 152) (.seq (.reg 0 [⟨0, some 4, none, .p .mov, [.c (.bool false)]⟩])
   (.ret))
   (.skip)))
   (.seq (.reg 0 [⟨0, some 21, none, .p .mov, [.c (.nils)]⟩])
   (.seq (.seq (.reg 0 [⟨0, some 153, none, .p .mov, [.t 7]⟩,
    ⟨1, some 154, none, .p .len, [.t 153]⟩,
    ⟨2, some 155, none, .p .mov, [.c (.int .i64 0)]⟩])
   (.block 4 (.loop g585_3)))
   (.seq (.reg 0 [⟨0, some 198, none, .p .mov, [.t 7]⟩,
    ⟨1, some 199, none, .p .mov, [.t 11]⟩,
    ⟨2, some 200, none, .p .mov, [.t 21]⟩,
    ⟨3, some 201, none, .e .call [] [], [.f 591, .t 198, .t 199, .t 200]⟩,
    ⟨4, some 197, none, .p .mov, [.t 201]⟩,
    ⟨5, some 202, none, .p (.extract 0), [.t 197]⟩,
    ⟨6, some 203, none, .p (.extract 1), [.t 197]⟩,
    ⟨7, some 28, none, .p .mov, [.t 202]⟩,
    ⟨8, some 29, none, .p .mov, [.t 203]⟩])
   (.seq (.reg 0 [⟨0, some 204, none, .p .mov, [.t 29]⟩,
    ⟨1, some 205, none, .p (.un .not), [.t 204]⟩,
    ⟨2, some 206, none, .p .mov, [.t 205]⟩,
    ⟨3, some 207, some (206, false), .p .mov, [.t 28]⟩,
    ⟨4, some 208, some (206, false), .p (.un .not), [.t 207]⟩,
    ⟨5, some 209, none, .p .pick, [.t 206, .c (.bool true), .t 208]⟩])
   (.cond (.t 209) (.seq (.reg 0 [⟨0, some 4, none, .p .mov, [.c (.bool false)]⟩])
   (.ret))
   (.skip))))))))))
   (.skip)))
   (.seq (.reg 0 [⟨0, some 211, none, .p .mov, [.t 1]⟩,
    ⟨1, some 212, none, .e .call [] [], [.f 592, .t 211]⟩,
    ⟨2, some 210, none, .p .mov, [.t 212]⟩,
    ⟨3, some 213, none, .p (.extract 0), [.t 210]⟩,
    ⟨4, some 214, none, .p (.extract 1), [.t 210]⟩,
    ⟨5, some 215, none, .p (.extract 2), [.t 210]⟩,
    ⟨6, some 30, none, .p .mov, [.t 213]⟩,
    ⟨7, some 31, none, .p .mov, [.t 214]⟩,
    ⟨8, some 32, none, .p .mov, [.t 215]⟩])
   (.seq (.reg 0 [⟨0, some 217, none, .p .mov, [.t 30]⟩,
    ⟨1, some 218, none, .p .mov, [.t 31]⟩,
    ⟨2, some 219, none, .p .mov, [.t 32]⟩,
    ⟨3, some 220, none, .e .call [] [], [.f 591, .t 217, .t 218, .t 219]⟩,
    ⟨4, some 216, none, .p .mov, [.t 220]⟩,
    ⟨5, some 221, none, .p (.extract 0), [.t 216]⟩,
    ⟨6, some 222, none, .p (.extract 1), [.t 216]⟩,
    ⟨7, some 33, none, .p .mov, [.t 221]⟩,
    ⟨8, some 34, none, .p .mov, [.t 222]⟩])
   (.seq (.reg 0 [⟨0, some 224, none, .p .mov, [.t 30]⟩,
    ⟨1, some 225, none, .p .mov, [.t 31]⟩,
    ⟨2, some 226, none, .p .mov, [.t 32]⟩,
    ⟨3, some 227, none, .e .call [] [], [.f 593, .t 224, .t 225, .t 226]⟩,
    ⟨4, some 223, none, .p .mov, [.t 227]⟩,
    ⟨5, some 228, none, .p (.extract 0), [.t 223]⟩,
    ⟨6, some 229, none, .p (.extract 1), [.t 223]⟩,
    ⟨7, some 35, none, .p .mov, [.t 228]⟩,
    ⟨8, some 36, none, .p .mov, [.t 229]⟩])
   (.seq (.reg 0 [⟨0, some 230, none, .p .mov, [.t 34]⟩,
    ⟨1, some 231, none, .p .mov, [.t 36]⟩,
    ⟨2, some 232, none, .p (.eqB false), [.t 230, .t 231]⟩,
    ⟨3, some 233, none, .p .mov, [.t 232]⟩,
    ⟨4, some 234, some (233, true), .p .mov, [.t 33]⟩,
    ⟨5, some 235, some (233, true), .p .mov, [.t 35]⟩,
    ⟨6, some 236, some (233, true), .p (.eqB false), [.t 234, .t 235]⟩,
    ⟨7, some 237, none, .p .pick, [.t 233, .t 236, .c (.bool false)]⟩,
    ⟨8, some 4, none, .p .mov, [.t 237]⟩])
   (.ret))))))))))))),
  [.tmp 4]⟩
/- loop.example/g00641/laws.sameInts -/
def g24_0 : GL.Code := .seq (.reg 0 [⟨0, some 14, none, .p (.bin .lss), [.t 13, .t 12]⟩])
   (.seq (.cond (.t 14) (.skip)
   (.exit 0))
   (.seq (.block 1 (.seq (.reg 0 [⟨0, some 15, none, .p .mov, [.t 13]⟩,
    ⟨1, some 5, none, .p .mov, [.t 15]⟩])
   (.seq (.reg 0 [⟨0, some 16, none, .p .mov, [.t 0]⟩,
    ⟨1, some 17, none, .p .mov, [.t 5]⟩,
    ⟨2, some 18, none, .p (.idx 1), [.t 16, .t 17]⟩,
    ⟨3, some 19, none, .r (.load false 1) false, [.t 18]⟩,
    ⟨4, some 20, none, .p .mov, [.t 1]⟩,
    ⟨5, some 21, none, .p .mov, [.t 5]⟩,
    ⟨6, some 22, none, .p (.idx 1), [.t 20, .t 21]⟩,
    ⟨7, some 23, none, .r (.load false 1) false, [.t 22]⟩,
    ⟨8, some 24, none, .p (.bin .neq), [.t 19, .t 23]⟩])
   (.cond (.t 24) (.seq (.reg 0 [⟨0, some 4, none, .p .mov, [.c (.bool false)]⟩])
   (.ret))
   (.skip)))))
   (.reg 0 [⟨0, some 25, none, .p (.bin .add), [.t 13, .c (.int .i64 1)]⟩,
    ⟨1, some 13, none, .p .mov, [.t 25]⟩])))
def g24 : GL.Fn := ⟨.seq (.reg 0 [⟨0, some 4, none, .p .mov, [.c (.bool false)]⟩])
   (.seq (.seq (.reg 0 [⟨0, some 6, none, .p .mov, [.t 0]⟩,
    ⟨1, some 7, none, .p .len, [.t 6]⟩,
    ⟨2, some 8, none, .p .mov, [.t 1]⟩,
    ⟨3, some 9, none, .p .len, [.t 8]⟩,
    ⟨4, some 10, none, .p (.bin .neq), [.t 7, .t 9]⟩])
   (.cond (.t 10) (.seq (.reg 0 [⟨0, some 4, none, .p .mov, [.c (.bool false)]⟩])
   (.ret))
   (.skip)))
   (.seq (.seq (.reg 0 [⟨0, some 11, none, .p .mov, [.t 0]⟩,
    ⟨1, some 12, none, .p .len, [.t 11]⟩,
    ⟨2, some 13, none, .p .mov, [.c (.int .i64 0)]⟩])
   (.block 0 (.loop g24_0)))
   (.seq (.reg 0 [⟨0, some 4, none, .p .mov, [.c (.bool true)]⟩])
   (.ret)))),
  [.tmp 4]⟩
/- loop.example/g00641/laws.has -/
def g204_0 : GL.Code := .seq (.reg 0 [⟨0, some 10, none, .p (.bin .lss), [.t 9, .t 8]⟩])
   (.seq (.cond (.t 10) (.skip)
   (.exit 0))
   (.seq (.block 1 (.seq (.reg 0 [⟨0, some 11, none, .p (.idx 1), [.t 7, .t 9]⟩,
    ⟨1, some 12, none, .r (.load false 1) false, [.t 11]⟩,
    ⟨2, some 6, none, .p .mov, [.t 12]⟩])
   (.seq (.reg 0 [⟨0, some 13, none, .p .mov, [.t 6]⟩,
    ⟨1, some 14, none, .p .mov, [.t 1]⟩,
    ⟨2, some 15, none, .p (.bin .eql), [.t 13, .t 14]⟩])
   (.cond (.t 15) (.seq (.reg 0 [⟨0, some 4, none, .p .mov, [.c (.bool true)]⟩])
   (.ret))
   (.skip)))))
   (.reg 0 [⟨0, some 16, none, .p (.bin .add), [.t 9, .c (.int .i64 1)]⟩,
    ⟨1, some 9, none, .p .mov, [.t 16]⟩])))
def g204 : GL.Fn := ⟨.seq (.reg 0 [⟨0, some 4, none, .p .mov, [.c (.bool false)]⟩])
   (.seq (.seq (.reg 0 [⟨0, some 7, none, .p .mov, [.t 0]⟩,
    ⟨1, some 8, none, .p .len, [.t 7]⟩,
    ⟨2, some 9, none, .p .mov, [.c (.int .i64 0)]⟩])
   (.block 0 (.loop g204_0)))
   (.seq (.reg 0 [⟨0, some 4, none, .p .mov, [.c (.bool false)]⟩])
   (.ret))),
  [.tmp 4]⟩
/- loop.example/g00641/spec.DrawDoneBy -/
def g586 : GL.Fn := ⟨.seq (.reg 0 [⟨0, some 2, none, .p .mov, [.c (.nils)]⟩,
    ⟨1, some 3, none, .p .mov, [.c (.nils)]⟩])
   (.seq (.reg 0 [⟨0, some 7, none, .p .mov, [.t 0]⟩,
    ⟨1, some 8, none, .p (.build [.nils, .int .i64 0, .int .u64 0] [(0, 1)]), [.t 7]⟩,
    ⟨2, some 9, none, .e (.new (.box 3)) [] [], [.t 8]⟩,
    ⟨3, some 4, none, .p .mov, [.t 9]⟩])
   (.seq (.reg 0 [⟨0, some 10, none, .p .mov, [.t 4]⟩,
    ⟨1, some 11, none, .e .call [] [], [.f 570, .t 10]⟩,
    ⟨2, some 5, none, .p .mov, [.t 11]⟩])
   (.seq (.reg 0 [⟨0, some 12, none, .p .mov, [.t 4]⟩,
    ⟨1, some 13, none, .p .mov, [.t 5]⟩,
    ⟨2, some 14, none, .p .len, [.t 13]⟩,
    ⟨3, some 15, none, .e .call [] [], [.f 567, .t 12, .t 14]⟩,
    ⟨4, some 6, none, .p .mov, [.t 15]⟩])
   (.seq (.seq (.reg 0 [⟨0, some 16, none, .p .mov, [.t 6]⟩,
    ⟨1, some 17, none, .p .len, [.t 16]⟩,
    ⟨2, some 18, none, .p (.bin .gtr), [.t 17, .c (.int .i64 0)]⟩,
    ⟨3, some 19, none, .p .mov, [.t 18]⟩,
    ⟨4, some 20, some (19, true), .p .mov, [.t 4]⟩,
    ⟨5, some 21, some (19, true), .e .call [] [], [.f 92, .t 20, .c (.int .i64 2)]⟩,
    ⟨6, some 22, none, .p .pick, [.t 19, .t 21, .c (.bool false)]⟩])
   (.cond (.t 22) (.reg 0 [⟨0, some 23, none, .p .mov, [.t 6]⟩,
    ⟨1, some 24, none, .p .mov, [.t 4]⟩,
    ⟨2, some 25, none, .p .mov, [.t 6]⟩,
    ⟨3, some 26, none, .p .len, [.t 25]⟩,
    ⟨4, some 27, none, .p (.bin .add), [.t 26, .c (.int .i64 1)]⟩,
    ⟨5, some 28, none, .e .call [] [], [.f 91, .t 24, .t 27]⟩,
    ⟨6, some 29, none, .p (.slice 1 false true false), [.t 23, .t 28]⟩,
    ⟨7, some 6, none, .p .mov, [.t 29]⟩])
   (.skip)))
   (.seq (.seq (.reg 0 [⟨0, some 30, none, .p .mov, [.t 4]⟩,
    ⟨1, some 31, none, .e .call [] [], [.f 92, .t 30, .c (.int .i64 30)]⟩])
   (.cond (.t 31) (.reg 0 [⟨0, some 32, none, .p .mov, [.t 6]⟩,
    ⟨1, some 33, none, .e (.new (.lit 1)) [] [], [.c (.int .i64 0), .c (.int .i64 0)]⟩,
    ⟨2, some 34, none, .e (.append 1 8) [] [], [.t 32, .t 33]⟩,
    ⟨3, some 6, none, .p .mov, [.t 34]⟩])
   (.skip)))
   (.seq (.reg 0 [⟨0, some 35, none, .p .mov, [.t 5]⟩,
    ⟨1, some 36, none, .p .mov, [.t 6]⟩,
    ⟨2, some 2, none, .p .mov, [.t 35]⟩,
    ⟨3, some 3, none, .p .mov, [.t 36]⟩])
   (.ret))))))),
  [.tmp 2, .tmp 3]⟩
/- loop.example/g00641/impl.DoneBy -/
def g587 : GL.Fn := ⟨.seq (.reg 0 [⟨0, some 4, none, .p .mov, [.c (.nils)]⟩,
    ⟨1, some 5, none, .p .mov, [.c (.bool false)]⟩])
   (.seq (.seq (.reg 0 [⟨0, some 6, none, .p .mov, [.t 0]⟩,
    ⟨1, some 7, none, .e .call [] [], [.f 500, .t 6]⟩,
    ⟨2, some 8, none, .p (.un .not), [.t 7]⟩,
    ⟨3, some 9, none, .p .mov, [.t 8]⟩,
    ⟨4, some 10, some (9, false), .p .mov, [.t 1]⟩,
    ⟨5, some 11, some (9, false), .p .mov, [.t 0]⟩,
    ⟨6, some 12, some (9, false), .p .len, [.t 11]⟩,
    ⟨7, some 13, some (9, false), .e .call [] [], [.f 541, .t 10, .t 12]⟩,
    ⟨8, some 14, some (9, false), .p (.un .not), [.t 13]⟩,
    ⟨9, some 15, none, .p .pick, [.t 9, .c (.bool true), .t 14]⟩])
   (.cond (.t 15) (.seq (.reg 0 [⟨0, some 4, none, .p .mov, [.c (.nils)]⟩,
    ⟨1, some 5, none, .p .mov, [.c (.bool false)]⟩])
   (.ret))
   (.skip)))
   (.seq (.reg 0 [⟨0, some 16, none, .p .mov, [.t 0]⟩,
    ⟨1, some 17, none, .p .mov, [.t 1]⟩,
    ⟨2, some 18, none, .e .call [] [], [.f 604, .t 16, .t 17]⟩,
    ⟨3, some 4, none, .p .mov, [.t 18]⟩,
    ⟨4, some 5, none, .p .mov, [.c (.bool true)]⟩])
   (.ret))),
  [.tmp 4, .tmp 5]⟩
/- loop.example/g00641/spec.DoneBy -/
def g588_0 : GL.Code := .seq (.reg 0 [⟨0, some 23, none, .p (.bin .lss), [.t 22, .t 21]⟩])
   (.seq (.cond (.t 23) (.skip)
   (.exit 0))
   (.seq (.block 1 (.seq (.reg 0 [⟨0, some 24, none, .p (.idx 1), [.t 20, .t 22]⟩,
    ⟨1, some 25, none, .r (.load false 1) false, [.t 24]⟩,
    ⟨2, some 9, none, .p .mov, [.t 25]⟩])
   (.seq (.reg 0 [⟨0, some 26, none, .p .mov, [.t 6]⟩,
    ⟨1, some 27, none, .p .mov, [.t 9]⟩,
    ⟨2, some 28, none, .e .call [] [], [.f 410, .t 26, .t 27]⟩,
    ⟨3, some 6, none, .p .mov, [.t 28]⟩])
   (.reg 0 [⟨0, some 29, none, .p .mov, [.t 7]⟩,
    ⟨1, some 30, none, .p .mov, [.t 0]⟩,
    ⟨2, some 31, none, .p .mov, [.t 6]⟩,
    ⟨3, some 32, none, .p .mov, [.t 7]⟩,
    ⟨4, some 33, none, .e .call [] [], [.f 555, .t 30, .t 31, .t 32]⟩,
    ⟨5, some 34, none, .e (.append 1 8) [] [], [.t 29, .t 33]⟩,
    ⟨6, some 7, none, .p .mov, [.t 34]⟩]))))
   (.reg 0 [⟨0, some 35, none, .p (.bin .add), [.t 22, .c (.int .i64 1)]⟩,
    ⟨1, some 22, none, .p .mov, [.t 35]⟩])))
def g588 : GL.Fn := ⟨.seq (.reg 0 [⟨0, some 4, none, .p .mov, [.c (.nils)]⟩,
    ⟨1, some 5, none, .p .mov, [.c (.bool false)]⟩])
   (.seq (.seq (.reg 0 [⟨0, some 10, none, .p .mov, [.t 0]⟩,
    ⟨1, some 11, none, .e .call [] [], [.f 550, .t 10]⟩,
    ⟨2, some 12, none, .p (.un .not), [.t 11]⟩,
    ⟨3, some 13, none, .p .mov, [.t 12]⟩,
    ⟨4, some 14, some (13, false), .p .mov, [.t 0]⟩,
    ⟨5, some 15, some (13, false), .p .len, [.t 14]⟩,
    ⟨6, some 16, some (13, false), .p .mov, [.t 1]⟩,
    ⟨7, some 17, some (13, false), .e .call [] [], [.f 539, .t 15, .t 16]⟩,
    ⟨8, some 18, some (13, false), .p (.un .not), [.t 17]⟩,
    ⟨9, some 19, none, .p .pick, [.t 13, .c (.bool true), .t 18]⟩])
   (.cond (.t 19) (.seq (.reg 0 [⟨0, some 4, none, .p .mov, [.c (.nils)]⟩,
    ⟨1, some 5, none, .p .mov, [.c (.bool false)]⟩])
   (.ret))
   (.skip)))
   (.seq (.reg 0 [⟨0, some 6, none, .p .mov, [.c (.nils)]⟩,
    ⟨1, some 7, none, .p .mov, [.c (.nils)]⟩])
   (.seq (.seq (.reg 0 [⟨0, some 20, none, .p .mov, [.t 1]⟩,
    ⟨1, some 21, none, .p .len, [.t 20]⟩,
    ⟨2, some 22, none, .p .mov, [.c (.int .i64 0)]⟩])
   (.block 0 (.loop g588_0)))
   (.seq (.reg 0 [⟨0, some 36, none, .p .mov, [.t 7]⟩,
    ⟨1, some 4, none, .p .mov, [.t 36]⟩,
    ⟨2, some 5, none, .p .mov, [.c (.bool true)]⟩])
   (.ret))))),
  [.tmp 4, .tmp 5]⟩
/- loop.example/g00641/impl.WholeOrder -/
def g589 : GL.Fn := ⟨.seq (.reg 0 [⟨0, some 2, none, .p .mov, [.c (.nils)]⟩,
    ⟨1, some 3, none, .p .mov, [.c (.bool false)]⟩])
   (.seq (.reg 0 [⟨0, some 4, none, .p .mov, [.t 0]⟩,
    ⟨1, some 5, none, .e .call [] [], [.f 498, .t 4]⟩,
    ⟨2, some 6, none, .p (.extract 0), [.t 5]⟩,
    ⟨3, some 7, none, .p (.extract 1), [.t 5]⟩,
    ⟨4, some 2, none, .p .mov, [.t 6]⟩,
    ⟨5, some 3, none, .p .mov, [.t 7]⟩])
   (.ret)),
  [.tmp 2, .tmp 3]⟩
/- loop.example/g00641/spec.WholeOrder -/
def g590 : GL.Fn := ⟨.seq (.reg 0 [⟨0, some 2, none, .p .mov, [.c (.nils)]⟩,
    ⟨1, some 3, none, .p .mov, [.c (.bool false)]⟩])
   (.seq (.seq (.reg 0 [⟨0, some 4, none, .p .mov, [.t 0]⟩,
    ⟨1, some 5, none, .e .call [] [], [.f 550, .t 4]⟩,
    ⟨2, some 6, none, .p (.un .not), [.t 5]⟩])
   (.cond (.t 6) (.seq (.reg 0 [⟨0, some 2, none, .p .mov, [.c (.nils)]⟩,
    ⟨1, some 3, none, .p .mov, [.c (.bool false)]⟩])
   (.ret))
   (.skip)))
   (.seq (.reg 0 [⟨0, some 7, none, .p .mov, [.t 0]⟩,
    ⟨1, some 8, none, .e .call [] [], [.f 573, .t 7]⟩,
    ⟨2, some 2, none, .p .mov, [.t 8]⟩,
    ⟨3, some 3, none, .p .mov, [.c (.bool true)]⟩])
   (.ret))),
  [.tmp 2, .tmp 3]⟩
/- loop.example/g00641/impl.ReadyOf -/
def g489 : GL.Fn := ⟨.seq (.reg 0 [⟨0, some 4, none, .p .mov, [.c (.nils)]⟩,
    ⟨1, some 5, none, .p .mov, [.c (.bool false)]⟩])
   (.seq (.seq (.reg 0 [⟨0, some 6, none, .p .mov, [.t 0]⟩,
    ⟨1, some 7, none, .p .mov, [.t 1]⟩,
    ⟨2, some 8, none, .e .call [] [], [.f 544, .t 6, .t 7]⟩,
    ⟨3, some 9, none, .p (.un .not), [.t 8]⟩])
   (.cond (.t 9) (.seq (.reg 0 [⟨0, some 4, none, .p .mov, [.c (.nils)]⟩,
    ⟨1, some 5, none, .p .mov, [.c (.bool false)]⟩])
   (.ret))
   (.skip)))
   (.seq (.reg 0 [⟨0, some 10, none, .p .mov, [.t 0]⟩,
    ⟨1, some 11, none, .p .mov, [.t 1]⟩,
    ⟨2, some 12, none, .e .call [] [], [.f 549, .t 10, .t 11]⟩,
    ⟨3, some 4, none, .p .mov, [.t 12]⟩,
    ⟨4, some 5, none, .p .mov, [.c (.bool true)]⟩])
   (.ret))),
  [.tmp 4, .tmp 5]⟩
/- loop.example/g00641/impl.ReachOf -/
def g501 : GL.Fn := ⟨.seq (.reg 0 [⟨0, some 4, none, .p .mov, [.c (.nils)]⟩,
    ⟨1, some 5, none, .p .mov, [.c (.bool false)]⟩])
   (.seq (.seq (.reg 0 [⟨0, some 6, none, .p .mov, [.t 0]⟩,
    ⟨1, some 7, none, .e .call [] [], [.f 500, .t 6]⟩,
    ⟨2, some 8, none, .p (.un .not), [.t 7]⟩,
    ⟨3, some 9, none, .p .mov, [.t 8]⟩,
    ⟨4, some 10, some (9, false), .p .mov, [.t 1]⟩,
    ⟨5, some 11, some (9, false), .p .mov, [.t 0]⟩,
    ⟨6, some 12, some (9, false), .p .len, [.t 11]⟩,
    ⟨7, some 13, some (9, false), .p (.bin .sub), [.t 12, .c (.int .i64 1)]⟩,
    ⟨8, some 14, some (9, false), .e .call [] [], [.f 107, .t 10, .c (.int .i64 0), .t 13]⟩,
    ⟨9, some 15, some (9, false), .p (.un .not), [.t 14]⟩,
    ⟨10, some 16, none, .p .pick, [.t 9, .c (.bool true), .t 15]⟩])
   (.cond (.t 16) (.seq (.reg 0 [⟨0, some 4, none, .p .mov, [.c (.nils)]⟩,
    ⟨1, some 5, none, .p .mov, [.c (.bool false)]⟩])
   (.ret))
   (.skip)))
   (.seq (.reg 0 [⟨0, some 17, none, .p .mov, [.t 0]⟩,
    ⟨1, some 18, none, .p .mov, [.t 1]⟩,
    ⟨2, some 19, none, .e .call [] [], [.f 545, .t 17, .t 18]⟩,
    ⟨3, some 4, none, .p .mov, [.t 19]⟩,
    ⟨4, some 5, none, .p .mov, [.c (.bool true)]⟩])
   (.ret))),
  [.tmp 4, .tmp 5]⟩
/- loop.example/g00641/impl.AgreeOn -/
def g591_0 : GL.Code := .seq (.reg 0 [⟨0, some 31, none, .p (.bin .lss), [.t 30, .t 29]⟩])
   (.seq (.cond (.t 31) (.skip)
   (.exit 0))
   (.seq (.block 1 (.seq (.reg 0 [⟨0, some 32, none, .p (.idx 1), [.t 28, .t 30]⟩,
    ⟨1, some 33, none, .r (.load false 1) false, [.t 32]⟩,
    ⟨2, some 9, none, .p .mov, [.t 33]⟩])
   (.seq (.reg 0 [⟨0, some 34, none, .p .mov, [.t 9]⟩,
    ⟨1, some 35, none, .p (.bin .quo), [.t 34, .c (.int .i64 12)]⟩,
    ⟨2, some 36, none, .p .mov, [.t 9]⟩,
    ⟨3, some 37, none, .p (.bin .rem), [.t 36, .c (.int .i64 12)]⟩,
    ⟨4, some 38, none, .e (.new (.lit 1)) [] [], [.t 35, .t 37]⟩,
    ⟨5, some 10, none, .p .mov, [.t 38]⟩])
   (.seq (.seq (.reg 0 [⟨0, some 39, none, .p .mov, [.t 0]⟩,
    ⟨1, some 40, none, .p .mov, [.t 10]⟩,
    ⟨2, some 41, none, .e .call [] [], [.f 552, .t 39, .t 40]⟩,
    ⟨3, some 42, none, .p (.un .not), [.t 41]⟩,
    ⟨4, some 43, none, .p .mov, [.t 42]⟩,
    ⟨5, some 44, some (43, false), .p .mov, [.t 1]⟩,
    ⟨6, some 45, some (43, false), .p .mov, [.t 10]⟩,
    ⟨7, some 46, some (43, false), .e .call [] [], [.f 552, .t 44, .t 45]⟩,
    ⟨8, some 47, some (43, false), .p (.un .not), [.t 46]⟩,
    ⟨9, some 48, none, .p .pick, [.t 43, .c (.bool true), .t 47]⟩])
   (.cond (.t 48) (.exit 1)
   (.skip)))
   (.seq (.reg 0 [⟨0, some 49, none, .p .mov, [.t 0]⟩,
    ⟨1, some 50, none, .p .mov, [.t 10]⟩,
    ⟨2, some 51, none, .p (.idx 1), [.t 50, .c (.int .i64 0)]⟩,
    ⟨3, some 52, none, .r (.load false 1) false, [.t 51]⟩,
    ⟨5, some 54, none, .p .mov, [.t 0]⟩,
    ⟨6, some 55, none, .p .mov, [.t 10]⟩,
    ⟨7, some 56, none, .p (.idx 1), [.t 55, .c (.int .i64 1)]⟩,
    ⟨8, some 57, none, .r (.load false 1) true, [.t 56]⟩,
    ⟨11, some 60, none, .p .mov, [.t 1]⟩,
    ⟨12, some 61, none, .p .mov, [.t 10]⟩,
    ⟨13, some 62, none, .p (.idx 1), [.t 61, .c (.int .i64 0)]⟩,
    ⟨14, some 63, none, .r (.load false 1) true, [.t 62]⟩,
    ⟨16, some 65, none, .p .mov, [.t 1]⟩,
    ⟨17, some 66, none, .p .mov, [.t 10]⟩,
    ⟨18, some 67, none, .p (.idx 1), [.t 66, .c (.int .i64 1)]⟩,
    ⟨19, some 68, none, .r (.load false 1) true, [.t 67]⟩,
    ⟨4, some 53, none, .e .call [8, 14, 19] [], [.f 390, .t 49, .t 52]⟩,
    ⟨9, some 58, none, .e .call [14, 19] [], [.f 390, .t 54, .t 57]⟩,
    ⟨10, some 59, none, .p (.bin .lss), [.t 53, .t 58]⟩,
    ⟨15, some 64, none, .e .call [19] [], [.f 390, .t 60, .t 63]⟩,
    ⟨20, some 69, none, .e .call [] [], [.f 390, .t 65, .t 68]⟩,
    ⟨21, some 70, none, .p (.bin .lss), [.t 64, .t 69]⟩,
    ⟨22, some 71, none, .p (.eqB true), [.t 59, .t 70]⟩])
   (.cond (.t 71) (.seq (.reg 0 [⟨0, some 6, none, .p .mov, [.c (.bool false)]⟩,
    ⟨1, some 7, none, .p .mov, [.c (.bool true)]⟩])
   (.ret))
   (.skip)))))))
   (.reg 0 [⟨0, some 72, none, .p (.bin .add), [.t 30, .c (.int .i64 1)]⟩,
    ⟨1, some 30, none, .p .mov, [.t 72]⟩])))
def g591 : GL.Fn := ⟨.seq (.reg 0 [⟨0, some 6, none, .p .mov, [.c (.bool false)]⟩,
    ⟨1, some 7, none, .p .mov, [.c (.bool false)]⟩])
   (.seq (.seq (.reg 0 [⟨0, some 11, none, .p .mov, [.t 0]⟩,
    ⟨1, some 12, none, .e .call [] [], [.f 541, .t 11, .c (.int .i64 12)]⟩,
    ⟨2, some 13, none, .p (.un .not), [.t 12]⟩,
    ⟨3, some 14, none, .p .mov, [.t 13]⟩,
    ⟨4, some 15, some (14, false), .p .mov, [.t 1]⟩,
    ⟨5, some 16, some (14, false), .e .call [] [], [.f 541, .t 15, .c (.int .i64 12)]⟩,
    ⟨6, some 17, some (14, false), .p (.un .not), [.t 16]⟩,
    ⟨7, some 18, none, .p .pick, [.t 14, .c (.bool true), .t 17]⟩,
    ⟨8, some 19, none, .p .mov, [.t 18]⟩,
    ⟨9, some 20, some (19, false), .p .mov, [.t 2]⟩,
    ⟨10, some 21, some (19, false), .p .len, [.t 20]⟩,
    ⟨11, some 22, some (19, false), .p (.bin .gtr), [.t 21, .c (.int .i64 60)]⟩,
    ⟨12, some 23, none, .p .pick, [.t 19, .c (.bool true), .t 22]⟩,
    ⟨13, some 24, none, .p .mov, [.t 23]⟩,
    ⟨14, some 25, some (24, false), .p .mov, [.t 2]⟩,
    ⟨15, some 26, some (24, false), .e .call [] [], [.f 304, .t 25, .f 605]⟩,
    ⟨16, some 27, none, .p .pick, [.t 24, .c (.bool true), .t 26]⟩])
   (.cond (.t 27) (.seq (.reg 0 [⟨0, some 6, none, .p .mov, [.c (.bool false)]⟩,
    ⟨1, some 7, none, .p .mov, [.c (.bool false)]⟩])
   (.ret))
   (.skip)))
   (.seq (.seq (.reg 0 [⟨0, some 28, none, .p .mov, [.t 2]⟩,
    ⟨1, some 29, none, .p .len, [.t 28]⟩,
    ⟨2, some 30, none, .p .mov, [.c (.int .i64 0)]⟩])
   (.block 0 (.loop g591_0)))
   (.seq (.reg 0 [⟨0, some 6, none, .p .mov, [.c (.bool true)]⟩,
    ⟨1, some 7, none, .p .mov, [.c (.bool true)]⟩])
   (.ret)))),
  [.tmp 6, .tmp 7]⟩
/- loop.example/g00641/spec.DrawAgreeOn -/
def g592_0 : GL.Code := .seq (.seq (.reg 0 [⟨0, some 13, none, .p .mov, [.t 7]⟩,
    ⟨1, some 14, none, .p (.bin .gtr), [.t 13, .c (.int .i64 0)]⟩])
   (.cond (.t 14) (.skip)
   (.exit 0)))
   (.seq (.block 1 (.reg 0 [⟨0, some 17, none, .p .mov, [.t 6]⟩,
    ⟨1, some 18, none, .p .mov, [.t 5]⟩,
    ⟨2, some 19, none, .e .call [] [], [.f 91, .t 18, .c (.int .i64 5)]⟩,
    ⟨3, some 20, none, .p (.bin .mul), [.c (.int .i64 12), .t 19]⟩,
    ⟨4, some 21, none, .p .mov, [.t 5]⟩,
    ⟨5, some 22, none, .e .call [] [], [.f 91, .t 21, .c (.int .i64 5)]⟩,
    ⟨6, some 23, none, .p (.bin .add), [.t 20, .t 22]⟩,
    ⟨7, some 24, none, .e (.new (.lit 1)) [] [], [.t 23]⟩,
    ⟨8, some 25, none, .e (.append 1 8) [] [], [.t 17, .t 24]⟩,
    ⟨9, some 6, none, .p .mov, [.t 25]⟩]))
   (.reg 0 [⟨0, some 15, none, .p .mov, [.t 7]⟩,
    ⟨1, some 16, none, .p (.bin .sub), [.t 15, .c (.int .i64 1)]⟩,
    ⟨2, some 7, none, .p .mov, [.t 16]⟩]))
def g592 : GL.Fn := ⟨.seq (.reg 0 [⟨0, some 2, none, .p .mov, [.c (.nils)]⟩,
    ⟨1, some 3, none, .p .mov, [.c (.nils)]⟩,
    ⟨2, some 4, none, .p .mov, [.c (.nils)]⟩])
   (.seq (.reg 0 [⟨0, some 8, none, .p .mov, [.t 0]⟩,
    ⟨1, some 9, none, .p (.build [.nils, .int .i64 0, .int .u64 0] [(0, 1)]), [.t 8]⟩,
    ⟨2, some 10, none, .e (.new (.box 3)) [] [], [.t 9]⟩,
    ⟨3, some 5, none, .p .mov, [.t 10]⟩])
   (.seq (.reg 0 [⟨0, some 6, none, .p .mov, [.c (.nils)]⟩])
   (.seq (.seq (.reg 0 [⟨0, some 11, none, .p .mov, [.t 5]⟩,
    ⟨1, some 12, none, .e .call [] [], [.f 91, .t 11, .c (.int .i64 4)]⟩,
    ⟨2, some 7, none, .p .mov, [.t 12]⟩])
   (.block 0 (.loop g592_0)))
   (.seq (.seq (.reg 0 [⟨0, some 26, none, .p .mov, [.t 5]⟩,
    ⟨1, some 27, none, .e .call [] [], [.f 92, .t 26, .c (.int .i64 20)]⟩])
   (.cond (.t 27) (.reg 0 [⟨0, some 28, none, .p .mov, [.t 6]⟩,
    ⟨1, some 29, none, .e (.new (.lit 1)) [] [], [.c (.int .i64 144)]⟩,
    ⟨2, some 30, none, .e (.append 1 8) [] [], [.t 28, .t 29]⟩,
    ⟨3, some 6, none, .p .mov, [.t 30]⟩])
   (.skip)))
   (.seq (.reg 0 [⟨0, some 31, none, .p .mov, [.t 5]⟩,
    ⟨1, some 32, none, .e .call [] [], [.f 567, .t 31, .c (.int .i64 5)]⟩,
    ⟨2, some 33, none, .p .mov, [.t 5]⟩,
    ⟨3, some 34, none, .p .mov, [.t 5]⟩,
    ⟨4, some 35, none, .e .call [] [], [.f 91, .t 34, .c (.int .i64 2)]⟩,
    ⟨5, some 36, none, .p (.bin .add), [.c (.int .i64 4), .t 35]⟩,
    ⟨6, some 37, none, .e .call [] [], [.f 567, .t 33, .t 36]⟩,
    ⟨7, some 38, none, .p .mov, [.t 6]⟩,
    ⟨8, some 2, none, .p .mov, [.t 32]⟩,
    ⟨9, some 3, none, .p .mov, [.t 37]⟩,
    ⟨10, some 4, none, .p .mov, [.t 38]⟩])
   (.ret)))))),
  [.tmp 2, .tmp 3, .tmp 4]⟩
/- loop.example/g00641/spec.AgreeOn -/
def g593_0 : GL.Code := .seq (.reg 0 [⟨0, some 33, none, .p (.bin .lss), [.t 32, .t 31]⟩])
   (.seq (.cond (.t 33) (.skip)
   (.exit 0))
   (.seq (.block 1 (.seq (.reg 0 [⟨0, some 34, none, .p (.idx 1), [.t 30, .t 32]⟩,
    ⟨1, some 35, none, .r (.load false 1) false, [.t 34]⟩,
    ⟨2, some 9, none, .p .mov, [.t 35]⟩])
   (.seq (.reg 0 [⟨0, some 36, none, .p .mov, [.t 9]⟩,
    ⟨1, some 37, none, .p (.bin .quo), [.t 36, .c (.int .i64 12)]⟩,
    ⟨2, some 10, none, .p .mov, [.t 37]⟩])
   (.seq (.reg 0 [⟨0, some 38, none, .p .mov, [.t 9]⟩,
    ⟨1, some 39, none, .p (.bin .rem), [.t 38, .c (.int .i64 12)]⟩,
    ⟨2, some 11, none, .p .mov, [.t 39]⟩])
   (.seq (.seq (.reg 0 [⟨0, some 40, none, .p .mov, [.t 0]⟩,
    ⟨1, some 41, none, .p .mov, [.t 10]⟩,
    ⟨2, some 42, none, .e .call [] [], [.f 302, .t 40, .t 41]⟩,
    ⟨3, some 43, none, .p (.un .not), [.t 42]⟩,
    ⟨4, some 44, none, .p .mov, [.t 43]⟩,
    ⟨5, some 45, some (44, false), .p .mov, [.t 0]⟩,
    ⟨6, some 46, some (44, false), .p .mov, [.t 11]⟩,
    ⟨7, some 47, some (44, false), .e .call [] [], [.f 302, .t 45, .t 46]⟩,
    ⟨8, some 48, some (44, false), .p (.un .not), [.t 47]⟩,
    ⟨9, some 49, none, .p .pick, [.t 44, .c (.bool true), .t 48]⟩,
    ⟨10, some 50, none, .p .mov, [.t 49]⟩,
    ⟨11, some 51, some (50, false), .p .mov, [.t 1]⟩,
    ⟨12, some 52, some (50, false), .p .mov, [.t 10]⟩,
    ⟨13, some 53, some (50, false), .e .call [] [], [.f 302, .t 51, .t 52]⟩,
    ⟨14, some 54, some (50, false), .p (.un .not), [.t 53]⟩,
    ⟨15, some 55, none, .p .pick, [.t 50, .c (.bool true), .t 54]⟩,
    ⟨16, some 56, none, .p .mov, [.t 55]⟩,
    ⟨17, some 57, some (56, false), .p .mov, [.t 1]⟩,
    ⟨18, some 58, some (56, false), .p .mov, [.t 11]⟩,
    ⟨19, some 59, some (56, false), .e .call [] [], [.f 302, .t 57, .t 58]⟩,
    ⟨20, some 60, some (56, false), .p (.un .not), [.t 59]⟩,
    ⟨21, some 61, none, .p .pick, [.t 56, .c (.bool true), .t 60]⟩])
   (.cond (.t 61) (.exit 1)
   (.skip)))
   (.seq (.reg 0 [⟨0, some 62, none, .p .mov, [.t 0]⟩,
    ⟨1, some 63, none, .p .mov, [.t 10]⟩,
    ⟨2, some 64, none, .e .call [] [], [.f 606, .t 62, .t 63]⟩,
    ⟨3, some 65, none, .p .mov, [.t 0]⟩,
    ⟨4, some 66, none, .p .mov, [.t 11]⟩,
    ⟨5, some 67, none, .e .call [] [], [.f 606, .t 65, .t 66]⟩,
    ⟨6, some 68, none, .p (.bin .lss), [.t 64, .t 67]⟩,
    ⟨7, some 69, none, .p .mov, [.t 1]⟩,
    ⟨8, some 70, none, .p .mov, [.t 10]⟩,
    ⟨9, some 71, none, .e .call [] [], [.f 606, .t 69, .t 70]⟩,
    ⟨10, some 72, none, .p .mov, [.t 1]⟩,
    ⟨11, some 73, none, .p .mov, [.t 11]⟩,
    ⟨12, some 74, none, .e .call [] [], [.f 606, .t 72, .t 73]⟩,
    ⟨13, some 75, none, .p (.bin .lss), [.t 71, .t 74]⟩,
    ⟨14, some 76, none, .p (.eqB true), [.t 68, .t 75]⟩])
   (.cond (.t 76) (.seq (.reg 0 [⟨0, some 6, none, .p .mov, [.c (.bool false)]⟩,
    ⟨1, some 7, none, .p .mov, [.c (.bool true)]⟩])
   (.ret))
   (.skip))))))))
   (.reg 0 [⟨0, some 77, none, .p (.bin .add), [.t 32, .c (.int .i64 1)]⟩,
    ⟨1, some 32, none, .p .mov, [.t 77]⟩])))
def g593 : GL.Fn := ⟨.seq (.reg 0 [⟨0, some 6, none, .p .mov, [.c (.bool false)]⟩,
    ⟨1, some 7, none, .p .mov, [.c (.bool false)]⟩])
   (.seq (.seq (.reg 0 [⟨0, some 12, none, .p .mov, [.t 0]⟩,
    ⟨1, some 13, none, .e .call [] [], [.f 539, .c (.int .i64 12), .t 12]⟩,
    ⟨2, some 14, none, .p (.un .not), [.t 13]⟩,
    ⟨3, some 15, none, .p .mov, [.t 14]⟩,
    ⟨4, some 16, some (15, false), .p .mov, [.t 1]⟩,
    ⟨5, some 17, some (15, false), .e .call [] [], [.f 539, .c (.int .i64 12), .t 16]⟩,
    ⟨6, some 18, some (15, false), .p (.un .not), [.t 17]⟩,
    ⟨7, some 19, none, .p .pick, [.t 15, .c (.bool true), .t 18]⟩,
    ⟨8, some 20, none, .p .mov, [.t 19]⟩,
    ⟨9, some 21, some (20, false), .p .mov, [.t 2]⟩,
    ⟨10, some 22, some (20, false), .p .len, [.t 21]⟩,
    ⟨11, some 23, some (20, false), .p (.bin .gtr), [.t 22, .c (.int .i64 60)]⟩,
    ⟨12, some 24, none, .p .pick, [.t 20, .c (.bool true), .t 23]⟩,
    ⟨13, some 25, none, .p .mov, [.t 24]⟩,
    ⟨14, some 26, some (25, false), .p .mov, [.t 2]⟩,
    ⟨15, some 27, some (25, false), .e .call [] [], [.f 94, .t 26, .c (.int .i64 0), .c (.int .i64 143)]⟩,
    ⟨16, some 28, some (25, false), .p (.un .not), [.t 27]⟩,
    ⟨17, some 29, none, .p .pick, [.t 25, .c (.bool true), .t 28]⟩])
   (.cond (.t 29) (.seq (.reg 0 [⟨0, some 6, none, .p .mov, [.c (.bool false)]⟩,
    ⟨1, some 7, none, .p .mov, [.c (.bool false)]⟩])
   (.ret))
   (.skip)))
   (.seq (.seq (.reg 0 [⟨0, some 30, none, .p .mov, [.t 2]⟩,
    ⟨1, some 31, none, .p .len, [.t 30]⟩,
    ⟨2, some 32, none, .p .mov, [.c (.int .i64 0)]⟩])
   (.block 0 (.loop g593_0)))
   (.seq (.reg 0 [⟨0, some 6, none, .p .mov, [.c (.bool true)]⟩,
    ⟨1, some 7, none, .p .mov, [.c (.bool true)]⟩])
   (.ret)))),
  [.tmp 6, .tmp 7]⟩
/- (*loop.example/g00641/spec.l1Cur).one -/
def g92 : GL.Fn := ⟨.seq (.reg 0 [⟨0, some 4, none, .p .mov, [.c (.bool false)]⟩])
   (.seq (.reg 0 [⟨0, some 5, none, .p .mov, [.t 0]⟩,
    ⟨1, some 6, none, .p .mov, [.t 1]⟩,
    ⟨2, some 7, none, .e .call [] [], [.f 91, .t 5, .t 6]⟩,
    ⟨3, some 8, none, .p (.bin .eql), [.t 7, .c (.int .i64 0)]⟩,
    ⟨4, some 4, none, .p .mov, [.t 8]⟩])
   (.ret)),
  [.tmp 4]⟩
/- slices.ContainsFunc[[][]int,[]int] -/
def g335 : GL.Fn := ⟨.seq (.reg 0 [⟨0, some 4, none, .p .mov, [.c (.bool false)]⟩])
   (.seq (.reg 0 [⟨0, some 5, none, .p .mov, [.t 0]⟩,
    ⟨1, some 6, none, .p .mov, [.t 1]⟩,
    ⟨2, some 7, none, .e .call [] [], [.f 395, .t 5, .t 6]⟩,
    ⟨3, some 8, none, .p (.bin .geq), [.t 7, .c (.int .i64 0)]⟩,
    ⟨4, some 4, none, .p .mov, [.t 8]⟩])
   (.ret)),
  [.tmp 4]⟩
/- loop.example/g00641/impl.areOnce -/
def g541 : GL.Fn := ⟨.seq (.reg 0 [⟨0, some 4, none, .p .mov, [.c (.bool false)]⟩])
   (.seq (.reg 0 [⟨0, some 5, none, .p .mov, [.t 0]⟩,
    ⟨1, some 6, none, .e .call [] [], [.f 406, .t 5]⟩,
    ⟨2, some 7, none, .e .call [] [], [.f 407, .t 6]⟩,
    ⟨3, some 8, none, .p .mov, [.t 1]⟩,
    ⟨4, some 9, none, .p (.bin .sub), [.t 8, .c (.int .i64 1)]⟩,
    ⟨5, some 10, none, .e .call [] [], [.f 385, .t 7, .c (.int .i64 0), .t 9]⟩,
    ⟨6, some 4, none, .p .mov, [.t 10]⟩])
   (.ret)),
  [.tmp 4]⟩
/- loop.example/g00641/spec.l1All -/
def g94_0 : GL.Code := .seq (.reg 0 [⟨0, some 12, none, .p (.bin .lss), [.t 11, .t 10]⟩])
   (.seq (.cond (.t 12) (.skip)
   (.exit 0))
   (.seq (.block 1 (.seq (.reg 0 [⟨0, some 13, none, .p (.idx 1), [.t 9, .t 11]⟩,
    ⟨1, some 14, none, .r (.load false 1) false, [.t 13]⟩,
    ⟨2, some 8, none, .p .mov, [.t 14]⟩])
   (.seq (.reg 0 [⟨0, some 15, none, .p .mov, [.t 8]⟩,
    ⟨1, some 16, none, .p .mov, [.t 1]⟩,
    ⟨2, some 17, none, .p .mov, [.t 2]⟩,
    ⟨3, some 18, none, .e .call [] [], [.f 98, .t 15, .t 16, .t 17]⟩,
    ⟨4, some 19, none, .p (.un .not), [.t 18]⟩])
   (.cond (.t 19) (.seq (.reg 0 [⟨0, some 6, none, .p .mov, [.c (.bool false)]⟩])
   (.ret))
   (.skip)))))
   (.reg 0 [⟨0, some 20, none, .p (.bin .add), [.t 11, .c (.int .i64 1)]⟩,
    ⟨1, some 11, none, .p .mov, [.t 20]⟩])))
def g94 : GL.Fn := ⟨.seq (.reg 0 [⟨0, some 6, none, .p .mov, [.c (.bool false)]⟩])
   (.seq (.seq (.reg 0 [⟨0, some 9, none, .p .mov, [.t 0]⟩,
    ⟨1, some 10, none, .p .len, [.t 9]⟩,
    ⟨2, some 11, none, .p .mov, [.c (.int .i64 0)]⟩])
   (.block 0 (.loop g94_0)))
   (.seq (.reg 0 [⟨0, some 6, none, .p .mov, [.c (.bool true)]⟩])
   (.ret))),
  [.tmp 6]⟩
/- loop.example/g00641/spec.l1Has -/
def g302_0 : GL.Code := .seq (.reg 0 [⟨0, some 10, none, .p (.bin .lss), [.t 9, .t 8]⟩])
   (.seq (.cond (.t 10) (.skip)
   (.exit 0))
   (.seq (.block 1 (.seq (.reg 0 [⟨0, some 11, none, .p (.idx 1), [.t 7, .t 9]⟩,
    ⟨1, some 12, none, .r (.load false 1) false, [.t 11]⟩,
    ⟨2, some 6, none, .p .mov, [.t 12]⟩])
   (.seq (.reg 0 [⟨0, some 13, none, .p .mov, [.t 6]⟩,
    ⟨1, some 14, none, .p .mov, [.t 1]⟩,
    ⟨2, some 15, none, .p (.bin .eql), [.t 13, .t 14]⟩])
   (.cond (.t 15) (.seq (.reg 0 [⟨0, some 4, none, .p .mov, [.c (.bool true)]⟩])
   (.ret))
   (.skip)))))
   (.reg 0 [⟨0, some 16, none, .p (.bin .add), [.t 9, .c (.int .i64 1)]⟩,
    ⟨1, some 9, none, .p .mov, [.t 16]⟩])))
def g302 : GL.Fn := ⟨.seq (.reg 0 [⟨0, some 4, none, .p .mov, [.c (.bool false)]⟩])
   (.seq (.seq (.reg 0 [⟨0, some 7, none, .p .mov, [.t 0]⟩,
    ⟨1, some 8, none, .p .len, [.t 7]⟩,
    ⟨2, some 9, none, .p .mov, [.c (.int .i64 0)]⟩])
   (.block 0 (.loop g302_0)))
   (.seq (.reg 0 [⟨0, some 4, none, .p .mov, [.c (.bool false)]⟩])
   (.ret))),
  [.tmp 4]⟩
/- loop.example/g00641/impl.isRising -/
def g385_0 : GL.Code := .seq (.reg 0 [⟨0, some 12, none, .p (.bin .lss), [.t 11, .t 10]⟩])
   (.seq (.cond (.t 12) (.skip)
   (.exit 0))
   (.seq (.block 1 (.seq (.reg 0 [⟨0, some 13, none, .p .mov, [.t 11]⟩,
    ⟨1, some 14, none, .p (.idx 1), [.t 9, .t 11]⟩,
    ⟨2, some 15, none, .r (.load false 1) false, [.t 14]⟩,
    ⟨3, some 7, none, .p .mov, [.t 13]⟩,
    ⟨4, some 8, none, .p .mov, [.t 15]⟩])
   (.seq (.reg 0 [⟨0, some 16, none, .p .mov, [.t 8]⟩,
    ⟨1, some 17, none, .p .mov, [.t 1]⟩,
    ⟨2, some 18, none, .p .mov, [.t 2]⟩,
    ⟨3, some 19, none, .e .call [] [], [.f 107, .t 16, .t 17, .t 18]⟩,
    ⟨4, some 20, none, .p (.un .not), [.t 19]⟩,
    ⟨5, some 21, none, .p .mov, [.t 20]⟩,
    ⟨6, some 22, some (21, false), .p .mov, [.t 7]⟩,
    ⟨7, some 23, some (21, false), .p (.bin .gtr), [.t 22, .c (.int .i64 0)]⟩,
    ⟨8, some 24, some (21, false), .p .mov, [.t 23]⟩,
    ⟨9, some 25, some (24, true), .p .mov, [.t 0]⟩,
    ⟨10, some 26, some (24, true), .p .mov, [.t 7]⟩,
    ⟨11, some 27, some (24, true), .p (.bin .sub), [.t 26, .c (.int .i64 1)]⟩,
    ⟨12, some 28, some (24, true), .p (.idx 1), [.t 25, .t 27]⟩,
    ⟨13, some 29, some (24, true), .r (.load false 1) false, [.t 28]⟩,
    ⟨14, some 30, some (24, true), .p .mov, [.t 8]⟩,
    ⟨15, some 31, some (24, true), .p (.bin .geq), [.t 29, .t 30]⟩,
    ⟨16, some 32, some (21, false), .p .pick, [.t 24, .t 31, .c (.bool false)]⟩,
    ⟨17, some 33, none, .p .pick, [.t 21, .c (.bool true), .t 32]⟩])
   (.cond (.t 33) (.seq (.reg 0 [⟨0, some 6, none, .p .mov, [.c (.bool false)]⟩])
   (.ret))
   (.skip)))))
   (.reg 0 [⟨0, some 34, none, .p (.bin .add), [.t 11, .c (.int .i64 1)]⟩,
    ⟨1, some 11, none, .p .mov, [.t 34]⟩])))
def g385 : GL.Fn := ⟨.seq (.reg 0 [⟨0, some 6, none, .p .mov, [.c (.bool false)]⟩])
   (.seq (.seq (.reg 0 [⟨0, some 9, none, .p .mov, [.t 0]⟩,
    ⟨1, some 10, none, .p .len, [.t 9]⟩,
    ⟨2, some 11, none, .p .mov, [.c (.int .i64 0)]⟩])
   (.block 0 (.loop g385_0)))
   (.seq (.reg 0 [⟨0, some 6, none, .p .mov, [.c (.bool true)]⟩])
   (.ret))),
  [.tmp 6]⟩
/- slices.Contains[[]int,int] -/
def g301 : GL.Fn := ⟨.seq (.reg 0 [⟨0, some 4, none, .p .mov, [.c (.bool false)]⟩])
   (.seq (.reg 0 [⟨0, some 5, none, .p .mov, [.t 0]⟩,
    ⟨1, some 6, none, .p .mov, [.t 1]⟩,
    ⟨2, some 7, none, .e .call [] [], [.f 390, .t 5, .t 6]⟩,
    ⟨3, some 8, none, .p (.bin .geq), [.t 7, .c (.int .i64 0)]⟩,
    ⟨4, some 4, none, .p .mov, [.t 8]⟩])
   (.ret)),
  [.tmp 4]⟩
/- (*loop.example/g00641/spec.l1Cur).pick -/
def g91 : GL.Fn := ⟨.seq (.reg 0 [⟨0, some 4, none, .p .mov, [.c (.int .i64 0)]⟩])
   (.seq (.seq (.reg 0 [⟨0, some 6, none, .p .mov, [.t 1]⟩,
    ⟨1, some 7, none, .p (.bin .leq), [.t 6, .c (.int .i64 1)]⟩])
   (.cond (.t 7) (.seq (.reg 0 [⟨0, some 4, none, .p .mov, [.c (.int .i64 0)]⟩])
   (.ret))
   (.skip)))
   (.seq (.reg 0 [⟨0, some 8, none, .p .mov, [.t 0]⟩,
    ⟨1, some 9, none, .e .call [] [], [.f 140, .t 8]⟩,
    ⟨2, some 5, none, .p .mov, [.t 9]⟩])
   (.seq (.seq (.reg 0 [⟨0, some 10, none, .p .mov, [.t 1]⟩,
    ⟨1, some 11, none, .p (.bin .gtr), [.t 10, .c (.int .i64 200)]⟩])
   (.cond (.t 11) (.reg 0 [⟨0, some 12, none, .p .mov, [.t 5]⟩,
    ⟨1, some 13, none, .p (.bin .mul), [.t 12, .c (.int .i64 256)]⟩,
    ⟨2, some 14, none, .p .mov, [.t 0]⟩,
    ⟨3, some 15, none, .e .call [] [], [.f 140, .t 14]⟩,
    ⟨4, some 16, none, .p (.bin .add), [.t 13, .t 15]⟩,
    ⟨5, some 5, none, .p .mov, [.t 16]⟩])
   (.skip)))
   (.seq (.reg 0 [⟨0, some 17, none, .p .mov, [.t 5]⟩,
    ⟨1, some 18, none, .p .mov, [.t 1]⟩,
    ⟨2, some 19, none, .p (.bin .rem), [.t 17, .t 18]⟩,
    ⟨3, some 4, none, .p .mov, [.t 19]⟩])
   (.ret))))),
  [.tmp 4]⟩
/- (*loop.example/g00641/spec.l1Cur).links -/
def g570_0 : GL.Code := .seq (.seq (.reg 0 [⟨0, some 22, none, .p .mov, [.t 7]⟩,
    ⟨1, some 23, none, .p (.bin .gtr), [.t 22, .c (.int .i64 0)]⟩])
   (.cond (.t 23) (.skip)
   (.exit 2)))
   (.seq (.block 3 (.reg 0 [⟨0, some 26, none, .p .mov, [.t 6]⟩,
    ⟨1, some 27, none, .p .mov, [.t 0]⟩,
    ⟨2, some 28, none, .p .mov, [.t 3]⟩,
    ⟨3, some 29, none, .e .call [] [], [.f 91, .t 27, .t 28]⟩,
    ⟨4, some 30, none, .e .call [] [], [.f 410, .t 26, .t 29]⟩,
    ⟨5, some 6, none, .p .mov, [.t 30]⟩]))
   (.reg 0 [⟨0, some 24, none, .p .mov, [.t 7]⟩,
    ⟨1, some 25, none, .p (.bin .sub), [.t 24, .c (.int .i64 1)]⟩,
    ⟨2, some 7, none, .p .mov, [.t 25]⟩]))
def g570_1 : GL.Code := .seq (.seq (.reg 0 [⟨0, some 15, none, .p .mov, [.t 5]⟩,
    ⟨1, some 16, none, .p .mov, [.t 3]⟩,
    ⟨2, some 17, none, .p (.bin .lss), [.t 15, .t 16]⟩])
   (.cond (.t 17) (.skip)
   (.exit 0)))
   (.seq (.block 1 (.seq (.reg 0 [⟨0, some 6, none, .p .mov, [.c (.nils)]⟩])
   (.seq (.seq (.reg 0 [⟨0, some 20, none, .p .mov, [.t 0]⟩,
    ⟨1, some 21, none, .e .call [] [], [.f 91, .t 20, .c (.int .i64 3)]⟩,
    ⟨2, some 7, none, .p .mov, [.t 21]⟩])
   (.block 2 (.loop g570_0)))
   (.reg 0 [⟨0, some 31, none, .p .mov, [.t 4]⟩,
    ⟨1, some 32, none, .p .mov, [.t 6]⟩,
    ⟨2, some 33, none, .e (.new (.lit 1)) [] [], [.t 32]⟩,
    ⟨3, some 34, none, .e (.append 1 24) [] [], [.t 31, .t 33]⟩,
    ⟨4, some 4, none, .p .mov, [.t 34]⟩]))))
   (.reg 0 [⟨0, some 18, none, .p .mov, [.t 5]⟩,
    ⟨1, some 19, none, .p (.bin .add), [.t 18, .c (.int .i64 1)]⟩,
    ⟨2, some 5, none, .p .mov, [.t 19]⟩]))
def g570 : GL.Fn := ⟨.seq (.reg 0 [⟨0, some 2, none, .p .mov, [.c (.nils)]⟩])
   (.seq (.reg 0 [⟨0, some 8, none, .p .mov, [.t 0]⟩,
    ⟨1, some 9, none, .e .call [] [], [.f 91, .t 8, .c (.int .i64 9)]⟩,
    ⟨2, some 3, none, .p .mov, [.t 9]⟩])
   (.seq (.seq (.reg 0 [⟨0, some 10, none, .p .mov, [.t 0]⟩,
    ⟨1, some 11, none, .e .call [] [], [.f 92, .t 10, .c (.int .i64 20)]⟩])
   (.cond (.t 11) (.reg 0 [⟨0, some 12, none, .p .mov, [.t 0]⟩,
    ⟨1, some 13, none, .e .call [] [], [.f 91, .t 12, .c (.int .i64 2)]⟩,
    ⟨2, some 14, none, .p (.bin .add), [.c (.int .i64 12), .t 13]⟩,
    ⟨3, some 3, none, .p .mov, [.t 14]⟩])
   (.skip)))
   (.seq (.reg 0 [⟨0, some 4, none, .p .mov, [.c (.nils)]⟩])
   (.seq (.seq (.reg 0 [⟨0, some 5, none, .p .mov, [.c (.int .i64 0)]⟩])
   (.block 0 (.loop g570_1)))
   (.seq (.seq (.reg 0 [⟨0, some 35, none, .p .mov, [.t 3]⟩,
    ⟨1, some 36, none, .p (.bin .gtr), [.t 35, .c (.int .i64 0)]⟩,
    ⟨2, some 37, none, .p .mov, [.t 36]⟩,
    ⟨3, some 38, some (37, true), .p .mov, [.t 0]⟩,
    ⟨4, some 39, some (37, true), .e .call [] [], [.f 92, .t 38, .c (.int .i64 30)]⟩,
    ⟨5, some 40, none, .p .pick, [.t 37, .t 39, .c (.bool false)]⟩])
   (.cond (.t 40) (.reg 0 [⟨0, some 41, none, .p .mov, [.t 4]⟩,
    ⟨1, some 42, none, .p .mov, [.t 3]⟩,
    ⟨2, some 43, none, .e (.new (.lit 1)) [] [], [.t 42]⟩,
    ⟨3, some 44, none, .p (.idx 1), [.t 41, .c (.int .i64 0)]⟩,
    ⟨4, none, none, .e (.store 1) [] [], [.t 44, .t 43]⟩])
   (.skip)))
   (.seq (.reg 0 [⟨0, some 45, none, .p .mov, [.t 4]⟩,
    ⟨1, some 2, none, .p .mov, [.t 45]⟩])
   (.ret))))))),
  [.tmp 2]⟩
/- (*loop.example/g00641/spec.l1Cur).shuffled -/
def g567_0 : GL.Code := .seq (.seq (.reg 0 [⟨0, some 9, none, .p .mov, [.t 6]⟩,
    ⟨1, some 10, none, .p .mov, [.t 1]⟩,
    ⟨2, some 11, none, .p (.bin .lss), [.t 9, .t 10]⟩])
   (.cond (.t 11) (.skip)
   (.exit 0)))
   (.seq (.block 1 (.seq (.reg 0 [⟨0, some 14, none, .p .mov, [.t 0]⟩,
    ⟨1, some 15, none, .p .mov, [.t 5]⟩,
    ⟨2, some 16, none, .p .len, [.t 15]⟩,
    ⟨3, some 17, none, .p (.bin .add), [.t 16, .c (.int .i64 1)]⟩,
    ⟨4, some 18, none, .e .call [] [], [.f 91, .t 14, .t 17]⟩,
    ⟨5, some 7, none, .p .mov, [.t 18]⟩])
   (.seq (.reg 0 [⟨0, some 19, none, .e (.new (.lit 1)) [] [], []⟩,
    ⟨1, some 20, none, .p .mov, [.t 5]⟩,
    ⟨2, some 21, none, .p .mov, [.t 7]⟩,
    ⟨3, some 22, none, .p (.slice 1 false true false), [.t 20, .t 21]⟩,
    ⟨4, some 23, none, .e (.append 1 8) [] [], [.t 19, .t 22]⟩,
    ⟨5, some 8, none, .p .mov, [.t 23]⟩])
   (.seq (.reg 0 [⟨0, some 24, none, .p .mov, [.t 8]⟩,
    ⟨1, some 25, none, .p .mov, [.t 6]⟩,
    ⟨2, some 26, none, .e (.new (.lit 1)) [] [], [.t 25]⟩,
    ⟨3, some 27, none, .e (.append 1 8) [] [], [.t 24, .t 26]⟩,
    ⟨4, some 8, none, .p .mov, [.t 27]⟩])
   (.reg 0 [⟨0, some 28, none, .p .mov, [.t 8]⟩,
    ⟨1, some 29, none, .p .mov, [.t 5]⟩,
    ⟨2, some 30, none, .p .mov, [.t 7]⟩,
    ⟨3, some 31, none, .p (.slice 1 true false false), [.t 29, .t 30]⟩,
    ⟨4, some 32, none, .e (.append 1 8) [] [], [.t 28, .t 31]⟩,
    ⟨5, some 5, none, .p .mov, [.t 32]⟩])))))
   (.reg 0 [⟨0, some 12, none, .p .mov, [.t 6]⟩,
    ⟨1, some 13, none, .p (.bin .add), [.t 12, .c (.int .i64 1)]⟩,
    ⟨2, some 6, none, .p .mov, [.t 13]⟩]))
def g567 : GL.Fn := ⟨.seq (.reg 0 [⟨0, some 4, none, .p .mov, [.c (.nils)]⟩])
   (.seq (.reg 0 [⟨0, some 5, none, .p .mov, [.c (.nils)]⟩])
   (.seq (.seq (.reg 0 [⟨0, some 6, none, .p .mov, [.c (.int .i64 0)]⟩])
   (.block 0 (.loop g567_0)))
   (.seq (.reg 0 [⟨0, some 33, none, .p .mov, [.t 5]⟩,
    ⟨1, some 4, none, .p .mov, [.t 33]⟩])
   (.ret)))),
  [.tmp 4]⟩
/- loop.example/g00641/impl.GoodLinks -/
def g500 : GL.Fn := ⟨.seq (.reg 0 [⟨0, some 1, none, .e (.new (.box 1)) [] [], [.t 0]⟩,
    ⟨1, some 2, none, .p .mov, [.c (.bool false)]⟩])
   (.seq (.reg 0 [⟨0, some 3, none, .r (.load false 1) false, [.t 1]⟩,
    ⟨1, some 4, none, .p .len, [.t 3]⟩,
    ⟨2, some 5, none, .p (.bin .leq), [.t 4, .c (.int .i64 12)]⟩,
    ⟨3, some 6, none, .p .mov, [.t 5]⟩,
    ⟨4, some 7, some (6, true), .r (.load false 1) false, [.t 1]⟩,
    ⟨5, some 8, some (6, true), .p (.mkFn 559), [.t 1]⟩,
    ⟨6, some 9, some (6, true), .e .call [] [], [.f 335, .t 7, .t 8]⟩,
    ⟨7, some 10, some (6, true), .p (.un .not), [.t 9]⟩,
    ⟨8, some 11, none, .p .pick, [.t 6, .t 10, .c (.bool false)]⟩,
    ⟨9, some 2, none, .p .mov, [.t 11]⟩])
   (.ret)),
  [.tmp 2]⟩
/- loop.example/g00641/impl.doneBy -/
def g604_0 : GL.Code := .seq (.reg 0 [⟨0, some 14, none, .p (.bin .lss), [.t 13, .t 12]⟩])
   (.seq (.cond (.t 14) (.skip)
   (.exit 0))
   (.seq (.block 1 (.seq (.reg 0 [⟨0, some 15, none, .p (.idx 1), [.t 11, .t 13]⟩,
    ⟨1, some 16, none, .r (.load false 1) false, [.t 15]⟩,
    ⟨2, some 8, none, .p .mov, [.t 16]⟩])
   (.seq (.reg 0 [⟨0, some 17, none, .p .mov, [.t 5]⟩,
    ⟨1, some 18, none, .p .mov, [.t 8]⟩,
    ⟨2, some 19, none, .e (.new (.lit 1)) [] [], [.t 18]⟩,
    ⟨3, some 20, none, .e .call [] [], [.f 412, .t 17, .t 19]⟩,
    ⟨4, some 5, none, .p .mov, [.t 20]⟩])
   (.reg 0 [⟨0, some 21, none, .p .mov, [.t 6]⟩,
    ⟨1, some 22, none, .p .mov, [.t 0]⟩,
    ⟨2, some 23, none, .p .mov, [.t 5]⟩,
    ⟨3, some 24, none, .p .mov, [.t 6]⟩,
    ⟨4, some 25, none, .e .call [] [], [.f 553, .t 22, .t 23, .t 24]⟩,
    ⟨5, some 26, none, .e (.append 1 8) [] [], [.t 21, .t 25]⟩,
    ⟨6, some 6, none, .p .mov, [.t 26]⟩]))))
   (.reg 0 [⟨0, some 27, none, .p (.bin .add), [.t 13, .c (.int .i64 1)]⟩,
    ⟨1, some 13, none, .p .mov, [.t 27]⟩])))
def g604 : GL.Fn := ⟨.seq (.reg 0 [⟨0, some 4, none, .p .mov, [.c (.nils)]⟩])
   (.seq (.reg 0 [⟨0, some 9, none, .e (.new (.lit 1)) [] [], []⟩,
    ⟨1, some 10, none, .e (.new (.lit 1)) [] [], []⟩,
    ⟨2, some 5, none, .p .mov, [.t 9]⟩,
    ⟨3, some 6, none, .p .mov, [.t 10]⟩])
   (.seq (.seq (.reg 0 [⟨0, some 11, none, .p .mov, [.t 1]⟩,
    ⟨1, some 12, none, .p .len, [.t 11]⟩,
    ⟨2, some 13, none, .p .mov, [.c (.int .i64 0)]⟩])
   (.block 0 (.loop g604_0)))
   (.seq (.reg 0 [⟨0, some 28, none, .p .mov, [.t 6]⟩,
    ⟨1, some 4, none, .p .mov, [.t 28]⟩])
   (.ret)))),
  [.tmp 4]⟩
/- loop.example/g00641/spec.GoodLinks -/
def g550_0 : GL.Code := .seq (.reg 0 [⟨0, some 8, none, .p (.bin .lss), [.t 7, .t 6]⟩])
   (.seq (.cond (.t 8) (.skip)
   (.exit 0))
   (.seq (.block 1 (.seq (.reg 0 [⟨0, some 9, none, .p (.idx 1), [.t 5, .t 7]⟩,
    ⟨1, some 10, none, .r (.load false 1) false, [.t 9]⟩,
    ⟨2, some 4, none, .p .mov, [.t 10]⟩])
   (.seq (.reg 0 [⟨0, some 11, none, .p .mov, [.t 4]⟩,
    ⟨1, some 12, none, .p .mov, [.t 0]⟩,
    ⟨2, some 13, none, .p .len, [.t 12]⟩,
    ⟨3, some 14, none, .p (.bin .sub), [.t 13, .c (.int .i64 1)]⟩,
    ⟨4, some 15, none, .e .call [] [], [.f 337, .t 11, .c (.int .i64 0), .t 14]⟩,
    ⟨5, some 16, none, .p (.un .not), [.t 15]⟩])
   (.cond (.t 16) (.seq (.reg 0 [⟨0, some 2, none, .p .mov, [.c (.bool false)]⟩])
   (.ret))
   (.skip)))))
   (.reg 0 [⟨0, some 17, none, .p (.bin .add), [.t 7, .c (.int .i64 1)]⟩,
    ⟨1, some 7, none, .p .mov, [.t 17]⟩])))
def g550 : GL.Fn := ⟨.seq (.reg 0 [⟨0, some 2, none, .p .mov, [.c (.bool false)]⟩])
   (.seq (.seq (.reg 0 [⟨0, some 5, none, .p .mov, [.t 0]⟩,
    ⟨1, some 6, none, .p .len, [.t 5]⟩,
    ⟨2, some 7, none, .p .mov, [.c (.int .i64 0)]⟩])
   (.block 0 (.loop g550_0)))
   (.seq (.reg 0 [⟨0, some 18, none, .p .mov, [.t 0]⟩,
    ⟨1, some 19, none, .p .len, [.t 18]⟩,
    ⟨2, some 20, none, .p (.bin .leq), [.t 19, .c (.int .i64 12)]⟩,
    ⟨3, some 2, none, .p .mov, [.t 20]⟩])
   (.ret))),
  [.tmp 2]⟩
/- loop.example/g00641/spec.l14Once -/
def g539_0 : GL.Code := .seq (.reg 0 [⟨0, some 10, none, .p (.bin .lss), [.t 9, .t 8]⟩])
   (.seq (.cond (.t 10) (.skip)
   (.exit 0))
   (.seq (.block 1 (.seq (.reg 0 [⟨0, some 11, none, .p .mov, [.t 9]⟩,
    ⟨1, some 12, none, .p (.idx 1), [.t 7, .t 9]⟩,
    ⟨2, some 13, none, .r (.load false 1) false, [.t 12]⟩,
    ⟨3, some 5, none, .p .mov, [.t 11]⟩,
    ⟨4, some 6, none, .p .mov, [.t 13]⟩])
   (.seq (.reg 0 [⟨0, some 14, none, .p .mov, [.t 6]⟩,
    ⟨1, some 15, none, .p .mov, [.t 0]⟩,
    ⟨2, some 16, none, .p (.bin .sub), [.t 15, .c (.int .i64 1)]⟩,
    ⟨3, some 17, none, .e .call [] [], [.f 98, .t 14, .c (.int .i64 0), .t 16]⟩,
    ⟨4, some 18, none, .p (.un .not), [.t 17]⟩,
    ⟨5, some 19, none, .p .mov, [.t 18]⟩,
    ⟨6, some 20, some (19, false), .p .mov, [.t 1]⟩,
    ⟨7, some 21, some (19, false), .p .mov, [.t 5]⟩,
    ⟨8, some 22, some (19, false), .p (.slice 1 false true false), [.t 20, .t 21]⟩,
    ⟨9, some 23, some (19, false), .p .mov, [.t 6]⟩,
    ⟨10, some 24, some (19, false), .e .call [] [], [.f 302, .t 22, .t 23]⟩,
    ⟨11, some 25, none, .p .pick, [.t 19, .c (.bool true), .t 24]⟩])
   (.cond (.t 25) (.seq (.reg 0 [⟨0, some 4, none, .p .mov, [.c (.bool false)]⟩])
   (.ret))
   (.skip)))))
   (.reg 0 [⟨0, some 26, none, .p (.bin .add), [.t 9, .c (.int .i64 1)]⟩,
    ⟨1, some 9, none, .p .mov, [.t 26]⟩])))
def g539 : GL.Fn := ⟨.seq (.reg 0 [⟨0, some 4, none, .p .mov, [.c (.bool false)]⟩])
   (.seq (.seq (.reg 0 [⟨0, some 7, none, .p .mov, [.t 1]⟩,
    ⟨1, some 8, none, .p .len, [.t 7]⟩,
    ⟨2, some 9, none, .p .mov, [.c (.int .i64 0)]⟩])
   (.block 0 (.loop g539_0)))
   (.seq (.reg 0 [⟨0, some 4, none, .p .mov, [.c (.bool true)]⟩])
   (.ret))),
  [.tmp 4]⟩
/- loop.example/g00641/spec.l1Put -/
def g410_0 : GL.Code := .seq (.seq (.reg 0 [⟨0, some 7, none, .p .mov, [.t 5]⟩,
    ⟨1, some 8, none, .p .mov, [.t 0]⟩,
    ⟨2, some 9, none, .p .len, [.t 8]⟩,
    ⟨3, some 10, none, .p (.bin .lss), [.t 7, .t 9]⟩,
    ⟨4, some 11, none, .p .mov, [.t 10]⟩,
    ⟨5, some 12, some (11, true), .p .mov, [.t 0]⟩,
    ⟨6, some 13, some (11, true), .p .mov, [.t 5]⟩,
    ⟨7, some 14, some (11, true), .p (.idx 1), [.t 12, .t 13]⟩,
    ⟨8, some 15, some (11, true), .r (.load false 1) false, [.t 14]⟩,
    ⟨9, some 16, some (11, true), .p .mov, [.t 1]⟩,
    ⟨10, some 17, some (11, true), .p (.bin .lss), [.t 15, .t 16]⟩,
    ⟨11, some 18, none, .p .pick, [.t 11, .t 17, .c (.bool false)]⟩])
   (.cond (.t 18) (.skip)
   (.exit 0)))
   (.block 1 (.reg 0 [⟨0, some 19, none, .p .mov, [.t 5]⟩,
    ⟨1, some 20, none, .p (.bin .add), [.t 19, .c (.int .i64 1)]⟩,
    ⟨2, some 5, none, .p .mov, [.t 20]⟩]))
def g410 : GL.Fn := ⟨.seq (.reg 0 [⟨0, some 4, none, .p .mov, [.c (.nils)]⟩])
   (.seq (.reg 0 [⟨0, some 5, none, .p .mov, [.c (.int .i64 0)]⟩])
   (.seq (.block 0 (.loop g410_0))
   (.seq (.seq (.reg 0 [⟨0, some 21, none, .p .mov, [.t 5]⟩,
    ⟨1, some 22, none, .p .mov, [.t 0]⟩,
    ⟨2, some 23, none, .p .len, [.t 22]⟩,
    ⟨3, some 24, none, .p (.bin .lss), [.t 21, .t 23]⟩,
    ⟨4, some 25, none, .p .mov, [.t 24]⟩,
    ⟨5, some 26, some (25, true), .p .mov, [.t 0]⟩,
    ⟨6, some 27, some (25, true), .p .mov, [.t 5]⟩,
    ⟨7, some 28, some (25, true), .p (.idx 1), [.t 26, .t 27]⟩,
    ⟨8, some 29, some (25, true), .r (.load false 1) false, [.t 28]⟩,
    ⟨9, some 30, some (25, true), .p .mov, [.t 1]⟩,
    ⟨10, some 31, some (25, true), .p (.bin .eql), [.t 29, .t 30]⟩,
    ⟨11, some 32, none, .p .pick, [.t 25, .t 31, .c (.bool false)]⟩])
   (.cond (.t 32) (.seq (.reg 0 [⟨0, some 33, none, .p .mov, [.t 0]⟩,
    ⟨1, some 4, none, .p .mov, [.t 33]⟩])
   (.ret))
   (.skip)))
   (.seq (.reg 0 [⟨0, some 34, none, .e (.new (.lit 1)) [] [], []⟩,
    ⟨1, some 35, none, .p .mov, [.t 0]⟩,
    ⟨2, some 36, none, .p .mov, [.t 5]⟩,
    ⟨3, some 37, none, .p (.slice 1 false true false), [.t 35, .t 36]⟩,
    ⟨4, some 38, none, .e (.append 1 8) [] [], [.t 34, .t 37]⟩,
    ⟨5, some 6, none, .p .mov, [.t 38]⟩])
   (.seq (.reg 0 [⟨0, some 39, none, .p .mov, [.t 6]⟩,
    ⟨1, some 40, none, .p .mov, [.t 1]⟩,
    ⟨2, some 41, none, .e (.new (.lit 1)) [] [], [.t 40]⟩,
    ⟨3, some 42, none, .e (.append 1 8) [] [], [.t 39, .t 41]⟩,
    ⟨4, some 6, none, .p .mov, [.t 42]⟩])
   (.seq (.reg 0 [⟨0, some 43, none, .p .mov, [.t 6]⟩,
    ⟨1, some 44, none, .p .mov, [.t 0]⟩,
    ⟨2, some 45, none, .p .mov, [.t 5]⟩,
    ⟨3, some 46, none, .p (.slice 1 true false false), [.t 44, .t 45]⟩,
    ⟨4, some 47, none, .e (.append 1 8) [] [], [.t 43, .t 46]⟩,
    ⟨5, some 4, none, .p .mov, [.t 47]⟩])
   (.ret))))))),
  [.tmp 4]⟩
/- loop.example/g00641/spec.l14Next -/
def g555_0 : GL.Code := .seq (.reg 0 [⟨0, some 18, none, .p (.bin .lss), [.t 17, .t 16]⟩])
   (.seq (.cond (.t 18) (.skip)
   (.exit 0))
   (.seq (.block 1 (.seq (.reg 0 [⟨0, some 19, none, .p (.idx 1), [.t 15, .t 17]⟩,
    ⟨1, some 20, none, .r (.load false 1) false, [.t 19]⟩,
    ⟨2, some 10, none, .p .mov, [.t 20]⟩])
   (.seq (.reg 0 [⟨0, some 21, none, .p .mov, [.t 7]⟩,
    ⟨1, some 22, none, .p .mov, [.t 10]⟩,
    ⟨2, some 23, none, .e .call [] [], [.f 302, .t 21, .t 22]⟩,
    ⟨3, some 24, none, .p .mov, [.t 23]⟩,
    ⟨4, some 25, some (24, true), .p .mov, [.t 2]⟩,
    ⟨5, some 26, some (24, true), .p .mov, [.t 10]⟩,
    ⟨6, some 27, some (24, true), .e .call [] [], [.f 302, .t 25, .t 26]⟩,
    ⟨7, some 28, some (24, true), .p (.un .not), [.t 27]⟩,
    ⟨8, some 29, none, .p .pick, [.t 24, .t 28, .c (.bool false)]⟩])
   (.cond (.t 29) (.reg 0 [⟨0, some 30, none, .p .mov, [.t 8]⟩,
    ⟨1, some 31, none, .p .mov, [.t 10]⟩,
    ⟨2, some 32, none, .e (.new (.lit 1)) [] [], [.t 31]⟩,
    ⟨3, some 33, none, .e (.append 1 8) [] [], [.t 30, .t 32]⟩,
    ⟨4, some 8, none, .p .mov, [.t 33]⟩])
   (.skip)))))
   (.reg 0 [⟨0, some 34, none, .p (.bin .add), [.t 17, .c (.int .i64 1)]⟩,
    ⟨1, some 17, none, .p .mov, [.t 34]⟩])))
def g555 : GL.Fn := ⟨.seq (.reg 0 [⟨0, some 6, none, .p .mov, [.c (.nils)]⟩])
   (.seq (.reg 0 [⟨0, some 11, none, .p .mov, [.t 0]⟩,
    ⟨1, some 12, none, .p .mov, [.t 1]⟩,
    ⟨2, some 13, none, .e .call [] [], [.f 551, .t 11, .t 12]⟩,
    ⟨3, some 7, none, .p .mov, [.t 13]⟩])
   (.seq (.reg 0 [⟨0, some 8, none, .p .mov, [.c (.nils)]⟩])
   (.seq (.seq (.reg 0 [⟨0, some 14, none, .p .mov, [.t 0]⟩,
    ⟨1, some 15, none, .e .call [] [], [.f 573, .t 14]⟩,
    ⟨2, some 16, none, .p .len, [.t 15]⟩,
    ⟨3, some 17, none, .p .mov, [.c (.int .i64 0)]⟩])
   (.block 0 (.loop g555_0)))
   (.seq (.reg 0 [⟨0, some 35, none, .p .mov, [.t 8]⟩,
    ⟨1, some 6, none, .p .mov, [.t 35]⟩])
   (.ret))))),
  [.tmp 6]⟩
/- loop.example/g00641/impl.OrderBy -/
def g498 : GL.Fn := ⟨.seq (.reg 0 [⟨0, some 2, none, .p .mov, [.c (.nils)]⟩,
    ⟨1, some 3, none, .p .mov, [.c (.bool false)]⟩])
   (.seq (.seq (.reg 0 [⟨0, some 4, none, .p .mov, [.t 0]⟩,
    ⟨1, some 5, none, .e .call [] [], [.f 500, .t 4]⟩,
    ⟨2, some 6, none, .p (.un .not), [.t 5]⟩])
   (.cond (.t 6) (.seq (.reg 0 [⟨0, some 2, none, .p .mov, [.c (.nils)]⟩,
    ⟨1, some 3, none, .p .mov, [.c (.bool false)]⟩])
   (.ret))
   (.skip)))
   (.seq (.reg 0 [⟨0, some 7, none, .p .mov, [.t 0]⟩,
    ⟨1, some 8, none, .e .call [] [], [.f 557, .t 7]⟩,
    ⟨2, some 9, none, .e .call [] [], [.f 429, .t 8]⟩,
    ⟨3, some 2, none, .p .mov, [.t 9]⟩,
    ⟨4, some 3, none, .p .mov, [.c (.bool true)]⟩])
   (.ret))),
  [.tmp 2, .tmp 3]⟩
/- loop.example/g00641/spec.l14Order -/
def g573_0 : GL.Code := .seq (.reg 0 [⟨0, some 10, none, .p (.bin .lss), [.t 9, .t 8]⟩])
   (.seq (.cond (.t 10) (.skip)
   (.exit 0))
   (.seq (.block 1 (.seq (.reg 0 [⟨0, some 11, none, .p (.idx 1), [.t 7, .t 9]⟩,
    ⟨1, some 12, none, .r (.load false 1) false, [.t 11]⟩,
    ⟨2, some 5, none, .p .mov, [.t 12]⟩])
   (.reg 0 [⟨0, some 13, none, .p .mov, [.t 3]⟩,
    ⟨1, some 14, none, .p .mov, [.t 5]⟩,
    ⟨2, some 15, none, .e (.append 1 8) [] [], [.t 13, .t 14]⟩,
    ⟨3, some 3, none, .p .mov, [.t 15]⟩])))
   (.reg 0 [⟨0, some 16, none, .p (.bin .add), [.t 9, .c (.int .i64 1)]⟩,
    ⟨1, some 9, none, .p .mov, [.t 16]⟩])))
def g573 : GL.Fn := ⟨.seq (.reg 0 [⟨0, some 2, none, .p .mov, [.c (.nils)]⟩])
   (.seq (.reg 0 [⟨0, some 3, none, .p .mov, [.c (.nils)]⟩])
   (.seq (.seq (.reg 0 [⟨0, some 6, none, .p .mov, [.t 0]⟩,
    ⟨1, some 7, none, .e .call [] [], [.f 558, .t 6]⟩,
    ⟨2, some 8, none, .p .len, [.t 7]⟩,
    ⟨3, some 9, none, .p .mov, [.c (.int .i64 0)]⟩])
   (.block 0 (.loop g573_0)))
   (.seq (.reg 0 [⟨0, some 17, none, .p .mov, [.t 3]⟩,
    ⟨1, some 2, none, .p .mov, [.t 17]⟩])
   (.ret)))),
  [.tmp 2]⟩
/- loop.example/g00641/impl.areKnown -/
def g544 : GL.Fn := ⟨.seq (.reg 0 [⟨0, some 4, none, .p .mov, [.c (.bool false)]⟩])
   (.seq (.reg 0 [⟨0, some 5, none, .p .mov, [.t 0]⟩,
    ⟨1, some 6, none, .e .call [] [], [.f 500, .t 5]⟩,
    ⟨2, some 7, none, .p .mov, [.t 6]⟩,
    ⟨3, some 8, some (7, true), .p .mov, [.t 1]⟩,
    ⟨4, some 9, some (7, true), .p .mov, [.t 0]⟩,
    ⟨5, some 10, some (7, true), .p .len, [.t 9]⟩,
    ⟨6, some 11, some (7, true), .p (.bin .sub), [.t 10, .c (.int .i64 1)]⟩,
    ⟨7, some 12, some (7, true), .e .call [] [], [.f 385, .t 8, .c (.int .i64 0), .t 11]⟩,
    ⟨8, some 13, none, .p .pick, [.t 7, .t 12, .c (.bool false)]⟩,
    ⟨9, some 4, none, .p .mov, [.t 13]⟩])
   (.ret)),
  [.tmp 4]⟩
/- loop.example/g00641/impl.ready -/
def g549 : GL.Fn := ⟨.seq (.reg 0 [⟨0, some 2, none, .e (.new (.box 1)) [] [], [.t 0]⟩,
    ⟨1, some 3, none, .e (.new (.box 1)) [] [], [.t 1]⟩,
    ⟨2, some 4, none, .p .mov, [.c (.nils)]⟩])
   (.seq (.reg 0 [⟨0, some 5, none, .r (.load false 1) false, [.t 3]⟩,
    ⟨1, some 6, none, .e .call [] [], [.f 389, .t 5]⟩,
    ⟨2, some 7, none, .p (.mkFn 571), [.t 3, .t 2]⟩,
    ⟨3, some 8, none, .e .call [] [], [.f 397, .t 6, .t 7]⟩,
    ⟨4, some 4, none, .p .mov, [.t 8]⟩])
   (.ret)),
  [.tmp 4]⟩
/- loop.example/g00641/impl.within -/
def g107 : GL.Fn := ⟨.seq (.reg 0 [⟨0, some 6, none, .p .mov, [.c (.bool false)]⟩])
   (.seq (.reg 0 [⟨0, some 7, none, .p .mov, [.t 0]⟩,
    ⟨1, some 8, none, .p .mov, [.t 1]⟩,
    ⟨2, some 9, none, .p (.bin .geq), [.t 7, .t 8]⟩,
    ⟨3, some 10, none, .p .mov, [.t 9]⟩,
    ⟨4, some 11, some (10, true), .p .mov, [.t 0]⟩,
    ⟨5, some 12, some (10, true), .p .mov, [.t 2]⟩,
    ⟨6, some 13, some (10, true), .p (.bin .leq), [.t 11, .t 12]⟩,
    ⟨7, some 14, none, .p .pick, [.t 10, .t 13, .c (.bool false)]⟩,
    ⟨8, some 6, none, .p .mov, [.t 14]⟩])
   (.ret)),
  [.tmp 6]⟩
/- loop.example/g00641/impl.reach -/
def g545_0 : GL.Code := .seq (.reg 0 [⟨0, some 26, none, .p (.bin .lss), [.t 25, .t 24]⟩])
   (.seq (.cond (.t 26) (.skip)
   (.exit 2))
   (.seq (.block 3 (.seq (.reg 0 [⟨0, some 27, none, .p (.idx 1), [.t 23, .t 25]⟩,
    ⟨1, some 28, none, .r (.load false 1) false, [.t 27]⟩,
    ⟨2, some 8, none, .p .mov, [.t 28]⟩])
   (.seq (.reg 0 [⟨0, some 29, none, .p .mov, [.t 5]⟩,
    ⟨1, some 30, none, .p .mov, [.t 8]⟩,
    ⟨2, some 31, none, .e .call [] [], [.f 301, .t 29, .t 30]⟩,
    ⟨3, some 32, none, .p (.un .not), [.t 31]⟩])
   (.cond (.t 32) (.reg 0 [⟨0, some 33, none, .p .mov, [.t 5]⟩,
    ⟨1, some 34, none, .p .mov, [.t 8]⟩,
    ⟨2, some 35, none, .e (.new (.lit 1)) [] [], [.t 34]⟩,
    ⟨3, some 36, none, .e (.append 1 8) [] [], [.t 33, .t 35]⟩,
    ⟨4, some 5, none, .p .mov, [.t 36]⟩])
   (.skip)))))
   (.reg 0 [⟨0, some 37, none, .p (.bin .add), [.t 25, .c (.int .i64 1)]⟩,
    ⟨1, some 25, none, .p .mov, [.t 37]⟩])))
def g545_1 : GL.Code := .seq (.seq (.reg 0 [⟨0, some 11, none, .p .mov, [.t 6]⟩,
    ⟨1, some 12, none, .p .mov, [.t 5]⟩,
    ⟨2, some 13, none, .p .len, [.t 12]⟩,
    ⟨3, some 14, none, .p (.bin .lss), [.t 11, .t 13]⟩])
   (.cond (.t 14) (.skip)
   (.exit 0)))
   (.seq (.block 1 (.seq (.reg 0 [⟨0, some 17, none, .p .mov, [.t 0]⟩,
    ⟨1, some 18, none, .p .mov, [.t 5]⟩,
    ⟨2, some 19, none, .p .mov, [.t 6]⟩,
    ⟨3, some 20, none, .p (.idx 1), [.t 18, .t 19]⟩,
    ⟨4, some 21, none, .r (.load false 1) false, [.t 20]⟩,
    ⟨5, some 22, none, .p (.idx 1), [.t 17, .t 21]⟩,
    ⟨6, some 23, none, .r (.load false 1) false, [.t 22]⟩,
    ⟨7, some 24, none, .p .len, [.t 23]⟩,
    ⟨8, some 25, none, .p .mov, [.c (.int .i64 0)]⟩])
   (.block 2 (.loop g545_0))))
   (.reg 0 [⟨0, some 15, none, .p .mov, [.t 6]⟩,
    ⟨1, some 16, none, .p (.bin .add), [.t 15, .c (.int .i64 1)]⟩,
    ⟨2, some 6, none, .p .mov, [.t 16]⟩]))
def g545 : GL.Fn := ⟨.seq (.reg 0 [⟨0, some 4, none, .p .mov, [.c (.nils)]⟩])
   (.seq (.reg 0 [⟨0, some 9, none, .p .mov, [.t 1]⟩,
    ⟨1, some 10, none, .e (.new (.lit 1)) [] [], [.t 9]⟩,
    ⟨2, some 5, none, .p .mov, [.t 10]⟩])
   (.seq (.seq (.reg 0 [⟨0, some 6, none, .p .mov, [.c (.int .i64 0)]⟩])
   (.block 0 (.loop g545_1)))
   (.seq (.reg 0 [⟨0, some 38, none, .p .mov, [.t 5]⟩,
    ⟨1, some 39, none, .e .call [] [], [.f 340, .t 38]⟩])
   (.seq (.reg 0 [⟨0, some 40, none, .p .mov, [.t 5]⟩,
    ⟨1, some 4, none, .p .mov, [.t 40]⟩])
   (.ret))))),
  [.tmp 4]⟩
/- slices.ContainsFunc[[]int,int] -/
def g304 : GL.Fn := ⟨.seq (.reg 0 [⟨0, some 4, none, .p .mov, [.c (.bool false)]⟩])
   (.seq (.reg 0 [⟨0, some 5, none, .p .mov, [.t 0]⟩,
    ⟨1, some 6, none, .p .mov, [.t 1]⟩,
    ⟨2, some 7, none, .e .call [] [], [.f 391, .t 5, .t 6]⟩,
    ⟨3, some 8, none, .p (.bin .geq), [.t 7, .c (.int .i64 0)]⟩,
    ⟨4, some 4, none, .p .mov, [.t 8]⟩])
   (.ret)),
  [.tmp 4]⟩
/- loop.example/g00641/impl.AgreeOn$1 -/
def g605 : GL.Fn := ⟨.seq (.reg 0 [⟨0, some 2, none, .p .mov, [.c (.bool false)]⟩])
   (.seq (.reg 0 [⟨0, some 3, none, .p .mov, [.t 0]⟩,
    ⟨1, some 4, none, .e .call [] [], [.f 107, .t 3, .c (.int .i64 0), .c (.int .i64 143)]⟩,
    ⟨2, some 5, none, .p (.un .not), [.t 4]⟩,
    ⟨3, some 2, none, .p .mov, [.t 5]⟩])
   (.ret)),
  [.tmp 2]⟩
/- loop.example/g00641/impl.hasAll -/
def g552 : GL.Fn := ⟨.seq (.reg 0 [⟨0, some 2, none, .e (.new (.box 1)) [] [], [.t 0]⟩,
    ⟨1, some 4, none, .p .mov, [.c (.bool false)]⟩])
   (.seq (.reg 0 [⟨0, some 5, none, .p .mov, [.t 1]⟩,
    ⟨1, some 6, none, .p (.mkFn 572), [.t 2]⟩,
    ⟨2, some 7, none, .e .call [] [], [.f 304, .t 5, .t 6]⟩,
    ⟨3, some 8, none, .p (.un .not), [.t 7]⟩,
    ⟨4, some 4, none, .p .mov, [.t 8]⟩])
   (.ret)),
  [.tmp 4]⟩
/- slices.Index[[]int,int] -/
def g390_0 : GL.Code := .seq (.reg 0 [⟨0, some 9, none, .p (.bin .lss), [.t 8, .t 7]⟩])
   (.seq (.cond (.t 9) (.skip)
   (.exit 0))
   (.seq (.block 1 (.seq (.reg 0 [⟨0, some 10, none, .p .mov, [.t 8]⟩,
    ⟨1, some 5, none, .p .mov, [.t 10]⟩])
   (.seq (.reg 0 [⟨0, some 11, none, .p .mov, [.t 1]⟩,
    ⟨1, some 12, none, .p .mov, [.t 0]⟩,
    ⟨2, some 13, none, .p .mov, [.t 5]⟩,
    ⟨3, some 14, none, .p (.idx 1), [.t 12, .t 13]⟩,
    ⟨4, some 15, none, .r (.load false 1) false, [.t 14]⟩,
    ⟨5, some 16, none, .p (.bin .eql), [.t 11, .t 15]⟩])
   (.cond (.t 16) (.seq (.reg 0 [⟨0, some 17, none, .p .mov, [.t 5]⟩,
    ⟨1, some 4, none, .p .mov, [.t 17]⟩])
   (.ret))
   (.skip)))))
   (.reg 0 [⟨0, some 18, none, .p (.bin .add), [.t 8, .c (.int .i64 1)]⟩,
    ⟨1, some 8, none, .p .mov, [.t 18]⟩])))
def g390 : GL.Fn := ⟨.seq (.reg 0 [⟨0, some 4, none, .p .mov, [.c (.int .i64 0)]⟩])
   (.seq (.seq (.reg 0 [⟨0, some 6, none, .p .mov, [.t 0]⟩,
    ⟨1, some 7, none, .p .len, [.t 6]⟩,
    ⟨2, some 8, none, .p .mov, [.c (.int .i64 0)]⟩])
   (.block 0 (.loop g390_0)))
   (.seq (.reg 0 [⟨0, some 4, none, .p .mov, [.c (.int .i64 (-1))]⟩])
   (.ret))),
  [.tmp 4]⟩
/- loop.example/g00641/spec.l3At -/
def g606_0 : GL.Code := .seq (.reg 0 [⟨0, some 10, none, .p (.bin .lss), [.t 9, .t 8]⟩])
   (.seq (.cond (.t 10) (.skip)
   (.exit 0))
   (.seq (.block 1 (.seq (.reg 0 [⟨0, some 11, none, .p .mov, [.t 9]⟩,
    ⟨1, some 12, none, .p (.idx 1), [.t 7, .t 9]⟩,
    ⟨2, some 13, none, .r (.load false 1) false, [.t 12]⟩,
    ⟨3, some 5, none, .p .mov, [.t 11]⟩,
    ⟨4, some 6, none, .p .mov, [.t 13]⟩])
   (.seq (.reg 0 [⟨0, some 14, none, .p .mov, [.t 6]⟩,
    ⟨1, some 15, none, .p .mov, [.t 1]⟩,
    ⟨2, some 16, none, .p (.bin .eql), [.t 14, .t 15]⟩])
   (.cond (.t 16) (.seq (.reg 0 [⟨0, some 17, none, .p .mov, [.t 5]⟩,
    ⟨1, some 4, none, .p .mov, [.t 17]⟩])
   (.ret))
   (.skip)))))
   (.reg 0 [⟨0, some 18, none, .p (.bin .add), [.t 9, .c (.int .i64 1)]⟩,
    ⟨1, some 9, none, .p .mov, [.t 18]⟩])))
def g606 : GL.Fn := ⟨.seq (.reg 0 [⟨0, some 4, none, .p .mov, [.c (.int .i64 0)]⟩])
   (.seq (.seq (.reg 0 [⟨0, some 7, none, .p .mov, [.t 0]⟩,
    ⟨1, some 8, none, .p .len, [.t 7]⟩,
    ⟨2, some 9, none, .p .mov, [.c (.int .i64 0)]⟩])
   (.block 0 (.loop g606_0)))
   (.seq (.reg 0 [⟨0, some 4, none, .p .mov, [.c (.int .i64 (-1))]⟩])
   (.ret))),
  [.tmp 4]⟩
/- loop.example/g00641/impl.together -/
def g412 : GL.Fn := ⟨.seq (.reg 0 [⟨0, some 4, none, .p .mov, [.c (.nils)]⟩])
   (.seq (.reg 0 [⟨0, some 6, none, .p .mov, [.t 0]⟩,
    ⟨1, some 7, none, .p .mov, [.t 1]⟩,
    ⟨2, some 8, none, .e (.new (.lit 1)) [] [], [.t 6, .t 7]⟩,
    ⟨3, some 9, none, .e .call [] [], [.f 429, .t 8]⟩,
    ⟨4, some 5, none, .p .mov, [.t 9]⟩])
   (.seq (.reg 0 [⟨0, some 10, none, .p .mov, [.t 5]⟩,
    ⟨1, some 11, none, .e .call [] [], [.f 340, .t 10]⟩])
   (.seq (.reg 0 [⟨0, some 12, none, .p .mov, [.t 5]⟩,
    ⟨1, some 13, none, .e .call [] [], [.f 430, .t 12]⟩,
    ⟨2, some 4, none, .p .mov, [.t 13]⟩])
   (.ret)))),
  [.tmp 4]⟩
/- loop.example/g00641/impl.both -/
def g336 : GL.Fn := ⟨.seq (.reg 0 [⟨0, some 3, none, .e (.new (.box 1)) [] [], [.t 1]⟩,
    ⟨1, some 4, none, .p .mov, [.c (.nils)]⟩])
   (.seq (.reg 0 [⟨0, some 5, none, .p .mov, [.t 0]⟩,
    ⟨1, some 6, none, .e .call [] [], [.f 389, .t 5]⟩,
    ⟨2, some 7, none, .p (.mkFn 396), [.t 3]⟩,
    ⟨3, some 8, none, .e .call [] [], [.f 397, .t 6, .t 7]⟩,
    ⟨4, some 4, none, .p .mov, [.t 8]⟩])
   (.ret)),
  [.tmp 4]⟩
/- loop.example/g00641/spec.l1In -/
def g98 : GL.Fn := ⟨.seq (.reg 0 [⟨0, some 6, none, .p .mov, [.c (.bool false)]⟩])
   (.seq (.reg 0 [⟨0, some 7, none, .p .mov, [.t 0]⟩,
    ⟨1, some 8, none, .p .mov, [.t 1]⟩,
    ⟨2, some 9, none, .p (.bin .geq), [.t 7, .t 8]⟩,
    ⟨3, some 10, none, .p .mov, [.t 9]⟩,
    ⟨4, some 11, some (10, true), .p .mov, [.t 0]⟩,
    ⟨5, some 12, some (10, true), .p .mov, [.t 2]⟩,
    ⟨6, some 13, some (10, true), .p (.bin .leq), [.t 11, .t 12]⟩,
    ⟨7, some 14, none, .p .pick, [.t 10, .t 13, .c (.bool false)]⟩,
    ⟨8, some 6, none, .p .mov, [.t 14]⟩])
   (.ret)),
  [.tmp 6]⟩
/- loop.example/g00641/spec.l1Rising -/
def g337_0 : GL.Code := .seq (.reg 0 [⟨0, some 12, none, .p (.bin .lss), [.t 11, .t 10]⟩])
   (.seq (.cond (.t 12) (.skip)
   (.exit 0))
   (.seq (.block 1 (.seq (.reg 0 [⟨0, some 13, none, .p .mov, [.t 11]⟩,
    ⟨1, some 14, none, .p (.idx 1), [.t 9, .t 11]⟩,
    ⟨2, some 15, none, .r (.load false 1) false, [.t 14]⟩,
    ⟨3, some 7, none, .p .mov, [.t 13]⟩,
    ⟨4, some 8, none, .p .mov, [.t 15]⟩])
   (.seq (.reg 0 [⟨0, some 16, none, .p .mov, [.t 8]⟩,
    ⟨1, some 17, none, .p .mov, [.t 1]⟩,
    ⟨2, some 18, none, .p .mov, [.t 2]⟩,
    ⟨3, some 19, none, .e .call [] [], [.f 98, .t 16, .t 17, .t 18]⟩,
    ⟨4, some 20, none, .p (.un .not), [.t 19]⟩,
    ⟨5, some 21, none, .p .mov, [.t 20]⟩,
    ⟨6, some 22, some (21, false), .p .mov, [.t 7]⟩,
    ⟨7, some 23, some (21, false), .p (.bin .gtr), [.t 22, .c (.int .i64 0)]⟩,
    ⟨8, some 24, some (21, false), .p .mov, [.t 23]⟩,
    ⟨9, some 25, some (24, true), .p .mov, [.t 0]⟩,
    ⟨10, some 26, some (24, true), .p .mov, [.t 7]⟩,
    ⟨11, some 27, some (24, true), .p (.bin .sub), [.t 26, .c (.int .i64 1)]⟩,
    ⟨12, some 28, some (24, true), .p (.idx 1), [.t 25, .t 27]⟩,
    ⟨13, some 29, some (24, true), .r (.load false 1) false, [.t 28]⟩,
    ⟨14, some 30, some (24, true), .p .mov, [.t 8]⟩,
    ⟨15, some 31, some (24, true), .p (.bin .geq), [.t 29, .t 30]⟩,
    ⟨16, some 32, some (21, false), .p .pick, [.t 24, .t 31, .c (.bool false)]⟩,
    ⟨17, some 33, none, .p .pick, [.t 21, .c (.bool true), .t 32]⟩])
   (.cond (.t 33) (.seq (.reg 0 [⟨0, some 6, none, .p .mov, [.c (.bool false)]⟩])
   (.ret))
   (.skip)))))
   (.reg 0 [⟨0, some 34, none, .p (.bin .add), [.t 11, .c (.int .i64 1)]⟩,
    ⟨1, some 11, none, .p .mov, [.t 34]⟩])))
def g337 : GL.Fn := ⟨.seq (.reg 0 [⟨0, some 6, none, .p .mov, [.c (.bool false)]⟩])
   (.seq (.seq (.reg 0 [⟨0, some 9, none, .p .mov, [.t 0]⟩,
    ⟨1, some 10, none, .p .len, [.t 9]⟩,
    ⟨2, some 11, none, .p .mov, [.c (.int .i64 0)]⟩])
   (.block 0 (.loop g337_0)))
   (.seq (.reg 0 [⟨0, some 6, none, .p .mov, [.c (.bool true)]⟩])
   (.ret))),
  [.tmp 6]⟩
/- slices.IndexFunc[[][]int,[]int] -/
def g395_0 : GL.Code := .seq (.reg 0 [⟨0, some 9, none, .p (.bin .lss), [.t 8, .t 7]⟩])
   (.seq (.cond (.t 9) (.skip)
   (.exit 0))
   (.seq (.block 1 (.seq (.reg 0 [⟨0, some 10, none, .p .mov, [.t 8]⟩,
    ⟨1, some 5, none, .p .mov, [.t 10]⟩])
   (.seq (.reg 0 [⟨0, some 11, none, .p .mov, [.t 1]⟩,
    ⟨1, some 12, none, .p .mov, [.t 0]⟩,
    ⟨2, some 13, none, .p .mov, [.t 5]⟩,
    ⟨3, some 14, none, .p (.idx 1), [.t 12, .t 13]⟩,
    ⟨4, some 15, none, .r (.load false 1) false, [.t 14]⟩,
    ⟨5, some 16, none, .e .call [] [], [.t 11, .t 15]⟩])
   (.cond (.t 16) (.seq (.reg 0 [⟨0, some 17, none, .p .mov, [.t 5]⟩,
    ⟨1, some 4, none, .p .mov, [.t 17]⟩])
   (.ret))
   (.skip)))))
   (.reg 0 [⟨0, some 18, none, .p (.bin .add), [.t 8, .c (.int .i64 1)]⟩,
    ⟨1, some 8, none, .p .mov, [.t 18]⟩])))
def g395 : GL.Fn := ⟨.seq (.reg 0 [⟨0, some 4, none, .p .mov, [.c (.int .i64 0)]⟩])
   (.seq (.seq (.reg 0 [⟨0, some 6, none, .p .mov, [.t 0]⟩,
    ⟨1, some 7, none, .p .len, [.t 6]⟩,
    ⟨2, some 8, none, .p .mov, [.c (.int .i64 0)]⟩])
   (.block 0 (.loop g395_0)))
   (.seq (.reg 0 [⟨0, some 4, none, .p .mov, [.c (.int .i64 (-1))]⟩])
   (.ret))),
  [.tmp 4]⟩
/- (*loop.example/g00641/spec.l1Cur).next -/
def g140 : GL.Fn := ⟨.seq (.reg 0 [⟨0, some 2, none, .p .mov, [.c (.int .i64 0)]⟩])
   (.seq (.reg 0 [⟨0, some 3, none, .p .mov, [.c (.int .i64 0)]⟩])
   (.seq (.seq (.reg 0 [⟨0, some 4, none, .p .mov, [.t 0]⟩,
    ⟨1, some 5, none, .p .nilCheck, [.t 4]⟩,
    ⟨2, some 6, none, .p (.faddr 1), [.t 5]⟩,
    ⟨3, some 7, none, .r (.load false 1) false, [.t 6]⟩,
    ⟨4, some 8, none, .p .mov, [.t 0]⟩,
    ⟨5, some 9, none, .p .nilCheck, [.t 8]⟩,
    ⟨6, some 10, none, .p (.faddr 0), [.t 9]⟩,
    ⟨7, some 11, none, .r (.load false 1) false, [.t 10]⟩,
    ⟨8, some 12, none, .p .len, [.t 11]⟩,
    ⟨9, some 13, none, .p (.bin .lss), [.t 7, .t 12]⟩])
   (.cond (.t 13) (.reg 0 [⟨0, some 14, none, .p .mov, [.t 0]⟩,
    ⟨1, some 15, none, .p .nilCheck, [.t 14]⟩,
    ⟨2, some 16, none, .p (.faddr 0), [.t 15]⟩,
    ⟨3, some 17, none, .r (.load false 1) false, [.t 16]⟩,
    ⟨4, some 18, none, .p .mov, [.t 0]⟩,
    ⟨5, some 19, none, .p .nilCheck, [.t 18]⟩,
    ⟨6, some 20, none, .p (.faddr 1), [.t 19]⟩,
    ⟨7, some 21, none, .r (.load false 1) false, [.t 20]⟩,
    ⟨8, some 22, none, .p (.idx 1), [.t 17, .t 21]⟩,
    ⟨9, some 23, none, .r (.load false 1) false, [.t 22]⟩,
    ⟨10, some 24, none, .p (.conv .i64), [.t 23]⟩,
    ⟨11, some 3, none, .p .mov, [.t 24]⟩])
   (.skip)))
   (.seq (.reg 0 [⟨0, some 25, none, .p .mov, [.t 0]⟩,
    ⟨1, some 26, none, .p .nilCheck, [.t 25]⟩,
    ⟨2, some 27, none, .p (.faddr 1), [.t 26]⟩,
    ⟨3, some 28, none, .r (.load false 1) false, [.t 27]⟩,
    ⟨4, some 29, none, .p (.bin .add), [.t 28, .c (.int .i64 1)]⟩,
    ⟨5, some 30, none, .p .nilCheck, [.t 25]⟩,
    ⟨6, some 31, none, .p (.faddr 1), [.t 30]⟩,
    ⟨7, none, none, .e (.store 1) [] [], [.t 31, .t 29]⟩])
   (.seq (.reg 0 [⟨0, some 32, none, .p .mov, [.t 0]⟩,
    ⟨1, some 33, none, .p .mov, [.t 0]⟩,
    ⟨2, some 34, none, .p .nilCheck, [.t 33]⟩,
    ⟨3, some 35, none, .p (.faddr 2), [.t 34]⟩,
    ⟨4, some 36, none, .r (.load false 1) false, [.t 35]⟩,
    ⟨5, some 37, none, .p (.bin .mul), [.t 36, .c (.int .u64 6364136223846793005)]⟩,
    ⟨6, some 38, none, .p .mov, [.t 3]⟩,
    ⟨7, some 39, none, .p (.conv .u64), [.t 38]⟩,
    ⟨8, some 40, none, .p (.bin .add), [.t 37, .t 39]⟩,
    ⟨9, some 41, none, .p (.bin .add), [.t 40, .c (.int .u64 1442695040888963407)]⟩,
    ⟨10, some 42, none, .p .nilCheck, [.t 32]⟩,
    ⟨11, some 43, none, .p (.faddr 2), [.t 42]⟩,
    ⟨12, none, none, .e (.store 1) [] [], [.t 43, .t 41]⟩])
   (.seq (.seq (.reg 0 [⟨0, some 44, none, .p .mov, [.t 0]⟩,
    ⟨1, some 45, none, .p .nilCheck, [.t 44]⟩,
    ⟨2, some 46, none, .p (.faddr 1), [.t 45]⟩,
    ⟨3, some 47, none, .r (.load false 1) false, [.t 46]⟩,
    ⟨4, some 48, none, .p .mov, [.t 0]⟩,
    ⟨5, some 49, none, .p .nilCheck, [.t 48]⟩,
    ⟨6, some 50, none, .p (.faddr 0), [.t 49]⟩,
    ⟨7, some 51, none, .r (.load false 1) false, [.t 50]⟩,
    ⟨8, some 52, none, .p .len, [.t 51]⟩,
    ⟨9, some 53, none, .p (.bin .leq), [.t 47, .t 52]⟩])
   (.cond (.t 53) (.seq (.reg 0 [⟨0, some 54, none, .p .mov, [.t 3]⟩,
    ⟨1, some 2, none, .p .mov, [.t 54]⟩])
   (.ret))
   (.skip)))
   (.seq (.reg 0 [⟨0, some 55, none, .p .mov, [.t 0]⟩,
    ⟨1, some 56, none, .p .nilCheck, [.t 55]⟩,
    ⟨2, some 57, none, .p (.faddr 2), [.t 56]⟩,
    ⟨3, some 58, none, .r (.load false 1) false, [.t 57]⟩,
    ⟨4, some 59, none, .p (.bin .shr), [.t 58, .c (.int .u64 40)]⟩,
    ⟨5, some 60, none, .p (.bin .and), [.t 59, .c (.int .u64 255)]⟩,
    ⟨6, some 61, none, .p (.conv .i64), [.t 60]⟩,
    ⟨7, some 2, none, .p .mov, [.t 61]⟩])
   (.ret))))))),
  [.tmp 2]⟩
/- loop.example/g00641/impl.GoodLinks$1 -/
def g559 : GL.Fn := ⟨.seq (.reg 0 [⟨0, some 3, none, .p .mov, [.c (.bool false)]⟩])
   (.seq (.reg 0 [⟨0, some 4, none, .p .mov, [.t 0]⟩,
    ⟨1, some 5, none, .r (.load false 1) false, [.t 1]⟩,
    ⟨2, some 6, none, .p .len, [.t 5]⟩,
    ⟨3, some 7, none, .p (.bin .sub), [.t 6, .c (.int .i64 1)]⟩,
    ⟨4, some 8, none, .e .call [] [], [.f 385, .t 4, .c (.int .i64 0), .t 7]⟩,
    ⟨5, some 9, none, .p (.un .not), [.t 8]⟩,
    ⟨6, some 3, none, .p .mov, [.t 9]⟩])
   (.ret)),
  [.tmp 3]⟩
/- loop.example/g00641/impl.nextDone -/
def g553 : GL.Fn := ⟨.seq (.reg 0 [⟨0, some 6, none, .p .mov, [.c (.nils)]⟩])
   (.seq (.reg 0 [⟨0, some 7, none, .p .mov, [.t 0]⟩,
    ⟨1, some 8, none, .e .call [] [], [.f 557, .t 7]⟩,
    ⟨2, some 9, none, .e .call [] [], [.f 429, .t 8]⟩,
    ⟨3, some 10, none, .p .mov, [.t 0]⟩,
    ⟨4, some 11, none, .p .mov, [.t 1]⟩,
    ⟨5, some 12, none, .e .call [] [], [.f 549, .t 10, .t 11]⟩,
    ⟨6, some 13, none, .e .call [] [], [.f 336, .t 9, .t 12]⟩,
    ⟨7, some 14, none, .p .mov, [.t 2]⟩,
    ⟨8, some 15, none, .e .call [] [], [.f 428, .t 13, .t 14]⟩,
    ⟨9, some 6, none, .p .mov, [.t 15]⟩])
   (.ret)),
  [.tmp 6]⟩
/- loop.example/g00641/spec.l14Ready -/
def g551_0 : GL.Code := .seq (.reg 0 [⟨0, some 11, none, .p (.bin .lss), [.t 10, .t 9]⟩])
   (.seq (.cond (.t 11) (.skip)
   (.exit 0))
   (.seq (.block 1 (.seq (.reg 0 [⟨0, some 12, none, .p (.idx 1), [.t 8, .t 10]⟩,
    ⟨1, some 13, none, .r (.load false 1) false, [.t 12]⟩,
    ⟨2, some 7, none, .p .mov, [.t 13]⟩])
   (.seq (.reg 0 [⟨0, some 14, none, .p .mov, [.t 0]⟩,
    ⟨1, some 15, none, .p .mov, [.t 7]⟩,
    ⟨2, some 16, none, .e .call [] [], [.f 547, .t 14, .t 15]⟩,
    ⟨3, some 17, none, .p .mov, [.t 1]⟩,
    ⟨4, some 18, none, .e .call [] [], [.f 554, .t 16, .t 17]⟩])
   (.cond (.t 18) (.reg 0 [⟨0, some 19, none, .p .mov, [.t 5]⟩,
    ⟨1, some 20, none, .p .mov, [.t 7]⟩,
    ⟨2, some 21, none, .e (.new (.lit 1)) [] [], [.t 20]⟩,
    ⟨3, some 22, none, .e (.append 1 8) [] [], [.t 19, .t 21]⟩,
    ⟨4, some 5, none, .p .mov, [.t 22]⟩])
   (.skip)))))
   (.reg 0 [⟨0, some 23, none, .p (.bin .add), [.t 10, .c (.int .i64 1)]⟩,
    ⟨1, some 10, none, .p .mov, [.t 23]⟩])))
def g551 : GL.Fn := ⟨.seq (.reg 0 [⟨0, some 4, none, .p .mov, [.c (.nils)]⟩])
   (.seq (.reg 0 [⟨0, some 5, none, .p .mov, [.c (.nils)]⟩])
   (.seq (.seq (.reg 0 [⟨0, some 8, none, .p .mov, [.t 1]⟩,
    ⟨1, some 9, none, .p .len, [.t 8]⟩,
    ⟨2, some 10, none, .p .mov, [.c (.int .i64 0)]⟩])
   (.block 0 (.loop g551_0)))
   (.seq (.reg 0 [⟨0, some 24, none, .p .mov, [.t 5]⟩,
    ⟨1, some 4, none, .p .mov, [.t 24]⟩])
   (.ret)))),
  [.tmp 4]⟩
/- slices.Concat[[]int,int] -/
def g429_0 : GL.Code := .seq (.reg 0 [⟨0, some 12, none, .p (.bin .lss), [.t 11, .t 10]⟩])
   (.seq (.cond (.t 12) (.skip)
   (.exit 0))
   (.seq (.block 1 (.seq (.reg 0 [⟨0, some 13, none, .p (.idx 1), [.t 9, .t 11]⟩,
    ⟨1, some 14, none, .r (.load false 1) false, [.t 13]⟩,
    ⟨2, some 5, none, .p .mov, [.t 14]⟩])
   (.seq (.reg 0 [⟨0, some 15, none, .p .mov, [.t 3]⟩,
    ⟨1, some 16, none, .p .mov, [.t 5]⟩,
    ⟨2, some 17, none, .p .len, [.t 16]⟩,
    ⟨3, some 18, none, .p (.bin .add), [.t 15, .t 17]⟩,
    ⟨4, some 3, none, .p .mov, [.t 18]⟩])
   (.seq (.reg 0 [⟨0, some 19, none, .p .mov, [.t 3]⟩,
    ⟨1, some 20, none, .p (.bin .lss), [.t 19, .c (.int .i64 0)]⟩])
   (.cond (.t 20) (.reg 0 [⟨0, some 21, none, .p .bad, []⟩,
    ⟨1, none, none, .p .bad, []⟩])
   (.skip))))))
   (.reg 0 [⟨0, some 22, none, .p (.bin .add), [.t 11, .c (.int .i64 1)]⟩,
    ⟨1, some 11, none, .p .mov, [.t 22]⟩])))
def g429_1 : GL.Code := .seq (.reg 0 [⟨0, some 28, none, .p (.bin .lss), [.t 27, .t 26]⟩])
   (.seq (.cond (.t 28) (.skip)
   (.exit 2))
   (.seq (.block 3 (.seq (.reg 0 [⟨0, some 29, none, .p (.idx 1), [.t 25, .t 27]⟩,
    ⟨1, some 30, none, .r (.load false 1) false, [.t 29]⟩,
    ⟨2, some 8, none, .p .mov, [.t 30]⟩])
   (.reg 0 [⟨0, some 31, none, .p .mov, [.t 6]⟩,
    ⟨1, some 32, none, .p .mov, [.t 8]⟩,
    ⟨2, some 33, none, .e (.append 1 8) [] [], [.t 31, .t 32]⟩,
    ⟨3, some 6, none, .p .mov, [.t 33]⟩])))
   (.reg 0 [⟨0, some 34, none, .p (.bin .add), [.t 27, .c (.int .i64 1)]⟩,
    ⟨1, some 27, none, .p .mov, [.t 34]⟩])))
def g429 : GL.Fn := ⟨.seq (.reg 0 [⟨0, some 2, none, .p .mov, [.c (.nils)]⟩])
   (.seq (.reg 0 [⟨0, some 3, none, .p .mov, [.c (.int .i64 0)]⟩])
   (.seq (.seq (.reg 0 [⟨0, some 9, none, .p .mov, [.t 0]⟩,
    ⟨1, some 10, none, .p .len, [.t 9]⟩,
    ⟨2, some 11, none, .p .mov, [.c (.int .i64 0)]⟩])
   (.block 0 (.loop g429_0)))
   (.seq (.reg 0 [⟨0, some 23, none, .p .mov, [.t 3]⟩,
    ⟨1, some 24, none, .e .call [] [], [.f 436, .c (.nils), .t 23]⟩,
    ⟨2, some 6, none, .p .mov, [.t 24]⟩])
   (.seq (.seq (.reg 0 [⟨0, some 25, none, .p .mov, [.t 0]⟩,
    ⟨1, some 26, none, .p .len, [.t 25]⟩,
    ⟨2, some 27, none, .p .mov, [.c (.int .i64 0)]⟩])
   (.block 2 (.loop g429_1)))
   (.seq (.reg 0 [⟨0, some 35, none, .p .mov, [.t 6]⟩,
    ⟨1, some 2, none, .p .mov, [.t 35]⟩])
   (.ret)))))),
  [.tmp 2]⟩
/- loop.example/g00641/impl.groups -/
def g557_0 : GL.Code := .seq (.reg 0 [⟨0, some 13, none, .p (.bin .lss), [.t 12, .t 11]⟩])
   (.seq (.cond (.t 13) (.skip)
   (.exit 0))
   (.seq (.block 1 (.seq (.reg 0 [⟨0, some 14, none, .p .mov, [.t 12]⟩,
    ⟨1, some 4, none, .p .mov, [.t 14]⟩])
   (.seq (.reg 0 [⟨0, some 15, none, .r (.load false 1) false, [.t 1]⟩,
    ⟨1, some 16, none, .p .mov, [.t 4]⟩,
    ⟨2, some 17, none, .e .call [] [], [.f 560, .t 15, .t 16]⟩,
    ⟨3, some 5, none, .p .mov, [.t 17]⟩])
   (.seq (.reg 0 [⟨0, some 18, none, .p .mov, [.t 5]⟩,
    ⟨1, some 19, none, .p (.idx 1), [.t 18, .c (.int .i64 0)]⟩,
    ⟨2, some 20, none, .r (.load false 1) false, [.t 19]⟩,
    ⟨3, some 21, none, .p .mov, [.t 4]⟩,
    ⟨4, some 22, none, .p (.bin .eql), [.t 20, .t 21]⟩])
   (.cond (.t 22) (.reg 0 [⟨0, some 23, none, .p .mov, [.t 3]⟩,
    ⟨1, some 24, none, .p .mov, [.t 5]⟩,
    ⟨2, some 25, none, .e (.new (.lit 1)) [] [], [.t 24]⟩,
    ⟨3, some 26, none, .e (.append 1 24) [] [], [.t 23, .t 25]⟩,
    ⟨4, some 3, none, .p .mov, [.t 26]⟩])
   (.skip))))))
   (.reg 0 [⟨0, some 27, none, .p (.bin .add), [.t 12, .c (.int .i64 1)]⟩,
    ⟨1, some 12, none, .p .mov, [.t 27]⟩])))
def g557_1 : GL.Code := .seq (.seq (.reg 0 [⟨0, some 30, none, .p .mov, [.t 3]⟩,
    ⟨1, some 31, none, .p .len, [.t 30]⟩,
    ⟨2, some 32, none, .p (.bin .gtr), [.t 31, .c (.int .i64 0)]⟩])
   (.cond (.t 32) (.skip)
   (.exit 2)))
   (.block 3 (.seq (.reg 0 [⟨0, some 33, none, .p .mov, [.t 3]⟩,
    ⟨1, some 34, none, .p (.mkFn 574), [.t 7, .t 1]⟩,
    ⟨2, some 35, none, .e .call [] [], [.f 395, .t 33, .t 34]⟩,
    ⟨3, some 8, none, .p .mov, [.t 35]⟩])
   (.seq (.reg 0 [⟨0, some 36, none, .p .mov, [.t 6]⟩,
    ⟨1, some 37, none, .p .mov, [.t 3]⟩,
    ⟨2, some 38, none, .p .mov, [.t 8]⟩,
    ⟨3, some 39, none, .p (.idx 1), [.t 37, .t 38]⟩,
    ⟨4, some 40, none, .r (.load false 1) false, [.t 39]⟩,
    ⟨7, some 43, none, .r (.load false 1) true, [.t 7]⟩,
    ⟨8, some 44, none, .p .mov, [.t 3]⟩,
    ⟨9, some 45, none, .p .mov, [.t 8]⟩,
    ⟨10, some 46, none, .p (.idx 1), [.t 44, .t 45]⟩,
    ⟨11, some 47, none, .r (.load false 1) true, [.t 46]⟩,
    ⟨5, some 41, none, .e (.new (.lit 1)) [7, 11] [], [.t 40]⟩,
    ⟨6, some 42, none, .e (.append 1 24) [7, 11] [], [.t 36, .t 41]⟩,
    ⟨12, some 48, none, .e (.append 1 8) [] [], [.t 43, .t 47]⟩,
    ⟨13, some 6, none, .p .mov, [.t 42]⟩,
    ⟨14, none, none, .e (.store 1) [] [], [.t 7, .t 48]⟩])
   (.reg 0 [⟨0, some 49, none, .p .mov, [.t 3]⟩,
    ⟨1, some 50, none, .p .mov, [.t 8]⟩,
    ⟨2, some 51, none, .p .mov, [.t 8]⟩,
    ⟨3, some 52, none, .p (.bin .add), [.t 51, .c (.int .i64 1)]⟩,
    ⟨4, some 53, none, .e .call [] [], [.f 575, .t 49, .t 50, .t 52]⟩,
    ⟨5, some 3, none, .p .mov, [.t 53]⟩]))))
def g557 : GL.Fn := ⟨.seq (.reg 0 [⟨0, some 1, none, .e (.new (.box 1)) [] [], [.t 0]⟩,
    ⟨1, some 2, none, .p .mov, [.c (.nils)]⟩])
   (.seq (.reg 0 [⟨0, some 9, none, .e (.new (.lit 1)) [] [], []⟩,
    ⟨1, some 3, none, .p .mov, [.t 9]⟩])
   (.seq (.seq (.reg 0 [⟨0, some 10, none, .r (.load false 1) false, [.t 1]⟩,
    ⟨1, some 11, none, .p .len, [.t 10]⟩,
    ⟨2, some 12, none, .p .mov, [.c (.int .i64 0)]⟩])
   (.block 0 (.loop g557_0)))
   (.seq (.reg 0 [⟨0, some 28, none, .e (.new (.lit 1)) [] [], []⟩,
    ⟨1, some 29, none, .e (.new (.lit 1)) [] [], []⟩,
    ⟨2, some 7, none, .e (.new (.alloc [.nils])) [] [], []⟩,
    ⟨3, some 6, none, .p .mov, [.t 28]⟩,
    ⟨4, none, none, .e (.store 1) [] [], [.t 7, .t 29]⟩])
   (.seq (.block 2 (.loop g557_1))
   (.seq (.reg 0 [⟨0, some 54, none, .p .mov, [.t 6]⟩,
    ⟨1, some 2, none, .p .mov, [.t 54]⟩])
   (.ret)))))),
  [.tmp 2]⟩
/- loop.example/g00641/spec.l9Groups -/
def g558_0 : GL.Code := .seq (.reg 0 [⟨0, some 33, none, .p (.bin .lss), [.t 32, .t 31]⟩])
   (.seq (.cond (.t 33) (.skip)
   (.exit 4))
   (.seq (.block 5 (.seq (.reg 0 [⟨0, some 34, none, .p (.idx 1), [.t 30, .t 32]⟩,
    ⟨1, some 35, none, .r (.load false 1) false, [.t 34]⟩,
    ⟨2, some 9, none, .p .mov, [.t 35]⟩])
   (.reg 0 [⟨0, some 36, none, .p .mov, [.t 7]⟩,
    ⟨1, some 37, none, .p .mov, [.t 36]⟩,
    ⟨2, some 38, some (37, true), .p .mov, [.t 4]⟩,
    ⟨3, some 39, some (37, true), .p .mov, [.t 9]⟩,
    ⟨4, some 40, some (37, true), .e .call [] [], [.f 302, .t 38, .t 39]⟩,
    ⟨5, some 41, some (37, true), .p .mov, [.t 40]⟩,
    ⟨6, some 42, some (41, false), .p .mov, [.t 6]⟩,
    ⟨7, some 43, some (41, false), .p .mov, [.t 9]⟩,
    ⟨8, some 44, some (41, false), .e .call [] [], [.f 302, .t 42, .t 43]⟩,
    ⟨9, some 45, some (37, true), .p .pick, [.t 41, .c (.bool true), .t 44]⟩,
    ⟨10, some 46, none, .p .pick, [.t 37, .t 45, .c (.bool false)]⟩,
    ⟨11, some 7, none, .p .mov, [.t 46]⟩])))
   (.reg 0 [⟨0, some 47, none, .p (.bin .add), [.t 32, .c (.int .i64 1)]⟩,
    ⟨1, some 32, none, .p .mov, [.t 47]⟩])))
def g558_1 : GL.Code := .seq (.reg 0 [⟨0, some 56, none, .p (.bin .lss), [.t 55, .t 54]⟩])
   (.seq (.cond (.t 56) (.skip)
   (.exit 6))
   (.seq (.block 7 (.seq (.reg 0 [⟨0, some 57, none, .p (.idx 1), [.t 53, .t 55]⟩,
    ⟨1, some 58, none, .r (.load false 1) false, [.t 57]⟩,
    ⟨2, some 11, none, .p .mov, [.t 58]⟩])
   (.reg 0 [⟨0, some 59, none, .p .mov, [.t 4]⟩,
    ⟨1, some 60, none, .p .mov, [.t 11]⟩,
    ⟨2, some 61, none, .e .call [] [], [.f 410, .t 59, .t 60]⟩,
    ⟨3, some 4, none, .p .mov, [.t 61]⟩])))
   (.reg 0 [⟨0, some 62, none, .p (.bin .add), [.t 55, .c (.int .i64 1)]⟩,
    ⟨1, some 55, none, .p .mov, [.t 62]⟩])))
def g558_2 : GL.Code := .seq (.reg 0 [⟨0, some 20, none, .p (.bin .lss), [.t 19, .t 18]⟩])
   (.seq (.cond (.t 20) (.skip)
   (.exit 2))
   (.seq (.block 3 (.seq (.reg 0 [⟨0, some 21, none, .p .mov, [.t 19]⟩,
    ⟨1, some 5, none, .p .mov, [.t 21]⟩])
   (.seq (.seq (.reg 0 [⟨0, some 22, none, .p .mov, [.t 4]⟩,
    ⟨1, some 23, none, .p .mov, [.t 5]⟩,
    ⟨2, some 24, none, .e .call [] [], [.f 302, .t 22, .t 23]⟩])
   (.cond (.t 24) (.exit 3)
   (.skip)))
   (.seq (.reg 0 [⟨0, some 25, none, .p .mov, [.t 0]⟩,
    ⟨1, some 26, none, .p .mov, [.t 5]⟩,
    ⟨2, some 27, none, .e .call [] [], [.f 562, .t 25, .t 26]⟩,
    ⟨3, some 6, none, .p .mov, [.t 27]⟩])
   (.seq (.reg 0 [⟨0, some 7, none, .p .mov, [.c (.bool true)]⟩])
   (.seq (.seq (.reg 0 [⟨0, some 28, none, .p .mov, [.t 0]⟩,
    ⟨1, some 29, none, .p .mov, [.t 5]⟩,
    ⟨2, some 30, none, .e .call [] [], [.f 547, .t 28, .t 29]⟩,
    ⟨3, some 31, none, .p .len, [.t 30]⟩,
    ⟨4, some 32, none, .p .mov, [.c (.int .i64 0)]⟩])
   (.block 4 (.loop g558_0)))
   (.seq (.reg 0 [⟨0, some 48, none, .p .mov, [.t 7]⟩])
   (.cond (.t 48) (.seq (.reg 0 [⟨0, some 49, none, .p .mov, [.t 3]⟩,
    ⟨1, some 50, none, .p .mov, [.t 6]⟩,
    ⟨2, some 51, none, .e (.new (.lit 1)) [] [], [.t 50]⟩,
    ⟨3, some 52, none, .e (.append 1 24) [] [], [.t 49, .t 51]⟩,
    ⟨4, some 3, none, .p .mov, [.t 52]⟩])
   (.seq (.seq (.reg 0 [⟨0, some 53, none, .p .mov, [.t 6]⟩,
    ⟨1, some 54, none, .p .len, [.t 53]⟩,
    ⟨2, some 55, none, .p .mov, [.c (.int .i64 0)]⟩])
   (.block 6 (.loop g558_1)))
   (.exit 2)))
   (.skip)))))))))
   (.reg 0 [⟨0, some 63, none, .p (.bin .add), [.t 19, .c (.int .i64 1)]⟩,
    ⟨1, some 19, none, .p .mov, [.t 63]⟩])))
def g558_3 : GL.Code := .seq (.seq (.reg 0 [⟨0, some 12, none, .p .mov, [.t 4]⟩,
    ⟨1, some 13, none, .p .len, [.t 12]⟩,
    ⟨2, some 14, none, .p .mov, [.t 0]⟩,
    ⟨3, some 15, none, .p .len, [.t 14]⟩,
    ⟨4, some 16, none, .p (.bin .lss), [.t 13, .t 15]⟩])
   (.cond (.t 16) (.skip)
   (.exit 0)))
   (.block 1 (.seq (.reg 0 [⟨0, some 17, none, .p .mov, [.t 0]⟩,
    ⟨1, some 18, none, .p .len, [.t 17]⟩,
    ⟨2, some 19, none, .p .mov, [.c (.int .i64 0)]⟩])
   (.block 2 (.loop g558_2))))
def g558 : GL.Fn := ⟨.seq (.reg 0 [⟨0, some 2, none, .p .mov, [.c (.nils)]⟩])
   (.seq (.reg 0 [⟨0, some 3, none, .p .mov, [.c (.nils)]⟩])
   (.seq (.reg 0 [⟨0, some 4, none, .p .mov, [.c (.nils)]⟩])
   (.seq (.block 0 (.loop g558_3))
   (.seq (.reg 0 [⟨0, some 64, none, .p .mov, [.t 3]⟩,
    ⟨1, some 2, none, .p .mov, [.t 64]⟩])
   (.ret))))),
  [.tmp 2]⟩
/- slices.DeleteFunc[[]int,int] -/
def g397_0 : GL.Code := .seq (.seq (.reg 0 [⟨0, some 16, none, .p .mov, [.t 6]⟩,
    ⟨1, some 17, none, .p .mov, [.t 0]⟩,
    ⟨2, some 18, none, .p .len, [.t 17]⟩,
    ⟨3, some 19, none, .p (.bin .lss), [.t 16, .t 18]⟩])
   (.cond (.t 19) (.skip)
   (.exit 0)))
   (.seq (.block 1 (.seq (.reg 0 [⟨0, some 22, none, .p .mov, [.t 0]⟩,
    ⟨1, some 23, none, .p .mov, [.t 6]⟩,
    ⟨2, some 24, none, .p (.idx 1), [.t 22, .t 23]⟩,
    ⟨3, some 25, none, .r (.load false 1) false, [.t 24]⟩,
    ⟨4, some 7, none, .p .mov, [.t 25]⟩])
   (.seq (.reg 0 [⟨0, some 26, none, .p .mov, [.t 1]⟩,
    ⟨1, some 27, none, .p .mov, [.t 7]⟩,
    ⟨2, some 28, none, .e .call [] [], [.t 26, .t 27]⟩,
    ⟨3, some 29, none, .p (.un .not), [.t 28]⟩])
   (.cond (.t 29) (.seq (.reg 0 [⟨0, some 30, none, .p .mov, [.t 0]⟩,
    ⟨1, some 31, none, .p .mov, [.t 5]⟩,
    ⟨2, some 32, none, .p .mov, [.t 7]⟩,
    ⟨3, some 33, none, .p (.idx 1), [.t 30, .t 31]⟩,
    ⟨4, none, none, .e (.store 1) [] [], [.t 33, .t 32]⟩])
   (.reg 0 [⟨0, some 34, none, .p .mov, [.t 5]⟩,
    ⟨1, some 35, none, .p (.bin .add), [.t 34, .c (.int .i64 1)]⟩,
    ⟨2, some 5, none, .p .mov, [.t 35]⟩]))
   (.skip)))))
   (.reg 0 [⟨0, some 20, none, .p .mov, [.t 6]⟩,
    ⟨1, some 21, none, .p (.bin .add), [.t 20, .c (.int .i64 1)]⟩,
    ⟨2, some 6, none, .p .mov, [.t 21]⟩]))
def g397 : GL.Fn := ⟨.seq (.reg 0 [⟨0, some 4, none, .p .mov, [.c (.nils)]⟩])
   (.seq (.reg 0 [⟨0, some 8, none, .p .mov, [.t 0]⟩,
    ⟨1, some 9, none, .p .mov, [.t 1]⟩,
    ⟨2, some 10, none, .e .call [] [], [.f 391, .t 8, .t 9]⟩,
    ⟨3, some 5, none, .p .mov, [.t 10]⟩])
   (.seq (.seq (.reg 0 [⟨0, some 11, none, .p .mov, [.t 5]⟩,
    ⟨1, some 12, none, .p (.bin .eql), [.t 11, .c (.int .i64 (-1))]⟩])
   (.cond (.t 12) (.seq (.reg 0 [⟨0, some 13, none, .p .mov, [.t 0]⟩,
    ⟨1, some 4, none, .p .mov, [.t 13]⟩])
   (.ret))
   (.skip)))
   (.seq (.seq (.reg 0 [⟨0, some 14, none, .p .mov, [.t 5]⟩,
    ⟨1, some 15, none, .p (.bin .add), [.t 14, .c (.int .i64 1)]⟩,
    ⟨2, some 6, none, .p .mov, [.t 15]⟩])
   (.block 0 (.loop g397_0)))
   (.seq (.reg 0 [⟨0, some 36, none, .p .mov, [.t 0]⟩,
    ⟨1, some 37, none, .p .mov, [.t 5]⟩,
    ⟨2, some 38, none, .p (.slice 1 true false false), [.t 36, .t 37]⟩,
    ⟨3, none, none, .e (.clear 1 [.int .i64 0]) [] [], [.t 38]⟩])
   (.seq (.reg 0 [⟨0, some 39, none, .p .mov, [.t 0]⟩,
    ⟨1, some 40, none, .p .mov, [.t 5]⟩,
    ⟨2, some 41, none, .p (.slice 1 false true false), [.t 39, .t 40]⟩,
    ⟨3, some 4, none, .p .mov, [.t 41]⟩])
   (.ret)))))),
  [.tmp 4]⟩
/- slices.Clone[[]int,int] -/
def g389 : GL.Fn := ⟨.seq (.reg 0 [⟨0, some 2, none, .p .mov, [.c (.nils)]⟩])
   (.seq (.seq (.reg 0 [⟨0, some 3, none, .p .mov, [.t 0]⟩,
    ⟨1, some 4, none, .p (.isNil false), [.t 3]⟩])
   (.cond (.t 4) (.seq (.reg 0 [⟨0, some 2, none, .p .mov, [.c (.nils)]⟩])
   (.ret))
   (.skip)))
   (.seq (.reg 0 [⟨0, some 5, none, .e (.new (.lit 1)) [] [], []⟩,
    ⟨1, some 6, none, .p .mov, [.t 0]⟩,
    ⟨2, some 7, none, .e (.append 1 8) [] [], [.t 5, .t 6]⟩,
    ⟨3, some 2, none, .p .mov, [.t 7]⟩])
   (.ret))),
  [.tmp 2]⟩
/- loop.example/g00641/impl.ready$1 -/
def g571 : GL.Fn := ⟨.seq (.reg 0 [⟨0, some 4, none, .p .mov, [.c (.bool false)]⟩])
   (.seq (.reg 0 [⟨0, some 5, none, .r (.load false 1) true, [.t 1]⟩,
    ⟨1, some 6, none, .r (.load false 1) false, [.t 2]⟩,
    ⟨2, some 7, none, .p .mov, [.t 0]⟩,
    ⟨3, some 8, none, .e .call [0] [], [.f 545, .t 6, .t 7]⟩,
    ⟨4, some 9, none, .e .call [] [], [.f 552, .t 5, .t 8]⟩,
    ⟨5, some 10, none, .p (.un .not), [.t 9]⟩,
    ⟨6, some 4, none, .p .mov, [.t 10]⟩])
   (.ret)),
  [.tmp 4]⟩
/- slices.IndexFunc[[]int,int] -/
def g391_0 : GL.Code := .seq (.reg 0 [⟨0, some 9, none, .p (.bin .lss), [.t 8, .t 7]⟩])
   (.seq (.cond (.t 9) (.skip)
   (.exit 0))
   (.seq (.block 1 (.seq (.reg 0 [⟨0, some 10, none, .p .mov, [.t 8]⟩,
    ⟨1, some 5, none, .p .mov, [.t 10]⟩])
   (.seq (.reg 0 [⟨0, some 11, none, .p .mov, [.t 1]⟩,
    ⟨1, some 12, none, .p .mov, [.t 0]⟩,
    ⟨2, some 13, none, .p .mov, [.t 5]⟩,
    ⟨3, some 14, none, .p (.idx 1), [.t 12, .t 13]⟩,
    ⟨4, some 15, none, .r (.load false 1) false, [.t 14]⟩,
    ⟨5, some 16, none, .e .call [] [], [.t 11, .t 15]⟩])
   (.cond (.t 16) (.seq (.reg 0 [⟨0, some 17, none, .p .mov, [.t 5]⟩,
    ⟨1, some 4, none, .p .mov, [.t 17]⟩])
   (.ret))
   (.skip)))))
   (.reg 0 [⟨0, some 18, none, .p (.bin .add), [.t 8, .c (.int .i64 1)]⟩,
    ⟨1, some 8, none, .p .mov, [.t 18]⟩])))
def g391 : GL.Fn := ⟨.seq (.reg 0 [⟨0, some 4, none, .p .mov, [.c (.int .i64 0)]⟩])
   (.seq (.seq (.reg 0 [⟨0, some 6, none, .p .mov, [.t 0]⟩,
    ⟨1, some 7, none, .p .len, [.t 6]⟩,
    ⟨2, some 8, none, .p .mov, [.c (.int .i64 0)]⟩])
   (.block 0 (.loop g391_0)))
   (.seq (.reg 0 [⟨0, some 4, none, .p .mov, [.c (.int .i64 (-1))]⟩])
   (.ret))),
  [.tmp 4]⟩
/- loop.example/g00641/impl.hasAll$1 -/
def g572 : GL.Fn := ⟨.seq (.reg 0 [⟨0, some 3, none, .p .mov, [.c (.bool false)]⟩])
   (.seq (.reg 0 [⟨0, some 4, none, .r (.load false 1) false, [.t 1]⟩,
    ⟨1, some 5, none, .p .mov, [.t 0]⟩,
    ⟨2, some 6, none, .e .call [] [], [.f 301, .t 4, .t 5]⟩,
    ⟨3, some 7, none, .p (.un .not), [.t 6]⟩,
    ⟨4, some 3, none, .p .mov, [.t 7]⟩])
   (.ret)),
  [.tmp 3]⟩
/- slices.Compact[[]int,int] -/
def g430_0 : GL.Code := .seq (.seq (.reg 0 [⟨0, some 29, none, .p .mov, [.t 5]⟩,
    ⟨1, some 30, none, .p .mov, [.t 4]⟩,
    ⟨2, some 31, none, .p .len, [.t 30]⟩,
    ⟨3, some 32, none, .p (.bin .lss), [.t 29, .t 31]⟩])
   (.cond (.t 32) (.skip)
   (.exit 2)))
   (.seq (.block 3 (.seq (.reg 0 [⟨0, some 35, none, .p .mov, [.t 4]⟩,
    ⟨1, some 36, none, .p .mov, [.t 5]⟩,
    ⟨2, some 37, none, .p (.idx 1), [.t 35, .t 36]⟩,
    ⟨3, some 38, none, .r (.load false 1) false, [.t 37]⟩,
    ⟨4, some 39, none, .p .mov, [.t 4]⟩,
    ⟨5, some 40, none, .p .mov, [.t 5]⟩,
    ⟨6, some 41, none, .p (.bin .sub), [.t 40, .c (.int .i64 1)]⟩,
    ⟨7, some 42, none, .p (.idx 1), [.t 39, .t 41]⟩,
    ⟨8, some 43, none, .r (.load false 1) false, [.t 42]⟩,
    ⟨9, some 44, none, .p (.bin .neq), [.t 38, .t 43]⟩])
   (.cond (.t 44) (.seq (.reg 0 [⟨0, some 45, none, .p .mov, [.t 0]⟩,
    ⟨1, some 46, none, .p .mov, [.t 3]⟩,
    ⟨2, some 47, none, .p .mov, [.t 4]⟩,
    ⟨3, some 48, none, .p .mov, [.t 5]⟩,
    ⟨4, some 49, none, .p (.idx 1), [.t 47, .t 48]⟩,
    ⟨5, some 50, none, .r (.load false 1) false, [.t 49]⟩,
    ⟨6, some 51, none, .p (.idx 1), [.t 45, .t 46]⟩,
    ⟨7, none, none, .e (.store 1) [] [], [.t 51, .t 50]⟩])
   (.reg 0 [⟨0, some 52, none, .p .mov, [.t 3]⟩,
    ⟨1, some 53, none, .p (.bin .add), [.t 52, .c (.int .i64 1)]⟩,
    ⟨2, some 3, none, .p .mov, [.t 53]⟩]))
   (.skip))))
   (.reg 0 [⟨0, some 33, none, .p .mov, [.t 5]⟩,
    ⟨1, some 34, none, .p (.bin .add), [.t 33, .c (.int .i64 1)]⟩,
    ⟨2, some 5, none, .p .mov, [.t 34]⟩]))
def g430_1 : GL.Code := .seq (.seq (.reg 0 [⟨0, some 10, none, .p .mov, [.t 3]⟩,
    ⟨1, some 11, none, .p .mov, [.t 0]⟩,
    ⟨2, some 12, none, .p .len, [.t 11]⟩,
    ⟨3, some 13, none, .p (.bin .lss), [.t 10, .t 12]⟩])
   (.cond (.t 13) (.skip)
   (.exit 0)))
   (.seq (.block 1 (.seq (.reg 0 [⟨0, some 16, none, .p .mov, [.t 0]⟩,
    ⟨1, some 17, none, .p .mov, [.t 3]⟩,
    ⟨2, some 18, none, .p (.idx 1), [.t 16, .t 17]⟩,
    ⟨3, some 19, none, .r (.load false 1) false, [.t 18]⟩,
    ⟨4, some 20, none, .p .mov, [.t 0]⟩,
    ⟨5, some 21, none, .p .mov, [.t 3]⟩,
    ⟨6, some 22, none, .p (.bin .sub), [.t 21, .c (.int .i64 1)]⟩,
    ⟨7, some 23, none, .p (.idx 1), [.t 20, .t 22]⟩,
    ⟨8, some 24, none, .r (.load false 1) false, [.t 23]⟩,
    ⟨9, some 25, none, .p (.bin .eql), [.t 19, .t 24]⟩])
   (.cond (.t 25) (.seq (.reg 0 [⟨0, some 26, none, .p .mov, [.t 0]⟩,
    ⟨1, some 27, none, .p .mov, [.t 3]⟩,
    ⟨2, some 28, none, .p (.slice 1 true false false), [.t 26, .t 27]⟩,
    ⟨3, some 4, none, .p .mov, [.t 28]⟩])
   (.seq (.seq (.reg 0 [⟨0, some 5, none, .p .mov, [.c (.int .i64 1)]⟩])
   (.block 2 (.loop g430_0)))
   (.seq (.reg 0 [⟨0, some 54, none, .p .mov, [.t 0]⟩,
    ⟨1, some 55, none, .p .mov, [.t 3]⟩,
    ⟨2, some 56, none, .p (.slice 1 true false false), [.t 54, .t 55]⟩,
    ⟨3, none, none, .e (.clear 1 [.int .i64 0]) [] [], [.t 56]⟩])
   (.seq (.reg 0 [⟨0, some 57, none, .p .mov, [.t 0]⟩,
    ⟨1, some 58, none, .p .mov, [.t 3]⟩,
    ⟨2, some 59, none, .p (.slice 1 false true false), [.t 57, .t 58]⟩,
    ⟨3, some 2, none, .p .mov, [.t 59]⟩])
   (.ret)))))
   (.skip))))
   (.reg 0 [⟨0, some 14, none, .p .mov, [.t 3]⟩,
    ⟨1, some 15, none, .p (.bin .add), [.t 14, .c (.int .i64 1)]⟩,
    ⟨2, some 3, none, .p .mov, [.t 15]⟩]))
def g430 : GL.Fn := ⟨.seq (.reg 0 [⟨0, some 2, none, .p .mov, [.c (.nils)]⟩])
   (.seq (.seq (.reg 0 [⟨0, some 6, none, .p .mov, [.t 0]⟩,
    ⟨1, some 7, none, .p .len, [.t 6]⟩,
    ⟨2, some 8, none, .p (.bin .lss), [.t 7, .c (.int .i64 2)]⟩])
   (.cond (.t 8) (.seq (.reg 0 [⟨0, some 9, none, .p .mov, [.t 0]⟩,
    ⟨1, some 2, none, .p .mov, [.t 9]⟩])
   (.ret))
   (.skip)))
   (.seq (.seq (.reg 0 [⟨0, some 3, none, .p .mov, [.c (.int .i64 1)]⟩])
   (.block 0 (.loop g430_1)))
   (.seq (.reg 0 [⟨0, some 60, none, .p .mov, [.t 0]⟩,
    ⟨1, some 2, none, .p .mov, [.t 60]⟩])
   (.ret)))),
  [.tmp 2]⟩
/- loop.example/g00641/impl.both$1 -/
def g396 : GL.Fn := ⟨.seq (.reg 0 [⟨0, some 3, none, .p .mov, [.c (.bool false)]⟩])
   (.seq (.reg 0 [⟨0, some 4, none, .r (.load false 1) false, [.t 1]⟩,
    ⟨1, some 5, none, .p .mov, [.t 0]⟩,
    ⟨2, some 6, none, .e .call [] [], [.f 301, .t 4, .t 5]⟩,
    ⟨3, some 7, none, .p (.un .not), [.t 6]⟩,
    ⟨4, some 3, none, .p .mov, [.t 7]⟩])
   (.ret)),
  [.tmp 3]⟩
/- loop.example/g00641/impl.without -/
def g428 : GL.Fn := ⟨.seq (.reg 0 [⟨0, some 3, none, .e (.new (.box 1)) [] [], [.t 1]⟩,
    ⟨1, some 4, none, .p .mov, [.c (.nils)]⟩])
   (.seq (.reg 0 [⟨0, some 5, none, .p .mov, [.t 0]⟩,
    ⟨1, some 6, none, .e .call [] [], [.f 389, .t 5]⟩,
    ⟨2, some 7, none, .p (.mkFn 435), [.t 3]⟩,
    ⟨3, some 8, none, .e .call [] [], [.f 397, .t 6, .t 7]⟩,
    ⟨4, some 4, none, .p .mov, [.t 8]⟩])
   (.ret)),
  [.tmp 4]⟩
/- loop.example/g00641/spec.l5Sub -/
def g554_0 : GL.Code := .seq (.reg 0 [⟨0, some 10, none, .p (.bin .lss), [.t 9, .t 8]⟩])
   (.seq (.cond (.t 10) (.skip)
   (.exit 0))
   (.seq (.block 1 (.seq (.reg 0 [⟨0, some 11, none, .p (.idx 1), [.t 7, .t 9]⟩,
    ⟨1, some 12, none, .r (.load false 1) false, [.t 11]⟩,
    ⟨2, some 6, none, .p .mov, [.t 12]⟩])
   (.seq (.reg 0 [⟨0, some 13, none, .p .mov, [.t 1]⟩,
    ⟨1, some 14, none, .p .mov, [.t 6]⟩,
    ⟨2, some 15, none, .e .call [] [], [.f 302, .t 13, .t 14]⟩,
    ⟨3, some 16, none, .p (.un .not), [.t 15]⟩])
   (.cond (.t 16) (.seq (.reg 0 [⟨0, some 4, none, .p .mov, [.c (.bool false)]⟩])
   (.ret))
   (.skip)))))
   (.reg 0 [⟨0, some 17, none, .p (.bin .add), [.t 9, .c (.int .i64 1)]⟩,
    ⟨1, some 9, none, .p .mov, [.t 17]⟩])))
def g554 : GL.Fn := ⟨.seq (.reg 0 [⟨0, some 4, none, .p .mov, [.c (.bool false)]⟩])
   (.seq (.seq (.reg 0 [⟨0, some 7, none, .p .mov, [.t 0]⟩,
    ⟨1, some 8, none, .p .len, [.t 7]⟩,
    ⟨2, some 9, none, .p .mov, [.c (.int .i64 0)]⟩])
   (.block 0 (.loop g554_0)))
   (.seq (.reg 0 [⟨0, some 4, none, .p .mov, [.c (.bool true)]⟩])
   (.ret))),
  [.tmp 4]⟩
/- loop.example/g00641/spec.l9Reach -/
def g547_0 : GL.Code := .seq (.reg 0 [⟨0, some 28, none, .p (.bin .lss), [.t 27, .t 26]⟩])
   (.seq (.cond (.t 28) (.skip)
   (.exit 2))
   (.seq (.block 3 (.seq (.reg 0 [⟨0, some 29, none, .p (.idx 1), [.t 25, .t 27]⟩,
    ⟨1, some 30, none, .r (.load false 1) false, [.t 29]⟩,
    ⟨2, some 9, none, .p .mov, [.t 30]⟩])
   (.seq (.reg 0 [⟨0, some 31, none, .p .mov, [.t 5]⟩,
    ⟨1, some 32, none, .p .mov, [.t 9]⟩,
    ⟨2, some 33, none, .e .call [] [], [.f 302, .t 31, .t 32]⟩,
    ⟨3, some 34, none, .p (.un .not), [.t 33]⟩])
   (.cond (.t 34) (.seq (.reg 0 [⟨0, some 35, none, .p .mov, [.t 5]⟩,
    ⟨1, some 36, none, .p .mov, [.t 9]⟩,
    ⟨2, some 37, none, .e .call [] [], [.f 410, .t 35, .t 36]⟩,
    ⟨3, some 5, none, .p .mov, [.t 37]⟩])
   (.reg 0 [⟨0, some 38, none, .p .mov, [.t 6]⟩,
    ⟨1, some 39, none, .p .mov, [.t 9]⟩,
    ⟨2, some 40, none, .e (.new (.lit 1)) [] [], [.t 39]⟩,
    ⟨3, some 41, none, .e (.append 1 8) [] [], [.t 38, .t 40]⟩,
    ⟨4, some 6, none, .p .mov, [.t 41]⟩]))
   (.skip)))))
   (.reg 0 [⟨0, some 42, none, .p (.bin .add), [.t 27, .c (.int .i64 1)]⟩,
    ⟨1, some 27, none, .p .mov, [.t 42]⟩])))
def g547_1 : GL.Code := .seq (.seq (.reg 0 [⟨0, some 14, none, .p .mov, [.t 6]⟩,
    ⟨1, some 15, none, .p .len, [.t 14]⟩,
    ⟨2, some 16, none, .p (.bin .gtr), [.t 15, .c (.int .i64 0)]⟩])
   (.cond (.t 16) (.skip)
   (.exit 0)))
   (.block 1 (.seq (.reg 0 [⟨0, some 17, none, .p .mov, [.t 6]⟩,
    ⟨1, some 18, none, .p (.idx 1), [.t 17, .c (.int .i64 0)]⟩,
    ⟨2, some 19, none, .r (.load false 1) false, [.t 18]⟩,
    ⟨3, some 7, none, .p .mov, [.t 19]⟩])
   (.seq (.reg 0 [⟨0, some 20, none, .p .mov, [.t 6]⟩,
    ⟨1, some 21, none, .p (.slice 1 true false false), [.t 20, .c (.int .i64 1)]⟩,
    ⟨2, some 6, none, .p .mov, [.t 21]⟩])
   (.seq (.reg 0 [⟨0, some 22, none, .p .mov, [.t 0]⟩,
    ⟨1, some 23, none, .p .mov, [.t 7]⟩,
    ⟨2, some 24, none, .p (.idx 1), [.t 22, .t 23]⟩,
    ⟨3, some 25, none, .r (.load false 1) false, [.t 24]⟩,
    ⟨4, some 26, none, .p .len, [.t 25]⟩,
    ⟨5, some 27, none, .p .mov, [.c (.int .i64 0)]⟩])
   (.block 2 (.loop g547_0))))))
def g547 : GL.Fn := ⟨.seq (.reg 0 [⟨0, some 4, none, .p .mov, [.c (.nils)]⟩])
   (.seq (.reg 0 [⟨0, some 10, none, .p .mov, [.t 1]⟩,
    ⟨1, some 11, none, .e (.new (.lit 1)) [] [], [.t 10]⟩,
    ⟨2, some 5, none, .p .mov, [.t 11]⟩])
   (.seq (.reg 0 [⟨0, some 12, none, .p .mov, [.t 1]⟩,
    ⟨1, some 13, none, .e (.new (.lit 1)) [] [], [.t 12]⟩,
    ⟨2, some 6, none, .p .mov, [.t 13]⟩])
   (.seq (.block 0 (.loop g547_1))
   (.seq (.reg 0 [⟨0, some 43, none, .p .mov, [.t 5]⟩,
    ⟨1, some 4, none, .p .mov, [.t 43]⟩])
   (.ret))))),
  [.tmp 4]⟩
/- slices.Grow[[]int,int] -/
def g436 : GL.Fn := ⟨.seq (.reg 0 [⟨0, some 4, none, .p .mov, [.c (.nils)]⟩])
   (.seq (.seq (.reg 0 [⟨0, some 5, none, .p .mov, [.t 1]⟩,
    ⟨1, some 6, none, .p (.bin .lss), [.t 5, .c (.int .i64 0)]⟩])
   (.cond (.t 6) (.reg 0 [⟨0, some 7, none, .p .bad, []⟩,
    ⟨1, none, none, .p .bad, []⟩])
   (.skip)))
   (.seq (.seq (.reg 0 [⟨0, some 8, none, .p .mov, [.t 1]⟩,
    ⟨1, some 9, none, .p .mov, [.t 0]⟩,
    ⟨2, some 10, none, .p .cap, [.t 9]⟩,
    ⟨3, some 11, none, .p .mov, [.t 0]⟩,
    ⟨4, some 12, none, .p .len, [.t 11]⟩,
    ⟨5, some 13, none, .p (.bin .sub), [.t 10, .t 12]⟩,
    ⟨6, some 14, none, .p (.bin .sub), [.t 8, .t 13]⟩,
    ⟨7, some 1, none, .p .mov, [.t 14]⟩])
   (.seq (.reg 0 [⟨0, some 15, none, .p .mov, [.t 1]⟩,
    ⟨1, some 16, none, .p (.bin .gtr), [.t 15, .c (.int .i64 0)]⟩])
   (.cond (.t 16) (.reg 0 [⟨0, some 17, none, .p .mov, [.t 0]⟩,
    ⟨1, some 18, none, .p .mov, [.t 0]⟩,
    ⟨2, some 19, none, .p .cap, [.t 18]⟩,
    ⟨3, some 20, none, .p (.slice 1 false true false), [.t 17, .t 19]⟩,
    ⟨4, some 21, none, .p .mov, [.t 1]⟩,
    ⟨5, some 22, none, .e (.appendZ 1 8 [.int .i64 0]) [] [], [.t 20, .t 21]⟩,
    ⟨6, some 23, none, .p .mov, [.t 0]⟩,
    ⟨7, some 24, none, .p .len, [.t 23]⟩,
    ⟨8, some 25, none, .p (.slice 1 false true false), [.t 22, .t 24]⟩,
    ⟨9, some 0, none, .p .mov, [.t 25]⟩])
   (.skip))))
   (.seq (.reg 0 [⟨0, some 26, none, .p .mov, [.t 0]⟩,
    ⟨1, some 4, none, .p .mov, [.t 26]⟩])
   (.ret)))),
  [.tmp 4]⟩
/- loop.example/g00641/impl.group -/
def g560 : GL.Fn := ⟨.seq (.reg 0 [⟨0, some 2, none, .e (.new (.box 1)) [] [], [.t 0]⟩,
    ⟨1, some 3, none, .e (.new (.box 1)) [] [], [.t 1]⟩,
    ⟨2, some 4, none, .p .mov, [.c (.nils)]⟩])
   (.seq (.reg 0 [⟨0, some 5, none, .r (.load false 1) false, [.t 2]⟩,
    ⟨1, some 6, none, .r (.load false 1) false, [.t 3]⟩,
    ⟨2, some 7, none, .e .call [] [], [.f 545, .t 5, .t 6]⟩,
    ⟨3, some 8, none, .p (.mkFn 576), [.t 2, .t 3]⟩,
    ⟨4, some 9, none, .e .call [] [], [.f 397, .t 7, .t 8]⟩,
    ⟨5, some 4, none, .p .mov, [.t 9]⟩])
   (.ret)),
  [.tmp 4]⟩
/- loop.example/g00641/impl.groups$1 -/
def g574 : GL.Fn := ⟨.seq (.reg 0 [⟨0, some 4, none, .p .mov, [.c (.bool false)]⟩])
   (.seq (.reg 0 [⟨0, some 5, none, .r (.load false 1) false, [.t 1]⟩,
    ⟨1, some 6, none, .p .mov, [.t 0]⟩,
    ⟨4, some 9, none, .r (.load false 1) true, [.t 2]⟩,
    ⟨5, some 10, none, .p .mov, [.t 0]⟩,
    ⟨6, some 11, none, .p (.idx 1), [.t 10, .c (.int .i64 0)]⟩,
    ⟨7, some 12, none, .r (.load false 1) true, [.t 11]⟩,
    ⟨2, some 7, none, .e (.new (.lit 1)) [4, 7] [], [.t 5, .t 6]⟩,
    ⟨3, some 8, none, .e .call [4, 7] [], [.f 429, .t 7]⟩,
    ⟨8, some 13, none, .e .call [] [], [.f 545, .t 9, .t 12]⟩,
    ⟨9, some 14, none, .e .call [] [], [.f 552, .t 8, .t 13]⟩,
    ⟨10, some 4, none, .p .mov, [.t 14]⟩])
   (.ret)),
  [.tmp 4]⟩
/- slices.Delete[[][]int,[]int] -/
def g575 : GL.Fn := ⟨.seq (.reg 0 [⟨0, some 6, none, .p .mov, [.c (.nils)]⟩])
   (.seq (.reg 0 [⟨0, some 8, none, .p .mov, [.t 0]⟩,
    ⟨1, some 9, none, .p .mov, [.t 1]⟩,
    ⟨2, some 10, none, .p .mov, [.t 2]⟩,
    ⟨3, some 11, none, .p .mov, [.t 0]⟩,
    ⟨4, some 12, none, .p .len, [.t 11]⟩,
    ⟨5, some 13, none, .p (.slice 1 true true true), [.t 8, .t 9, .t 10, .t 12]⟩])
   (.seq (.seq (.reg 0 [⟨0, some 14, none, .p .mov, [.t 1]⟩,
    ⟨1, some 15, none, .p .mov, [.t 2]⟩,
    ⟨2, some 16, none, .p (.bin .eql), [.t 14, .t 15]⟩])
   (.cond (.t 16) (.seq (.reg 0 [⟨0, some 17, none, .p .mov, [.t 0]⟩,
    ⟨1, some 6, none, .p .mov, [.t 17]⟩])
   (.ret))
   (.skip)))
   (.seq (.reg 0 [⟨0, some 18, none, .p .mov, [.t 0]⟩,
    ⟨1, some 19, none, .p .len, [.t 18]⟩,
    ⟨2, some 7, none, .p .mov, [.t 19]⟩])
   (.seq (.reg 0 [⟨0, some 20, none, .p .mov, [.t 0]⟩,
    ⟨1, some 21, none, .p .mov, [.t 1]⟩,
    ⟨2, some 22, none, .p (.slice 1 false true false), [.t 20, .t 21]⟩,
    ⟨3, some 23, none, .p .mov, [.t 0]⟩,
    ⟨4, some 24, none, .p .mov, [.t 2]⟩,
    ⟨5, some 25, none, .p (.slice 1 true false false), [.t 23, .t 24]⟩,
    ⟨6, some 26, none, .e (.append 1 24) [] [], [.t 22, .t 25]⟩,
    ⟨7, some 0, none, .p .mov, [.t 26]⟩])
   (.seq (.reg 0 [⟨0, some 27, none, .p .mov, [.t 0]⟩,
    ⟨1, some 28, none, .p .mov, [.t 0]⟩,
    ⟨2, some 29, none, .p .len, [.t 28]⟩,
    ⟨3, some 30, none, .p .mov, [.t 7]⟩,
    ⟨4, some 31, none, .r (.sliceX 1) false, [.t 27, .t 29, .t 30]⟩,
    ⟨5, none, none, .e (.clear 1 [.nils]) [] [], [.t 31]⟩])
   (.seq (.reg 0 [⟨0, some 32, none, .p .mov, [.t 0]⟩,
    ⟨1, some 6, none, .p .mov, [.t 32]⟩])
   (.ret))))))),
  [.tmp 6]⟩
/- loop.example/g00641/spec.l9Group -/
def g562_0 : GL.Code := .seq (.reg 0 [⟨0, some 13, none, .p (.bin .lss), [.t 12, .t 11]⟩])
   (.seq (.cond (.t 13) (.skip)
   (.exit 0))
   (.seq (.block 1 (.seq (.reg 0 [⟨0, some 14, none, .p (.idx 1), [.t 10, .t 12]⟩,
    ⟨1, some 15, none, .r (.load false 1) false, [.t 14]⟩,
    ⟨2, some 7, none, .p .mov, [.t 15]⟩])
   (.seq (.reg 0 [⟨0, some 16, none, .p .mov, [.t 0]⟩,
    ⟨1, some 17, none, .p .mov, [.t 7]⟩,
    ⟨2, some 18, none, .e .call [] [], [.f 547, .t 16, .t 17]⟩,
    ⟨3, some 19, none, .p .mov, [.t 1]⟩,
    ⟨4, some 20, none, .e .call [] [], [.f 302, .t 18, .t 19]⟩])
   (.cond (.t 20) (.reg 0 [⟨0, some 21, none, .p .mov, [.t 5]⟩,
    ⟨1, some 22, none, .p .mov, [.t 7]⟩,
    ⟨2, some 23, none, .e (.new (.lit 1)) [] [], [.t 22]⟩,
    ⟨3, some 24, none, .e (.append 1 8) [] [], [.t 21, .t 23]⟩,
    ⟨4, some 5, none, .p .mov, [.t 24]⟩])
   (.skip)))))
   (.reg 0 [⟨0, some 25, none, .p (.bin .add), [.t 12, .c (.int .i64 1)]⟩,
    ⟨1, some 12, none, .p .mov, [.t 25]⟩])))
def g562 : GL.Fn := ⟨.seq (.reg 0 [⟨0, some 4, none, .p .mov, [.c (.nils)]⟩])
   (.seq (.reg 0 [⟨0, some 5, none, .p .mov, [.c (.nils)]⟩])
   (.seq (.seq (.reg 0 [⟨0, some 8, none, .p .mov, [.t 0]⟩,
    ⟨1, some 9, none, .p .mov, [.t 1]⟩,
    ⟨2, some 10, none, .e .call [] [], [.f 547, .t 8, .t 9]⟩,
    ⟨3, some 11, none, .p .len, [.t 10]⟩,
    ⟨4, some 12, none, .p .mov, [.c (.int .i64 0)]⟩])
   (.block 0 (.loop g562_0)))
   (.seq (.reg 0 [⟨0, some 26, none, .p .mov, [.t 5]⟩,
    ⟨1, some 4, none, .p .mov, [.t 26]⟩])
   (.ret)))),
  [.tmp 4]⟩
/- loop.example/g00641/impl.without$1 -/
def g435 : GL.Fn := ⟨.seq (.reg 0 [⟨0, some 3, none, .p .mov, [.c (.bool false)]⟩])
   (.seq (.reg 0 [⟨0, some 4, none, .r (.load false 1) false, [.t 1]⟩,
    ⟨1, some 5, none, .p .mov, [.t 0]⟩,
    ⟨2, some 6, none, .e .call [] [], [.f 301, .t 4, .t 5]⟩,
    ⟨3, some 3, none, .p .mov, [.t 6]⟩])
   (.ret)),
  [.tmp 3]⟩
/- loop.example/g00641/impl.group$1 -/
def g576 : GL.Fn := ⟨.seq (.reg 0 [⟨0, some 4, none, .p .mov, [.c (.bool false)]⟩])
   (.seq (.reg 0 [⟨0, some 5, none, .r (.load false 1) false, [.t 1]⟩,
    ⟨1, some 6, none, .p .mov, [.t 0]⟩,
    ⟨3, some 8, none, .r (.load false 1) true, [.t 2]⟩,
    ⟨2, some 7, none, .e .call [3] [], [.f 545, .t 5, .t 6]⟩,
    ⟨4, some 9, none, .e .call [] [], [.f 301, .t 7, .t 8]⟩,
    ⟨5, some 10, none, .p (.un .not), [.t 9]⟩,
    ⟨6, some 4, none, .p .mov, [.t 10]⟩])
   (.ret)),
  [.tmp 4]⟩
end GL
