import Derived.Test.YtflbkhbfbcbcoaaGlA
/- GL code of functions. -/
set_option linter.unusedSimpArgs false
set_option linter.unusedVariables false
set_option linter.unnecessarySimpa false
namespace GL
open Go
/- loop.example/g00641/laws.FnGrouped -/
def g76_0 : GL.Code := .seq (.reg 0 [⟨0, some 72, none, .p (.bin .lss), [.t 71, .t 70]⟩])
   (.seq (.cond (.t 72) (.skip)
   (.exit 0))
   (.seq (.block 1 (.seq (.reg 0 [⟨0, some 73, none, .p (.idx 2), [.t 69, .t 71]⟩,
    ⟨1, some 74, none, .r (.load true 2) false, [.t 73]⟩,
    ⟨2, some 14, none, .l (.alloc 14 [.int .i64 0, .nils]), []⟩,
    ⟨3, none, none, .l (.store 14 2), [.t 14, .t 74]⟩])
   (.reg 0 [⟨0, some 75, none, .p .mov, [.t 12]⟩,
    ⟨1, some 76, none, .p (.faddr 1), [.t 14]⟩,
    ⟨2, some 77, none, .l (.load 14 false 1), [.t 76]⟩,
    ⟨3, some 78, none, .p .mov, [.t 6]⟩,
    ⟨4, some 79, none, .p (.idx 2), [.t 77, .t 78]⟩,
    ⟨5, some 80, none, .r (.load true 2) false, [.t 79]⟩,
    ⟨6, some 81, none, .e (.new (.lit 2)) [] [], [.t 80]⟩,
    ⟨7, some 82, none, .e (.append 2 16) [] [], [.t 75, .t 81]⟩,
    ⟨8, some 12, none, .p .mov, [.t 82]⟩])))
   (.reg 0 [⟨0, some 83, none, .p (.bin .add), [.t 71, .c (.int .i64 1)]⟩,
    ⟨1, some 71, none, .p .mov, [.t 83]⟩])))
def g76_1 : GL.Code := .seq (.reg 0 [⟨0, some 92, none, .p (.bin .lss), [.t 91, .t 90]⟩])
   (.seq (.cond (.t 92) (.skip)
   (.exit 2))
   (.seq (.block 3 (.seq (.reg 0 [⟨0, some 93, none, .p .mov, [.t 91]⟩,
    ⟨1, some 94, none, .p (.idx 2), [.t 89, .t 91]⟩,
    ⟨2, some 95, none, .r (.load true 2) false, [.t 94]⟩,
    ⟨3, some 19, none, .l (.alloc 19 [.int .i64 0, .nils]), []⟩,
    ⟨4, some 18, none, .p .mov, [.t 93]⟩,
    ⟨5, none, none, .l (.store 19 2), [.t 19, .t 95]⟩])
   (.seq (.reg 0 [⟨0, some 96, none, .p .mov, [.t 17]⟩,
    ⟨1, some 97, none, .p (.faddr 1), [.t 19]⟩,
    ⟨2, some 98, none, .l (.load 19 false 1), [.t 97]⟩,
    ⟨3, some 99, none, .p (.idx 2), [.t 98, .c (.int .i64 1)]⟩,
    ⟨4, some 100, none, .p (.faddr 1), [.t 99]⟩,
    ⟨5, some 101, none, .r (.load false 1) false, [.t 100]⟩,
    ⟨6, some 102, none, .p (.bin .add), [.t 96, .t 101]⟩,
    ⟨7, some 17, none, .p .mov, [.t 102]⟩])
   (.seq (.reg 0 [⟨0, some 103, none, .p .mov, [.t 18]⟩,
    ⟨1, some 104, none, .p .mov, [.t 15]⟩,
    ⟨2, some 105, none, .p .len, [.t 104]⟩,
    ⟨3, some 106, none, .p (.bin .geq), [.t 103, .t 105]⟩,
    ⟨4, some 107, none, .p .mov, [.t 106]⟩,
    ⟨5, some 108, some (107, false), .p (.faddr 1), [.t 19]⟩,
    ⟨6, some 109, some (107, false), .l (.load 19 false 1), [.t 108]⟩,
    ⟨7, some 110, some (107, false), .p (.idx 2), [.t 109, .c (.int .i64 0)]⟩,
    ⟨8, some 111, some (107, false), .r (.load true 2) false, [.t 110]⟩,
    ⟨9, some 112, some (107, false), .p .mov, [.t 15]⟩,
    ⟨10, some 113, some (107, false), .p .mov, [.t 18]⟩,
    ⟨11, some 114, some (107, false), .p (.idx 2), [.t 112, .t 113]⟩,
    ⟨12, some 115, some (107, false), .r (.load true 2) false, [.t 114]⟩,
    ⟨13, some 116, some (107, false), .p (.eqAgg true [none, some .i64]), [.t 111, .t 115]⟩,
    ⟨14, some 117, none, .p .pick, [.t 107, .c (.bool true), .t 116]⟩])
   (.cond (.t 117) (.seq (.reg 0 [⟨0, some 4, none, .p .mov, [.c (.bool false)]⟩])
   (.ret))
   (.skip))))))
   (.reg 0 [⟨0, some 118, none, .p (.bin .add), [.t 91, .c (.int .i64 1)]⟩,
    ⟨1, some 91, none, .p .mov, [.t 118]⟩])))
def g76_2 : GL.Code := .seq (.reg 0 [⟨0, some 194, none, .p (.bin .lss), [.t 193, .t 192]⟩])
   (.seq (.cond (.t 194) (.skip)
   (.exit 4))
   (.seq (.block 5 (.seq (.reg 0 [⟨0, some 195, none, .p .mov, [.t 193]⟩,
    ⟨1, some 32, none, .p .mov, [.t 195]⟩])
   (.seq (.reg 0 [⟨0, some 196, none, .p .mov, [.t 21]⟩,
    ⟨1, some 197, none, .p .mov, [.t 32]⟩,
    ⟨2, some 198, none, .p (.idx 2), [.t 196, .t 197]⟩,
    ⟨3, some 199, none, .r (.load true 2) false, [.t 198]⟩,
    ⟨4, some 200, none, .p .mov, [.t 23]⟩,
    ⟨5, some 201, none, .p .mov, [.t 32]⟩,
    ⟨6, some 202, none, .p (.idx 2), [.t 200, .t 201]⟩,
    ⟨7, some 203, none, .r (.load true 2) false, [.t 202]⟩,
    ⟨8, some 204, none, .p (.eqAgg true [none, some .i64]), [.t 199, .t 203]⟩])
   (.cond (.t 204) (.seq (.reg 0 [⟨0, some 4, none, .p .mov, [.c (.bool false)]⟩])
   (.ret))
   (.skip)))))
   (.reg 0 [⟨0, some 205, none, .p (.bin .add), [.t 193, .c (.int .i64 1)]⟩,
    ⟨1, some 193, none, .p .mov, [.t 205]⟩])))
def g76 : GL.Fn := ⟨.seq (.reg 0 [⟨0, some 4, none, .p .mov, [.c (.bool false)]⟩])
   (.seq (.seq (.reg 0 [⟨0, some 33, none, .p .mov, [.t 0]⟩,
    ⟨1, some 34, none, .p .len, [.t 33]⟩,
    ⟨2, some 35, none, .p .mov, [.t 1]⟩,
    ⟨3, some 36, none, .p .len, [.t 35]⟩,
    ⟨4, some 37, none, .p (.bin .add), [.t 34, .t 36]⟩,
    ⟨5, some 38, none, .p (.bin .gtr), [.t 37, .c (.int .i64 1048576)]⟩])
   (.cond (.t 38) (.seq (.reg 0 [⟨0, some 4, none, .p .mov, [.c (.bool true)]⟩])
   (.ret))
   (.skip)))
   (.seq (.reg 0 [⟨0, some 40, none, .p .mov, [.t 0]⟩,
    ⟨1, some 41, none, .e .call [] [], [.f 77, .t 40]⟩,
    ⟨2, some 39, none, .p .mov, [.t 41]⟩,
    ⟨3, some 42, none, .p (.extract 0), [.t 39]⟩,
    ⟨4, some 43, none, .p (.extract 1), [.t 39]⟩,
    ⟨5, some 44, none, .p (.extract 2), [.t 39]⟩,
    ⟨6, some 5, none, .p .mov, [.t 42]⟩,
    ⟨7, some 6, none, .p .mov, [.t 43]⟩,
    ⟨8, some 7, none, .p .mov, [.t 44]⟩])
   (.seq (.reg 0 [⟨0, some 46, none, .p .mov, [.t 5]⟩,
    ⟨1, some 47, none, .p .mov, [.t 6]⟩,
    ⟨2, some 48, none, .p .mov, [.t 7]⟩,
    ⟨3, some 49, none, .e .call [] [], [.f 78, .t 46, .t 47, .t 48]⟩,
    ⟨4, some 45, none, .p .mov, [.t 49]⟩,
    ⟨5, some 50, none, .p (.extract 0), [.t 45]⟩,
    ⟨6, some 51, none, .p (.extract 1), [.t 45]⟩,
    ⟨7, some 8, none, .p .mov, [.t 50]⟩,
    ⟨8, some 9, none, .p .mov, [.t 51]⟩])
   (.seq (.reg 0 [⟨0, some 53, none, .p .mov, [.t 5]⟩,
    ⟨1, some 54, none, .p .mov, [.t 6]⟩,
    ⟨2, some 55, none, .p .mov, [.t 7]⟩,
    ⟨3, some 56, none, .e .call [] [], [.f 79, .t 53, .t 54, .t 55]⟩,
    ⟨4, some 52, none, .p .mov, [.t 56]⟩,
    ⟨5, some 57, none, .p (.extract 0), [.t 52]⟩,
    ⟨6, some 58, none, .p (.extract 1), [.t 52]⟩,
    ⟨7, some 10, none, .p .mov, [.t 57]⟩,
    ⟨8, some 11, none, .p .mov, [.t 58]⟩])
   (.seq (.seq (.reg 0 [⟨0, some 59, none, .p .mov, [.t 9]⟩,
    ⟨1, some 60, none, .p .mov, [.t 11]⟩,
    ⟨2, some 61, none, .p (.eqB true), [.t 59, .t 60]⟩,
    ⟨3, some 62, none, .p .mov, [.t 61]⟩,
    ⟨4, some 63, some (62, false), .p .mov, [.t 8]⟩,
    ⟨5, some 64, some (62, false), .p .mov, [.t 10]⟩,
    ⟨6, some 65, some (62, false), .e .call [] [], [.f 61, .t 63, .t 64]⟩,
    ⟨7, some 66, some (62, false), .p (.un .not), [.t 65]⟩,
    ⟨8, some 67, none, .p .pick, [.t 62, .c (.bool true), .t 66]⟩])
   (.cond (.t 67) (.seq (.reg 0 [⟨0, some 4, none, .p .mov, [.c (.bool false)]⟩])
   (.ret))
   (.skip)))
   (.seq (.seq (.reg 0 [⟨0, some 68, none, .p .mov, [.t 9]⟩])
   (.cond (.t 68) (.seq (.reg 0 [⟨0, some 12, none, .p .mov, [.c (.nils)]⟩])
   (.seq (.seq (.reg 0 [⟨0, some 69, none, .p .mov, [.t 5]⟩,
    ⟨1, some 70, none, .p .len, [.t 69]⟩,
    ⟨2, some 71, none, .p .mov, [.c (.int .i64 0)]⟩])
   (.block 0 (.loop g76_0)))
   (.seq (.reg 0 [⟨0, some 85, none, .p .mov, [.t 12]⟩,
    ⟨1, some 86, none, .e .call [] [], [.f 80, .t 85]⟩,
    ⟨2, some 84, none, .p .mov, [.t 86]⟩,
    ⟨3, some 87, none, .p (.extract 0), [.t 84]⟩,
    ⟨4, some 88, none, .p (.extract 1), [.t 84]⟩,
    ⟨5, some 15, none, .p .mov, [.t 87]⟩,
    ⟨6, some 16, none, .p .mov, [.t 88]⟩])
   (.seq (.reg 0 [⟨0, some 17, none, .p .mov, [.c (.int .i64 0)]⟩])
   (.seq (.seq (.reg 0 [⟨0, some 89, none, .p .mov, [.t 8]⟩,
    ⟨1, some 90, none, .p .len, [.t 89]⟩,
    ⟨2, some 91, none, .p .mov, [.c (.int .i64 0)]⟩])
   (.block 2 (.loop g76_1)))
   (.seq (.reg 0 [⟨0, some 119, none, .p .mov, [.t 8]⟩,
    ⟨1, some 120, none, .e .call [] [], [.f 62, .t 119]⟩,
    ⟨2, some 121, none, .p (.un .not), [.t 120]⟩,
    ⟨3, some 122, none, .p .mov, [.t 121]⟩,
    ⟨4, some 123, some (122, false), .p .mov, [.t 16]⟩,
    ⟨5, some 124, some (122, false), .p (.un .not), [.t 123]⟩,
    ⟨6, some 125, none, .p .pick, [.t 122, .c (.bool true), .t 124]⟩,
    ⟨7, some 126, none, .p .mov, [.t 125]⟩,
    ⟨8, some 127, some (126, false), .p .mov, [.t 17]⟩,
    ⟨9, some 128, some (126, false), .p .mov, [.t 5]⟩,
    ⟨10, some 129, some (126, false), .p .len, [.t 128]⟩,
    ⟨11, some 130, some (126, false), .p (.bin .neq), [.t 127, .t 129]⟩,
    ⟨12, some 131, none, .p .pick, [.t 126, .c (.bool true), .t 130]⟩,
    ⟨13, some 132, none, .p .mov, [.t 131]⟩,
    ⟨14, some 133, some (132, false), .p .mov, [.t 15]⟩,
    ⟨15, some 134, some (132, false), .p .len, [.t 133]⟩,
    ⟨16, some 135, some (132, false), .p .mov, [.t 8]⟩,
    ⟨17, some 136, some (132, false), .p .len, [.t 135]⟩,
    ⟨18, some 137, some (132, false), .p (.bin .neq), [.t 134, .t 136]⟩,
    ⟨19, some 138, none, .p .pick, [.t 132, .c (.bool true), .t 137]⟩])
   (.cond (.t 138) (.seq (.reg 0 [⟨0, some 4, none, .p .mov, [.c (.bool false)]⟩])
   (.ret))
   (.skip))))))))
   (.skip)))
   (.seq (.reg 0 [⟨0, some 139, none, .p .mov, [.t 1]⟩,
    ⟨1, some 140, none, .e .call [] [], [.f 81, .t 139]⟩,
    ⟨2, some 20, none, .p .mov, [.t 140]⟩])
   (.seq (.reg 0 [⟨0, some 142, none, .p .mov, [.t 20]⟩,
    ⟨1, some 143, none, .e .call [] [], [.f 80, .t 142]⟩,
    ⟨2, some 141, none, .p .mov, [.t 143]⟩,
    ⟨3, some 144, none, .p (.extract 0), [.t 141]⟩,
    ⟨4, some 145, none, .p (.extract 1), [.t 141]⟩,
    ⟨5, some 21, none, .p .mov, [.t 144]⟩,
    ⟨6, some 22, none, .p .mov, [.t 145]⟩])
   (.seq (.reg 0 [⟨0, some 147, none, .p .mov, [.t 20]⟩,
    ⟨1, some 148, none, .e .call [] [], [.f 82, .t 147]⟩,
    ⟨2, some 146, none, .p .mov, [.t 148]⟩,
    ⟨3, some 149, none, .p (.extract 0), [.t 146]⟩,
    ⟨4, some 150, none, .p (.extract 1), [.t 146]⟩,
    ⟨5, some 23, none, .p .mov, [.t 149]⟩,
    ⟨6, some 24, none, .p .mov, [.t 150]⟩])
   (.seq (.reg 0 [⟨0, some 152, none, .p .mov, [.t 1]⟩,
    ⟨1, some 153, none, .e .call [] [], [.f 83, .t 152]⟩,
    ⟨2, some 151, none, .p .mov, [.t 153]⟩,
    ⟨3, some 154, none, .p (.extract 0), [.t 151]⟩,
    ⟨4, some 155, none, .p (.extract 1), [.t 151]⟩,
    ⟨5, some 156, none, .p (.extract 2), [.t 151]⟩,
    ⟨6, some 27, none, .l (.alloc 27 [.bool false, .int .i64 0]), []⟩,
    ⟨7, some 25, none, .p .mov, [.t 154]⟩,
    ⟨8, some 26, none, .p .mov, [.t 155]⟩,
    ⟨9, none, none, .l (.store 27 2), [.t 27, .t 156]⟩])
   (.seq (.reg 0 [⟨0, some 158, none, .p .mov, [.t 25]⟩,
    ⟨1, some 159, none, .p .mov, [.t 26]⟩,
    ⟨2, some 160, none, .l (.load 27 true 2), [.t 27]⟩,
    ⟨3, some 161, none, .e .call [] [], [.f 84, .t 158, .t 159, .t 160]⟩,
    ⟨4, some 157, none, .p .mov, [.t 161]⟩,
    ⟨5, some 162, none, .p (.extract 0), [.t 157]⟩,
    ⟨6, some 163, none, .p (.extract 1), [.t 157]⟩,
    ⟨7, some 28, none, .p .mov, [.t 162]⟩,
    ⟨8, some 29, none, .p .mov, [.t 163]⟩])
   (.seq (.reg 0 [⟨0, some 165, none, .p .mov, [.t 25]⟩,
    ⟨1, some 166, none, .p .mov, [.t 26]⟩,
    ⟨2, some 167, none, .l (.load 27 true 2), [.t 27]⟩,
    ⟨3, some 168, none, .e .call [] [], [.f 85, .t 165, .t 166, .t 167]⟩,
    ⟨4, some 164, none, .p .mov, [.t 168]⟩,
    ⟨5, some 169, none, .p (.extract 0), [.t 164]⟩,
    ⟨6, some 170, none, .p (.extract 1), [.t 164]⟩,
    ⟨7, some 30, none, .p .mov, [.t 169]⟩,
    ⟨8, some 31, none, .p .mov, [.t 170]⟩])
   (.seq (.seq (.reg 0 [⟨0, some 171, none, .p .mov, [.t 22]⟩,
    ⟨1, some 172, none, .p .mov, [.t 24]⟩,
    ⟨2, some 173, none, .p (.eqB true), [.t 171, .t 172]⟩,
    ⟨3, some 174, none, .p .mov, [.t 173]⟩,
    ⟨4, some 175, some (174, false), .p .mov, [.t 21]⟩,
    ⟨5, some 176, some (174, false), .p .len, [.t 175]⟩,
    ⟨6, some 177, some (174, false), .p .mov, [.t 23]⟩,
    ⟨7, some 178, some (174, false), .p .len, [.t 177]⟩,
    ⟨8, some 179, some (174, false), .p (.bin .neq), [.t 176, .t 178]⟩,
    ⟨9, some 180, none, .p .pick, [.t 174, .c (.bool true), .t 179]⟩,
    ⟨10, some 181, none, .p .mov, [.t 180]⟩,
    ⟨11, some 182, some (181, false), .p .mov, [.t 29]⟩,
    ⟨12, some 183, some (181, false), .p .mov, [.t 31]⟩,
    ⟨13, some 184, some (181, false), .p (.eqB true), [.t 182, .t 183]⟩,
    ⟨14, some 185, none, .p .pick, [.t 181, .c (.bool true), .t 184]⟩,
    ⟨15, some 186, none, .p .mov, [.t 185]⟩,
    ⟨16, some 187, some (186, false), .p .mov, [.t 28]⟩,
    ⟨17, some 188, some (186, false), .p .mov, [.t 30]⟩,
    ⟨18, some 189, some (186, false), .p (.bin .neq), [.t 187, .t 188]⟩,
    ⟨19, some 190, none, .p .pick, [.t 186, .c (.bool true), .t 189]⟩])
   (.cond (.t 190) (.seq (.reg 0 [⟨0, some 4, none, .p .mov, [.c (.bool false)]⟩])
   (.ret))
   (.skip)))
   (.seq (.seq (.reg 0 [⟨0, some 191, none, .p .mov, [.t 21]⟩,
    ⟨1, some 192, none, .p .len, [.t 191]⟩,
    ⟨2, some 193, none, .p .mov, [.c (.int .i64 0)]⟩])
   (.block 4 (.loop g76_2)))
   (.seq (.reg 0 [⟨0, some 4, none, .p .mov, [.c (.bool true)]⟩])
   (.ret)))))))))))))))),
  [.tmp 4]⟩
/- loop.example/g00641/spec.DrawByGroup -/
def g77 : GL.Fn := ⟨.seq (.reg 0 [⟨0, some 2, none, .p .mov, [.c (.nils)]⟩,
    ⟨1, some 3, none, .p .mov, [.c (.int .i64 0)]⟩,
    ⟨2, some 4, none, .p .mov, [.c (.int .i64 0)]⟩])
   (.seq (.reg 0 [⟨0, some 6, none, .p .mov, [.t 0]⟩,
    ⟨1, some 7, none, .p (.build [.nils, .int .i64 0, .int .u64 0] [(0, 1)]), [.t 6]⟩,
    ⟨2, some 8, none, .e (.new (.box 3)) [] [], [.t 7]⟩,
    ⟨3, some 5, none, .p .mov, [.t 8]⟩])
   (.seq (.reg 0 [⟨0, some 9, none, .p .mov, [.t 5]⟩,
    ⟨1, some 10, none, .e .call [] [], [.f 124, .t 9]⟩,
    ⟨2, some 11, none, .p .mov, [.t 5]⟩,
    ⟨3, some 12, none, .e .call [] [], [.f 91, .t 11, .c (.int .i64 4)]⟩,
    ⟨4, some 13, none, .p .mov, [.t 5]⟩,
    ⟨5, some 14, none, .e .call [] [], [.f 91, .t 13, .c (.int .i64 9)]⟩,
    ⟨6, some 15, none, .p (.bin .quo), [.t 14, .c (.int .i64 8)]⟩,
    ⟨7, some 16, none, .p (.bin .sub), [.t 12, .t 15]⟩,
    ⟨8, some 17, none, .p .mov, [.t 5]⟩,
    ⟨9, some 18, none, .e .call [] [], [.f 91, .t 17, .c (.int .i64 4)]⟩,
    ⟨10, some 2, none, .p .mov, [.t 10]⟩,
    ⟨11, some 3, none, .p .mov, [.t 16]⟩,
    ⟨12, some 4, none, .p .mov, [.t 18]⟩])
   (.ret))),
  [.tmp 2, .tmp 3, .tmp 4]⟩
/- loop.example/g00641/impl.ByGroup -/
def g78_0 : GL.Code := .seq (.reg 0 [⟨0, some 33, none, .p (.bin .lss), [.t 32, .t 31]⟩])
   (.seq (.cond (.t 33) (.skip)
   (.exit 0))
   (.seq (.block 1 (.seq (.reg 0 [⟨0, some 34, none, .p .mov, [.t 32]⟩,
    ⟨1, some 35, none, .p (.idx 2), [.t 30, .t 32]⟩,
    ⟨2, some 36, none, .r (.load true 2) false, [.t 35]⟩,
    ⟨3, some 10, none, .e (.new (.alloc [.bool false, .int .i64 0])) [] [], []⟩,
    ⟨4, some 9, none, .p .mov, [.t 34]⟩,
    ⟨5, none, none, .e (.store 2) [] [], [.t 10, .t 36]⟩])
   (.seq (.reg 0 [⟨0, some 37, none, .p .mov, [.t 0]⟩,
    ⟨1, some 38, none, .e .call [] [], [.f 137, .t 37]⟩,
    ⟨2, some 39, none, .p (.mkFn 138), [.t 4, .t 10]⟩,
    ⟨3, some 40, none, .e .call [] [], [.f 133, .t 38, .t 39]⟩,
    ⟨4, some 11, none, .p .mov, [.t 40]⟩])
   (.seq (.reg 0 [⟨0, some 41, none, .p .mov, [.t 11]⟩,
    ⟨1, some 42, none, .p .mov, [.t 2]⟩,
    ⟨2, some 43, none, .e .call [] [], [.f 135, .t 41, .t 42]⟩,
    ⟨3, some 44, none, .e .call [] [], [.f 103, .t 43]⟩,
    ⟨4, some 45, none, .p (.field false 2 1), [.t 44]⟩,
    ⟨5, some 46, none, .p (.build [.bool false, .int .i64 0] [(1, 1)]), [.t 45]⟩,
    ⟨6, some 12, none, .l (.alloc 12 [.bool false, .int .i64 0]), []⟩,
    ⟨7, none, none, .l (.store 12 2), [.t 12, .t 46]⟩])
   (.seq (.seq (.reg 0 [⟨0, some 47, none, .p (.faddr 1), [.t 12]⟩,
    ⟨1, some 48, none, .l (.load 12 false 1), [.t 47]⟩,
    ⟨2, some 49, none, .e .call [] [], [.f 100, .t 48]⟩,
    ⟨3, some 50, none, .p (.un .not), [.t 49]⟩])
   (.cond (.t 50) (.reg 0 [⟨0, some 51, none, .p (.build [.bool false, .int .i64 0] [(0, 1)]), [.c (.bool true)]⟩,
    ⟨1, none, none, .l (.store 12 2), [.t 12, .t 51]⟩])
   (.skip)))
   (.reg 0 [⟨0, some 52, none, .p .mov, [.t 8]⟩,
    ⟨1, some 53, none, .p .mov, [.t 9]⟩,
    ⟨2, some 54, none, .r (.load true 2) false, [.t 10]⟩,
    ⟨3, some 55, none, .p .mov, [.t 11]⟩,
    ⟨4, some 56, none, .p .len, [.t 55]⟩,
    ⟨5, some 57, none, .p (.build [.bool false, .int .i64 0] [(1, 1)]), [.t 56]⟩,
    ⟨6, some 58, none, .l (.load 12 true 2), [.t 12]⟩,
    ⟨7, some 59, none, .e (.new (.lit 2)) [] [], [.t 54, .t 57, .t 58]⟩,
    ⟨8, some 60, none, .p (.build [.int .i64 0, .nils] [(0, 1), (1, 1)]), [.t 53, .t 59]⟩,
    ⟨9, some 61, none, .e (.new (.lit 2)) [] [], [.t 60]⟩,
    ⟨10, some 62, none, .e (.append 2 32) [] [], [.t 52, .t 61]⟩,
    ⟨11, some 8, none, .p .mov, [.t 62]⟩]))))))
   (.reg 0 [⟨0, some 63, none, .p (.bin .add), [.t 32, .c (.int .i64 1)]⟩,
    ⟨1, some 32, none, .p .mov, [.t 63]⟩])))
def g78 : GL.Fn := ⟨.seq (.reg 0 [⟨0, some 4, none, .e (.new (.box 1)) [] [], [.t 1]⟩,
    ⟨1, some 6, none, .p .mov, [.c (.nils)]⟩,
    ⟨2, some 7, none, .p .mov, [.c (.bool false)]⟩])
   (.seq (.seq (.reg 0 [⟨0, some 13, none, .p .mov, [.t 0]⟩,
    ⟨1, some 14, none, .e .call [] [], [.f 62, .t 13]⟩,
    ⟨2, some 15, none, .p (.un .not), [.t 14]⟩,
    ⟨3, some 16, none, .p .mov, [.t 15]⟩,
    ⟨4, some 17, some (16, false), .r (.load false 1) false, [.t 4]⟩,
    ⟨5, some 18, some (16, false), .e .call [] [], [.f 107, .t 17, .c (.int .i64 0), .c (.int .i64 2)]⟩,
    ⟨6, some 19, some (16, false), .p (.un .not), [.t 18]⟩,
    ⟨7, some 20, none, .p .pick, [.t 16, .c (.bool true), .t 19]⟩,
    ⟨8, some 21, none, .p .mov, [.t 20]⟩,
    ⟨9, some 22, some (21, false), .p .mov, [.t 2]⟩,
    ⟨10, some 23, some (21, false), .e .call [] [], [.f 107, .t 22, .c (.int .i64 0), .c (.int .i64 2)]⟩,
    ⟨11, some 24, some (21, false), .p (.un .not), [.t 23]⟩,
    ⟨12, some 25, none, .p .pick, [.t 21, .c (.bool true), .t 24]⟩])
   (.cond (.t 25) (.seq (.reg 0 [⟨0, some 6, none, .p .mov, [.c (.nils)]⟩,
    ⟨1, some 7, none, .p .mov, [.c (.bool false)]⟩])
   (.ret))
   (.skip)))
   (.seq (.reg 0 [⟨0, some 26, none, .e (.new (.lit 2)) [] [], []⟩,
    ⟨1, some 8, none, .p .mov, [.t 26]⟩])
   (.seq (.seq (.reg 0 [⟨0, some 27, none, .p .mov, [.t 0]⟩,
    ⟨1, some 28, none, .r (.load false 1) false, [.t 4]⟩,
    ⟨2, some 29, none, .e .call [] [], [.f 135, .t 27, .t 28]⟩,
    ⟨3, some 30, none, .e .call [] [], [.f 136, .t 29]⟩,
    ⟨4, some 31, none, .p .len, [.t 30]⟩,
    ⟨5, some 32, none, .p .mov, [.c (.int .i64 0)]⟩])
   (.block 0 (.loop g78_0)))
   (.seq (.reg 0 [⟨0, some 64, none, .p .mov, [.t 8]⟩,
    ⟨1, some 6, none, .p .mov, [.t 64]⟩,
    ⟨2, some 7, none, .p .mov, [.c (.bool true)]⟩])
   (.ret))))),
  [.tmp 6, .tmp 7]⟩
/- loop.example/g00641/spec.ByGroup -/
def g79_0 : GL.Code := .seq (.reg 0 [⟨0, some 34, none, .p (.bin .lss), [.t 33, .t 32]⟩])
   (.seq (.cond (.t 34) (.skip)
   (.exit 0))
   (.seq (.block 1 (.seq (.reg 0 [⟨0, some 35, none, .p (.idx 2), [.t 31, .t 33]⟩,
    ⟨1, some 36, none, .r (.load true 2) false, [.t 35]⟩,
    ⟨2, some 10, none, .l (.alloc 10 [.int .i64 0, .nils]), []⟩,
    ⟨3, none, none, .l (.store 10 2), [.t 10, .t 36]⟩])
   (.reg 0 [⟨0, some 37, none, .p .mov, [.t 8]⟩,
    ⟨1, some 38, none, .p (.faddr 1), [.t 10]⟩,
    ⟨2, some 39, none, .l (.load 10 false 1), [.t 38]⟩,
    ⟨3, some 40, none, .p .mov, [.t 1]⟩,
    ⟨4, some 41, none, .p (.idx 2), [.t 39, .t 40]⟩,
    ⟨5, some 42, none, .r (.load true 2) false, [.t 41]⟩,
    ⟨6, some 43, none, .e (.new (.lit 2)) [] [], [.t 42]⟩,
    ⟨7, some 44, none, .e (.append 2 16) [] [], [.t 37, .t 43]⟩,
    ⟨8, some 8, none, .p .mov, [.t 44]⟩])))
   (.reg 0 [⟨0, some 45, none, .p (.bin .add), [.t 33, .c (.int .i64 1)]⟩,
    ⟨1, some 33, none, .p .mov, [.t 45]⟩])))
def g79_1 : GL.Code := .seq (.reg 0 [⟨0, some 58, none, .p (.bin .lss), [.t 57, .t 56]⟩])
   (.seq (.cond (.t 58) (.skip)
   (.exit 4))
   (.seq (.block 5 (.seq (.reg 0 [⟨0, some 59, none, .p (.idx 2), [.t 55, .t 57]⟩,
    ⟨1, some 60, none, .r (.load true 2) false, [.t 59]⟩,
    ⟨2, some 16, none, .l (.alloc 16 [.int .i64 0, .nils]), []⟩,
    ⟨3, none, none, .l (.store 16 2), [.t 16, .t 60]⟩])
   (.seq (.reg 0 [⟨0, some 61, none, .p (.faddr 1), [.t 16]⟩,
    ⟨1, some 62, none, .l (.load 16 false 1), [.t 61]⟩,
    ⟨2, some 63, none, .p .mov, [.t 1]⟩,
    ⟨3, some 64, none, .p (.idx 2), [.t 62, .t 63]⟩,
    ⟨4, some 65, none, .r (.load true 2) false, [.t 64]⟩,
    ⟨5, some 66, none, .l (.load 13 true 2), [.t 13]⟩,
    ⟨6, some 67, none, .p (.eqAgg false [none, some .i64]), [.t 65, .t 66]⟩])
   (.cond (.t 67) (.reg 0 [⟨0, some 68, none, .l (.load 14 true 7), [.t 14]⟩,
    ⟨1, some 69, none, .p (.faddr 1), [.t 16]⟩,
    ⟨2, some 70, none, .l (.load 16 false 1), [.t 69]⟩,
    ⟨3, some 71, none, .p .mov, [.t 2]⟩,
    ⟨4, some 72, none, .p (.idx 2), [.t 70, .t 71]⟩,
    ⟨5, some 73, none, .r (.load true 2) false, [.t 72]⟩,
    ⟨6, some 74, none, .e .call [] [], [.f 106, .t 68, .t 73]⟩,
    ⟨7, none, none, .l (.store 14 7), [.t 14, .t 74]⟩])
   (.skip)))))
   (.reg 0 [⟨0, some 75, none, .p (.bin .add), [.t 57, .c (.int .i64 1)]⟩,
    ⟨1, some 57, none, .p .mov, [.t 75]⟩])))
def g79_2 : GL.Code := .seq (.reg 0 [⟨0, some 50, none, .p (.bin .lss), [.t 49, .t 48]⟩])
   (.seq (.cond (.t 50) (.skip)
   (.exit 2))
   (.seq (.block 3 (.seq (.reg 0 [⟨0, some 51, none, .p .mov, [.t 49]⟩,
    ⟨1, some 52, none, .p (.idx 2), [.t 47, .t 49]⟩,
    ⟨2, some 53, none, .r (.load true 2) false, [.t 52]⟩,
    ⟨3, some 13, none, .l (.alloc 13 [.bool false, .int .i64 0]), []⟩,
    ⟨4, some 12, none, .p .mov, [.t 51]⟩,
    ⟨5, none, none, .l (.store 13 2), [.t 13, .t 53]⟩])
   (.seq (.reg 0 [⟨0, some 54, none, .e .call [] [], [.f 105]⟩,
    ⟨1, some 14, none, .l (.alloc 14 [.int .i64 0, .int .i64 0, .int .i64 0, .bool false, .int .i64 0, .bool false, .int .i64 0]), []⟩,
    ⟨2, none, none, .l (.store 14 7), [.t 14, .t 54]⟩])
   (.seq (.seq (.reg 0 [⟨0, some 55, none, .p .mov, [.t 0]⟩,
    ⟨1, some 56, none, .p .len, [.t 55]⟩,
    ⟨2, some 57, none, .p .mov, [.c (.int .i64 0)]⟩])
   (.block 4 (.loop g79_1)))
   (.seq (.reg 0 [⟨0, some 76, none, .p (.faddr 2), [.t 14]⟩,
    ⟨1, some 77, none, .l (.load 14 false 1), [.t 76]⟩,
    ⟨2, some 78, none, .p (.build [.bool false, .int .i64 0] [(1, 1)]), [.t 77]⟩,
    ⟨3, some 17, none, .l (.alloc 17 [.bool false, .int .i64 0]), []⟩,
    ⟨4, none, none, .l (.store 17 2), [.t 17, .t 78]⟩])
   (.seq (.seq (.reg 0 [⟨0, some 79, none, .l (.load 17 true 2), [.t 17]⟩,
    ⟨1, some 80, none, .e .call [] [], [.f 26, .t 79]⟩,
    ⟨2, some 81, none, .p (.un .not), [.t 80]⟩])
   (.cond (.t 81) (.reg 0 [⟨0, some 82, none, .p (.build [.bool false, .int .i64 0] [(0, 1)]), [.c (.bool true)]⟩,
    ⟨1, none, none, .l (.store 17 2), [.t 17, .t 82]⟩])
   (.skip)))
   (.reg 0 [⟨0, some 83, none, .p .mov, [.t 11]⟩,
    ⟨1, some 84, none, .p .mov, [.t 12]⟩,
    ⟨2, some 85, none, .l (.load 13 true 2), [.t 13]⟩,
    ⟨3, some 86, none, .p (.faddr 0), [.t 14]⟩,
    ⟨4, some 87, none, .l (.load 14 false 1), [.t 86]⟩,
    ⟨5, some 88, none, .p (.build [.bool false, .int .i64 0] [(1, 1)]), [.t 87]⟩,
    ⟨6, some 89, none, .l (.load 17 true 2), [.t 17]⟩,
    ⟨7, some 90, none, .e (.new (.lit 2)) [] [], [.t 85, .t 88, .t 89]⟩,
    ⟨8, some 91, none, .p (.build [.int .i64 0, .nils] [(0, 1), (1, 1)]), [.t 84, .t 90]⟩,
    ⟨9, some 92, none, .e (.new (.lit 2)) [] [], [.t 91]⟩,
    ⟨10, some 93, none, .e (.append 2 32) [] [], [.t 83, .t 92]⟩,
    ⟨11, some 11, none, .p .mov, [.t 93]⟩])))))))
   (.reg 0 [⟨0, some 94, none, .p (.bin .add), [.t 49, .c (.int .i64 1)]⟩,
    ⟨1, some 49, none, .p .mov, [.t 94]⟩])))
def g79 : GL.Fn := ⟨.seq (.reg 0 [⟨0, some 6, none, .p .mov, [.c (.nils)]⟩,
    ⟨1, some 7, none, .p .mov, [.c (.bool false)]⟩])
   (.seq (.seq (.reg 0 [⟨0, some 18, none, .p .mov, [.t 0]⟩,
    ⟨1, some 19, none, .e .call [] [], [.f 63, .t 18]⟩,
    ⟨2, some 20, none, .p (.un .not), [.t 19]⟩,
    ⟨3, some 21, none, .p .mov, [.t 20]⟩,
    ⟨4, some 22, some (21, false), .p .mov, [.t 1]⟩,
    ⟨5, some 23, some (21, false), .e .call [] [], [.f 98, .t 22, .c (.int .i64 0), .c (.int .i64 2)]⟩,
    ⟨6, some 24, some (21, false), .p (.un .not), [.t 23]⟩,
    ⟨7, some 25, none, .p .pick, [.t 21, .c (.bool true), .t 24]⟩,
    ⟨8, some 26, none, .p .mov, [.t 25]⟩,
    ⟨9, some 27, some (26, false), .p .mov, [.t 2]⟩,
    ⟨10, some 28, some (26, false), .e .call [] [], [.f 98, .t 27, .c (.int .i64 0), .c (.int .i64 2)]⟩,
    ⟨11, some 29, some (26, false), .p (.un .not), [.t 28]⟩,
    ⟨12, some 30, none, .p .pick, [.t 26, .c (.bool true), .t 29]⟩])
   (.cond (.t 30) (.seq (.reg 0 [⟨0, some 6, none, .p .mov, [.c (.nils)]⟩,
    ⟨1, some 7, none, .p .mov, [.c (.bool false)]⟩])
   (.ret))
   (.skip)))
   (.seq (.reg 0 [⟨0, some 8, none, .p .mov, [.c (.nils)]⟩])
   (.seq (.seq (.reg 0 [⟨0, some 31, none, .p .mov, [.t 0]⟩,
    ⟨1, some 32, none, .p .len, [.t 31]⟩,
    ⟨2, some 33, none, .p .mov, [.c (.int .i64 0)]⟩])
   (.block 0 (.loop g79_0)))
   (.seq (.reg 0 [⟨0, some 11, none, .p .mov, [.c (.nils)]⟩])
   (.seq (.seq (.reg 0 [⟨0, some 46, none, .p .mov, [.t 8]⟩,
    ⟨1, some 47, none, .e .call [] [], [.f 139, .t 46]⟩,
    ⟨2, some 48, none, .p .len, [.t 47]⟩,
    ⟨3, some 49, none, .p .mov, [.c (.int .i64 0)]⟩])
   (.block 2 (.loop g79_2)))
   (.seq (.reg 0 [⟨0, some 95, none, .p .mov, [.t 11]⟩,
    ⟨1, some 6, none, .p .mov, [.t 95]⟩,
    ⟨2, some 7, none, .p .mov, [.c (.bool true)]⟩])
   (.ret))))))),
  [.tmp 6, .tmp 7]⟩
/- loop.example/g00641/laws.sameTable -/
def g61_0 : GL.Code := .seq (.reg 0 [⟨0, some 14, none, .p (.bin .lss), [.t 13, .t 12]⟩])
   (.seq (.cond (.t 14) (.skip)
   (.exit 0))
   (.seq (.block 1 (.seq (.reg 0 [⟨0, some 15, none, .p .mov, [.t 13]⟩,
    ⟨1, some 5, none, .p .mov, [.t 15]⟩])
   (.seq (.reg 0 [⟨0, some 16, none, .p .mov, [.t 0]⟩,
    ⟨1, some 17, none, .p .mov, [.t 5]⟩,
    ⟨2, some 18, none, .p (.idx 2), [.t 16, .t 17]⟩,
    ⟨3, some 19, none, .r (.load true 2) false, [.t 18]⟩,
    ⟨4, some 20, none, .p .mov, [.t 1]⟩,
    ⟨5, some 21, none, .p .mov, [.t 5]⟩,
    ⟨6, some 22, none, .p (.idx 2), [.t 20, .t 21]⟩,
    ⟨7, some 23, none, .r (.load true 2) false, [.t 22]⟩,
    ⟨8, some 24, none, .e .call [] [], [.f 65, .t 19, .t 23]⟩,
    ⟨9, some 25, none, .p (.un .not), [.t 24]⟩])
   (.cond (.t 25) (.seq (.reg 0 [⟨0, some 4, none, .p .mov, [.c (.bool false)]⟩])
   (.ret))
   (.skip)))))
   (.reg 0 [⟨0, some 26, none, .p (.bin .add), [.t 13, .c (.int .i64 1)]⟩,
    ⟨1, some 13, none, .p .mov, [.t 26]⟩])))
def g61 : GL.Fn := ⟨.seq (.reg 0 [⟨0, some 4, none, .p .mov, [.c (.bool false)]⟩])
   (.seq (.seq (.reg 0 [⟨0, some 6, none, .p .mov, [.t 0]⟩,
    ⟨1, some 7, none, .p .len, [.t 6]⟩,
    ⟨2, some 8, none, .p .mov, [.t 1]⟩,
    ⟨3, some 9, none, .p .len, [.t 8]⟩,
    ⟨4, some 10, none, .p (.bin .neq), [.t 7, .t 9]⟩])
   (.cond (.t 10) (.seq (.reg 0 [⟨0, some 4, none, .p .mov, [.c (.bool false)]⟩])
   (.ret))
   (.skip)))
   (.seq (.seq (.reg 0 [⟨0, some 11, none, .p .mov, [.t 0]⟩,
    ⟨1, some 12, none, .p .len, [.t 11]⟩,
    ⟨2, some 13, none, .p .mov, [.c (.int .i64 0)]⟩])
   (.block 0 (.loop g61_0)))
   (.seq (.reg 0 [⟨0, some 4, none, .p .mov, [.c (.bool true)]⟩])
   (.ret)))),
  [.tmp 4]⟩
/- loop.example/g00641/impl.DistinctOf -/
def g80 : GL.Fn := ⟨.seq (.reg 0 [⟨0, some 2, none, .p .mov, [.c (.nils)]⟩,
    ⟨1, some 3, none, .p .mov, [.c (.bool false)]⟩])
   (.seq (.seq (.reg 0 [⟨0, some 4, none, .p .mov, [.t 0]⟩,
    ⟨1, some 5, none, .p .len, [.t 4]⟩,
    ⟨2, some 6, none, .p (.bin .gtr), [.t 5, .c (.int .i64 40)]⟩,
    ⟨3, some 7, none, .p .mov, [.t 6]⟩,
    ⟨4, some 8, some (7, false), .p .mov, [.t 0]⟩,
    ⟨5, some 9, some (7, false), .e .call [] [], [.f 102, .t 8]⟩,
    ⟨6, some 10, some (7, false), .p (.un .not), [.t 9]⟩,
    ⟨7, some 11, none, .p .pick, [.t 7, .c (.bool true), .t 10]⟩])
   (.cond (.t 11) (.seq (.reg 0 [⟨0, some 2, none, .p .mov, [.c (.nils)]⟩,
    ⟨1, some 3, none, .p .mov, [.c (.bool false)]⟩])
   (.ret))
   (.skip)))
   (.seq (.reg 0 [⟨0, some 12, none, .p .mov, [.t 0]⟩,
    ⟨1, some 13, none, .e .call [] [], [.f 136, .t 12]⟩,
    ⟨2, some 2, none, .p .mov, [.t 13]⟩,
    ⟨3, some 3, none, .p .mov, [.c (.bool true)]⟩])
   (.ret))),
  [.tmp 2, .tmp 3]⟩
/- loop.example/g00641/impl.GoodTable -/
def g62_0 : GL.Code := .seq (.reg 0 [⟨0, some 8, none, .p (.bin .lss), [.t 7, .t 6]⟩])
   (.seq (.cond (.t 8) (.skip)
   (.exit 0))
   (.seq (.block 1 (.seq (.reg 0 [⟨0, some 9, none, .p .mov, [.t 7]⟩,
    ⟨1, some 10, none, .p (.idx 2), [.t 5, .t 7]⟩,
    ⟨2, some 11, none, .r (.load true 2) false, [.t 10]⟩,
    ⟨3, some 4, none, .l (.alloc 4 [.int .i64 0, .nils]), []⟩,
    ⟨4, some 3, none, .p .mov, [.t 9]⟩,
    ⟨5, none, none, .l (.store 4 2), [.t 4, .t 11]⟩])
   (.seq (.reg 0 [⟨0, some 12, none, .l (.load 4 true 2), [.t 4]⟩,
    ⟨1, some 13, none, .e .call [] [], [.f 122, .t 12]⟩,
    ⟨2, some 14, none, .p (.un .not), [.t 13]⟩,
    ⟨3, some 15, none, .p .mov, [.t 14]⟩,
    ⟨4, some 16, some (15, false), .p .mov, [.t 3]⟩,
    ⟨5, some 17, some (15, false), .p (.bin .gtr), [.t 16, .c (.int .i64 0)]⟩,
    ⟨6, some 18, some (15, false), .p .mov, [.t 17]⟩,
    ⟨7, some 19, some (18, true), .p .mov, [.t 0]⟩,
    ⟨8, some 20, some (18, true), .p .mov, [.t 3]⟩,
    ⟨9, some 21, some (18, true), .p (.bin .sub), [.t 20, .c (.int .i64 1)]⟩,
    ⟨10, some 22, some (18, true), .p (.idx 2), [.t 19, .t 21]⟩,
    ⟨11, some 23, some (18, true), .p (.faddr 0), [.t 22]⟩,
    ⟨12, some 24, some (18, true), .r (.load false 1) false, [.t 23]⟩,
    ⟨13, some 25, some (18, true), .p (.faddr 0), [.t 4]⟩,
    ⟨14, some 26, some (18, true), .l (.load 4 false 1), [.t 25]⟩,
    ⟨15, some 27, some (18, true), .p (.bin .geq), [.t 24, .t 26]⟩,
    ⟨16, some 28, some (15, false), .p .pick, [.t 18, .t 27, .c (.bool false)]⟩,
    ⟨17, some 29, none, .p .pick, [.t 15, .c (.bool true), .t 28]⟩])
   (.cond (.t 29) (.seq (.reg 0 [⟨0, some 2, none, .p .mov, [.c (.bool false)]⟩])
   (.ret))
   (.skip)))))
   (.reg 0 [⟨0, some 30, none, .p (.bin .add), [.t 7, .c (.int .i64 1)]⟩,
    ⟨1, some 7, none, .p .mov, [.t 30]⟩])))
def g62 : GL.Fn := ⟨.seq (.reg 0 [⟨0, some 2, none, .p .mov, [.c (.bool false)]⟩])
   (.seq (.seq (.reg 0 [⟨0, some 5, none, .p .mov, [.t 0]⟩,
    ⟨1, some 6, none, .p .len, [.t 5]⟩,
    ⟨2, some 7, none, .p .mov, [.c (.int .i64 0)]⟩])
   (.block 0 (.loop g62_0)))
   (.seq (.reg 0 [⟨0, some 31, none, .p .mov, [.t 0]⟩,
    ⟨1, some 32, none, .p .len, [.t 31]⟩,
    ⟨2, some 33, none, .p (.bin .leq), [.t 32, .c (.int .i64 20)]⟩,
    ⟨3, some 2, none, .p .mov, [.t 33]⟩])
   (.ret))),
  [.tmp 2]⟩
/- loop.example/g00641/spec.DrawDistinctOf -/
def g81 : GL.Fn := ⟨.seq (.reg 0 [⟨0, some 2, none, .p .mov, [.c (.nils)]⟩])
   (.seq (.reg 0 [⟨0, some 3, none, .p .mov, [.t 0]⟩,
    ⟨1, some 4, none, .e .call [] [], [.f 28, .t 3]⟩,
    ⟨2, some 2, none, .p .mov, [.t 4]⟩])
   (.ret)),
  [.tmp 2]⟩
/- loop.example/g00641/spec.DistinctOf -/
def g82 : GL.Fn := ⟨.seq (.reg 0 [⟨0, some 2, none, .p .mov, [.c (.nils)]⟩,
    ⟨1, some 3, none, .p .mov, [.c (.bool false)]⟩])
   (.seq (.seq (.reg 0 [⟨0, some 4, none, .p .mov, [.t 0]⟩,
    ⟨1, some 5, none, .e .call [] [], [.f 104, .t 4]⟩,
    ⟨2, some 6, none, .p (.un .not), [.t 5]⟩])
   (.cond (.t 6) (.seq (.reg 0 [⟨0, some 2, none, .p .mov, [.c (.nils)]⟩,
    ⟨1, some 3, none, .p .mov, [.c (.bool false)]⟩])
   (.ret))
   (.skip)))
   (.seq (.reg 0 [⟨0, some 7, none, .p .mov, [.t 0]⟩,
    ⟨1, some 8, none, .e .call [] [], [.f 139, .t 7]⟩,
    ⟨2, some 2, none, .p .mov, [.t 8]⟩,
    ⟨3, some 3, none, .p .mov, [.c (.bool true)]⟩])
   (.ret))),
  [.tmp 2, .tmp 3]⟩
/- loop.example/g00641/spec.DrawCountWhere -/
def g83 : GL.Fn := ⟨.seq (.reg 0 [⟨0, some 2, none, .p .mov, [.c (.nils)]⟩,
    ⟨1, some 3, none, .p .mov, [.c (.int .i64 0)]⟩,
    ⟨2, some 4, none, .l (.alloc 4 [.bool false, .int .i64 0]), []⟩])
   (.seq (.reg 0 [⟨0, some 6, none, .p .mov, [.t 0]⟩,
    ⟨1, some 7, none, .p (.build [.nils, .int .i64 0, .int .u64 0] [(0, 1)]), [.t 6]⟩,
    ⟨2, some 8, none, .e (.new (.box 3)) [] [], [.t 7]⟩,
    ⟨3, some 5, none, .p .mov, [.t 8]⟩])
   (.seq (.reg 0 [⟨0, some 9, none, .p .mov, [.t 5]⟩,
    ⟨1, some 10, none, .e .call [] [], [.f 101, .t 9]⟩,
    ⟨2, some 11, none, .p .mov, [.t 5]⟩,
    ⟨3, some 12, none, .e .call [] [], [.f 91, .t 11, .c (.int .i64 4)]⟩,
    ⟨4, some 13, none, .p .mov, [.t 5]⟩,
    ⟨5, some 14, none, .e .call [] [], [.f 91, .t 13, .c (.int .i64 9)]⟩,
    ⟨6, some 15, none, .p (.bin .quo), [.t 14, .c (.int .i64 8)]⟩,
    ⟨7, some 16, none, .p (.bin .sub), [.t 12, .t 15]⟩,
    ⟨8, some 17, none, .p .mov, [.t 5]⟩,
    ⟨9, some 18, none, .e .call [] [], [.f 95, .t 17]⟩,
    ⟨10, some 2, none, .p .mov, [.t 10]⟩,
    ⟨11, some 3, none, .p .mov, [.t 16]⟩,
    ⟨12, none, none, .l (.store 4 2), [.t 4, .t 18]⟩])
   (.ret))),
  [.tmp 2, .tmp 3, .cellL 4 4 true 2]⟩
/- loop.example/g00641/impl.CountWhere -/
def g84_0 : GL.Code := .seq (.reg 0 [⟨0, some 32, none, .p (.bin .lss), [.t 31, .t 30]⟩])
   (.seq (.cond (.t 32) (.skip)
   (.exit 0))
   (.seq (.block 1 (.seq (.reg 0 [⟨0, some 33, none, .p (.idx 2), [.t 29, .t 31]⟩,
    ⟨1, some 34, none, .r (.load true 2) false, [.t 33]⟩,
    ⟨2, some 10, none, .l (.alloc 10 [.bool false, .int .i64 0]), []⟩,
    ⟨3, none, none, .l (.store 10 2), [.t 10, .t 34]⟩])
   (.seq (.reg 0 [⟨0, some 35, none, .p .mov, [.t 1]⟩,
    ⟨1, some 36, none, .l (.load 10 true 2), [.t 10]⟩,
    ⟨2, some 37, none, .l (.load 5 true 2), [.t 5]⟩,
    ⟨3, some 38, none, .e .call [] [], [.f 97, .t 35, .t 36, .t 37]⟩,
    ⟨4, some 39, none, .p (.bin .eql), [.t 38, .c (.int .i64 2)]⟩])
   (.cond (.t 39) (.reg 0 [⟨0, some 40, none, .p .mov, [.t 8]⟩,
    ⟨1, some 41, none, .p (.bin .add), [.t 40, .c (.int .i64 1)]⟩,
    ⟨2, some 8, none, .p .mov, [.t 41]⟩])
   (.skip)))))
   (.reg 0 [⟨0, some 42, none, .p (.bin .add), [.t 31, .c (.int .i64 1)]⟩,
    ⟨1, some 31, none, .p .mov, [.t 42]⟩])))
def g84 : GL.Fn := ⟨.seq (.reg 0 [⟨0, some 5, none, .l (.box 5 2), [.t 2]⟩,
    ⟨1, some 6, none, .p .mov, [.c (.int .i64 0)]⟩,
    ⟨2, some 7, none, .p .mov, [.c (.bool false)]⟩])
   (.seq (.seq (.reg 0 [⟨0, some 11, none, .p .mov, [.t 0]⟩,
    ⟨1, some 12, none, .p .len, [.t 11]⟩,
    ⟨2, some 13, none, .p (.bin .gtr), [.t 12, .c (.int .i64 40)]⟩,
    ⟨3, some 14, none, .p .mov, [.t 13]⟩,
    ⟨4, some 15, some (14, false), .p .mov, [.t 0]⟩,
    ⟨5, some 16, some (14, false), .e .call [] [], [.f 102, .t 15]⟩,
    ⟨6, some 17, some (14, false), .p (.un .not), [.t 16]⟩,
    ⟨7, some 18, none, .p .pick, [.t 14, .c (.bool true), .t 17]⟩,
    ⟨8, some 19, none, .p .mov, [.t 18]⟩,
    ⟨9, some 20, some (19, false), .p .mov, [.t 1]⟩,
    ⟨10, some 21, some (19, false), .e .call [] [], [.f 96, .t 20]⟩,
    ⟨11, some 22, some (19, false), .p (.un .not), [.t 21]⟩,
    ⟨12, some 23, none, .p .pick, [.t 19, .c (.bool true), .t 22]⟩,
    ⟨13, some 24, none, .p .mov, [.t 23]⟩,
    ⟨14, some 25, some (24, false), .l (.load 5 true 2), [.t 5]⟩,
    ⟨15, some 26, some (24, false), .e .call [] [], [.f 25, .t 25]⟩,
    ⟨16, some 27, some (24, false), .p (.un .not), [.t 26]⟩,
    ⟨17, some 28, none, .p .pick, [.t 24, .c (.bool true), .t 27]⟩])
   (.cond (.t 28) (.seq (.reg 0 [⟨0, some 6, none, .p .mov, [.c (.int .i64 0)]⟩,
    ⟨1, some 7, none, .p .mov, [.c (.bool false)]⟩])
   (.ret))
   (.skip)))
   (.seq (.reg 0 [⟨0, some 8, none, .p .mov, [.c (.int .i64 0)]⟩])
   (.seq (.seq (.reg 0 [⟨0, some 29, none, .p .mov, [.t 0]⟩,
    ⟨1, some 30, none, .p .len, [.t 29]⟩,
    ⟨2, some 31, none, .p .mov, [.c (.int .i64 0)]⟩])
   (.block 0 (.loop g84_0)))
   (.seq (.reg 0 [⟨0, some 43, none, .p .mov, [.t 8]⟩,
    ⟨1, some 6, none, .p .mov, [.t 43]⟩,
    ⟨2, some 7, none, .p .mov, [.c (.bool true)]⟩])
   (.ret))))),
  [.tmp 6, .tmp 7]⟩
/- loop.example/g00641/spec.CountWhere -/
def g85_0 : GL.Code := .seq (.reg 0 [⟨0, some 27, none, .p (.bin .lss), [.t 26, .t 25]⟩])
   (.seq (.cond (.t 27) (.skip)
   (.exit 0))
   (.seq (.block 1 (.seq (.reg 0 [⟨0, some 28, none, .p (.idx 2), [.t 24, .t 26]⟩,
    ⟨1, some 29, none, .r (.load true 2) false, [.t 28]⟩,
    ⟨2, some 10, none, .l (.alloc 10 [.bool false, .int .i64 0]), []⟩,
    ⟨3, none, none, .l (.store 10 2), [.t 10, .t 29]⟩])
   (.seq (.reg 0 [⟨0, some 30, none, .p .mov, [.t 1]⟩,
    ⟨1, some 31, none, .l (.load 10 true 2), [.t 10]⟩,
    ⟨2, some 32, none, .l (.load 5 true 2), [.t 5]⟩,
    ⟨3, some 33, none, .e .call [] [], [.f 99, .t 30, .t 31, .t 32]⟩,
    ⟨4, some 34, none, .p (.bin .eql), [.t 33, .c (.int .i64 2)]⟩])
   (.cond (.t 34) (.reg 0 [⟨0, some 35, none, .p .mov, [.t 8]⟩,
    ⟨1, some 36, none, .p (.bin .add), [.t 35, .c (.int .i64 1)]⟩,
    ⟨2, some 8, none, .p .mov, [.t 36]⟩])
   (.skip)))))
   (.reg 0 [⟨0, some 37, none, .p (.bin .add), [.t 26, .c (.int .i64 1)]⟩,
    ⟨1, some 26, none, .p .mov, [.t 37]⟩])))
def g85 : GL.Fn := ⟨.seq (.reg 0 [⟨0, some 5, none, .l (.box 5 2), [.t 2]⟩,
    ⟨1, some 6, none, .p .mov, [.c (.int .i64 0)]⟩,
    ⟨2, some 7, none, .p .mov, [.c (.bool false)]⟩])
   (.seq (.seq (.reg 0 [⟨0, some 11, none, .p .mov, [.t 0]⟩,
    ⟨1, some 12, none, .e .call [] [], [.f 104, .t 11]⟩,
    ⟨2, some 13, none, .p (.un .not), [.t 12]⟩,
    ⟨3, some 14, none, .p .mov, [.t 13]⟩,
    ⟨4, some 15, some (14, false), .p .mov, [.t 1]⟩,
    ⟨5, some 16, some (14, false), .e .call [] [], [.f 98, .t 15, .c (.int .i64 0), .c (.int .i64 2)]⟩,
    ⟨6, some 17, some (14, false), .p (.un .not), [.t 16]⟩,
    ⟨7, some 18, none, .p .pick, [.t 14, .c (.bool true), .t 17]⟩,
    ⟨8, some 19, none, .p .mov, [.t 18]⟩,
    ⟨9, some 20, some (19, false), .l (.load 5 true 2), [.t 5]⟩,
    ⟨10, some 21, some (19, false), .e .call [] [], [.f 26, .t 20]⟩,
    ⟨11, some 22, some (19, false), .p (.un .not), [.t 21]⟩,
    ⟨12, some 23, none, .p .pick, [.t 19, .c (.bool true), .t 22]⟩])
   (.cond (.t 23) (.seq (.reg 0 [⟨0, some 6, none, .p .mov, [.c (.int .i64 0)]⟩,
    ⟨1, some 7, none, .p .mov, [.c (.bool false)]⟩])
   (.ret))
   (.skip)))
   (.seq (.reg 0 [⟨0, some 8, none, .p .mov, [.c (.int .i64 0)]⟩])
   (.seq (.seq (.reg 0 [⟨0, some 24, none, .p .mov, [.t 0]⟩,
    ⟨1, some 25, none, .p .len, [.t 24]⟩,
    ⟨2, some 26, none, .p .mov, [.c (.int .i64 0)]⟩])
   (.block 0 (.loop g85_0)))
   (.seq (.reg 0 [⟨0, some 38, none, .p .mov, [.t 8]⟩,
    ⟨1, some 6, none, .p .mov, [.t 38]⟩,
    ⟨2, some 7, none, .p .mov, [.c (.bool true)]⟩])
   (.ret))))),
  [.tmp 6, .tmp 7]⟩
/- loop.example/g00641/spec.PutRow -/
def g55 : GL.Fn := ⟨.seq (.reg 0 [⟨0, some 3, none, .l (.box 3 2), [.t 1]⟩,
    ⟨1, some 4, none, .p .mov, [.c (.nils)]⟩,
    ⟨2, some 5, none, .p .mov, [.c (.bool false)]⟩])
   (.seq (.seq (.reg 0 [⟨0, some 6, none, .p .mov, [.t 0]⟩,
    ⟨1, some 7, none, .e .call [] [], [.f 63, .t 6]⟩,
    ⟨2, some 8, none, .p (.un .not), [.t 7]⟩,
    ⟨3, some 9, none, .p .mov, [.t 8]⟩,
    ⟨4, some 10, some (9, false), .l (.load 3 true 2), [.t 3]⟩,
    ⟨5, some 11, some (9, false), .e .call [] [], [.f 119, .t 10]⟩,
    ⟨6, some 12, some (9, false), .p (.un .not), [.t 11]⟩,
    ⟨7, some 13, none, .p .pick, [.t 9, .c (.bool true), .t 12]⟩])
   (.cond (.t 13) (.seq (.reg 0 [⟨0, some 4, none, .p .mov, [.c (.nils)]⟩,
    ⟨1, some 5, none, .p .mov, [.c (.bool false)]⟩])
   (.ret))
   (.skip)))
   (.seq (.reg 0 [⟨0, some 14, none, .p .mov, [.t 0]⟩,
    ⟨1, some 15, none, .l (.load 3 true 2), [.t 3]⟩,
    ⟨2, some 16, none, .e .call [] [], [.f 120, .t 14, .t 15]⟩,
    ⟨3, some 17, none, .e .call [] [], [.f 112, .t 16]⟩,
    ⟨4, some 18, none, .p (.extract 0), [.t 17]⟩,
    ⟨5, some 19, none, .p (.extract 1), [.t 17]⟩,
    ⟨6, some 4, none, .p .mov, [.t 18]⟩,
    ⟨7, some 5, none, .p .mov, [.t 19]⟩])
   (.ret))),
  [.tmp 4, .tmp 5]⟩
/- loop.example/g00641/spec.GoodTable -/
def g63_0 : GL.Code := .seq (.reg 0 [⟨0, some 8, none, .p (.bin .lss), [.t 7, .t 6]⟩])
   (.seq (.cond (.t 8) (.skip)
   (.exit 0))
   (.seq (.block 1 (.seq (.reg 0 [⟨0, some 9, none, .p .mov, [.t 7]⟩,
    ⟨1, some 10, none, .p (.idx 2), [.t 5, .t 7]⟩,
    ⟨2, some 11, none, .r (.load true 2) false, [.t 10]⟩,
    ⟨3, some 4, none, .l (.alloc 4 [.int .i64 0, .nils]), []⟩,
    ⟨4, some 3, none, .p .mov, [.t 9]⟩,
    ⟨5, none, none, .l (.store 4 2), [.t 4, .t 11]⟩])
   (.seq (.reg 0 [⟨0, some 12, none, .l (.load 4 true 2), [.t 4]⟩,
    ⟨1, some 13, none, .e .call [] [], [.f 119, .t 12]⟩,
    ⟨2, some 14, none, .p (.un .not), [.t 13]⟩,
    ⟨3, some 15, none, .p .mov, [.t 14]⟩,
    ⟨4, some 16, some (15, false), .p .mov, [.t 3]⟩,
    ⟨5, some 17, some (15, false), .p (.bin .gtr), [.t 16, .c (.int .i64 0)]⟩,
    ⟨6, some 18, some (15, false), .p .mov, [.t 17]⟩,
    ⟨7, some 19, some (18, true), .p .mov, [.t 0]⟩,
    ⟨8, some 20, some (18, true), .p .mov, [.t 3]⟩,
    ⟨9, some 21, some (18, true), .p (.bin .sub), [.t 20, .c (.int .i64 1)]⟩,
    ⟨10, some 22, some (18, true), .p (.idx 2), [.t 19, .t 21]⟩,
    ⟨11, some 23, some (18, true), .p (.faddr 0), [.t 22]⟩,
    ⟨12, some 24, some (18, true), .r (.load false 1) false, [.t 23]⟩,
    ⟨13, some 25, some (18, true), .p (.faddr 0), [.t 4]⟩,
    ⟨14, some 26, some (18, true), .l (.load 4 false 1), [.t 25]⟩,
    ⟨15, some 27, some (18, true), .p (.bin .geq), [.t 24, .t 26]⟩,
    ⟨16, some 28, some (15, false), .p .pick, [.t 18, .t 27, .c (.bool false)]⟩,
    ⟨17, some 29, none, .p .pick, [.t 15, .c (.bool true), .t 28]⟩])
   (.cond (.t 29) (.seq (.reg 0 [⟨0, some 2, none, .p .mov, [.c (.bool false)]⟩])
   (.ret))
   (.skip)))))
   (.reg 0 [⟨0, some 30, none, .p (.bin .add), [.t 7, .c (.int .i64 1)]⟩,
    ⟨1, some 7, none, .p .mov, [.t 30]⟩])))
def g63 : GL.Fn := ⟨.seq (.reg 0 [⟨0, some 2, none, .p .mov, [.c (.bool false)]⟩])
   (.seq (.seq (.reg 0 [⟨0, some 5, none, .p .mov, [.t 0]⟩,
    ⟨1, some 6, none, .p .len, [.t 5]⟩,
    ⟨2, some 7, none, .p .mov, [.c (.int .i64 0)]⟩])
   (.block 0 (.loop g63_0)))
   (.seq (.reg 0 [⟨0, some 31, none, .p .mov, [.t 0]⟩,
    ⟨1, some 32, none, .p .len, [.t 31]⟩,
    ⟨2, some 33, none, .p (.bin .leq), [.t 32, .c (.int .i64 20)]⟩,
    ⟨3, some 2, none, .p .mov, [.t 33]⟩])
   (.ret))),
  [.tmp 2]⟩
/- loop.example/g00641/laws.sameRow -/
def g65_0 : GL.Code := .seq (.reg 0 [⟨0, some 24, none, .p (.bin .lss), [.t 23, .t 22]⟩])
   (.seq (.cond (.t 24) (.skip)
   (.exit 0))
   (.seq (.block 1 (.seq (.reg 0 [⟨0, some 25, none, .p .mov, [.t 23]⟩,
    ⟨1, some 5, none, .p .mov, [.t 25]⟩])
   (.seq (.reg 0 [⟨0, some 26, none, .p (.faddr 1), [.t 2]⟩,
    ⟨1, some 27, none, .l (.load 2 false 1), [.t 26]⟩,
    ⟨2, some 28, none, .p .mov, [.t 5]⟩,
    ⟨3, some 29, none, .p (.idx 2), [.t 27, .t 28]⟩,
    ⟨4, some 30, none, .r (.load true 2) false, [.t 29]⟩,
    ⟨5, some 31, none, .p (.faddr 1), [.t 3]⟩,
    ⟨6, some 32, none, .l (.load 3 false 1), [.t 31]⟩,
    ⟨7, some 33, none, .p .mov, [.t 5]⟩,
    ⟨8, some 34, none, .p (.idx 2), [.t 32, .t 33]⟩,
    ⟨9, some 35, none, .r (.load true 2) false, [.t 34]⟩,
    ⟨10, some 36, none, .p (.eqAgg true [none, some .i64]), [.t 30, .t 35]⟩])
   (.cond (.t 36) (.seq (.reg 0 [⟨0, some 4, none, .p .mov, [.c (.bool false)]⟩])
   (.ret))
   (.skip)))))
   (.reg 0 [⟨0, some 37, none, .p (.bin .add), [.t 23, .c (.int .i64 1)]⟩,
    ⟨1, some 23, none, .p .mov, [.t 37]⟩])))
def g65 : GL.Fn := ⟨.seq (.reg 0 [⟨0, some 2, none, .l (.box 2 2), [.t 0]⟩,
    ⟨1, some 3, none, .l (.box 3 2), [.t 1]⟩,
    ⟨2, some 4, none, .p .mov, [.c (.bool false)]⟩])
   (.seq (.seq (.reg 0 [⟨0, some 6, none, .p (.faddr 0), [.t 2]⟩,
    ⟨1, some 7, none, .l (.load 2 false 1), [.t 6]⟩,
    ⟨2, some 8, none, .p (.faddr 0), [.t 3]⟩,
    ⟨3, some 9, none, .l (.load 3 false 1), [.t 8]⟩,
    ⟨4, some 10, none, .p (.bin .neq), [.t 7, .t 9]⟩,
    ⟨5, some 11, none, .p .mov, [.t 10]⟩,
    ⟨6, some 12, some (11, false), .p (.faddr 1), [.t 2]⟩,
    ⟨7, some 13, some (11, false), .l (.load 2 false 1), [.t 12]⟩,
    ⟨8, some 14, some (11, false), .p .len, [.t 13]⟩,
    ⟨9, some 15, some (11, false), .p (.faddr 1), [.t 3]⟩,
    ⟨10, some 16, some (11, false), .l (.load 3 false 1), [.t 15]⟩,
    ⟨11, some 17, some (11, false), .p .len, [.t 16]⟩,
    ⟨12, some 18, some (11, false), .p (.bin .neq), [.t 14, .t 17]⟩,
    ⟨13, some 19, none, .p .pick, [.t 11, .c (.bool true), .t 18]⟩])
   (.cond (.t 19) (.seq (.reg 0 [⟨0, some 4, none, .p .mov, [.c (.bool false)]⟩])
   (.ret))
   (.skip)))
   (.seq (.seq (.reg 0 [⟨0, some 20, none, .p (.faddr 1), [.t 2]⟩,
    ⟨1, some 21, none, .l (.load 2 false 1), [.t 20]⟩,
    ⟨2, some 22, none, .p .len, [.t 21]⟩,
    ⟨3, some 23, none, .p .mov, [.c (.int .i64 0)]⟩])
   (.block 0 (.loop g65_0)))
   (.seq (.reg 0 [⟨0, some 4, none, .p .mov, [.c (.bool true)]⟩])
   (.ret)))),
  [.tmp 4]⟩
/- (*loop.example/g00641/spec.l1Cur).table -/
def g124_0 : GL.Code := .seq (.seq (.reg 0 [⟨0, some 13, none, .p .mov, [.t 5]⟩,
    ⟨1, some 14, none, .p .mov, [.t 4]⟩,
    ⟨2, some 15, none, .p (.bin .lss), [.t 13, .t 14]⟩])
   (.cond (.t 15) (.skip)
   (.exit 0)))
   (.seq (.block 1 (.seq (.reg 0 [⟨0, some 18, none, .p .mov, [.t 0]⟩,
    ⟨1, some 19, none, .e .call [] [], [.f 125, .t 18]⟩,
    ⟨2, some 6, none, .l (.alloc 6 [.int .i64 0, .nils]), []⟩,
    ⟨3, none, none, .l (.store 6 2), [.t 6, .t 19]⟩])
   (.seq (.seq (.reg 0 [⟨0, some 20, none, .p .mov, [.t 4]⟩,
    ⟨1, some 21, none, .p (.bin .eql), [.t 20, .c (.int .i64 20)]⟩])
   (.cond (.t 21) (.reg 0 [⟨0, some 22, none, .p .mov, [.t 5]⟩,
    ⟨1, some 23, none, .p (.faddr 0), [.t 6]⟩,
    ⟨2, none, none, .l (.store 6 1), [.t 23, .t 22]⟩])
   (.skip)))
   (.seq (.reg 0 [⟨0, some 25, none, .p .mov, [.t 3]⟩,
    ⟨1, some 26, none, .l (.load 6 true 2), [.t 6]⟩,
    ⟨2, some 27, none, .e .call [] [], [.f 55, .t 25, .t 26]⟩,
    ⟨3, some 24, none, .p .mov, [.t 27]⟩,
    ⟨4, some 28, none, .p (.extract 0), [.t 24]⟩,
    ⟨5, some 29, none, .p (.extract 1), [.t 24]⟩,
    ⟨6, some 7, none, .p .mov, [.t 28]⟩,
    ⟨7, some 8, none, .p .mov, [.t 29]⟩])
   (.seq (.reg 0 [⟨0, some 30, none, .p .mov, [.t 8]⟩])
   (.cond (.t 30) (.reg 0 [⟨0, some 31, none, .p .mov, [.t 7]⟩,
    ⟨1, some 3, none, .p .mov, [.t 31]⟩])
   (.skip)))))))
   (.reg 0 [⟨0, some 16, none, .p .mov, [.t 5]⟩,
    ⟨1, some 17, none, .p (.bin .add), [.t 16, .c (.int .i64 1)]⟩,
    ⟨2, some 5, none, .p .mov, [.t 17]⟩]))
def g124 : GL.Fn := ⟨.seq (.reg 0 [⟨0, some 2, none, .p .mov, [.c (.nils)]⟩])
   (.seq (.reg 0 [⟨0, some 3, none, .p .mov, [.c (.nils)]⟩])
   (.seq (.reg 0 [⟨0, some 9, none, .p .mov, [.t 0]⟩,
    ⟨1, some 10, none, .e .call [] [], [.f 91, .t 9, .c (.int .i64 7)]⟩,
    ⟨2, some 4, none, .p .mov, [.t 10]⟩])
   (.seq (.seq (.reg 0 [⟨0, some 11, none, .p .mov, [.t 0]⟩,
    ⟨1, some 12, none, .e .call [] [], [.f 92, .t 11, .c (.int .i64 20)]⟩])
   (.cond (.t 12) (.reg 0 [⟨0, some 4, none, .p .mov, [.c (.int .i64 20)]⟩])
   (.skip)))
   (.seq (.seq (.reg 0 [⟨0, some 5, none, .p .mov, [.c (.int .i64 0)]⟩])
   (.block 0 (.loop g124_0)))
   (.seq (.seq (.reg 0 [⟨0, some 32, none, .p .mov, [.t 3]⟩,
    ⟨1, some 33, none, .p .len, [.t 32]⟩,
    ⟨2, some 34, none, .p (.bin .gtr), [.t 33, .c (.int .i64 0)]⟩,
    ⟨3, some 35, none, .p .mov, [.t 34]⟩,
    ⟨4, some 36, some (35, true), .p .mov, [.t 0]⟩,
    ⟨5, some 37, some (35, true), .e .call [] [], [.f 92, .t 36, .c (.int .i64 30)]⟩,
    ⟨6, some 38, none, .p .pick, [.t 35, .t 37, .c (.bool false)]⟩])
   (.cond (.t 38) (.reg 0 [⟨0, some 39, none, .p .mov, [.t 3]⟩,
    ⟨1, some 40, none, .p .mov, [.t 3]⟩,
    ⟨2, some 41, none, .p .len, [.t 40]⟩,
    ⟨3, some 42, none, .p (.bin .sub), [.t 41, .c (.int .i64 1)]⟩,
    ⟨4, some 43, none, .p .mov, [.t 0]⟩,
    ⟨5, some 44, none, .e (.new (.lit 1)) [] [], [.c (.int .i64 0), .c (.int .i64 999), .c (.int .i64 1000)]⟩,
    ⟨6, some 45, none, .e .call [] [], [.f 93, .t 43, .t 44]⟩,
    ⟨7, some 46, none, .p (.idx 2), [.t 39, .t 42]⟩,
    ⟨8, some 47, none, .p (.faddr 0), [.t 46]⟩,
    ⟨9, none, none, .e (.store 1) [] [], [.t 47, .t 45]⟩])
   (.skip)))
   (.seq (.reg 0 [⟨0, some 48, none, .p .mov, [.t 3]⟩,
    ⟨1, some 2, none, .p .mov, [.t 48]⟩])
   (.ret))))))),
  [.tmp 2]⟩
/- (*loop.example/g00641/spec.l1Cur).pick -/
def g91 : GL.Fn := ⟨.seq (.reg 0 [⟨0, some 4, none, .p .mov, [.c (.int .i64 0)]⟩])
   (.seq (.seq (.reg 0 [⟨0, some 6, none, .p .mov, [.t 1]⟩,
    ⟨1, some 7, none, .p (.bin .leq), [.t 6, .c (.int .i64 1)]⟩])
   (.cond (.t 7) (.seq (.reg 0 [⟨0, some 4, none, .p .mov, [.c (.int .i64 0)]⟩])
   (.ret))
   (.skip)))
   (.seq (.reg 0 [⟨0, some 8, none, .p .mov, [.t 0]⟩,
    ⟨1, some 9, none, .e .call [] [], [.f 140, .t 8]⟩,
    ⟨2, some 5, none, .p .mov, [.t 9]⟩])
   (.seq (.seq (.reg 0 [⟨0, some 10, none, .p .mov, [.t 1]⟩,
    ⟨1, some 11, none, .p (.bin .gtr), [.t 10, .c (.int .i64 200)]⟩])
   (.cond (.t 11) (.reg 0 [⟨0, some 12, none, .p .mov, [.t 5]⟩,
    ⟨1, some 13, none, .p (.bin .mul), [.t 12, .c (.int .i64 256)]⟩,
    ⟨2, some 14, none, .p .mov, [.t 0]⟩,
    ⟨3, some 15, none, .e .call [] [], [.f 140, .t 14]⟩,
    ⟨4, some 16, none, .p (.bin .add), [.t 13, .t 15]⟩,
    ⟨5, some 5, none, .p .mov, [.t 16]⟩])
   (.skip)))
   (.seq (.reg 0 [⟨0, some 17, none, .p .mov, [.t 5]⟩,
    ⟨1, some 18, none, .p .mov, [.t 1]⟩,
    ⟨2, some 19, none, .p (.bin .rem), [.t 17, .t 18]⟩,
    ⟨3, some 4, none, .p .mov, [.t 19]⟩])
   (.ret))))),
  [.tmp 4]⟩
/- loop.example/g00641/impl.within -/
def g107 : GL.Fn := ⟨.seq (.reg 0 [⟨0, some 6, none, .p .mov, [.c (.bool false)]⟩])
   (.seq (.reg 0 [⟨0, some 7, none, .p .mov, [.t 0]⟩,
    ⟨1, some 8, none, .p .mov, [.t 1]⟩,
    ⟨2, some 9, none, .p (.bin .geq), [.t 7, .t 8]⟩,
    ⟨3, some 10, none, .p .mov, [.t 9]⟩,
    ⟨4, some 11, some (10, true), .p .mov, [.t 0]⟩,
    ⟨5, some 12, some (10, true), .p .mov, [.t 2]⟩,
    ⟨6, some 13, some (10, true), .p (.bin .leq), [.t 11, .t 12]⟩,
    ⟨7, some 14, none, .p .pick, [.t 10, .t 13, .c (.bool false)]⟩,
    ⟨8, some 6, none, .p .mov, [.t 14]⟩])
   (.ret)),
  [.tmp 6]⟩
/- loop.example/g00641/impl.distinct -/
def g136 : GL.Fn := ⟨.seq (.reg 0 [⟨0, some 2, none, .p .mov, [.c (.nils)]⟩])
   (.seq (.reg 0 [⟨0, some 4, none, .p .mov, [.t 0]⟩,
    ⟨1, some 5, none, .e .call [] [], [.f 149, .t 4]⟩,
    ⟨2, some 3, none, .p .mov, [.t 5]⟩])
   (.seq (.reg 0 [⟨0, some 6, none, .p .mov, [.t 3]⟩,
    ⟨1, some 7, none, .e .call [] [], [.f 151, .t 6, .f 152]⟩])
   (.seq (.reg 0 [⟨0, some 8, none, .p .mov, [.t 3]⟩,
    ⟨1, some 9, none, .e .call [] [], [.f 153, .t 8]⟩,
    ⟨2, some 2, none, .p .mov, [.t 9]⟩])
   (.ret)))),
  [.tmp 2]⟩
/- loop.example/g00641/impl.column -/
def g135_0 : GL.Code := .seq (.reg 0 [⟨0, some 12, none, .p (.bin .lss), [.t 11, .t 10]⟩])
   (.seq (.cond (.t 12) (.skip)
   (.exit 0))
   (.seq (.block 1 (.seq (.reg 0 [⟨0, some 13, none, .p (.idx 2), [.t 9, .t 11]⟩,
    ⟨1, some 14, none, .r (.load true 2) false, [.t 13]⟩,
    ⟨2, some 7, none, .l (.alloc 7 [.int .i64 0, .nils]), []⟩,
    ⟨3, none, none, .l (.store 7 2), [.t 7, .t 14]⟩])
   (.reg 0 [⟨0, some 15, none, .p .mov, [.t 5]⟩,
    ⟨1, some 16, none, .p (.faddr 1), [.t 7]⟩,
    ⟨2, some 17, none, .l (.load 7 false 1), [.t 16]⟩,
    ⟨3, some 18, none, .p .mov, [.t 1]⟩,
    ⟨4, some 19, none, .p (.idx 2), [.t 17, .t 18]⟩,
    ⟨5, some 20, none, .r (.load true 2) false, [.t 19]⟩,
    ⟨6, some 21, none, .e (.new (.lit 2)) [] [], [.t 20]⟩,
    ⟨7, some 22, none, .e (.append 2 16) [] [], [.t 15, .t 21]⟩,
    ⟨8, some 5, none, .p .mov, [.t 22]⟩])))
   (.reg 0 [⟨0, some 23, none, .p (.bin .add), [.t 11, .c (.int .i64 1)]⟩,
    ⟨1, some 11, none, .p .mov, [.t 23]⟩])))
def g135 : GL.Fn := ⟨.seq (.reg 0 [⟨0, some 4, none, .p .mov, [.c (.nils)]⟩])
   (.seq (.reg 0 [⟨0, some 8, none, .e (.new (.lit 2)) [] [], []⟩,
    ⟨1, some 5, none, .p .mov, [.t 8]⟩])
   (.seq (.seq (.reg 0 [⟨0, some 9, none, .p .mov, [.t 0]⟩,
    ⟨1, some 10, none, .p .len, [.t 9]⟩,
    ⟨2, some 11, none, .p .mov, [.c (.int .i64 0)]⟩])
   (.block 0 (.loop g135_0)))
   (.seq (.reg 0 [⟨0, some 24, none, .p .mov, [.t 5]⟩,
    ⟨1, some 4, none, .p .mov, [.t 24]⟩])
   (.ret)))),
  [.tmp 4]⟩
/- slices.DeleteFunc[[]loop.example/g00641/impl.Row,loop.example/g00641/impl.Row] -/
def g133_0 : GL.Code := .seq (.seq (.reg 0 [⟨0, some 16, none, .p .mov, [.t 6]⟩,
    ⟨1, some 17, none, .p .mov, [.t 0]⟩,
    ⟨2, some 18, none, .p .len, [.t 17]⟩,
    ⟨3, some 19, none, .p (.bin .lss), [.t 16, .t 18]⟩])
   (.cond (.t 19) (.skip)
   (.exit 0)))
   (.seq (.block 1 (.seq (.reg 0 [⟨0, some 22, none, .p .mov, [.t 0]⟩,
    ⟨1, some 23, none, .p .mov, [.t 6]⟩,
    ⟨2, some 24, none, .p (.idx 2), [.t 22, .t 23]⟩,
    ⟨3, some 25, none, .r (.load true 2) false, [.t 24]⟩,
    ⟨4, some 7, none, .l (.alloc 7 [.int .i64 0, .nils]), []⟩,
    ⟨5, none, none, .l (.store 7 2), [.t 7, .t 25]⟩])
   (.seq (.reg 0 [⟨0, some 26, none, .p .mov, [.t 1]⟩,
    ⟨1, some 27, none, .l (.load 7 true 2), [.t 7]⟩,
    ⟨2, some 28, none, .e .call [] [], [.t 26, .t 27]⟩,
    ⟨3, some 29, none, .p (.un .not), [.t 28]⟩])
   (.cond (.t 29) (.seq (.reg 0 [⟨0, some 30, none, .p .mov, [.t 0]⟩,
    ⟨1, some 31, none, .p .mov, [.t 5]⟩,
    ⟨2, some 32, none, .l (.load 7 true 2), [.t 7]⟩,
    ⟨3, some 33, none, .p (.idx 2), [.t 30, .t 31]⟩,
    ⟨4, none, none, .e (.store 2) [] [], [.t 33, .t 32]⟩])
   (.reg 0 [⟨0, some 34, none, .p .mov, [.t 5]⟩,
    ⟨1, some 35, none, .p (.bin .add), [.t 34, .c (.int .i64 1)]⟩,
    ⟨2, some 5, none, .p .mov, [.t 35]⟩]))
   (.skip)))))
   (.reg 0 [⟨0, some 20, none, .p .mov, [.t 6]⟩,
    ⟨1, some 21, none, .p (.bin .add), [.t 20, .c (.int .i64 1)]⟩,
    ⟨2, some 6, none, .p .mov, [.t 21]⟩]))
def g133 : GL.Fn := ⟨.seq (.reg 0 [⟨0, some 4, none, .p .mov, [.c (.nils)]⟩])
   (.seq (.reg 0 [⟨0, some 8, none, .p .mov, [.t 0]⟩,
    ⟨1, some 9, none, .p .mov, [.t 1]⟩,
    ⟨2, some 10, none, .e .call [] [], [.f 150, .t 8, .t 9]⟩,
    ⟨3, some 5, none, .p .mov, [.t 10]⟩])
   (.seq (.seq (.reg 0 [⟨0, some 11, none, .p .mov, [.t 5]⟩,
    ⟨1, some 12, none, .p (.bin .eql), [.t 11, .c (.int .i64 (-1))]⟩])
   (.cond (.t 12) (.seq (.reg 0 [⟨0, some 13, none, .p .mov, [.t 0]⟩,
    ⟨1, some 4, none, .p .mov, [.t 13]⟩])
   (.ret))
   (.skip)))
   (.seq (.seq (.reg 0 [⟨0, some 14, none, .p .mov, [.t 5]⟩,
    ⟨1, some 15, none, .p (.bin .add), [.t 14, .c (.int .i64 1)]⟩,
    ⟨2, some 6, none, .p .mov, [.t 15]⟩])
   (.block 0 (.loop g133_0)))
   (.seq (.reg 0 [⟨0, some 36, none, .p .mov, [.t 0]⟩,
    ⟨1, some 37, none, .p .mov, [.t 5]⟩,
    ⟨2, some 38, none, .p (.slice 2 true false false), [.t 36, .t 37]⟩,
    ⟨3, none, none, .e (.clear 2 [.int .i64 0, .nils]) [] [], [.t 38]⟩])
   (.seq (.reg 0 [⟨0, some 39, none, .p .mov, [.t 0]⟩,
    ⟨1, some 40, none, .p .mov, [.t 5]⟩,
    ⟨2, some 41, none, .p (.slice 2 false true false), [.t 39, .t 40]⟩,
    ⟨3, some 4, none, .p .mov, [.t 41]⟩])
   (.ret)))))),
  [.tmp 4]⟩
/- slices.Clone[[]loop.example/g00641/impl.Row,loop.example/g00641/impl.Row] -/
def g137 : GL.Fn := ⟨.seq (.reg 0 [⟨0, some 2, none, .p .mov, [.c (.nils)]⟩])
   (.seq (.seq (.reg 0 [⟨0, some 3, none, .p .mov, [.t 0]⟩,
    ⟨1, some 4, none, .p (.isNil false), [.t 3]⟩])
   (.cond (.t 4) (.seq (.reg 0 [⟨0, some 2, none, .p .mov, [.c (.nils)]⟩])
   (.ret))
   (.skip)))
   (.seq (.reg 0 [⟨0, some 5, none, .e (.new (.lit 2)) [] [], []⟩,
    ⟨1, some 6, none, .p .mov, [.t 0]⟩,
    ⟨2, some 7, none, .e (.append 2 32) [] [], [.t 5, .t 6]⟩,
    ⟨3, some 2, none, .p .mov, [.t 7]⟩])
   (.ret))),
  [.tmp 2]⟩
/- loop.example/g00641/impl.ByGroup$1 -/
def g138 : GL.Fn := ⟨.seq (.reg 0 [⟨0, some 3, none, .l (.box 3 2), [.t 0]⟩,
    ⟨1, some 4, none, .p .mov, [.c (.bool false)]⟩])
   (.seq (.reg 0 [⟨0, some 5, none, .p (.faddr 1), [.t 3]⟩,
    ⟨1, some 6, none, .l (.load 3 false 1), [.t 5]⟩,
    ⟨2, some 7, none, .r (.load false 1) false, [.t 1]⟩,
    ⟨3, some 8, none, .p (.idx 2), [.t 6, .t 7]⟩,
    ⟨4, some 9, none, .r (.load true 2) false, [.t 8]⟩,
    ⟨5, some 10, none, .r (.load true 2) false, [.t 2]⟩,
    ⟨6, some 11, none, .p (.eqAgg true [none, some .i64]), [.t 9, .t 10]⟩,
    ⟨7, some 4, none, .p .mov, [.t 11]⟩])
   (.ret)),
  [.tmp 4]⟩
/- loop.example/g00641/impl.sumOf -/
def g103_0 : GL.Code := .seq (.reg 0 [⟨0, some 14, none, .p (.bin .lss), [.t 13, .t 12]⟩])
   (.seq (.cond (.t 14) (.skip)
   (.exit 0))
   (.seq (.block 1 (.seq (.reg 0 [⟨0, some 15, none, .p (.idx 2), [.t 11, .t 13]⟩,
    ⟨1, some 16, none, .r (.load true 2) false, [.t 15]⟩,
    ⟨2, some 5, none, .l (.alloc 5 [.bool false, .int .i64 0]), []⟩,
    ⟨3, none, none, .l (.store 5 2), [.t 5, .t 16]⟩])
   (.seq (.seq (.reg 0 [⟨0, some 17, none, .p (.faddr 0), [.t 5]⟩,
    ⟨1, some 18, none, .l (.load 5 false 1), [.t 17]⟩])
   (.cond (.t 18) (.exit 1)
   (.skip)))
   (.seq (.seq (.reg 0 [⟨0, some 19, none, .p (.faddr 1), [.t 3]⟩,
    ⟨1, some 20, none, .l (.load 3 false 1), [.t 19]⟩,
    ⟨2, some 21, none, .p (.bin .eql), [.t 20, .c (.int .i64 0)]⟩])
   (.cond (.t 21) (.reg 0 [⟨0, some 22, none, .l (.load 5 true 2), [.t 5]⟩,
    ⟨1, some 23, none, .l (.load 5 true 2), [.t 5]⟩,
    ⟨2, some 24, none, .p (.faddr 3), [.t 3]⟩,
    ⟨3, none, none, .l (.store 3 2), [.t 24, .t 22]⟩,
    ⟨4, some 25, none, .p (.faddr 5), [.t 3]⟩,
    ⟨5, none, none, .l (.store 3 2), [.t 25, .t 23]⟩])
   (.skip)))
   (.seq (.reg 0 [⟨0, some 26, none, .p (.faddr 1), [.t 3]⟩,
    ⟨1, some 27, none, .l (.load 3 false 1), [.t 26]⟩,
    ⟨2, some 28, none, .p (.bin .add), [.t 27, .c (.int .i64 1)]⟩,
    ⟨3, some 29, none, .p (.faddr 1), [.t 3]⟩,
    ⟨4, none, none, .l (.store 3 1), [.t 29, .t 28]⟩])
   (.seq (.reg 0 [⟨0, some 30, none, .p (.faddr 2), [.t 3]⟩,
    ⟨1, some 31, none, .l (.load 3 false 1), [.t 30]⟩,
    ⟨2, some 32, none, .p (.faddr 1), [.t 5]⟩,
    ⟨3, some 33, none, .l (.load 5 false 1), [.t 32]⟩,
    ⟨4, some 34, none, .p (.bin .add), [.t 31, .t 33]⟩,
    ⟨5, some 35, none, .p (.faddr 2), [.t 3]⟩,
    ⟨6, none, none, .l (.store 3 1), [.t 35, .t 34]⟩])
   (.reg 0 [⟨0, some 36, none, .p (.faddr 3), [.t 3]⟩,
    ⟨1, some 37, none, .p (.faddr 1), [.t 36]⟩,
    ⟨2, some 38, none, .l (.load 3 false 1), [.t 37]⟩,
    ⟨3, some 39, none, .p (.faddr 1), [.t 5]⟩,
    ⟨4, some 40, none, .l (.load 5 false 1), [.t 39]⟩,
    ⟨5, some 41, none, .p .min2, [.t 38, .t 40]⟩,
    ⟨6, some 42, none, .p (.faddr 5), [.t 3]⟩,
    ⟨7, some 43, none, .p (.faddr 1), [.t 42]⟩,
    ⟨8, some 44, none, .l (.load 3 false 1), [.t 43]⟩,
    ⟨9, some 45, none, .p (.faddr 1), [.t 5]⟩,
    ⟨10, some 46, none, .l (.load 5 false 1), [.t 45]⟩,
    ⟨11, some 47, none, .p .max2, [.t 44, .t 46]⟩,
    ⟨12, some 48, none, .p (.faddr 3), [.t 3]⟩,
    ⟨13, some 49, none, .p (.faddr 1), [.t 48]⟩,
    ⟨14, none, none, .l (.store 3 1), [.t 49, .t 41]⟩,
    ⟨15, some 50, none, .p (.faddr 5), [.t 3]⟩,
    ⟨16, some 51, none, .p (.faddr 1), [.t 50]⟩,
    ⟨17, none, none, .l (.store 3 1), [.t 51, .t 47]⟩])))))))
   (.reg 0 [⟨0, some 52, none, .p (.bin .add), [.t 13, .c (.int .i64 1)]⟩,
    ⟨1, some 13, none, .p .mov, [.t 52]⟩])))
def g103 : GL.Fn := ⟨.seq (.reg 0 [⟨0, some 2, none, .l (.alloc 2 [.int .i64 0, .int .i64 0, .int .i64 0, .bool false, .int .i64 0, .bool false, .int .i64 0]), []⟩])
   (.seq (.reg 0 [⟨0, some 6, none, .p .mov, [.t 0]⟩,
    ⟨1, some 7, none, .p .len, [.t 6]⟩,
    ⟨2, some 8, none, .p (.build [.bool false, .int .i64 0] [(0, 1)]), [.c (.bool true)]⟩,
    ⟨3, some 9, none, .p (.build [.bool false, .int .i64 0] [(0, 1)]), [.c (.bool true)]⟩,
    ⟨4, some 10, none, .p (.build [.int .i64 0, .int .i64 0, .int .i64 0, .bool false, .int .i64 0, .bool false, .int .i64 0] [(0, 1), (3, 2), (5, 2)]), [.t 7, .t 8, .t 9]⟩,
    ⟨5, some 3, none, .l (.alloc 3 [.int .i64 0, .int .i64 0, .int .i64 0, .bool false, .int .i64 0, .bool false, .int .i64 0]), []⟩,
    ⟨6, none, none, .l (.store 3 7), [.t 3, .t 10]⟩])
   (.seq (.seq (.reg 0 [⟨0, some 11, none, .p .mov, [.t 0]⟩,
    ⟨1, some 12, none, .p .len, [.t 11]⟩,
    ⟨2, some 13, none, .p .mov, [.c (.int .i64 0)]⟩])
   (.block 0 (.loop g103_0)))
   (.seq (.reg 0 [⟨0, some 53, none, .l (.load 3 true 7), [.t 3]⟩,
    ⟨1, none, none, .l (.store 2 7), [.t 2, .t 53]⟩])
   (.ret)))),
  [.cellL 2 2 true 7]⟩
/- loop.example/g00641/impl.isSmall -/
def g100 : GL.Fn := ⟨.seq (.reg 0 [⟨0, some 2, none, .p .mov, [.c (.bool false)]⟩])
   (.seq (.reg 0 [⟨0, some 3, none, .p .mov, [.t 0]⟩,
    ⟨1, some 4, none, .e .call [] [], [.f 107, .t 3, .c (.int .i64 (-1000)), .c (.int .i64 1000)]⟩,
    ⟨2, some 2, none, .p .mov, [.t 4]⟩])
   (.ret)),
  [.tmp 2]⟩
/- loop.example/g00641/spec.l1In -/
def g98 : GL.Fn := ⟨.seq (.reg 0 [⟨0, some 6, none, .p .mov, [.c (.bool false)]⟩])
   (.seq (.reg 0 [⟨0, some 7, none, .p .mov, [.t 0]⟩,
    ⟨1, some 8, none, .p .mov, [.t 1]⟩,
    ⟨2, some 9, none, .p (.bin .geq), [.t 7, .t 8]⟩,
    ⟨3, some 10, none, .p .mov, [.t 9]⟩,
    ⟨4, some 11, some (10, true), .p .mov, [.t 0]⟩,
    ⟨5, some 12, some (10, true), .p .mov, [.t 2]⟩,
    ⟨6, some 13, some (10, true), .p (.bin .leq), [.t 11, .t 12]⟩,
    ⟨7, some 14, none, .p .pick, [.t 10, .t 13, .c (.bool false)]⟩,
    ⟨8, some 6, none, .p .mov, [.t 14]⟩])
   (.ret)),
  [.tmp 6]⟩
/- loop.example/g00641/spec.l4Distinct -/
def g139_0 : GL.Code := .seq (.seq (.reg 0 [⟨0, some 14, none, .p .mov, [.t 6]⟩,
    ⟨1, some 15, none, .p .mov, [.t 3]⟩,
    ⟨2, some 16, none, .p .len, [.t 15]⟩,
    ⟨3, some 17, none, .p (.bin .lss), [.t 14, .t 16]⟩,
    ⟨4, some 18, none, .p .mov, [.t 17]⟩,
    ⟨5, some 19, some (18, true), .p .mov, [.t 3]⟩,
    ⟨6, some 20, some (18, true), .p .mov, [.t 6]⟩,
    ⟨7, some 21, some (18, true), .p (.idx 2), [.t 19, .t 20]⟩,
    ⟨8, some 22, some (18, true), .r (.load true 2) false, [.t 21]⟩,
    ⟨9, some 23, some (18, true), .l (.load 5 true 2), [.t 5]⟩,
    ⟨10, some 24, some (18, true), .p (.eqAgg true [none, some .i64]), [.t 22, .t 23]⟩,
    ⟨11, some 25, none, .p .pick, [.t 18, .t 24, .c (.bool false)]⟩,
    ⟨12, some 26, none, .p .mov, [.t 25]⟩,
    ⟨13, some 27, some (26, true), .p .mov, [.t 3]⟩,
    ⟨14, some 28, some (26, true), .p .mov, [.t 6]⟩,
    ⟨15, some 29, some (26, true), .p (.idx 2), [.t 27, .t 28]⟩,
    ⟨16, some 30, some (26, true), .r (.load true 2) false, [.t 29]⟩,
    ⟨17, some 31, some (26, true), .l (.load 5 true 2), [.t 5]⟩,
    ⟨18, some 32, some (26, true), .e .call [] [], [.f 154, .t 30, .t 31]⟩,
    ⟨19, some 33, none, .p .pick, [.t 26, .t 32, .c (.bool false)]⟩])
   (.cond (.t 33) (.skip)
   (.exit 2)))
   (.block 3 (.reg 0 [⟨0, some 34, none, .p .mov, [.t 6]⟩,
    ⟨1, some 35, none, .p (.bin .add), [.t 34, .c (.int .i64 1)]⟩,
    ⟨2, some 6, none, .p .mov, [.t 35]⟩]))
def g139_1 : GL.Code := .seq (.reg 0 [⟨0, some 11, none, .p (.bin .lss), [.t 10, .t 9]⟩])
   (.seq (.cond (.t 11) (.skip)
   (.exit 0))
   (.seq (.block 1 (.seq (.reg 0 [⟨0, some 12, none, .p (.idx 2), [.t 8, .t 10]⟩,
    ⟨1, some 13, none, .r (.load true 2) false, [.t 12]⟩,
    ⟨2, some 5, none, .l (.alloc 5 [.bool false, .int .i64 0]), []⟩,
    ⟨3, none, none, .l (.store 5 2), [.t 5, .t 13]⟩])
   (.seq (.reg 0 [⟨0, some 6, none, .p .mov, [.c (.int .i64 0)]⟩])
   (.seq (.block 2 (.loop g139_0))
   (.seq (.seq (.reg 0 [⟨0, some 36, none, .p .mov, [.t 6]⟩,
    ⟨1, some 37, none, .p .mov, [.t 3]⟩,
    ⟨2, some 38, none, .p .len, [.t 37]⟩,
    ⟨3, some 39, none, .p (.bin .lss), [.t 36, .t 38]⟩,
    ⟨4, some 40, none, .p .mov, [.t 39]⟩,
    ⟨5, some 41, some (40, true), .p .mov, [.t 3]⟩,
    ⟨6, some 42, some (40, true), .p .mov, [.t 6]⟩,
    ⟨7, some 43, some (40, true), .p (.idx 2), [.t 41, .t 42]⟩,
    ⟨8, some 44, some (40, true), .r (.load true 2) false, [.t 43]⟩,
    ⟨9, some 45, some (40, true), .l (.load 5 true 2), [.t 5]⟩,
    ⟨10, some 46, some (40, true), .p (.eqAgg false [none, some .i64]), [.t 44, .t 45]⟩,
    ⟨11, some 47, none, .p .pick, [.t 40, .t 46, .c (.bool false)]⟩])
   (.cond (.t 47) (.exit 1)
   (.skip)))
   (.seq (.reg 0 [⟨0, some 48, none, .e (.new (.lit 2)) [] [], []⟩,
    ⟨1, some 49, none, .p .mov, [.t 3]⟩,
    ⟨2, some 50, none, .p .mov, [.t 6]⟩,
    ⟨3, some 51, none, .p (.slice 2 false true false), [.t 49, .t 50]⟩,
    ⟨4, some 52, none, .e (.append 2 16) [] [], [.t 48, .t 51]⟩,
    ⟨5, some 7, none, .p .mov, [.t 52]⟩])
   (.seq (.reg 0 [⟨0, some 53, none, .p .mov, [.t 7]⟩,
    ⟨1, some 54, none, .l (.load 5 true 2), [.t 5]⟩,
    ⟨2, some 55, none, .e (.new (.lit 2)) [] [], [.t 54]⟩,
    ⟨3, some 56, none, .e (.append 2 16) [] [], [.t 53, .t 55]⟩,
    ⟨4, some 7, none, .p .mov, [.t 56]⟩])
   (.reg 0 [⟨0, some 57, none, .p .mov, [.t 7]⟩,
    ⟨1, some 58, none, .p .mov, [.t 3]⟩,
    ⟨2, some 59, none, .p .mov, [.t 6]⟩,
    ⟨3, some 60, none, .p (.slice 2 true false false), [.t 58, .t 59]⟩,
    ⟨4, some 61, none, .e (.append 2 16) [] [], [.t 57, .t 60]⟩,
    ⟨5, some 3, none, .p .mov, [.t 61]⟩]))))))))
   (.reg 0 [⟨0, some 62, none, .p (.bin .add), [.t 10, .c (.int .i64 1)]⟩,
    ⟨1, some 10, none, .p .mov, [.t 62]⟩])))
def g139 : GL.Fn := ⟨.seq (.reg 0 [⟨0, some 2, none, .p .mov, [.c (.nils)]⟩])
   (.seq (.reg 0 [⟨0, some 3, none, .p .mov, [.c (.nils)]⟩])
   (.seq (.seq (.reg 0 [⟨0, some 8, none, .p .mov, [.t 0]⟩,
    ⟨1, some 9, none, .p .len, [.t 8]⟩,
    ⟨2, some 10, none, .p .mov, [.c (.int .i64 0)]⟩])
   (.block 0 (.loop g139_1)))
   (.seq (.reg 0 [⟨0, some 63, none, .p .mov, [.t 3]⟩,
    ⟨1, some 2, none, .p .mov, [.t 63]⟩])
   (.ret)))),
  [.tmp 2]⟩
/- loop.example/g00641/spec.l4None -/
def g105 : GL.Fn := ⟨.seq (.reg 0 [⟨0, some 0, none, .l (.alloc 0 [.int .i64 0, .int .i64 0, .int .i64 0, .bool false, .int .i64 0, .bool false, .int .i64 0]), []⟩])
   (.seq (.reg 0 [⟨0, some 1, none, .p (.build [.bool false, .int .i64 0] [(0, 1)]), [.c (.bool true)]⟩,
    ⟨1, some 2, none, .p (.build [.bool false, .int .i64 0] [(0, 1)]), [.c (.bool true)]⟩,
    ⟨2, some 3, none, .p (.build [.int .i64 0, .int .i64 0, .int .i64 0, .bool false, .int .i64 0, .bool false, .int .i64 0] [(3, 2), (5, 2)]), [.t 1, .t 2]⟩,
    ⟨3, none, none, .l (.store 0 7), [.t 0, .t 3]⟩])
   (.ret)),
  [.cellL 0 0 true 7]⟩
/- loop.example/g00641/spec.l4Add -/
def g106 : GL.Fn := ⟨.seq (.reg 0 [⟨0, some 2, none, .l (.box 2 7), [.t 0]⟩,
    ⟨1, some 3, none, .l (.box 3 2), [.t 1]⟩,
    ⟨2, some 4, none, .l (.alloc 4 [.int .i64 0, .int .i64 0, .int .i64 0, .bool false, .int .i64 0, .bool false, .int .i64 0]), []⟩])
   (.seq (.reg 0 [⟨0, some 5, none, .p (.faddr 0), [.t 2]⟩,
    ⟨1, some 6, none, .l (.load 2 false 1), [.t 5]⟩,
    ⟨2, some 7, none, .p (.bin .add), [.t 6, .c (.int .i64 1)]⟩,
    ⟨3, some 8, none, .p (.faddr 0), [.t 2]⟩,
    ⟨4, none, none, .l (.store 2 1), [.t 8, .t 7]⟩])
   (.seq (.seq (.reg 0 [⟨0, some 9, none, .p (.faddr 0), [.t 3]⟩,
    ⟨1, some 10, none, .l (.load 3 false 1), [.t 9]⟩])
   (.cond (.t 10) (.seq (.reg 0 [⟨0, some 11, none, .l (.load 2 true 7), [.t 2]⟩,
    ⟨1, none, none, .l (.store 4 7), [.t 4, .t 11]⟩])
   (.ret))
   (.skip)))
   (.seq (.reg 0 [⟨0, some 12, none, .p (.faddr 1), [.t 2]⟩,
    ⟨1, some 13, none, .l (.load 2 false 1), [.t 12]⟩,
    ⟨2, some 14, none, .p (.bin .add), [.t 13, .c (.int .i64 1)]⟩,
    ⟨3, some 15, none, .p (.faddr 1), [.t 2]⟩,
    ⟨4, none, none, .l (.store 2 1), [.t 15, .t 14]⟩])
   (.seq (.reg 0 [⟨0, some 16, none, .p (.faddr 2), [.t 2]⟩,
    ⟨1, some 17, none, .l (.load 2 false 1), [.t 16]⟩,
    ⟨2, some 18, none, .p (.faddr 1), [.t 3]⟩,
    ⟨3, some 19, none, .l (.load 3 false 1), [.t 18]⟩,
    ⟨4, some 20, none, .p (.bin .add), [.t 17, .t 19]⟩,
    ⟨5, some 21, none, .p (.faddr 2), [.t 2]⟩,
    ⟨6, none, none, .l (.store 2 1), [.t 21, .t 20]⟩])
   (.seq (.seq (.reg 0 [⟨0, some 22, none, .p (.faddr 1), [.t 2]⟩,
    ⟨1, some 23, none, .l (.load 2 false 1), [.t 22]⟩,
    ⟨2, some 24, none, .p (.bin .eql), [.t 23, .c (.int .i64 1)]⟩,
    ⟨3, some 25, none, .p .mov, [.t 24]⟩,
    ⟨4, some 26, some (25, false), .p (.faddr 1), [.t 3]⟩,
    ⟨5, some 27, some (25, false), .l (.load 3 false 1), [.t 26]⟩,
    ⟨6, some 28, some (25, false), .p (.faddr 3), [.t 2]⟩,
    ⟨7, some 29, some (25, false), .p (.faddr 1), [.t 28]⟩,
    ⟨8, some 30, some (25, false), .l (.load 2 false 1), [.t 29]⟩,
    ⟨9, some 31, some (25, false), .p (.bin .lss), [.t 27, .t 30]⟩,
    ⟨10, some 32, none, .p .pick, [.t 25, .c (.bool true), .t 31]⟩])
   (.cond (.t 32) (.reg 0 [⟨0, some 33, none, .l (.load 3 true 2), [.t 3]⟩,
    ⟨1, some 34, none, .p (.faddr 3), [.t 2]⟩,
    ⟨2, none, none, .l (.store 2 2), [.t 34, .t 33]⟩])
   (.skip)))
   (.seq (.seq (.reg 0 [⟨0, some 35, none, .p (.faddr 1), [.t 2]⟩,
    ⟨1, some 36, none, .l (.load 2 false 1), [.t 35]⟩,
    ⟨2, some 37, none, .p (.bin .eql), [.t 36, .c (.int .i64 1)]⟩,
    ⟨3, some 38, none, .p .mov, [.t 37]⟩,
    ⟨4, some 39, some (38, false), .p (.faddr 1), [.t 3]⟩,
    ⟨5, some 40, some (38, false), .l (.load 3 false 1), [.t 39]⟩,
    ⟨6, some 41, some (38, false), .p (.faddr 5), [.t 2]⟩,
    ⟨7, some 42, some (38, false), .p (.faddr 1), [.t 41]⟩,
    ⟨8, some 43, some (38, false), .l (.load 2 false 1), [.t 42]⟩,
    ⟨9, some 44, some (38, false), .p (.bin .gtr), [.t 40, .t 43]⟩,
    ⟨10, some 45, none, .p .pick, [.t 38, .c (.bool true), .t 44]⟩])
   (.cond (.t 45) (.reg 0 [⟨0, some 46, none, .l (.load 3 true 2), [.t 3]⟩,
    ⟨1, some 47, none, .p (.faddr 5), [.t 2]⟩,
    ⟨2, none, none, .l (.store 2 2), [.t 47, .t 46]⟩])
   (.skip)))
   (.seq (.reg 0 [⟨0, some 48, none, .l (.load 2 true 7), [.t 2]⟩,
    ⟨1, none, none, .l (.store 4 7), [.t 4, .t 48]⟩])
   (.ret)))))))),
  [.cellL 4 4 true 7]⟩
/- loop.example/g00641/spec.GoodValue -/
def g26 : GL.Fn := ⟨.seq (.reg 0 [⟨0, some 1, none, .l (.box 1 2), [.t 0]⟩,
    ⟨1, some 2, none, .p .mov, [.c (.bool false)]⟩])
   (.seq (.reg 0 [⟨0, some 3, none, .p (.faddr 1), [.t 1]⟩,
    ⟨1, some 4, none, .l (.load 1 false 1), [.t 3]⟩,
    ⟨2, some 5, none, .e .call [] [], [.f 98, .t 4, .c (.int .i64 (-1000)), .c (.int .i64 1000)]⟩,
    ⟨3, some 6, none, .p .mov, [.t 5]⟩,
    ⟨4, some 7, some (6, true), .p (.faddr 0), [.t 1]⟩,
    ⟨5, some 8, some (6, true), .l (.load 1 false 1), [.t 7]⟩,
    ⟨6, some 9, some (6, true), .p (.un .not), [.t 8]⟩,
    ⟨7, some 10, some (6, true), .p .mov, [.t 9]⟩,
    ⟨8, some 11, some (10, false), .p (.faddr 1), [.t 1]⟩,
    ⟨9, some 12, some (10, false), .l (.load 1 false 1), [.t 11]⟩,
    ⟨10, some 13, some (10, false), .p (.bin .eql), [.t 12, .c (.int .i64 0)]⟩,
    ⟨11, some 14, some (6, true), .p .pick, [.t 10, .c (.bool true), .t 13]⟩,
    ⟨12, some 15, none, .p .pick, [.t 6, .t 14, .c (.bool false)]⟩,
    ⟨13, some 2, none, .p .mov, [.t 15]⟩])
   (.ret)),
  [.tmp 2]⟩
/- loop.example/g00641/impl.areValues -/
def g102_0 : GL.Code := .seq (.reg 0 [⟨0, some 8, none, .p (.bin .lss), [.t 7, .t 6]⟩])
   (.seq (.cond (.t 8) (.skip)
   (.exit 0))
   (.seq (.block 1 (.seq (.reg 0 [⟨0, some 9, none, .p (.idx 2), [.t 5, .t 7]⟩,
    ⟨1, some 10, none, .r (.load true 2) false, [.t 9]⟩,
    ⟨2, some 4, none, .l (.alloc 4 [.bool false, .int .i64 0]), []⟩,
    ⟨3, none, none, .l (.store 4 2), [.t 4, .t 10]⟩])
   (.seq (.reg 0 [⟨0, some 11, none, .l (.load 4 true 2), [.t 4]⟩,
    ⟨1, some 12, none, .e .call [] [], [.f 25, .t 11]⟩,
    ⟨2, some 13, none, .p (.un .not), [.t 12]⟩])
   (.cond (.t 13) (.seq (.reg 0 [⟨0, some 2, none, .p .mov, [.c (.bool false)]⟩])
   (.ret))
   (.skip)))))
   (.reg 0 [⟨0, some 14, none, .p (.bin .add), [.t 7, .c (.int .i64 1)]⟩,
    ⟨1, some 7, none, .p .mov, [.t 14]⟩])))
def g102 : GL.Fn := ⟨.seq (.reg 0 [⟨0, some 2, none, .p .mov, [.c (.bool false)]⟩])
   (.seq (.seq (.reg 0 [⟨0, some 5, none, .p .mov, [.t 0]⟩,
    ⟨1, some 6, none, .p .len, [.t 5]⟩,
    ⟨2, some 7, none, .p .mov, [.c (.int .i64 0)]⟩])
   (.block 0 (.loop g102_0)))
   (.seq (.reg 0 [⟨0, some 2, none, .p .mov, [.c (.bool true)]⟩])
   (.ret))),
  [.tmp 2]⟩
/- loop.example/g00641/impl.isRow -/
def g122 : GL.Fn := ⟨.seq (.reg 0 [⟨0, some 1, none, .l (.box 1 2), [.t 0]⟩,
    ⟨1, some 2, none, .p .mov, [.c (.bool false)]⟩])
   (.seq (.reg 0 [⟨0, some 3, none, .p (.faddr 0), [.t 1]⟩,
    ⟨1, some 4, none, .l (.load 1 false 1), [.t 3]⟩,
    ⟨2, some 5, none, .e .call [] [], [.f 126, .t 4]⟩,
    ⟨3, some 6, none, .p .mov, [.t 5]⟩,
    ⟨4, some 7, some (6, true), .p (.faddr 1), [.t 1]⟩,
    ⟨5, some 8, some (6, true), .l (.load 1 false 1), [.t 7]⟩,
    ⟨6, some 9, some (6, true), .p .len, [.t 8]⟩,
    ⟨7, some 10, some (6, true), .p (.bin .eql), [.t 9, .c (.int .i64 3)]⟩,
    ⟨8, some 11, none, .p .pick, [.t 6, .t 10, .c (.bool false)]⟩,
    ⟨9, some 12, none, .p .mov, [.t 11]⟩,
    ⟨10, some 13, some (12, true), .p (.faddr 1), [.t 1]⟩,
    ⟨11, some 14, some (12, true), .l (.load 1 false 1), [.t 13]⟩,
    ⟨12, some 15, some (12, true), .e .call [] [], [.f 102, .t 14]⟩,
    ⟨13, some 16, none, .p .pick, [.t 12, .t 15, .c (.bool false)]⟩,
    ⟨14, some 2, none, .p .mov, [.t 16]⟩])
   (.ret)),
  [.tmp 2]⟩
/- loop.example/g00641/spec.DrawSumOf -/
def g28 : GL.Fn := ⟨.seq (.reg 0 [⟨0, some 2, none, .p .mov, [.c (.nils)]⟩])
   (.seq (.reg 0 [⟨0, some 4, none, .p .mov, [.t 0]⟩,
    ⟨1, some 5, none, .p (.build [.nils, .int .i64 0, .int .u64 0] [(0, 1)]), [.t 4]⟩,
    ⟨2, some 6, none, .e (.new (.box 3)) [] [], [.t 5]⟩,
    ⟨3, some 3, none, .p .mov, [.t 6]⟩])
   (.seq (.reg 0 [⟨0, some 7, none, .p .mov, [.t 3]⟩,
    ⟨1, some 8, none, .e .call [] [], [.f 101, .t 7]⟩,
    ⟨2, some 2, none, .p .mov, [.t 8]⟩])
   (.ret))),
  [.tmp 2]⟩
/- loop.example/g00641/spec.l4Values -/
def g104_0 : GL.Code := .seq (.reg 0 [⟨0, some 8, none, .p (.bin .lss), [.t 7, .t 6]⟩])
   (.seq (.cond (.t 8) (.skip)
   (.exit 0))
   (.seq (.block 1 (.seq (.reg 0 [⟨0, some 9, none, .p (.idx 2), [.t 5, .t 7]⟩,
    ⟨1, some 10, none, .r (.load true 2) false, [.t 9]⟩,
    ⟨2, some 4, none, .l (.alloc 4 [.bool false, .int .i64 0]), []⟩,
    ⟨3, none, none, .l (.store 4 2), [.t 4, .t 10]⟩])
   (.seq (.reg 0 [⟨0, some 11, none, .l (.load 4 true 2), [.t 4]⟩,
    ⟨1, some 12, none, .e .call [] [], [.f 26, .t 11]⟩,
    ⟨2, some 13, none, .p (.un .not), [.t 12]⟩])
   (.cond (.t 13) (.seq (.reg 0 [⟨0, some 2, none, .p .mov, [.c (.bool false)]⟩])
   (.ret))
   (.skip)))))
   (.reg 0 [⟨0, some 14, none, .p (.bin .add), [.t 7, .c (.int .i64 1)]⟩,
    ⟨1, some 7, none, .p .mov, [.t 14]⟩])))
def g104 : GL.Fn := ⟨.seq (.reg 0 [⟨0, some 2, none, .p .mov, [.c (.bool false)]⟩])
   (.seq (.seq (.reg 0 [⟨0, some 5, none, .p .mov, [.t 0]⟩,
    ⟨1, some 6, none, .p .len, [.t 5]⟩,
    ⟨2, some 7, none, .p .mov, [.c (.int .i64 0)]⟩])
   (.block 0 (.loop g104_0)))
   (.seq (.reg 0 [⟨0, some 15, none, .p .mov, [.t 0]⟩,
    ⟨1, some 16, none, .p .len, [.t 15]⟩,
    ⟨2, some 17, none, .p (.bin .leq), [.t 16, .c (.int .i64 40)]⟩,
    ⟨3, some 2, none, .p .mov, [.t 17]⟩])
   (.ret))),
  [.tmp 2]⟩
/- (*loop.example/g00641/spec.l1Cur).values -/
def g101_0 : GL.Code := .seq (.seq (.reg 0 [⟨0, some 12, none, .p .mov, [.t 4]⟩,
    ⟨1, some 13, none, .p (.bin .gtr), [.t 12, .c (.int .i64 0)]⟩])
   (.cond (.t 13) (.skip)
   (.exit 0)))
   (.seq (.block 1 (.reg 0 [⟨0, some 16, none, .p .mov, [.t 3]⟩,
    ⟨1, some 17, none, .p .mov, [.t 0]⟩,
    ⟨2, some 18, none, .e .call [] [], [.f 143, .t 17]⟩,
    ⟨3, some 19, none, .e (.new (.lit 2)) [] [], [.t 18]⟩,
    ⟨4, some 20, none, .e (.append 2 16) [] [], [.t 16, .t 19]⟩,
    ⟨5, some 3, none, .p .mov, [.t 20]⟩]))
   (.reg 0 [⟨0, some 14, none, .p .mov, [.t 4]⟩,
    ⟨1, some 15, none, .p (.bin .sub), [.t 14, .c (.int .i64 1)]⟩,
    ⟨2, some 4, none, .p .mov, [.t 15]⟩]))
def g101 : GL.Fn := ⟨.seq (.reg 0 [⟨0, some 2, none, .p .mov, [.c (.nils)]⟩])
   (.seq (.reg 0 [⟨0, some 3, none, .p .mov, [.c (.nils)]⟩])
   (.seq (.reg 0 [⟨0, some 5, none, .p .mov, [.t 0]⟩,
    ⟨1, some 6, none, .e .call [] [], [.f 91, .t 5, .c (.int .i64 9)]⟩,
    ⟨2, some 4, none, .p .mov, [.t 6]⟩])
   (.seq (.seq (.reg 0 [⟨0, some 7, none, .p .mov, [.t 0]⟩,
    ⟨1, some 8, none, .e .call [] [], [.f 92, .t 7, .c (.int .i64 20)]⟩])
   (.cond (.t 8) (.reg 0 [⟨0, some 9, none, .p .mov, [.t 0]⟩,
    ⟨1, some 10, none, .e .call [] [], [.f 91, .t 9, .c (.int .i64 2)]⟩,
    ⟨2, some 11, none, .p (.bin .add), [.c (.int .i64 40), .t 10]⟩,
    ⟨3, some 4, none, .p .mov, [.t 11]⟩])
   (.skip)))
   (.seq (.block 0 (.loop g101_0))
   (.seq (.seq (.reg 0 [⟨0, some 21, none, .p .mov, [.t 3]⟩,
    ⟨1, some 22, none, .p .len, [.t 21]⟩,
    ⟨2, some 23, none, .p (.bin .gtr), [.t 22, .c (.int .i64 0)]⟩,
    ⟨3, some 24, none, .p .mov, [.t 23]⟩,
    ⟨4, some 25, some (24, true), .p .mov, [.t 0]⟩,
    ⟨5, some 26, some (24, true), .e .call [] [], [.f 92, .t 25, .c (.int .i64 12)]⟩,
    ⟨6, some 27, none, .p .pick, [.t 24, .t 26, .c (.bool false)]⟩])
   (.cond (.t 27) (.reg 0 [⟨0, some 28, none, .p .mov, [.t 3]⟩,
    ⟨1, some 29, none, .p .mov, [.t 0]⟩,
    ⟨2, some 30, none, .e .call [] [], [.f 95, .t 29]⟩,
    ⟨3, some 31, none, .p (.idx 2), [.t 28, .c (.int .i64 0)]⟩,
    ⟨4, none, none, .e (.store 2) [] [], [.t 31, .t 30]⟩])
   (.skip)))
   (.seq (.reg 0 [⟨0, some 32, none, .p .mov, [.t 3]⟩,
    ⟨1, some 2, none, .p .mov, [.t 32]⟩])
   (.ret))))))),
  [.tmp 2]⟩
/- (*loop.example/g00641/spec.l1Cur).value -/
def g95 : GL.Fn := ⟨.seq (.reg 0 [⟨0, some 2, none, .l (.alloc 2 [.bool false, .int .i64 0]), []⟩])
   (.seq (.seq (.reg 0 [⟨0, some 3, none, .p .mov, [.t 0]⟩,
    ⟨1, some 4, none, .e .call [] [], [.f 92, .t 3, .c (.int .i64 4)]⟩])
   (.cond (.t 4) (.seq (.reg 0 [⟨0, some 5, none, .p (.build [.bool false, .int .i64 0] [(0, 1)]), [.c (.bool true)]⟩,
    ⟨1, none, none, .l (.store 2 2), [.t 2, .t 5]⟩])
   (.ret))
   (.skip)))
   (.seq (.seq (.reg 0 [⟨0, some 6, none, .p .mov, [.t 0]⟩,
    ⟨1, some 7, none, .e .call [] [], [.f 92, .t 6, .c (.int .i64 30)]⟩])
   (.cond (.t 7) (.seq (.reg 0 [⟨0, some 8, none, .p .mov, [.t 0]⟩,
    ⟨1, some 9, none, .e .call [] [], [.f 92, .t 8, .c (.int .i64 2)]⟩,
    ⟨2, some 10, none, .p .mov, [.t 0]⟩,
    ⟨3, some 11, none, .e (.new (.lit 1)) [] [], [.c (.int .i64 (-1001)), .c (.int .i64 (-1000)), .c (.int .i64 1000), .c (.int .i64 1001)]⟩,
    ⟨4, some 12, none, .e .call [] [], [.f 93, .t 10, .t 11]⟩,
    ⟨5, some 13, none, .p (.build [.bool false, .int .i64 0] [(0, 1), (1, 1)]), [.t 9, .t 12]⟩,
    ⟨6, none, none, .l (.store 2 2), [.t 2, .t 13]⟩])
   (.ret))
   (.skip)))
   (.seq (.reg 0 [⟨0, some 14, none, .p .mov, [.t 0]⟩,
    ⟨1, some 15, none, .e .call [] [], [.f 91, .t 14, .c (.int .i64 6)]⟩,
    ⟨2, some 16, none, .p (.bin .sub), [.t 15, .c (.int .i64 1)]⟩,
    ⟨3, some 17, none, .p (.build [.bool false, .int .i64 0] [(1, 1)]), [.t 16]⟩,
    ⟨4, none, none, .l (.store 2 2), [.t 2, .t 17]⟩])
   (.ret)))),
  [.cellL 2 2 true 2]⟩
/- loop.example/g00641/impl.isKind -/
def g96 : GL.Fn := ⟨.seq (.reg 0 [⟨0, some 2, none, .p .mov, [.c (.bool false)]⟩])
   (.seq (.reg 0 [⟨0, some 3, none, .p .mov, [.t 0]⟩,
    ⟨1, some 4, none, .e .call [] [], [.f 107, .t 3, .c (.int .i64 0), .c (.int .i64 2)]⟩,
    ⟨2, some 2, none, .p .mov, [.t 4]⟩])
   (.ret)),
  [.tmp 2]⟩
/- loop.example/g00641/impl.GoodValue -/
def g25 : GL.Fn := ⟨.seq (.reg 0 [⟨0, some 1, none, .l (.box 1 2), [.t 0]⟩,
    ⟨1, some 2, none, .p .mov, [.c (.bool false)]⟩])
   (.seq (.reg 0 [⟨0, some 3, none, .p (.faddr 0), [.t 1]⟩,
    ⟨1, some 4, none, .l (.load 1 false 1), [.t 3]⟩,
    ⟨2, some 5, none, .p .mov, [.t 4]⟩,
    ⟨3, some 6, some (5, true), .p (.faddr 1), [.t 1]⟩,
    ⟨4, some 7, some (5, true), .l (.load 1 false 1), [.t 6]⟩,
    ⟨5, some 8, some (5, true), .p (.bin .eql), [.t 7, .c (.int .i64 0)]⟩,
    ⟨6, some 9, none, .p .pick, [.t 5, .t 8, .c (.bool false)]⟩,
    ⟨7, some 10, none, .p .mov, [.t 9]⟩,
    ⟨8, some 11, some (10, false), .p (.faddr 0), [.t 1]⟩,
    ⟨9, some 12, some (10, false), .l (.load 1 false 1), [.t 11]⟩,
    ⟨10, some 13, some (10, false), .p (.un .not), [.t 12]⟩,
    ⟨11, some 14, some (10, false), .p .mov, [.t 13]⟩,
    ⟨12, some 15, some (14, true), .p (.faddr 1), [.t 1]⟩,
    ⟨13, some 16, some (14, true), .l (.load 1 false 1), [.t 15]⟩,
    ⟨14, some 17, some (14, true), .e .call [] [], [.f 100, .t 16]⟩,
    ⟨15, some 18, some (10, false), .p .pick, [.t 14, .t 17, .c (.bool false)]⟩,
    ⟨16, some 19, none, .p .pick, [.t 10, .c (.bool true), .t 18]⟩,
    ⟨17, some 2, none, .p .mov, [.t 19]⟩])
   (.ret)),
  [.tmp 2]⟩
/- loop.example/g00641/impl.compare -/
def g97 : GL.Fn := ⟨.seq (.reg 0 [⟨0, some 4, none, .l (.box 4 2), [.t 1]⟩,
    ⟨1, some 5, none, .l (.box 5 2), [.t 2]⟩,
    ⟨2, some 6, none, .p .mov, [.c (.int .i64 0)]⟩])
   (.seq (.block 0 (.seq (.reg 0 [⟨0, some 8, none, .p (.faddr 0), [.t 4]⟩,
    ⟨1, some 9, none, .l (.load 4 false 1), [.t 8]⟩,
    ⟨2, some 10, none, .p .mov, [.t 9]⟩,
    ⟨3, some 11, some (10, false), .p (.faddr 0), [.t 5]⟩,
    ⟨4, some 12, some (10, false), .l (.load 5 false 1), [.t 11]⟩,
    ⟨5, some 13, none, .p .pick, [.t 10, .c (.bool true), .t 12]⟩,
    ⟨6, some 7, none, .p .mov, [.t 13]⟩])
   (.cond (.t 7) (.seq (.reg 0 [⟨0, some 6, none, .p .mov, [.c (.int .i64 1)]⟩])
   (.ret))
   (.seq (.reg 0 [⟨0, some 15, none, .p .mov, [.t 0]⟩,
    ⟨1, some 16, none, .p (.bin .eql), [.t 15, .c (.int .i64 0)]⟩,
    ⟨2, some 14, none, .p .mov, [.t 16]⟩])
   (.cond (.t 14) (.seq (.reg 0 [⟨0, some 17, none, .p (.faddr 1), [.t 4]⟩,
    ⟨1, some 18, none, .l (.load 4 false 1), [.t 17]⟩,
    ⟨2, some 19, none, .p (.faddr 1), [.t 5]⟩,
    ⟨3, some 20, none, .l (.load 5 false 1), [.t 19]⟩,
    ⟨4, some 21, none, .p (.bin .eql), [.t 18, .t 20]⟩,
    ⟨5, some 22, none, .e .call [] [], [.f 141, .t 21]⟩,
    ⟨6, some 6, none, .p .mov, [.t 22]⟩])
   (.ret))
   (.seq (.reg 0 [⟨0, some 24, none, .p .mov, [.t 0]⟩,
    ⟨1, some 25, none, .p (.bin .eql), [.t 24, .c (.int .i64 1)]⟩,
    ⟨2, some 23, none, .p .mov, [.t 25]⟩])
   (.cond (.t 23) (.seq (.reg 0 [⟨0, some 26, none, .p (.faddr 1), [.t 4]⟩,
    ⟨1, some 27, none, .l (.load 4 false 1), [.t 26]⟩,
    ⟨2, some 28, none, .p (.faddr 1), [.t 5]⟩,
    ⟨3, some 29, none, .l (.load 5 false 1), [.t 28]⟩,
    ⟨4, some 30, none, .p (.bin .lss), [.t 27, .t 29]⟩,
    ⟨5, some 31, none, .e .call [] [], [.f 141, .t 30]⟩,
    ⟨6, some 6, none, .p .mov, [.t 31]⟩])
   (.ret))
   (.skip))))))))
   (.seq (.reg 0 [⟨0, some 32, none, .p (.faddr 1), [.t 4]⟩,
    ⟨1, some 33, none, .l (.load 4 false 1), [.t 32]⟩,
    ⟨2, some 34, none, .p (.faddr 1), [.t 5]⟩,
    ⟨3, some 35, none, .l (.load 5 false 1), [.t 34]⟩,
    ⟨4, some 36, none, .p (.bin .gtr), [.t 33, .t 35]⟩,
    ⟨5, some 37, none, .e .call [] [], [.f 141, .t 36]⟩,
    ⟨6, some 6, none, .p .mov, [.t 37]⟩])
   (.ret))),
  [.tmp 6]⟩
/- loop.example/g00641/spec.l1Compare -/
def g99 : GL.Fn := ⟨.seq (.reg 0 [⟨0, some 4, none, .l (.box 4 2), [.t 1]⟩,
    ⟨1, some 5, none, .l (.box 5 2), [.t 2]⟩,
    ⟨2, some 6, none, .p .mov, [.c (.int .i64 0)]⟩])
   (.seq (.seq (.reg 0 [⟨0, some 7, none, .p (.faddr 0), [.t 4]⟩,
    ⟨1, some 8, none, .l (.load 4 false 1), [.t 7]⟩,
    ⟨2, some 9, none, .p .mov, [.t 8]⟩,
    ⟨3, some 10, some (9, false), .p (.faddr 0), [.t 5]⟩,
    ⟨4, some 11, some (9, false), .l (.load 5 false 1), [.t 10]⟩,
    ⟨5, some 12, none, .p .pick, [.t 9, .c (.bool true), .t 11]⟩])
   (.cond (.t 12) (.seq (.reg 0 [⟨0, some 6, none, .p .mov, [.c (.int .i64 1)]⟩])
   (.ret))
   (.skip)))
   (.seq (.seq (.reg 0 [⟨0, some 13, none, .p .mov, [.t 0]⟩])
   (.block 0 (.seq (.reg 0 [⟨0, some 15, none, .p (.bin .eql), [.t 13, .c (.int .i64 0)]⟩,
    ⟨1, some 14, none, .p .mov, [.t 15]⟩])
   (.cond (.t 14) (.seq (.reg 0 [⟨0, some 16, none, .p (.faddr 1), [.t 4]⟩,
    ⟨1, some 17, none, .l (.load 4 false 1), [.t 16]⟩,
    ⟨2, some 18, none, .p (.faddr 1), [.t 5]⟩,
    ⟨3, some 19, none, .l (.load 5 false 1), [.t 18]⟩,
    ⟨4, some 20, none, .p (.bin .eql), [.t 17, .t 19]⟩,
    ⟨5, some 21, none, .e .call [] [], [.f 142, .t 20]⟩,
    ⟨6, some 6, none, .p .mov, [.t 21]⟩])
   (.ret))
   (.seq (.reg 0 [⟨0, some 23, none, .p (.bin .eql), [.t 13, .c (.int .i64 1)]⟩,
    ⟨1, some 22, none, .p .mov, [.t 23]⟩])
   (.cond (.t 22) (.seq (.reg 0 [⟨0, some 24, none, .p (.faddr 1), [.t 4]⟩,
    ⟨1, some 25, none, .l (.load 4 false 1), [.t 24]⟩,
    ⟨2, some 26, none, .p (.faddr 1), [.t 5]⟩,
    ⟨3, some 27, none, .l (.load 5 false 1), [.t 26]⟩,
    ⟨4, some 28, none, .p (.bin .lss), [.t 25, .t 27]⟩,
    ⟨5, some 29, none, .e .call [] [], [.f 142, .t 28]⟩,
    ⟨6, some 6, none, .p .mov, [.t 29]⟩])
   (.ret))
   (.skip)))))))
   (.seq (.reg 0 [⟨0, some 30, none, .p (.faddr 1), [.t 4]⟩,
    ⟨1, some 31, none, .l (.load 4 false 1), [.t 30]⟩,
    ⟨2, some 32, none, .p (.faddr 1), [.t 5]⟩,
    ⟨3, some 33, none, .l (.load 5 false 1), [.t 32]⟩,
    ⟨4, some 34, none, .p (.bin .gtr), [.t 31, .t 33]⟩,
    ⟨5, some 35, none, .e .call [] [], [.f 142, .t 34]⟩,
    ⟨6, some 6, none, .p .mov, [.t 35]⟩])
   (.ret)))),
  [.tmp 6]⟩
/- loop.example/g00641/spec.l2Row -/
def g119_0 : GL.Code := .seq (.reg 0 [⟨0, some 9, none, .p (.bin .lss), [.t 8, .t 7]⟩])
   (.seq (.cond (.t 9) (.skip)
   (.exit 0))
   (.seq (.block 1 (.seq (.reg 0 [⟨0, some 10, none, .p (.idx 2), [.t 6, .t 8]⟩,
    ⟨1, some 11, none, .r (.load true 2) false, [.t 10]⟩,
    ⟨2, some 4, none, .l (.alloc 4 [.bool false, .int .i64 0]), []⟩,
    ⟨3, none, none, .l (.store 4 2), [.t 4, .t 11]⟩])
   (.seq (.reg 0 [⟨0, some 12, none, .l (.load 4 true 2), [.t 4]⟩,
    ⟨1, some 13, none, .e .call [] [], [.f 26, .t 12]⟩,
    ⟨2, some 14, none, .p (.un .not), [.t 13]⟩])
   (.cond (.t 14) (.seq (.reg 0 [⟨0, some 2, none, .p .mov, [.c (.bool false)]⟩])
   (.ret))
   (.skip)))))
   (.reg 0 [⟨0, some 15, none, .p (.bin .add), [.t 8, .c (.int .i64 1)]⟩,
    ⟨1, some 8, none, .p .mov, [.t 15]⟩])))
def g119 : GL.Fn := ⟨.seq (.reg 0 [⟨0, some 1, none, .l (.box 1 2), [.t 0]⟩,
    ⟨1, some 2, none, .p .mov, [.c (.bool false)]⟩])
   (.seq (.seq (.reg 0 [⟨0, some 5, none, .p (.faddr 1), [.t 1]⟩,
    ⟨1, some 6, none, .l (.load 1 false 1), [.t 5]⟩,
    ⟨2, some 7, none, .p .len, [.t 6]⟩,
    ⟨3, some 8, none, .p .mov, [.c (.int .i64 0)]⟩])
   (.block 0 (.loop g119_0)))
   (.seq (.reg 0 [⟨0, some 16, none, .p (.faddr 0), [.t 1]⟩,
    ⟨1, some 17, none, .l (.load 1 false 1), [.t 16]⟩,
    ⟨2, some 18, none, .e .call [] [], [.f 98, .t 17, .c (.int .i64 0), .c (.int .i64 999)]⟩,
    ⟨3, some 19, none, .p .mov, [.t 18]⟩,
    ⟨4, some 20, some (19, true), .p (.faddr 1), [.t 1]⟩,
    ⟨5, some 21, some (19, true), .l (.load 1 false 1), [.t 20]⟩,
    ⟨6, some 22, some (19, true), .p .len, [.t 21]⟩,
    ⟨7, some 23, some (19, true), .p (.bin .eql), [.t 22, .c (.int .i64 3)]⟩,
    ⟨8, some 24, none, .p .pick, [.t 19, .t 23, .c (.bool false)]⟩,
    ⟨9, some 2, none, .p .mov, [.t 24]⟩])
   (.ret))),
  [.tmp 2]⟩
/- loop.example/g00641/spec.l2Tell -/
def g112 : GL.Fn := ⟨.seq (.reg 0 [⟨0, some 2, none, .p .mov, [.c (.nils)]⟩,
    ⟨1, some 3, none, .p .mov, [.c (.bool false)]⟩])
   (.seq (.seq (.reg 0 [⟨0, some 4, none, .p .mov, [.t 0]⟩,
    ⟨1, some 5, none, .e .call [] [], [.f 63, .t 4]⟩,
    ⟨2, some 6, none, .p (.un .not), [.t 5]⟩])
   (.cond (.t 6) (.seq (.reg 0 [⟨0, some 2, none, .p .mov, [.c (.nils)]⟩,
    ⟨1, some 3, none, .p .mov, [.c (.bool false)]⟩])
   (.ret))
   (.skip)))
   (.seq (.reg 0 [⟨0, some 7, none, .p .mov, [.t 0]⟩,
    ⟨1, some 8, none, .e .call [] [], [.f 116, .t 7]⟩,
    ⟨2, some 2, none, .p .mov, [.t 8]⟩,
    ⟨3, some 3, none, .p .mov, [.c (.bool true)]⟩])
   (.ret))),
  [.tmp 2, .tmp 3]⟩
/- loop.example/g00641/spec.l2Put -/
def g120_0 : GL.Code := .seq (.seq (.reg 0 [⟨0, some 11, none, .p .mov, [.t 5]⟩,
    ⟨1, some 12, none, .p .mov, [.t 0]⟩,
    ⟨2, some 13, none, .p .len, [.t 12]⟩,
    ⟨3, some 14, none, .p (.bin .lss), [.t 11, .t 13]⟩,
    ⟨4, some 15, none, .p .mov, [.t 14]⟩,
    ⟨5, some 16, some (15, true), .p .mov, [.t 0]⟩,
    ⟨6, some 17, some (15, true), .p .mov, [.t 5]⟩,
    ⟨7, some 18, some (15, true), .p (.idx 2), [.t 16, .t 17]⟩,
    ⟨8, some 19, some (15, true), .p (.faddr 0), [.t 18]⟩,
    ⟨9, some 20, some (15, true), .r (.load false 1) false, [.t 19]⟩,
    ⟨10, some 21, some (15, true), .p (.faddr 0), [.t 3]⟩,
    ⟨11, some 22, some (15, true), .l (.load 3 false 1), [.t 21]⟩,
    ⟨12, some 23, some (15, true), .p (.bin .lss), [.t 20, .t 22]⟩,
    ⟨13, some 24, none, .p .pick, [.t 15, .t 23, .c (.bool false)]⟩])
   (.cond (.t 24) (.skip)
   (.exit 0)))
   (.block 1 (.reg 0 [⟨0, some 25, none, .p .mov, [.t 5]⟩,
    ⟨1, some 26, none, .p (.bin .add), [.t 25, .c (.int .i64 1)]⟩,
    ⟨2, some 5, none, .p .mov, [.t 26]⟩]))
def g120 : GL.Fn := ⟨.seq (.reg 0 [⟨0, some 3, none, .l (.box 3 2), [.t 1]⟩,
    ⟨1, some 4, none, .p .mov, [.c (.nils)]⟩])
   (.seq (.reg 0 [⟨0, some 7, none, .p .mov, [.t 0]⟩,
    ⟨1, some 8, none, .p (.faddr 0), [.t 3]⟩,
    ⟨2, some 9, none, .l (.load 3 false 1), [.t 8]⟩,
    ⟨3, some 10, none, .e .call [] [], [.f 111, .t 7, .t 9]⟩,
    ⟨4, some 0, none, .p .mov, [.t 10]⟩])
   (.seq (.reg 0 [⟨0, some 5, none, .p .mov, [.c (.int .i64 0)]⟩])
   (.seq (.block 0 (.loop g120_0))
   (.seq (.reg 0 [⟨0, some 27, none, .e (.new (.lit 2)) [] [], []⟩,
    ⟨1, some 28, none, .p .mov, [.t 0]⟩,
    ⟨2, some 29, none, .p .mov, [.t 5]⟩,
    ⟨3, some 30, none, .p (.slice 2 false true false), [.t 28, .t 29]⟩,
    ⟨4, some 31, none, .e (.append 2 32) [] [], [.t 27, .t 30]⟩,
    ⟨5, some 6, none, .p .mov, [.t 31]⟩])
   (.seq (.reg 0 [⟨0, some 32, none, .p .mov, [.t 6]⟩,
    ⟨1, some 33, none, .l (.load 3 true 2), [.t 3]⟩,
    ⟨2, some 34, none, .e (.new (.lit 2)) [] [], [.t 33]⟩,
    ⟨3, some 35, none, .e (.append 2 32) [] [], [.t 32, .t 34]⟩,
    ⟨4, some 6, none, .p .mov, [.t 35]⟩])
   (.seq (.reg 0 [⟨0, some 36, none, .p .mov, [.t 6]⟩,
    ⟨1, some 37, none, .p .mov, [.t 0]⟩,
    ⟨2, some 38, none, .p .mov, [.t 5]⟩,
    ⟨3, some 39, none, .p (.slice 2 true false false), [.t 37, .t 38]⟩,
    ⟨4, some 40, none, .e (.append 2 32) [] [], [.t 36, .t 39]⟩,
    ⟨5, some 4, none, .p .mov, [.t 40]⟩])
   (.ret))))))),
  [.tmp 4]⟩
/- (*loop.example/g00641/spec.l1Cur).row -/
def g125 : GL.Fn := ⟨.seq (.reg 0 [⟨0, some 2, none, .l (.alloc 2 [.int .i64 0, .nils]), []⟩])
   (.seq (.reg 0 [⟨0, some 4, none, .p .mov, [.t 0]⟩,
    ⟨1, some 5, none, .e .call [] [], [.f 91, .t 4, .c (.int .i64 8)]⟩,
    ⟨2, some 6, none, .p .mov, [.t 0]⟩,
    ⟨3, some 7, none, .e .call [] [], [.f 143, .t 6]⟩,
    ⟨4, some 8, none, .p .mov, [.t 0]⟩,
    ⟨5, some 9, none, .e .call [] [], [.f 143, .t 8]⟩,
    ⟨6, some 10, none, .p .mov, [.t 0]⟩,
    ⟨7, some 11, none, .e .call [] [], [.f 143, .t 10]⟩,
    ⟨8, some 12, none, .e (.new (.lit 2)) [] [], [.t 7, .t 9, .t 11]⟩,
    ⟨9, some 13, none, .p (.build [.int .i64 0, .nils] [(0, 1), (1, 1)]), [.t 5, .t 12]⟩,
    ⟨10, some 3, none, .l (.alloc 3 [.int .i64 0, .nils]), []⟩,
    ⟨11, none, none, .l (.store 3 2), [.t 3, .t 13]⟩])
   (.seq (.seq (.reg 0 [⟨0, some 14, none, .p .mov, [.t 0]⟩,
    ⟨1, some 15, none, .e .call [] [], [.f 91, .t 14, .c (.int .i64 40)]⟩])
   (.block 0 (.seq (.reg 0 [⟨0, some 17, none, .p (.bin .eql), [.t 15, .c (.int .i64 0)]⟩,
    ⟨1, some 16, none, .p .mov, [.t 17]⟩])
   (.cond (.t 16) (.reg 0 [⟨0, some 18, none, .p .mov, [.t 0]⟩,
    ⟨1, some 19, none, .e (.new (.lit 1)) [] [], [.c (.int .i64 (-1)), .c (.int .i64 999), .c (.int .i64 1000)]⟩,
    ⟨2, some 20, none, .e .call [] [], [.f 93, .t 18, .t 19]⟩,
    ⟨3, some 21, none, .p (.faddr 0), [.t 3]⟩,
    ⟨4, none, none, .l (.store 3 1), [.t 21, .t 20]⟩])
   (.seq (.reg 0 [⟨0, some 23, none, .p (.bin .eql), [.t 15, .c (.int .i64 1)]⟩,
    ⟨1, some 22, none, .p .mov, [.t 23]⟩])
   (.cond (.t 22) (.reg 0 [⟨0, some 24, none, .p (.faddr 1), [.t 3]⟩,
    ⟨1, some 25, none, .l (.load 3 false 1), [.t 24]⟩,
    ⟨2, some 26, none, .p .mov, [.t 0]⟩,
    ⟨3, some 27, none, .e .call [] [], [.f 95, .t 26]⟩,
    ⟨4, some 28, none, .p (.idx 2), [.t 25, .c (.int .i64 0)]⟩,
    ⟨5, none, none, .e (.store 2) [] [], [.t 28, .t 27]⟩])
   (.seq (.reg 0 [⟨0, some 30, none, .p (.bin .eql), [.t 15, .c (.int .i64 2)]⟩,
    ⟨1, some 29, none, .p .mov, [.t 30]⟩])
   (.cond (.t 29) (.reg 0 [⟨0, some 31, none, .p (.faddr 1), [.t 3]⟩,
    ⟨1, some 32, none, .l (.load 3 false 1), [.t 31]⟩,
    ⟨2, some 33, none, .p (.slice 2 true false false), [.t 32, .c (.int .i64 1)]⟩,
    ⟨3, some 34, none, .p (.faddr 1), [.t 3]⟩,
    ⟨4, none, none, .l (.store 3 1), [.t 34, .t 33]⟩])
   (.skip)))))))))
   (.seq (.reg 0 [⟨0, some 35, none, .l (.load 3 true 2), [.t 3]⟩,
    ⟨1, none, none, .l (.store 2 2), [.t 2, .t 35]⟩])
   (.ret)))),
  [.cellL 2 2 true 2]⟩
/- (*loop.example/g00641/spec.l1Cur).one -/
def g92 : GL.Fn := ⟨.seq (.reg 0 [⟨0, some 4, none, .p .mov, [.c (.bool false)]⟩])
   (.seq (.reg 0 [⟨0, some 5, none, .p .mov, [.t 0]⟩,
    ⟨1, some 6, none, .p .mov, [.t 1]⟩,
    ⟨2, some 7, none, .e .call [] [], [.f 91, .t 5, .t 6]⟩,
    ⟨3, some 8, none, .p (.bin .eql), [.t 7, .c (.int .i64 0)]⟩,
    ⟨4, some 4, none, .p .mov, [.t 8]⟩])
   (.ret)),
  [.tmp 4]⟩
/- loop.example/g00641/impl.isKey -/
def g126 : GL.Fn := ⟨.seq (.reg 0 [⟨0, some 2, none, .p .mov, [.c (.bool false)]⟩])
   (.seq (.reg 0 [⟨0, some 3, none, .p .mov, [.t 0]⟩,
    ⟨1, some 4, none, .e .call [] [], [.f 107, .t 3, .c (.int .i64 0), .c (.int .i64 999)]⟩,
    ⟨2, some 2, none, .p .mov, [.t 4]⟩])
   (.ret)),
  [.tmp 2]⟩
/- loop.example/g00641/spec.l2Drop -/
def g111_0 : GL.Code := .seq (.reg 0 [⟨0, some 11, none, .p (.bin .lss), [.t 10, .t 9]⟩])
   (.seq (.cond (.t 11) (.skip)
   (.exit 0))
   (.seq (.block 1 (.seq (.reg 0 [⟨0, some 12, none, .p (.idx 2), [.t 8, .t 10]⟩,
    ⟨1, some 13, none, .r (.load true 2) false, [.t 12]⟩,
    ⟨2, some 7, none, .l (.alloc 7 [.int .i64 0, .nils]), []⟩,
    ⟨3, none, none, .l (.store 7 2), [.t 7, .t 13]⟩])
   (.seq (.reg 0 [⟨0, some 14, none, .p (.faddr 0), [.t 7]⟩,
    ⟨1, some 15, none, .l (.load 7 false 1), [.t 14]⟩,
    ⟨2, some 16, none, .p .mov, [.t 1]⟩,
    ⟨3, some 17, none, .p (.bin .neq), [.t 15, .t 16]⟩])
   (.cond (.t 17) (.reg 0 [⟨0, some 18, none, .p .mov, [.t 5]⟩,
    ⟨1, some 19, none, .l (.load 7 true 2), [.t 7]⟩,
    ⟨2, some 20, none, .e (.new (.lit 2)) [] [], [.t 19]⟩,
    ⟨3, some 21, none, .e (.append 2 32) [] [], [.t 18, .t 20]⟩,
    ⟨4, some 5, none, .p .mov, [.t 21]⟩])
   (.skip)))))
   (.reg 0 [⟨0, some 22, none, .p (.bin .add), [.t 10, .c (.int .i64 1)]⟩,
    ⟨1, some 10, none, .p .mov, [.t 22]⟩])))
def g111 : GL.Fn := ⟨.seq (.reg 0 [⟨0, some 4, none, .p .mov, [.c (.nils)]⟩])
   (.seq (.reg 0 [⟨0, some 5, none, .p .mov, [.c (.nils)]⟩])
   (.seq (.seq (.reg 0 [⟨0, some 8, none, .p .mov, [.t 0]⟩,
    ⟨1, some 9, none, .p .len, [.t 8]⟩,
    ⟨2, some 10, none, .p .mov, [.c (.int .i64 0)]⟩])
   (.block 0 (.loop g111_0)))
   (.seq (.reg 0 [⟨0, some 23, none, .p .mov, [.t 5]⟩,
    ⟨1, some 4, none, .p .mov, [.t 23]⟩])
   (.ret)))),
  [.tmp 4]⟩
/- loop.example/g00641/spec.l2Copy -/
def g130 : GL.Fn := ⟨.seq (.reg 0 [⟨0, some 1, none, .l (.box 1 2), [.t 0]⟩,
    ⟨1, some 2, none, .l (.alloc 2 [.int .i64 0, .nils]), []⟩])
   (.seq (.reg 0 [⟨0, some 3, none, .p (.faddr 0), [.t 1]⟩,
    ⟨1, some 4, none, .l (.load 1 false 1), [.t 3]⟩,
    ⟨2, some 5, none, .e (.new (.lit 2)) [] [], []⟩,
    ⟨3, some 6, none, .p (.faddr 1), [.t 1]⟩,
    ⟨4, some 7, none, .l (.load 1 false 1), [.t 6]⟩,
    ⟨5, some 8, none, .e (.append 2 16) [] [], [.t 5, .t 7]⟩,
    ⟨6, some 9, none, .p (.build [.int .i64 0, .nils] [(0, 1), (1, 1)]), [.t 4, .t 8]⟩,
    ⟨7, none, none, .l (.store 2 2), [.t 2, .t 9]⟩])
   (.ret)),
  [.cellL 2 2 true 2]⟩
/- (*loop.example/g00641/spec.l1Cur).among -/
def g93 : GL.Fn := ⟨.seq (.reg 0 [⟨0, some 4, none, .p .mov, [.c (.int .i64 0)]⟩])
   (.seq (.reg 0 [⟨0, some 5, none, .p .mov, [.t 1]⟩,
    ⟨1, some 6, none, .p .mov, [.t 0]⟩,
    ⟨2, some 7, none, .p .mov, [.t 1]⟩,
    ⟨3, some 8, none, .p .len, [.t 7]⟩,
    ⟨4, some 9, none, .e .call [] [], [.f 91, .t 6, .t 8]⟩,
    ⟨5, some 10, none, .p (.idx 1), [.t 5, .t 9]⟩,
    ⟨6, some 11, none, .r (.load false 1) false, [.t 10]⟩,
    ⟨7, some 4, none, .p .mov, [.t 11]⟩])
   (.ret)),
  [.tmp 4]⟩
/- (*loop.example/g00641/spec.l1Cur).next -/
def g140 : GL.Fn := ⟨.seq (.reg 0 [⟨0, some 2, none, .p .mov, [.c (.int .i64 0)]⟩])
   (.seq (.reg 0 [⟨0, some 3, none, .p .mov, [.c (.int .i64 0)]⟩])
   (.seq (.seq (.reg 0 [⟨0, some 4, none, .p .mov, [.t 0]⟩,
    ⟨1, some 5, none, .p .nilCheck, [.t 4]⟩,
    ⟨2, some 6, none, .p (.faddr 1), [.t 5]⟩,
    ⟨3, some 7, none, .r (.load false 1) false, [.t 6]⟩,
    ⟨4, some 8, none, .p .mov, [.t 0]⟩,
    ⟨5, some 9, none, .p .nilCheck, [.t 8]⟩,
    ⟨6, some 10, none, .p (.faddr 0), [.t 9]⟩,
    ⟨7, some 11, none, .r (.load false 1) false, [.t 10]⟩,
    ⟨8, some 12, none, .p .len, [.t 11]⟩,
    ⟨9, some 13, none, .p (.bin .lss), [.t 7, .t 12]⟩])
   (.cond (.t 13) (.reg 0 [⟨0, some 14, none, .p .mov, [.t 0]⟩,
    ⟨1, some 15, none, .p .nilCheck, [.t 14]⟩,
    ⟨2, some 16, none, .p (.faddr 0), [.t 15]⟩,
    ⟨3, some 17, none, .r (.load false 1) false, [.t 16]⟩,
    ⟨4, some 18, none, .p .mov, [.t 0]⟩,
    ⟨5, some 19, none, .p .nilCheck, [.t 18]⟩,
    ⟨6, some 20, none, .p (.faddr 1), [.t 19]⟩,
    ⟨7, some 21, none, .r (.load false 1) false, [.t 20]⟩,
    ⟨8, some 22, none, .p (.idx 1), [.t 17, .t 21]⟩,
    ⟨9, some 23, none, .r (.load false 1) false, [.t 22]⟩,
    ⟨10, some 24, none, .p (.conv .i64), [.t 23]⟩,
    ⟨11, some 3, none, .p .mov, [.t 24]⟩])
   (.skip)))
   (.seq (.reg 0 [⟨0, some 25, none, .p .mov, [.t 0]⟩,
    ⟨1, some 26, none, .p .nilCheck, [.t 25]⟩,
    ⟨2, some 27, none, .p (.faddr 1), [.t 26]⟩,
    ⟨3, some 28, none, .r (.load false 1) false, [.t 27]⟩,
    ⟨4, some 29, none, .p (.bin .add), [.t 28, .c (.int .i64 1)]⟩,
    ⟨5, some 30, none, .p .nilCheck, [.t 25]⟩,
    ⟨6, some 31, none, .p (.faddr 1), [.t 30]⟩,
    ⟨7, none, none, .e (.store 1) [] [], [.t 31, .t 29]⟩])
   (.seq (.reg 0 [⟨0, some 32, none, .p .mov, [.t 0]⟩,
    ⟨1, some 33, none, .p .mov, [.t 0]⟩,
    ⟨2, some 34, none, .p .nilCheck, [.t 33]⟩,
    ⟨3, some 35, none, .p (.faddr 2), [.t 34]⟩,
    ⟨4, some 36, none, .r (.load false 1) false, [.t 35]⟩,
    ⟨5, some 37, none, .p (.bin .mul), [.t 36, .c (.int .u64 6364136223846793005)]⟩,
    ⟨6, some 38, none, .p .mov, [.t 3]⟩,
    ⟨7, some 39, none, .p (.conv .u64), [.t 38]⟩,
    ⟨8, some 40, none, .p (.bin .add), [.t 37, .t 39]⟩,
    ⟨9, some 41, none, .p (.bin .add), [.t 40, .c (.int .u64 1442695040888963407)]⟩,
    ⟨10, some 42, none, .p .nilCheck, [.t 32]⟩,
    ⟨11, some 43, none, .p (.faddr 2), [.t 42]⟩,
    ⟨12, none, none, .e (.store 1) [] [], [.t 43, .t 41]⟩])
   (.seq (.seq (.reg 0 [⟨0, some 44, none, .p .mov, [.t 0]⟩,
    ⟨1, some 45, none, .p .nilCheck, [.t 44]⟩,
    ⟨2, some 46, none, .p (.faddr 1), [.t 45]⟩,
    ⟨3, some 47, none, .r (.load false 1) false, [.t 46]⟩,
    ⟨4, some 48, none, .p .mov, [.t 0]⟩,
    ⟨5, some 49, none, .p .nilCheck, [.t 48]⟩,
    ⟨6, some 50, none, .p (.faddr 0), [.t 49]⟩,
    ⟨7, some 51, none, .r (.load false 1) false, [.t 50]⟩,
    ⟨8, some 52, none, .p .len, [.t 51]⟩,
    ⟨9, some 53, none, .p (.bin .leq), [.t 47, .t 52]⟩])
   (.cond (.t 53) (.seq (.reg 0 [⟨0, some 54, none, .p .mov, [.t 3]⟩,
    ⟨1, some 2, none, .p .mov, [.t 54]⟩])
   (.ret))
   (.skip)))
   (.seq (.reg 0 [⟨0, some 55, none, .p .mov, [.t 0]⟩,
    ⟨1, some 56, none, .p .nilCheck, [.t 55]⟩,
    ⟨2, some 57, none, .p (.faddr 2), [.t 56]⟩,
    ⟨3, some 58, none, .r (.load false 1) false, [.t 57]⟩,
    ⟨4, some 59, none, .p (.bin .shr), [.t 58, .c (.int .u64 40)]⟩,
    ⟨5, some 60, none, .p (.bin .and), [.t 59, .c (.int .u64 255)]⟩,
    ⟨6, some 61, none, .p (.conv .i64), [.t 60]⟩,
    ⟨7, some 2, none, .p .mov, [.t 61]⟩])
   (.ret))))))),
  [.tmp 2]⟩
/- slices.Clone[[]loop.example/g00641/impl.Value,loop.example/g00641/impl.Value] -/
def g149 : GL.Fn := ⟨.seq (.reg 0 [⟨0, some 2, none, .p .mov, [.c (.nils)]⟩])
   (.seq (.seq (.reg 0 [⟨0, some 3, none, .p .mov, [.t 0]⟩,
    ⟨1, some 4, none, .p (.isNil false), [.t 3]⟩])
   (.cond (.t 4) (.seq (.reg 0 [⟨0, some 2, none, .p .mov, [.c (.nils)]⟩])
   (.ret))
   (.skip)))
   (.seq (.reg 0 [⟨0, some 5, none, .e (.new (.lit 2)) [] [], []⟩,
    ⟨1, some 6, none, .p .mov, [.t 0]⟩,
    ⟨2, some 7, none, .e (.append 2 16) [] [], [.t 5, .t 6]⟩,
    ⟨3, some 2, none, .p .mov, [.t 7]⟩])
   (.ret))),
  [.tmp 2]⟩
/- loop.example/g00641/impl.distinct$1 -/
def g152 : GL.Fn := ⟨.seq (.reg 0 [⟨0, some 2, none, .l (.box 2 2), [.t 0]⟩,
    ⟨1, some 3, none, .l (.box 3 2), [.t 1]⟩,
    ⟨2, some 4, none, .p .mov, [.c (.int .i64 0)]⟩])
   (.seq (.block 0 (.seq (.reg 0 [⟨0, some 6, none, .p (.faddr 0), [.t 2]⟩,
    ⟨1, some 7, none, .l (.load 2 false 1), [.t 6]⟩,
    ⟨2, some 8, none, .p (.faddr 0), [.t 3]⟩,
    ⟨3, some 9, none, .l (.load 3 false 1), [.t 8]⟩,
    ⟨4, some 10, none, .p (.eqB false), [.t 7, .t 9]⟩,
    ⟨5, some 5, none, .p .mov, [.t 10]⟩])
   (.cond (.t 5) (.seq (.reg 0 [⟨0, some 11, none, .p (.faddr 1), [.t 2]⟩,
    ⟨1, some 12, none, .l (.load 2 false 1), [.t 11]⟩,
    ⟨2, some 13, none, .p (.faddr 1), [.t 3]⟩,
    ⟨3, some 14, none, .l (.load 3 false 1), [.t 13]⟩,
    ⟨4, some 15, none, .e .call [] [], [.f 159, .t 12, .t 14]⟩,
    ⟨5, some 4, none, .p .mov, [.t 15]⟩])
   (.ret))
   (.seq (.reg 0 [⟨0, some 17, none, .p (.faddr 0), [.t 2]⟩,
    ⟨1, some 18, none, .l (.load 2 false 1), [.t 17]⟩,
    ⟨2, some 16, none, .p .mov, [.t 18]⟩])
   (.cond (.t 16) (.seq (.reg 0 [⟨0, some 4, none, .p .mov, [.c (.int .i64 (-1))]⟩])
   (.ret))
   (.skip))))))
   (.seq (.reg 0 [⟨0, some 4, none, .p .mov, [.c (.int .i64 1)]⟩])
   (.ret))),
  [.tmp 4]⟩
/- cmp.Compare[int] -/
def g159 : GL.Fn := ⟨.seq (.reg 0 [⟨0, some 4, none, .p .mov, [.c (.int .i64 0)]⟩])
   (.seq (.reg 0 [⟨0, some 7, none, .p .mov, [.t 0]⟩,
    ⟨1, some 8, none, .e .call [] [], [.f 160, .t 7]⟩,
    ⟨2, some 5, none, .p .mov, [.t 8]⟩])
   (.seq (.reg 0 [⟨0, some 9, none, .p .mov, [.t 1]⟩,
    ⟨1, some 10, none, .e .call [] [], [.f 160, .t 9]⟩,
    ⟨2, some 6, none, .p .mov, [.t 10]⟩])
   (.seq (.seq (.reg 0 [⟨0, some 11, none, .p .mov, [.t 5]⟩])
   (.cond (.t 11) (.seq (.seq (.reg 0 [⟨0, some 12, none, .p .mov, [.t 6]⟩])
   (.cond (.t 12) (.seq (.reg 0 [⟨0, some 4, none, .p .mov, [.c (.int .i64 0)]⟩])
   (.ret))
   (.skip)))
   (.seq (.reg 0 [⟨0, some 4, none, .p .mov, [.c (.int .i64 (-1))]⟩])
   (.ret)))
   (.skip)))
   (.seq (.seq (.reg 0 [⟨0, some 13, none, .p .mov, [.t 6]⟩])
   (.cond (.t 13) (.seq (.reg 0 [⟨0, some 4, none, .p .mov, [.c (.int .i64 1)]⟩])
   (.ret))
   (.skip)))
   (.seq (.seq (.reg 0 [⟨0, some 14, none, .p .mov, [.t 0]⟩,
    ⟨1, some 15, none, .p .mov, [.t 1]⟩,
    ⟨2, some 16, none, .p (.bin .lss), [.t 14, .t 15]⟩])
   (.cond (.t 16) (.seq (.reg 0 [⟨0, some 4, none, .p .mov, [.c (.int .i64 (-1))]⟩])
   (.ret))
   (.skip)))
   (.seq (.seq (.reg 0 [⟨0, some 17, none, .p .mov, [.t 0]⟩,
    ⟨1, some 18, none, .p .mov, [.t 1]⟩,
    ⟨2, some 19, none, .p (.bin .gtr), [.t 17, .t 18]⟩])
   (.cond (.t 19) (.seq (.reg 0 [⟨0, some 4, none, .p .mov, [.c (.int .i64 1)]⟩])
   (.ret))
   (.skip)))
   (.seq (.reg 0 [⟨0, some 4, none, .p .mov, [.c (.int .i64 0)]⟩])
   (.ret)))))))),
  [.tmp 4]⟩
/- slices.Compact[[]loop.example/g00641/impl.Value,loop.example/g00641/impl.Value] -/
def g153_0 : GL.Code := .seq (.seq (.reg 0 [⟨0, some 29, none, .p .mov, [.t 5]⟩,
    ⟨1, some 30, none, .p .mov, [.t 4]⟩,
    ⟨2, some 31, none, .p .len, [.t 30]⟩,
    ⟨3, some 32, none, .p (.bin .lss), [.t 29, .t 31]⟩])
   (.cond (.t 32) (.skip)
   (.exit 2)))
   (.seq (.block 3 (.seq (.reg 0 [⟨0, some 35, none, .p .mov, [.t 4]⟩,
    ⟨1, some 36, none, .p .mov, [.t 5]⟩,
    ⟨2, some 37, none, .p (.idx 2), [.t 35, .t 36]⟩,
    ⟨3, some 38, none, .r (.load true 2) false, [.t 37]⟩,
    ⟨4, some 39, none, .p .mov, [.t 4]⟩,
    ⟨5, some 40, none, .p .mov, [.t 5]⟩,
    ⟨6, some 41, none, .p (.bin .sub), [.t 40, .c (.int .i64 1)]⟩,
    ⟨7, some 42, none, .p (.idx 2), [.t 39, .t 41]⟩,
    ⟨8, some 43, none, .r (.load true 2) false, [.t 42]⟩,
    ⟨9, some 44, none, .p (.eqAgg true [none, some .i64]), [.t 38, .t 43]⟩])
   (.cond (.t 44) (.seq (.reg 0 [⟨0, some 45, none, .p .mov, [.t 0]⟩,
    ⟨1, some 46, none, .p .mov, [.t 3]⟩,
    ⟨2, some 47, none, .p .mov, [.t 4]⟩,
    ⟨3, some 48, none, .p .mov, [.t 5]⟩,
    ⟨4, some 49, none, .p (.idx 2), [.t 47, .t 48]⟩,
    ⟨5, some 50, none, .r (.load true 2) false, [.t 49]⟩,
    ⟨6, some 51, none, .p (.idx 2), [.t 45, .t 46]⟩,
    ⟨7, none, none, .e (.store 2) [] [], [.t 51, .t 50]⟩])
   (.reg 0 [⟨0, some 52, none, .p .mov, [.t 3]⟩,
    ⟨1, some 53, none, .p (.bin .add), [.t 52, .c (.int .i64 1)]⟩,
    ⟨2, some 3, none, .p .mov, [.t 53]⟩]))
   (.skip))))
   (.reg 0 [⟨0, some 33, none, .p .mov, [.t 5]⟩,
    ⟨1, some 34, none, .p (.bin .add), [.t 33, .c (.int .i64 1)]⟩,
    ⟨2, some 5, none, .p .mov, [.t 34]⟩]))
def g153_1 : GL.Code := .seq (.seq (.reg 0 [⟨0, some 10, none, .p .mov, [.t 3]⟩,
    ⟨1, some 11, none, .p .mov, [.t 0]⟩,
    ⟨2, some 12, none, .p .len, [.t 11]⟩,
    ⟨3, some 13, none, .p (.bin .lss), [.t 10, .t 12]⟩])
   (.cond (.t 13) (.skip)
   (.exit 0)))
   (.seq (.block 1 (.seq (.reg 0 [⟨0, some 16, none, .p .mov, [.t 0]⟩,
    ⟨1, some 17, none, .p .mov, [.t 3]⟩,
    ⟨2, some 18, none, .p (.idx 2), [.t 16, .t 17]⟩,
    ⟨3, some 19, none, .r (.load true 2) false, [.t 18]⟩,
    ⟨4, some 20, none, .p .mov, [.t 0]⟩,
    ⟨5, some 21, none, .p .mov, [.t 3]⟩,
    ⟨6, some 22, none, .p (.bin .sub), [.t 21, .c (.int .i64 1)]⟩,
    ⟨7, some 23, none, .p (.idx 2), [.t 20, .t 22]⟩,
    ⟨8, some 24, none, .r (.load true 2) false, [.t 23]⟩,
    ⟨9, some 25, none, .p (.eqAgg false [none, some .i64]), [.t 19, .t 24]⟩])
   (.cond (.t 25) (.seq (.reg 0 [⟨0, some 26, none, .p .mov, [.t 0]⟩,
    ⟨1, some 27, none, .p .mov, [.t 3]⟩,
    ⟨2, some 28, none, .p (.slice 2 true false false), [.t 26, .t 27]⟩,
    ⟨3, some 4, none, .p .mov, [.t 28]⟩])
   (.seq (.seq (.reg 0 [⟨0, some 5, none, .p .mov, [.c (.int .i64 1)]⟩])
   (.block 2 (.loop g153_0)))
   (.seq (.reg 0 [⟨0, some 54, none, .p .mov, [.t 0]⟩,
    ⟨1, some 55, none, .p .mov, [.t 3]⟩,
    ⟨2, some 56, none, .p (.slice 2 true false false), [.t 54, .t 55]⟩,
    ⟨3, none, none, .e (.clear 2 [.bool false, .int .i64 0]) [] [], [.t 56]⟩])
   (.seq (.reg 0 [⟨0, some 57, none, .p .mov, [.t 0]⟩,
    ⟨1, some 58, none, .p .mov, [.t 3]⟩,
    ⟨2, some 59, none, .p (.slice 2 false true false), [.t 57, .t 58]⟩,
    ⟨3, some 2, none, .p .mov, [.t 59]⟩])
   (.ret)))))
   (.skip))))
   (.reg 0 [⟨0, some 14, none, .p .mov, [.t 3]⟩,
    ⟨1, some 15, none, .p (.bin .add), [.t 14, .c (.int .i64 1)]⟩,
    ⟨2, some 3, none, .p .mov, [.t 15]⟩]))
def g153 : GL.Fn := ⟨.seq (.reg 0 [⟨0, some 2, none, .p .mov, [.c (.nils)]⟩])
   (.seq (.seq (.reg 0 [⟨0, some 6, none, .p .mov, [.t 0]⟩,
    ⟨1, some 7, none, .p .len, [.t 6]⟩,
    ⟨2, some 8, none, .p (.bin .lss), [.t 7, .c (.int .i64 2)]⟩])
   (.cond (.t 8) (.seq (.reg 0 [⟨0, some 9, none, .p .mov, [.t 0]⟩,
    ⟨1, some 2, none, .p .mov, [.t 9]⟩])
   (.ret))
   (.skip)))
   (.seq (.seq (.reg 0 [⟨0, some 3, none, .p .mov, [.c (.int .i64 1)]⟩])
   (.block 0 (.loop g153_1)))
   (.seq (.reg 0 [⟨0, some 60, none, .p .mov, [.t 0]⟩,
    ⟨1, some 2, none, .p .mov, [.t 60]⟩])
   (.ret)))),
  [.tmp 2]⟩
/- slices.IndexFunc[[]loop.example/g00641/impl.Row,loop.example/g00641/impl.Row] -/
def g150_0 : GL.Code := .seq (.reg 0 [⟨0, some 9, none, .p (.bin .lss), [.t 8, .t 7]⟩])
   (.seq (.cond (.t 9) (.skip)
   (.exit 0))
   (.seq (.block 1 (.seq (.reg 0 [⟨0, some 10, none, .p .mov, [.t 8]⟩,
    ⟨1, some 5, none, .p .mov, [.t 10]⟩])
   (.seq (.reg 0 [⟨0, some 11, none, .p .mov, [.t 1]⟩,
    ⟨1, some 12, none, .p .mov, [.t 0]⟩,
    ⟨2, some 13, none, .p .mov, [.t 5]⟩,
    ⟨3, some 14, none, .p (.idx 2), [.t 12, .t 13]⟩,
    ⟨4, some 15, none, .r (.load true 2) false, [.t 14]⟩,
    ⟨5, some 16, none, .e .call [] [], [.t 11, .t 15]⟩])
   (.cond (.t 16) (.seq (.reg 0 [⟨0, some 17, none, .p .mov, [.t 5]⟩,
    ⟨1, some 4, none, .p .mov, [.t 17]⟩])
   (.ret))
   (.skip)))))
   (.reg 0 [⟨0, some 18, none, .p (.bin .add), [.t 8, .c (.int .i64 1)]⟩,
    ⟨1, some 8, none, .p .mov, [.t 18]⟩])))
def g150 : GL.Fn := ⟨.seq (.reg 0 [⟨0, some 4, none, .p .mov, [.c (.int .i64 0)]⟩])
   (.seq (.seq (.reg 0 [⟨0, some 6, none, .p .mov, [.t 0]⟩,
    ⟨1, some 7, none, .p .len, [.t 6]⟩,
    ⟨2, some 8, none, .p .mov, [.c (.int .i64 0)]⟩])
   (.block 0 (.loop g150_0)))
   (.seq (.reg 0 [⟨0, some 4, none, .p .mov, [.c (.int .i64 (-1))]⟩])
   (.ret))),
  [.tmp 4]⟩
/- loop.example/g00641/spec.l4Before -/
def g154 : GL.Fn := ⟨.seq (.reg 0 [⟨0, some 2, none, .l (.box 2 2), [.t 0]⟩,
    ⟨1, some 3, none, .l (.box 3 2), [.t 1]⟩,
    ⟨2, some 4, none, .p .mov, [.c (.bool false)]⟩])
   (.seq (.reg 0 [⟨0, some 5, none, .p (.faddr 0), [.t 2]⟩,
    ⟨1, some 6, none, .l (.load 2 false 1), [.t 5]⟩,
    ⟨2, some 7, none, .p .mov, [.t 6]⟩,
    ⟨3, some 8, some (7, true), .p (.faddr 0), [.t 3]⟩,
    ⟨4, some 9, some (7, true), .l (.load 3 false 1), [.t 8]⟩,
    ⟨5, some 10, some (7, true), .p (.un .not), [.t 9]⟩,
    ⟨6, some 11, none, .p .pick, [.t 7, .t 10, .c (.bool false)]⟩,
    ⟨7, some 12, none, .p .mov, [.t 11]⟩,
    ⟨8, some 13, some (12, false), .p (.faddr 0), [.t 3]⟩,
    ⟨9, some 14, some (12, false), .l (.load 3 false 1), [.t 13]⟩,
    ⟨10, some 15, some (12, false), .p (.un .not), [.t 14]⟩,
    ⟨11, some 16, some (12, false), .p .mov, [.t 15]⟩,
    ⟨12, some 17, some (16, true), .p (.faddr 1), [.t 2]⟩,
    ⟨13, some 18, some (16, true), .l (.load 2 false 1), [.t 17]⟩,
    ⟨14, some 19, some (16, true), .p (.faddr 1), [.t 3]⟩,
    ⟨15, some 20, some (16, true), .l (.load 3 false 1), [.t 19]⟩,
    ⟨16, some 21, some (16, true), .p (.bin .lss), [.t 18, .t 20]⟩,
    ⟨17, some 22, some (12, false), .p .pick, [.t 16, .t 21, .c (.bool false)]⟩,
    ⟨18, some 23, none, .p .pick, [.t 12, .c (.bool true), .t 22]⟩,
    ⟨19, some 4, none, .p .mov, [.t 23]⟩])
   (.ret)),
  [.tmp 4]⟩
/- (*loop.example/g00641/spec.l1Cur).small -/
def g143 : GL.Fn := ⟨.seq (.reg 0 [⟨0, some 2, none, .l (.alloc 2 [.bool false, .int .i64 0]), []⟩])
   (.seq (.seq (.reg 0 [⟨0, some 3, none, .p .mov, [.t 0]⟩,
    ⟨1, some 4, none, .e .call [] [], [.f 92, .t 3, .c (.int .i64 5)]⟩])
   (.cond (.t 4) (.seq (.reg 0 [⟨0, some 5, none, .p (.build [.bool false, .int .i64 0] [(0, 1)]), [.c (.bool true)]⟩,
    ⟨1, none, none, .l (.store 2 2), [.t 2, .t 5]⟩])
   (.ret))
   (.skip)))
   (.seq (.reg 0 [⟨0, some 6, none, .p .mov, [.t 0]⟩,
    ⟨1, some 7, none, .e .call [] [], [.f 91, .t 6, .c (.int .i64 4)]⟩,
    ⟨2, some 8, none, .p (.build [.bool false, .int .i64 0] [(1, 1)]), [.t 7]⟩,
    ⟨3, none, none, .l (.store 2 2), [.t 2, .t 8]⟩])
   (.ret))),
  [.cellL 2 2 true 2]⟩
/- loop.example/g00641/impl.truth -/
def g141 : GL.Fn := ⟨.seq (.reg 0 [⟨0, some 2, none, .p .mov, [.c (.int .i64 0)]⟩])
   (.seq (.seq (.reg 0 [⟨0, some 3, none, .p .mov, [.t 0]⟩])
   (.cond (.t 3) (.seq (.reg 0 [⟨0, some 2, none, .p .mov, [.c (.int .i64 2)]⟩])
   (.ret))
   (.skip)))
   (.seq (.reg 0 [⟨0, some 2, none, .p .mov, [.c (.int .i64 0)]⟩])
   (.ret))),
  [.tmp 2]⟩
/- loop.example/g00641/spec.l1Is -/
def g142 : GL.Fn := ⟨.seq (.reg 0 [⟨0, some 2, none, .p .mov, [.c (.int .i64 0)]⟩])
   (.seq (.seq (.reg 0 [⟨0, some 3, none, .p .mov, [.t 0]⟩])
   (.cond (.t 3) (.seq (.reg 0 [⟨0, some 2, none, .p .mov, [.c (.int .i64 2)]⟩])
   (.ret))
   (.skip)))
   (.seq (.reg 0 [⟨0, some 2, none, .p .mov, [.c (.int .i64 0)]⟩])
   (.ret))),
  [.tmp 2]⟩
/- loop.example/g00641/spec.l2Own -/
def g116_0 : GL.Code := .seq (.reg 0 [⟨0, some 9, none, .p (.bin .lss), [.t 8, .t 7]⟩])
   (.seq (.cond (.t 9) (.skip)
   (.exit 0))
   (.seq (.block 1 (.seq (.reg 0 [⟨0, some 10, none, .p (.idx 2), [.t 6, .t 8]⟩,
    ⟨1, some 11, none, .r (.load true 2) false, [.t 10]⟩,
    ⟨2, some 5, none, .l (.alloc 5 [.int .i64 0, .nils]), []⟩,
    ⟨3, none, none, .l (.store 5 2), [.t 5, .t 11]⟩])
   (.reg 0 [⟨0, some 12, none, .p .mov, [.t 3]⟩,
    ⟨1, some 13, none, .l (.load 5 true 2), [.t 5]⟩,
    ⟨2, some 14, none, .e .call [] [], [.f 130, .t 13]⟩,
    ⟨3, some 15, none, .e (.new (.lit 2)) [] [], [.t 14]⟩,
    ⟨4, some 16, none, .e (.append 2 32) [] [], [.t 12, .t 15]⟩,
    ⟨5, some 3, none, .p .mov, [.t 16]⟩])))
   (.reg 0 [⟨0, some 17, none, .p (.bin .add), [.t 8, .c (.int .i64 1)]⟩,
    ⟨1, some 8, none, .p .mov, [.t 17]⟩])))
def g116 : GL.Fn := ⟨.seq (.reg 0 [⟨0, some 2, none, .p .mov, [.c (.nils)]⟩])
   (.seq (.reg 0 [⟨0, some 3, none, .p .mov, [.c (.nils)]⟩])
   (.seq (.seq (.reg 0 [⟨0, some 6, none, .p .mov, [.t 0]⟩,
    ⟨1, some 7, none, .p .len, [.t 6]⟩,
    ⟨2, some 8, none, .p .mov, [.c (.int .i64 0)]⟩])
   (.block 0 (.loop g116_0)))
   (.seq (.reg 0 [⟨0, some 18, none, .p .mov, [.t 3]⟩,
    ⟨1, some 2, none, .p .mov, [.t 18]⟩])
   (.ret)))),
  [.tmp 2]⟩
/- cmp.isNaN[int] -/
def g160 : GL.Fn := ⟨.seq (.reg 0 [⟨0, some 2, none, .p .mov, [.c (.bool false)]⟩])
   (.seq (.reg 0 [⟨0, some 3, none, .p .mov, [.t 0]⟩,
    ⟨1, some 4, none, .p .mov, [.t 0]⟩,
    ⟨2, some 5, none, .p (.bin .neq), [.t 3, .t 4]⟩,
    ⟨3, some 2, none, .p .mov, [.t 5]⟩])
   (.ret)),
  [.tmp 2]⟩
end GL
